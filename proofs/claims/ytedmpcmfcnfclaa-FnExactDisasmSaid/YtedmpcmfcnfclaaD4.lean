/- Operands of lines, and lines: told apart, marked. -/
import Derived.Test.YtedmpcmfcnfclaaD3
namespace Go.Proofs.YtedmpcmfcnfclaaFw
open Go Go.RowKit
set_option linter.unusedVariables false
set_option linter.unusedSimpArgs false
set_option maxRecDepth 4000
set_option pp.deepTerms.threshold 6
set_option pp.deepTerms false

/-- A line: its kind, its name, its op, its two operands (form, register, term), its number, its terms. -/
inductive LineV where
  | mk (k : Int) (s : Str) (op : Int) (sf sr sk sn : Int) (ss : Str) (sl : List ExprV) (df dr dk dn : Int) (ds : Str) (dl : List ExprV) (n : Int) (l : List ExprV)

def lineA (m : Md) : LineV → AV
  | .mk k s op sf sr sk sn ss sl df dr dk dn ds dl n l => .agg [.int .i64 k, .str s, .int .i64 op, .int .i64 sf, .int .i64 sr, .int .i64 sk, .int .i64 sn, .str ss, .row m 4 (exprsA m sl),
      .int .i64 df, .int .i64 dr, .int .i64 dk, .int .i64 dn, .str ds, .row m 4 (exprsA m dl), .int .i64 n, .row m 4 (exprsA m l)]
theorem lineA_mk (m : Md) (k : Int) (s : Str) (op : Int) (sf sr sk sn : Int) (ss : Str) (sl : List ExprV) (df dr dk dn : Int) (ds : Str) (dl : List ExprV) (n : Int) (l : List ExprV) :
    lineA m (.mk k s op sf sr sk sn ss sl df dr dk dn ds dl n l) = .agg [.int .i64 k, .str s, .int .i64 op, .int .i64 sf, .int .i64 sr, .int .i64 sk, .int .i64 sn, .str ss, .row m 4 (exprsA m sl),
      .int .i64 df, .int .i64 dr, .int .i64 dk, .int .i64 dn, .str ds, .row m 4 (exprsA m dl), .int .i64 n, .row m 4 (exprsA m l)] := rfl

def LineV.tot : LineV → Nat
  | .mk k s op sf sr sk sn ss sl df dr dk dn ds dl n l => s.length + ((ExprV.mk sk sn ss sl).tot + ((ExprV.mk dk dn ds dl).tot + (l.length + ExprV.totL l)))

open Classical in
noncomputable instance : DecidableEq LineV := fun a b => inferInstance

theorem brw_line (m : Md) (x : LineV) : brw (lineA m x) = lineA .bo x := by
  obtain ⟨k, s, op, sf, sr, sk, sn, ss, sl, df, dr, dk, dn, ds, dl, n, l⟩ := x
  simp only [lineA, brw, brwL, brw_exprs]
theorem noBo_line (x : LineV) : noBo (lineA .own x) = true := by
  obtain ⟨k, s, op, sf, sr, sk, sn, ss, sl, df, dr, dk, dn, ds, dl, n, l⟩ := x
  simp only [lineA, noBo, noBoL, noBo_exprs, Bool.and_self]

theorem eqArg_ok (f r k n : Int) (s : Str) (l : List ExprV) (f' r' k' n' : Int) (s' : Str) (l' : List ExprV) (ht : (ExprV.mk k n s l).tot ≤ 140737488355328) :
    FnA Try.prog 100 false [.agg [.int .i64 f, .int .i64 r, .int .i64 k, .int .i64 n, .str s, .row .bo 4 (exprsA .bo l)], .agg [.int .i64 f', .int .i64 r', .int .i64 k', .int .i64 n', .str s', .row .bo 4 (exprsA .bo l')]] []
      (fun r0 os ros => r0 = .bool (decide (f = f' ∧ r = r' ∧ ExprV.mk k n s l = ExprV.mk k' n' s' l')) ∧ os = [] ∧ ros = []) := by
  have hE := eqExpr_ok (.mk k n s l) ht (.mk k' n' s' l')
  rw [exprA_mk, exprA_mk] at hE
  refine FnA.of Try.func100 rfl (by decide) Try.ntmps100 (by simp) ?_
  repeat' (first | refine ⟨by omega, ?_⟩ | (refine hJ _ _ (RunsL.nil ?_); clear hJ J) | refine RunsA.cond rfl (fun h => ?_) (fun h => absurd h (by decide)) | refine RunsA.cond rfl (fun h => absurd h (by decide)) (fun h => ?_) | refine RunsA.cond rfl (fun h => ?_) (fun h => ?_) | (first | refine RunsA.sq ?_ | refine RunsA.bk ?_ | refine RunsA.sk ?_ | refine RunsA.ex ?_ | refine RunsA.rt ?_ | refine At.n ?_ | refine At.x ?_ | refine At.r ?_ | refine At.bn ?_ | refine At.br ?_ | refine At.bx ?_ | refine At.by_ rfl ?_ | refine At.kx ?_ | refine At.kr ?_ | refine At.kn ?_ | refine At.er ?_ | refine At.en ?_) | (refine RunsA.rq tabOk fun J hJ => ?_; simp only [go_sem, ↓reduceIte, Nat.reduceAdd, Nat.reduceSub, Nat.reduceMul, Nat.reduceLT, Nat.reduceLeDiff, Nat.reduceEqDiff, Nat.reduceBEq, Int.reduceToNat]; try simp (disch := omega) only [wrap_id]) | (refine hJ _ _ (RunsL.call (ps := []) (rid := 16) rfl rfl rfl rfl rfl (by simp only [go_sem, Nat.reduceEqDiff]; first | done | rfl) (hE) rfl (by decide) ⟨by decide, by decide, rfl⟩ (by first | exact .inl rfl | exact .inr (.inl rfl) | exact .inr (.inr rfl)) ?_); clear hJ J; rintro r os' ros ⟨rfl, rfl, rfl⟩ _; refine RunsL.go tabOk fun J hJ => ?_; simp only [go_sem, ↓reduceIte, Nat.reduceAdd, Nat.reduceSub, Nat.reduceMul, Nat.reduceLT, Nat.reduceLeDiff, Nat.reduceEqDiff, Nat.reduceBEq, Int.reduceToNat]; try simp (disch := omega) only [wrap_id]) | split)
  all_goals (refine RetA.mk tabOk 0 rfl rfl rfl (by omega) rfl rfl rfl ?_)
  all_goals (refine ⟨?_, rfl, rfl⟩)
  all_goals clear hE
  all_goals (simp only [res1, AV.bool.injEq] at *)
  all_goals simp_all
  all_goals (intros; simp_all)

set_option maxHeartbeats 1000000 in
theorem eqLine_ok (x : LineV) (ht : x.tot ≤ 140737488355328) (y : LineV) :
    FnA Try.prog 54 false [lineA .bo x, lineA .bo y] [] (fun r0 os ros => r0 = .bool (decide (x = y)) ∧ os = [] ∧ ros = []) := by
  obtain ⟨k, s, op, sf, sr, sk, sn, ss, sl, df, dr, dk, dn, ds, dl, n, l⟩ := x
  obtain ⟨k', s', op', sf', sr', sk', sn', ss', sl', df', dr', dk', dn', ds', dl', n', l'⟩ := y
  rw [LineV.tot] at ht
  have hS := eqArg_ok sf sr sk sn ss sl sf' sr' sk' sn' ss' sl' (by omega)
  have hD := eqArg_ok df dr dk dn ds dl df' dr' dk' dn' ds' dl' (by omega)
  have hL := eqExprS_ok l l' (by omega) (by omega)
  rw [lineA_mk, lineA_mk]
  refine FnA.of Try.func54 rfl (by decide) Try.ntmps54 (by simp) ?_
  repeat' (first | refine ⟨by omega, ?_⟩ | (refine hJ _ _ (RunsL.nil ?_); clear hJ J) | refine RunsA.cond rfl (fun h => ?_) (fun h => absurd h (by decide)) | refine RunsA.cond rfl (fun h => absurd h (by decide)) (fun h => ?_) | refine RunsA.cond rfl (fun h => ?_) (fun h => ?_) | (first | refine RunsA.sq ?_ | refine RunsA.bk ?_ | refine RunsA.sk ?_ | refine RunsA.ex ?_ | refine RunsA.rt ?_ | refine At.n ?_ | refine At.x ?_ | refine At.r ?_ | refine At.bn ?_ | refine At.br ?_ | refine At.bx ?_ | refine At.by_ rfl ?_ | refine At.kx ?_ | refine At.kr ?_ | refine At.kn ?_ | refine At.er ?_ | refine At.en ?_) | (refine RunsA.rq tabOk fun J hJ => ?_; simp only [go_sem, ↓reduceIte, Nat.reduceAdd, Nat.reduceSub, Nat.reduceMul, Nat.reduceLT, Nat.reduceLeDiff, Nat.reduceEqDiff, Nat.reduceBEq, Int.reduceToNat]; try simp (disch := omega) only [wrap_id]) | (refine hJ _ _ (RunsL.call (ps := []) (rid := 16) rfl rfl rfl rfl rfl (by simp only [go_sem, Nat.reduceEqDiff]; first | done | rfl) (hS) rfl (by decide) ⟨by decide, by decide, rfl⟩ (by first | exact .inl rfl | exact .inr (.inl rfl) | exact .inr (.inr rfl)) ?_); clear hJ J; rintro r os' ros ⟨rfl, rfl, rfl⟩ _; refine RunsL.go tabOk fun J hJ => ?_; simp only [go_sem, ↓reduceIte, Nat.reduceAdd, Nat.reduceSub, Nat.reduceMul, Nat.reduceLT, Nat.reduceLeDiff, Nat.reduceEqDiff, Nat.reduceBEq, Int.reduceToNat]; try simp (disch := omega) only [wrap_id]) | (refine hJ _ _ (RunsL.call (ps := []) (rid := 16) rfl rfl rfl rfl rfl (by simp only [go_sem, Nat.reduceEqDiff]; first | done | rfl) (hD) rfl (by decide) ⟨by decide, by decide, rfl⟩ (by first | exact .inl rfl | exact .inr (.inl rfl) | exact .inr (.inr rfl)) ?_); clear hJ J; rintro r os' ros ⟨rfl, rfl, rfl⟩ _; refine RunsL.go tabOk fun J hJ => ?_; simp only [go_sem, ↓reduceIte, Nat.reduceAdd, Nat.reduceSub, Nat.reduceMul, Nat.reduceLT, Nat.reduceLeDiff, Nat.reduceEqDiff, Nat.reduceBEq, Int.reduceToNat]; try simp (disch := omega) only [wrap_id]) | (refine hJ _ _ (RunsL.call (ps := []) (rid := 16) rfl rfl rfl rfl rfl (by simp only [go_sem, Nat.reduceEqDiff]; first | done | rfl) (hL) rfl (by decide) ⟨by decide, by decide, rfl⟩ (by first | exact .inl rfl | exact .inr (.inl rfl) | exact .inr (.inr rfl)) ?_); clear hJ J; rintro r os' ros ⟨rfl, rfl, rfl⟩ _; refine RunsL.go tabOk fun J hJ => ?_; simp only [go_sem, ↓reduceIte, Nat.reduceAdd, Nat.reduceSub, Nat.reduceMul, Nat.reduceLT, Nat.reduceLeDiff, Nat.reduceEqDiff, Nat.reduceBEq, Int.reduceToNat]; try simp (disch := omega) only [wrap_id]) | split)
  all_goals (refine RetA.mk tabOk 0 rfl rfl rfl (by omega) rfl rfl rfl ?_)
  all_goals (refine ⟨?_, rfl, rfl⟩)
  all_goals clear hS hD hL
  all_goals (simp only [res1, AV.bool.injEq, LineV.mk.injEq, ExprV.mk.injEq] at *)
  all_goals simp_all
  all_goals (intros; simp_all)

end Go.Proofs.YtedmpcmfcnfclaaFw
