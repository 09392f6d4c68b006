/- Tokens: rows of them; the tokens of a tree, the reference's. -/
import Derived.Test.YtiilnlihimdnlaaGreatDoorQL
import Derived.Test.YtiilnlihimdnlaaGreatDoorFwD
set_option linter.unusedVariables false
set_option linter.unusedSimpArgs false
set_option maxRecDepth 4000
namespace Go.Proofs.YtiilnlihimdnlaaGreatDoorFw
open Go Go.RowKit
structure TokV where
 k : Int
 n : Int
 s : Str
def tokA (x : TokV) : AV := .agg [.int .i64 x.k, .int .i64 x.n, .str x.s]
def toksA (l : List TokV) : List AV := l.map tokA
theorem toksA_len (l : List TokV) : (toksA l).length = l.length := by simp [toksA]
theorem noBo_toks : ∀ l : List TokV, noBoL (toksA l) = true
 | [] => rfl
 | e :: r => by
  have := noBo_toks r
  simp only [toksA, List.map_cons, noBoL, tokA, noBo, Bool.and_self] at *
  rw [this]; rfl
theorem markTi_ok (s : Str) : FnA Tryz.prog 97 false [.str s] [] (fun r os ros => r = .agg [.int .i64 4, .int .i64 0, .str s] ∧ os = [] ∧ ros = []) := by
 refine FnA.of Tryz.func97 rfl (by decide) Tryz.ntmps97 (by simp) ?_
 refine run_ ?_
 exact RetA.mk tabOk 0 rfl rfl rfl (by omega) rfl rfl rfl ⟨rfl, rfl, rfl⟩
end Go.Proofs.YtiilnlihimdnlaaGreatDoorFw
namespace Go.Proofs.YtiilnlihimdnlaaGreatDoorFw
open Go Go.RowKit
inductive ExprV where
 | mk (k n : Int) (s : Str) (l : List ExprV)
mutual
def exprA (m : Md) : ExprV → AV
 | .mk k n s l => .agg [.int .i64 k, .int .i64 n, .str s, .row m 4 (exprsA m l)]
def exprsA (m : Md) : List ExprV → List AV
 | [] => []
 | e :: r => exprA m e :: exprsA m r
end
theorem exprsA_eq (m : Md) (l : List ExprV) : exprsA m l = l.map (exprA m) := by induction l <;> simp [exprsA, *]
theorem exprsA_len (m : Md) (l : List ExprV) : (exprsA m l).length = l.length := by simp [exprsA_eq]
theorem exprsA_get (m : Md) {l : List ExprV} {i : Nat} (h : i < l.length) : (exprsA m l)[i]? = some (exprA m l[i]) := by simp [exprsA_eq, h]
theorem exprA_mk (m : Md) (k n : Int) (s : Str) (l : List ExprV) : exprA m (.mk k n s l) = .agg [.int .i64 k, .int .i64 n, .str s, .row m 4 (exprsA m l)] := by simp only [exprA]
mutual
theorem brw_expr : ∀ (m : Md) (e : ExprV), brw (exprA m e) = exprA .bo e
 | m, .mk k n s l => by simp only [exprA, brw, brwL, brw_exprs m l]
theorem brw_exprs : ∀ (m : Md) (l : List ExprV), brwL (exprsA m l) = exprsA .bo l
 | m, [] => rfl
 | m, e :: r => by simp only [exprsA, brwL, brw_expr m e, brw_exprs m r]
end
mutual
theorem noBo_expr : ∀ (e : ExprV), noBo (exprA .own e) = true
 | .mk k n s l => by simp only [exprA, noBo, noBoL, noBo_exprs l, Bool.and_self]
theorem noBo_exprs : ∀ (l : List ExprV), noBoL (exprsA .own l) = true
 | [] => rfl
 | e :: r => by simp only [exprsA, noBoL, noBo_expr e, noBo_exprs r, Bool.and_self]
end
mutual
def ExprV.tot : ExprV → Nat
 | .mk k n s l => s.length + (l.length + ExprV.totL l)
def ExprV.totL : List ExprV → Nat
 | [] => 0
 | e :: r => e.tot + ExprV.totL r
end
theorem ExprV.totL_mem : ∀ {l : List ExprV} {e : ExprV}, e ∈ l → e.tot ≤ ExprV.totL l
 | x :: r, s, h => by
  simp only [ExprV.totL]
  rcases List.mem_cons.1 h with e | e
  ·subst e; omega
  ·have := ExprV.totL_mem e; omega
theorem ExprV.ind {P : ExprV → Prop} (h : ∀ k n s l, (∀ e ∈ l, P e) → P (.mk k n s l)) : ∀ e, P e := by
 have key : ∀ (n : Nat) (s : ExprV), SizeOf.sizeOf s < n → P s := by
  intro n
  induction n with
  | zero => intro s hs; omega
  | succ n ih =>
   intro s hs
   cases s with
   | mk k a b l =>
    refine h k a b l fun e he => ih e ?_
    have h1 := List.sizeOf_lt_of_mem he
    simp only [ExprV.mk.sizeOf_spec] at hs
    omega
 exact fun s => key (SizeOf.sizeOf s + 1) s (by omega)
theorem ExprV.indL {P : List ExprV → Prop} (h : ∀ l, (∀ k n s l', ExprV.mk k n s l' ∈ l → P l') → P l) : ∀ l, P l := by
 have key : ∀ (n : Nat) (l : List ExprV), SizeOf.sizeOf l < n → P l := by
  intro n
  induction n with
  | zero => intro s hs; omega
  | succ n ih =>
   intro l hs
   refine h l fun k a s l' hk => ih l' ?_
   have h1 := List.sizeOf_lt_of_mem hk
   simp only [ExprV.mk.sizeOf_spec] at h1
   omega
 exact fun l => key (SizeOf.sizeOf l + 1) l (by omega)
open Classical in
noncomputable instance : DecidableEq ExprV := fun a b => inferInstance
theorem eqExprS_of (l l' : List ExprV) (hl : l.length ≤ 140737488355328)
 (H : ∀ s ∈ l, ∀ s', FnA Tryz.prog 75 false [exprA .bo s, exprA .bo s'] [] (fun r os ros => r = .bool (decide (s = s')) ∧ os = [] ∧ ros = [])) :
 FnA Tryz.prog 38 false [.row .bo 4 (exprsA .bo l), .row .bo 4 (exprsA .bo l')] [] (fun r os ros => r = .bool (decide (l = l')) ∧ os = [] ∧ ros = []) := by
 refine FnA.of Tryz.func38 rfl (by decide) Tryz.ntmps38 (by simp) ?_
 refine run1_ @exprsA_len ?_
 refine RunsA.cond rfl (fun h => ?_) (fun h => ?_)
 ·refine run_ ?_
  have : l ≠ l' := by rintro rfl; simp at h
  exact RetA.mk tabOk 0 rfl rfl rfl (by omega) rfl rfl rfl ⟨by simp [res1, this], rfl, rfl⟩
 ·have hll : l.length = l'.length := by simp at h; omega
  refine run_ ?_
  refine RunsA.loop ?_
  refine (LoopA.ind (fun i : Nat => ⟨27, [(0, .row .bo 4 (exprsA .bo l)), (1, .row .bo 4 (exprsA .bo l')), (5, .int .i64 i)], [], false⟩) (fun i => l.length - i) (fun i => i ≤ l.length ∧ l.take i = l'.take i) ?_ 0 ?_).sub rfl ?_ trivial rfl
  ·rintro i ⟨hi, ht⟩ K3 hK3
   refine run1_ @exprsA_len ?_
   refine RunsA.cond rfl (fun h2 => ?_) (fun h2 => ?_)
   ·simp only [decide_eq_true_eq] at h2
    have hilt : i < l.length := by omega
    have hilt' : i < l'.length := by omega
    have e1 := take_snoc hilt
    have e2 := take_snoc hilt'
    have HH := H l[i] (List.getElem_mem hilt) l'[i]
    have hg := exprsA_get .bo hilt
    have hg' := exprsA_get .bo hilt'
    generalize l[i] = s at HH hg e1
    generalize l'[i] = s' at HH hg' e2
    obtain ⟨k, n, ms, ks⟩ := s
    obtain ⟨k', n', ms', ks'⟩ := s'
    rw [exprA_mk, exprA_mk] at HH
    rw [exprA_mk] at hg hg'
    refine run_ ?_
    refine RunsA.dq mixed tabOk (by kernel_rfl) fun J hJ => ?_
    simp only [go_sem, ↓reduceIte, Nat.reduceAdd, Nat.reduceSub, Nat.reduceMul, Nat.reduceLT, Nat.reduceLeDiff, Nat.reduceEqDiff, Nat.reduceBEq, Int.reduceToNat, hg, hg']
    try simp (disch := omega) only [wrap_id]
    (repeat refine ⟨by omega, ?_⟩)
    refine hJ _ _ (QRuns.call (y := .bool (decide (ExprV.mk k n ms ks = ExprV.mk k' n' ms' ks'))) rfl rfl rfl rfl (by simp only [go_sem, Nat.reduceEqDiff]) (HH) rfl (fun r os' ros h => ⟨by exact h.1, h.2.2⟩) rfl ?_); clear hJ J
    refine QRuns.go tabOk fun J hJ => ?_
    simp only [go_sem, ↓reduceIte, Nat.reduceAdd, Nat.reduceSub, Nat.reduceMul, Nat.reduceLT, Nat.reduceLeDiff, Nat.reduceEqDiff, Nat.reduceBEq, Int.reduceToNat]
    try simp (disch := omega) only [wrap_id]
    refine hJ _ _ (QRuns.nil ?_); clear hJ J
    refine run_ ?_
    refine RunsA.cond rfl (fun h3 => ?_) (fun h3 => ?_)
    ·refine run_ ?_
     have h4 : ExprV.mk k n ms ks ≠ ExprV.mk k' n' ms' ks' := by intro e; rw [e] at h3; simp at h3
     have : l ≠ l' := by
      rintro rfl
      rw [e1] at e2
      exact h4 (by simpa using e2)
     exact RetA.mk tabOk 0 rfl rfl rfl (by omega) rfl rfl rfl ⟨by simp [res1, this], rfl, rfl⟩
    ·refine run_ ?_
     have h4 : ExprV.mk k n ms ks = ExprV.mk k' n' ms' ks' := by simpa using h3
     exact hK3 (i + 1) _ ⟨by omega, by rw [e1, e2, ht, h4]⟩ (by omega) rfl (by simp [SubS, lookS]) (by simp [SubO, lookO]) rfl
   ·refine run_ ?_
    have : l = l' := by
     simp only [decide_eq_false_iff_not] at h2
     rw [List.take_of_length_le (by omega), List.take_of_length_le (by omega)] at ht
     exact ht
    exact RetA.mk tabOk 0 rfl rfl rfl (by omega) rfl rfl rfl ⟨by simp [res1, this], rfl, rfl⟩
  ·exact ⟨Nat.zero_le _, by simp⟩
  ·simp [SubS, lookS]
theorem eqExpr_ok : ∀ s : ExprV, s.tot ≤ 140737488355328 → ∀ s', FnA Tryz.prog 75 false [exprA .bo s, exprA .bo s'] [] (fun r os ros => r = .bool (decide (s = s')) ∧ os = [] ∧ ros = []) := by
 refine ExprV.ind fun k n s l ih => ?_
 intro hf s'
 obtain ⟨k', n', s', l'⟩ := s'
 rw [ExprV.tot] at hf
 rw [exprA_mk, exprA_mk]
 have hL := eqExprS_of l l' (by omega) (fun e he => ih e he (by have := ExprV.totL_mem he; omega))
 refine FnA.of Tryz.func75 rfl (by decide) Tryz.ntmps75 (by simp) ?_
 repeat' (first | refine ⟨by omega, ?_⟩ | (refine hJ _ _ (RunsL.nil ?_); clear hJ J) | refine RunsA.cond rfl (fun h => ?_) (fun h => absurd h (by decide)) | refine RunsA.cond rfl (fun h => absurd h (by decide)) (fun h => ?_) | refine RunsA.cond rfl (fun h => ?_) (fun h => ?_) | (refine step_ ?_) | (refine RunsA.rq tabOk fun J hJ => ?_; simp only [go_sem, ↓reduceIte, Nat.reduceAdd, Nat.reduceSub, Nat.reduceMul, Nat.reduceLT, Nat.reduceLeDiff, Nat.reduceEqDiff, Nat.reduceBEq, Int.reduceToNat]; try simp (disch := omega) only [wrap_id]) | (refine hJ _ _ (call_ (ps := []) (rid := 16) rfl rfl rfl rfl rfl (hL) ?_); clear hJ J; rintro r os' ros ⟨rfl, rfl, rfl⟩ _; refine RunsL.go tabOk fun J hJ => ?_; simp only [go_sem, ↓reduceIte, Nat.reduceAdd, Nat.reduceSub, Nat.reduceMul, Nat.reduceLT, Nat.reduceLeDiff, Nat.reduceEqDiff, Nat.reduceBEq, Int.reduceToNat]; try simp (disch := omega) only [wrap_id]) | split)
 all_goals (refine RetA.mk tabOk 0 rfl rfl rfl (by omega) rfl rfl rfl ?_)
 all_goals (refine ⟨?_, rfl, rfl⟩)
 all_goals (simp only [res1, AV.bool.injEq, ExprV.mk.injEq] at *)
 all_goals simp_all
theorem eqExprS_ok (l l' : List ExprV) (hl : l.length ≤ 140737488355328) (ht : ExprV.totL l ≤ 140737488355328) :
 FnA Tryz.prog 38 false [.row .bo 4 (exprsA .bo l), .row .bo 4 (exprsA .bo l')] [] (fun r os ros => r = .bool (decide (l = l')) ∧ os = [] ∧ ros = []) :=
 eqExprS_of l l' hl fun s hs => eqExpr_ok s (by have := ExprV.totL_mem hs; omega)
end Go.Proofs.YtiilnlihimdnlaaGreatDoorFw
