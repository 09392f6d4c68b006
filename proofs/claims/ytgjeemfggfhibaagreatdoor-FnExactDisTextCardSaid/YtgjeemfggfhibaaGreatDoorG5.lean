/- The tokens of terms: the reference's and the program's. -/
import Derived.Test.YtgjeemfggfhibaaGreatDoorDA
import Derived.Test.YtgjeemfggfhibaaGreatDoorTA
import Derived.Test.YtgjeemfggfhibaaGreatDoorFwE
namespace Go.Proofs.YtgjeemfggfhibaaGreatDoorFw
open Go Go.RowKit
set_option linter.unusedVariables false
set_option linter.unusedSimpArgs false
set_option maxRecDepth 4000
set_option pp.deepTerms.threshold 6
set_option pp.deepTerms false
theorem noBoLapp (a b : List AV) : noBoL (a ++ b) = (noBoL a && noBoL b) := by
  induction a with
  | nil => simp [noBoL]
  | cons x r ih => simp only [List.cons_append, noBoL, ih, Bool.and_assoc]
theorem exprA_un (m : Md) (e : ExprV) : exprA m e = .agg [.int .i64 e.1, .int .i64 e.2, .str e.3, .row m 4 (exprsA m e.4)] := by cases e; exact exprA_mk _ _ _ _ _
mutual
def ExprV.good : ExprV → Prop
  | .mk k n s l => ((1 ≤ k ∧ k ≤ 3) ∨ (k = 4 ∧ 1 ≤ l.length) ∨ (5 ≤ k ∧ k ≤ 10 ∧ 2 ≤ l.length)) ∧ ExprV.goodL l
def ExprV.goodL : List ExprV → Prop
  | [] => True
  | e :: r => e.good ∧ ExprV.goodL r
end
def signT (k : Int) : Str := if k = 5 then [43] else if k = 6 then [45] else if k = 7 then [42] else if k = 8 then [47] else if k = 9 then [38] else [124]
mutual
def ExprV.toks : ExprV → List TokV
  | .mk k n s l => if k = 1 then [⟨2, n, []⟩] else if k = 2 then [nameT s] else if k = 3 then [markT [46]] else if k = 4 then markT [45] :: (ExprV.toksL l).getD 0 []
    else markT [60] :: (ExprV.toksL l).getD 0 [] ++ [markT (signT k)] ++ (ExprV.toksL l).getD 1 [] ++ [markT [62]]
def ExprV.toksL : List ExprV → List (List TokV)
  | [] => []
  | e :: r => e.toks :: ExprV.toksL r
end
theorem ExprV.toks_len : ∀ e : ExprV, e.good → e.toks.length ≤ 3 * e.tot + 3 := by
  refine ExprV.ind fun k n s l ih => ?_
  intro hg
  rw [ExprV.good] at hg
  have ht : (ExprV.mk k n s l).tot = s.length + (l.length + ExprV.totL l) := rfl
  rw [ExprV.toks]
  split
  · simp
  split
  · simp
  split
  · simp
  split
  · rename_i h1 h2 h3 h4
    match l, hg with
    | [], hg => simp at hg; omega
    | e0 :: r, hg =>
      have := ih e0 (by simp) hg.2.1
      simp only [ExprV.toksL, List.getD_cons_zero, List.length_cons, ExprV.totL] at *
      omega
  · rename_i h1 h2 h3 h4
    match l, hg with
    | [], hg => simp at hg; omega
    | [e0], hg => simp at hg; omega
    | e0 :: e1 :: r, hg =>
      have a0 := ih e0 (by simp) hg.2.1
      have a1 := ih e1 (by simp) hg.2.2.1
      simp only [ExprV.toksL, List.getD_cons_zero, List.getD_cons_succ, List.length_cons, List.length_append, List.length_nil, ExprV.totL] at *
      omega
theorem l10Sign_ok (k : Int) : FnA Tryz.prog 144 false [.int .i64 k] [] (fun r os ros => r = .str (signT k) ∧ os = [] ∧ ros = []) := by
  refine FnA.of Tryz.func144 rfl (by decide) Tryz.ntmps144 (by simp) ?_
  unfold signT
  refine run_ ?_
  repeat' (first
    | exact RetA.mk tabOk 0 rfl rfl rfl (by omega) rfl rfl rfl ⟨by simp_all [res1], rfl, rfl⟩
    | refine RunsA.cond rfl (fun h => ?_) (fun h => ?_)
    | (first | refine RunsA.sq ?_ | refine RunsA.bk ?_ | refine RunsA.sk ?_ | refine RunsA.ex ?_ | refine RunsA.rt ?_ | refine At.n ?_ | refine At.x ?_ | refine At.r ?_ | refine At.bn ?_ | refine At.br ?_ | refine At.bx ?_ | refine At.by_ rfl ?_ | refine At.kx ?_ | refine At.kr ?_ | refine At.kn ?_ | refine At.er ?_ | refine At.en ?_ | (refine RunsA.rq tabOk fun J hJ => ?_; simp only [go_sem, ↓reduceIte, Nat.reduceAdd, Nat.reduceSub, Nat.reduceMul, Nat.reduceLT, Nat.reduceLeDiff, Nat.reduceEqDiff, Nat.reduceBEq, Int.reduceToNat]; (try simp (disch := omega) only [wrap_id]); (repeat refine ⟨by omega, ?_⟩); refine hJ _ _ (RunsL.nil ?_); clear hJ J) | (refine RunsA.dq mixed tabOk (by kernel_rfl) fun J hJ => ?_; simp only [go_sem, ↓reduceIte, Nat.reduceAdd, Nat.reduceSub, Nat.reduceMul, Nat.reduceLT, Nat.reduceLeDiff, Nat.reduceEqDiff, Nat.reduceBEq, Int.reduceToNat]; (try simp (disch := omega) only [wrap_id]); (repeat refine ⟨by omega, ?_⟩); refine hJ _ _ (QRuns.nil ?_); clear hJ J)))
set_option maxHeartbeats 2000000 in
theorem l10Tokens_ok : ∀ e : ExprV, e.good → e.tot ≤ 1048576 → FnA Tryz.prog 113 false [exprA .bo e] [] (fun r os ros => r = .hd 100 [] ∧ os = [] ∧ ros = [(3, toksA e.toks)]) := by
  refine ExprV.ind fun k n s l ih => ?_
  intro hgd hf
  have hgd2 := hgd
  rw [ExprV.good] at hgd
  have ht : (ExprV.mk k n s l).tot = s.length + (l.length + ExprV.totL l) := rfl
  have hln := ExprV.toks_len _ hgd2
  clear hgd2
  rw [exprA_mk]
  refine FnA.of Tryz.func113 rfl (by decide) Tryz.ntmps113 (by simp) ?_
  by_cases k1 : k = 1
  · subst k1
    repeat (first | refine RunsA.sq ?_ | refine RunsA.bk ?_ | refine RunsA.sk ?_ | refine RunsA.ex ?_ | refine RunsA.rt ?_ | refine At.n ?_ | refine At.x ?_ | refine At.r ?_ | refine At.bn ?_ | refine At.br ?_ | refine At.bx ?_ | refine At.by_ rfl ?_ | refine At.kx ?_ | refine At.kr ?_ | refine At.kn ?_ | refine At.er ?_ | refine At.en ?_ | (refine RunsA.rq tabOk fun J hJ => ?_; simp only [go_sem, ↓reduceIte, Nat.reduceAdd, Nat.reduceSub, Nat.reduceMul, Nat.reduceLT, Nat.reduceLeDiff, Nat.reduceEqDiff, Nat.reduceBEq, Int.reduceToNat, Int.reduceBEq]; (try simp (disch := omega) only [wrap_id]); (repeat refine ⟨by omega, ?_⟩); refine hJ _ _ (RunsL.nil ?_); clear hJ J) | (refine RunsA.dq mixed tabOk (by kernel_rfl) fun J hJ => ?_; simp only [go_sem, ↓reduceIte, Nat.reduceAdd, Nat.reduceSub, Nat.reduceMul, Nat.reduceLT, Nat.reduceLeDiff, Nat.reduceEqDiff, Nat.reduceBEq, Int.reduceToNat, Int.reduceBEq]; (try simp (disch := omega) only [wrap_id]); (repeat refine ⟨by omega, ?_⟩); refine hJ _ _ (QRuns.nil ?_); clear hJ J))
    refine RunsA.cond rfl (fun h => ?_) (fun h => absurd h (by decide))
    refine run_ ?_
    refine RetA.v tabOk rfl ?_
    simp only [go_sem, ↓reduceIte, Nat.reduceAdd, Nat.reduceSub, Nat.reduceMul, Nat.reduceLT, Nat.reduceLeDiff, Nat.reduceEqDiff, Nat.reduceBEq, Int.reduceToNat]
    refine RetV.ren (id := 3072) (id' := 100) (by simp only [go_sem, ↓reduceIte, Nat.reduceAdd, Nat.reduceSub, Nat.reduceMul, Nat.reduceLT, Nat.reduceLeDiff, Nat.reduceEqDiff, Nat.reduceBEq, Int.reduceToNat]; rfl) ?_
    simp only [go_sem, ↓reduceIte, Nat.reduceAdd, Nat.reduceSub, Nat.reduceMul, Nat.reduceLT, Nat.reduceLeDiff, Nat.reduceEqDiff, Nat.reduceBEq, Int.reduceToNat]
    exact RetV.mk 1 rfl rfl (by omega) rfl rfl rfl ⟨rfl, rfl, by simp [ExprV.toks, toksA, tokA]⟩
  have b1 : (k == 1) = false := by simpa using k1
  refine run1_ @b1 ?_
  refine RunsA.cond rfl (fun h => absurd h (by decide)) (fun h => ?_)
  by_cases k2 : k = 2
  · subst k2
    repeat (first | refine RunsA.sq ?_ | refine RunsA.bk ?_ | refine RunsA.sk ?_ | refine RunsA.ex ?_ | refine RunsA.rt ?_ | refine At.n ?_ | refine At.x ?_ | refine At.r ?_ | refine At.bn ?_ | refine At.br ?_ | refine At.bx ?_ | refine At.by_ rfl ?_ | refine At.kx ?_ | refine At.kr ?_ | refine At.kn ?_ | refine At.er ?_ | refine At.en ?_ | (refine RunsA.rq tabOk fun J hJ => ?_; simp only [go_sem, ↓reduceIte, Nat.reduceAdd, Nat.reduceSub, Nat.reduceMul, Nat.reduceLT, Nat.reduceLeDiff, Nat.reduceEqDiff, Nat.reduceBEq, Int.reduceToNat, Int.reduceBEq]; (try simp (disch := omega) only [wrap_id]); (repeat refine ⟨by omega, ?_⟩); refine hJ _ _ (RunsL.nil ?_); clear hJ J) | (refine RunsA.dq mixed tabOk (by kernel_rfl) fun J hJ => ?_; simp only [go_sem, ↓reduceIte, Nat.reduceAdd, Nat.reduceSub, Nat.reduceMul, Nat.reduceLT, Nat.reduceLeDiff, Nat.reduceEqDiff, Nat.reduceBEq, Int.reduceToNat, Int.reduceBEq]; (try simp (disch := omega) only [wrap_id]); (repeat refine ⟨by omega, ?_⟩); refine hJ _ _ (QRuns.nil ?_); clear hJ J))
    refine RunsA.cond rfl (fun h => ?_) (fun h => absurd h (by decide))
    refine run_ ?_
    refine RetA.v tabOk rfl ?_
    simp only [go_sem, ↓reduceIte, Nat.reduceAdd, Nat.reduceSub, Nat.reduceMul, Nat.reduceLT, Nat.reduceLeDiff, Nat.reduceEqDiff, Nat.reduceBEq, Int.reduceToNat]
    refine RetV.ren (id := 4608) (id' := 100) (by simp only [go_sem, ↓reduceIte, Nat.reduceAdd, Nat.reduceSub, Nat.reduceMul, Nat.reduceLT, Nat.reduceLeDiff, Nat.reduceEqDiff, Nat.reduceBEq, Int.reduceToNat]; rfl) ?_
    simp only [go_sem, ↓reduceIte, Nat.reduceAdd, Nat.reduceSub, Nat.reduceMul, Nat.reduceLT, Nat.reduceLeDiff, Nat.reduceEqDiff, Nat.reduceBEq, Int.reduceToNat]
    exact RetV.mk 1 rfl rfl (by omega) rfl rfl rfl ⟨rfl, rfl, by simp [ExprV.toks, toksA, tokA, nameT]⟩
  have b2 : (k == 2) = false := by simpa using k2
  refine run1_ @b2 ?_
  refine RunsA.cond rfl (fun h => absurd h (by decide)) (fun h => ?_)
  by_cases k3 : k = 3
  · subst k3
    repeat (first | refine RunsA.sq ?_ | refine RunsA.bk ?_ | refine RunsA.sk ?_ | refine RunsA.ex ?_ | refine RunsA.rt ?_ | refine At.n ?_ | refine At.x ?_ | refine At.r ?_ | refine At.bn ?_ | refine At.br ?_ | refine At.bx ?_ | refine At.by_ rfl ?_ | refine At.kx ?_ | refine At.kr ?_ | refine At.kn ?_ | refine At.er ?_ | refine At.en ?_ | (refine RunsA.rq tabOk fun J hJ => ?_; simp only [go_sem, ↓reduceIte, Nat.reduceAdd, Nat.reduceSub, Nat.reduceMul, Nat.reduceLT, Nat.reduceLeDiff, Nat.reduceEqDiff, Nat.reduceBEq, Int.reduceToNat, Int.reduceBEq]; (try simp (disch := omega) only [wrap_id]); (repeat refine ⟨by omega, ?_⟩); refine hJ _ _ (RunsL.nil ?_); clear hJ J) | (refine RunsA.dq mixed tabOk (by kernel_rfl) fun J hJ => ?_; simp only [go_sem, ↓reduceIte, Nat.reduceAdd, Nat.reduceSub, Nat.reduceMul, Nat.reduceLT, Nat.reduceLeDiff, Nat.reduceEqDiff, Nat.reduceBEq, Int.reduceToNat, Int.reduceBEq]; (try simp (disch := omega) only [wrap_id]); (repeat refine ⟨by omega, ?_⟩); refine hJ _ _ (QRuns.nil ?_); clear hJ J))
    refine RunsA.cond rfl (fun h => ?_) (fun h => absurd h (by decide))
    refine run_ ?_
    refine RunsA.rq tabOk fun J hJ => ?_
    simp only [go_sem, ↓reduceIte, Nat.reduceAdd, Nat.reduceSub, Nat.reduceMul, Nat.reduceLT, Nat.reduceLeDiff, Nat.reduceEqDiff, Nat.reduceBEq, Int.reduceToNat]
    try simp (disch := omega) only [wrap_id]
    refine hJ _ _ (RunsL.call (ps := []) (rid := 16) rfl rfl rfl rfl rfl (by simp only [go_sem, Nat.reduceEqDiff]; first | done | rfl) (l10Mark_ok [46]) rfl (by decide) ⟨by decide, by decide, rfl⟩ (by first | exact .inl rfl | exact .inr (.inl rfl) | exact .inr (.inr rfl)) ?_); clear hJ J
    rintro r os' ros ⟨rfl, rfl, rfl⟩ _
    refine RunsL.go tabOk fun J hJ => ?_
    simp only [go_sem, ↓reduceIte, Nat.reduceAdd, Nat.reduceSub, Nat.reduceMul, Nat.reduceLT, Nat.reduceLeDiff, Nat.reduceEqDiff, Nat.reduceBEq, Int.reduceToNat]
    try simp (disch := omega) only [wrap_id]
    refine hJ _ _ (RunsL.nil ?_); clear hJ J
    refine run_ ?_
    refine RetA.v tabOk rfl ?_
    simp only [go_sem, ↓reduceIte, Nat.reduceAdd, Nat.reduceSub, Nat.reduceMul, Nat.reduceLT, Nat.reduceLeDiff, Nat.reduceEqDiff, Nat.reduceBEq, Int.reduceToNat]
    refine RetV.ren (id := 5632) (id' := 100) (by simp only [go_sem, ↓reduceIte, Nat.reduceAdd, Nat.reduceSub, Nat.reduceMul, Nat.reduceLT, Nat.reduceLeDiff, Nat.reduceEqDiff, Nat.reduceBEq, Int.reduceToNat]; rfl) ?_
    simp only [go_sem, ↓reduceIte, Nat.reduceAdd, Nat.reduceSub, Nat.reduceMul, Nat.reduceLT, Nat.reduceLeDiff, Nat.reduceEqDiff, Nat.reduceBEq, Int.reduceToNat]
    exact RetV.mk 1 rfl rfl (by omega) rfl rfl rfl ⟨rfl, rfl, by simp [ExprV.toks, toksA, tokA, markT]⟩
  have b3 : (k == 3) = false := by simpa using k3
  refine run1_ @b3 ?_
  refine RunsA.cond rfl (fun h => absurd h (by decide)) (fun h => ?_)
  by_cases k4 : k = 4
  · subst k4
    obtain ⟨e0, r0, rfl⟩ : ∃ e r, l = e :: r := by
      cases l with
      | nil => simp at hgd
      | cons e r => exact ⟨e, r, rfl⟩
    have hE : (ExprV.mk 4 n s (e0 :: r0)).toks = markT [45] :: e0.toks := by simp [ExprV.toks, ExprV.toksL]
    have g0 := hgd.2.1
    have t0 : e0.tot ≤ 1048576 := by have := ExprV.totL_mem (l := e0 :: r0) (e := e0) (by simp); omega
    have l0 := ExprV.toks_len e0 g0
    have H0 := ih e0 (by simp) g0 t0
    rw [hE]
    generalize e0.toks = A at *
    have hx0 : (exprsA .bo (e0 :: r0))[0]? = some (.agg [.int .i64 e0.1, .int .i64 e0.2, .str e0.3, .row .bo 4 (exprsA .bo e0.4)]) := by rw [← exprA_un]; rfl
    rw [exprA_un] at H0
    generalize exprsA .bo (e0 :: r0) = RW at *
    repeat (first | refine RunsA.sq ?_ | refine RunsA.bk ?_ | refine RunsA.sk ?_ | refine RunsA.ex ?_ | refine RunsA.rt ?_ | refine At.n ?_ | refine At.x ?_ | refine At.r ?_ | refine At.bn ?_ | refine At.br ?_ | refine At.bx ?_ | refine At.by_ rfl ?_ | refine At.kx ?_ | refine At.kr ?_ | refine At.kn ?_ | refine At.er ?_ | refine At.en ?_ | (refine RunsA.rq tabOk fun J hJ => ?_; simp only [go_sem, ↓reduceIte, Nat.reduceAdd, Nat.reduceSub, Nat.reduceMul, Nat.reduceLT, Nat.reduceLeDiff, Nat.reduceEqDiff, Nat.reduceBEq, Int.reduceToNat, Int.reduceBEq]; (try simp (disch := omega) only [wrap_id]); (repeat refine ⟨by omega, ?_⟩); refine hJ _ _ (RunsL.nil ?_); clear hJ J) | (refine RunsA.dq mixed tabOk (by kernel_rfl) fun J hJ => ?_; simp only [go_sem, ↓reduceIte, Nat.reduceAdd, Nat.reduceSub, Nat.reduceMul, Nat.reduceLT, Nat.reduceLeDiff, Nat.reduceEqDiff, Nat.reduceBEq, Int.reduceToNat, Int.reduceBEq]; (try simp (disch := omega) only [wrap_id]); (repeat refine ⟨by omega, ?_⟩); refine hJ _ _ (QRuns.nil ?_); clear hJ J))
    refine RunsA.cond rfl (fun h => ?_) (fun h => absurd h (by decide))
    refine RunsA.sq ?_
    refine RunsA.dag (Ω := Unit) mixed () [(1, [(0, 0)]), (4, [(0, 2)]), (3, [(1, 1)]), (5, [(1, 2), (4, 0)]), (12, [(4, 3)]), (7, [(3, 2), (5, 1)]), (13, [(5, 3), (12, 0)]), (28, [(12, 4)]), (15, [(7, 3), (13, 1)]), (29, [(13, 4), (28, 0)]), (60, [(28, 5)]), (31, [(15, 4), (29, 1)]), (61, [(29, 5), (60, 0)]), (63, [(31, 5), (61, 1)]), (125, [(61, 6)]), (127, [(63, 6), (125, 1)]), (255, [(127, 7)]), (511, [(255, 8)])] (by kernel_rfl) ?_
    repeat
      (apply DagP.step
       · repeat
           (apply EdgesP.cons rfl rfl
            · intro ω
              refine RunsL.go tabOk fun J hJ => ?_
              simp only [go_sem, ↓reduceIte, Nat.reduceAdd, Nat.reduceSub, Nat.reduceMul, Nat.reduceLT, Nat.reduceLeDiff, Nat.reduceEqDiff, Nat.reduceBEq, Int.reduceToNat, hx0, toksA_len, brw_exprs, brwL, brw, List.length_cons, List.length_nil, List.length_append]
              try simp (disch := omega) only [wrap_id]
              (repeat refine ⟨by omega, ?_⟩)
              first
                | (refine hJ _ _ (RunsL.nil ?_); clear hJ J; first | exact ⟨ω, LeS.refl _⟩ | exact ⟨ω, LeS.of rfl (by simp only [SubS, lookS, Nat.reduceEqDiff, ↓reduceIte, and_self]) (by simp only [SubO, lookO, Nat.reduceEqDiff, ↓reduceIte, and_self]) rfl⟩)
                | (refine hJ _ _ (RunsL.call (ps := []) (rid := 16) rfl rfl rfl rfl rfl (by simp only [go_sem, Nat.reduceEqDiff, hx0, toksA_len, brw_exprs, brwL, brw, List.length_cons, List.length_nil, List.length_append]; first | done | rfl) (l10Mark_ok [45]) rfl (by decide) ⟨by decide, by decide, rfl⟩ (by first | exact .inl rfl | exact .inr (.inl rfl) | exact .inr (.inr rfl)) ?_); clear hJ J
                   rintro r os' ros ⟨rfl, rfl, rfl⟩ _
                   refine RunsL.go tabOk fun J hJ => ?_
                   simp only [go_sem, ↓reduceIte, Nat.reduceAdd, Nat.reduceSub, Nat.reduceMul, Nat.reduceLT, Nat.reduceLeDiff, Nat.reduceEqDiff, Nat.reduceBEq, Int.reduceToNat, hx0, toksA_len, brw_exprs, brwL, brw, List.length_cons, List.length_nil, List.length_append]
                   try simp (disch := omega) only [wrap_id]
                   (repeat refine ⟨by omega, ?_⟩)
                   refine hJ _ _ (RunsL.nil ?_)
                   clear hJ J
                   first | exact ⟨ω, LeS.refl _⟩ | exact ⟨ω, LeS.of rfl (by simp only [SubS, lookS, Nat.reduceEqDiff, ↓reduceIte, and_self]) (by simp only [SubO, lookO, Nat.reduceEqDiff, ↓reduceIte, and_self]) rfl⟩)
                | (refine hJ _ _ (RunsL.call (ps := []) (rid := 7936) rfl rfl rfl rfl rfl (by simp only [go_sem, Nat.reduceEqDiff, hx0, toksA_len, brw_exprs, brwL, brw, List.length_cons, List.length_nil, List.length_append]; first | done | rfl) (H0) rfl (by decide) ⟨by decide, by decide, rfl⟩ (by first | exact .inl rfl | exact .inr (.inl rfl) | exact .inr (.inr rfl)) ?_); clear hJ J
                   rintro r os' ros ⟨rfl, rfl, rfl⟩ _
                   refine RunsL.go tabOk fun J hJ => ?_
                   simp only [go_sem, ↓reduceIte, Nat.reduceAdd, Nat.reduceSub, Nat.reduceMul, Nat.reduceLT, Nat.reduceLeDiff, Nat.reduceEqDiff, Nat.reduceBEq, Int.reduceToNat, hx0, toksA_len, brw_exprs, brwL, brw, List.length_cons, List.length_nil, List.length_append]
                   try simp (disch := omega) only [wrap_id]
                   (repeat refine ⟨by omega, ?_⟩)
                   refine hJ _ _ (RunsL.nil ?_)
                   clear hJ J
                   first | exact ⟨ω, LeS.refl _⟩ | exact ⟨ω, LeS.of rfl (by simp only [SubS, lookS, Nat.reduceEqDiff, ↓reduceIte, and_self]) (by simp only [SubO, lookO, Nat.reduceEqDiff, ↓reduceIte, and_self]) rfl⟩))
         exact EdgesP.nil)
    refine DagP.done fun ω => ?_
    refine run_ ?_
    refine RetA.v tabOk rfl ?_
    simp only [go_sem, ↓reduceIte, Nat.reduceAdd, Nat.reduceSub, Nat.reduceMul, Nat.reduceLT, Nat.reduceLeDiff, Nat.reduceEqDiff, Nat.reduceBEq, Int.reduceToNat]
    refine RetV.ren (id := 6656) (id' := 100) (by simp only [go_sem, ↓reduceIte, Nat.reduceAdd, Nat.reduceSub, Nat.reduceMul, Nat.reduceLT, Nat.reduceLeDiff, Nat.reduceEqDiff, Nat.reduceBEq, Int.reduceToNat]; rfl) ?_
    simp only [go_sem, ↓reduceIte, Nat.reduceAdd, Nat.reduceSub, Nat.reduceMul, Nat.reduceLT, Nat.reduceLeDiff, Nat.reduceEqDiff, Nat.reduceBEq, Int.reduceToNat]
    exact RetV.mk 1 rfl rfl (by omega) rfl (by simp [noBoO, noBoL, noBo, noBo_toks]) rfl ⟨rfl, rfl, by simp [toksA, tokA, markT]⟩
  have b4 : (k == 4) = false := by simpa using k4
  obtain ⟨e0, e1, r0, rfl⟩ : ∃ e e1 r, l = e :: e1 :: r := by
    match l, hgd with
    | [], hgd => exfalso; simp at hgd; omega
    | [_], hgd => exfalso; simp at hgd; omega
    | e :: e1 :: r, _ => exact ⟨e, e1, r, rfl⟩
  have hE : (ExprV.mk k n s (e0 :: e1 :: r0)).toks = markT [60] :: e0.toks ++ [markT (signT k)] ++ e1.toks ++ [markT [62]] := by simp [ExprV.toks, ExprV.toksL, k1, k2, k3, k4]
  have g0 := hgd.2.1
  have g1 := hgd.2.2.1
  have t0 : e0.tot ≤ 1048576 := by have := ExprV.totL_mem (l := e0 :: e1 :: r0) (e := e0) (by simp); omega
  have t1 : e1.tot ≤ 1048576 := by have := ExprV.totL_mem (l := e0 :: e1 :: r0) (e := e1) (by simp); omega
  have l0 := ExprV.toks_len e0 g0
  have l1 := ExprV.toks_len e1 g1
  have H0 := ih e0 (by simp) g0 t0
  have H1 := ih e1 (by simp) g1 t1
  have hSg := l10Sign_ok k
  rw [hE]
  generalize e0.toks = A at *
  generalize e1.toks = B at *
  generalize signT k = sg at *
  have hx0 : (exprsA .bo (e0 :: e1 :: r0))[0]? = some (.agg [.int .i64 e0.1, .int .i64 e0.2, .str e0.3, .row .bo 4 (exprsA .bo e0.4)]) := by rw [← exprA_un]; rfl
  have hx1 : (exprsA .bo (e0 :: e1 :: r0))[1]? = some (.agg [.int .i64 e1.1, .int .i64 e1.2, .str e1.3, .row .bo 4 (exprsA .bo e1.4)]) := by rw [← exprA_un]; rfl
  rw [exprA_un] at H0 H1
  generalize exprsA .bo (e0 :: e1 :: r0) = RW at *
  refine run1_ @b4 ?_
  refine RunsA.cond rfl (fun h => absurd h (by decide)) (fun h => ?_)
  refine run_ ?_
  refine RunsA.dag (Ω := Unit) mixed () [(1, [(0, 0)]), (4, [(0, 2)]), (3, [(1, 1)]), (5, [(1, 2), (4, 0)]), (12, [(4, 3)]), (7, [(3, 2), (5, 1)]), (13, [(5, 3), (12, 0)]), (28, [(12, 4)]), (15, [(7, 3), (13, 1)]), (29, [(13, 4), (28, 0)]), (60, [(28, 5)]), (31, [(15, 4), (29, 1)]), (61, [(29, 5), (60, 0)]), (63, [(31, 5), (61, 1)]), (125, [(61, 6)]), (127, [(63, 6), (125, 1)]), (255, [(127, 7)]), (511, [(255, 8)])] (by kernel_rfl) ?_
  repeat
    (apply DagP.step
     · repeat
         (apply EdgesP.cons rfl rfl
          · intro ω
            refine RunsL.go tabOk fun J hJ => ?_
            simp only [go_sem, ↓reduceIte, Nat.reduceAdd, Nat.reduceSub, Nat.reduceMul, Nat.reduceLT, Nat.reduceLeDiff, Nat.reduceEqDiff, Nat.reduceBEq, Int.reduceToNat, hx0, toksA_len, brw_exprs, List.length_cons, List.length_nil, List.length_append]
            try simp (disch := omega) only [wrap_id]
            (repeat refine ⟨by omega, ?_⟩)
            first
              | (refine hJ _ _ (RunsL.nil ?_); clear hJ J; first | exact ⟨ω, LeS.refl _⟩ | exact ⟨ω, LeS.of rfl (by simp only [SubS, lookS, Nat.reduceEqDiff, ↓reduceIte, and_self]) (by simp only [SubO, lookO, Nat.reduceEqDiff, ↓reduceIte, and_self]) rfl⟩)
              | (refine hJ _ _ (RunsL.call (ps := []) (rid := 16) rfl rfl rfl rfl rfl (by simp only [go_sem, Nat.reduceEqDiff, hx0, toksA_len, brw_exprs, List.length_cons, List.length_nil, List.length_append]; first | done | rfl) (l10Mark_ok [60]) rfl (by decide) ⟨by decide, by decide, rfl⟩ (by first | exact .inl rfl | exact .inr (.inl rfl) | exact .inr (.inr rfl)) ?_); clear hJ J
                 rintro r os' ros ⟨rfl, rfl, rfl⟩ _
                 refine RunsL.go tabOk fun J hJ => ?_
                 simp only [go_sem, ↓reduceIte, Nat.reduceAdd, Nat.reduceSub, Nat.reduceMul, Nat.reduceLT, Nat.reduceLeDiff, Nat.reduceEqDiff, Nat.reduceBEq, Int.reduceToNat, hx0, toksA_len, brw_exprs, List.length_cons, List.length_nil, List.length_append]
                 try simp (disch := omega) only [wrap_id]
                 (repeat refine ⟨by omega, ?_⟩)
                 refine hJ _ _ (RunsL.nil ?_)
                 clear hJ J
                 first | exact ⟨ω, LeS.refl _⟩ | exact ⟨ω, LeS.of rfl (by simp only [SubS, lookS, Nat.reduceEqDiff, ↓reduceIte, and_self]) (by simp only [SubO, lookO, Nat.reduceEqDiff, ↓reduceIte, and_self]) rfl⟩)
              | (refine hJ _ _ (RunsL.call (ps := []) (rid := 9984) rfl rfl rfl rfl rfl (by simp only [go_sem, Nat.reduceEqDiff, hx0, toksA_len, brw_exprs, List.length_cons, List.length_nil, List.length_append]; first | done | rfl) (H0) rfl (by decide) ⟨by decide, by decide, rfl⟩ (by first | exact .inl rfl | exact .inr (.inl rfl) | exact .inr (.inr rfl)) ?_); clear hJ J
                 rintro r os' ros ⟨rfl, rfl, rfl⟩ _
                 refine RunsL.go tabOk fun J hJ => ?_
                 simp only [go_sem, ↓reduceIte, Nat.reduceAdd, Nat.reduceSub, Nat.reduceMul, Nat.reduceLT, Nat.reduceLeDiff, Nat.reduceEqDiff, Nat.reduceBEq, Int.reduceToNat, hx0, toksA_len, brw_exprs, List.length_cons, List.length_nil, List.length_append]
                 try simp (disch := omega) only [wrap_id]
                 (repeat refine ⟨by omega, ?_⟩)
                 refine hJ _ _ (RunsL.nil ?_)
                 clear hJ J
                 first | exact ⟨ω, LeS.refl _⟩ | exact ⟨ω, LeS.of rfl (by simp only [SubS, lookS, Nat.reduceEqDiff, ↓reduceIte, and_self]) (by simp only [SubO, lookO, Nat.reduceEqDiff, ↓reduceIte, and_self]) rfl⟩))
       exact EdgesP.nil)
  refine DagP.done fun ω => ?_
  refine run_ ?_
  refine RunsA.dag (Ω := Unit) mixed () [(1, [(0, 0)]), (2, [(0, 1)]), (128, [(0, 7)]), (3, [(1, 1), (2, 0)]), (129, [(1, 7), (128, 0)]), (6, [(2, 2)]), (130, [(2, 7), (128, 1)]), (384, [(128, 8)]), (7, [(3, 2), (6, 0)]), (131, [(3, 7), (129, 1), (130, 0)]), (385, [(129, 8), (384, 0)]), (14, [(6, 3)]), (134, [(6, 7), (130, 2)]), (386, [(130, 8), (384, 1)]), (896, [(384, 9)]), (15, [(7, 3), (14, 0)]), (135, [(7, 7), (131, 2), (134, 0)]), (387, [(131, 8), (385, 1), (386, 0)]), (897, [(385, 9), (896, 0)]), (30, [(14, 4)]), (142, [(14, 7), (134, 3)]), (390, [(134, 8), (386, 2)]), (898, [(386, 9), (896, 1)]), (1920, [(896, 10)]), (31, [(15, 4), (30, 0)]), (143, [(15, 7), (135, 3), (142, 0)]), (391, [(135, 8), (387, 2), (390, 0)]), (899, [(387, 9), (897, 1), (898, 0)]), (1921, [(897, 10), (1920, 0)]), (62, [(30, 5)]), (158, [(30, 7), (142, 4)]), (398, [(142, 8), (390, 3)]), (902, [(390, 9), (898, 2)]), (1922, [(898, 10), (1920, 1)]), (63, [(31, 5), (62, 0)]), (159, [(31, 7), (143, 4), (158, 0)]), (399, [(143, 8), (391, 3), (398, 0)]), (903, [(391, 9), (899, 2), (902, 0)]), (1923, [(899, 10), (1921, 1), (1922, 0)]), (190, [(62, 7), (158, 5)]), (414, [(158, 8), (398, 4)]), (910, [(398, 9), (902, 3)]), (1926, [(902, 10), (1922, 2)]), (127, [(63, 6)]), (191, [(63, 7), (159, 5), (190, 0)]), (415, [(159, 8), (399, 4), (414, 0)]), (911, [(399, 9), (903, 3), (910, 0)]), (1927, [(903, 10), (1923, 2), (1926, 0)]), (446, [(190, 8), (414, 5)]), (926, [(414, 9), (910, 4)]), (1934, [(910, 10), (1926, 3)]), (255, [(127, 7), (191, 6)]), (447, [(191, 8), (415, 5), (446, 0)]), (927, [(415, 9), (911, 4), (926, 0)]), (1935, [(911, 10), (1927, 3), (1934, 0)]), (958, [(446, 9), (926, 5)]), (1950, [(926, 10), (1934, 4)]), (511, [(255, 8), (447, 6)]), (959, [(447, 9), (927, 5), (958, 0)]), (1951, [(927, 10), (1935, 4), (1950, 0)]), (1982, [(958, 10), (1950, 5)]), (1023, [(511, 9), (959, 6)]), (1983, [(959, 10), (1951, 5), (1982, 0)]), (2047, [(1023, 10), (1983, 6)]), (4095, [(2047, 11)]), (8191, [(4095, 12)]), (16383, [(8191, 13)])] (by kernel_rfl) ?_
  repeat
    (apply DagP.step
     · repeat
         (apply EdgesP.cons rfl rfl
          · intro ω
            refine RunsL.go tabOk fun J hJ => ?_
            simp only [go_sem, ↓reduceIte, Nat.reduceAdd, Nat.reduceSub, Nat.reduceMul, Nat.reduceLT, Nat.reduceLeDiff, Nat.reduceEqDiff, Nat.reduceBEq, Int.reduceToNat, hx1, toksA_len, brw_exprs, List.length_cons, List.length_nil, List.length_append]
            try simp (disch := omega) only [wrap_id]
            (repeat refine ⟨by omega, ?_⟩)
            first
              | (refine hJ _ _ (RunsL.nil ?_); clear hJ J; first | exact ⟨ω, LeS.refl _⟩ | exact ⟨ω, LeS.of rfl (by simp only [SubS, lookS, Nat.reduceEqDiff, ↓reduceIte, and_self]) (by simp only [SubO, lookO, Nat.reduceEqDiff, ↓reduceIte, and_self]) rfl⟩)
              | (refine hJ _ _ (RunsL.call (ps := []) (rid := 16) rfl rfl rfl rfl rfl (by simp only [go_sem, Nat.reduceEqDiff, hx1, toksA_len, brw_exprs, List.length_cons, List.length_nil, List.length_append]; first | done | rfl) (hSg) rfl (by decide) ⟨by decide, by decide, rfl⟩ (by first | exact .inl rfl | exact .inr (.inl rfl) | exact .inr (.inr rfl)) ?_); clear hJ J
                 rintro r os' ros ⟨rfl, rfl, rfl⟩ _
                 refine RunsL.go tabOk fun J hJ => ?_
                 simp only [go_sem, ↓reduceIte, Nat.reduceAdd, Nat.reduceSub, Nat.reduceMul, Nat.reduceLT, Nat.reduceLeDiff, Nat.reduceEqDiff, Nat.reduceBEq, Int.reduceToNat, hx1, toksA_len, brw_exprs, List.length_cons, List.length_nil, List.length_append]
                 try simp (disch := omega) only [wrap_id]
                 (repeat refine ⟨by omega, ?_⟩)
                 refine hJ _ _ (RunsL.nil ?_)
                 clear hJ J
                 first | exact ⟨ω, LeS.refl _⟩ | exact ⟨ω, LeS.of rfl (by simp only [SubS, lookS, Nat.reduceEqDiff, ↓reduceIte, and_self]) (by simp only [SubO, lookO, Nat.reduceEqDiff, ↓reduceIte, and_self]) rfl⟩)
              | (refine hJ _ _ (RunsL.call (ps := []) (rid := 16) rfl rfl rfl rfl rfl (by simp only [go_sem, Nat.reduceEqDiff, hx1, toksA_len, brw_exprs, List.length_cons, List.length_nil, List.length_append]; first | done | rfl) (l10Mark_ok sg) rfl (by decide) ⟨by decide, by decide, rfl⟩ (by first | exact .inl rfl | exact .inr (.inl rfl) | exact .inr (.inr rfl)) ?_); clear hJ J
                 rintro r os' ros ⟨rfl, rfl, rfl⟩ _
                 refine RunsL.go tabOk fun J hJ => ?_
                 simp only [go_sem, ↓reduceIte, Nat.reduceAdd, Nat.reduceSub, Nat.reduceMul, Nat.reduceLT, Nat.reduceLeDiff, Nat.reduceEqDiff, Nat.reduceBEq, Int.reduceToNat, hx1, toksA_len, brw_exprs, List.length_cons, List.length_nil, List.length_append]
                 try simp (disch := omega) only [wrap_id]
                 (repeat refine ⟨by omega, ?_⟩)
                 refine hJ _ _ (RunsL.nil ?_)
                 clear hJ J
                 first | exact ⟨ω, LeS.refl _⟩ | exact ⟨ω, LeS.of rfl (by simp only [SubS, lookS, Nat.reduceEqDiff, ↓reduceIte, and_self]) (by simp only [SubO, lookO, Nat.reduceEqDiff, ↓reduceIte, and_self]) rfl⟩)
              | (refine hJ _ _ (RunsL.call (ps := []) (rid := 13312) rfl rfl rfl rfl rfl (by simp only [go_sem, Nat.reduceEqDiff, hx1, toksA_len, brw_exprs, List.length_cons, List.length_nil, List.length_append]; first | done | rfl) (H1) rfl (by decide) ⟨by decide, by decide, rfl⟩ (by first | exact .inl rfl | exact .inr (.inl rfl) | exact .inr (.inr rfl)) ?_); clear hJ J
                 rintro r os' ros ⟨rfl, rfl, rfl⟩ _
                 refine RunsL.go tabOk fun J hJ => ?_
                 simp only [go_sem, ↓reduceIte, Nat.reduceAdd, Nat.reduceSub, Nat.reduceMul, Nat.reduceLT, Nat.reduceLeDiff, Nat.reduceEqDiff, Nat.reduceBEq, Int.reduceToNat, hx1, toksA_len, brw_exprs, List.length_cons, List.length_nil, List.length_append]
                 try simp (disch := omega) only [wrap_id]
                 (repeat refine ⟨by omega, ?_⟩)
                 refine hJ _ _ (RunsL.nil ?_)
                 clear hJ J
                 first | exact ⟨ω, LeS.refl _⟩ | exact ⟨ω, LeS.of rfl (by simp only [SubS, lookS, Nat.reduceEqDiff, ↓reduceIte, and_self]) (by simp only [SubO, lookO, Nat.reduceEqDiff, ↓reduceIte, and_self]) rfl⟩))
       exact EdgesP.nil)
  refine DagP.done fun ω => ?_
  refine run_ ?_
  refine RunsA.rq tabOk fun J hJ => ?_
  simp only [go_sem, ↓reduceIte, Nat.reduceAdd, Nat.reduceSub, Nat.reduceMul, Nat.reduceLT, Nat.reduceLeDiff, Nat.reduceEqDiff, Nat.reduceBEq, Int.reduceToNat, toksA_len, List.length_cons, List.length_nil, List.length_append]
  try simp (disch := omega) only [wrap_id]
  refine hJ _ _ (RunsL.call (ps := []) (rid := 16) rfl rfl rfl rfl rfl (by simp only [go_sem, Nat.reduceEqDiff]; first | done | rfl) (l10Mark_ok [62]) rfl (by decide) ⟨by decide, by decide, rfl⟩ (by first | exact .inl rfl | exact .inr (.inl rfl) | exact .inr (.inr rfl)) ?_); clear hJ J
  rintro r os' ros ⟨rfl, rfl, rfl⟩ _
  refine RunsL.go tabOk fun J hJ => ?_
  simp only [go_sem, ↓reduceIte, Nat.reduceAdd, Nat.reduceSub, Nat.reduceMul, Nat.reduceLT, Nat.reduceLeDiff, Nat.reduceEqDiff, Nat.reduceBEq, Int.reduceToNat, toksA_len, List.length_cons, List.length_nil, List.length_append]
  try simp (disch := omega) only [wrap_id]
  (repeat refine ⟨by omega, ?_⟩)
  refine hJ _ _ (RunsL.nil ?_); clear hJ J
  refine run_ ?_
  refine RetA.v tabOk rfl ?_
  simp only [go_sem, ↓reduceIte, Nat.reduceAdd, Nat.reduceSub, Nat.reduceMul, Nat.reduceLT, Nat.reduceLeDiff, Nat.reduceEqDiff, Nat.reduceBEq, Int.reduceToNat]
  refine RetV.ren (id := 8704) (id' := 100) (by simp only [go_sem, ↓reduceIte, Nat.reduceAdd, Nat.reduceSub, Nat.reduceMul, Nat.reduceLT, Nat.reduceLeDiff, Nat.reduceEqDiff, Nat.reduceBEq, Int.reduceToNat]; rfl) ?_
  simp only [go_sem, ↓reduceIte, Nat.reduceAdd, Nat.reduceSub, Nat.reduceMul, Nat.reduceLT, Nat.reduceLeDiff, Nat.reduceEqDiff, Nat.reduceBEq, Int.reduceToNat]
  exact RetV.mk 1 rfl rfl (by omega) rfl (by simp [noBoO, noBoL, noBo, noBo_toks, noBoLapp]) rfl ⟨rfl, rfl, by simp [toksA, tokA, markT]⟩
end Go.Proofs.YtgjeemfggfhibaaGreatDoorFw
