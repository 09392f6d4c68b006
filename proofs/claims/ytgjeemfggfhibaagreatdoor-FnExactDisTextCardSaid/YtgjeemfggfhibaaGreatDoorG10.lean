/- Operands of lines that are right: the reference's and the program's. -/
import Derived.Test.YtgjeemfggfhibaaGreatDoorG9
namespace Go.Proofs.YtgjeemfggfhibaaGreatDoorFw
open Go Go.RowKit
set_option linter.unusedVariables false
set_option linter.unusedSimpArgs false
set_option maxRecDepth 4000
set_option pp.deepTerms.threshold 6
set_option pp.deepTerms false
def ZeroE (k n : Int) (s : Str) (c : Nat) : Prop := k = 0 ∧ n = 0 ∧ s = [] ∧ c = 0
instance (k n : Int) (s : Str) (c : Nat) : Decidable (ZeroE k n s c) := by unfold ZeroE; infer_instance
def ArgP (f r : Int) (z p : Prop) : Prop := (0 ≤ f ∧ f ≤ 5 ∧ 0 ≤ r ∧ r ≤ 7 ∧ z) ∨ (6 ≤ f ∧ f ≤ 7 ∧ 0 ≤ r ∧ r ≤ 7 ∧ p) ∨ (8 ≤ f ∧ f ≤ 11 ∧ r = 0 ∧ p)
open Classical in
noncomputable instance (f r : Int) (z p : Prop) : Decidable (ArgP f r z p) := inferInstance
theorem zeroS_ok (k n : Int) (s : Str) (l : List ExprV) : FnA Tryz.prog 142 false [.agg [.int .i64 k, .int .i64 n, .str s, .row .bo 4 (exprsA .bo l)]] [] (fun r os ros => r = .bool (decide (ZeroE k n s l.length)) ∧ os = [] ∧ ros = []) := by
  have hel := exprsA_len .bo l
  generalize exprsA .bo l = RW at *
  generalize l.length = c at *
  refine FnA.of Tryz.func142 rfl (by decide) Tryz.ntmps142 (by simp) ?_
  by_cases h1 : k = 0
  · have b1 : (k == 0) = true := by simp [h1]
    by_cases h2 : n = 0
    · have b2 : (n == 0) = true := by simp [h2]
      by_cases h3 : s = []
      · have b3 : (s == []) = true := by simp [h3]
        repeat (first | refine RunsA.sq ?_ | refine RunsA.bk ?_ | refine RunsA.sk ?_ | refine RunsA.ex ?_ | refine RunsA.rt ?_ | refine At.n ?_ | refine At.x ?_ | refine At.r ?_ | refine At.bn ?_ | refine At.br ?_ | refine At.bx ?_ | refine At.by_ rfl ?_ | refine At.kx ?_ | refine At.kr ?_ | refine At.kn ?_ | refine At.er ?_ | refine At.en ?_ | (refine RunsA.rq tabOk fun J hJ => ?_; simp only [go_sem, ↓reduceIte, Nat.reduceAdd, Nat.reduceSub, Nat.reduceMul, Nat.reduceLT, Nat.reduceLeDiff, Nat.reduceEqDiff, Nat.reduceBEq, Int.reduceToNat, b1, b2, b3, hel]; (try simp (disch := omega) only [wrap_id]); (repeat refine ⟨by omega, ?_⟩); refine hJ _ _ (RunsL.nil ?_); clear hJ J) | (refine RunsA.dq mixed tabOk (by kernel_rfl) fun J hJ => ?_; simp only [go_sem, ↓reduceIte, Nat.reduceAdd, Nat.reduceSub, Nat.reduceMul, Nat.reduceLT, Nat.reduceLeDiff, Nat.reduceEqDiff, Nat.reduceBEq, Int.reduceToNat, b1, b2, b3, hel]; (try simp (disch := omega) only [wrap_id]); (repeat refine ⟨by omega, ?_⟩); refine hJ _ _ (QRuns.nil ?_); clear hJ J))
        exact RetA.mk tabOk 0 rfl rfl rfl (by omega) rfl rfl rfl ⟨by simp [res1, ZeroE, h1, h2, h3]; first | rfl | done | (rw [Bool.eq_iff_iff]; simp), rfl, rfl⟩
      · have b3 : (s == []) = false := by simpa using h3
        refine run3_ @b1 @b2 @b3 ?_
        exact RetA.mk tabOk 0 rfl rfl rfl (by omega) rfl rfl rfl ⟨by simp [res1, ZeroE, h3], rfl, rfl⟩
    · have b2 : (n == 0) = false := by simpa using h2
      refine run2_ @b1 @b2 ?_
      exact RetA.mk tabOk 0 rfl rfl rfl (by omega) rfl rfl rfl ⟨by simp [res1, ZeroE, h2], rfl, rfl⟩
  · have b1 : (k == 0) = false := by simpa using h1
    refine run1_ @b1 ?_
    exact RetA.mk tabOk 0 rfl rfl rfl (by omega) rfl rfl rfl ⟨by simp [res1, ZeroE, h1], rfl, rfl⟩
theorem zeroI_ok (k n : Int) (s : Str) (l : List ExprV) : FnA Tryz.prog 151 false [.agg [.int .i64 k, .int .i64 n, .str s, .row .bo 4 (exprsA .bo l)]] [] (fun r os ros => r = .bool (decide (ZeroE k n s l.length)) ∧ os = [] ∧ ros = []) := by
  have hel := exprsA_len .bo l
  generalize exprsA .bo l = RW at *
  generalize l.length = c at *
  refine FnA.of Tryz.func151 rfl (by decide) Tryz.ntmps151 (by simp) ?_
  by_cases h1 : k = 0
  · have b1 : (k == 0) = true := by simp [h1]
    by_cases h2 : n = 0
    · have b2 : (n == 0) = true := by simp [h2]
      by_cases h3 : s = []
      · have b3 : (s == []) = true := by simp [h3]
        repeat (first | refine RunsA.sq ?_ | refine RunsA.bk ?_ | refine RunsA.sk ?_ | refine RunsA.ex ?_ | refine RunsA.rt ?_ | refine At.n ?_ | refine At.x ?_ | refine At.r ?_ | refine At.bn ?_ | refine At.br ?_ | refine At.bx ?_ | refine At.by_ rfl ?_ | refine At.kx ?_ | refine At.kr ?_ | refine At.kn ?_ | refine At.er ?_ | refine At.en ?_ | (refine RunsA.rq tabOk fun J hJ => ?_; simp only [go_sem, ↓reduceIte, Nat.reduceAdd, Nat.reduceSub, Nat.reduceMul, Nat.reduceLT, Nat.reduceLeDiff, Nat.reduceEqDiff, Nat.reduceBEq, Int.reduceToNat, b1, b2, b3, hel]; (try simp (disch := omega) only [wrap_id]); (repeat refine ⟨by omega, ?_⟩); refine hJ _ _ (RunsL.nil ?_); clear hJ J) | (refine RunsA.dq mixed tabOk (by kernel_rfl) fun J hJ => ?_; simp only [go_sem, ↓reduceIte, Nat.reduceAdd, Nat.reduceSub, Nat.reduceMul, Nat.reduceLT, Nat.reduceLeDiff, Nat.reduceEqDiff, Nat.reduceBEq, Int.reduceToNat, b1, b2, b3, hel]; (try simp (disch := omega) only [wrap_id]); (repeat refine ⟨by omega, ?_⟩); refine hJ _ _ (QRuns.nil ?_); clear hJ J))
        exact RetA.mk tabOk 0 rfl rfl rfl (by omega) rfl rfl rfl ⟨by simp [res1, ZeroE, h1, h2, h3]; first | rfl | done | (rw [Bool.eq_iff_iff]; simp), rfl, rfl⟩
      · have b3 : (s == []) = false := by simpa using h3
        refine run3_ @b1 @b2 @b3 ?_
        exact RetA.mk tabOk 0 rfl rfl rfl (by omega) rfl rfl rfl ⟨by simp [res1, ZeroE, h3], rfl, rfl⟩
    · have b2 : (n == 0) = false := by simpa using h2
      refine run2_ @b1 @b2 ?_
      exact RetA.mk tabOk 0 rfl rfl rfl (by omega) rfl rfl rfl ⟨by simp [res1, ZeroE, h2], rfl, rfl⟩
  · have b1 : (k == 0) = false := by simpa using h1
    refine run1_ @b1 ?_
    exact RetA.mk tabOk 0 rfl rfl rfl (by omega) rfl rfl rfl ⟨by simp [res1, ZeroE, h1], rfl, rfl⟩
set_option maxHeartbeats 2000000 in
theorem argS_ok (f r k n : Int) (s : Str) (l : List ExprV) (hf : (ExprV.mk k n s l).tot ≤ 1048576) :
    FnA Tryz.prog 141 false [.agg [.int .i64 f, .int .i64 r, .int .i64 k, .int .i64 n, .str s, .row .bo 4 (exprsA .bo l)]] [] (fun res os ros => res = .bool (decide (ArgP f r (ZeroE k n s l.length) (TermP 6 true (.mk k n s l)))) ∧ os = [] ∧ ros = []) := by
  have hZ := zeroS_ok k n s l
  have hP := plainS_ok (.mk k n s l) hf
  rw [exprA_mk] at hP
  generalize exprsA .bo l = RW at *
  refine FnA.of Tryz.func141 rfl (by decide) Tryz.ntmps141 (by simp) ?_
  repeat' (first | refine ⟨by omega, ?_⟩ | (refine hJ _ _ (RunsL.nil ?_); clear hJ J) | refine RunsA.cond rfl (fun h => ?_) (fun h => absurd h (by decide)) | refine RunsA.cond rfl (fun h => absurd h (by decide)) (fun h => ?_) | refine RunsA.cond rfl (fun h => ?_) (fun h => ?_) | (refine step_ ?_) | (refine RunsA.rk 3 [] tabOk fun J hJ => ?_; simp only [go_sem, ↓reduceIte, Nat.reduceAdd, Nat.reduceSub, Nat.reduceMul, Nat.reduceLT, Nat.reduceLeDiff, Nat.reduceEqDiff, Nat.reduceBEq, Int.reduceToNat]; try simp (disch := omega) only [wrap_id]) | (refine hJ _ _ (RunsL.call (ps := []) (rid := 16) rfl rfl rfl rfl rfl (by simp only [go_sem, Nat.reduceEqDiff]; first | done | rfl) (l1In_ok _ _ _) rfl (by decide) ⟨by decide, by decide, rfl⟩ (by first | exact .inl rfl | exact .inr (.inl rfl) | exact .inr (.inr rfl)) ?_); clear hJ J; rintro r os' ros ⟨rfl, rfl, rfl⟩ _; refine RunsL.go tabOk fun J hJ => ?_; simp only [go_sem, ↓reduceIte, Nat.reduceAdd, Nat.reduceSub, Nat.reduceMul, Nat.reduceLT, Nat.reduceLeDiff, Nat.reduceEqDiff, Nat.reduceBEq, Int.reduceToNat]; try simp (disch := omega) only [wrap_id]) | (refine hJ _ _ (RunsL.call (ps := []) (rid := 16) rfl rfl rfl rfl rfl (by simp only [go_sem, Nat.reduceEqDiff]; first | done | rfl) (hZ) rfl (by decide) ⟨by decide, by decide, rfl⟩ (by first | exact .inl rfl | exact .inr (.inl rfl) | exact .inr (.inr rfl)) ?_); clear hJ J; rintro r os' ros ⟨rfl, rfl, rfl⟩ _; refine RunsL.go tabOk fun J hJ => ?_; simp only [go_sem, ↓reduceIte, Nat.reduceAdd, Nat.reduceSub, Nat.reduceMul, Nat.reduceLT, Nat.reduceLeDiff, Nat.reduceEqDiff, Nat.reduceBEq, Int.reduceToNat]; try simp (disch := omega) only [wrap_id]) | (refine hJ _ _ (RunsL.call (ps := []) (rid := 16) rfl rfl rfl rfl rfl (by simp only [go_sem, Nat.reduceEqDiff]; first | done | rfl) (hP) rfl (by decide) ⟨by decide, by decide, rfl⟩ (by first | exact .inl rfl | exact .inr (.inl rfl) | exact .inr (.inr rfl)) ?_); clear hJ J; rintro r os' ros ⟨rfl, rfl, rfl⟩ _; refine RunsL.go tabOk fun J hJ => ?_; simp only [go_sem, ↓reduceIte, Nat.reduceAdd, Nat.reduceSub, Nat.reduceMul, Nat.reduceLT, Nat.reduceLeDiff, Nat.reduceEqDiff, Nat.reduceBEq, Int.reduceToNat]; try simp (disch := omega) only [wrap_id]) | split)
  all_goals (
    refine RetA.mk tabOk 0 rfl rfl rfl (by omega) rfl rfl rfl ?_
    refine ⟨?_, rfl, rfl⟩
    simp only [res1, AV.bool.injEq]
    (try simp only [beq_iff_eq, bne_iff_ne, beq_eq_false_iff_ne, bne_eq_false_iff_eq, ne_eq, decide_eq_true_eq, decide_eq_false_iff_not, Bool.not_eq_true, Bool.not_eq_false, Bool.not_eq_true', Bool.not_eq_false', not_true_eq_false, not_false_eq_true] at *)
    all_goals (first | apply decide_eq_decide.mpr | (symm; rw [decide_eq_true_iff]) | (symm; rw [decide_eq_false_iff_not]) | (rw [Bool.eq_iff_iff]; simp only [decide_eq_true_eq, beq_iff_eq, Bool.not_eq_true', decide_eq_false_iff_not]))
    obtain ⟨a1, e1⟩ := asNum (ZeroE k n s l.length)
    obtain ⟨a2, e2⟩ := asNum (TermP 6 true (.mk k n s l))
    simp only [ArgP, e1, e2] at *
    omega)
set_option maxHeartbeats 2000000 in
theorem argI_ok (f r k n : Int) (s : Str) (l : List ExprV) (hf : (ExprV.mk k n s l).tot ≤ 1048576) :
    FnA Tryz.prog 149 false [.agg [.int .i64 f, .int .i64 r, .int .i64 k, .int .i64 n, .str s, .row .bo 4 (exprsA .bo l)]] [] (fun res os ros => res = .bool (decide (ArgP f r (ZeroE k n s l.length) (TermP 6 true (.mk k n s l)))) ∧ os = [] ∧ ros = []) := by
  have hZ := zeroI_ok k n s l
  have hP := plainI_ok (.mk k n s l) hf
  rw [exprA_mk] at hP
  generalize exprsA .bo l = RW at *
  refine FnA.of Tryz.func149 rfl (by decide) Tryz.ntmps149 (by simp) ?_
  repeat' (first | refine ⟨by omega, ?_⟩ | (refine hJ _ _ (RunsL.nil ?_); clear hJ J) | refine RunsA.cond rfl (fun h => ?_) (fun h => absurd h (by decide)) | refine RunsA.cond rfl (fun h => absurd h (by decide)) (fun h => ?_) | refine RunsA.cond rfl (fun h => ?_) (fun h => ?_) | (refine step_ ?_) | (refine RunsA.rk 3 [] tabOk fun J hJ => ?_; simp only [go_sem, ↓reduceIte, Nat.reduceAdd, Nat.reduceSub, Nat.reduceMul, Nat.reduceLT, Nat.reduceLeDiff, Nat.reduceEqDiff, Nat.reduceBEq, Int.reduceToNat]; try simp (disch := omega) only [wrap_id]) | (refine hJ _ _ (RunsL.call (ps := []) (rid := 16) rfl rfl rfl rfl rfl (by simp only [go_sem, Nat.reduceEqDiff]; first | done | rfl) (within_ok _ _ _) rfl (by decide) ⟨by decide, by decide, rfl⟩ (by first | exact .inl rfl | exact .inr (.inl rfl) | exact .inr (.inr rfl)) ?_); clear hJ J; rintro r os' ros ⟨rfl, rfl, rfl⟩ _; refine RunsL.go tabOk fun J hJ => ?_; simp only [go_sem, ↓reduceIte, Nat.reduceAdd, Nat.reduceSub, Nat.reduceMul, Nat.reduceLT, Nat.reduceLeDiff, Nat.reduceEqDiff, Nat.reduceBEq, Int.reduceToNat]; try simp (disch := omega) only [wrap_id]) | (refine hJ _ _ (RunsL.call (ps := []) (rid := 16) rfl rfl rfl rfl rfl (by simp only [go_sem, Nat.reduceEqDiff]; first | done | rfl) (isReg_ok _) rfl (by decide) ⟨by decide, by decide, rfl⟩ (by first | exact .inl rfl | exact .inr (.inl rfl) | exact .inr (.inr rfl)) ?_); clear hJ J; rintro r os' ros ⟨rfl, rfl, rfl⟩ _; refine RunsL.go tabOk fun J hJ => ?_; simp only [go_sem, ↓reduceIte, Nat.reduceAdd, Nat.reduceSub, Nat.reduceMul, Nat.reduceLT, Nat.reduceLeDiff, Nat.reduceEqDiff, Nat.reduceBEq, Int.reduceToNat]; try simp (disch := omega) only [wrap_id]) | (refine hJ _ _ (RunsL.call (ps := []) (rid := 16) rfl rfl rfl rfl rfl (by simp only [go_sem, Nat.reduceEqDiff]; first | done | rfl) (hZ) rfl (by decide) ⟨by decide, by decide, rfl⟩ (by first | exact .inl rfl | exact .inr (.inl rfl) | exact .inr (.inr rfl)) ?_); clear hJ J; rintro r os' ros ⟨rfl, rfl, rfl⟩ _; refine RunsL.go tabOk fun J hJ => ?_; simp only [go_sem, ↓reduceIte, Nat.reduceAdd, Nat.reduceSub, Nat.reduceMul, Nat.reduceLT, Nat.reduceLeDiff, Nat.reduceEqDiff, Nat.reduceBEq, Int.reduceToNat]; try simp (disch := omega) only [wrap_id]) | (refine hJ _ _ (RunsL.call (ps := []) (rid := 16) rfl rfl rfl rfl rfl (by simp only [go_sem, Nat.reduceEqDiff]; first | done | rfl) (hP) rfl (by decide) ⟨by decide, by decide, rfl⟩ (by first | exact .inl rfl | exact .inr (.inl rfl) | exact .inr (.inr rfl)) ?_); clear hJ J; rintro r os' ros ⟨rfl, rfl, rfl⟩ _; refine RunsL.go tabOk fun J hJ => ?_; simp only [go_sem, ↓reduceIte, Nat.reduceAdd, Nat.reduceSub, Nat.reduceMul, Nat.reduceLT, Nat.reduceLeDiff, Nat.reduceEqDiff, Nat.reduceBEq, Int.reduceToNat]; try simp (disch := omega) only [wrap_id]) | split)
  all_goals (
    refine RetA.mk tabOk 0 rfl rfl rfl (by omega) rfl rfl rfl ?_
    refine ⟨?_, rfl, rfl⟩
    simp only [res1, AV.bool.injEq]
    (try simp only [beq_iff_eq, bne_iff_ne, beq_eq_false_iff_ne, bne_eq_false_iff_eq, ne_eq, decide_eq_true_eq, decide_eq_false_iff_not, Bool.not_eq_true, Bool.not_eq_false, Bool.not_eq_true', Bool.not_eq_false', not_true_eq_false, not_false_eq_true] at *)
    all_goals (first | apply decide_eq_decide.mpr | (symm; rw [decide_eq_true_iff]) | (symm; rw [decide_eq_false_iff_not]) | (rw [Bool.eq_iff_iff]; simp only [decide_eq_true_eq, beq_iff_eq, Bool.not_eq_true', decide_eq_false_iff_not]))
    obtain ⟨a1, e1⟩ := asNum (ZeroE k n s l.length)
    obtain ⟨a2, e2⟩ := asNum (TermP 6 true (.mk k n s l))
    simp only [ArgP, e1, e2] at *
    omega)
end Go.Proofs.YtgjeemfggfhibaaGreatDoorFw
