/- Terms that are right: the reference's and the program's. -/
import Derived.Test.YtiilnlihimdnlaaGreatDoorQT
import Derived.Test.YtiilnlihimdnlaaGreatDoorQC
import Derived.Test.YtiilnlihimdnlaaGreatDoorQD
namespace Go.Proofs.YtiilnlihimdnlaaGreatDoorFw
open Go Go.RowKit
set_option linter.unusedVariables false
set_option linter.unusedSimpArgs false
set_option maxRecDepth 4000
def HereP (k n : Int) (s : Str) (c : Nat) : Prop :=
 (k = 1 ∧ 0 ≤ n ∧ n ≤ 65535 ∧ s = [] ∧ c = 0) ∨ ((k = 2 ∨ k = 12) ∧ n = 0 ∧ NameP s ∧ c = 0) ∨ (k = 3 ∧ n = 0 ∧ s = [] ∧ c = 0) ∨ (k = 4 ∧ n = 0 ∧ s = [] ∧ c = 1) ∨
 ((5 ≤ k ∧ k ≤ 10) ∧ n = 0 ∧ s = [] ∧ c = 2) ∨ (k = 11 ∧ 0 ≤ n ∧ n ≤ 9 ∧ s = [] ∧ c = 0)
open Classical in
noncomputable instance (k n : Int) (s : Str) (c : Nat) : Decidable (HereP k n s c) := inferInstance
def hereB (k n : Int) (s : Str) (c : Nat) (nm : Bool) : Bool :=
 if ((k != 1 && k != 11) && n != 0) = true then false
 else if ((k != 2 && k != 12) && s != []) = true then false
 else if (k == 1) = true then decide (0 ≤ n ∧ n ≤ 65535) && ((c : Int) == 0)
 else if (k == 2) = true then nm && ((c : Int) == 0)
 else if (k == 12) = true then nm && ((c : Int) == 0)
 else if (k == 3) = true then ((c : Int) == 0)
 else if (k == 4) = true then ((c : Int) == 1)
 else if (k == 5) = true then ((c : Int) == 2)
 else if (k == 6) = true then ((c : Int) == 2)
 else if (k == 7) = true then ((c : Int) == 2)
 else if (k == 8) = true then ((c : Int) == 2)
 else if (k == 9) = true then ((c : Int) == 2)
 else if (k == 10) = true then ((c : Int) == 2)
 else if (k == 11) = true then decide (0 ≤ n ∧ n ≤ 9) && ((c : Int) == 0)
 else false
theorem hereB_eq (k n : Int) (s : Str) (c : Nat) : hereB k n s c (decide (NameP s)) = decide (HereP k n s c) := by
 rcases (by omega : k = 1 ∨ k = 2 ∨ k = 3 ∨ k = 4 ∨ k = 5 ∨ k = 6 ∨ k = 7 ∨ k = 8 ∨ k = 9 ∨ k = 10 ∨ k = 11 ∨ k = 12 ∨ ¬ (1 ≤ k ∧ k ≤ 12)) with h | h | h | h | h | h | h | h | h | h | h | h | h
 all_goals try (subst h; rw [Bool.eq_iff_iff, decide_eq_true_iff]; unfold hereB HereP; by_cases cn : n = 0 <;> by_cases cs : s = [] <;> simp [cn, cs] <;> omega)
 have e : ∀ i : Int, 1 ≤ i → i ≤ 12 → (k == i) = false := fun i h1 h2 => beq_eq_false_iff_ne.2 (by omega)
 have hP : ¬ HereP k n s c := by rintro (h | h | h | h | h | h) <;> omega
 rw [decide_eq_false hP]
 unfold hereB
 simp only [e 1 (by omega) (by omega), e 2 (by omega) (by omega), e 3 (by omega) (by omega), e 4 (by omega) (by omega), e 5 (by omega) (by omega), e 6 (by omega) (by omega), e 7 (by omega) (by omega), e 8 (by omega) (by omega), e 9 (by omega) (by omega), e 10 (by omega) (by omega), e 11 (by omega) (by omega), e 12 (by omega) (by omega)]
 simp
set_option maxHeartbeats 4000000 in
theorem l10Here_ok (k n : Int) (s : Str) (l : List ExprV) (hs : s.length ≤ 140737488355328) :
 FnA Tryz.prog 177 false [.agg [.int .i64 k, .int .i64 n, .str s, .row .bo 4 (exprsA .bo l)]] [] (fun r os ros => r = .bool (decide (HereP k n s l.length)) ∧ os = [] ∧ ros = []) := by
 have hel := exprsA_len .bo l
 have hN := l9Name_ok s hs
 rw [← hereB_eq]
 generalize exprsA .bo l = RW at *
 generalize l.length = c at *
 generalize decide (NameP s) = nm at *
 obtain ⟨R, hR⟩ : ∃ R, hereB k n s c nm = R := ⟨_, rfl⟩
 rw [hR]
 refine FnA.of Tryz.func177 rfl (by decide) Tryz.ntmps177 (by simp) ?_
 refine run1_ @hel ?_
 unfold hereB at hR
 rcases (by omega : k = 1 ∨ k = 2 ∨ k = 3 ∨ k = 4 ∨ (5 ≤ k ∧ k ≤ 10) ∨ k = 11 ∨ k = 12 ∨ ¬ (1 ≤ k ∧ k ≤ 12)) with h | h | h | h | h | h | h | h
 ·subst h
  obtain ⟨bs, hbs⟩ : ∃ b, (s != []) = b := ⟨_, rfl⟩
  simp only [hbs, Int.reduceBEq, Int.reduceBNe, Bool.false_and, Bool.true_and, Bool.and_true, Bool.and_false, Bool.false_eq_true, ↓reduceIte] at hR
  cases bs <;> simp only [Bool.false_eq_true, ↓reduceIte] at hR
  all_goals (
   repeat' (first | refine ⟨by omega, ?_⟩ | (refine hJ _ _ (RunsL.nil ?_); clear hJ J) | refine RunsA.cond rfl (fun h => ?_) (fun h => absurd h (by decide)) | refine RunsA.cond rfl (fun h => absurd h (by decide)) (fun h => ?_) | refine RunsA.cond rfl (fun h => ?_) (fun h => ?_) | (refine step_ ?_) | (refine RunsA.rk 4 [36] tabOk fun J hJ => ?_; simp only [go_sem, ↓reduceIte, Nat.reduceAdd, Nat.reduceSub, Nat.reduceMul, Nat.reduceLT, Nat.reduceLeDiff, Nat.reduceEqDiff, Nat.reduceBEq, Int.reduceToNat, hbs, Int.reduceBEq, Int.reduceBNe, Bool.false_and, Bool.true_and, Bool.and_true, Bool.and_false, Bool.false_eq_true, ↓reduceIte]; try simp (disch := omega) only [wrap_id]) | (refine hJ _ _ (call_ (ps := []) (rid := 16) rfl rfl rfl rfl rfl (l1In_ok _ _ _) ?_); clear hJ J; rintro r os' ros ⟨rfl, rfl, rfl⟩ _; refine RunsL.go tabOk fun J hJ => ?_; simp only [go_sem, ↓reduceIte, Nat.reduceAdd, Nat.reduceSub, Nat.reduceMul, Nat.reduceLT, Nat.reduceLeDiff, Nat.reduceEqDiff, Nat.reduceBEq, Int.reduceToNat, hbs, Int.reduceBEq, Int.reduceBNe, Bool.false_and, Bool.true_and, Bool.and_true, Bool.and_false, Bool.false_eq_true, ↓reduceIte]; try simp (disch := omega) only [wrap_id]) | (refine hJ _ _ (call_ (ps := []) (rid := 16) rfl rfl rfl rfl rfl (hN) ?_); clear hJ J; rintro r os' ros ⟨rfl, rfl, rfl⟩ _; refine RunsL.go tabOk fun J hJ => ?_; simp only [go_sem, ↓reduceIte, Nat.reduceAdd, Nat.reduceSub, Nat.reduceMul, Nat.reduceLT, Nat.reduceLeDiff, Nat.reduceEqDiff, Nat.reduceBEq, Int.reduceToNat, hbs, Int.reduceBEq, Int.reduceBNe, Bool.false_and, Bool.true_and, Bool.and_true, Bool.and_false, Bool.false_eq_true, ↓reduceIte]; try simp (disch := omega) only [wrap_id]) | simp only [↓reduceIte, not_false_eq_true, hbs, Int.reduceBEq, Int.reduceBNe, Bool.false_and, Bool.true_and, Bool.and_true, Bool.and_false, Bool.false_eq_true, ↓reduceIte] | split))
  all_goals (
   refine RetA.mk tabOk 0 rfl rfl rfl (by omega) rfl rfl rfl ?_
   refine ⟨?_, rfl, rfl⟩
   rw [← hR]
   simp only [res1, AV.bool.injEq]
   (first | rfl | done | (simp_all <;> (first | done | (intros; omega)))))
 ·subst h
  obtain ⟨bn, hbn⟩ : ∃ b, (n != 0) = b := ⟨_, rfl⟩
  simp only [hbn, Int.reduceBEq, Int.reduceBNe, Bool.false_and, Bool.true_and, Bool.and_true, Bool.and_false, Bool.false_eq_true, ↓reduceIte] at hR
  cases bn <;> simp only [Bool.false_eq_true, ↓reduceIte] at hR
  all_goals (
   repeat' (first | refine ⟨by omega, ?_⟩ | (refine hJ _ _ (RunsL.nil ?_); clear hJ J) | refine RunsA.cond rfl (fun h => ?_) (fun h => absurd h (by decide)) | refine RunsA.cond rfl (fun h => absurd h (by decide)) (fun h => ?_) | refine RunsA.cond rfl (fun h => ?_) (fun h => ?_) | (refine step_ ?_) | (refine RunsA.rk 4 [36] tabOk fun J hJ => ?_; simp only [go_sem, ↓reduceIte, Nat.reduceAdd, Nat.reduceSub, Nat.reduceMul, Nat.reduceLT, Nat.reduceLeDiff, Nat.reduceEqDiff, Nat.reduceBEq, Int.reduceToNat, hbn, Int.reduceBEq, Int.reduceBNe, Bool.false_and, Bool.true_and, Bool.and_true, Bool.and_false, Bool.false_eq_true, ↓reduceIte]; try simp (disch := omega) only [wrap_id]) | (refine hJ _ _ (call_ (ps := []) (rid := 16) rfl rfl rfl rfl rfl (l1In_ok _ _ _) ?_); clear hJ J; rintro r os' ros ⟨rfl, rfl, rfl⟩ _; refine RunsL.go tabOk fun J hJ => ?_; simp only [go_sem, ↓reduceIte, Nat.reduceAdd, Nat.reduceSub, Nat.reduceMul, Nat.reduceLT, Nat.reduceLeDiff, Nat.reduceEqDiff, Nat.reduceBEq, Int.reduceToNat, hbn, Int.reduceBEq, Int.reduceBNe, Bool.false_and, Bool.true_and, Bool.and_true, Bool.and_false, Bool.false_eq_true, ↓reduceIte]; try simp (disch := omega) only [wrap_id]) | (refine hJ _ _ (call_ (ps := []) (rid := 16) rfl rfl rfl rfl rfl (hN) ?_); clear hJ J; rintro r os' ros ⟨rfl, rfl, rfl⟩ _; refine RunsL.go tabOk fun J hJ => ?_; simp only [go_sem, ↓reduceIte, Nat.reduceAdd, Nat.reduceSub, Nat.reduceMul, Nat.reduceLT, Nat.reduceLeDiff, Nat.reduceEqDiff, Nat.reduceBEq, Int.reduceToNat, hbn, Int.reduceBEq, Int.reduceBNe, Bool.false_and, Bool.true_and, Bool.and_true, Bool.and_false, Bool.false_eq_true, ↓reduceIte]; try simp (disch := omega) only [wrap_id]) | simp only [↓reduceIte, not_false_eq_true, hbn, Int.reduceBEq, Int.reduceBNe, Bool.false_and, Bool.true_and, Bool.and_true, Bool.and_false, Bool.false_eq_true, ↓reduceIte] | split))
  all_goals (
   refine RetA.mk tabOk 0 rfl rfl rfl (by omega) rfl rfl rfl ?_
   refine ⟨?_, rfl, rfl⟩
   rw [← hR]
   simp only [res1, AV.bool.injEq]
   (first | rfl | done | (simp_all <;> (first | done | (intros; omega)))))
 ·subst h
  obtain ⟨bn, hbn⟩ : ∃ b, (n != 0) = b := ⟨_, rfl⟩
  obtain ⟨bs, hbs⟩ : ∃ b, (s != []) = b := ⟨_, rfl⟩
  simp only [hbn, hbs, Int.reduceBEq, Int.reduceBNe, Bool.false_and, Bool.true_and, Bool.and_true, Bool.and_false, Bool.false_eq_true, ↓reduceIte] at hR
  cases bn <;> cases bs <;> simp only [Bool.false_eq_true, ↓reduceIte] at hR
  all_goals (
   repeat' (first | refine ⟨by omega, ?_⟩ | (refine hJ _ _ (RunsL.nil ?_); clear hJ J) | refine RunsA.cond rfl (fun h => ?_) (fun h => absurd h (by decide)) | refine RunsA.cond rfl (fun h => absurd h (by decide)) (fun h => ?_) | (refine step_ ?_) | (refine RunsA.rk 4 [36] tabOk fun J hJ => ?_; simp only [go_sem, ↓reduceIte, Nat.reduceAdd, Nat.reduceSub, Nat.reduceMul, Nat.reduceLT, Nat.reduceLeDiff, Nat.reduceEqDiff, Nat.reduceBEq, Int.reduceToNat, hbn, hbs, Int.reduceBEq, Int.reduceBNe, Bool.false_and, Bool.true_and, Bool.and_true, Bool.and_false, Bool.false_eq_true, ↓reduceIte]; try simp (disch := omega) only [wrap_id]) | (refine hJ _ _ (call_ (ps := []) (rid := 16) rfl rfl rfl rfl rfl (l1In_ok _ _ _) ?_); clear hJ J; rintro r os' ros ⟨rfl, rfl, rfl⟩ _; refine RunsL.go tabOk fun J hJ => ?_; simp only [go_sem, ↓reduceIte, Nat.reduceAdd, Nat.reduceSub, Nat.reduceMul, Nat.reduceLT, Nat.reduceLeDiff, Nat.reduceEqDiff, Nat.reduceBEq, Int.reduceToNat, hbn, hbs, Int.reduceBEq, Int.reduceBNe, Bool.false_and, Bool.true_and, Bool.and_true, Bool.and_false, Bool.false_eq_true, ↓reduceIte]; try simp (disch := omega) only [wrap_id]) | (refine hJ _ _ (call_ (ps := []) (rid := 16) rfl rfl rfl rfl rfl (hN) ?_); clear hJ J; rintro r os' ros ⟨rfl, rfl, rfl⟩ _; refine RunsL.go tabOk fun J hJ => ?_; simp only [go_sem, ↓reduceIte, Nat.reduceAdd, Nat.reduceSub, Nat.reduceMul, Nat.reduceLT, Nat.reduceLeDiff, Nat.reduceEqDiff, Nat.reduceBEq, Int.reduceToNat, hbn, hbs, Int.reduceBEq, Int.reduceBNe, Bool.false_and, Bool.true_and, Bool.and_true, Bool.and_false, Bool.false_eq_true, ↓reduceIte]; try simp (disch := omega) only [wrap_id]) | simp only [↓reduceIte, not_false_eq_true, hbn, hbs, Int.reduceBEq, Int.reduceBNe, Bool.false_and, Bool.true_and, Bool.and_true, Bool.and_false, Bool.false_eq_true, ↓reduceIte]))
  all_goals (
   refine RetA.mk tabOk 0 rfl rfl rfl (by omega) rfl rfl rfl ?_
   refine ⟨?_, rfl, rfl⟩
   rw [← hR]
   simp only [res1, AV.bool.injEq]
   (first | rfl | done | (simp_all <;> (first | done | (intros; omega)))))
 ·subst h
  obtain ⟨bn, hbn⟩ : ∃ b, (n != 0) = b := ⟨_, rfl⟩
  obtain ⟨bs, hbs⟩ : ∃ b, (s != []) = b := ⟨_, rfl⟩
  simp only [hbn, hbs, Int.reduceBEq, Int.reduceBNe, Bool.false_and, Bool.true_and, Bool.and_true, Bool.and_false, Bool.false_eq_true, ↓reduceIte] at hR
  cases bn <;> cases bs <;> simp only [Bool.false_eq_true, ↓reduceIte] at hR
  all_goals (
   repeat' (first | refine ⟨by omega, ?_⟩ | (refine hJ _ _ (RunsL.nil ?_); clear hJ J) | refine RunsA.cond rfl (fun h => ?_) (fun h => absurd h (by decide)) | refine RunsA.cond rfl (fun h => absurd h (by decide)) (fun h => ?_) | (refine step_ ?_) | (refine RunsA.rk 4 [36] tabOk fun J hJ => ?_; simp only [go_sem, ↓reduceIte, Nat.reduceAdd, Nat.reduceSub, Nat.reduceMul, Nat.reduceLT, Nat.reduceLeDiff, Nat.reduceEqDiff, Nat.reduceBEq, Int.reduceToNat, hbn, hbs, Int.reduceBEq, Int.reduceBNe, Bool.false_and, Bool.true_and, Bool.and_true, Bool.and_false, Bool.false_eq_true, ↓reduceIte]; try simp (disch := omega) only [wrap_id]) | (refine hJ _ _ (call_ (ps := []) (rid := 16) rfl rfl rfl rfl rfl (l1In_ok _ _ _) ?_); clear hJ J; rintro r os' ros ⟨rfl, rfl, rfl⟩ _; refine RunsL.go tabOk fun J hJ => ?_; simp only [go_sem, ↓reduceIte, Nat.reduceAdd, Nat.reduceSub, Nat.reduceMul, Nat.reduceLT, Nat.reduceLeDiff, Nat.reduceEqDiff, Nat.reduceBEq, Int.reduceToNat, hbn, hbs, Int.reduceBEq, Int.reduceBNe, Bool.false_and, Bool.true_and, Bool.and_true, Bool.and_false, Bool.false_eq_true, ↓reduceIte]; try simp (disch := omega) only [wrap_id]) | (refine hJ _ _ (call_ (ps := []) (rid := 16) rfl rfl rfl rfl rfl (hN) ?_); clear hJ J; rintro r os' ros ⟨rfl, rfl, rfl⟩ _; refine RunsL.go tabOk fun J hJ => ?_; simp only [go_sem, ↓reduceIte, Nat.reduceAdd, Nat.reduceSub, Nat.reduceMul, Nat.reduceLT, Nat.reduceLeDiff, Nat.reduceEqDiff, Nat.reduceBEq, Int.reduceToNat, hbn, hbs, Int.reduceBEq, Int.reduceBNe, Bool.false_and, Bool.true_and, Bool.and_true, Bool.and_false, Bool.false_eq_true, ↓reduceIte]; try simp (disch := omega) only [wrap_id]) | simp only [↓reduceIte, not_false_eq_true, hbn, hbs, Int.reduceBEq, Int.reduceBNe, Bool.false_and, Bool.true_and, Bool.and_true, Bool.and_false, Bool.false_eq_true, ↓reduceIte]))
  all_goals (
   refine RetA.mk tabOk 0 rfl rfl rfl (by omega) rfl rfl rfl ?_
   refine ⟨?_, rfl, rfl⟩
   rw [← hR]
   simp only [res1, AV.bool.injEq]
   (first | rfl | done | (simp_all <;> (first | done | (intros; omega)))))
 ·obtain ⟨bn, hbn⟩ : ∃ b, (n != 0) = b := ⟨_, rfl⟩
  obtain ⟨bs, hbs⟩ : ∃ b, (s != []) = b := ⟨_, rfl⟩
  have e1 : (k == 1) = false := beq_eq_false_iff_ne.2 (by omega)
  have e2 : (k == 2) = false := beq_eq_false_iff_ne.2 (by omega)
  have e3 : (k == 3) = false := beq_eq_false_iff_ne.2 (by omega)
  have e4 : (k == 4) = false := beq_eq_false_iff_ne.2 (by omega)
  have e11 : (k == 11) = false := beq_eq_false_iff_ne.2 (by omega)
  have e12 : (k == 12) = false := beq_eq_false_iff_ne.2 (by omega)
  have f1 : (k != 1) = true := bne_iff_ne.2 (by omega)
  have f2 : (k != 2) = true := bne_iff_ne.2 (by omega)
  have f11 : (k != 11) = true := bne_iff_ne.2 (by omega)
  have f12 : (k != 12) = true := bne_iff_ne.2 (by omega)
  have hm : ∀ x : Bool, (if (k == 5) = true then x else if (k == 6) = true then x else if (k == 7) = true then x else if (k == 8) = true then x else if (k == 9) = true then x else if (k == 10) = true then x else false) = x := by
   intro x
   rcases (by omega : k = 5 ∨ k = 6 ∨ k = 7 ∨ k = 8 ∨ k = 9 ∨ k = 10) with rfl | rfl | rfl | rfl | rfl | rfl <;> rfl
  simp only [hbn, hbs, e1, e2, e3, e4, e11, e12, f1, f2, f11, f12, hm, Int.reduceBEq, Int.reduceBNe, Bool.false_and, Bool.true_and, Bool.and_true, Bool.and_false, Bool.false_eq_true, ↓reduceIte] at hR
  cases bn <;> cases bs <;> simp only [Bool.false_eq_true, ↓reduceIte] at hR
  all_goals (
   repeat' (first | refine ⟨by omega, ?_⟩ | (refine hJ _ _ (RunsL.nil ?_); clear hJ J) | refine RunsA.cond rfl (fun h => ?_) (fun h => absurd h (by decide)) | refine RunsA.cond rfl (fun h => absurd h (by decide)) (fun h => ?_) | refine RunsA.cond rfl (fun h => ?_) (fun h => ?_) | (refine step_ ?_) | (refine RunsA.rk 4 [36] tabOk fun J hJ => ?_; simp only [go_sem, ↓reduceIte, Nat.reduceAdd, Nat.reduceSub, Nat.reduceMul, Nat.reduceLT, Nat.reduceLeDiff, Nat.reduceEqDiff, Nat.reduceBEq, Int.reduceToNat, hbn, hbs, e1, e2, e3, e4, e11, e12, f1, f2, f11, f12, Int.reduceBEq, Int.reduceBNe, Bool.false_and, Bool.true_and, Bool.and_true, Bool.and_false, Bool.false_eq_true, ↓reduceIte]; try simp (disch := omega) only [wrap_id]) | (refine hJ _ _ (call_ (ps := []) (rid := 16) rfl rfl rfl rfl rfl (l1In_ok _ _ _) ?_); clear hJ J; rintro r os' ros ⟨rfl, rfl, rfl⟩ _; refine RunsL.go tabOk fun J hJ => ?_; simp only [go_sem, ↓reduceIte, Nat.reduceAdd, Nat.reduceSub, Nat.reduceMul, Nat.reduceLT, Nat.reduceLeDiff, Nat.reduceEqDiff, Nat.reduceBEq, Int.reduceToNat, hbn, hbs, e1, e2, e3, e4, e11, e12, f1, f2, f11, f12, Int.reduceBEq, Int.reduceBNe, Bool.false_and, Bool.true_and, Bool.and_true, Bool.and_false, Bool.false_eq_true, ↓reduceIte]; try simp (disch := omega) only [wrap_id]) | (refine hJ _ _ (call_ (ps := []) (rid := 16) rfl rfl rfl rfl rfl (hN) ?_); clear hJ J; rintro r os' ros ⟨rfl, rfl, rfl⟩ _; refine RunsL.go tabOk fun J hJ => ?_; simp only [go_sem, ↓reduceIte, Nat.reduceAdd, Nat.reduceSub, Nat.reduceMul, Nat.reduceLT, Nat.reduceLeDiff, Nat.reduceEqDiff, Nat.reduceBEq, Int.reduceToNat, hbn, hbs, e1, e2, e3, e4, e11, e12, f1, f2, f11, f12, Int.reduceBEq, Int.reduceBNe, Bool.false_and, Bool.true_and, Bool.and_true, Bool.and_false, Bool.false_eq_true, ↓reduceIte]; try simp (disch := omega) only [wrap_id]) | simp only [↓reduceIte, not_false_eq_true, hbn, hbs, e1, e2, e3, e4, e11, e12, f1, f2, f11, f12, Int.reduceBEq, Int.reduceBNe, Bool.false_and, Bool.true_and, Bool.and_true, Bool.and_false, Bool.false_eq_true, ↓reduceIte] | split))
  all_goals (
   first
   | (refine RetA.mk tabOk 0 rfl rfl rfl (by omega) rfl rfl rfl ?_
      refine ⟨?_, rfl, rfl⟩
      rw [← hR]
      simp only [res1, AV.bool.injEq]
      (first | rfl | done | (simp_all <;> (first | done | (intros; omega)))))
   | (exfalso; simp_all; omega))
 ·subst h
  obtain ⟨bs, hbs⟩ : ∃ b, (s != []) = b := ⟨_, rfl⟩
  simp only [hbs, Int.reduceBEq, Int.reduceBNe, Bool.false_and, Bool.true_and, Bool.and_true, Bool.and_false, Bool.false_eq_true, ↓reduceIte] at hR
  cases bs <;> simp only [Bool.false_eq_true, ↓reduceIte] at hR
  all_goals (
   repeat' (first | refine ⟨by omega, ?_⟩ | (refine hJ _ _ (RunsL.nil ?_); clear hJ J) | refine RunsA.cond rfl (fun h => ?_) (fun h => absurd h (by decide)) | refine RunsA.cond rfl (fun h => absurd h (by decide)) (fun h => ?_) | refine RunsA.cond rfl (fun h => ?_) (fun h => ?_) | (refine step_ ?_) | (refine RunsA.rk 4 [36] tabOk fun J hJ => ?_; simp only [go_sem, ↓reduceIte, Nat.reduceAdd, Nat.reduceSub, Nat.reduceMul, Nat.reduceLT, Nat.reduceLeDiff, Nat.reduceEqDiff, Nat.reduceBEq, Int.reduceToNat, hbs, Int.reduceBEq, Int.reduceBNe, Bool.false_and, Bool.true_and, Bool.and_true, Bool.and_false, Bool.false_eq_true, ↓reduceIte]; try simp (disch := omega) only [wrap_id]) | (refine hJ _ _ (call_ (ps := []) (rid := 16) rfl rfl rfl rfl rfl (l1In_ok _ _ _) ?_); clear hJ J; rintro r os' ros ⟨rfl, rfl, rfl⟩ _; refine RunsL.go tabOk fun J hJ => ?_; simp only [go_sem, ↓reduceIte, Nat.reduceAdd, Nat.reduceSub, Nat.reduceMul, Nat.reduceLT, Nat.reduceLeDiff, Nat.reduceEqDiff, Nat.reduceBEq, Int.reduceToNat, hbs, Int.reduceBEq, Int.reduceBNe, Bool.false_and, Bool.true_and, Bool.and_true, Bool.and_false, Bool.false_eq_true, ↓reduceIte]; try simp (disch := omega) only [wrap_id]) | (refine hJ _ _ (call_ (ps := []) (rid := 16) rfl rfl rfl rfl rfl (hN) ?_); clear hJ J; rintro r os' ros ⟨rfl, rfl, rfl⟩ _; refine RunsL.go tabOk fun J hJ => ?_; simp only [go_sem, ↓reduceIte, Nat.reduceAdd, Nat.reduceSub, Nat.reduceMul, Nat.reduceLT, Nat.reduceLeDiff, Nat.reduceEqDiff, Nat.reduceBEq, Int.reduceToNat, hbs, Int.reduceBEq, Int.reduceBNe, Bool.false_and, Bool.true_and, Bool.and_true, Bool.and_false, Bool.false_eq_true, ↓reduceIte]; try simp (disch := omega) only [wrap_id]) | simp only [↓reduceIte, not_false_eq_true, hbs, Int.reduceBEq, Int.reduceBNe, Bool.false_and, Bool.true_and, Bool.and_true, Bool.and_false, Bool.false_eq_true, ↓reduceIte] | split))
  all_goals (
   refine RetA.mk tabOk 0 rfl rfl rfl (by omega) rfl rfl rfl ?_
   refine ⟨?_, rfl, rfl⟩
   rw [← hR]
   simp only [res1, AV.bool.injEq]
   (first | rfl | done | (simp_all <;> (first | done | (intros; omega)))))
 ·subst h
  obtain ⟨bn, hbn⟩ : ∃ b, (n != 0) = b := ⟨_, rfl⟩
  simp only [hbn, Int.reduceBEq, Int.reduceBNe, Bool.false_and, Bool.true_and, Bool.and_true, Bool.and_false, Bool.false_eq_true, ↓reduceIte] at hR
  cases bn <;> simp only [Bool.false_eq_true, ↓reduceIte] at hR
  all_goals (
   repeat' (first | refine ⟨by omega, ?_⟩ | (refine hJ _ _ (RunsL.nil ?_); clear hJ J) | refine RunsA.cond rfl (fun h => ?_) (fun h => absurd h (by decide)) | refine RunsA.cond rfl (fun h => absurd h (by decide)) (fun h => ?_) | refine RunsA.cond rfl (fun h => ?_) (fun h => ?_) | (refine step_ ?_) | (refine RunsA.rk 4 [36] tabOk fun J hJ => ?_; simp only [go_sem, ↓reduceIte, Nat.reduceAdd, Nat.reduceSub, Nat.reduceMul, Nat.reduceLT, Nat.reduceLeDiff, Nat.reduceEqDiff, Nat.reduceBEq, Int.reduceToNat, hbn, Int.reduceBEq, Int.reduceBNe, Bool.false_and, Bool.true_and, Bool.and_true, Bool.and_false, Bool.false_eq_true, ↓reduceIte]; try simp (disch := omega) only [wrap_id]) | (refine hJ _ _ (call_ (ps := []) (rid := 16) rfl rfl rfl rfl rfl (l1In_ok _ _ _) ?_); clear hJ J; rintro r os' ros ⟨rfl, rfl, rfl⟩ _; refine RunsL.go tabOk fun J hJ => ?_; simp only [go_sem, ↓reduceIte, Nat.reduceAdd, Nat.reduceSub, Nat.reduceMul, Nat.reduceLT, Nat.reduceLeDiff, Nat.reduceEqDiff, Nat.reduceBEq, Int.reduceToNat, hbn, Int.reduceBEq, Int.reduceBNe, Bool.false_and, Bool.true_and, Bool.and_true, Bool.and_false, Bool.false_eq_true, ↓reduceIte]; try simp (disch := omega) only [wrap_id]) | (refine hJ _ _ (call_ (ps := []) (rid := 16) rfl rfl rfl rfl rfl (hN) ?_); clear hJ J; rintro r os' ros ⟨rfl, rfl, rfl⟩ _; refine RunsL.go tabOk fun J hJ => ?_; simp only [go_sem, ↓reduceIte, Nat.reduceAdd, Nat.reduceSub, Nat.reduceMul, Nat.reduceLT, Nat.reduceLeDiff, Nat.reduceEqDiff, Nat.reduceBEq, Int.reduceToNat, hbn, Int.reduceBEq, Int.reduceBNe, Bool.false_and, Bool.true_and, Bool.and_true, Bool.and_false, Bool.false_eq_true, ↓reduceIte]; try simp (disch := omega) only [wrap_id]) | simp only [↓reduceIte, not_false_eq_true, hbn, Int.reduceBEq, Int.reduceBNe, Bool.false_and, Bool.true_and, Bool.and_true, Bool.and_false, Bool.false_eq_true, ↓reduceIte] | split))
  all_goals (
   refine RetA.mk tabOk 0 rfl rfl rfl (by omega) rfl rfl rfl ?_
   refine ⟨?_, rfl, rfl⟩
   rw [← hR]
   simp only [res1, AV.bool.injEq]
   (first | rfl | done | (simp_all <;> (first | done | (intros; omega)))))
 ·obtain ⟨bn, hbn⟩ : ∃ b, (n != 0) = b := ⟨_, rfl⟩
  obtain ⟨bs, hbs⟩ : ∃ b, (s != []) = b := ⟨_, rfl⟩
  have e1 : (k == 1) = false := beq_eq_false_iff_ne.2 (by omega)
  have e2 : (k == 2) = false := beq_eq_false_iff_ne.2 (by omega)
  have e3 : (k == 3) = false := beq_eq_false_iff_ne.2 (by omega)
  have e4 : (k == 4) = false := beq_eq_false_iff_ne.2 (by omega)
  have e11 : (k == 11) = false := beq_eq_false_iff_ne.2 (by omega)
  have e12 : (k == 12) = false := beq_eq_false_iff_ne.2 (by omega)
  have e5 : (k == 5) = false := beq_eq_false_iff_ne.2 (by omega)
  have e6 : (k == 6) = false := beq_eq_false_iff_ne.2 (by omega)
  have e7 : (k == 7) = false := beq_eq_false_iff_ne.2 (by omega)
  have e8 : (k == 8) = false := beq_eq_false_iff_ne.2 (by omega)
  have e9 : (k == 9) = false := beq_eq_false_iff_ne.2 (by omega)
  have e10 : (k == 10) = false := beq_eq_false_iff_ne.2 (by omega)
  have f1 : (k != 1) = true := bne_iff_ne.2 (by omega)
  have f2 : (k != 2) = true := bne_iff_ne.2 (by omega)
  have f11 : (k != 11) = true := bne_iff_ne.2 (by omega)
  have f12 : (k != 12) = true := bne_iff_ne.2 (by omega)
  simp only [hbn, hbs, e1, e2, e3, e4, e11, e12, e5, e6, e7, e8, e9, e10, f1, f2, f11, f12, Int.reduceBEq, Int.reduceBNe, Bool.false_and, Bool.true_and, Bool.and_true, Bool.and_false, Bool.false_eq_true, ↓reduceIte] at hR
  cases bn <;> cases bs <;> simp only [Bool.false_eq_true, ↓reduceIte] at hR
  all_goals (
   repeat' (first | refine ⟨by omega, ?_⟩ | (refine hJ _ _ (RunsL.nil ?_); clear hJ J) | refine RunsA.cond rfl (fun h => ?_) (fun h => absurd h (by decide)) | refine RunsA.cond rfl (fun h => absurd h (by decide)) (fun h => ?_) | (refine step_ ?_) | (refine RunsA.rk 4 [36] tabOk fun J hJ => ?_; simp only [go_sem, ↓reduceIte, Nat.reduceAdd, Nat.reduceSub, Nat.reduceMul, Nat.reduceLT, Nat.reduceLeDiff, Nat.reduceEqDiff, Nat.reduceBEq, Int.reduceToNat, hbn, hbs, e1, e2, e3, e4, e11, e12, e5, e6, e7, e8, e9, e10, f1, f2, f11, f12, Int.reduceBEq, Int.reduceBNe, Bool.false_and, Bool.true_and, Bool.and_true, Bool.and_false, Bool.false_eq_true, ↓reduceIte]; try simp (disch := omega) only [wrap_id]) | (refine hJ _ _ (call_ (ps := []) (rid := 16) rfl rfl rfl rfl rfl (l1In_ok _ _ _) ?_); clear hJ J; rintro r os' ros ⟨rfl, rfl, rfl⟩ _; refine RunsL.go tabOk fun J hJ => ?_; simp only [go_sem, ↓reduceIte, Nat.reduceAdd, Nat.reduceSub, Nat.reduceMul, Nat.reduceLT, Nat.reduceLeDiff, Nat.reduceEqDiff, Nat.reduceBEq, Int.reduceToNat, hbn, hbs, e1, e2, e3, e4, e11, e12, e5, e6, e7, e8, e9, e10, f1, f2, f11, f12, Int.reduceBEq, Int.reduceBNe, Bool.false_and, Bool.true_and, Bool.and_true, Bool.and_false, Bool.false_eq_true, ↓reduceIte]; try simp (disch := omega) only [wrap_id]) | (refine hJ _ _ (call_ (ps := []) (rid := 16) rfl rfl rfl rfl rfl (hN) ?_); clear hJ J; rintro r os' ros ⟨rfl, rfl, rfl⟩ _; refine RunsL.go tabOk fun J hJ => ?_; simp only [go_sem, ↓reduceIte, Nat.reduceAdd, Nat.reduceSub, Nat.reduceMul, Nat.reduceLT, Nat.reduceLeDiff, Nat.reduceEqDiff, Nat.reduceBEq, Int.reduceToNat, hbn, hbs, e1, e2, e3, e4, e11, e12, e5, e6, e7, e8, e9, e10, f1, f2, f11, f12, Int.reduceBEq, Int.reduceBNe, Bool.false_and, Bool.true_and, Bool.and_true, Bool.and_false, Bool.false_eq_true, ↓reduceIte]; try simp (disch := omega) only [wrap_id]) | simp only [↓reduceIte, not_false_eq_true, hbn, hbs, e1, e2, e3, e4, e11, e12, e5, e6, e7, e8, e9, e10, f1, f2, f11, f12, Int.reduceBEq, Int.reduceBNe, Bool.false_and, Bool.true_and, Bool.and_true, Bool.and_false, Bool.false_eq_true, ↓reduceIte]))
  all_goals (
   refine RetA.mk tabOk 0 rfl rfl rfl (by omega) rfl rfl rfl ?_
   refine ⟨?_, rfl, rfl⟩
   rw [← hR]
   simp only [res1, AV.bool.injEq]
   (first | rfl | done | (simp_all <;> (first | done | (intros; omega)))))
end Go.Proofs.YtiilnlihimdnlaaGreatDoorFw
