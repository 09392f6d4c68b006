/- Words in a tree of segments. -/
import Derived.Test.YtiilnlihimdnlaaGreatDoorQL
import Derived.Test.YtiilnlihimdnlaaGreatDoorFwD
set_option linter.unusedVariables false
set_option linter.unusedSimpArgs false
set_option maxRecDepth 4000
namespace Go.Proofs.YtiilnlihimdnlaaGreatDoorFw
open Go Go.RowKit
def atI : List Str → Str → Int → Int
 | [], _, _ => -1
 | x :: r, s, k => if x = s then k else atI r s (k + 1)
theorem atI_cases : ∀ (l : List Str) (s : Str) (k : Int), 0 ≤ k → atI l s k = -1 ∨ (k ≤ atI l s k ∧ atI l s k < k + l.length)
 | [], _, _, _ => .inl rfl
 | x :: r, s, k, h => by
  unfold atI
  split
  ·right; simp only [List.length_cons]; omega
  ·rcases atI_cases r s (k + 1) (by omega) with h1 | h1
   ·exact .inl h1
   ·right; simp only [List.length_cons]; omega
theorem l9At_ok (l : List Str) (s : Str) (hl : l.length ≤ 140737488355328) :
 FnA Tryz.prog 88 false [.row .bo 1 (strs l), .str s] [] (fun r os ros => r = .int .i64 (atI l s 0) ∧ os = [] ∧ ros = []) := by
 refine FnA.of Tryz.func88 rfl (by decide) Tryz.ntmps88 (by simp) ?_
 refine run_ ?_
 refine RunsA.loop ?_
 refine (LoopA.ind (fun i : Nat => ⟨19, [(0, .row .bo 1 (strs l)), (1, .str s), (5, .int .i64 i)], [], false⟩) (fun i => l.length - i) (fun i => i ≤ l.length ∧ atI (l.drop i) s i = atI l s 0) ?_ 0 ?_).sub rfl ?_ trivial rfl
 ·rintro i ⟨hi, ht⟩ K3 hK3
  refine run1_ @strs_len ?_
  refine RunsA.cond rfl (fun h2 => ?_) (fun h2 => ?_)
  ·simp only [decide_eq_true_eq] at h2
   have hilt : i < l.length := by omega
   rw [drop_get hilt, atI] at ht
   repeat (first | refine RunsA.sq ?_ | refine RunsA.bk ?_ | refine RunsA.sk ?_ | refine RunsA.ex ?_ | refine RunsA.rt ?_ | refine At.n ?_ | refine At.x ?_ | refine At.r ?_ | refine At.bn ?_ | refine At.br ?_ | refine At.bx ?_ | refine At.by_ rfl ?_ | refine At.kx ?_ | refine At.kr ?_ | refine At.kn ?_ | refine At.er ?_ | refine At.en ?_ | (refine RunsA.rq tabOk fun J hJ => ?_; simp only [go_sem, ↓reduceIte, Nat.reduceAdd, Nat.reduceSub, Nat.reduceMul, Nat.reduceLT, Nat.reduceLeDiff, Nat.reduceEqDiff, Nat.reduceBEq, Int.reduceToNat, strs_get hilt]; (try simp (disch := omega) only [wrap_id]); (repeat refine ⟨by omega, ?_⟩); refine hJ _ _ (RunsL.nil ?_); clear hJ J) | (refine RunsA.dq mixed tabOk (by kernel_rfl) fun J hJ => ?_; simp only [go_sem, ↓reduceIte, Nat.reduceAdd, Nat.reduceSub, Nat.reduceMul, Nat.reduceLT, Nat.reduceLeDiff, Nat.reduceEqDiff, Nat.reduceBEq, Int.reduceToNat, strs_get hilt]; (try simp (disch := omega) only [wrap_id]); (repeat refine ⟨by omega, ?_⟩); refine hJ _ _ (QRuns.nil ?_); clear hJ J))
   refine RunsA.cond rfl (fun h3 => ?_) (fun h3 => ?_)
   ·simp at h3
    rw [if_pos h3] at ht
    refine run_ ?_
    exact RetA.mk tabOk 0 rfl rfl rfl (by omega) rfl rfl rfl (by simp [res1, ht])
   ·simp at h3
    rw [if_neg h3] at ht
    refine run_ ?_
    exact hK3 (i + 1) _ ⟨by omega, by rw [← ht]; rfl⟩ (by omega) rfl (by simp [SubS, lookS]) trivial rfl
  ·simp only [decide_eq_false_iff_not] at h2
   rw [List.drop_eq_nil_of_le (by omega), atI] at ht
   refine run_ ?_
   exact RetA.mk tabOk 0 rfl rfl rfl (by omega) rfl rfl rfl (by simp [res1, ← ht])
 ·exact ⟨Nat.zero_le _, by simp⟩
 ·simp [SubS, lookS]
theorem placeIn_ok (l : List Str) (s : Str) (hl : l.length ≤ 140737488355328) :
 FnA Tryz.prog 67 false [.row .bo 1 (strs l), .str s] [] (fun r os ros => r = .int .i64 (atI l s 0) ∧ os = [] ∧ ros = []) := by
 refine FnA.of Tryz.func67 rfl (by decide) Tryz.ntmps67 (by simp) ?_
 refine run1_ @strs_len ?_
 refine RunsA.loop ?_
 refine (LoopA.ind (fun i : Nat => ⟨19, [(1, .str s), (7, .row .bo 1 (strs l)), (8, .int .i64 (l.length : Nat)), (9, .int .i64 i)], [], false⟩) (fun i => l.length - i) (fun i => i ≤ l.length ∧ atI (l.drop i) s i = atI l s 0) ?_ 0 ?_).sub rfl ?_ trivial rfl
 ·rintro i ⟨hi, ht⟩ K3 hK3
  refine run1_ @strs_len ?_
  refine RunsA.cond rfl (fun h2 => ?_) (fun h2 => ?_)
  ·simp only [decide_eq_true_eq] at h2
   have hilt : i < l.length := by omega
   rw [drop_get hilt, atI] at ht
   repeat (first | refine RunsA.sq ?_ | refine RunsA.bk ?_ | refine RunsA.sk ?_ | refine RunsA.ex ?_ | refine RunsA.rt ?_ | refine At.n ?_ | refine At.x ?_ | refine At.r ?_ | refine At.bn ?_ | refine At.br ?_ | refine At.bx ?_ | refine At.by_ rfl ?_ | refine At.kx ?_ | refine At.kr ?_ | refine At.kn ?_ | refine At.er ?_ | refine At.en ?_ | (refine RunsA.rq tabOk fun J hJ => ?_; simp only [go_sem, ↓reduceIte, Nat.reduceAdd, Nat.reduceSub, Nat.reduceMul, Nat.reduceLT, Nat.reduceLeDiff, Nat.reduceEqDiff, Nat.reduceBEq, Int.reduceToNat, strs_get hilt]; (try simp (disch := omega) only [wrap_id]); (repeat refine ⟨by omega, ?_⟩); refine hJ _ _ (RunsL.nil ?_); clear hJ J) | (refine RunsA.dq mixed tabOk (by kernel_rfl) fun J hJ => ?_; simp only [go_sem, ↓reduceIte, Nat.reduceAdd, Nat.reduceSub, Nat.reduceMul, Nat.reduceLT, Nat.reduceLeDiff, Nat.reduceEqDiff, Nat.reduceBEq, Int.reduceToNat, strs_get hilt]; (try simp (disch := omega) only [wrap_id]); (repeat refine ⟨by omega, ?_⟩); refine hJ _ _ (QRuns.nil ?_); clear hJ J))
   refine RunsA.cond rfl (fun h3 => ?_) (fun h3 => ?_)
   ·simp at h3
    rw [if_pos h3] at ht
    refine run_ ?_
    exact RetA.mk tabOk 0 rfl rfl rfl (by omega) rfl rfl rfl (by simp [res1, ht])
   ·simp at h3
    rw [if_neg h3] at ht
    refine run_ ?_
    exact hK3 (i + 1) _ ⟨by omega, by rw [← ht]; rfl⟩ (by omega) rfl (by simp [SubS, lookS]) trivial rfl
  ·simp only [decide_eq_false_iff_not] at h2
   rw [List.drop_eq_nil_of_le (by omega), atI] at ht
   refine run_ ?_
   exact RetA.mk tabOk 0 rfl rfl rfl (by omega) rfl rfl rfl (by simp [res1, ← ht])
 ·exact ⟨Nat.zero_le _, by simp⟩
 ·simp [SubS, lookS]
theorem within_ok (n lo hi : Int) :
 FnA Tryz.prog 74 false [.int .i64 n, .int .i64 lo, .int .i64 hi] [] (fun r os ros => r = .bool (decide (lo ≤ n ∧ n ≤ hi)) ∧ os = [] ∧ ros = []) := by
 refine FnA.of Tryz.func74 rfl (by decide) Tryz.ntmps74 (by simp) ?_
 by_cases h : lo ≤ n
 ·have e : decide (lo ≤ n) = true := by simpa using h
  refine run1_ @e ?_
  exact RetA.mk tabOk 0 rfl rfl rfl (by omega) rfl rfl rfl (by simp [res1, h])
 ·have e : decide (lo ≤ n) = false := by simpa using h
  refine run1_ @e ?_
  exact RetA.mk tabOk 0 rfl rfl rfl (by omega) rfl rfl rfl (by simp [res1, h])
end Go.Proofs.YtiilnlihimdnlaaGreatDoorFw
namespace Go.Proofs.YtiilnlihimdnlaaGreatDoorFw
open Go Go.RowKit
def HasP (m r : Int) : Prop := m = 6 ∨ m = 7 ∨ r = 7 ∧ (m = 2 ∨ m = 3)
instance (m r : Int) : Decidable (HasP m r) := by unfold HasP; infer_instance
def OpdP (m r x : Int) : Prop := 0 ≤ m ∧ m ≤ 7 ∧ 0 ≤ r ∧ r ≤ 7 ∧ 0 ≤ x ∧ x ≤ 65535 ∧ (x = 0 ∨ HasP m r)
instance (m r x : Int) : Decidable (OpdP m r x) := by unfold OpdP; infer_instance
theorem l1In_ok (n lo hi : Int) :
 FnA Tryz.prog 84 false [.int .i64 n, .int .i64 lo, .int .i64 hi] [] (fun res os ros => res = .bool (decide (lo ≤ n ∧ n ≤ hi)) ∧ os = [] ∧ ros = []) := by
 refine FnA.of Tryz.func84 rfl (by decide) Tryz.ntmps84 (by simp) ?_
 refine run_ ?_
 refine RunsA.rq tabOk fun J hJ => ?_
 simp only [go_sem, ↓reduceIte, Nat.reduceAdd, Nat.reduceSub, Nat.reduceMul, Nat.reduceLT, Nat.reduceLeDiff, Nat.reduceEqDiff, Nat.reduceBEq, Int.reduceToNat]
 try simp (disch := omega) only [wrap_id]
 repeat' (first | refine ⟨by omega, ?_⟩ | (refine hJ _ _ (RunsL.nil ?_); clear hJ J) | split)
 all_goals (refine run_ ?_)
 all_goals (refine RetA.mk tabOk 0 rfl rfl rfl (by omega) rfl rfl rfl ?_; refine ⟨?_, rfl, rfl⟩; simp only [res1, AV.bool.injEq]; (try simp only [beq_iff_eq, beq_eq_false_iff_ne, ne_eq, decide_eq_true_eq, decide_eq_false_iff_not, Bool.not_eq_true, Bool.not_eq_false, Bool.not_eq_true', Bool.not_eq_false', not_true_eq_false, not_false_eq_true] at *); all_goals (first | apply decide_eq_decide.mpr | (symm; rw [decide_eq_true_iff]) | (symm; rw [decide_eq_false_iff_not]) | (rw [Bool.eq_iff_iff]; simp only [decide_eq_true_eq, beq_iff_eq, Bool.not_eq_true', decide_eq_false_iff_not])); all_goals (try simp only [true_and, and_true] at *); all_goals (try omega))
theorem isReg_ok (n : Int) :
 FnA Tryz.prog 117 false [.int .i64 n] [] (fun res os ros => res = .bool (decide ((0 : Int) ≤ n ∧ n ≤ 7)) ∧ os = [] ∧ ros = []) := by
 refine FnA.of Tryz.func117 rfl (by decide) Tryz.ntmps117 (by simp) ?_
 refine run_ ?_
 refine RunsA.rq tabOk fun J hJ => ?_
 simp only [go_sem, ↓reduceIte, Nat.reduceAdd, Nat.reduceSub, Nat.reduceMul, Nat.reduceLT, Nat.reduceLeDiff, Nat.reduceEqDiff, Nat.reduceBEq, Int.reduceToNat]
 try simp (disch := omega) only [wrap_id]
 repeat' (first | refine ⟨by omega, ?_⟩ | (refine hJ _ _ (RunsL.nil ?_); clear hJ J) | (refine hJ _ _ (call_ (ps := []) (rid := 16) rfl rfl rfl rfl rfl (within_ok _ _ _) ?_); clear hJ J; rintro r os' ros ⟨rfl, rfl, rfl⟩ _; refine RunsL.go tabOk fun J hJ => ?_; simp only [go_sem, ↓reduceIte, Nat.reduceAdd, Nat.reduceSub, Nat.reduceMul, Nat.reduceLT, Nat.reduceLeDiff, Nat.reduceEqDiff, Nat.reduceBEq, Int.reduceToNat]; try simp (disch := omega) only [wrap_id])| split)
 all_goals (refine run_ ?_)
 all_goals (refine RetA.mk tabOk 0 rfl rfl rfl (by omega) rfl rfl rfl ?_; refine ⟨?_, rfl, rfl⟩; simp only [res1, AV.bool.injEq]; (try simp only [beq_iff_eq, beq_eq_false_iff_ne, ne_eq, decide_eq_true_eq, decide_eq_false_iff_not, Bool.not_eq_true, Bool.not_eq_false, Bool.not_eq_true', Bool.not_eq_false', not_true_eq_false, not_false_eq_true] at *); all_goals (first | apply decide_eq_decide.mpr | (symm; rw [decide_eq_true_iff]) | (symm; rw [decide_eq_false_iff_not]) | (rw [Bool.eq_iff_iff]; simp only [decide_eq_true_eq, beq_iff_eq, Bool.not_eq_true', decide_eq_false_iff_not])); all_goals (try simp only [true_and, and_true] at *); all_goals (try omega))
theorem hasSrc_ok (n : Int) :
 FnA Tryz.prog 110 false [.int .i64 n] [] (fun res os ros => res = .bool (decide ((1 : Int) ≤ n ∧ n ≤ 6)) ∧ os = [] ∧ ros = []) := by
 refine FnA.of Tryz.func110 rfl (by decide) Tryz.ntmps110 (by simp) ?_
 refine run_ ?_
 refine RunsA.rq tabOk fun J hJ => ?_
 simp only [go_sem, ↓reduceIte, Nat.reduceAdd, Nat.reduceSub, Nat.reduceMul, Nat.reduceLT, Nat.reduceLeDiff, Nat.reduceEqDiff, Nat.reduceBEq, Int.reduceToNat]
 try simp (disch := omega) only [wrap_id]
 repeat' (first | refine ⟨by omega, ?_⟩ | (refine hJ _ _ (RunsL.nil ?_); clear hJ J) | (refine hJ _ _ (call_ (ps := []) (rid := 16) rfl rfl rfl rfl rfl (within_ok _ _ _) ?_); clear hJ J; rintro r os' ros ⟨rfl, rfl, rfl⟩ _; refine RunsL.go tabOk fun J hJ => ?_; simp only [go_sem, ↓reduceIte, Nat.reduceAdd, Nat.reduceSub, Nat.reduceMul, Nat.reduceLT, Nat.reduceLeDiff, Nat.reduceEqDiff, Nat.reduceBEq, Int.reduceToNat]; try simp (disch := omega) only [wrap_id])| split)
 all_goals (refine run_ ?_)
 all_goals (refine RetA.mk tabOk 0 rfl rfl rfl (by omega) rfl rfl rfl ?_; refine ⟨?_, rfl, rfl⟩; simp only [res1, AV.bool.injEq]; (try simp only [beq_iff_eq, beq_eq_false_iff_ne, ne_eq, decide_eq_true_eq, decide_eq_false_iff_not, Bool.not_eq_true, Bool.not_eq_false, Bool.not_eq_true', Bool.not_eq_false', not_true_eq_false, not_false_eq_true] at *); all_goals (first | apply decide_eq_decide.mpr | (symm; rw [decide_eq_true_iff]) | (symm; rw [decide_eq_false_iff_not]) | (rw [Bool.eq_iff_iff]; simp only [decide_eq_true_eq, beq_iff_eq, Bool.not_eq_true', decide_eq_false_iff_not])); all_goals (try simp only [true_and, and_true] at *); all_goals (try omega))
theorem hasDst_ok (n : Int) :
 FnA Tryz.prog 113 false [.int .i64 n] [] (fun res os ros => res = .bool (decide ((1 : Int) ≤ n ∧ n ≤ 15)) ∧ os = [] ∧ ros = []) := by
 refine FnA.of Tryz.func113 rfl (by decide) Tryz.ntmps113 (by simp) ?_
 refine run_ ?_
 refine RunsA.rq tabOk fun J hJ => ?_
 simp only [go_sem, ↓reduceIte, Nat.reduceAdd, Nat.reduceSub, Nat.reduceMul, Nat.reduceLT, Nat.reduceLeDiff, Nat.reduceEqDiff, Nat.reduceBEq, Int.reduceToNat]
 try simp (disch := omega) only [wrap_id]
 repeat' (first | refine ⟨by omega, ?_⟩ | (refine hJ _ _ (RunsL.nil ?_); clear hJ J) | (refine hJ _ _ (call_ (ps := []) (rid := 16) rfl rfl rfl rfl rfl (within_ok _ _ _) ?_); clear hJ J; rintro r os' ros ⟨rfl, rfl, rfl⟩ _; refine RunsL.go tabOk fun J hJ => ?_; simp only [go_sem, ↓reduceIte, Nat.reduceAdd, Nat.reduceSub, Nat.reduceMul, Nat.reduceLT, Nat.reduceLeDiff, Nat.reduceEqDiff, Nat.reduceBEq, Int.reduceToNat]; try simp (disch := omega) only [wrap_id])| split)
 all_goals (refine run_ ?_)
 all_goals (refine RetA.mk tabOk 0 rfl rfl rfl (by omega) rfl rfl rfl ?_; refine ⟨?_, rfl, rfl⟩; simp only [res1, AV.bool.injEq]; (try simp only [beq_iff_eq, beq_eq_false_iff_ne, ne_eq, decide_eq_true_eq, decide_eq_false_iff_not, Bool.not_eq_true, Bool.not_eq_false, Bool.not_eq_true', Bool.not_eq_false', not_true_eq_false, not_false_eq_true] at *); all_goals (first | apply decide_eq_decide.mpr | (symm; rw [decide_eq_true_iff]) | (symm; rw [decide_eq_false_iff_not]) | (rw [Bool.eq_iff_iff]; simp only [decide_eq_true_eq, beq_iff_eq, Bool.not_eq_true', decide_eq_false_iff_not])); all_goals (try simp only [true_and, and_true] at *); all_goals (try omega))
theorem isBranch_ok (n : Int) :
 FnA Tryz.prog 137 false [.int .i64 n] [] (fun res os ros => res = .bool (decide ((17 : Int) ≤ n ∧ n ≤ 21)) ∧ os = [] ∧ ros = []) := by
 refine FnA.of Tryz.func137 rfl (by decide) Tryz.ntmps137 (by simp) ?_
 refine run_ ?_
 refine RunsA.rq tabOk fun J hJ => ?_
 simp only [go_sem, ↓reduceIte, Nat.reduceAdd, Nat.reduceSub, Nat.reduceMul, Nat.reduceLT, Nat.reduceLeDiff, Nat.reduceEqDiff, Nat.reduceBEq, Int.reduceToNat]
 try simp (disch := omega) only [wrap_id]
 repeat' (first | refine ⟨by omega, ?_⟩ | (refine hJ _ _ (RunsL.nil ?_); clear hJ J) | (refine hJ _ _ (call_ (ps := []) (rid := 16) rfl rfl rfl rfl rfl (within_ok _ _ _) ?_); clear hJ J; rintro r os' ros ⟨rfl, rfl, rfl⟩ _; refine RunsL.go tabOk fun J hJ => ?_; simp only [go_sem, ↓reduceIte, Nat.reduceAdd, Nat.reduceSub, Nat.reduceMul, Nat.reduceLT, Nat.reduceLeDiff, Nat.reduceEqDiff, Nat.reduceBEq, Int.reduceToNat]; try simp (disch := omega) only [wrap_id])| split)
 all_goals (refine run_ ?_)
 all_goals (refine RetA.mk tabOk 0 rfl rfl rfl (by omega) rfl rfl rfl ?_; refine ⟨?_, rfl, rfl⟩; simp only [res1, AV.bool.injEq]; (try simp only [beq_iff_eq, beq_eq_false_iff_ne, ne_eq, decide_eq_true_eq, decide_eq_false_iff_not, Bool.not_eq_true, Bool.not_eq_false, Bool.not_eq_true', Bool.not_eq_false', not_true_eq_false, not_false_eq_true] at *); all_goals (first | apply decide_eq_decide.mpr | (symm; rw [decide_eq_true_iff]) | (symm; rw [decide_eq_false_iff_not]) | (rw [Bool.eq_iff_iff]; simp only [decide_eq_true_eq, beq_iff_eq, Bool.not_eq_true', decide_eq_false_iff_not])); all_goals (try simp only [true_and, and_true] at *); all_goals (try omega))
end Go.Proofs.YtiilnlihimdnlaaGreatDoorFw
namespace Go.Proofs.YtiilnlihimdnlaaGreatDoorFw
open Go Go.RowKit
def opW : List Str := [[109, 111, 118], [99, 109, 112], [98, 105, 99], [98, 105, 115], [97, 100, 100], [115, 117, 98], [99, 108, 114], [105, 110, 99], [100, 101, 99], [110, 101, 103], [116, 115, 116], [97, 115, 114], [97, 115, 108], [106, 109, 112], [106, 115, 114], [114, 116, 115], [98, 114], [98, 110, 101], [98, 101, 113], [98, 103, 101], [98, 108, 116], [104, 97, 108, 116], [101, 109, 116]]
def regW : List Str := [[114, 48], [114, 49], [114, 50], [114, 51], [114, 52], [114, 53], [115, 112], [112, 99]]
theorem l9Small_ok (n : Nat) (h : n < 256) : FnA Tryz.prog 79 false [.int .u8 n] [] (fun res os ros => res = .bool (decide ((97 : Int) ≤ (n : Int) ∧ (n : Int) ≤ 122)) ∧ os = [] ∧ ros = []) := by
 refine FnA.of Tryz.func79 rfl (by decide) Tryz.ntmps79 (by simp) ?_
 refine run_ ?_
 refine rgo_ ?_
 refine call_ (ps := []) (rid := 16) rfl rfl rfl rfl rfl (l1In_ok n 97 122) ?_
 refine cro_ ?_
 refine run_ ?_
 exact RetA.mk tabOk 0 rfl rfl rfl (by omega) rfl rfl rfl ⟨rfl, rfl, rfl⟩
theorem l9Digit_ok (n : Nat) (h : n < 256) : FnA Tryz.prog 82 false [.int .u8 n] [] (fun res os ros => res = .bool (decide ((48 : Int) ≤ (n : Int) ∧ (n : Int) ≤ 57)) ∧ os = [] ∧ ros = []) := by
 refine FnA.of Tryz.func82 rfl (by decide) Tryz.ntmps82 (by simp) ?_
 refine run_ ?_
 refine rgo_ ?_
 refine call_ (ps := []) (rid := 16) rfl rfl rfl rfl rfl (l1In_ok n 48 57) ?_
 refine cro_ ?_
 refine run_ ?_
 exact RetA.mk tabOk 0 rfl rfl rfl (by omega) rfl rfl rfl ⟨rfl, rfl, rfl⟩
theorem isLetter_ok (n : Nat) (h : n < 256) : FnA Tryz.prog 92 false [.int .u8 n] [] (fun res os ros => res = .bool (decide ((97 : Int) ≤ (n : Int) ∧ (n : Int) ≤ 122)) ∧ os = [] ∧ ros = []) := by
 refine FnA.of Tryz.func92 rfl (by decide) Tryz.ntmps92 (by simp) ?_
 refine run_ ?_
 refine rgo_ ?_
 refine call_ (ps := []) (rid := 16) rfl rfl rfl rfl rfl (within_ok n 97 122) ?_
 refine cro_ ?_
 refine run_ ?_
 exact RetA.mk tabOk 0 rfl rfl rfl (by omega) rfl rfl rfl ⟨rfl, rfl, rfl⟩
def PartP (n : Nat) : Prop := ((97 : Int) ≤ (n : Int) ∧ (n : Int) ≤ 122) ∨ ((48 : Int) ≤ (n : Int) ∧ (n : Int) ≤ 57)
instance (n : Nat) : Decidable (PartP n) := by unfold PartP; infer_instance
theorem isPart_ok (n : Nat) (h : n < 256) : FnA Tryz.prog 121 false [.int .u8 n] [] (fun res os ros => res = .bool (decide (PartP n)) ∧ os = [] ∧ ros = []) := by
 refine FnA.of Tryz.func121 rfl (by decide) Tryz.ntmps121 (by simp) ?_
 by_cases h1 : (97 : Int) ≤ (n : Int) ∧ (n : Int) ≤ 122
 ·have e1 : decide ((97 : Int) ≤ (n : Int) ∧ (n : Int) ≤ 122) = true := decide_eq_true h1
  have e2 : decide (PartP n) = true := decide_eq_true (.inl h1)
  rw [e2]
  repeat' (first | refine ⟨by omega, ?_⟩ | (refine hJ _ _ (RunsL.nil ?_); clear hJ J) | refine RunsA.cond rfl (fun h => ?_) (fun h => absurd h (by decide)) | refine RunsA.cond rfl (fun h => absurd h (by decide)) (fun h => ?_) | (refine step_ ?_) | (refine RunsA.rk 3 [] tabOk fun J hJ => ?_; simp only [go_sem, ↓reduceIte, Nat.reduceAdd, Nat.reduceSub, Nat.reduceMul, Nat.reduceLT, Nat.reduceLeDiff, Nat.reduceEqDiff, Nat.reduceBEq, Int.reduceToNat, e1]; try simp (disch := omega) only [wrap_id]) | (refine hJ _ _ (call_ (ps := []) (rid := 16) rfl rfl rfl rfl rfl (isLetter_ok n h) ?_); clear hJ J; rintro r os' ros ⟨rfl, rfl, rfl⟩ _; refine RunsL.go tabOk fun J hJ => ?_; simp only [go_sem, ↓reduceIte, Nat.reduceAdd, Nat.reduceSub, Nat.reduceMul, Nat.reduceLT, Nat.reduceLeDiff, Nat.reduceEqDiff, Nat.reduceBEq, Int.reduceToNat, e1]; try simp (disch := omega) only [wrap_id]) | simp only [↓reduceIte, not_false_eq_true, e1])
  all_goals exact RetA.mk tabOk 0 rfl rfl rfl (by omega) rfl rfl rfl ⟨rfl, rfl, rfl⟩
 ·have e1 : decide ((97 : Int) ≤ (n : Int) ∧ (n : Int) ≤ 122) = false := decide_eq_false h1
  have e2 : decide (PartP n) = decide ((48 : Int) ≤ (n : Int) ∧ (n : Int) ≤ 57) := by
   rw [decide_eq_decide]
   exact ⟨fun h => h.elim (fun h => absurd h h1) id, .inr⟩
  rw [e2]
  repeat' (first | refine ⟨by omega, ?_⟩ | (refine hJ _ _ (RunsL.nil ?_); clear hJ J) | refine RunsA.cond rfl (fun h => ?_) (fun h => absurd h (by decide)) | refine RunsA.cond rfl (fun h => absurd h (by decide)) (fun h => ?_) | (refine step_ ?_) | (refine RunsA.rk 3 [] tabOk fun J hJ => ?_; simp only [go_sem, ↓reduceIte, Nat.reduceAdd, Nat.reduceSub, Nat.reduceMul, Nat.reduceLT, Nat.reduceLeDiff, Nat.reduceEqDiff, Nat.reduceBEq, Int.reduceToNat, e1]; try simp (disch := omega) only [wrap_id]) | (refine hJ _ _ (call_ (ps := []) (rid := 16) rfl rfl rfl rfl rfl (isLetter_ok n h) ?_); clear hJ J; rintro r os' ros ⟨rfl, rfl, rfl⟩ _; refine RunsL.go tabOk fun J hJ => ?_; simp only [go_sem, ↓reduceIte, Nat.reduceAdd, Nat.reduceSub, Nat.reduceMul, Nat.reduceLT, Nat.reduceLeDiff, Nat.reduceEqDiff, Nat.reduceBEq, Int.reduceToNat, e1]; try simp (disch := omega) only [wrap_id]) | (refine hJ _ _ (call_ (ps := []) (rid := 16) rfl rfl rfl rfl rfl (within_ok _ _ _) ?_); clear hJ J; rintro r os' ros ⟨rfl, rfl, rfl⟩ _; refine RunsL.go tabOk fun J hJ => ?_; simp only [go_sem, ↓reduceIte, Nat.reduceAdd, Nat.reduceSub, Nat.reduceMul, Nat.reduceLT, Nat.reduceLeDiff, Nat.reduceEqDiff, Nat.reduceBEq, Int.reduceToNat, e1]; try simp (disch := omega) only [wrap_id]) | simp only [↓reduceIte, not_false_eq_true, e1])
  all_goals exact RetA.mk tabOk 0 rfl rfl rfl (by omega) rfl rfl rfl ⟨rfl, rfl, rfl⟩
def FormP (s : Str) : Prop := 1 ≤ s.length ∧ s.length ≤ 6 ∧ ∀ i (h : i < s.length), PartP s[i].toNat ∧ (i = 0 → (97 : Int) ≤ (s[i].toNat : Int) ∧ (s[i].toNat : Int) ≤ 122)
def NameP (s : Str) : Prop := FormP s ∧ ¬ s ∈ opW ++ regW
open Classical in
noncomputable instance (s : Str) : Decidable (FormP s) := inferInstance
open Classical in
noncomputable instance (s : Str) : Decidable (NameP s) := inferInstance
theorem byte_lt (b : UInt8) : b.toNat < 256 := UInt8.toNat_lt b
set_option maxHeartbeats 1000000 in
theorem l9Form_ok (s : Str) (hl : s.length ≤ 140737488355328) : FnA Tryz.prog 86 false [.str s] [] (fun res os ros => res = .bool (decide (FormP s)) ∧ os = [] ∧ ros = []) := by
 refine FnA.of Tryz.func86 rfl (by decide) Tryz.ntmps86 (by simp) ?_
 refine run_ ?_
 refine RunsA.loop ?_
 refine (LoopA.ind (fun i : Nat => ⟨29, [(0, .str s), (3, .int .i64 i)], [], false⟩) (fun i => s.length - i) (fun i => i ≤ s.length ∧ ∀ j (h : j < s.length), j < i → PartP s[j].toNat ∧ (j = 0 → (97 : Int) ≤ (s[j].toNat : Int) ∧ (s[j].toNat : Int) ≤ 122)) ?_ 0 ?_).sub rfl ?_ trivial rfl
 ·rintro i ⟨hi, ht⟩ K3 hK3
  refine run_ ?_
  refine RunsA.cond rfl (fun h2 => ?_) (fun h2 => ?_)
  ·simp only [decide_eq_true_eq] at h2
   have hilt : i < s.length := by omega
   have hg : s[i]? = some s[i] := List.getElem?_eq_getElem hilt
   have hb := byte_lt s[i]
   have hno : ∀ (h : ¬ (PartP s[i].toNat ∧ (i = 0 → (97 : Int) ≤ (s[i].toNat : Int) ∧ (s[i].toNat : Int) ≤ 122))), ¬ FormP s := fun h hf => h (hf.2.2 i hilt)
   have hyes : (PartP s[i].toNat ∧ (i = 0 → (97 : Int) ≤ (s[i].toNat : Int) ∧ (s[i].toNat : Int) ≤ 122)) → ∀ j (h : j < s.length), j < i + 1 → PartP s[j].toNat ∧ (j = 0 → (97 : Int) ≤ (s[j].toNat : Int) ∧ (s[j].toNat : Int) ≤ 122) := fun h j hj hji => by
    rcases Nat.lt_or_eq_of_le (Nat.lt_succ_iff.1 hji) with h3 | h3
    ·exact ht j hj h3
    ·subst h3; exact h
   generalize hgb : s[i] = b at *
   generalize hn : b.toNat = n at *
   by_cases c1 : (97 : Int) ≤ (n : Int) ∧ (n : Int) ≤ 122
   ·have e1 : decide ((97 : Int) ≤ (n : Int) ∧ (n : Int) ≤ 122) = true := decide_eq_true c1
    repeat' (first | refine ⟨by omega, ?_⟩ | (refine hJ _ _ (RunsL.nil ?_); clear hJ J) | refine RunsA.cond rfl (fun h => ?_) (fun h => absurd h (by decide)) | refine RunsA.cond rfl (fun h => absurd h (by decide)) (fun h => ?_) | (refine step_ ?_) | (refine RunsA.rk 4 [] tabOk fun J hJ => ?_; simp only [go_sem, ↓reduceIte, Nat.reduceAdd, Nat.reduceSub, Nat.reduceMul, Nat.reduceLT, Nat.reduceLeDiff, Nat.reduceEqDiff, Nat.reduceBEq, Int.reduceToNat, hg, hn, e1]; try simp (disch := omega) only [wrap_id]) | (refine hJ _ _ (call_ (ps := []) (rid := 16) rfl rfl rfl rfl rfl (l9Small_ok n hb) ?_); clear hJ J; rintro r os' ros ⟨rfl, rfl, rfl⟩ _; refine RunsL.go tabOk fun J hJ => ?_; simp only [go_sem, ↓reduceIte, Nat.reduceAdd, Nat.reduceSub, Nat.reduceMul, Nat.reduceLT, Nat.reduceLeDiff, Nat.reduceEqDiff, Nat.reduceBEq, Int.reduceToNat, hg, hn, e1]; try simp (disch := omega) only [wrap_id]) | simp only [↓reduceIte, not_false_eq_true, hg, hn, e1])
    all_goals exact hK3 (i + 1) _ ⟨by omega, hyes ⟨.inl c1, fun _ => c1⟩⟩ (by omega) rfl (by simp [SubS, lookS]) trivial rfl
   ·have e1 : decide ((97 : Int) ≤ (n : Int) ∧ (n : Int) ≤ 122) = false := decide_eq_false c1
    by_cases c0 : i = 0
    ·have e0 : ((i : Int) == 0) = true := beq_iff_eq.2 (by omega)
     have e00 : ((i : Int) = 0) = True := eq_true (by omega)
     have : ¬ FormP s := hno (fun h => c1 (h.2 c0))
     repeat' (first | refine ⟨by omega, ?_⟩ | (refine hJ _ _ (RunsL.nil ?_); clear hJ J) | refine RunsA.cond rfl (fun h => ?_) (fun h => absurd h (by decide)) | refine RunsA.cond rfl (fun h => absurd h (by decide)) (fun h => ?_) | (refine step_ ?_) | (refine RunsA.rk 4 [] tabOk fun J hJ => ?_; simp only [go_sem, ↓reduceIte, Nat.reduceAdd, Nat.reduceSub, Nat.reduceMul, Nat.reduceLT, Nat.reduceLeDiff, Nat.reduceEqDiff, Nat.reduceBEq, Int.reduceToNat, hg, hn, e1, e0, e00]; try simp (disch := omega) only [wrap_id]) | (refine hJ _ _ (call_ (ps := []) (rid := 16) rfl rfl rfl rfl rfl (l9Small_ok n hb) ?_); clear hJ J; rintro r os' ros ⟨rfl, rfl, rfl⟩ _; refine RunsL.go tabOk fun J hJ => ?_; simp only [go_sem, ↓reduceIte, Nat.reduceAdd, Nat.reduceSub, Nat.reduceMul, Nat.reduceLT, Nat.reduceLeDiff, Nat.reduceEqDiff, Nat.reduceBEq, Int.reduceToNat, hg, hn, e1, e0, e00]; try simp (disch := omega) only [wrap_id]) | simp only [↓reduceIte, not_false_eq_true, hg, hn, e1, e0, e00])
     all_goals exact RetA.mk tabOk 0 rfl rfl rfl (by omega) rfl rfl rfl ⟨by rw [decide_eq_false this]; rfl, rfl, rfl⟩
    ·have e0 : ((i : Int) == 0) = false := beq_eq_false_iff_ne.2 (by omega)
     have e00 : ((i : Int) = 0) = False := eq_false (by omega)
     by_cases c2 : (48 : Int) ≤ (n : Int) ∧ (n : Int) ≤ 57
     ·have e2 : decide ((48 : Int) ≤ (n : Int) ∧ (n : Int) ≤ 57) = true := decide_eq_true c2
      repeat' (first | refine ⟨by omega, ?_⟩ | (refine hJ _ _ (RunsL.nil ?_); clear hJ J) | refine RunsA.cond rfl (fun h => ?_) (fun h => absurd h (by decide)) | refine RunsA.cond rfl (fun h => absurd h (by decide)) (fun h => ?_) | (refine step_ ?_) | (refine RunsA.rk 4 [] tabOk fun J hJ => ?_; simp only [go_sem, ↓reduceIte, Nat.reduceAdd, Nat.reduceSub, Nat.reduceMul, Nat.reduceLT, Nat.reduceLeDiff, Nat.reduceEqDiff, Nat.reduceBEq, Int.reduceToNat, hg, hn, e1, e2, e0, e00]; try simp (disch := omega) only [wrap_id]) | (refine hJ _ _ (call_ (ps := []) (rid := 16) rfl rfl rfl rfl rfl (l9Small_ok n hb) ?_); clear hJ J; rintro r os' ros ⟨rfl, rfl, rfl⟩ _; refine RunsL.go tabOk fun J hJ => ?_; simp only [go_sem, ↓reduceIte, Nat.reduceAdd, Nat.reduceSub, Nat.reduceMul, Nat.reduceLT, Nat.reduceLeDiff, Nat.reduceEqDiff, Nat.reduceBEq, Int.reduceToNat, hg, hn, e1, e2, e0, e00]; try simp (disch := omega) only [wrap_id]) | (refine hJ _ _ (call_ (ps := []) (rid := 16) rfl rfl rfl rfl rfl (l9Digit_ok n hb) ?_); clear hJ J; rintro r os' ros ⟨rfl, rfl, rfl⟩ _; refine RunsL.go tabOk fun J hJ => ?_; simp only [go_sem, ↓reduceIte, Nat.reduceAdd, Nat.reduceSub, Nat.reduceMul, Nat.reduceLT, Nat.reduceLeDiff, Nat.reduceEqDiff, Nat.reduceBEq, Int.reduceToNat, hg, hn, e1, e2, e0, e00]; try simp (disch := omega) only [wrap_id]) | simp only [↓reduceIte, not_false_eq_true, hg, hn, e1, e2, e0, e00])
      all_goals exact hK3 (i + 1) _ ⟨by omega, hyes ⟨.inr c2, fun h => absurd h c0⟩⟩ (by omega) rfl (by simp [SubS, lookS]) trivial rfl
     ·have e2 : decide ((48 : Int) ≤ (n : Int) ∧ (n : Int) ≤ 57) = false := decide_eq_false c2
      have : ¬ FormP s := hno (fun h => h.1.elim c1 c2)
      repeat' (first | refine ⟨by omega, ?_⟩ | (refine hJ _ _ (RunsL.nil ?_); clear hJ J) | refine RunsA.cond rfl (fun h => ?_) (fun h => absurd h (by decide)) | refine RunsA.cond rfl (fun h => absurd h (by decide)) (fun h => ?_) | (refine step_ ?_) | (refine RunsA.rk 4 [] tabOk fun J hJ => ?_; simp only [go_sem, ↓reduceIte, Nat.reduceAdd, Nat.reduceSub, Nat.reduceMul, Nat.reduceLT, Nat.reduceLeDiff, Nat.reduceEqDiff, Nat.reduceBEq, Int.reduceToNat, hg, hn, e1, e2, e0, e00]; try simp (disch := omega) only [wrap_id]) | (refine hJ _ _ (call_ (ps := []) (rid := 16) rfl rfl rfl rfl rfl (l9Small_ok n hb) ?_); clear hJ J; rintro r os' ros ⟨rfl, rfl, rfl⟩ _; refine RunsL.go tabOk fun J hJ => ?_; simp only [go_sem, ↓reduceIte, Nat.reduceAdd, Nat.reduceSub, Nat.reduceMul, Nat.reduceLT, Nat.reduceLeDiff, Nat.reduceEqDiff, Nat.reduceBEq, Int.reduceToNat, hg, hn, e1, e2, e0, e00]; try simp (disch := omega) only [wrap_id]) | (refine hJ _ _ (call_ (ps := []) (rid := 16) rfl rfl rfl rfl rfl (l9Digit_ok n hb) ?_); clear hJ J; rintro r os' ros ⟨rfl, rfl, rfl⟩ _; refine RunsL.go tabOk fun J hJ => ?_; simp only [go_sem, ↓reduceIte, Nat.reduceAdd, Nat.reduceSub, Nat.reduceMul, Nat.reduceLT, Nat.reduceLeDiff, Nat.reduceEqDiff, Nat.reduceBEq, Int.reduceToNat, hg, hn, e1, e2, e0, e00]; try simp (disch := omega) only [wrap_id]) | simp only [↓reduceIte, not_false_eq_true, hg, hn, e1, e2, e0, e00])
      all_goals exact RetA.mk tabOk 0 rfl rfl rfl (by omega) rfl rfl rfl ⟨by rw [decide_eq_false this]; rfl, rfl, rfl⟩
  ·simp only [decide_eq_false_iff_not] at h2
   have e : decide (FormP s) = decide ((1 : Int) ≤ (s.length : Int) ∧ (s.length : Int) ≤ 6) := by
    rw [decide_eq_decide]
    constructor
    ·intro h; exact ⟨by have := h.1; omega, by have := h.2.1; omega⟩
    ·intro h; exact ⟨by omega, by omega, fun j hj => ht j hj (by omega)⟩
   rw [e]
   repeat' (first | refine ⟨by omega, ?_⟩ | (refine hJ _ _ (RunsL.nil ?_); clear hJ J) | refine RunsA.cond rfl (fun h => ?_) (fun h => absurd h (by decide)) | refine RunsA.cond rfl (fun h => absurd h (by decide)) (fun h => ?_) | (refine step_ ?_) | (refine RunsA.rk 4 [] tabOk fun J hJ => ?_; simp only [go_sem, ↓reduceIte, Nat.reduceAdd, Nat.reduceSub, Nat.reduceMul, Nat.reduceLT, Nat.reduceLeDiff, Nat.reduceEqDiff, Nat.reduceBEq, Int.reduceToNat, true_and]; try simp (disch := omega) only [wrap_id]) | (refine hJ _ _ (call_ (ps := []) (rid := 16) rfl rfl rfl rfl rfl (l1In_ok _ _ _) ?_); clear hJ J; rintro r os' ros ⟨rfl, rfl, rfl⟩ _; refine RunsL.go tabOk fun J hJ => ?_; simp only [go_sem, ↓reduceIte, Nat.reduceAdd, Nat.reduceSub, Nat.reduceMul, Nat.reduceLT, Nat.reduceLeDiff, Nat.reduceEqDiff, Nat.reduceBEq, Int.reduceToNat, true_and]; try simp (disch := omega) only [wrap_id]) | simp only [↓reduceIte, not_false_eq_true, true_and])
   all_goals exact RetA.mk tabOk 0 rfl rfl rfl (by omega) rfl rfl rfl ⟨rfl, rfl, rfl⟩
 ·exact ⟨Nat.zero_le _, fun j _ h => by omega⟩
 ·simp [SubS, lookS]
theorem l9Kept_ok : FnA Tryz.prog 89 false [] [] (fun r os ros => r = .hd 100 [] ∧ os = [] ∧ ros = [(1, strs (opW ++ regW))]) := by
 refine FnA.of Tryz.func89 rfl (by decide) Tryz.ntmps89 (by simp) ?_
 refine run_ ?_
 refine rv_ ?_
 refine vren_ 512 100 ?_
 exact RetV.mk 1 rfl rfl (by omega) rfl (by simp [noBoO, noBoL, noBo]) rfl ⟨rfl, rfl, rfl⟩
theorem opWords_ok : FnA Tryz.prog 68 false [] [] (fun r os ros => r = .hd 100 [] ∧ os = [] ∧ ros = [(1, strs opW)]) := by
 refine FnA.of Tryz.func68 rfl (by decide) Tryz.ntmps68 (by simp) ?_
 refine run_ ?_
 refine rv_ ?_
 refine vren_ 512 100 ?_
 exact RetV.mk 1 rfl rfl (by omega) rfl (by simp [noBoO, noBoL, noBo]) rfl ⟨rfl, rfl, rfl⟩
theorem regWords_ok : FnA Tryz.prog 124 false [] [] (fun r os ros => r = .hd 100 [] ∧ os = [] ∧ ros = [(1, strs regW)]) := by
 refine FnA.of Tryz.func124 rfl (by decide) Tryz.ntmps124 (by simp) ?_
 refine run_ ?_
 refine rv_ ?_
 refine vren_ 512 100 ?_
 exact RetV.mk 1 rfl rfl (by omega) rfl (by simp [noBoO, noBoL, noBo]) rfl ⟨rfl, rfl, rfl⟩
theorem atI_neg : ∀ (l : List Str) (s : Str) (k : Int), 0 ≤ k → (atI l s k < 0 ↔ ¬ s ∈ l)
 | [], s, k, h => by simp [atI]
 | x :: r, s, k, h => by
  unfold atI
  split
  ·rename_i e; subst e; simp; omega
  ·rename_i e
   rw [atI_neg r s (k + 1) (by omega)]
   simp only [List.mem_cons, not_or]
   exact ⟨fun h => ⟨fun e2 => e e2.symm, h⟩, fun h => h.2⟩
theorem l9Name_ok (s : Str) (hl : s.length ≤ 140737488355328) : FnA Tryz.prog 85 false [.str s] [] (fun res os ros => res = .bool (decide (NameP s)) ∧ os = [] ∧ ros = []) := by
 have hF := l9Form_ok s hl
 have hA := l9At_ok (opW ++ regW) s (by decide)
 have hn := atI_neg (opW ++ regW) s 0 (by omega)
 have hK := l9Kept_ok
 have hNP : NameP s ↔ FormP s ∧ ¬ s ∈ opW ++ regW := Iff.rfl
 refine FnA.of Tryz.func85 rfl (by decide) Tryz.ntmps85 (by simp) ?_
 generalize opW ++ regW = KL at *
 generalize atI KL s 0 = a at *
 by_cases c1 : FormP s
 ·have e1 := decide_eq_true c1
  have e2 : decide (NameP s) = decide (a < 0) := by rw [decide_eq_decide, hn, hNP]; exact ⟨fun h => h.2, fun h => ⟨c1, h⟩⟩
  rw [e2]
  refine run_ ?_
  refine rg_ ?_
  refine call_ (ps := []) (rid := 16) rfl rfl rfl rfl rfl (hF) ?_
  rintro r os' ros ⟨rfl, rfl, rfl⟩ _
  refine cg1_ @e1 ?_
  refine call_ (ps := []) (rid := 1792) rfl rfl rfl rfl rfl (hK) ?_
  rintro r os' ros ⟨rfl, rfl, rfl⟩ _
  refine cg1_ @e1 ?_
  refine call_ (ps := []) (rid := 16) (hy := by simp only [go_sem, Nat.reduceEqDiff, brw_strs]; first | done | rfl) rfl rfl rfl rfl rfl (hA) ?_
  refine cr1_ @e1 ?_
  refine run_ ?_
  exact RetA.mk tabOk 0 rfl rfl rfl (by omega) rfl rfl rfl ⟨rfl, rfl, rfl⟩
 ·have e1 := decide_eq_false c1
  have e2 : decide (NameP s) = false := decide_eq_false (fun h => c1 (hNP.1 h).1)
  rw [e2]
  refine run_ ?_
  refine rg_ ?_
  refine call_ (ps := []) (rid := 16) rfl rfl rfl rfl rfl (hF) ?_
  refine cr1_ @e1 ?_
  refine run_ ?_
  exact RetA.mk tabOk 0 rfl rfl rfl (by omega) rfl rfl rfl ⟨rfl, rfl, rfl⟩
end Go.Proofs.YtiilnlihimdnlaaGreatDoorFw
namespace Go.Proofs.YtiilnlihimdnlaaGreatDoorFw
open Go Go.RowKit
def runV (s : Str) (a : Nat) : Str := (s.drop a).takeWhile fun b => decide (PartP b.toNat)
theorem takeWhile_take {α : Type} (p : α → Bool) : ∀ (l : List α) (k : Nat), k ≤ l.length → (∀ j (h : j < l.length), j < k → p l[j] = true) → (∀ h : k < l.length, p l[k] = false) → l.takeWhile p = l.take k
 | [], k, hk, h1, h2 => by simp
 | x :: r, 0, hk, h1, h2 => by
  have := h2 (by simp)
  simp only [List.getElem_cons_zero] at this
  simp [List.takeWhile, this]
 | x :: r, k + 1, hk, h1, h2 => by
  have hx : p x = true := h1 0 (by simp) (by omega)
  have := takeWhile_take p r k (by simpa using hk) (fun j h hj => by have := h1 (j + 1) (by simp; omega) (by omega); simpa using this) (fun h => by have := h2 (by simp; omega); simpa using this)
  simp [List.takeWhile, hx, this]
theorem takeWhile_self {α : Type} (p : α → Bool) : ∀ l : List α, l.takeWhile p = l ↔ ∀ j (h : j < l.length), p l[j] = true
 | [] => by simp
 | x :: r => by
  have ih := takeWhile_self p r
  constructor
  ·intro h j hj
   by_cases hx : p x = true
   ·simp only [List.takeWhile, hx, List.cons.injEq, true_and] at h
    cases j with
    | zero => exact hx
    | succ j => simpa using ih.1 h j (by simpa using hj)
   ·simp [List.takeWhile, hx] at h
  ·intro h
   have hx : p x = true := h 0 (by simp)
   simp only [List.takeWhile, hx]
   rw [ih.2 (fun j hj => by have := h (j + 1) (by simp; omega); simpa using this)]
theorem runFrom_ok (s : Str) (a : Nat) (ha : a ≤ s.length) (hl : s.length ≤ 140737488355328) : FnA Tryz.prog 91 false [.str s, .int .i64 a] [] (fun res os ros => res = .str (runV s a) ∧ os = [] ∧ ros = []) := by
 refine FnA.of Tryz.func91 rfl (by decide) Tryz.ntmps91 (by simp) ?_
 refine run_ ?_
 refine RunsA.loop ?_
 refine (LoopA.ind (fun i : Nat => ⟨23, [(0, .str s), (1, .int .i64 a), (5, .int .i64 i)], [], false⟩) (fun i => s.length - i) (fun i => a ≤ i ∧ i ≤ s.length ∧ ∀ j (h : j < s.length), a ≤ j → j < i → PartP s[j].toNat) ?_ a ?_).sub rfl ?_ trivial rfl
 ·rintro i ⟨h0, hi, ht⟩ K3 hK3
  have hfin : (∀ h : i < s.length, ¬ PartP s[i].toNat) → (s.drop a).take (i - a) = runV s a := by
   intro hn
   unfold runV
   refine (takeWhile_take _ _ _ (by rw [List.length_drop]; omega) ?_ ?_).symm
   ·intro j hj hji
    rw [List.length_drop] at hj
    simp only [List.getElem_drop]
    exact decide_eq_true (ht (a + j) (by omega) (by omega) (by omega))
   ·intro hj
    rw [List.length_drop] at hj
    simp only [List.getElem_drop]
    have e : a + (i - a) = i := by omega
    have := hn (by omega)
    refine decide_eq_false ?_
    simpa only [e] using this
  by_cases h2 : i < s.length
  ·have hg : s[i]? = some s[i] := List.getElem?_eq_getElem h2
   have hb := byte_lt s[i]
   have e2 : decide ((i : Int) < (s.length : Int)) = true := decide_eq_true (by omega)
   have e22 : ((i : Int) < (s.length : Int)) = True := eq_true (by omega)
   by_cases c : PartP s[i].toNat
   ·have ec := decide_eq_true c
    have hyes : ∀ j (h : j < s.length), a ≤ j → j < i + 1 → PartP s[j].toNat := fun j hj h3 hji => by
     rcases Nat.lt_or_eq_of_le (Nat.lt_succ_iff.1 hji) with h4 | h4
     ·exact ht j hj h3 h4
     ·subst h4; exact c
    generalize s[i] = b at *
    generalize hn : b.toNat = n at *
    repeat' (first | refine ⟨by omega, ?_⟩ | (refine hJ _ _ (RunsL.nil ?_); clear hJ J) | refine RunsA.cond rfl (fun h => ?_) (fun h => absurd h (by decide)) | refine RunsA.cond rfl (fun h => absurd h (by decide)) (fun h => ?_) | (refine step_ ?_) | (refine RunsA.rk 6 [] tabOk fun J hJ => ?_; simp only [go_sem, ↓reduceIte, Nat.reduceAdd, Nat.reduceSub, Nat.reduceMul, Nat.reduceLT, Nat.reduceLeDiff, Nat.reduceEqDiff, Nat.reduceBEq, Int.reduceToNat, e2, e22, hg, hn, ec]; try simp (disch := omega) only [wrap_id]) | (refine hJ _ _ (call_ (ps := []) (rid := 16) rfl rfl rfl rfl rfl (isPart_ok n hb) ?_); clear hJ J; rintro r os' ros ⟨rfl, rfl, rfl⟩ _; refine RunsL.go tabOk fun J hJ => ?_; simp only [go_sem, ↓reduceIte, Nat.reduceAdd, Nat.reduceSub, Nat.reduceMul, Nat.reduceLT, Nat.reduceLeDiff, Nat.reduceEqDiff, Nat.reduceBEq, Int.reduceToNat, e2, e22, hg, hn, ec]; try simp (disch := omega) only [wrap_id]) | simp only [↓reduceIte, not_false_eq_true, e2, e22, hg, hn, ec])
    all_goals exact hK3 (i + 1) _ ⟨by omega, by omega, hyes⟩ (by omega) rfl (by simp [SubS, lookS]) trivial rfl
   ·have ec := decide_eq_false c
    have hf := hfin (fun _ => c)
    generalize s[i] = b at *
    generalize hn : b.toNat = n at *
    repeat' (first | refine ⟨by omega, ?_⟩ | (refine hJ _ _ (RunsL.nil ?_); clear hJ J) | refine RunsA.cond rfl (fun h => ?_) (fun h => absurd h (by decide)) | refine RunsA.cond rfl (fun h => absurd h (by decide)) (fun h => ?_) | (refine step_ ?_) | (refine RunsA.rk 6 [] tabOk fun J hJ => ?_; simp only [go_sem, ↓reduceIte, Nat.reduceAdd, Nat.reduceSub, Nat.reduceMul, Nat.reduceLT, Nat.reduceLeDiff, Nat.reduceEqDiff, Nat.reduceBEq, Int.reduceToNat, e2, e22, hg, hn, ec, hf]; try simp (disch := omega) only [wrap_id]) | (refine hJ _ _ (call_ (ps := []) (rid := 16) rfl rfl rfl rfl rfl (isPart_ok n hb) ?_); clear hJ J; rintro r os' ros ⟨rfl, rfl, rfl⟩ _; refine RunsL.go tabOk fun J hJ => ?_; simp only [go_sem, ↓reduceIte, Nat.reduceAdd, Nat.reduceSub, Nat.reduceMul, Nat.reduceLT, Nat.reduceLeDiff, Nat.reduceEqDiff, Nat.reduceBEq, Int.reduceToNat, e2, e22, hg, hn, ec, hf]; try simp (disch := omega) only [wrap_id]) | simp only [↓reduceIte, not_false_eq_true, e2, e22, hg, hn, ec, hf])
    all_goals exact RetA.mk tabOk 0 rfl rfl rfl (by omega) rfl rfl rfl ⟨rfl, rfl, rfl⟩
  ·have e2 : decide ((i : Int) < (s.length : Int)) = false := decide_eq_false (by omega)
   have e22 : ((i : Int) < (s.length : Int)) = False := eq_false (by omega)
   have hf := hfin (fun h => absurd h h2)
   repeat' (first | refine ⟨by omega, ?_⟩ | (refine hJ _ _ (RunsL.nil ?_); clear hJ J) | refine RunsA.cond rfl (fun h => ?_) (fun h => absurd h (by decide)) | refine RunsA.cond rfl (fun h => absurd h (by decide)) (fun h => ?_) | (refine step_ ?_) | (refine RunsA.rk 6 [] tabOk fun J hJ => ?_; simp only [go_sem, ↓reduceIte, Nat.reduceAdd, Nat.reduceSub, Nat.reduceMul, Nat.reduceLT, Nat.reduceLeDiff, Nat.reduceEqDiff, Nat.reduceBEq, Int.reduceToNat, e2, e22, hf]; try simp (disch := omega) only [wrap_id]) | simp only [↓reduceIte, not_false_eq_true, e2, e22, hf])
   all_goals exact RetA.mk tabOk 0 rfl rfl rfl (by omega) rfl rfl rfl ⟨rfl, rfl, rfl⟩
 ·exact ⟨Nat.le_refl _, ha, fun j _ h1 h2 => by omega⟩
 ·simp [SubS, lookS]
theorem formP_iff (s : Str) (h1 : 1 ≤ s.length) (h2 : s.length ≤ 6) : FormP s ↔ ((97 : Int) ≤ ((s[0]'(by omega)).toNat : Int) ∧ ((s[0]'(by omega)).toNat : Int) ≤ 122) ∧ runV s 0 = s := by
 unfold runV
 rw [List.drop_zero, takeWhile_self]
 constructor
 ·intro h
  exact ⟨(h.2.2 0 (by omega)).2 rfl, fun j hj => decide_eq_true (h.2.2 j hj).1⟩
 ·rintro ⟨ha, hb⟩
  refine ⟨h1, h2, fun i hi => ⟨of_decide_eq_true (hb i hi), fun h0 => ?_⟩⟩
  subst h0; exact ha
theorem hasForm_ok (s : Str) (hl : s.length ≤ 140737488355328) : FnA Tryz.prog 93 false [.str s] [] (fun res os ros => res = .bool (decide (FormP s)) ∧ os = [] ∧ ros = []) := by
 refine FnA.of Tryz.func93 rfl (by decide) Tryz.ntmps93 (by simp) ?_
 by_cases c : 1 ≤ s.length ∧ s.length ≤ 6
 ·have ew : decide ((1 : Int) ≤ (s.length : Int) ∧ (s.length : Int) ≤ 6) = true := decide_eq_true (by omega)
  have hF := formP_iff s c.1 c.2
  have hg : s[0]? = some (s[0]'(by omega)) := List.getElem?_eq_getElem (by omega)
  have hR := runFrom_ok s 0 (by omega) hl
  have hb := byte_lt (s[0]'(by omega))
  generalize s[0]'(by omega) = b at *
  generalize hn : b.toNat = n at *
  generalize runV s 0 = r at *
  by_cases c1 : (97 : Int) ≤ (n : Int) ∧ (n : Int) ≤ 122
  ·have e1 : decide ((97 : Int) ≤ (n : Int) ∧ (n : Int) ≤ 122) = true := decide_eq_true c1
   by_cases c2 : r = s
   ·have e3 : (r == s) = true := by simp [c2]
    have e4 : decide (r = s) = true := decide_eq_true c2
    have e5 : decide (FormP s) = true := decide_eq_true (hF.2 ⟨c1, c2⟩)
    rw [e5]
    repeat' (first | refine ⟨by omega, ?_⟩ | (refine hJ _ _ (RunsL.nil ?_); clear hJ J) | refine RunsA.cond rfl (fun h => ?_) (fun h => absurd h (by decide)) | refine RunsA.cond rfl (fun h => absurd h (by decide)) (fun h => ?_) | (refine step_ ?_) | (refine RunsA.rk 3 [] tabOk fun J hJ => ?_; simp only [go_sem, ↓reduceIte, Nat.reduceAdd, Nat.reduceSub, Nat.reduceMul, Nat.reduceLT, Nat.reduceLeDiff, Nat.reduceEqDiff, Nat.reduceBEq, Int.reduceToNat, ew, hg, hn, e1, e3, e4]; try simp (disch := omega) only [wrap_id]) | (refine hJ _ _ (call_ (ps := []) (rid := 16) rfl rfl rfl rfl rfl (within_ok _ _ _) ?_); clear hJ J; rintro r os' ros ⟨rfl, rfl, rfl⟩ _; refine RunsL.go tabOk fun J hJ => ?_; simp only [go_sem, ↓reduceIte, Nat.reduceAdd, Nat.reduceSub, Nat.reduceMul, Nat.reduceLT, Nat.reduceLeDiff, Nat.reduceEqDiff, Nat.reduceBEq, Int.reduceToNat, ew, hg, hn, e1, e3, e4]; try simp (disch := omega) only [wrap_id]) | (refine hJ _ _ (call_ (ps := []) (rid := 16) rfl rfl rfl rfl rfl (isLetter_ok n hb) ?_); clear hJ J; rintro r os' ros ⟨rfl, rfl, rfl⟩ _; refine RunsL.go tabOk fun J hJ => ?_; simp only [go_sem, ↓reduceIte, Nat.reduceAdd, Nat.reduceSub, Nat.reduceMul, Nat.reduceLT, Nat.reduceLeDiff, Nat.reduceEqDiff, Nat.reduceBEq, Int.reduceToNat, ew, hg, hn, e1, e3, e4]; try simp (disch := omega) only [wrap_id]) | (refine hJ _ _ (call_ (ps := []) (rid := 16) rfl rfl rfl rfl rfl (hR) ?_); clear hJ J; rintro r os' ros ⟨rfl, rfl, rfl⟩ _; refine RunsL.go tabOk fun J hJ => ?_; simp only [go_sem, ↓reduceIte, Nat.reduceAdd, Nat.reduceSub, Nat.reduceMul, Nat.reduceLT, Nat.reduceLeDiff, Nat.reduceEqDiff, Nat.reduceBEq, Int.reduceToNat, ew, hg, hn, e1, e3, e4]; try simp (disch := omega) only [wrap_id]) | simp only [↓reduceIte, not_false_eq_true, ew, hg, hn, e1, e3, e4])
    all_goals exact RetA.mk tabOk 0 rfl rfl rfl (by omega) rfl rfl rfl ⟨rfl, rfl, rfl⟩
   ·have e3 : (r == s) = false := by simp [c2]
    have e4 : decide (r = s) = false := decide_eq_false c2
    have e5 : decide (FormP s) = false := decide_eq_false (fun h => c2 (hF.1 h).2)
    rw [e5]
    repeat' (first | refine ⟨by omega, ?_⟩ | (refine hJ _ _ (RunsL.nil ?_); clear hJ J) | refine RunsA.cond rfl (fun h => ?_) (fun h => absurd h (by decide)) | refine RunsA.cond rfl (fun h => absurd h (by decide)) (fun h => ?_) | (refine step_ ?_) | (refine RunsA.rk 3 [] tabOk fun J hJ => ?_; simp only [go_sem, ↓reduceIte, Nat.reduceAdd, Nat.reduceSub, Nat.reduceMul, Nat.reduceLT, Nat.reduceLeDiff, Nat.reduceEqDiff, Nat.reduceBEq, Int.reduceToNat, ew, hg, hn, e1, e3, e4]; try simp (disch := omega) only [wrap_id]) | (refine hJ _ _ (call_ (ps := []) (rid := 16) rfl rfl rfl rfl rfl (within_ok _ _ _) ?_); clear hJ J; rintro r os' ros ⟨rfl, rfl, rfl⟩ _; refine RunsL.go tabOk fun J hJ => ?_; simp only [go_sem, ↓reduceIte, Nat.reduceAdd, Nat.reduceSub, Nat.reduceMul, Nat.reduceLT, Nat.reduceLeDiff, Nat.reduceEqDiff, Nat.reduceBEq, Int.reduceToNat, ew, hg, hn, e1, e3, e4]; try simp (disch := omega) only [wrap_id]) | (refine hJ _ _ (call_ (ps := []) (rid := 16) rfl rfl rfl rfl rfl (isLetter_ok n hb) ?_); clear hJ J; rintro r os' ros ⟨rfl, rfl, rfl⟩ _; refine RunsL.go tabOk fun J hJ => ?_; simp only [go_sem, ↓reduceIte, Nat.reduceAdd, Nat.reduceSub, Nat.reduceMul, Nat.reduceLT, Nat.reduceLeDiff, Nat.reduceEqDiff, Nat.reduceBEq, Int.reduceToNat, ew, hg, hn, e1, e3, e4]; try simp (disch := omega) only [wrap_id]) | (refine hJ _ _ (call_ (ps := []) (rid := 16) rfl rfl rfl rfl rfl (hR) ?_); clear hJ J; rintro r os' ros ⟨rfl, rfl, rfl⟩ _; refine RunsL.go tabOk fun J hJ => ?_; simp only [go_sem, ↓reduceIte, Nat.reduceAdd, Nat.reduceSub, Nat.reduceMul, Nat.reduceLT, Nat.reduceLeDiff, Nat.reduceEqDiff, Nat.reduceBEq, Int.reduceToNat, ew, hg, hn, e1, e3, e4]; try simp (disch := omega) only [wrap_id]) | simp only [↓reduceIte, not_false_eq_true, ew, hg, hn, e1, e3, e4])
    all_goals exact RetA.mk tabOk 0 rfl rfl rfl (by omega) rfl rfl rfl ⟨rfl, rfl, rfl⟩
  ·have e1 : decide ((97 : Int) ≤ (n : Int) ∧ (n : Int) ≤ 122) = false := decide_eq_false c1
   have e5 : decide (FormP s) = false := decide_eq_false (fun h => c1 (hF.1 h).1)
   rw [e5]
   repeat' (first | refine ⟨by omega, ?_⟩ | (refine hJ _ _ (RunsL.nil ?_); clear hJ J) | refine RunsA.cond rfl (fun h => ?_) (fun h => absurd h (by decide)) | refine RunsA.cond rfl (fun h => absurd h (by decide)) (fun h => ?_) | (refine step_ ?_) | (refine RunsA.rk 3 [] tabOk fun J hJ => ?_; simp only [go_sem, ↓reduceIte, Nat.reduceAdd, Nat.reduceSub, Nat.reduceMul, Nat.reduceLT, Nat.reduceLeDiff, Nat.reduceEqDiff, Nat.reduceBEq, Int.reduceToNat, ew, hg, hn, e1]; try simp (disch := omega) only [wrap_id]) | (refine hJ _ _ (call_ (ps := []) (rid := 16) rfl rfl rfl rfl rfl (within_ok _ _ _) ?_); clear hJ J; rintro r os' ros ⟨rfl, rfl, rfl⟩ _; refine RunsL.go tabOk fun J hJ => ?_; simp only [go_sem, ↓reduceIte, Nat.reduceAdd, Nat.reduceSub, Nat.reduceMul, Nat.reduceLT, Nat.reduceLeDiff, Nat.reduceEqDiff, Nat.reduceBEq, Int.reduceToNat, ew, hg, hn, e1]; try simp (disch := omega) only [wrap_id]) | (refine hJ _ _ (call_ (ps := []) (rid := 16) rfl rfl rfl rfl rfl (isLetter_ok n hb) ?_); clear hJ J; rintro r os' ros ⟨rfl, rfl, rfl⟩ _; refine RunsL.go tabOk fun J hJ => ?_; simp only [go_sem, ↓reduceIte, Nat.reduceAdd, Nat.reduceSub, Nat.reduceMul, Nat.reduceLT, Nat.reduceLeDiff, Nat.reduceEqDiff, Nat.reduceBEq, Int.reduceToNat, ew, hg, hn, e1]; try simp (disch := omega) only [wrap_id]) | (refine hJ _ _ (call_ (ps := []) (rid := 16) rfl rfl rfl rfl rfl (hR) ?_); clear hJ J; rintro r os' ros ⟨rfl, rfl, rfl⟩ _; refine RunsL.go tabOk fun J hJ => ?_; simp only [go_sem, ↓reduceIte, Nat.reduceAdd, Nat.reduceSub, Nat.reduceMul, Nat.reduceLT, Nat.reduceLeDiff, Nat.reduceEqDiff, Nat.reduceBEq, Int.reduceToNat, ew, hg, hn, e1]; try simp (disch := omega) only [wrap_id]) | simp only [↓reduceIte, not_false_eq_true, ew, hg, hn, e1])
   all_goals exact RetA.mk tabOk 0 rfl rfl rfl (by omega) rfl rfl rfl ⟨rfl, rfl, rfl⟩
 ·have ew : decide ((1 : Int) ≤ (s.length : Int) ∧ (s.length : Int) ≤ 6) = false := decide_eq_false (by omega)
  have e5 : decide (FormP s) = false := decide_eq_false (fun h => c ⟨h.1, h.2.1⟩)
  rw [e5]
  repeat' (first | refine ⟨by omega, ?_⟩ | (refine hJ _ _ (RunsL.nil ?_); clear hJ J) | refine RunsA.cond rfl (fun h => ?_) (fun h => absurd h (by decide)) | refine RunsA.cond rfl (fun h => absurd h (by decide)) (fun h => ?_) | (refine step_ ?_) | (refine RunsA.rk 3 [] tabOk fun J hJ => ?_; simp only [go_sem, ↓reduceIte, Nat.reduceAdd, Nat.reduceSub, Nat.reduceMul, Nat.reduceLT, Nat.reduceLeDiff, Nat.reduceEqDiff, Nat.reduceBEq, Int.reduceToNat, ew]; try simp (disch := omega) only [wrap_id]) | (refine hJ _ _ (call_ (ps := []) (rid := 16) rfl rfl rfl rfl rfl (within_ok _ _ _) ?_); clear hJ J; rintro r os' ros ⟨rfl, rfl, rfl⟩ _; refine RunsL.go tabOk fun J hJ => ?_; simp only [go_sem, ↓reduceIte, Nat.reduceAdd, Nat.reduceSub, Nat.reduceMul, Nat.reduceLT, Nat.reduceLeDiff, Nat.reduceEqDiff, Nat.reduceBEq, Int.reduceToNat, ew]; try simp (disch := omega) only [wrap_id]) | simp only [↓reduceIte, not_false_eq_true, ew])
  all_goals exact RetA.mk tabOk 0 rfl rfl rfl (by omega) rfl rfl rfl ⟨rfl, rfl, rfl⟩
theorem atI_pos (l : List Str) (s : Str) : decide ((0 : Int) ≤ atI l s 0) = decide (s ∈ l) := by
 rw [decide_eq_decide]
 have := atI_neg l s 0 (by omega)
 constructor
 ·intro h
  apply Classical.byContradiction
  intro h2
  have := this.2 h2
  omega
 ·intro h
  have h2 : ¬ atI l s 0 < 0 := fun h3 => this.1 h3 h
  omega
theorem isKept_ok (s : Str) : FnA Tryz.prog 96 false [.str s] [] (fun res os ros => res = .bool (decide (s ∈ opW ++ regW)) ∧ os = [] ∧ ros = []) := by
 have hO := opWords_ok
 have hR := regWords_ok
 have hA := placeIn_ok opW s (by decide)
 have hB := placeIn_ok regW s (by decide)
 have pa := atI_pos opW s
 have pb := atI_pos regW s
 refine FnA.of Tryz.func96 rfl (by decide) Tryz.ntmps96 (by simp) ?_
 generalize opW = U at *
 generalize regW = V at *
 by_cases c : s ∈ U
 ·have e1 : decide (s ∈ U) = true := decide_eq_true c
  have e2 : decide (s ∈ U ++ V) = true := decide_eq_true (List.mem_append.2 (.inl c))
  rw [e2]
  rw [e1] at pa
  refine run_ ?_
  refine rg_ ?_
  refine call_ (ps := []) (rid := 1024) rfl rfl rfl rfl rfl (hO) ?_
  rintro r os' ros ⟨rfl, rfl, rfl⟩ _
  refine cg_ ?_
  refine call_ (ps := []) (rid := 16) (hy := by simp only [go_sem, Nat.reduceEqDiff, brw_strs]; first | done | rfl) rfl rfl rfl rfl rfl (hA) ?_
  refine cr1_ @pa ?_
  refine run_ ?_
  exact RetA.mk tabOk 0 rfl rfl rfl (by omega) rfl rfl rfl ⟨rfl, rfl, rfl⟩
 ·have e1 : decide (s ∈ U) = false := decide_eq_false c
  have e2 : decide (s ∈ U ++ V) = decide (s ∈ V) := by rw [decide_eq_decide, List.mem_append]; exact ⟨fun h => h.elim (fun h => absurd h c) id, .inr⟩
  rw [e2]
  rw [e1] at pa
  refine run_ ?_
  refine rg_ ?_
  refine call_ (ps := []) (rid := 1024) rfl rfl rfl rfl rfl (hO) ?_
  rintro r os' ros ⟨rfl, rfl, rfl⟩ _
  refine cg_ ?_
  refine call_ (ps := []) (rid := 16) (hy := by simp only [go_sem, Nat.reduceEqDiff, brw_strs]; first | done | rfl) rfl rfl rfl rfl rfl (hA) ?_
  rintro r os' ros ⟨rfl, rfl, rfl⟩ _
  refine cg1_ @pa ?_
  refine call_ (ps := []) (rid := 2304) rfl rfl rfl rfl rfl (hR) ?_
  rintro r os' ros ⟨rfl, rfl, rfl⟩ _
  refine cg1_ @pa ?_
  refine call_ (ps := []) (rid := 16) (hy := by simp only [go_sem, Nat.reduceEqDiff, brw_strs]; first | done | rfl) rfl rfl rfl rfl rfl (hB) ?_
  refine cr2_ @pa @pb ?_
  refine run_ ?_
  exact RetA.mk tabOk 0 rfl rfl rfl (by omega) rfl rfl rfl ⟨rfl, rfl, rfl⟩
theorem isName_ok (s : Str) (hl : s.length ≤ 140737488355328) : FnA Tryz.prog 73 false [.str s] [] (fun res os ros => res = .bool (decide (NameP s)) ∧ os = [] ∧ ros = []) := by
 have hNP : NameP s ↔ FormP s ∧ ¬ s ∈ opW ++ regW := Iff.rfl
 have hF := hasForm_ok s hl
 have hK := isKept_ok s
 refine FnA.of Tryz.func73 rfl (by decide) Tryz.ntmps73 (by simp) ?_
 by_cases c : FormP s
 ·have e1 := decide_eq_true c
  by_cases c2 : s ∈ opW ++ regW
  ·have e2 := decide_eq_true c2
   have e3 : decide (NameP s) = false := decide_eq_false (fun h => (hNP.1 h).2 c2)
   rw [e3]
   repeat' (first | refine ⟨by omega, ?_⟩ | (refine hJ _ _ (RunsL.nil ?_); clear hJ J) | refine RunsA.cond rfl (fun h => ?_) (fun h => absurd h (by decide)) | refine RunsA.cond rfl (fun h => absurd h (by decide)) (fun h => ?_) | (refine step_ ?_) | (refine RunsA.rk 3 [] tabOk fun J hJ => ?_; simp only [go_sem, ↓reduceIte, Nat.reduceAdd, Nat.reduceSub, Nat.reduceMul, Nat.reduceLT, Nat.reduceLeDiff, Nat.reduceEqDiff, Nat.reduceBEq, Int.reduceToNat, e1, e2]; try simp (disch := omega) only [wrap_id]) | (refine hJ _ _ (call_ (ps := []) (rid := 16) rfl rfl rfl rfl rfl (hF) ?_); clear hJ J; rintro r os' ros ⟨rfl, rfl, rfl⟩ _; refine RunsL.go tabOk fun J hJ => ?_; simp only [go_sem, ↓reduceIte, Nat.reduceAdd, Nat.reduceSub, Nat.reduceMul, Nat.reduceLT, Nat.reduceLeDiff, Nat.reduceEqDiff, Nat.reduceBEq, Int.reduceToNat, e1, e2]; try simp (disch := omega) only [wrap_id]) | (refine hJ _ _ (call_ (ps := []) (rid := 16) rfl rfl rfl rfl rfl (hK) ?_); clear hJ J; rintro r os' ros ⟨rfl, rfl, rfl⟩ _; refine RunsL.go tabOk fun J hJ => ?_; simp only [go_sem, ↓reduceIte, Nat.reduceAdd, Nat.reduceSub, Nat.reduceMul, Nat.reduceLT, Nat.reduceLeDiff, Nat.reduceEqDiff, Nat.reduceBEq, Int.reduceToNat, e1, e2]; try simp (disch := omega) only [wrap_id]) | simp only [↓reduceIte, not_false_eq_true, e1, e2])
   all_goals exact RetA.mk tabOk 0 rfl rfl rfl (by omega) rfl rfl rfl ⟨rfl, rfl, rfl⟩
  ·have e2 := decide_eq_false c2
   have e3 : decide (NameP s) = true := decide_eq_true (hNP.2 ⟨c, c2⟩)
   rw [e3]
   repeat' (first | refine ⟨by omega, ?_⟩ | (refine hJ _ _ (RunsL.nil ?_); clear hJ J) | refine RunsA.cond rfl (fun h => ?_) (fun h => absurd h (by decide)) | refine RunsA.cond rfl (fun h => absurd h (by decide)) (fun h => ?_) | (refine step_ ?_) | (refine RunsA.rk 3 [] tabOk fun J hJ => ?_; simp only [go_sem, ↓reduceIte, Nat.reduceAdd, Nat.reduceSub, Nat.reduceMul, Nat.reduceLT, Nat.reduceLeDiff, Nat.reduceEqDiff, Nat.reduceBEq, Int.reduceToNat, e1, e2]; try simp (disch := omega) only [wrap_id]) | (refine hJ _ _ (call_ (ps := []) (rid := 16) rfl rfl rfl rfl rfl (hF) ?_); clear hJ J; rintro r os' ros ⟨rfl, rfl, rfl⟩ _; refine RunsL.go tabOk fun J hJ => ?_; simp only [go_sem, ↓reduceIte, Nat.reduceAdd, Nat.reduceSub, Nat.reduceMul, Nat.reduceLT, Nat.reduceLeDiff, Nat.reduceEqDiff, Nat.reduceBEq, Int.reduceToNat, e1, e2]; try simp (disch := omega) only [wrap_id]) | (refine hJ _ _ (call_ (ps := []) (rid := 16) rfl rfl rfl rfl rfl (hK) ?_); clear hJ J; rintro r os' ros ⟨rfl, rfl, rfl⟩ _; refine RunsL.go tabOk fun J hJ => ?_; simp only [go_sem, ↓reduceIte, Nat.reduceAdd, Nat.reduceSub, Nat.reduceMul, Nat.reduceLT, Nat.reduceLeDiff, Nat.reduceEqDiff, Nat.reduceBEq, Int.reduceToNat, e1, e2]; try simp (disch := omega) only [wrap_id]) | simp only [↓reduceIte, not_false_eq_true, e1, e2])
   all_goals exact RetA.mk tabOk 0 rfl rfl rfl (by omega) rfl rfl rfl ⟨rfl, rfl, rfl⟩
 ·have e1 := decide_eq_false c
  have e3 : decide (NameP s) = false := decide_eq_false (fun h => c (hNP.1 h).1)
  rw [e3]
  repeat' (first | refine ⟨by omega, ?_⟩ | (refine hJ _ _ (RunsL.nil ?_); clear hJ J) | refine RunsA.cond rfl (fun h => ?_) (fun h => absurd h (by decide)) | refine RunsA.cond rfl (fun h => absurd h (by decide)) (fun h => ?_) | (refine step_ ?_) | (refine RunsA.rk 3 [] tabOk fun J hJ => ?_; simp only [go_sem, ↓reduceIte, Nat.reduceAdd, Nat.reduceSub, Nat.reduceMul, Nat.reduceLT, Nat.reduceLeDiff, Nat.reduceEqDiff, Nat.reduceBEq, Int.reduceToNat, e1]; try simp (disch := omega) only [wrap_id]) | (refine hJ _ _ (call_ (ps := []) (rid := 16) rfl rfl rfl rfl rfl (hF) ?_); clear hJ J; rintro r os' ros ⟨rfl, rfl, rfl⟩ _; refine RunsL.go tabOk fun J hJ => ?_; simp only [go_sem, ↓reduceIte, Nat.reduceAdd, Nat.reduceSub, Nat.reduceMul, Nat.reduceLT, Nat.reduceLeDiff, Nat.reduceEqDiff, Nat.reduceBEq, Int.reduceToNat, e1]; try simp (disch := omega) only [wrap_id]) | (refine hJ _ _ (call_ (ps := []) (rid := 16) rfl rfl rfl rfl rfl (hK) ?_); clear hJ J; rintro r os' ros ⟨rfl, rfl, rfl⟩ _; refine RunsL.go tabOk fun J hJ => ?_; simp only [go_sem, ↓reduceIte, Nat.reduceAdd, Nat.reduceSub, Nat.reduceMul, Nat.reduceLT, Nat.reduceLeDiff, Nat.reduceEqDiff, Nat.reduceBEq, Int.reduceToNat, e1]; try simp (disch := omega) only [wrap_id]) | simp only [↓reduceIte, not_false_eq_true, e1])
  all_goals exact RetA.mk tabOk 0 rfl rfl rfl (by omega) rfl rfl rfl ⟨rfl, rfl, rfl⟩
end Go.Proofs.YtiilnlihimdnlaaGreatDoorFw
