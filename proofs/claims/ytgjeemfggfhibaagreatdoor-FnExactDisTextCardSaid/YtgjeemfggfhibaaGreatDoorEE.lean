/- Codes. -/
import Derived.Test.YtgjeemfggfhibaaGreatDoorDD
set_option linter.unusedVariables false
set_option linter.unusedSimpArgs false
set_option pp.deepTerms.threshold 6
set_option pp.deepTerms false
set_option maxRecDepth 4000
namespace Go.Proofs.YtgjeemfggfhibaaGreatDoorFw
open Go Go.RowKit
def baseL : List Int := [0, 4096, 8192, 16384, 20480, 24576, 57344, 2560, 2688, 2752, 2816, 3008, 3200, 3264, 64, 2048, 128, 256, 512, 768, 1024, 1280, 0, 34816]
theorem numsGet {l : List Int} {i : Nat} (h : i < l.length) : (nums l)[i]? = some (.int .i64 (l.getD i 0)) := by
  rw [nums_get h, List.getD_eq_getElem?_getD, List.getElem?_eq_getElem h]; rfl
theorem baseOf_ok (op : Int) (h : 0 ≤ op ∧ op ≤ 23) : FnA Tryz.prog 129 false [.int .i64 op] [] (fun r os ros => r = .int .i64 (baseL.getD op.toNat 0) ∧ os = [] ∧ ros = []) := by
  obtain ⟨i, rfl⟩ : ∃ i : Nat, op = i := ⟨op.toNat, by omega⟩
  have hi : i < baseL.length := by simp [baseL]; omega
  have hg := numsGet hi
  rw [Int.toNat_natCast]
  generalize baseL.getD i 0 = v at *
  simp only [nums, baseL, List.map_cons, List.map_nil] at hg
  refine FnA.of Tryz.func129 rfl (by decide) Tryz.ntmps129 (by simp) ?_
  refine run_ ?_
  refine RunsA.rq tabOk fun J hJ => ?_
  simp only [go_sem, ↓reduceIte, Nat.reduceAdd, Nat.reduceSub, Nat.reduceMul, Nat.reduceLT, Nat.reduceLeDiff, Nat.reduceEqDiff, Nat.reduceBEq, Int.reduceToNat, hg]
  try simp (disch := omega) only [wrap_id]
  (repeat refine ⟨by omega, ?_⟩)
  refine hJ _ _ (RunsL.nil ?_); clear hJ J
  refine run_ ?_
  exact RetA.mk tabOk 0 rfl rfl rfl (by omega) rfl rfl rfl ⟨rfl, rfl, rfl⟩
theorem l4Base_ok (op : Int) (h : 0 ≤ op ∧ op ≤ 23) : FnA Tryz.prog 116 false [.int .i64 op] [] (fun r os ros => r = .int .i64 (baseL.getD op.toNat 0) ∧ os = [] ∧ ros = []) := by
  obtain ⟨i, rfl⟩ : ∃ i : Nat, op = i := ⟨op.toNat, by omega⟩
  have hi : i < baseL.length := by simp [baseL]; omega
  have hg := numsGet hi
  rw [Int.toNat_natCast]
  generalize baseL.getD i 0 = v at *
  simp only [nums, baseL, List.map_cons, List.map_nil] at hg
  refine FnA.of Tryz.func116 rfl (by decide) Tryz.ntmps116 (by simp) ?_
  refine run_ ?_
  refine RunsA.rq tabOk fun J hJ => ?_
  simp only [go_sem, ↓reduceIte, Nat.reduceAdd, Nat.reduceSub, Nat.reduceMul, Nat.reduceLT, Nat.reduceLeDiff, Nat.reduceEqDiff, Nat.reduceBEq, Int.reduceToNat, hg]
  try simp (disch := omega) only [wrap_id]
  (repeat refine ⟨by omega, ?_⟩)
  refine hJ _ _ (RunsL.nil ?_); clear hJ J
  refine run_ ?_
  exact RetA.mk tabOk 0 rfl rfl rfl (by omega) rfl rfl rfl ⟨rfl, rfl, rfl⟩
theorem l4Opd_ok (n : Int) : FnA Tryz.prog 117 false [.int .i64 n] [] (fun r os ros => r = .agg [.int .i64 (bits .and .i64 (n / 2 ^ 3) 7), .int .i64 (bits .and .i64 n 7), .int .i64 0] ∧ os = [] ∧ ros = []) := by
  refine FnA.of Tryz.func117 rfl (by decide) Tryz.ntmps117 (by simp) ?_
  refine run_ ?_
  exact RetA.mk tabOk 0 rfl rfl rfl (by omega) rfl rfl rfl ⟨rfl, rfl, rfl⟩
end Go.Proofs.YtgjeemfggfhibaaGreatDoorFw
namespace Go.Proofs.YtgjeemfggfhibaaGreatDoorFw
open Go Go.RowKit
theorem and_high (n k j : Nat) (h : n < 2 ^ (k + j)) : n &&& ((2 ^ j - 1) * 2 ^ k) = n / 2 ^ k * 2 ^ k := by
  apply Nat.eq_of_testBit_eq
  intro i
  rw [Nat.testBit_and, Nat.testBit_mul_two_pow, Nat.testBit_mul_two_pow, Nat.testBit_two_pow_sub_one, Nat.testBit_div_two_pow]
  by_cases hi : k ≤ i
  · simp only [hi, decide_true, Bool.true_and]
    rw [show i - k + k = i by omega]
    by_cases hj : i - k < j
    · simp [hj]
    · have : n.testBit i = false := Nat.testBit_lt_two_pow (Nat.lt_of_lt_of_le h (Nat.pow_le_pow_right (by omega) (by omega)))
      simp [this]
  · simp [hi]
theorem bits_and_nat (n m : Nat) (hn : n < 9223372036854775808) (hm : m < 9223372036854775808) : bits .and .i64 (n : Int) (m : Int) = ((n &&& m : Nat) : Int) := by
  have h1 : n &&& m ≤ n := Nat.and_le_left
  unfold bits
  simp only [BitVec.toNat_and, BitVec.ofInt_natCast, BitVec.toNat_ofNat]
  rw [show IntKind.i64.bits = 64 from rfl, Nat.mod_eq_of_lt (by omega), Nat.mod_eq_of_lt (by omega), IntKind.wrap_i64]
  omega
theorem bits_andNot_nat (n m : Nat) (hn : n < 9223372036854775808) (hm : m < 9223372036854775808) : bits .andNot .i64 (n : Int) (m : Int) = ((n &&& (18446744073709551615 - m) : Nat) : Int) := by
  have h1 : n &&& (18446744073709551615 - m) ≤ n := Nat.and_le_left
  unfold bits
  simp only [BitVec.toNat_and, BitVec.ofInt_natCast, BitVec.toNat_ofNat, BitVec.toNat_not]
  rw [show IntKind.i64.bits = 64 from rfl, Nat.mod_eq_of_lt (by omega), Nat.mod_eq_of_lt (by omega), IntKind.wrap_i64]
  rw [show 2 ^ 64 - 1 - m = 18446744073709551615 - m from rfl]
  omega
theorem and_61440 (n : Nat) (h : n < 65536) : bits .and .i64 (n : Int) 61440 = ((n / 4096 * 4096 : Nat) : Int) := by
  have := bits_and_nat n 61440 (by omega) (by omega)
  rw [show ((61440 : Nat) : Int) = 61440 from rfl] at this
  rw [this, show (61440 : Nat) = (2 ^ 4 - 1) * 2 ^ 12 from rfl, and_high n 12 4 (by omega)]
theorem and_65472 (n : Nat) (h : n < 65536) : bits .and .i64 (n : Int) 65472 = ((n / 64 * 64 : Nat) : Int) := by
  have := bits_and_nat n 65472 (by omega) (by omega)
  rw [show ((65472 : Nat) : Int) = 65472 from rfl] at this
  rw [this, show (65472 : Nat) = (2 ^ 10 - 1) * 2 ^ 6 from rfl, and_high n 6 10 (by omega)]
theorem and_65024 (n : Nat) (h : n < 65536) : bits .and .i64 (n : Int) 65024 = ((n / 512 * 512 : Nat) : Int) := by
  have := bits_and_nat n 65024 (by omega) (by omega)
  rw [show ((65024 : Nat) : Int) = 65024 from rfl] at this
  rw [this, show (65024 : Nat) = (2 ^ 7 - 1) * 2 ^ 9 from rfl, and_high n 9 7 (by omega)]
theorem and_65528 (n : Nat) (h : n < 65536) : bits .and .i64 (n : Int) 65528 = ((n / 8 * 8 : Nat) : Int) := by
  have := bits_and_nat n 65528 (by omega) (by omega)
  rw [show ((65528 : Nat) : Int) = 65528 from rfl] at this
  rw [this, show (65528 : Nat) = (2 ^ 13 - 1) * 2 ^ 3 from rfl, and_high n 3 13 (by omega)]
theorem and_65280 (n : Nat) (h : n < 65536) : bits .and .i64 (n : Int) 65280 = ((n / 256 * 256 : Nat) : Int) := by
  have := bits_and_nat n 65280 (by omega) (by omega)
  rw [show ((65280 : Nat) : Int) = 65280 from rfl] at this
  rw [this, show (65280 : Nat) = (2 ^ 8 - 1) * 2 ^ 8 from rfl, and_high n 8 8 (by omega)]
theorem andNot_4095 (n : Nat) (h : n < 65536) : bits .andNot .i64 (n : Int) 4095 = ((n / 4096 * 4096 : Nat) : Int) := by
  have := bits_andNot_nat n 4095 (by omega) (by omega)
  rw [show ((4095 : Nat) : Int) = 4095 from rfl] at this
  rw [this, show (18446744073709551615 - 4095 : Nat) = (2 ^ 52 - 1) * 2 ^ 12 from rfl, and_high n 12 52 (by omega)]
theorem andNot_511 (n : Nat) (h : n < 65536) : bits .andNot .i64 (n : Int) 511 = ((n / 512 * 512 : Nat) : Int) := by
  have := bits_andNot_nat n 511 (by omega) (by omega)
  rw [show ((511 : Nat) : Int) = 511 from rfl] at this
  rw [this, show (18446744073709551615 - 511 : Nat) = (2 ^ 55 - 1) * 2 ^ 9 from rfl, and_high n 9 55 (by omega)]
theorem andNot_63 (n : Nat) (h : n < 65536) : bits .andNot .i64 (n : Int) 63 = ((n / 64 * 64 : Nat) : Int) := by
  have := bits_andNot_nat n 63 (by omega) (by omega)
  rw [show ((63 : Nat) : Int) = 63 from rfl] at this
  rw [this, show (18446744073709551615 - 63 : Nat) = (2 ^ 58 - 1) * 2 ^ 6 from rfl, and_high n 6 58 (by omega)]
theorem andNot_7 (n : Nat) (h : n < 65536) : bits .andNot .i64 (n : Int) 7 = ((n / 8 * 8 : Nat) : Int) := by
  have := bits_andNot_nat n 7 (by omega) (by omega)
  rw [show ((7 : Nat) : Int) = 7 from rfl] at this
  rw [this, show (18446744073709551615 - 7 : Nat) = (2 ^ 61 - 1) * 2 ^ 3 from rfl, and_high n 3 61 (by omega)]
theorem andNot_255 (n : Nat) (h : n < 65536) : bits .andNot .i64 (n : Int) 255 = ((n / 256 * 256 : Nat) : Int) := by
  have := bits_andNot_nat n 255 (by omega) (by omega)
  rw [show ((255 : Nat) : Int) = 255 from rfl] at this
  rw [this, show (18446744073709551615 - 255 : Nat) = (2 ^ 56 - 1) * 2 ^ 8 from rfl, and_high n 8 56 (by omega)]
theorem and_7 (n : Nat) (h : n < 65536) : bits .and .i64 (n : Int) 7 = ((n % 8 : Nat) : Int) := by
  have := bits_and_nat n 7 (by omega) (by omega)
  rw [show ((7 : Nat) : Int) = 7 from rfl] at this
  rw [this, show (7 : Nat) = 2 ^ 3 - 1 from rfl, Nat.and_two_pow_sub_one_eq_mod]
theorem and_255 (n : Nat) (h : n < 65536) : bits .and .i64 (n : Int) 255 = ((n % 256 : Nat) : Int) := by
  have := bits_and_nat n 255 (by omega) (by omega)
  rw [show ((255 : Nat) : Int) = 255 from rfl] at this
  rw [this, show (255 : Nat) = 2 ^ 8 - 1 from rfl, Nat.and_two_pow_sub_one_eq_mod]
theorem andNot_0 (n : Nat) (h : n < 65536) : bits .andNot .i64 (n : Int) 0 = (n : Int) := by
  have := bits_andNot_nat n 0 (by omega) (by omega)
  rw [show ((0 : Nat) : Int) = 0 from rfl] at this
  rw [this, show (18446744073709551615 - 0 : Nat) = 2 ^ 64 - 1 from rfl, Nat.and_two_pow_sub_one_eq_mod, Nat.mod_eq_of_lt (by omega)]
end Go.Proofs.YtgjeemfggfhibaaGreatDoorFw
namespace Go.Proofs.YtgjeemfggfhibaaGreatDoorFw
open Go Go.RowKit
def freeV (i : Nat) : Int := if 1 ≤ i ∧ i ≤ 6 then 4095 else if i = 15 then 511 else if 1 ≤ i ∧ i ≤ 15 then 63 else if i = 16 then 7 else if (17 ≤ i ∧ i ≤ 21) ∨ i = 23 then 255 else 0
def opIF (n : Int) : Nat → Nat → Int
  | _, 0 => 0
  | i, k + 1 => if bits .andNot .i64 n (freeV i) = baseL.getD i 0 then i else opIF n (i + 1) k
set_option maxHeartbeats 2000000 in
theorem opOf_ok (n : Int) : FnA Tryz.prog 71 false [.int .i64 n] [] (fun r os ros => r = .int .i64 (opIF n 1 23) ∧ os = [] ∧ ros = []) := by
  refine FnA.of Tryz.func71 rfl (by decide) Tryz.ntmps71 (by simp) ?_
  refine run_ ?_
  refine RunsA.loop ?_
  refine (LoopA.ind (fun i : Nat => ⟨35, [(0, .int .i64 n), (3, .int .i64 i)], [], false⟩) (fun i => 24 - i) (fun i => 1 ≤ i ∧ i ≤ 24 ∧ opIF n i (24 - i) = opIF n 1 23) ?_ 1 ?_).sub rfl ?_ ?_ rfl
  · rintro i ⟨h0, hi, ht⟩ K3 hK3
    refine run_ ?_
    refine RunsA.cond rfl (fun h2 => ?_) (fun h2 => ?_)
    · simp only [decide_eq_true_eq] at h2
      have hi2 : i ≤ 23 := by omega
      rw [show 24 - i = (24 - (i + 1)) + 1 by omega, opIF] at ht
      refine RunsA.sk ?_
      refine At.n ?_
      refine RunsA.sq ?_
      refine RunsA.bk ?_
      refine RunsA.sq ?_
      refine RunsA.rk 4 [] tabOk fun J hJ => ?_
      simp only [go_sem, ↓reduceIte, Nat.reduceAdd, Nat.reduceSub, Nat.reduceMul, Nat.reduceLT, Nat.reduceLeDiff, Nat.reduceEqDiff, Nat.reduceBEq, Int.reduceToNat]
      try simp (disch := omega) only [wrap_id]
      (repeat refine ⟨by omega, ?_⟩)
      refine hJ _ _ (RunsL.nil ?_); clear hJ J
      refine At.n ?_
      refine RunsA.meet ⟨35, [(0, .int .i64 n), (3, .int .i64 i), (4, .int .i64 (freeV i))], [], false⟩ ?_ ?_
      · have hr : (1 ≤ i ∧ i ≤ 6) ∨ i = 15 ∨ (7 ≤ i ∧ i ≤ 14) ∨ i = 16 ∨ (17 ≤ i ∧ i ≤ 21) ∨ i = 23 ∨ i = 22 := by omega
        rcases hr with hr | hr | hr | hr | hr | hr | hr
        all_goals (first | have s6 : decide ((1 : Int) ≤ (i : Nat) ∧ ((i : Nat) : Int) ≤ 6) = true := decide_eq_true (by omega) | have s6 : decide ((1 : Int) ≤ (i : Nat) ∧ ((i : Nat) : Int) ≤ 6) = false := decide_eq_false (by omega))
        all_goals (first | have s15 : decide ((1 : Int) ≤ (i : Nat) ∧ ((i : Nat) : Int) ≤ 15) = true := decide_eq_true (by omega) | have s15 : decide ((1 : Int) ≤ (i : Nat) ∧ ((i : Nat) : Int) ≤ 15) = false := decide_eq_false (by omega))
        all_goals (first | have eb : decide ((17 : Int) ≤ (i : Nat) ∧ ((i : Nat) : Int) ≤ 21) = true := decide_eq_true (by omega) | have eb : decide ((17 : Int) ≤ (i : Nat) ∧ ((i : Nat) : Int) ≤ 21) = false := decide_eq_false (by omega))
        all_goals (first | have f15 : (((i : Nat) : Int) == 15) = true := beq_iff_eq.2 (by omega) | have f15 : (((i : Nat) : Int) == 15) = false := beq_eq_false_iff_ne.2 (by omega))
        all_goals (first | have f16 : (((i : Nat) : Int) == 16) = true := beq_iff_eq.2 (by omega) | have f16 : (((i : Nat) : Int) == 16) = false := beq_eq_false_iff_ne.2 (by omega))
        all_goals (first | have f23 : (((i : Nat) : Int) == 23) = true := beq_iff_eq.2 (by omega) | have f23 : (((i : Nat) : Int) == 23) = false := beq_eq_false_iff_ne.2 (by omega))
        all_goals (first
          | have hv : freeV i = 4095 := by unfold freeV; rw [if_pos (by omega)]
          | have hv : freeV i = 511 := by unfold freeV; rw [if_neg (by omega), if_pos (by omega)]
          | have hv : freeV i = 63 := by unfold freeV; rw [if_neg (by omega), if_neg (by omega), if_pos (by omega)]
          | have hv : freeV i = 7 := by unfold freeV; rw [if_neg (by omega), if_neg (by omega), if_neg (by omega), if_pos (by omega)]
          | have hv : freeV i = 255 := by unfold freeV; rw [if_neg (by omega), if_neg (by omega), if_neg (by omega), if_neg (by omega), if_pos (by omega)]
          | have hv : freeV i = 0 := by unfold freeV; rw [if_neg (by omega), if_neg (by omega), if_neg (by omega), if_neg (by omega), if_neg (by omega)])
        all_goals rw [hv]
        all_goals (repeat' (first | refine ⟨by omega, ?_⟩ | (refine hJ _ _ (RunsL.nil ?_); clear hJ J) | refine RunsA.cond rfl (fun h => ?_) (fun h => absurd h (by decide)) | refine RunsA.cond rfl (fun h => absurd h (by decide)) (fun h => ?_) | (refine step_ ?_) | (refine RunsA.rk 5 [] tabOk fun J hJ => ?_; simp only [go_sem, ↓reduceIte, Nat.reduceAdd, Nat.reduceSub, Nat.reduceMul, Nat.reduceLT, Nat.reduceLeDiff, Nat.reduceEqDiff, Nat.reduceBEq, Int.reduceToNat, s6, s15, eb, f15, f16, f23]; try simp (disch := omega) only [wrap_id]) | (refine hJ _ _ (RunsL.call (ps := []) (rid := 16) rfl rfl rfl rfl rfl (by simp only [go_sem, Nat.reduceEqDiff]; first | done | rfl) (hasSrc_ok _) rfl (by decide) ⟨by decide, by decide, rfl⟩ (by first | exact .inl rfl | exact .inr (.inl rfl) | exact .inr (.inr rfl)) ?_); clear hJ J; rintro r os' ros ⟨rfl, rfl, rfl⟩ _; refine RunsL.go tabOk fun J hJ => ?_; simp only [go_sem, ↓reduceIte, Nat.reduceAdd, Nat.reduceSub, Nat.reduceMul, Nat.reduceLT, Nat.reduceLeDiff, Nat.reduceEqDiff, Nat.reduceBEq, Int.reduceToNat, s6, s15, eb, f15, f16, f23]; try simp (disch := omega) only [wrap_id]) | (refine hJ _ _ (RunsL.call (ps := []) (rid := 16) rfl rfl rfl rfl rfl (by simp only [go_sem, Nat.reduceEqDiff]; first | done | rfl) (hasDst_ok _) rfl (by decide) ⟨by decide, by decide, rfl⟩ (by first | exact .inl rfl | exact .inr (.inl rfl) | exact .inr (.inr rfl)) ?_); clear hJ J; rintro r os' ros ⟨rfl, rfl, rfl⟩ _; refine RunsL.go tabOk fun J hJ => ?_; simp only [go_sem, ↓reduceIte, Nat.reduceAdd, Nat.reduceSub, Nat.reduceMul, Nat.reduceLT, Nat.reduceLeDiff, Nat.reduceEqDiff, Nat.reduceBEq, Int.reduceToNat, s6, s15, eb, f15, f16, f23]; try simp (disch := omega) only [wrap_id]) | (refine hJ _ _ (RunsL.call (ps := []) (rid := 16) rfl rfl rfl rfl rfl (by simp only [go_sem, Nat.reduceEqDiff]; first | done | rfl) (isBranch_ok _) rfl (by decide) ⟨by decide, by decide, rfl⟩ (by first | exact .inl rfl | exact .inr (.inl rfl) | exact .inr (.inr rfl)) ?_); clear hJ J; rintro r os' ros ⟨rfl, rfl, rfl⟩ _; refine RunsL.go tabOk fun J hJ => ?_; simp only [go_sem, ↓reduceIte, Nat.reduceAdd, Nat.reduceSub, Nat.reduceMul, Nat.reduceLT, Nat.reduceLeDiff, Nat.reduceEqDiff, Nat.reduceBEq, Int.reduceToNat, s6, s15, eb, f15, f16, f23]; try simp (disch := omega) only [wrap_id])))
        all_goals (first | (refine ⟨?_, trivial, rfl⟩; simp [SubS, lookS]; done) | (refine ⟨rfl, ?_, trivial, rfl⟩; simp [SubS, lookS]; done))
      · refine run_ ?_
        refine RunsA.rq tabOk fun J hJ => ?_
        simp only [go_sem, ↓reduceIte, Nat.reduceAdd, Nat.reduceSub, Nat.reduceMul, Nat.reduceLT, Nat.reduceLeDiff, Nat.reduceEqDiff, Nat.reduceBEq, Int.reduceToNat]
        try simp (disch := omega) only [wrap_id]
        refine hJ _ _ (RunsL.call (ps := []) (rid := 16) rfl rfl rfl rfl rfl (by simp only [go_sem, Nat.reduceEqDiff]; first | done | rfl) (baseOf_ok i (by omega)) rfl (by decide) ⟨by decide, by decide, rfl⟩ (by first | exact .inl rfl | exact .inr (.inl rfl) | exact .inr (.inr rfl)) ?_); clear hJ J
        rintro r os' ros ⟨rfl, rfl, rfl⟩ _
        refine RunsL.go tabOk fun J hJ => ?_
        simp only [go_sem, ↓reduceIte, Nat.reduceAdd, Nat.reduceSub, Nat.reduceMul, Nat.reduceLT, Nat.reduceLeDiff, Nat.reduceEqDiff, Nat.reduceBEq, Int.reduceToNat]
        try simp (disch := omega) only [wrap_id]
        (repeat refine ⟨by omega, ?_⟩)
        refine hJ _ _ (RunsL.nil ?_); clear hJ J
        refine run_ ?_
        refine RunsA.cond rfl (fun h3 => ?_) (fun h3 => ?_)
        · rw [beq_iff_eq] at h3
          rw [if_pos (by simpa using h3)] at ht
          refine run_ ?_
          exact RetA.mk tabOk 0 rfl rfl rfl (by omega) rfl rfl rfl ⟨by rw [← ht]; rfl, rfl, rfl⟩
        · rw [beq_eq_false_iff_ne] at h3
          rw [if_neg (by simpa using h3)] at ht
          refine run_ ?_
          exact hK3 (i + 1) _ ⟨by omega, by omega, ht⟩ (by omega) rfl (by simp [SubS, lookS]) trivial rfl
    · simp only [decide_eq_false_iff_not] at h2
      have : i = 24 := by omega
      subst this
      refine run_ ?_
      exact RetA.mk tabOk 0 rfl rfl rfl (by omega) rfl rfl rfl ⟨by rw [← ht]; rfl, rfl, rfl⟩
  · exact ⟨by omega, by omega, rfl⟩
  · simp [SubS, lookS]
  · trivial
end Go.Proofs.YtgjeemfggfhibaaGreatDoorFw
namespace Go.Proofs.YtgjeemfggfhibaaGreatDoorFw
open Go Go.RowKit
def opF (h : Nat) (r z : Bool) : Nat := if h / 64 = 1 then 1 else if h / 64 = 2 then 2 else if h / 64 = 4 then 3 else if h / 64 = 5 then 4 else if h / 64 = 6 then 5 else if h / 64 = 14 then 6 else if h = 40 then 7 else if h = 42 then 8 else if h = 43 then 9 else if h = 44 then 10 else if h = 47 then 11 else if h = 50 then 12 else if h = 51 then 13 else if h = 1 then 14 else if h / 8 = 4 then 15 else if r = true then 16 else if h / 4 = 1 then 17 else if h / 4 = 2 then 18 else if h / 4 = 3 then 19 else if h / 4 = 4 then 20 else if h / 4 = 5 then 21 else if z = true then 22 else if h / 4 = 136 then 23 else 0
def opG (h : Nat) (r z : Bool) : Nat := if z = true then 22 else if (if h / 64 = 1 then 1 else if h / 64 = 2 then 2 else if h / 64 = 4 then 3 else if h / 64 = 5 then 4 else if h / 64 = 6 then 5 else if h / 64 = 14 then 6 else 0) ≠ 0 then (if h / 64 = 1 then 1 else if h / 64 = 2 then 2 else if h / 64 = 4 then 3 else if h / 64 = 5 then 4 else if h / 64 = 6 then 5 else if h / 64 = 14 then 6 else 0) else if (if h = 40 then 7 else if h = 42 then 8 else if h = 43 then 9 else if h = 44 then 10 else if h = 47 then 11 else if h = 50 then 12 else if h = 51 then 13 else if h = 1 then 14 else 0) ≠ 0 then (if h = 40 then 7 else if h = 42 then 8 else if h = 43 then 9 else if h = 44 then 10 else if h = 47 then 11 else if h = 50 then 12 else if h = 51 then 13 else if h = 1 then 14 else 0) else if h / 8 = 4 then 15 else if r = true then 16 else if h / 4 = 136 then 23 else if h / 4 = 1 then 17 else if h / 4 = 2 then 18 else if h / 4 = 3 then 19 else if h / 4 = 4 then 20 else if h / 4 = 5 then 21 else 0
theorem cast_if (c : Prop) [Decidable c] (a b : Nat) : (((if c then a else b : Nat)) : Int) = if c then (a : Int) else (b : Int) := by split <;> rfl
theorem opFG0 : ∀ h : Fin 1024, opF h.val false false = opG h.val false false := by decide +kernel
theorem opFG (n : Nat) (h : n < 65536) : opF (n / 64) (decide (n / 8 = 16)) (decide (n = 0)) = opG (n / 64) (decide (n / 8 = 16)) (decide (n = 0)) := by
  by_cases h1 : n / 8 = 16
  · rw [decide_eq_true h1, decide_eq_false (by omega : ¬ n = 0), show n / 64 = 2 by omega]; decide +kernel
  · by_cases h2 : n = 0
    · subst h2; decide +kernel
    · rw [decide_eq_false h1, decide_eq_false h2]; exact opFG0 ⟨n / 64, by omega⟩
def opV (n : Nat) : Nat := opF (n / 64) (decide (n / 8 = 16)) (decide (n = 0))
def srch (n : Int) (m : Int) : Nat → Nat → Nat
  | _, 0 => 0
  | i, k + 1 => if bits .and .i64 n m = baseL.getD i 0 then i else srch n m (i + 1) k
theorem freeV1 : freeV 1 = 4095 := by decide
theorem freeV2 : freeV 2 = 4095 := by decide
theorem freeV3 : freeV 3 = 4095 := by decide
theorem freeV4 : freeV 4 = 4095 := by decide
theorem freeV5 : freeV 5 = 4095 := by decide
theorem freeV6 : freeV 6 = 4095 := by decide
theorem freeV7 : freeV 7 = 63 := by decide
theorem freeV8 : freeV 8 = 63 := by decide
theorem freeV9 : freeV 9 = 63 := by decide
theorem freeV10 : freeV 10 = 63 := by decide
theorem freeV11 : freeV 11 = 63 := by decide
theorem freeV12 : freeV 12 = 63 := by decide
theorem freeV13 : freeV 13 = 63 := by decide
theorem freeV14 : freeV 14 = 63 := by decide
theorem freeV15 : freeV 15 = 511 := by decide
theorem freeV16 : freeV 16 = 7 := by decide
theorem freeV17 : freeV 17 = 255 := by decide
theorem freeV18 : freeV 18 = 255 := by decide
theorem freeV19 : freeV 19 = 255 := by decide
theorem freeV20 : freeV 20 = 255 := by decide
theorem freeV21 : freeV 21 = 255 := by decide
theorem freeV22 : freeV 22 = 0 := by decide
theorem freeV23 : freeV 23 = 255 := by decide
theorem baseL1 : baseL.getD 1 0 = 4096 := rfl
theorem baseL2 : baseL.getD 2 0 = 8192 := rfl
theorem baseL3 : baseL.getD 3 0 = 16384 := rfl
theorem baseL4 : baseL.getD 4 0 = 20480 := rfl
theorem baseL5 : baseL.getD 5 0 = 24576 := rfl
theorem baseL6 : baseL.getD 6 0 = 57344 := rfl
theorem baseL7 : baseL.getD 7 0 = 2560 := rfl
theorem baseL8 : baseL.getD 8 0 = 2688 := rfl
theorem baseL9 : baseL.getD 9 0 = 2752 := rfl
theorem baseL10 : baseL.getD 10 0 = 2816 := rfl
theorem baseL11 : baseL.getD 11 0 = 3008 := rfl
theorem baseL12 : baseL.getD 12 0 = 3200 := rfl
theorem baseL13 : baseL.getD 13 0 = 3264 := rfl
theorem baseL14 : baseL.getD 14 0 = 64 := rfl
theorem baseL15 : baseL.getD 15 0 = 2048 := rfl
theorem baseL16 : baseL.getD 16 0 = 128 := rfl
theorem baseL17 : baseL.getD 17 0 = 256 := rfl
theorem baseL18 : baseL.getD 18 0 = 512 := rfl
theorem baseL19 : baseL.getD 19 0 = 768 := rfl
theorem baseL20 : baseL.getD 20 0 = 1024 := rfl
theorem baseL21 : baseL.getD 21 0 = 1280 := rfl
theorem baseL22 : baseL.getD 22 0 = 0 := rfl
theorem baseL23 : baseL.getD 23 0 = 34816 := rfl
theorem opIF_eq (n : Nat) (hn : n < 65536) : opIF (n : Int) 1 23 = ((opV n : Nat) : Int) := by
  have c1 : ((((n / 4096 * 4096 : Nat)) : Int) = 4096) ↔ (n / 64 / 64 = 1) := by omega
  have c2 : ((((n / 4096 * 4096 : Nat)) : Int) = 8192) ↔ (n / 64 / 64 = 2) := by omega
  have c3 : ((((n / 4096 * 4096 : Nat)) : Int) = 16384) ↔ (n / 64 / 64 = 4) := by omega
  have c4 : ((((n / 4096 * 4096 : Nat)) : Int) = 20480) ↔ (n / 64 / 64 = 5) := by omega
  have c5 : ((((n / 4096 * 4096 : Nat)) : Int) = 24576) ↔ (n / 64 / 64 = 6) := by omega
  have c6 : ((((n / 4096 * 4096 : Nat)) : Int) = 57344) ↔ (n / 64 / 64 = 14) := by omega
  have c7 : ((((n / 64 * 64 : Nat)) : Int) = 2560) ↔ (n / 64 = 40) := by omega
  have c8 : ((((n / 64 * 64 : Nat)) : Int) = 2688) ↔ (n / 64 = 42) := by omega
  have c9 : ((((n / 64 * 64 : Nat)) : Int) = 2752) ↔ (n / 64 = 43) := by omega
  have c10 : ((((n / 64 * 64 : Nat)) : Int) = 2816) ↔ (n / 64 = 44) := by omega
  have c11 : ((((n / 64 * 64 : Nat)) : Int) = 3008) ↔ (n / 64 = 47) := by omega
  have c12 : ((((n / 64 * 64 : Nat)) : Int) = 3200) ↔ (n / 64 = 50) := by omega
  have c13 : ((((n / 64 * 64 : Nat)) : Int) = 3264) ↔ (n / 64 = 51) := by omega
  have c14 : ((((n / 64 * 64 : Nat)) : Int) = 64) ↔ (n / 64 = 1) := by omega
  have c15 : ((((n / 512 * 512 : Nat)) : Int) = 2048) ↔ (n / 64 / 8 = 4) := by omega
  have c16 : ((((n / 8 * 8 : Nat)) : Int) = 128) ↔ (n / 8 = 16) := by omega
  have c17 : ((((n / 256 * 256 : Nat)) : Int) = 256) ↔ (n / 64 / 4 = 1) := by omega
  have c18 : ((((n / 256 * 256 : Nat)) : Int) = 512) ↔ (n / 64 / 4 = 2) := by omega
  have c19 : ((((n / 256 * 256 : Nat)) : Int) = 768) ↔ (n / 64 / 4 = 3) := by omega
  have c20 : ((((n / 256 * 256 : Nat)) : Int) = 1024) ↔ (n / 64 / 4 = 4) := by omega
  have c21 : ((((n / 256 * 256 : Nat)) : Int) = 1280) ↔ (n / 64 / 4 = 5) := by omega
  have c22 : ((n : Int) = 0) ↔ (n = 0) := by omega
  have c23 : ((((n / 256 * 256 : Nat)) : Int) = 34816) ↔ (n / 64 / 4 = 136) := by omega
  simp only [opIF, Nat.reduceAdd, freeV1, freeV2, freeV3, freeV4, freeV5, freeV6, freeV7, freeV8, freeV9, freeV10, freeV11, freeV12, freeV13, freeV14, freeV15, freeV16, freeV17, freeV18, freeV19, freeV20, freeV21, freeV22, freeV23, baseL1, baseL2, baseL3, baseL4, baseL5, baseL6, baseL7, baseL8, baseL9, baseL10, baseL11, baseL12, baseL13, baseL14, baseL15, baseL16, baseL17, baseL18, baseL19, baseL20, baseL21, baseL22, baseL23, andNot_0 n hn, andNot_7 n hn, andNot_63 n hn, andNot_255 n hn, andNot_511 n hn, andNot_4095 n hn, c1, c2, c3, c4, c5, c6, c7, c8, c9, c10, c11, c12, c13, c14, c15, c16, c17, c18, c19, c20, c21, c22, c23]
  simp only [opV, opF, decide_eq_true_eq, cast_if]
  rfl
theorem opS_eq (n : Nat) (hn : n < 65536) : (if n = 0 then 22 else if srch n 61440 1 6 ≠ 0 then srch n 61440 1 6 else if srch n 65472 7 8 ≠ 0 then srch n 65472 7 8 else if n / 512 = 4 then 15 else if n / 8 = 16 then 16 else if n / 256 = 136 then 23 else srch n 65280 17 5) = opV n := by
  have c1 : ((((n / 4096 * 4096 : Nat)) : Int) = 4096) ↔ (n / 64 / 64 = 1) := by omega
  have c2 : ((((n / 4096 * 4096 : Nat)) : Int) = 8192) ↔ (n / 64 / 64 = 2) := by omega
  have c3 : ((((n / 4096 * 4096 : Nat)) : Int) = 16384) ↔ (n / 64 / 64 = 4) := by omega
  have c4 : ((((n / 4096 * 4096 : Nat)) : Int) = 20480) ↔ (n / 64 / 64 = 5) := by omega
  have c5 : ((((n / 4096 * 4096 : Nat)) : Int) = 24576) ↔ (n / 64 / 64 = 6) := by omega
  have c6 : ((((n / 4096 * 4096 : Nat)) : Int) = 57344) ↔ (n / 64 / 64 = 14) := by omega
  have c7 : ((((n / 64 * 64 : Nat)) : Int) = 2560) ↔ (n / 64 = 40) := by omega
  have c8 : ((((n / 64 * 64 : Nat)) : Int) = 2688) ↔ (n / 64 = 42) := by omega
  have c9 : ((((n / 64 * 64 : Nat)) : Int) = 2752) ↔ (n / 64 = 43) := by omega
  have c10 : ((((n / 64 * 64 : Nat)) : Int) = 2816) ↔ (n / 64 = 44) := by omega
  have c11 : ((((n / 64 * 64 : Nat)) : Int) = 3008) ↔ (n / 64 = 47) := by omega
  have c12 : ((((n / 64 * 64 : Nat)) : Int) = 3200) ↔ (n / 64 = 50) := by omega
  have c13 : ((((n / 64 * 64 : Nat)) : Int) = 3264) ↔ (n / 64 = 51) := by omega
  have c14 : ((((n / 64 * 64 : Nat)) : Int) = 64) ↔ (n / 64 = 1) := by omega
  have c17 : ((((n / 256 * 256 : Nat)) : Int) = 256) ↔ (n / 64 / 4 = 1) := by omega
  have c18 : ((((n / 256 * 256 : Nat)) : Int) = 512) ↔ (n / 64 / 4 = 2) := by omega
  have c19 : ((((n / 256 * 256 : Nat)) : Int) = 768) ↔ (n / 64 / 4 = 3) := by omega
  have c20 : ((((n / 256 * 256 : Nat)) : Int) = 1024) ↔ (n / 64 / 4 = 4) := by omega
  have c21 : ((((n / 256 * 256 : Nat)) : Int) = 1280) ↔ (n / 64 / 4 = 5) := by omega
  have d15 : (n / 512 = 4) ↔ n / 64 / 8 = 4 := by omega
  have d23 : (n / 256 = 136) ↔ n / 64 / 4 = 136 := by omega
  simp only [srch, Nat.reduceAdd, baseL1, baseL2, baseL3, baseL4, baseL5, baseL6, baseL7, baseL8, baseL9, baseL10, baseL11, baseL12, baseL13, baseL14, baseL15, baseL16, baseL17, baseL18, baseL19, baseL20, baseL21, baseL22, baseL23, and_61440 n hn, and_65472 n hn, and_65280 n hn, c1, c2, c3, c4, c5, c6, c7, c8, c9, c10, c11, c12, c13, c14, c17, c18, c19, c20, c21, d15, d23]
  rw [opV, opFG n hn]
  simp only [opG, decide_eq_true_eq]
theorem if_le (c : Prop) [Decidable c] (a b k : Nat) (h1 : a ≤ k) (h2 : b ≤ k) : (if c then a else b) ≤ k := by split <;> assumption
theorem opV_le (n : Nat) : opV n ≤ 23 := by
  unfold opV opF; repeat (refine if_le _ _ _ _ (by decide) ?_)
  decide
end Go.Proofs.YtgjeemfggfhibaaGreatDoorFw
