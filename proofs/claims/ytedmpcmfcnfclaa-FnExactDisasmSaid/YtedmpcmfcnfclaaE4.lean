/- The op of a word. -/
import Derived.Test.YtedmpcmfcnfclaaE3
namespace Go.Proofs.YtedmpcmfcnfclaaFw
open Go Go.RowKit
set_option linter.unusedVariables false
set_option linter.unusedSimpArgs false
set_option maxRecDepth 4000
set_option pp.deepTerms.threshold 6
set_option pp.deepTerms false

def opF (h : Nat) (r z : Bool) : Nat := if h / 64 = 1 then 1 else if h / 64 = 2 then 2 else if h / 64 = 4 then 3 else if h / 64 = 5 then 4 else if h / 64 = 6 then 5 else if h / 64 = 14 then 6 else if h = 40 then 7 else if h = 42 then 8 else if h = 43 then 9 else if h = 44 then 10 else if h = 47 then 11 else if h = 50 then 12 else if h = 51 then 13 else if h = 1 then 14 else if h / 8 = 4 then 15 else if r = true then 16 else if h / 4 = 1 then 17 else if h / 4 = 2 then 18 else if h / 4 = 3 then 19 else if h / 4 = 4 then 20 else if h / 4 = 5 then 21 else if z = true then 22 else if h / 4 = 136 then 23 else 0
def opG (h : Nat) (r z : Bool) : Nat := if z = true then 22 else if (if h / 64 = 1 then 1 else if h / 64 = 2 then 2 else if h / 64 = 4 then 3 else if h / 64 = 5 then 4 else if h / 64 = 6 then 5 else if h / 64 = 14 then 6 else 0) ≠ 0 then (if h / 64 = 1 then 1 else if h / 64 = 2 then 2 else if h / 64 = 4 then 3 else if h / 64 = 5 then 4 else if h / 64 = 6 then 5 else if h / 64 = 14 then 6 else 0) else if (if h = 40 then 7 else if h = 42 then 8 else if h = 43 then 9 else if h = 44 then 10 else if h = 47 then 11 else if h = 50 then 12 else if h = 51 then 13 else if h = 1 then 14 else 0) ≠ 0 then (if h = 40 then 7 else if h = 42 then 8 else if h = 43 then 9 else if h = 44 then 10 else if h = 47 then 11 else if h = 50 then 12 else if h = 51 then 13 else if h = 1 then 14 else 0) else if h / 8 = 4 then 15 else if r = true then 16 else if h / 4 = 136 then 23 else if h / 4 = 1 then 17 else if h / 4 = 2 then 18 else if h / 4 = 3 then 19 else if h / 4 = 4 then 20 else if h / 4 = 5 then 21 else 0
theorem cast_if (c : Prop) [Decidable c] (a b : Nat) : (((if c then a else b : Nat)) : Int) = if c then (a : Int) else (b : Int) := by split <;> rfl

theorem opFG0 : ∀ h : Fin 1024, opF h.val false false = opG h.val false false := by decide +kernel
theorem opFG (n : Nat) (h : n < 65536) : opF (n / 64) (decide (n / 8 = 16)) (decide (n = 0)) = opG (n / 64) (decide (n / 8 = 16)) (decide (n = 0)) := by
  by_cases h1 : n / 8 = 16
  · rw [decide_eq_true h1, decide_eq_false (by omega : ¬ n = 0), show n / 64 = 2 by omega]; decide +kernel
  · by_cases h2 : n = 0
    · subst h2; decide +kernel
    · rw [decide_eq_false h1, decide_eq_false h2]; exact opFG0 ⟨n / 64, by omega⟩

/-- The op of a word; 0 of none. -/
def opV (n : Nat) : Nat := opF (n / 64) (decide (n / 8 = 16)) (decide (n = 0))

def srch (n : Int) (m : Int) : Nat → Nat → Nat
  | _, 0 => 0
  | i, k + 1 => if bits .and .i64 n m = baseL.getD i 0 then i else srch n m (i + 1) k

theorem freeV1 : freeV 1 = 4095 := by decide
theorem freeV2 : freeV 2 = 4095 := by decide
theorem freeV3 : freeV 3 = 4095 := by decide
theorem freeV4 : freeV 4 = 4095 := by decide
theorem freeV5 : freeV 5 = 4095 := by decide
theorem freeV6 : freeV 6 = 4095 := by decide
theorem freeV7 : freeV 7 = 63 := by decide
theorem freeV8 : freeV 8 = 63 := by decide
theorem freeV9 : freeV 9 = 63 := by decide
theorem freeV10 : freeV 10 = 63 := by decide
theorem freeV11 : freeV 11 = 63 := by decide
theorem freeV12 : freeV 12 = 63 := by decide
theorem freeV13 : freeV 13 = 63 := by decide
theorem freeV14 : freeV 14 = 63 := by decide
theorem freeV15 : freeV 15 = 511 := by decide
theorem freeV16 : freeV 16 = 7 := by decide
theorem freeV17 : freeV 17 = 255 := by decide
theorem freeV18 : freeV 18 = 255 := by decide
theorem freeV19 : freeV 19 = 255 := by decide
theorem freeV20 : freeV 20 = 255 := by decide
theorem freeV21 : freeV 21 = 255 := by decide
theorem freeV22 : freeV 22 = 0 := by decide
theorem freeV23 : freeV 23 = 255 := by decide
theorem baseL1 : baseL.getD 1 0 = 4096 := rfl
theorem baseL2 : baseL.getD 2 0 = 8192 := rfl
theorem baseL3 : baseL.getD 3 0 = 16384 := rfl
theorem baseL4 : baseL.getD 4 0 = 20480 := rfl
theorem baseL5 : baseL.getD 5 0 = 24576 := rfl
theorem baseL6 : baseL.getD 6 0 = 57344 := rfl
theorem baseL7 : baseL.getD 7 0 = 2560 := rfl
theorem baseL8 : baseL.getD 8 0 = 2688 := rfl
theorem baseL9 : baseL.getD 9 0 = 2752 := rfl
theorem baseL10 : baseL.getD 10 0 = 2816 := rfl
theorem baseL11 : baseL.getD 11 0 = 3008 := rfl
theorem baseL12 : baseL.getD 12 0 = 3200 := rfl
theorem baseL13 : baseL.getD 13 0 = 3264 := rfl
theorem baseL14 : baseL.getD 14 0 = 64 := rfl
theorem baseL15 : baseL.getD 15 0 = 2048 := rfl
theorem baseL16 : baseL.getD 16 0 = 128 := rfl
theorem baseL17 : baseL.getD 17 0 = 256 := rfl
theorem baseL18 : baseL.getD 18 0 = 512 := rfl
theorem baseL19 : baseL.getD 19 0 = 768 := rfl
theorem baseL20 : baseL.getD 20 0 = 1024 := rfl
theorem baseL21 : baseL.getD 21 0 = 1280 := rfl
theorem baseL22 : baseL.getD 22 0 = 0 := rfl
theorem baseL23 : baseL.getD 23 0 = 34816 := rfl

theorem opIF_eq (n : Nat) (hn : n < 65536) : opIF (n : Int) 1 23 = ((opV n : Nat) : Int) := by
  have c1 : ((((n / 4096 * 4096 : Nat)) : Int) = 4096) ↔ (n / 64 / 64 = 1) := by omega
  have c2 : ((((n / 4096 * 4096 : Nat)) : Int) = 8192) ↔ (n / 64 / 64 = 2) := by omega
  have c3 : ((((n / 4096 * 4096 : Nat)) : Int) = 16384) ↔ (n / 64 / 64 = 4) := by omega
  have c4 : ((((n / 4096 * 4096 : Nat)) : Int) = 20480) ↔ (n / 64 / 64 = 5) := by omega
  have c5 : ((((n / 4096 * 4096 : Nat)) : Int) = 24576) ↔ (n / 64 / 64 = 6) := by omega
  have c6 : ((((n / 4096 * 4096 : Nat)) : Int) = 57344) ↔ (n / 64 / 64 = 14) := by omega
  have c7 : ((((n / 64 * 64 : Nat)) : Int) = 2560) ↔ (n / 64 = 40) := by omega
  have c8 : ((((n / 64 * 64 : Nat)) : Int) = 2688) ↔ (n / 64 = 42) := by omega
  have c9 : ((((n / 64 * 64 : Nat)) : Int) = 2752) ↔ (n / 64 = 43) := by omega
  have c10 : ((((n / 64 * 64 : Nat)) : Int) = 2816) ↔ (n / 64 = 44) := by omega
  have c11 : ((((n / 64 * 64 : Nat)) : Int) = 3008) ↔ (n / 64 = 47) := by omega
  have c12 : ((((n / 64 * 64 : Nat)) : Int) = 3200) ↔ (n / 64 = 50) := by omega
  have c13 : ((((n / 64 * 64 : Nat)) : Int) = 3264) ↔ (n / 64 = 51) := by omega
  have c14 : ((((n / 64 * 64 : Nat)) : Int) = 64) ↔ (n / 64 = 1) := by omega
  have c15 : ((((n / 512 * 512 : Nat)) : Int) = 2048) ↔ (n / 64 / 8 = 4) := by omega
  have c16 : ((((n / 8 * 8 : Nat)) : Int) = 128) ↔ (n / 8 = 16) := by omega
  have c17 : ((((n / 256 * 256 : Nat)) : Int) = 256) ↔ (n / 64 / 4 = 1) := by omega
  have c18 : ((((n / 256 * 256 : Nat)) : Int) = 512) ↔ (n / 64 / 4 = 2) := by omega
  have c19 : ((((n / 256 * 256 : Nat)) : Int) = 768) ↔ (n / 64 / 4 = 3) := by omega
  have c20 : ((((n / 256 * 256 : Nat)) : Int) = 1024) ↔ (n / 64 / 4 = 4) := by omega
  have c21 : ((((n / 256 * 256 : Nat)) : Int) = 1280) ↔ (n / 64 / 4 = 5) := by omega
  have c22 : ((n : Int) = 0) ↔ (n = 0) := by omega
  have c23 : ((((n / 256 * 256 : Nat)) : Int) = 34816) ↔ (n / 64 / 4 = 136) := by omega
  simp only [opIF, Nat.reduceAdd, freeV1, freeV2, freeV3, freeV4, freeV5, freeV6, freeV7, freeV8, freeV9, freeV10, freeV11, freeV12, freeV13, freeV14, freeV15, freeV16, freeV17, freeV18, freeV19, freeV20, freeV21, freeV22, freeV23, baseL1, baseL2, baseL3, baseL4, baseL5, baseL6, baseL7, baseL8, baseL9, baseL10, baseL11, baseL12, baseL13, baseL14, baseL15, baseL16, baseL17, baseL18, baseL19, baseL20, baseL21, baseL22, baseL23, andNot_0 n hn, andNot_7 n hn, andNot_63 n hn, andNot_255 n hn, andNot_511 n hn, andNot_4095 n hn, c1, c2, c3, c4, c5, c6, c7, c8, c9, c10, c11, c12, c13, c14, c15, c16, c17, c18, c19, c20, c21, c22, c23]
  simp only [opV, opF, decide_eq_true_eq, cast_if]
  rfl

/-- The reference's way. -/
theorem opS_eq (n : Nat) (hn : n < 65536) : (if n = 0 then 22 else if srch n 61440 1 6 ≠ 0 then srch n 61440 1 6 else if srch n 65472 7 8 ≠ 0 then srch n 65472 7 8 else if n / 512 = 4 then 15 else if n / 8 = 16 then 16 else if n / 256 = 136 then 23 else srch n 65280 17 5) = opV n := by
  have c1 : ((((n / 4096 * 4096 : Nat)) : Int) = 4096) ↔ (n / 64 / 64 = 1) := by omega
  have c2 : ((((n / 4096 * 4096 : Nat)) : Int) = 8192) ↔ (n / 64 / 64 = 2) := by omega
  have c3 : ((((n / 4096 * 4096 : Nat)) : Int) = 16384) ↔ (n / 64 / 64 = 4) := by omega
  have c4 : ((((n / 4096 * 4096 : Nat)) : Int) = 20480) ↔ (n / 64 / 64 = 5) := by omega
  have c5 : ((((n / 4096 * 4096 : Nat)) : Int) = 24576) ↔ (n / 64 / 64 = 6) := by omega
  have c6 : ((((n / 4096 * 4096 : Nat)) : Int) = 57344) ↔ (n / 64 / 64 = 14) := by omega
  have c7 : ((((n / 64 * 64 : Nat)) : Int) = 2560) ↔ (n / 64 = 40) := by omega
  have c8 : ((((n / 64 * 64 : Nat)) : Int) = 2688) ↔ (n / 64 = 42) := by omega
  have c9 : ((((n / 64 * 64 : Nat)) : Int) = 2752) ↔ (n / 64 = 43) := by omega
  have c10 : ((((n / 64 * 64 : Nat)) : Int) = 2816) ↔ (n / 64 = 44) := by omega
  have c11 : ((((n / 64 * 64 : Nat)) : Int) = 3008) ↔ (n / 64 = 47) := by omega
  have c12 : ((((n / 64 * 64 : Nat)) : Int) = 3200) ↔ (n / 64 = 50) := by omega
  have c13 : ((((n / 64 * 64 : Nat)) : Int) = 3264) ↔ (n / 64 = 51) := by omega
  have c14 : ((((n / 64 * 64 : Nat)) : Int) = 64) ↔ (n / 64 = 1) := by omega
  have c17 : ((((n / 256 * 256 : Nat)) : Int) = 256) ↔ (n / 64 / 4 = 1) := by omega
  have c18 : ((((n / 256 * 256 : Nat)) : Int) = 512) ↔ (n / 64 / 4 = 2) := by omega
  have c19 : ((((n / 256 * 256 : Nat)) : Int) = 768) ↔ (n / 64 / 4 = 3) := by omega
  have c20 : ((((n / 256 * 256 : Nat)) : Int) = 1024) ↔ (n / 64 / 4 = 4) := by omega
  have c21 : ((((n / 256 * 256 : Nat)) : Int) = 1280) ↔ (n / 64 / 4 = 5) := by omega
  have d15 : (n / 512 = 4) ↔ n / 64 / 8 = 4 := by omega
  have d23 : (n / 256 = 136) ↔ n / 64 / 4 = 136 := by omega
  simp only [srch, Nat.reduceAdd, baseL1, baseL2, baseL3, baseL4, baseL5, baseL6, baseL7, baseL8, baseL9, baseL10, baseL11, baseL12, baseL13, baseL14, baseL15, baseL16, baseL17, baseL18, baseL19, baseL20, baseL21, baseL22, baseL23, and_61440 n hn, and_65472 n hn, and_65280 n hn, c1, c2, c3, c4, c5, c6, c7, c8, c9, c10, c11, c12, c13, c14, c17, c18, c19, c20, c21, d15, d23]
  rw [opV, opFG n hn]
  simp only [opG, decide_eq_true_eq]

theorem if_le (c : Prop) [Decidable c] (a b k : Nat) (h1 : a ≤ k) (h2 : b ≤ k) : (if c then a else b) ≤ k := by split <;> assumption
theorem opV_le (n : Nat) : opV n ≤ 23 := by
  unfold opV opF; repeat (refine if_le _ _ _ _ (by decide) ?_)
  decide

end Go.Proofs.YtedmpcmfcnfclaaFw
