/- Reading an instruction out of words. -/
import Derived.Test.YtedmpcmfcnfclaaE6
namespace Go.Proofs.YtedmpcmfcnfclaaFw
open Go Go.RowKit
set_option linter.unusedVariables false
set_option linter.unusedSimpArgs false
set_option maxRecDepth 4000
set_option pp.deepTerms.threshold 6
set_option pp.deepTerms false

def hasS (u : Nat) : Prop := opV u ≤ 6 ∧ HasP (smV u) (sgV u)
def hasD (u : Nat) : Prop := opV u ≤ 15 ∧ HasP (dmV u) (dgV u)
instance (u : Nat) : Decidable (hasS u) := by unfold hasS; infer_instance
instance (u : Nat) : Decidable (hasD u) := by unfold hasD; infer_instance
def cntV (u : Nat) : Nat := 1 + ((if hasS u then 1 else 0) + (if hasD u then 1 else 0))
def wAt (l : List Int) (i : Nat) : Prop := 0 ≤ l.getD i 0 ∧ l.getD i 0 ≤ 65535
def decOk (l : List Int) (a u : Nat) : Prop := l.getD a 0 = (u : Int) ∧ u < 65536 ∧ opV u ≠ 0 ∧ a + cntV u ≤ l.length ∧ (hasS u → wAt l (a + 1)) ∧ (hasD u → wAt l (a + (if hasS u then 2 else 1)))
def sxV (l : List Int) (a u : Nat) : Int := if hasS u then l.getD (a + 1) 0 else 0
def dxV (l : List Int) (a u : Nat) : Int := if hasD u then l.getD (a + (if hasS u then 2 else 1)) 0 else 0

open Classical in
/-- What is read at a place: an instruction, its words, and whether there is one. -/
noncomputable def decA (l : List Int) (a : Nat) : AV :=
  if decOk l a (l.getD a 0).toNat then .tup [insA (opV (l.getD a 0).toNat : Nat) (smV (l.getD a 0).toNat) (sgV (l.getD a 0).toNat) (sxV l a (l.getD a 0).toNat) (dmV (l.getD a 0).toNat) (dgV (l.getD a 0).toNat) (dxV l a (l.getD a 0).toNat) (nnV (l.getD a 0).toNat), .int .i64 (cntV (l.getD a 0).toNat : Nat), .bool true]
  else .tup [ins0, .int .i64 0, .bool false]

theorem decA_no {l : List Int} {a : Nat} (h : ∀ u, ¬ decOk l a u) : decA l a = .tup [ins0, .int .i64 0, .bool false] := by
  unfold decA; rw [if_neg (h _)]
theorem decA_yes {l : List Int} {a u : Nat} (h : decOk l a u) : decA l a = .tup [insA (opV u : Nat) (smV u) (sgV u) (sxV l a u) (dmV u) (dgV u) (dxV l a u) (nnV u), .int .i64 (cntV u : Nat), .bool true] := by
  have e : (l.getD a 0).toNat = u := by rw [h.1]; omega
  unfold decA; rw [e, if_pos h]
theorem decOk_u {l : List Int} {a u v : Nat} (h : decOk l a v) (hu : l.getD a 0 = (u : Int)) : v = u := by
  have := h.1; omega

theorem cntV_le (u : Nat) : 1 ≤ cntV u ∧ cntV u ≤ 3 := by unfold cntV; (repeat' split) <;> omega
theorem wordsV_eq (u : Nat) (h : opV u ≠ 0) : wordsV (opV u : Nat) (smV u) (sgV u) (dmV u) (dgV u) = (cntV u : Nat) := by
  unfold wordsV cntV
  have e1 : (1 ≤ ((opV u : Nat) : Int) ∧ ((opV u : Nat) : Int) ≤ 6 ∧ HasP (smV u) (sgV u)) ↔ hasS u := by unfold hasS; constructor <;> rintro h1 <;> (refine ⟨by omega, ?_⟩; try exact h1.2.2) <;> exact ⟨by omega, h1.2⟩
  have e2 : (1 ≤ ((opV u : Nat) : Int) ∧ ((opV u : Nat) : Int) ≤ 15 ∧ HasP (dmV u) (dgV u)) ↔ hasD u := by unfold hasD; constructor <;> rintro h1 <;> (refine ⟨by omega, ?_⟩; try exact h1.2.2) <;> exact ⟨by omega, h1.2⟩
  simp only [e1, e2]
  by_cases p1 : hasS u
  · by_cases p2 : hasD u
    · simp only [if_pos p1, if_pos p2]; rfl
    · simp only [if_pos p1, if_neg p2]; rfl
  · by_cases p2 : hasD u
    · simp only [if_neg p1, if_pos p2]; rfl
    · simp only [if_neg p1, if_neg p2]; rfl

theorem words_at (l : List Int) (a c : Nat) (h : a + c ≤ l.length) : (∀ x ∈ (l.drop a).take c, 0 ≤ x ∧ x ≤ 65535) ↔ ∀ j, j < c → wAt l (a + j) := by
  have hg : ∀ j, j < c → l.getD (a + j) 0 ∈ (l.drop a).take c := by
    intro j hj
    rw [List.mem_iff_getElem?]
    refine ⟨j, ?_⟩
    rw [List.getElem?_take_of_lt hj, List.getElem?_drop, List.getD_eq_getElem?_getD, List.getElem?_eq_getElem (show a + j < l.length by omega)]
    rfl
  constructor
  · intro H j hj
    exact H _ (hg j hj)
  · intro H x hx
    rw [List.mem_iff_getElem?] at hx
    obtain ⟨j, hj⟩ := hx
    have hjc : j < c := by
      have := lt_of_get hj
      rw [List.length_take] at this; omega
    rw [List.getElem?_take_of_lt hjc, List.getElem?_drop] at hj
    have := H j hjc
    unfold wAt at this
    rw [List.getD_eq_getElem?_getD, hj] at this
    exact this

theorem words_dec (l : List Int) (a u : Nat) (h0 : l.getD a 0 = (u : Int)) (hu : u < 65536) : (∀ j, j < cntV u → wAt l (a + j)) ↔ ((hasS u → wAt l (a + 1)) ∧ (hasD u → wAt l (a + (if hasS u then 2 else 1)))) := by
  have w0 : wAt l a := by unfold wAt; omega
  constructor
  · intro H
    refine ⟨fun h => H 1 (by unfold cntV; rw [if_pos h]; omega), fun h => ?_⟩
    by_cases hs : hasS u
    · rw [if_pos hs]; exact H 2 (by unfold cntV; rw [if_pos hs, if_pos h]; omega)
    · rw [if_neg hs]; exact H 1 (by unfold cntV; rw [if_neg hs, if_pos h]; omega)
  · rintro ⟨h1, h2⟩ j hj
    have hj3 : j = 0 ∨ j = 1 ∨ j = 2 := by have := cntV_le u; omega
    unfold cntV at hj
    by_cases hs : hasS u
    · have h1 := h1 hs
      rw [if_pos hs] at hj h2
      by_cases hd : hasD u
      · have h2 := h2 hd
        rcases hj3 with rfl | rfl | rfl <;> assumption
      · rw [if_neg hd] at hj
        rcases hj3 with rfl | rfl | rfl
        · exact w0
        · exact h1
        · omega
    · rw [if_neg hs] at hj h2
      by_cases hd : hasD u
      · have h2 := h2 hd
        rw [if_pos hd] at hj
        rcases hj3 with rfl | rfl | rfl
        · exact w0
        · exact h2
        · omega
      · rw [if_neg hd] at hj
        rcases hj3 with rfl | rfl | rfl
        · exact w0
        · omega
        · omega

theorem smV_in (u : Nat) : (1 ≤ opV u ∧ opV u ≤ 6 → 0 ≤ smV u ∧ smV u ≤ 7 ∧ 0 ≤ sgV u ∧ sgV u ≤ 7) ∧ (¬ (1 ≤ opV u ∧ opV u ≤ 6) → smV u = 0 ∧ sgV u = 0) := by
  unfold smV sgV; constructor
  · intro h; rw [if_pos h, if_pos h]; omega
  · intro h; rw [if_neg h, if_neg h]; omega
theorem dmV_in (u : Nat) : (1 ≤ opV u ∧ opV u ≤ 15 → 0 ≤ dmV u ∧ dmV u ≤ 7 ∧ 0 ≤ dgV u ∧ dgV u ≤ 7) ∧ (¬ (1 ≤ opV u ∧ opV u ≤ 15) → dmV u = 0 ∧ dgV u = 0) := by
  unfold dmV dgV; constructor
  · intro h; rw [if_pos h, if_pos h]; omega
  · intro h; rw [if_neg h, if_neg h]; omega
theorem nnV_in (u : Nat) : (opV u = 15 ∨ opV u = 16 → 0 ≤ nnV u ∧ nnV u ≤ 7) ∧ (opV u = 23 → 0 ≤ nnV u ∧ nnV u ≤ 255) ∧ (17 ≤ opV u ∧ opV u ≤ 21 → -128 ≤ nnV u ∧ nnV u ≤ 127) ∧ (¬ (opV u = 15 ∨ opV u = 16 ∨ opV u = 23 ∨ (17 ≤ opV u ∧ opV u ≤ 21)) → nnV u = 0) := by
  unfold nnV
  (repeat' split) <;> omega

theorem insP_opd {op sm sr sx dm dr dx n : Int} (hI : InsP op sm sr sx dm dr dx n) : OpdP sm sr sx ∧ OpdP dm dr dx := by
  have z1 := zero_opd sm sr sx
  have z2 := zero_opd dm dr dx
  unfold InsP at hI
  rcases hI with h | h | h | h
  · exact ⟨h.2.2.1, h.2.2.2.1⟩
  · exact ⟨z1 h.2.2.1, h.2.2.2.1⟩
  · exact ⟨z1 h.2.1, h.2.2.1⟩
  · exact ⟨z1 h.1, z2 h.2.1⟩

theorem opd_of (m r x : Int) (h : 0 ≤ m ∧ m ≤ 7 ∧ 0 ≤ r ∧ r ≤ 7) (hx : HasP m r ∨ x = 0) (hw : 0 ≤ x ∧ x ≤ 65535) : OpdP m r x := by
  unfold OpdP; exact ⟨h.1, h.2.1, h.2.2.1, h.2.2.2, hw.1, hw.2, hx.symm⟩

theorem insP_raw (u : Nat) (h0 : opV u ≠ 0) (sx dx : Int) (hs : hasS u ∨ sx = 0) (hd : hasD u ∨ dx = 0) :
    InsP (opV u : Nat) (smV u) (sgV u) sx (dmV u) (dgV u) dx (nnV u) ↔ (0 ≤ sx ∧ sx ≤ 65535) ∧ (0 ≤ dx ∧ dx ≤ 65535) := by
  constructor
  · intro h
    have := insP_opd h
    unfold OpdP at this
    omega
  rintro ⟨ws, wd⟩
  have h1 := smV_in u
  have h2 := dmV_in u
  have h3 := nnV_in u
  have hle := opV_le u
  have hs : HasP (smV u) (sgV u) ∨ sx = 0 := hs.imp (fun h => h.2) id
  have hd : HasP (dmV u) (dgV u) ∨ dx = 0 := hd.imp (fun h => h.2) id
  have hc : (1 ≤ opV u ∧ opV u ≤ 6) ∨ (7 ≤ opV u ∧ opV u ≤ 14) ∨ opV u = 15 ∨ (16 ≤ opV u ∧ opV u ≤ 23) := by omega
  have hz : ¬ HasP 0 0 := by unfold HasP; omega
  unfold InsP
  rcases hc with hc | hc | hc | hc
  · have e3 := h3.2.2.2 (by omega)
    exact .inl ⟨by omega, by omega, opd_of _ _ _ (h1.1 hc) hs ws, opd_of _ _ _ (h2.1 (by omega)) hd wd, e3⟩
  all_goals
    obtain ⟨q1, q2⟩ := h1.2 (by omega)
    have q3 : sx = 0 := by
      rcases hs with hs | hs
      · rw [q1, q2] at hs; exact absurd hs hz
      · exact hs
    rw [q1, q2, q3]
  · have e3 := h3.2.2.2 (by omega)
    exact .inr (.inl ⟨by omega, by omega, ⟨rfl, rfl, rfl⟩, opd_of _ _ _ (h2.1 (by omega)) hd wd, e3⟩)
  · have e3 := h3.1 (by omega)
    exact .inr (.inr (.inl ⟨by omega, ⟨rfl, rfl, rfl⟩, opd_of _ _ _ (h2.1 (by omega)) hd wd, e3⟩))
  · obtain ⟨q4, q5⟩ := h2.2 (by omega)
    have q6 : dx = 0 := by
      rcases hd with hd | hd
      · rw [q4, q5] at hd; exact absurd hd hz
      · exact hd
    rw [q4, q5, q6]
    exact .inr (.inr (.inr ⟨⟨rfl, rfl, rfl⟩, ⟨rfl, rfl, rfl⟩, by omega⟩))

end Go.Proofs.YtedmpcmfcnfclaaFw
