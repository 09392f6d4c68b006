/- The instruction of a word, the reference's way. -/
import Derived.Test.YtgjeemfggfhibaaGreatDoorE5
set_option linter.unusedVariables false
set_option linter.unusedSimpArgs false
set_option pp.deepTerms.threshold 6
set_option pp.deepTerms false
set_option maxRecDepth 4000
namespace Go.Proofs.YtgjeemfggfhibaaGreatDoorFw
open Go Go.RowKit
abbrev ins0 : AV := insA 0 0 0 0 0 0 0 0
set_option maxHeartbeats 4000000 in
theorem l4Op_ok (n : Nat) (hn : n < 65536) : FnA Tryz.prog 60 false [.int .i64 n] [] (fun r os ros => r = rawA n ∧ os = [] ∧ ros = []) := by
  have m0 := low3 n hn
  have m3 := low3_3 n hn
  have m6 := low3_6 n hn
  have m63 := low3_63 n hn
  have m255 := and_255 n hn
  have hS := opS_eq n hn
  refine FnA.of Tryz.func60 rfl (by decide) Tryz.ntmps60 (by simp) ?_
  refine run_ ?_
  refine RunsA.cond rfl (fun h => ?_) (fun h => ?_)
  · rw [beq_iff_eq] at h
    rw [if_pos (by omega)] at hS
    refine run_ ?_
    exact RetA.mk tabOk 0 rfl rfl rfl (by omega) rfl rfl rfl ⟨(raw_no hS.symm (.inr rfl)).symm, rfl, rfl⟩
  rw [beq_eq_false_iff_ne] at h
  rw [if_neg (by omega)] at hS
  refine run_ ?_
  refine RunsA.loop ?_
  refine (LoopA.ind (fun i : Nat => ⟨85, [(0, .int .i64 n), (2, .ptr 768 [] 8 0 0), (3, .int .i64 i)], [⟨768, 8, [ins0]⟩], false⟩) (fun i => 7 - i) (fun i => 1 ≤ i ∧ i ≤ 7 ∧ srch n 61440 i (7 - i) = srch n 61440 1 6) ?_ 1 ?_).sub rfl ?_ ?_ rfl
  rotate_left
  · exact ⟨by omega, by omega, rfl⟩
  · simp [SubS, lookS]
  · simp [SubO, lookO]
  rintro i ⟨h0, hi, ht⟩ K3 hK3
  refine run_ ?_
  refine RunsA.cond rfl (fun h2 => ?_) (fun h2 => ?_)
  · simp only [decide_eq_true_eq] at h2
    have hi2 : i ≤ 6 := by omega
    rw [show 7 - i = (7 - (i + 1)) + 1 by omega, srch] at ht
    refine run_ ?_
    refine RunsA.rq tabOk fun J hJ => ?_
    simp only [go_sem, ↓reduceIte, Nat.reduceAdd, Nat.reduceSub, Nat.reduceMul, Nat.reduceLT, Nat.reduceLeDiff, Nat.reduceEqDiff, Nat.reduceBEq, Int.reduceToNat]
    try simp (disch := omega) only [wrap_id]
    refine hJ _ _ (RunsL.call (ps := []) (rid := 16) rfl rfl rfl rfl rfl (by simp only [go_sem, Nat.reduceEqDiff]; first | done | rfl) (l4Base_ok i (by omega)) rfl (by decide) ⟨by decide, by decide, rfl⟩ (by first | exact .inl rfl | exact .inr (.inl rfl) | exact .inr (.inr rfl)) ?_); clear hJ J
    rintro r os' ros ⟨rfl, rfl, rfl⟩ _
    refine RunsL.go tabOk fun J hJ => ?_
    simp only [go_sem, ↓reduceIte, Nat.reduceAdd, Nat.reduceSub, Nat.reduceMul, Nat.reduceLT, Nat.reduceLeDiff, Nat.reduceEqDiff, Nat.reduceBEq, Int.reduceToNat]
    try simp (disch := omega) only [wrap_id]
    (repeat refine ⟨by omega, ?_⟩)
    refine hJ _ _ (RunsL.nil ?_); clear hJ J
    refine run_ ?_
    refine RunsA.cond rfl (fun h3 => ?_) (fun h3 => ?_)
    · rw [beq_iff_eq] at h3
      rw [if_pos (by simpa using h3)] at ht
      rw [← ht, if_pos (by omega)] at hS
      refine run_ ?_
      refine RunsA.rq tabOk fun J hJ => ?_
      simp only [go_sem, ↓reduceIte, Nat.reduceAdd, Nat.reduceSub, Nat.reduceMul, Nat.reduceLT, Nat.reduceLeDiff, Nat.reduceEqDiff, Nat.reduceBEq, Int.reduceToNat]
      try simp (disch := omega) only [wrap_id]
      (repeat refine ⟨by omega, ?_⟩)
      refine hJ _ _ (RunsL.call (ps := []) (rid := 16) rfl rfl rfl rfl rfl (by simp only [go_sem, Nat.reduceEqDiff]; first | done | rfl) (l4Opd_ok _) rfl (by decide) ⟨by decide, by decide, rfl⟩ (by first | exact .inl rfl | exact .inr (.inl rfl) | exact .inr (.inr rfl)) ?_); clear hJ J
      rintro r os' ros ⟨rfl, rfl, rfl⟩ _
      refine RunsL.go tabOk fun J hJ => ?_
      simp only [go_sem, ↓reduceIte, Nat.reduceAdd, Nat.reduceSub, Nat.reduceMul, Nat.reduceLT, Nat.reduceLeDiff, Nat.reduceEqDiff, Nat.reduceBEq, Int.reduceToNat, m0, m3, m6, m63]
      try simp (disch := omega) only [wrap_id]
      refine hJ _ _ (RunsL.call (ps := []) (rid := 16) rfl rfl rfl rfl rfl (by simp only [go_sem, Nat.reduceEqDiff]; first | done | rfl) (l4Opd_ok n) rfl (by decide) ⟨by decide, by decide, rfl⟩ (by first | exact .inl rfl | exact .inr (.inl rfl) | exact .inr (.inr rfl)) ?_); clear hJ J
      rintro r os' ros ⟨rfl, rfl, rfl⟩ _
      refine RunsL.go tabOk fun J hJ => ?_
      simp only [go_sem, ↓reduceIte, Nat.reduceAdd, Nat.reduceSub, Nat.reduceMul, Nat.reduceLT, Nat.reduceLeDiff, Nat.reduceEqDiff, Nat.reduceBEq, Int.reduceToNat, m0, m3, m6, m63]
      try simp (disch := omega) only [wrap_id]
      (repeat refine ⟨by omega, ?_⟩)
      refine hJ _ _ (RunsL.nil ?_); clear hJ J
      refine run_ ?_
      exact RetA.mk tabOk 0 rfl rfl rfl (by omega) rfl rfl rfl ⟨(raw_two hS.symm h0 hi2).symm, rfl, rfl⟩
    · rw [beq_eq_false_iff_ne] at h3
      rw [if_neg (by simpa using h3)] at ht
      refine run_ ?_
      exact hK3 (i + 1) _ ⟨by omega, by omega, ht⟩ (by omega) rfl (by simp [SubS, lookS]) (by simp [SubO, lookO]) rfl
  simp only [decide_eq_false_iff_not] at h2
  have : i = 7 := by omega
  subst this
  replace ht : srch n 61440 1 6 = 0 := ht.symm
  rw [ht, if_neg (by decide)] at hS
  clear hK3 h2 hi h0
  refine run_ ?_
  refine RunsA.loop ?_
  refine (LoopA.ind (fun i : Nat => ⟨85, [(0, .int .i64 n), (2, .ptr 768 [] 8 0 0), (4, .int .i64 i)], [⟨768, 8, [ins0]⟩], false⟩) (fun i => 15 - i) (fun i => 7 ≤ i ∧ i ≤ 15 ∧ srch n 65472 i (15 - i) = srch n 65472 7 8) ?_ 7 ?_).sub rfl ?_ ?_ rfl
  rotate_left
  · exact ⟨by omega, by omega, rfl⟩
  · simp [SubS, lookS]
  · simp [SubO, lookO]
  rintro i ⟨h0, hi, ht⟩ K3 hK3
  refine run_ ?_
  refine RunsA.cond rfl (fun h2 => ?_) (fun h2 => ?_)
  · simp only [decide_eq_true_eq] at h2
    have hi2 : i ≤ 14 := by omega
    rw [show 15 - i = (15 - (i + 1)) + 1 by omega, srch] at ht
    refine run_ ?_
    refine RunsA.rq tabOk fun J hJ => ?_
    simp only [go_sem, ↓reduceIte, Nat.reduceAdd, Nat.reduceSub, Nat.reduceMul, Nat.reduceLT, Nat.reduceLeDiff, Nat.reduceEqDiff, Nat.reduceBEq, Int.reduceToNat]
    try simp (disch := omega) only [wrap_id]
    refine hJ _ _ (RunsL.call (ps := []) (rid := 16) rfl rfl rfl rfl rfl (by simp only [go_sem, Nat.reduceEqDiff]; first | done | rfl) (l4Base_ok i (by omega)) rfl (by decide) ⟨by decide, by decide, rfl⟩ (by first | exact .inl rfl | exact .inr (.inl rfl) | exact .inr (.inr rfl)) ?_); clear hJ J
    rintro r os' ros ⟨rfl, rfl, rfl⟩ _
    refine RunsL.go tabOk fun J hJ => ?_
    simp only [go_sem, ↓reduceIte, Nat.reduceAdd, Nat.reduceSub, Nat.reduceMul, Nat.reduceLT, Nat.reduceLeDiff, Nat.reduceEqDiff, Nat.reduceBEq, Int.reduceToNat]
    try simp (disch := omega) only [wrap_id]
    (repeat refine ⟨by omega, ?_⟩)
    refine hJ _ _ (RunsL.nil ?_); clear hJ J
    refine run_ ?_
    refine RunsA.cond rfl (fun h3 => ?_) (fun h3 => ?_)
    · rw [beq_iff_eq] at h3
      rw [if_pos (by simpa using h3)] at ht
      rw [← ht, if_pos (by omega)] at hS
      refine run_ ?_
      refine RunsA.rq tabOk fun J hJ => ?_
      simp only [go_sem, ↓reduceIte, Nat.reduceAdd, Nat.reduceSub, Nat.reduceMul, Nat.reduceLT, Nat.reduceLeDiff, Nat.reduceEqDiff, Nat.reduceBEq, Int.reduceToNat]
      try simp (disch := omega) only [wrap_id]
      (repeat refine ⟨by omega, ?_⟩)
      refine hJ _ _ (RunsL.call (ps := []) (rid := 16) rfl rfl rfl rfl rfl (by simp only [go_sem, Nat.reduceEqDiff]; first | done | rfl) (l4Opd_ok n) rfl (by decide) ⟨by decide, by decide, rfl⟩ (by first | exact .inl rfl | exact .inr (.inl rfl) | exact .inr (.inr rfl)) ?_); clear hJ J
      rintro r os' ros ⟨rfl, rfl, rfl⟩ _
      refine RunsL.go tabOk fun J hJ => ?_
      simp only [go_sem, ↓reduceIte, Nat.reduceAdd, Nat.reduceSub, Nat.reduceMul, Nat.reduceLT, Nat.reduceLeDiff, Nat.reduceEqDiff, Nat.reduceBEq, Int.reduceToNat, m0, m3, m6, m63]
      try simp (disch := omega) only [wrap_id]
      (repeat refine ⟨by omega, ?_⟩)
      refine hJ _ _ (RunsL.nil ?_); clear hJ J
      refine run_ ?_
      exact RetA.mk tabOk 0 rfl rfl rfl (by omega) rfl rfl rfl ⟨(raw_one hS.symm h0 hi2).symm, rfl, rfl⟩
    · rw [beq_eq_false_iff_ne] at h3
      rw [if_neg (by simpa using h3)] at ht
      refine run_ ?_
      exact hK3 (i + 1) _ ⟨by omega, by omega, ht⟩ (by omega) rfl (by simp [SubS, lookS]) (by simp [SubO, lookO]) rfl
  simp only [decide_eq_false_iff_not] at h2
  have : i = 15 := by omega
  subst this
  replace ht : srch n 65472 7 8 = 0 := ht.symm
  rw [ht, if_neg (by decide)] at hS
  clear hK3 h2 hi h0
  have c15 := and_65024 n hn
  have c16 := and_65528 n hn
  have c23 := and_65280 n hn
  refine run_ ?_
  refine RunsA.cond rfl (fun h2 => ?_) (fun h2 => ?_)
  · rw [beq_iff_eq, c15] at h2
    rw [if_pos (by omega)] at hS
    refine run_ ?_
    refine RunsA.rq tabOk fun J hJ => ?_
    simp only [go_sem, ↓reduceIte, Nat.reduceAdd, Nat.reduceSub, Nat.reduceMul, Nat.reduceLT, Nat.reduceLeDiff, Nat.reduceEqDiff, Nat.reduceBEq, Int.reduceToNat]
    try simp (disch := omega) only [wrap_id]
    (repeat refine ⟨by omega, ?_⟩)
    refine hJ _ _ (RunsL.call (ps := []) (rid := 16) rfl rfl rfl rfl rfl (by simp only [go_sem, Nat.reduceEqDiff]; first | done | rfl) (l4Opd_ok n) rfl (by decide) ⟨by decide, by decide, rfl⟩ (by first | exact .inl rfl | exact .inr (.inl rfl) | exact .inr (.inr rfl)) ?_); clear hJ J
    rintro r os' ros ⟨rfl, rfl, rfl⟩ _
    refine RunsL.go tabOk fun J hJ => ?_
    simp only [go_sem, ↓reduceIte, Nat.reduceAdd, Nat.reduceSub, Nat.reduceMul, Nat.reduceLT, Nat.reduceLeDiff, Nat.reduceEqDiff, Nat.reduceBEq, Int.reduceToNat, m0, m3, m6, m63]
    try simp (disch := omega) only [wrap_id]
    (repeat refine ⟨by omega, ?_⟩)
    refine hJ _ _ (RunsL.nil ?_); clear hJ J
    refine run_ ?_
    exact RetA.mk tabOk 0 rfl rfl rfl (by omega) rfl rfl rfl ⟨(raw_jsr hS.symm).symm, rfl, rfl⟩
  rw [beq_eq_false_iff_ne, c15] at h2
  rw [if_neg (by omega)] at hS
  refine run_ ?_
  refine RunsA.cond rfl (fun h3 => ?_) (fun h3 => ?_)
  · rw [beq_iff_eq, c16] at h3
    rw [if_pos (by omega)] at hS
    refine run1_ @m0 ?_
    exact RetA.mk tabOk 0 rfl rfl rfl (by omega) rfl rfl rfl ⟨(raw_rts hS.symm).symm, rfl, rfl⟩
  rw [beq_eq_false_iff_ne, c16] at h3
  rw [if_neg (by omega)] at hS
  refine run_ ?_
  refine RunsA.cond rfl (fun h4 => ?_) (fun h4 => ?_)
  · rw [beq_iff_eq, c23] at h4
    rw [if_pos (by omega)] at hS
    refine run1_ @m255 ?_
    exact RetA.mk tabOk 0 rfl rfl rfl (by omega) rfl rfl rfl ⟨(raw_emt hS.symm).symm, rfl, rfl⟩
  rw [beq_eq_false_iff_ne, c23] at h4
  rw [if_neg (by omega)] at hS
  refine run_ ?_
  refine RunsA.loop ?_
  refine (LoopA.ind (fun i : Nat => ⟨85, [(0, .int .i64 n), (2, .ptr 768 [] 8 0 0), (5, .int .i64 i)], [⟨768, 8, [ins0]⟩], false⟩) (fun i => 22 - i) (fun i => 17 ≤ i ∧ i ≤ 22 ∧ srch n 65280 i (22 - i) = srch n 65280 17 5) ?_ 17 ?_).sub rfl ?_ ?_ rfl
  rotate_left
  · exact ⟨by omega, by omega, rfl⟩
  · simp [SubS, lookS]
  · simp [SubO, lookO]
  rintro i ⟨h0, hi, ht⟩ K3 hK3
  refine run_ ?_
  refine RunsA.cond rfl (fun h5 => ?_) (fun h5 => ?_)
  · simp only [decide_eq_true_eq] at h5
    have hi2 : i ≤ 21 := by omega
    rw [show 22 - i = (22 - (i + 1)) + 1 by omega, srch] at ht
    refine run_ ?_
    refine RunsA.rq tabOk fun J hJ => ?_
    simp only [go_sem, ↓reduceIte, Nat.reduceAdd, Nat.reduceSub, Nat.reduceMul, Nat.reduceLT, Nat.reduceLeDiff, Nat.reduceEqDiff, Nat.reduceBEq, Int.reduceToNat]
    try simp (disch := omega) only [wrap_id]
    refine hJ _ _ (RunsL.call (ps := []) (rid := 16) rfl rfl rfl rfl rfl (by simp only [go_sem, Nat.reduceEqDiff]; first | done | rfl) (l4Base_ok i (by omega)) rfl (by decide) ⟨by decide, by decide, rfl⟩ (by first | exact .inl rfl | exact .inr (.inl rfl) | exact .inr (.inr rfl)) ?_); clear hJ J
    rintro r os' ros ⟨rfl, rfl, rfl⟩ _
    refine RunsL.go tabOk fun J hJ => ?_
    simp only [go_sem, ↓reduceIte, Nat.reduceAdd, Nat.reduceSub, Nat.reduceMul, Nat.reduceLT, Nat.reduceLeDiff, Nat.reduceEqDiff, Nat.reduceBEq, Int.reduceToNat]
    try simp (disch := omega) only [wrap_id]
    (repeat refine ⟨by omega, ?_⟩)
    refine hJ _ _ (RunsL.nil ?_); clear hJ J
    refine run_ ?_
    refine RunsA.cond rfl (fun h6 => ?_) (fun h6 => ?_)
    · rw [beq_iff_eq] at h6
      rw [if_pos (by simpa using h6)] at ht
      rw [← ht] at hS
      have hR := raw_br hS.symm h0 hi2
      refine run1_ @m255 ?_
      refine RunsA.cond rfl (fun h7 => ?_) (fun h7 => ?_)
      · rw [decide_eq_true_eq] at h7
        rw [if_pos (by omega)] at hR
        refine run_ ?_
        exact RetA.mk tabOk 0 rfl rfl rfl (by omega) rfl rfl rfl ⟨hR.symm, rfl, rfl⟩
      · rw [decide_eq_false_iff_not] at h7
        rw [if_neg (by omega)] at hR
        refine run_ ?_
        exact RetA.mk tabOk 0 rfl rfl rfl (by omega) rfl rfl rfl ⟨hR.symm, rfl, rfl⟩
    · rw [beq_eq_false_iff_ne] at h6
      rw [if_neg (by simpa using h6)] at ht
      refine run_ ?_
      exact hK3 (i + 1) _ ⟨by omega, by omega, ht⟩ (by omega) rfl (by simp [SubS, lookS]) (by simp [SubO, lookO]) rfl
  simp only [decide_eq_false_iff_not] at h5
  have : i = 22 := by omega
  subst this
  replace ht : srch n 65280 17 5 = 0 := ht.symm
  rw [ht] at hS
  refine run_ ?_
  exact RetA.mk tabOk 0 rfl rfl rfl (by omega) rfl rfl rfl ⟨(raw_no hS.symm (.inl rfl)).symm, rfl, rfl⟩
end Go.Proofs.YtgjeemfggfhibaaGreatDoorFw
namespace Go.Proofs.YtgjeemfggfhibaaGreatDoorFw
open Go Go.RowKit
def hasS (u : Nat) : Prop := opV u ≤ 6 ∧ HasP (smV u) (sgV u)
def hasD (u : Nat) : Prop := opV u ≤ 15 ∧ HasP (dmV u) (dgV u)
instance (u : Nat) : Decidable (hasS u) := by unfold hasS; infer_instance
instance (u : Nat) : Decidable (hasD u) := by unfold hasD; infer_instance
def cntV (u : Nat) : Nat := 1 + ((if hasS u then 1 else 0) + (if hasD u then 1 else 0))
def wAt (l : List Int) (i : Nat) : Prop := 0 ≤ l.getD i 0 ∧ l.getD i 0 ≤ 65535
def decOk (l : List Int) (a u : Nat) : Prop := l.getD a 0 = (u : Int) ∧ u < 65536 ∧ opV u ≠ 0 ∧ a + cntV u ≤ l.length ∧ (hasS u → wAt l (a + 1)) ∧ (hasD u → wAt l (a + (if hasS u then 2 else 1)))
def sxV (l : List Int) (a u : Nat) : Int := if hasS u then l.getD (a + 1) 0 else 0
def dxV (l : List Int) (a u : Nat) : Int := if hasD u then l.getD (a + (if hasS u then 2 else 1)) 0 else 0
open Classical in
noncomputable def decA (l : List Int) (a : Nat) : AV :=
  if decOk l a (l.getD a 0).toNat then .tup [insA (opV (l.getD a 0).toNat : Nat) (smV (l.getD a 0).toNat) (sgV (l.getD a 0).toNat) (sxV l a (l.getD a 0).toNat) (dmV (l.getD a 0).toNat) (dgV (l.getD a 0).toNat) (dxV l a (l.getD a 0).toNat) (nnV (l.getD a 0).toNat), .int .i64 (cntV (l.getD a 0).toNat : Nat), .bool true]
  else .tup [ins0, .int .i64 0, .bool false]
theorem decA_no {l : List Int} {a : Nat} (h : ∀ u, ¬ decOk l a u) : decA l a = .tup [ins0, .int .i64 0, .bool false] := by
  unfold decA; rw [if_neg (h _)]
theorem decA_yes {l : List Int} {a u : Nat} (h : decOk l a u) : decA l a = .tup [insA (opV u : Nat) (smV u) (sgV u) (sxV l a u) (dmV u) (dgV u) (dxV l a u) (nnV u), .int .i64 (cntV u : Nat), .bool true] := by
  have e : (l.getD a 0).toNat = u := by rw [h.1]; omega
  unfold decA; rw [e, if_pos h]
theorem decOk_u {l : List Int} {a u v : Nat} (h : decOk l a v) (hu : l.getD a 0 = (u : Int)) : v = u := by
  have := h.1; omega
theorem cntV_le (u : Nat) : 1 ≤ cntV u ∧ cntV u ≤ 3 := by unfold cntV; (repeat' split) <;> omega
theorem wcntV_eq (u : Nat) (h : opV u ≠ 0) : wcntV (opV u : Nat) (smV u) (sgV u) (dmV u) (dgV u) = (cntV u : Nat) := by
  unfold wcntV cntV
  have e1 : (1 ≤ ((opV u : Nat) : Int) ∧ ((opV u : Nat) : Int) ≤ 6 ∧ HasP (smV u) (sgV u)) ↔ hasS u := by unfold hasS; constructor <;> rintro h1 <;> (refine ⟨by omega, ?_⟩; try exact h1.2.2) <;> exact ⟨by omega, h1.2⟩
  have e2 : (1 ≤ ((opV u : Nat) : Int) ∧ ((opV u : Nat) : Int) ≤ 15 ∧ HasP (dmV u) (dgV u)) ↔ hasD u := by unfold hasD; constructor <;> rintro h1 <;> (refine ⟨by omega, ?_⟩; try exact h1.2.2) <;> exact ⟨by omega, h1.2⟩
  simp only [e1, e2]
  by_cases p1 : hasS u
  · by_cases p2 : hasD u
    · simp only [if_pos p1, if_pos p2]; rfl
    · simp only [if_pos p1, if_neg p2]; rfl
  · by_cases p2 : hasD u
    · simp only [if_neg p1, if_pos p2]; rfl
    · simp only [if_neg p1, if_neg p2]; rfl
theorem words_at (l : List Int) (a c : Nat) (h : a + c ≤ l.length) : (∀ x ∈ (l.drop a).take c, 0 ≤ x ∧ x ≤ 65535) ↔ ∀ j, j < c → wAt l (a + j) := by
  have hg : ∀ j, j < c → l.getD (a + j) 0 ∈ (l.drop a).take c := by
    intro j hj
    rw [List.mem_iff_getElem?]
    refine ⟨j, ?_⟩
    rw [List.getElem?_take_of_lt hj, List.getElem?_drop, List.getD_eq_getElem?_getD, List.getElem?_eq_getElem (show a + j < l.length by omega)]
    rfl
  constructor
  · intro H j hj
    exact H _ (hg j hj)
  · intro H x hx
    rw [List.mem_iff_getElem?] at hx
    obtain ⟨j, hj⟩ := hx
    have hjc : j < c := by
      have := lt_of_get hj
      rw [List.length_take] at this; omega
    rw [List.getElem?_take_of_lt hjc, List.getElem?_drop] at hj
    have := H j hjc
    unfold wAt at this
    rw [List.getD_eq_getElem?_getD, hj] at this
    exact this
theorem words_dec (l : List Int) (a u : Nat) (h0 : l.getD a 0 = (u : Int)) (hu : u < 65536) : (∀ j, j < cntV u → wAt l (a + j)) ↔ ((hasS u → wAt l (a + 1)) ∧ (hasD u → wAt l (a + (if hasS u then 2 else 1)))) := by
  have w0 : wAt l a := by unfold wAt; omega
  constructor
  · intro H
    refine ⟨fun h => H 1 (by unfold cntV; rw [if_pos h]; omega), fun h => ?_⟩
    by_cases hs : hasS u
    · rw [if_pos hs]; exact H 2 (by unfold cntV; rw [if_pos hs, if_pos h]; omega)
    · rw [if_neg hs]; exact H 1 (by unfold cntV; rw [if_neg hs, if_pos h]; omega)
  · rintro ⟨h1, h2⟩ j hj
    have hj3 : j = 0 ∨ j = 1 ∨ j = 2 := by have := cntV_le u; omega
    unfold cntV at hj
    by_cases hs : hasS u
    · have h1 := h1 hs
      rw [if_pos hs] at hj h2
      by_cases hd : hasD u
      · have h2 := h2 hd
        rcases hj3 with rfl | rfl | rfl <;> assumption
      · rw [if_neg hd] at hj
        rcases hj3 with rfl | rfl | rfl
        · exact w0
        · exact h1
        · omega
    · rw [if_neg hs] at hj h2
      by_cases hd : hasD u
      · have h2 := h2 hd
        rw [if_pos hd] at hj
        rcases hj3 with rfl | rfl | rfl
        · exact w0
        · exact h2
        · omega
      · rw [if_neg hd] at hj
        rcases hj3 with rfl | rfl | rfl
        · exact w0
        · omega
        · omega
theorem smV_in (u : Nat) : (1 ≤ opV u ∧ opV u ≤ 6 → 0 ≤ smV u ∧ smV u ≤ 7 ∧ 0 ≤ sgV u ∧ sgV u ≤ 7) ∧ (¬ (1 ≤ opV u ∧ opV u ≤ 6) → smV u = 0 ∧ sgV u = 0) := by
  unfold smV sgV; constructor
  · intro h; rw [if_pos h, if_pos h]; omega
  · intro h; rw [if_neg h, if_neg h]; omega
theorem dmV_in (u : Nat) : (1 ≤ opV u ∧ opV u ≤ 15 → 0 ≤ dmV u ∧ dmV u ≤ 7 ∧ 0 ≤ dgV u ∧ dgV u ≤ 7) ∧ (¬ (1 ≤ opV u ∧ opV u ≤ 15) → dmV u = 0 ∧ dgV u = 0) := by
  unfold dmV dgV; constructor
  · intro h; rw [if_pos h, if_pos h]; omega
  · intro h; rw [if_neg h, if_neg h]; omega
theorem nnV_in (u : Nat) : (opV u = 15 ∨ opV u = 16 → 0 ≤ nnV u ∧ nnV u ≤ 7) ∧ (opV u = 23 → 0 ≤ nnV u ∧ nnV u ≤ 255) ∧ (17 ≤ opV u ∧ opV u ≤ 21 → -128 ≤ nnV u ∧ nnV u ≤ 127) ∧ (¬ (opV u = 15 ∨ opV u = 16 ∨ opV u = 23 ∨ (17 ≤ opV u ∧ opV u ≤ 21)) → nnV u = 0) := by
  unfold nnV
  (repeat' split) <;> omega
theorem insP_opd {op sm sr sx dm dr dx n : Int} (hI : InsP op sm sr sx dm dr dx n) : OpdP sm sr sx ∧ OpdP dm dr dx := by
  have z1 := zero_opd sm sr sx
  have z2 := zero_opd dm dr dx
  unfold InsP at hI
  rcases hI with h | h | h | h
  · exact ⟨h.2.2.1, h.2.2.2.1⟩
  · exact ⟨z1 h.2.2.1, h.2.2.2.1⟩
  · exact ⟨z1 h.2.1, h.2.2.1⟩
  · exact ⟨z1 h.1, z2 h.2.1⟩
theorem opd_of (m r x : Int) (h : 0 ≤ m ∧ m ≤ 7 ∧ 0 ≤ r ∧ r ≤ 7) (hx : HasP m r ∨ x = 0) (hw : 0 ≤ x ∧ x ≤ 65535) : OpdP m r x := by
  unfold OpdP; exact ⟨h.1, h.2.1, h.2.2.1, h.2.2.2, hw.1, hw.2, hx.symm⟩
theorem insP_raw (u : Nat) (h0 : opV u ≠ 0) (sx dx : Int) (hs : hasS u ∨ sx = 0) (hd : hasD u ∨ dx = 0) :
    InsP (opV u : Nat) (smV u) (sgV u) sx (dmV u) (dgV u) dx (nnV u) ↔ (0 ≤ sx ∧ sx ≤ 65535) ∧ (0 ≤ dx ∧ dx ≤ 65535) := by
  constructor
  · intro h
    have := insP_opd h
    unfold OpdP at this
    omega
  rintro ⟨ws, wd⟩
  have h1 := smV_in u
  have h2 := dmV_in u
  have h3 := nnV_in u
  have hle := opV_le u
  have hs : HasP (smV u) (sgV u) ∨ sx = 0 := hs.imp (fun h => h.2) id
  have hd : HasP (dmV u) (dgV u) ∨ dx = 0 := hd.imp (fun h => h.2) id
  have hc : (1 ≤ opV u ∧ opV u ≤ 6) ∨ (7 ≤ opV u ∧ opV u ≤ 14) ∨ opV u = 15 ∨ (16 ≤ opV u ∧ opV u ≤ 23) := by omega
  have hz : ¬ HasP 0 0 := by unfold HasP; omega
  unfold InsP
  rcases hc with hc | hc | hc | hc
  · have e3 := h3.2.2.2 (by omega)
    exact .inl ⟨by omega, by omega, opd_of _ _ _ (h1.1 hc) hs ws, opd_of _ _ _ (h2.1 (by omega)) hd wd, e3⟩
  all_goals
    obtain ⟨q1, q2⟩ := h1.2 (by omega)
    have q3 : sx = 0 := by
      rcases hs with hs | hs
      · rw [q1, q2] at hs; exact absurd hs hz
      · exact hs
    rw [q1, q2, q3]
  · have e3 := h3.2.2.2 (by omega)
    exact .inr (.inl ⟨by omega, by omega, ⟨rfl, rfl, rfl⟩, opd_of _ _ _ (h2.1 (by omega)) hd wd, e3⟩)
  · have e3 := h3.1 (by omega)
    exact .inr (.inr (.inl ⟨by omega, ⟨rfl, rfl, rfl⟩, opd_of _ _ _ (h2.1 (by omega)) hd wd, e3⟩))
  · obtain ⟨q4, q5⟩ := h2.2 (by omega)
    have q6 : dx = 0 := by
      rcases hd with hd | hd
      · rw [q4, q5] at hd; exact absurd hd hz
      · exact hd
    rw [q4, q5, q6]
    exact .inr (.inr (.inr ⟨⟨rfl, rfl, rfl⟩, ⟨rfl, rfl, rfl⟩, by omega⟩))
end Go.Proofs.YtgjeemfggfhibaaGreatDoorFw
