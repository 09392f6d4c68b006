/- Reading an instruction out of words: the reference, walked. -/
import Derived.Test.YtgjeemfggfhibaaGreatDoorE8
namespace Go.Proofs.YtgjeemfggfhibaaGreatDoorFw
open Go Go.RowKit
set_option linter.unusedVariables false
set_option linter.unusedSimpArgs false
set_option maxRecDepth 4000
set_option pp.deepTerms.threshold 6
set_option pp.deepTerms false
theorem decOk_iff {l : List Int} {a u : Nat} (hu : l.getD a 0 = (u : Int)) (h6 : u < 65536) (h0 : opV u ≠ 0) (hc : a + cntV u ≤ l.length) :
    decOk l a u ↔ InsP (opV u : Nat) (smV u) (sgV u) (sxV l a u) (dmV u) (dgV u) (dxV l a u) (nnV u) := by
  rw [insP_raw u h0 _ _ (by unfold sxV; split <;> simp_all) (by unfold dxV; split <;> simp_all)]
  constructor
  · rintro ⟨_, _, _, _, h1, h2⟩
    unfold sxV dxV
    refine ⟨?_, ?_⟩
    · split
      · rename_i h; exact h1 h
      · omega
    · split
      · rename_i h; exact h2 h
      · omega
  · rintro ⟨h1, h2⟩
    unfold sxV at h1
    unfold dxV at h2
    exact ⟨hu, h6, h0, hc, fun h => by rwa [if_pos h] at h1, fun h => by rwa [if_pos h] at h2⟩
set_option maxHeartbeats 4000000 in
theorem decodes_ok (l : List Int) (a : Nat) (ha : a < l.length) (hl : l.length ≤ 140737488355328) :
    FnA Tryz.prog 32 false [.row .bo 1 (nums l), .int .i64 a] [] (fun r os ros => r = decA l a ∧ os = [] ∧ ros = []) := by
  have ew : decide ((0 : Int) ≤ (a : Int) ∧ (a : Int) ≤ (l.length : Int) - 1) = true := decide_eq_true (by omega)
  have ew2 : decide ((a : Int) ≤ (l.length : Int) - 1) = true := decide_eq_true (by omega)
  have hg := numsD ha
  have hnl := nums_len l
  have tn1 : ((a : Int) + 1).toNat = a + 1 := by omega
  have tn2 : ((a : Int) + 1 + 1).toNat = a + 2 := by omega
  refine FnA.of Tryz.func32 rfl (by decide) Tryz.ntmps32 (by simp) ?_
  by_cases hw : 0 ≤ l.getD a 0 ∧ l.getD a 0 ≤ 65535
  · obtain ⟨u, hu⟩ : ∃ u : Nat, l.getD a 0 = (u : Int) := ⟨(l.getD a 0).toNat, by omega⟩
    have hu6 : u < 65536 := by omega
    have eisw : decide ((0 : Int) ≤ (u : Int) ∧ (u : Int) ≤ 65535) = true := decide_eq_true (by omega)
    have eisw2 : decide ((u : Int) ≤ 65535) = true := decide_eq_true (by omega)
    have hdec : ∀ v, decOk l a v → decOk l a u := fun v h => by have := decOk_u h hu; rwa [this] at h
    rw [hu] at hg
    have hI := l4Op_ok u hu6
    by_cases h0 : opV u = 0
    · rw [decA_no fun v h => (hdec v h).2.2.1 h0]
      replace hI : FnA Tryz.prog 60 false [.int .i64 u] [] (fun r os ros => r = ins0 ∧ os = [] ∧ ros = []) := by rw [raw_no h0 (.inl rfl)] at hI; exact hI
      have hz : decide (HasP 0 0) = false := by decide +kernel
      have hzi : decide (InsP 0 0 0 0 0 0 0 0) = false := by decide +kernel
      have q6 : decide ((0 : Int) ≤ 6) = true := rfl
      have q15 : decide ((0 : Int) ≤ 15) = true := rfl
      repeat' (first | refine ⟨by omega, ?_⟩ | (refine hJ _ _ (RunsL.nil ?_); clear hJ J) | refine RunsA.cond rfl (fun h => ?_) (fun h => absurd h (by decide)) | refine RunsA.cond rfl (fun h => absurd h (by decide)) (fun h => ?_) | (refine step_ ?_) | (refine RunsA.rk 9 [] tabOk fun J hJ => ?_; simp only [go_sem, ↓reduceIte, Nat.reduceAdd, Nat.reduceSub, Nat.reduceMul, Nat.reduceLT, Nat.reduceLeDiff, Nat.reduceEqDiff, Nat.reduceBEq, Int.reduceToNat, ew, ew2, hg, hnl, eisw, eisw2, hz, hzi, q6, q15]; try simp (disch := omega) only [wrap_id]) | (refine hJ _ _ (RunsL.call (ps := []) (rid := 16) rfl rfl rfl rfl rfl (by simp only [go_sem, Nat.reduceEqDiff]; first | done | rfl) (l1In_ok _ _ _) rfl (by decide) ⟨by decide, by decide, rfl⟩ (by first | exact .inl rfl | exact .inr (.inl rfl) | exact .inr (.inr rfl)) ?_); clear hJ J; rintro r os' ros ⟨rfl, rfl, rfl⟩ _; refine RunsL.go tabOk fun J hJ => ?_; simp only [go_sem, ↓reduceIte, Nat.reduceAdd, Nat.reduceSub, Nat.reduceMul, Nat.reduceLT, Nat.reduceLeDiff, Nat.reduceEqDiff, Nat.reduceBEq, Int.reduceToNat, ew, ew2, hg, hnl, eisw, eisw2, hz, hzi, q6, q15]; try simp (disch := omega) only [wrap_id]) | (refine hJ _ _ (RunsL.call (ps := []) (rid := 16) rfl rfl rfl rfl rfl (by simp only [go_sem, Nat.reduceEqDiff]; first | done | rfl) (hI) rfl (by decide) ⟨by decide, by decide, rfl⟩ (by first | exact .inl rfl | exact .inr (.inl rfl) | exact .inr (.inr rfl)) ?_); clear hJ J; rintro r os' ros ⟨rfl, rfl, rfl⟩ _; refine RunsL.go tabOk fun J hJ => ?_; simp only [go_sem, ↓reduceIte, Nat.reduceAdd, Nat.reduceSub, Nat.reduceMul, Nat.reduceLT, Nat.reduceLeDiff, Nat.reduceEqDiff, Nat.reduceBEq, Int.reduceToNat, ew, ew2, hg, hnl, eisw, eisw2, hz, hzi, q6, q15]; try simp (disch := omega) only [wrap_id]) | (refine hJ _ _ (RunsL.call (ps := []) (rid := 16) rfl rfl rfl rfl rfl (by simp only [go_sem, Nat.reduceEqDiff]; first | done | rfl) (hasXs_ok _ _ _) rfl (by decide) ⟨by decide, by decide, rfl⟩ (by first | exact .inl rfl | exact .inr (.inl rfl) | exact .inr (.inr rfl)) ?_); clear hJ J; rintro r os' ros ⟨rfl, rfl, rfl⟩ _; refine RunsL.go tabOk fun J hJ => ?_; simp only [go_sem, ↓reduceIte, Nat.reduceAdd, Nat.reduceSub, Nat.reduceMul, Nat.reduceLT, Nat.reduceLeDiff, Nat.reduceEqDiff, Nat.reduceBEq, Int.reduceToNat, ew, ew2, hg, hnl, eisw, eisw2, hz, hzi, q6, q15]; try simp (disch := omega) only [wrap_id]) | (refine hJ _ _ (RunsL.call (ps := []) (rid := 16) rfl rfl rfl rfl rfl (by simp only [go_sem, Nat.reduceEqDiff]; first | done | rfl) (insOks_ok _ _ _ _ _ _ _ _) rfl (by decide) ⟨by decide, by decide, rfl⟩ (by first | exact .inl rfl | exact .inr (.inl rfl) | exact .inr (.inr rfl)) ?_); clear hJ J; rintro r os' ros ⟨rfl, rfl, rfl⟩ _; refine RunsL.go tabOk fun J hJ => ?_; simp only [go_sem, ↓reduceIte, Nat.reduceAdd, Nat.reduceSub, Nat.reduceMul, Nat.reduceLT, Nat.reduceLeDiff, Nat.reduceEqDiff, Nat.reduceBEq, Int.reduceToNat, ew, ew2, hg, hnl, eisw, eisw2, hz, hzi, q6, q15]; try simp (disch := omega) only [wrap_id]) | simp only [↓reduceIte, not_false_eq_true, ew, ew2, hg, hnl, eisw, eisw2, hz, hzi, q6, q15])
      all_goals exact RetA.mk tabOk 0 rfl rfl rfl (by omega) rfl rfl rfl ⟨rfl, rfl, rfl⟩
    repeat' (first | refine ⟨by omega, ?_⟩ | (refine hJ _ _ (RunsL.nil ?_); clear hJ J) | refine RunsA.cond rfl (fun h => ?_) (fun h => absurd h (by decide)) | refine RunsA.cond rfl (fun h => absurd h (by decide)) (fun h => ?_) | (refine step_ ?_) | (refine RunsA.rk 9 [] tabOk fun J hJ => ?_; simp only [go_sem, ↓reduceIte, Nat.reduceAdd, Nat.reduceSub, Nat.reduceMul, Nat.reduceLT, Nat.reduceLeDiff, Nat.reduceEqDiff, Nat.reduceBEq, Int.reduceToNat, ew, ew2, hg, hnl, eisw, eisw2]; try simp (disch := omega) only [wrap_id]) | (refine hJ _ _ (RunsL.call (ps := []) (rid := 16) rfl rfl rfl rfl rfl (by simp only [go_sem, Nat.reduceEqDiff]; first | done | rfl) (l1In_ok _ _ _) rfl (by decide) ⟨by decide, by decide, rfl⟩ (by first | exact .inl rfl | exact .inr (.inl rfl) | exact .inr (.inr rfl)) ?_); clear hJ J; rintro r os' ros ⟨rfl, rfl, rfl⟩ _; refine RunsL.go tabOk fun J hJ => ?_; simp only [go_sem, ↓reduceIte, Nat.reduceAdd, Nat.reduceSub, Nat.reduceMul, Nat.reduceLT, Nat.reduceLeDiff, Nat.reduceEqDiff, Nat.reduceBEq, Int.reduceToNat, ew, ew2, hg, hnl, eisw, eisw2]; try simp (disch := omega) only [wrap_id]) | (refine hJ _ _ (RunsL.call (ps := []) (rid := 16) rfl rfl rfl rfl rfl (by simp only [go_sem, Nat.reduceEqDiff]; first | done | rfl) (hI) rfl (by decide) ⟨by decide, by decide, rfl⟩ (by first | exact .inl rfl | exact .inr (.inl rfl) | exact .inr (.inr rfl)) ?_); clear hJ J; rintro r os' ros ⟨rfl, rfl, rfl⟩ _; refine RunsL.go tabOk fun J hJ => ?_; simp only [go_sem, ↓reduceIte, Nat.reduceAdd, Nat.reduceSub, Nat.reduceMul, Nat.reduceLT, Nat.reduceLeDiff, Nat.reduceEqDiff, Nat.reduceBEq, Int.reduceToNat, ew, ew2, hg, hnl, eisw, eisw2]; try simp (disch := omega) only [wrap_id]) | simp only [↓reduceIte, not_false_eq_true, ew, ew2, hg, hnl, eisw, eisw2])
    have hcl := cntV_le u
    have hc' : cntV u = 1 + ((if hasS u then 1 else 0) + (if hasD u then 1 else 0)) := rfl
    have hl3 : l.length = a + 1 ∨ l.length = a + 2 ∨ a + 3 ≤ l.length := by omega
    have r6 : (opV u ≤ 6 ∧ HasP (smV u) (sgV u)) ∨ (opV u ≤ 6 ∧ ¬ HasP (smV u) (sgV u)) ∨ ¬ opV u ≤ 6 := by
      by_cases h : HasP (smV u) (sgV u)
      · simp [h]; omega
      · simp [h]; omega
    have r15 : (opV u ≤ 15 ∧ HasP (dmV u) (dgV u)) ∨ (opV u ≤ 15 ∧ ¬ HasP (dmV u) (dgV u)) ∨ ¬ opV u ≤ 15 := by
      by_cases h : HasP (dmV u) (dgV u)
      · simp [h]; omega
      · simp [h]; omega
    rcases r6 with r6 | r6 | r6 <;> rcases r15 with r15 | r15 | r15
    all_goals (first | (exfalso; omega) | skip)
    all_goals (first | have es : decide (((opV u : Nat) : Int) ≤ 6) = true := decide_eq_true (by omega) | have es : decide (((opV u : Nat) : Int) ≤ 6) = false := decide_eq_false (by omega))
    all_goals (first | have ed : decide (((opV u : Nat) : Int) ≤ 15) = true := decide_eq_true (by omega) | have ed : decide (((opV u : Nat) : Int) ≤ 15) = false := decide_eq_false (by omega))
    all_goals (first | have es3 : (((opV u : Nat) : Int) ≤ 6) = True := eq_true (by omega) | have es3 : (((opV u : Nat) : Int) ≤ 6) = False := eq_false (by omega))
    all_goals (first | have ps : decide (HasP (smV u) (sgV u)) = true := decide_eq_true r6.2 | have ps : decide (HasP (smV u) (sgV u)) = false := decide_eq_false r6.2 | have ps := True.intro)
    all_goals (first | have pd : decide (HasP (dmV u) (dgV u)) = true := decide_eq_true r15.2 | have pd : decide (HasP (dmV u) (dgV u)) = false := decide_eq_false r15.2 | have pd := True.intro)
    all_goals (first | have HS : hasS u := r6 | have HS : ¬ hasS u := fun h => r6 h.1 | have HS : ¬ hasS u := fun h => r6.2 h.2)
    all_goals (first | have HD : hasD u := r15 | have HD : ¬ hasD u := fun h => r15 h.1 | have HD : ¬ hasD u := fun h => r15.2 h.2)
    all_goals (first | rw [if_pos HS] at hc' | rw [if_neg HS] at hc')
    all_goals (first | rw [if_pos HD] at hc' | rw [if_neg HD] at hc')
    all_goals (have hIP := @decOk_iff l a u hu hu6 h0)
    all_goals (simp only [sxV, dxV] at hIP)
    all_goals (first | simp only [if_pos HS] at hIP | simp only [if_neg HS] at hIP)
    all_goals (first | simp only [if_pos HD] at hIP | simp only [if_neg HD] at hIP | skip)
    all_goals (rcases hl3 with hl3 | hl3 | hl3)
    all_goals (first | have hc : ¬ a + cntV u ≤ l.length := by omega | have hc : a + cntV u ≤ l.length := by omega)
    all_goals (by_cases hok : decOk l a u)
    all_goals (first | exact absurd hok.2.2.2.1 hc | skip)
    all_goals (first | have eI := decide_eq_true ((hIP hc).1 hok) | have eI := decide_eq_false (fun h => hok ((hIP hc).2 h)) | have eI := True.intro)
    all_goals (first | have hD := decA_yes hok | have hD := decA_no (l := l) (a := a) (fun v h => hok (hdec v h)))
    all_goals (try simp only [sxV, dxV] at hD)
    all_goals (first | simp only [if_pos HS] at hD | simp only [if_neg HS] at hD | skip)
    all_goals (first | simp only [if_pos HD] at hD | simp only [if_neg HD] at hD | skip)
    all_goals (first | have hg1 := numsD (show a + 1 < l.length by omega) | have hg1 := True.intro)
    all_goals (first | have hg2 := numsD (show a + 2 < l.length by omega) | have hg2 := True.intro)
    all_goals (first | have b1 : decide ((l.length : Int) ≤ (a : Int) + 1) = true := decide_eq_true (by omega) | have b1 : decide ((l.length : Int) ≤ (a : Int) + 1) = false := decide_eq_false (by omega))
    all_goals (first | have b2 : decide ((l.length : Int) ≤ (a : Int) + 1 + 1) = true := decide_eq_true (by omega) | have b2 : decide ((l.length : Int) ≤ (a : Int) + 1 + 1) = false := decide_eq_false (by omega))
    all_goals (first | have n1 : ((a : Int) + 1 - (a : Int)) = ((cntV u : Nat) : Int) := by omega | have n1 := True.intro)
    all_goals (first | have n2 : ((a : Int) + 1 + 1 - (a : Int)) = ((cntV u : Nat) : Int) := by omega | have n2 := True.intro)
    all_goals (first | have n3 : ((a : Int) + 1 + 1 + 1 - (a : Int)) = ((cntV u : Nat) : Int) := by omega | have n3 := True.intro)
    all_goals (repeat' (first | refine ⟨by omega, ?_⟩ | (refine hJ _ _ (RunsL.nil ?_); clear hJ J) | refine RunsA.cond rfl (fun h => ?_) (fun h => absurd h (by decide)) | refine RunsA.cond rfl (fun h => absurd h (by decide)) (fun h => ?_) | (refine step_ ?_) | (refine RunsA.rk 9 [] tabOk fun J hJ => ?_; simp only [go_sem, ↓reduceIte, Nat.reduceAdd, Nat.reduceSub, Nat.reduceMul, Nat.reduceLT, Nat.reduceLeDiff, Nat.reduceEqDiff, Nat.reduceBEq, Int.reduceToNat, hnl, es3, es, ed, ps, pd, tn1, tn2, hg1, hg2, b1, b2, eI, n1, n2, n3]; try simp (disch := omega) only [wrap_id]) | (refine hJ _ _ (RunsL.call (ps := []) (rid := 16) rfl rfl rfl rfl rfl (by simp only [go_sem, Nat.reduceEqDiff]; first | done | rfl) (hasXs_ok _ _ _) rfl (by decide) ⟨by decide, by decide, rfl⟩ (by first | exact .inl rfl | exact .inr (.inl rfl) | exact .inr (.inr rfl)) ?_); clear hJ J; rintro r os' ros ⟨rfl, rfl, rfl⟩ _; refine RunsL.go tabOk fun J hJ => ?_; simp only [go_sem, ↓reduceIte, Nat.reduceAdd, Nat.reduceSub, Nat.reduceMul, Nat.reduceLT, Nat.reduceLeDiff, Nat.reduceEqDiff, Nat.reduceBEq, Int.reduceToNat, hnl, es3, es, ed, ps, pd, tn1, tn2, hg1, hg2, b1, b2, eI, n1, n2, n3]; try simp (disch := omega) only [wrap_id]) | (refine hJ _ _ (RunsL.call (ps := []) (rid := 16) rfl rfl rfl rfl rfl (by simp only [go_sem, Nat.reduceEqDiff]; first | done | rfl) (insOks_ok _ _ _ _ _ _ _ _) rfl (by decide) ⟨by decide, by decide, rfl⟩ (by first | exact .inl rfl | exact .inr (.inl rfl) | exact .inr (.inr rfl)) ?_); clear hJ J; rintro r os' ros ⟨rfl, rfl, rfl⟩ _; refine RunsL.go tabOk fun J hJ => ?_; simp only [go_sem, ↓reduceIte, Nat.reduceAdd, Nat.reduceSub, Nat.reduceMul, Nat.reduceLT, Nat.reduceLeDiff, Nat.reduceEqDiff, Nat.reduceBEq, Int.reduceToNat, hnl, es3, es, ed, ps, pd, tn1, tn2, hg1, hg2, b1, b2, eI, n1, n2, n3]; try simp (disch := omega) only [wrap_id]) | simp only [↓reduceIte, not_false_eq_true, hnl, es3, es, ed, ps, pd, tn1, tn2, hg1, hg2, b1, b2, eI, n1, n2, n3]))
    all_goals exact RetA.mk tabOk 0 rfl rfl rfl (by omega) rfl rfl rfl ⟨hD.symm, rfl, rfl⟩
  · have eisw : decide ((0 : Int) ≤ l.getD a 0 ∧ l.getD a 0 ≤ 65535) = false := decide_eq_false hw
    rw [decA_no fun v h => hw (by have h1 := h.1; have h2 := h.2.1; omega)]
    repeat' (first | refine ⟨by omega, ?_⟩ | (refine hJ _ _ (RunsL.nil ?_); clear hJ J) | refine RunsA.cond rfl (fun h => ?_) (fun h => absurd h (by decide)) | refine RunsA.cond rfl (fun h => absurd h (by decide)) (fun h => ?_) | (refine step_ ?_) | (refine RunsA.rk 9 [] tabOk fun J hJ => ?_; simp only [go_sem, ↓reduceIte, Nat.reduceAdd, Nat.reduceSub, Nat.reduceMul, Nat.reduceLT, Nat.reduceLeDiff, Nat.reduceEqDiff, Nat.reduceBEq, Int.reduceToNat, ew, ew2, hg, hnl, eisw]; try simp (disch := omega) only [wrap_id]) | (refine hJ _ _ (RunsL.call (ps := []) (rid := 16) rfl rfl rfl rfl rfl (by simp only [go_sem, Nat.reduceEqDiff]; first | done | rfl) (l1In_ok _ _ _) rfl (by decide) ⟨by decide, by decide, rfl⟩ (by first | exact .inl rfl | exact .inr (.inl rfl) | exact .inr (.inr rfl)) ?_); clear hJ J; rintro r os' ros ⟨rfl, rfl, rfl⟩ _; refine RunsL.go tabOk fun J hJ => ?_; simp only [go_sem, ↓reduceIte, Nat.reduceAdd, Nat.reduceSub, Nat.reduceMul, Nat.reduceLT, Nat.reduceLeDiff, Nat.reduceEqDiff, Nat.reduceBEq, Int.reduceToNat, ew, ew2, hg, hnl, eisw]; try simp (disch := omega) only [wrap_id]) | simp only [↓reduceIte, not_false_eq_true, ew, ew2, hg, hnl, eisw])
    all_goals exact RetA.mk tabOk 0 rfl rfl rfl (by omega) rfl rfl rfl ⟨rfl, rfl, rfl⟩
end Go.Proofs.YtgjeemfggfhibaaGreatDoorFw
