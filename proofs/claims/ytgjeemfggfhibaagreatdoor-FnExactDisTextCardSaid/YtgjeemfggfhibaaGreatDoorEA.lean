/- Words told as lines. -/
import Derived.Test.YtgjeemfggfhibaaGreatDoorE9
import Derived.Test.YtgjeemfggfhibaaGreatDoorDD
import Derived.Test.YtgjeemfggfhibaaGreatDoorDB
namespace Go.Proofs.YtgjeemfggfhibaaGreatDoorFw
open Go Go.RowKit
set_option linter.unusedVariables false
set_option linter.unusedSimpArgs false
set_option maxRecDepth 4000
set_option pp.deepTerms.threshold 6
set_option pp.deepTerms false
def wordL (n : Int) : LineV := .mk 4 [] 0 0 0 0 0 [] [] 0 0 0 0 [] [] 0 [.mk 1 (low16 n) [] []]
def insL (l : List Int) (a u : Nat) : LineV := lineV (opV u : Nat) (smV u) (sgV u) (sxV l a u) (dmV u) (dgV u) (dxV l a u) (nnV u)
open Classical in
noncomputable def disL (l : List Int) : Nat → Nat → List LineV
  | 0, _ => []
  | k + 1, a => if a < l.length then (if decOk l a (l.getD a 0).toNat then insL l a (l.getD a 0).toNat :: disL l k (a + cntV (l.getD a 0).toNat) else wordL (l.getD a 0) :: disL l k (a + 1)) else []
noncomputable def disV (l : List Int) : List LineV := disL l l.length 0
theorem disL_fuel (l : List Int) : ∀ (k k' b : Nat), l.length - b ≤ k → l.length - b ≤ k' → disL l k b = disL l k' b
  | 0, 0, _, _, _ => rfl
  | 0, k' + 1, b, h, _ => by rw [disL, disL, if_neg (by omega)]
  | k + 1, 0, b, _, h => by rw [disL, disL, if_neg (by omega)]
  | k + 1, k' + 1, b, h, h' => by
    rw [disL, disL]
    have := (cntV_le (l.getD b 0).toNat).1
    split
    · split
      · rw [disL_fuel l k k' _ (by omega) (by omega)]
      · rw [disL_fuel l k k' _ (by omega) (by omega)]
    · rfl
theorem disL_yes {l : List Int} {a u : Nat} (ha : a < l.length) (h : decOk l a u) : disL l (l.length - a) a = insL l a u :: disL l (l.length - (a + cntV u)) (a + cntV u) := by
  have e : (l.getD a 0).toNat = u := by rw [h.1]; omega
  have := (cntV_le u).1
  rw [show l.length - a = (l.length - a - 1) + 1 by omega, disL, if_pos ha, e, if_pos h, disL_fuel l _ (l.length - (a + cntV u)) _ (by omega) (by omega)]
theorem disL_no {l : List Int} {a : Nat} (ha : a < l.length) (h : ∀ u, ¬ decOk l a u) : disL l (l.length - a) a = wordL (l.getD a 0) :: disL l (l.length - (a + 1)) (a + 1) := by
  rw [show l.length - a = (l.length - a - 1) + 1 by omega, disL, if_pos ha, if_neg (h _), show l.length - a - 1 = l.length - (a + 1) by omega]
theorem linesA_snoc (m : Md) (l : List LineV) (x : LineV) : linesA m l ++ [lineA m x] = linesA m (l ++ [x]) := by simp [linesA]
set_option maxHeartbeats 4000000 in
theorem disasms_ok (l : List Int) (hl : l.length ≤ 1048576) :
    FnA Tryz.prog 15 false [.row .bo 1 (nums l)] [] (fun r os ros => r = .hd 100 [] ∧ os = [] ∧ ros = [(17, linesA .own (disV l))]) := by
  refine FnA.of Tryz.func15 rfl (by decide) Tryz.ntmps15 (by simp) ?_
  refine run_ ?_
  refine RunsA.loop ?_
  refine (LoopA.ind (fun p : Nat × List LineV => ⟨42, [(0, .row .bo 1 (nums l)), (3, .hd 2304 []), (4, .int .i64 p.1)], [⟨2304, 17, linesA .own p.2⟩], false⟩) (fun p => l.length - p.1) (fun p => p.1 ≤ l.length ∧ p.2.length ≤ p.1 ∧ p.2 ++ disL l (l.length - p.1) p.1 = disV l) ?_ (0, []) ?_).sub rfl ?_ ?_ rfl
  · rintro ⟨a, out⟩ ⟨hi, ho, ht⟩ K3 hK3
    simp only at hi ho ht hK3 ⊢
    refine run1_ @nums_len ?_
    refine RunsA.cond rfl (fun h2 => ?_) (fun h2 => ?_)
    · simp only [decide_eq_true_eq] at h2
      have ha : a < l.length := by omega
      have hD := decodes_ok l a ha (by omega)
      have hln := linesA_len .own out
      have hg := numsD ha
      have hnl := nums_len l
      by_cases hok : ∃ u, decOk l a u
      · obtain ⟨u, hok⟩ := hok
        rw [decA_yes hok] at hD
        rw [disL_yes ha hok] at ht
        have hcl := cntV_le u
        have hce := hok.2.2.2.1
        have hLI := lineOfInss_ok (opV u : Nat) (smV u) (sgV u) (sxV l a u) (dmV u) (dgV u) (dxV l a u) (nnV u)
        have hsn := linesA_snoc .own out (insL l a u)
        unfold insL at ht hsn
        generalize hx : lineV (opV u : Nat) (smV u) (sgV u) (sxV l a u) (dmV u) (dgV u) (dxV l a u) (nnV u) = x at *
        obtain ⟨k, s, o, sf, sg, sk, sn, ss, sl, df, dg, dk, dn, ds, dl, nn, ll⟩ := x
        simp only [lineR, lineO] at hLI
        rw [lineA_mk] at hsn
        refine run_ ?_
        refine RunsA.rq tabOk fun J hJ => ?_
        simp only [go_sem, ↓reduceIte, Nat.reduceAdd, Nat.reduceSub, Nat.reduceMul, Nat.reduceLT, Nat.reduceLeDiff, Nat.reduceEqDiff, Nat.reduceBEq, Int.reduceToNat]
        try simp (disch := omega) only [wrap_id]
        refine hJ _ _ (RunsL.call (ps := []) (rid := 16) rfl rfl rfl rfl rfl (by simp only [go_sem, Nat.reduceEqDiff]; first | done | rfl) (hD) rfl (by decide) ⟨by decide, by decide, rfl⟩ (by first | exact .inl rfl | exact .inr (.inl rfl) | exact .inr (.inr rfl)) ?_); clear hJ J
        rintro r os' ros ⟨rfl, rfl, rfl⟩ _
        refine RunsL.go tabOk fun J hJ => ?_
        simp only [go_sem, ↓reduceIte, Nat.reduceAdd, Nat.reduceSub, Nat.reduceMul, Nat.reduceLT, Nat.reduceLeDiff, Nat.reduceEqDiff, Nat.reduceBEq, Int.reduceToNat]
        try simp (disch := omega) only [wrap_id]
        refine hJ _ _ (RunsL.nil ?_); clear hJ J
        refine run_ ?_
        refine RunsA.cond rfl (fun h => ?_) (fun h => absurd h (by decide))
        refine run_ ?_
        refine RunsA.rq tabOk fun J hJ => ?_
        simp only [go_sem, ↓reduceIte, Nat.reduceAdd, Nat.reduceSub, Nat.reduceMul, Nat.reduceLT, Nat.reduceLeDiff, Nat.reduceEqDiff, Nat.reduceBEq, Int.reduceToNat]
        try simp (disch := omega) only [wrap_id]
        refine hJ _ _ (RunsL.call (ps := []) (rid := 6144) rfl rfl rfl rfl rfl (by simp only [go_sem, Nat.reduceEqDiff]; first | done | rfl) (hLI) rfl (by decide) ⟨by decide, by decide, rfl⟩ (by first | exact .inl rfl | exact .inr (.inl rfl) | exact .inr (.inr rfl)) ?_); clear hJ J
        rintro r os' ros ⟨rfl, rfl, rfl⟩ _
        refine RunsL.go tabOk fun J hJ => ?_
        simp only [go_sem, ↓reduceIte, Nat.reduceAdd, Nat.reduceSub, Nat.reduceMul, Nat.reduceLT, Nat.reduceLeDiff, Nat.reduceEqDiff, Nat.reduceBEq, Int.reduceToNat, hln, hsn]
        try simp (disch := omega) only [wrap_id]
        (repeat refine ⟨by omega, ?_⟩)
        refine hJ _ _ (RunsL.nil ?_); clear hJ J
        refine run_ ?_
        exact hK3 (a + cntV u, out ++ [.mk k s o sf sg sk sn ss sl df dg dk dn ds dl nn ll]) _ ⟨by simp only; omega, by simp only [List.length_append, List.length_cons, List.length_nil]; omega, by simp only [List.append_assoc, List.cons_append, List.nil_append]; exact ht⟩ (by simp only; omega) rfl (by simp [SubS, lookS]) (by simp [SubO, lookO]) rfl
      · have hno : ∀ u, ¬ decOk l a u := fun u h => hok ⟨u, h⟩
        rw [decA_no hno] at hD
        rw [disL_no ha hno] at ht
        have hsn := linesA_snoc .own out (wordL (l.getD a 0))
        have hwl : wordL (l.getD a 0) = .mk 4 [] 0 0 0 0 0 [] [] 0 0 0 0 [] [] 0 [.mk 1 (low16 (l.getD a 0)) [] []] := rfl
        rw [hwl] at ht hsn
        rw [lineA_mk] at hsn
        simp only [exprsA, exprA] at hsn
        refine run_ ?_
        refine RunsA.rq tabOk fun J hJ => ?_
        simp only [go_sem, ↓reduceIte, Nat.reduceAdd, Nat.reduceSub, Nat.reduceMul, Nat.reduceLT, Nat.reduceLeDiff, Nat.reduceEqDiff, Nat.reduceBEq, Int.reduceToNat]
        try simp (disch := omega) only [wrap_id]
        refine hJ _ _ (RunsL.call (ps := []) (rid := 16) rfl rfl rfl rfl rfl (by simp only [go_sem, Nat.reduceEqDiff]; first | done | rfl) (hD) rfl (by decide) ⟨by decide, by decide, rfl⟩ (by first | exact .inl rfl | exact .inr (.inl rfl) | exact .inr (.inr rfl)) ?_); clear hJ J
        rintro r os' ros ⟨rfl, rfl, rfl⟩ _
        refine RunsL.go tabOk fun J hJ => ?_
        simp only [go_sem, ↓reduceIte, Nat.reduceAdd, Nat.reduceSub, Nat.reduceMul, Nat.reduceLT, Nat.reduceLeDiff, Nat.reduceEqDiff, Nat.reduceBEq, Int.reduceToNat]
        try simp (disch := omega) only [wrap_id]
        refine hJ _ _ (RunsL.nil ?_); clear hJ J
        refine run_ ?_
        refine RunsA.cond rfl (fun h => absurd h (by decide)) (fun h => ?_)
        refine run_ ?_
        refine RunsA.rq tabOk fun J hJ => ?_
        simp only [go_sem, ↓reduceIte, Nat.reduceAdd, Nat.reduceSub, Nat.reduceMul, Nat.reduceLT, Nat.reduceLeDiff, Nat.reduceEqDiff, Nat.reduceBEq, Int.reduceToNat, hg, hnl]
        try simp (disch := omega) only [wrap_id]
        (repeat refine ⟨by omega, ?_⟩)
        refine hJ _ _ (RunsL.call (ps := []) (rid := 8960) rfl rfl rfl rfl rfl (by simp only [go_sem, Nat.reduceEqDiff]; first | done | rfl) (l10Num_ok (l.getD a 0)) rfl (by decide) ⟨by decide, by decide, rfl⟩ (by first | exact .inl rfl | exact .inr (.inl rfl) | exact .inr (.inr rfl)) ?_); clear hJ J
        rintro r os' ros ⟨rfl, rfl, rfl⟩ _
        refine RunsL.go tabOk fun J hJ => ?_
        simp only [go_sem, ↓reduceIte, Nat.reduceAdd, Nat.reduceSub, Nat.reduceMul, Nat.reduceLT, Nat.reduceLeDiff, Nat.reduceEqDiff, Nat.reduceBEq, Int.reduceToNat, hln, hsn]
        try simp (disch := omega) only [wrap_id]
        (repeat refine ⟨by omega, ?_⟩)
        refine hJ _ _ (RunsL.nil ?_); clear hJ J
        refine run_ ?_
        exact hK3 (a + 1, out ++ [.mk 4 [] 0 0 0 0 0 [] [] 0 0 0 0 [] [] 0 [.mk 1 (low16 (l.getD a 0)) [] []]]) _ ⟨by simp only; omega, by simp only [List.length_append, List.length_cons, List.length_nil]; omega, by simp only [List.append_assoc, List.cons_append, List.nil_append]; exact ht⟩ (by simp only; omega) rfl (by simp [SubS, lookS]) (by simp [SubO, lookO]) rfl
    · simp only [decide_eq_false_iff_not] at h2
      rw [show l.length - a = 0 by omega, disL, List.append_nil] at ht
      subst ht
      refine run_ ?_
      refine RetA.v tabOk rfl ?_
      simp only [go_sem, ↓reduceIte, Nat.reduceAdd, Nat.reduceSub, Nat.reduceMul, Nat.reduceLT, Nat.reduceLeDiff, Nat.reduceEqDiff, Nat.reduceBEq, Int.reduceToNat]
      refine RetV.ren (id := 2304) (id' := 100) (by simp only [go_sem, ↓reduceIte, Nat.reduceAdd, Nat.reduceSub, Nat.reduceMul, Nat.reduceLT, Nat.reduceLeDiff, Nat.reduceEqDiff, Nat.reduceBEq, Int.reduceToNat]; rfl) ?_
      simp only [go_sem, ↓reduceIte, Nat.reduceAdd, Nat.reduceSub, Nat.reduceMul, Nat.reduceLT, Nat.reduceLeDiff, Nat.reduceEqDiff, Nat.reduceBEq, Int.reduceToNat]
      exact RetV.mk 1 rfl rfl (by omega) rfl (by simp [noBoO, noBo_lines]) rfl ⟨rfl, rfl, rfl⟩
  · exact ⟨Nat.zero_le _, Nat.le_refl _, rfl⟩
  · simp [SubS, lookS]
  · simp [SubO, lookO, linesA]
set_option maxHeartbeats 4000000 in
theorem disasmi_ok (l : List Int) (hl : l.length ≤ 1048576) :
    FnA Tryz.prog 17 false [.row .bo 1 (nums l)] [] (fun r os ros => r = .hd 100 [] ∧ os = [] ∧ ros = [(17, linesA .own (disV l))]) := by
  refine FnA.of Tryz.func17 rfl (by decide) Tryz.ntmps17 (by simp) ?_
  refine run_ ?_
  refine RunsA.loop ?_
  refine (LoopA.ind (fun p : Nat × List LineV => ⟨42, [(0, .row .bo 1 (nums l)), (3, .hd 2304 []), (4, .int .i64 p.1)], [⟨2304, 17, linesA .own p.2⟩], false⟩) (fun p => l.length - p.1) (fun p => p.1 ≤ l.length ∧ p.2.length ≤ p.1 ∧ p.2 ++ disL l (l.length - p.1) p.1 = disV l) ?_ (0, []) ?_).sub rfl ?_ ?_ rfl
  · rintro ⟨a, out⟩ ⟨hi, ho, ht⟩ K3 hK3
    simp only at hi ho ht hK3 ⊢
    refine run1_ @nums_len ?_
    refine RunsA.cond rfl (fun h2 => ?_) (fun h2 => ?_)
    · simp only [decide_eq_true_eq] at h2
      have ha : a < l.length := by omega
      have hD := decodei_ok l a ha (by omega)
      have hln := linesA_len .own out
      have hg := numsD ha
      have hnl := nums_len l
      by_cases hok : ∃ u, decOk l a u
      · obtain ⟨u, hok⟩ := hok
        rw [decA_yes hok] at hD
        rw [disL_yes ha hok] at ht
        have hcl := cntV_le u
        have hce := hok.2.2.2.1
        have hLI := lineOfInsi_ok (opV u : Nat) (smV u) (sgV u) (sxV l a u) (dmV u) (dgV u) (dxV l a u) (nnV u)
        have hsn := linesA_snoc .own out (insL l a u)
        unfold insL at ht hsn
        generalize hx : lineV (opV u : Nat) (smV u) (sgV u) (sxV l a u) (dmV u) (dgV u) (dxV l a u) (nnV u) = x at *
        obtain ⟨k, s, o, sf, sg, sk, sn, ss, sl, df, dg, dk, dn, ds, dl, nn, ll⟩ := x
        simp only [lineR, lineO] at hLI
        rw [lineA_mk] at hsn
        refine run_ ?_
        refine RunsA.rq tabOk fun J hJ => ?_
        simp only [go_sem, ↓reduceIte, Nat.reduceAdd, Nat.reduceSub, Nat.reduceMul, Nat.reduceLT, Nat.reduceLeDiff, Nat.reduceEqDiff, Nat.reduceBEq, Int.reduceToNat]
        try simp (disch := omega) only [wrap_id]
        refine hJ _ _ (RunsL.call (ps := []) (rid := 16) rfl rfl rfl rfl rfl (by simp only [go_sem, Nat.reduceEqDiff]; first | done | rfl) (hD) rfl (by decide) ⟨by decide, by decide, rfl⟩ (by first | exact .inl rfl | exact .inr (.inl rfl) | exact .inr (.inr rfl)) ?_); clear hJ J
        rintro r os' ros ⟨rfl, rfl, rfl⟩ _
        refine RunsL.go tabOk fun J hJ => ?_
        simp only [go_sem, ↓reduceIte, Nat.reduceAdd, Nat.reduceSub, Nat.reduceMul, Nat.reduceLT, Nat.reduceLeDiff, Nat.reduceEqDiff, Nat.reduceBEq, Int.reduceToNat]
        try simp (disch := omega) only [wrap_id]
        refine hJ _ _ (RunsL.nil ?_); clear hJ J
        refine run_ ?_
        refine RunsA.cond rfl (fun h => ?_) (fun h => absurd h (by decide))
        refine run_ ?_
        refine RunsA.rq tabOk fun J hJ => ?_
        simp only [go_sem, ↓reduceIte, Nat.reduceAdd, Nat.reduceSub, Nat.reduceMul, Nat.reduceLT, Nat.reduceLeDiff, Nat.reduceEqDiff, Nat.reduceBEq, Int.reduceToNat]
        try simp (disch := omega) only [wrap_id]
        refine hJ _ _ (RunsL.call (ps := []) (rid := 6144) rfl rfl rfl rfl rfl (by simp only [go_sem, Nat.reduceEqDiff]; first | done | rfl) (hLI) rfl (by decide) ⟨by decide, by decide, rfl⟩ (by first | exact .inl rfl | exact .inr (.inl rfl) | exact .inr (.inr rfl)) ?_); clear hJ J
        rintro r os' ros ⟨rfl, rfl, rfl⟩ _
        refine RunsL.go tabOk fun J hJ => ?_
        simp only [go_sem, ↓reduceIte, Nat.reduceAdd, Nat.reduceSub, Nat.reduceMul, Nat.reduceLT, Nat.reduceLeDiff, Nat.reduceEqDiff, Nat.reduceBEq, Int.reduceToNat, hln, hsn]
        try simp (disch := omega) only [wrap_id]
        (repeat refine ⟨by omega, ?_⟩)
        refine hJ _ _ (RunsL.nil ?_); clear hJ J
        refine run_ ?_
        exact hK3 (a + cntV u, out ++ [.mk k s o sf sg sk sn ss sl df dg dk dn ds dl nn ll]) _ ⟨by simp only; omega, by simp only [List.length_append, List.length_cons, List.length_nil]; omega, by simp only [List.append_assoc, List.cons_append, List.nil_append]; exact ht⟩ (by simp only; omega) rfl (by simp [SubS, lookS]) (by simp [SubO, lookO]) rfl
      · have hno : ∀ u, ¬ decOk l a u := fun u h => hok ⟨u, h⟩
        rw [decA_no hno] at hD
        rw [disL_no ha hno] at ht
        have hsn := linesA_snoc .own out (wordL (l.getD a 0))
        have hwl : wordL (l.getD a 0) = .mk 4 [] 0 0 0 0 0 [] [] 0 0 0 0 [] [] 0 [.mk 1 (low16 (l.getD a 0)) [] []] := rfl
        rw [hwl] at ht hsn
        rw [lineA_mk] at hsn
        simp only [exprsA, exprA] at hsn
        refine run_ ?_
        refine RunsA.rq tabOk fun J hJ => ?_
        simp only [go_sem, ↓reduceIte, Nat.reduceAdd, Nat.reduceSub, Nat.reduceMul, Nat.reduceLT, Nat.reduceLeDiff, Nat.reduceEqDiff, Nat.reduceBEq, Int.reduceToNat]
        try simp (disch := omega) only [wrap_id]
        refine hJ _ _ (RunsL.call (ps := []) (rid := 16) rfl rfl rfl rfl rfl (by simp only [go_sem, Nat.reduceEqDiff]; first | done | rfl) (hD) rfl (by decide) ⟨by decide, by decide, rfl⟩ (by first | exact .inl rfl | exact .inr (.inl rfl) | exact .inr (.inr rfl)) ?_); clear hJ J
        rintro r os' ros ⟨rfl, rfl, rfl⟩ _
        refine RunsL.go tabOk fun J hJ => ?_
        simp only [go_sem, ↓reduceIte, Nat.reduceAdd, Nat.reduceSub, Nat.reduceMul, Nat.reduceLT, Nat.reduceLeDiff, Nat.reduceEqDiff, Nat.reduceBEq, Int.reduceToNat]
        try simp (disch := omega) only [wrap_id]
        refine hJ _ _ (RunsL.nil ?_); clear hJ J
        refine run_ ?_
        refine RunsA.cond rfl (fun h => absurd h (by decide)) (fun h => ?_)
        refine run_ ?_
        refine RunsA.rq tabOk fun J hJ => ?_
        simp only [go_sem, ↓reduceIte, Nat.reduceAdd, Nat.reduceSub, Nat.reduceMul, Nat.reduceLT, Nat.reduceLeDiff, Nat.reduceEqDiff, Nat.reduceBEq, Int.reduceToNat, hg, hnl]
        try simp (disch := omega) only [wrap_id]
        (repeat refine ⟨by omega, ?_⟩)
        refine hJ _ _ (RunsL.call (ps := []) (rid := 8960) rfl rfl rfl rfl rfl (by simp only [go_sem, Nat.reduceEqDiff]; first | done | rfl) (number_ok (l.getD a 0)) rfl (by decide) ⟨by decide, by decide, rfl⟩ (by first | exact .inl rfl | exact .inr (.inl rfl) | exact .inr (.inr rfl)) ?_); clear hJ J
        rintro r os' ros ⟨rfl, rfl, rfl⟩ _
        refine RunsL.go tabOk fun J hJ => ?_
        simp only [go_sem, ↓reduceIte, Nat.reduceAdd, Nat.reduceSub, Nat.reduceMul, Nat.reduceLT, Nat.reduceLeDiff, Nat.reduceEqDiff, Nat.reduceBEq, Int.reduceToNat, hln, hsn]
        try simp (disch := omega) only [wrap_id]
        (repeat refine ⟨by omega, ?_⟩)
        refine hJ _ _ (RunsL.nil ?_); clear hJ J
        refine run_ ?_
        exact hK3 (a + 1, out ++ [.mk 4 [] 0 0 0 0 0 [] [] 0 0 0 0 [] [] 0 [.mk 1 (low16 (l.getD a 0)) [] []]]) _ ⟨by simp only; omega, by simp only [List.length_append, List.length_cons, List.length_nil]; omega, by simp only [List.append_assoc, List.cons_append, List.nil_append]; exact ht⟩ (by simp only; omega) rfl (by simp [SubS, lookS]) (by simp [SubO, lookO]) rfl
    · simp only [decide_eq_false_iff_not] at h2
      rw [show l.length - a = 0 by omega, disL, List.append_nil] at ht
      subst ht
      refine run_ ?_
      refine RetA.v tabOk rfl ?_
      simp only [go_sem, ↓reduceIte, Nat.reduceAdd, Nat.reduceSub, Nat.reduceMul, Nat.reduceLT, Nat.reduceLeDiff, Nat.reduceEqDiff, Nat.reduceBEq, Int.reduceToNat]
      refine RetV.ren (id := 2304) (id' := 100) (by simp only [go_sem, ↓reduceIte, Nat.reduceAdd, Nat.reduceSub, Nat.reduceMul, Nat.reduceLT, Nat.reduceLeDiff, Nat.reduceEqDiff, Nat.reduceBEq, Int.reduceToNat]; rfl) ?_
      simp only [go_sem, ↓reduceIte, Nat.reduceAdd, Nat.reduceSub, Nat.reduceMul, Nat.reduceLT, Nat.reduceLeDiff, Nat.reduceEqDiff, Nat.reduceBEq, Int.reduceToNat]
      exact RetV.mk 1 rfl rfl (by omega) rfl (by simp [noBoO, noBo_lines]) rfl ⟨rfl, rfl, rfl⟩
  · exact ⟨Nat.zero_le _, Nat.le_refl _, rfl⟩
  · simp [SubS, lookS]
  · simp [SubO, lookO, linesA]
end Go.Proofs.YtgjeemfggfhibaaGreatDoorFw
