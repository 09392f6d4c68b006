/- The law FnExactDisText, walked. -/
import Derived.Test.YtgjeemfggfhibaaGreatDoorH7
import Derived.Test.YtgjeemfggfhibaaGreatDoorEA
namespace Go.Proofs.YtgjeemfggfhibaaGreatDoorFw
open Go Go.RowKit
set_option linter.unusedVariables false
set_option linter.unusedSimpArgs false
set_option maxRecDepth 4000
set_option pp.deepTerms.threshold 6
set_option pp.deepTerms false
theorem disL_tot (l : List Int) : ∀ k a, (disL l k a).length ≤ k ∧ ∀ x ∈ disL l k a, x.tot ≤ 1048576
  | 0, a => by simp [disL]
  | k + 1, a => by
    rw [disL]
    split
    · split
      · have h1 := disL_tot l k (a + cntV (l.getD a 0).toNat)
        have h2 : (insL l a (l.getD a 0).toNat).tot ≤ 100 := by
          generalize (l.getD a 0).toNat = u
          have := lineV_small (opV u : Nat) (smV u) (sgV u) (sxV l a u) (dmV u) (dgV u) (dxV l a u) (nnV u)
          unfold insL
          generalize lineV (opV u : Nat) (smV u) (sgV u) (sxV l a u) (dmV u) (dgV u) (dxV l a u) (nnV u) = x at *
          obtain ⟨k, s, o, sf, sg, sk, sn, ss, sl, df, dg, dk, dn, ds, dl, nn, ll⟩ := x
          simp only [LineV.cnt, LineV.cntA] at *
          omega
        refine ⟨by simp only [List.length_cons]; omega, fun x hx => ?_⟩
        rcases List.mem_cons.1 hx with rfl | hx
        · omega
        · exact h1.2 x hx
      · have h1 := disL_tot l k (a + 1)
        have h2 : (wordL (l.getD a 0)).tot ≤ 100 := by simp [wordL, LineV.tot, ExprV.totL, ExprV.tot]
        refine ⟨by simp only [List.length_cons]; omega, fun x hx => ?_⟩
        rcases List.mem_cons.1 hx with rfl | hx
        · omega
        · exact h1.2 x hx
    · simp
theorem disTexts_ok (l : List Int) (hl : l.length ≤ 1048576) :
    FnA Tryz.prog 5 false [.row .bo 1 (nums l)] [] (fun r os ros => r = .str (textW (disV l)) ∧ os = [] ∧ ros = []) := by
  have hS := disasms_ok l hl
  obtain ⟨b1, b2⟩ := disL_tot l l.length 0
  rw [← disV] at b1 b2
  have hT := textOfs_ok (disV l) (by omega) b2
  generalize disV l = L at *
  refine FnA.of Tryz.func5 rfl (by decide) Tryz.ntmps5 (by simp) ?_
  refine run_ ?_
  refine RunsA.rq tabOk fun J hJ => ?_
  simp only [go_sem, ↓reduceIte, Nat.reduceAdd, Nat.reduceSub, Nat.reduceMul, Nat.reduceLT, Nat.reduceLeDiff, Nat.reduceEqDiff, Nat.reduceBEq, Int.reduceToNat]
  try simp (disch := omega) only [wrap_id]
  refine hJ _ _ (RunsL.call (ps := []) (rid := 1280) rfl rfl rfl rfl rfl (by simp only [go_sem, Nat.reduceEqDiff, brw_nums]; first | done | rfl) (hS) rfl (by decide) ⟨by decide, by decide, rfl⟩ (by first | exact .inl rfl | exact .inr (.inl rfl) | exact .inr (.inr rfl)) ?_); clear hJ J
  rintro r os' ros ⟨rfl, rfl, rfl⟩ _
  refine RunsL.go tabOk fun J hJ => ?_
  simp only [go_sem, ↓reduceIte, Nat.reduceAdd, Nat.reduceSub, Nat.reduceMul, Nat.reduceLT, Nat.reduceLeDiff, Nat.reduceEqDiff, Nat.reduceBEq, Int.reduceToNat]
  try simp (disch := omega) only [wrap_id]
  refine hJ _ _ (RunsL.call (ps := []) (rid := 16) rfl rfl rfl rfl rfl (by simp only [go_sem, Nat.reduceEqDiff, brw_lines]; first | done | rfl) (hT) rfl (by decide) ⟨by decide, by decide, rfl⟩ (by first | exact .inl rfl | exact .inr (.inl rfl) | exact .inr (.inr rfl)) ?_); clear hJ J
  rintro r os' ros ⟨rfl, rfl, rfl⟩ _
  refine RunsL.go tabOk fun J hJ => ?_
  simp only [go_sem, ↓reduceIte, Nat.reduceAdd, Nat.reduceSub, Nat.reduceMul, Nat.reduceLT, Nat.reduceLeDiff, Nat.reduceEqDiff, Nat.reduceBEq, Int.reduceToNat]
  try simp (disch := omega) only [wrap_id]
  refine hJ _ _ (RunsL.nil ?_); clear hJ J
  refine run_ ?_
  exact RetA.mk tabOk 0 rfl rfl rfl (by omega) rfl rfl rfl ⟨rfl, rfl, rfl⟩
theorem disTexti_ok (l : List Int) (hl : l.length ≤ 1048576) :
    FnA Tryz.prog 7 false [.row .bo 1 (nums l)] [] (fun r os ros => r = .str (textW (disV l)) ∧ os = [] ∧ ros = []) := by
  have hS := disasmi_ok l hl
  obtain ⟨b1, b2⟩ := disL_tot l l.length 0
  rw [← disV] at b1 b2
  have hT := textOfi_ok (disV l) (by omega) b2
  generalize disV l = L at *
  refine FnA.of Tryz.func7 rfl (by decide) Tryz.ntmps7 (by simp) ?_
  refine run_ ?_
  refine RunsA.rq tabOk fun J hJ => ?_
  simp only [go_sem, ↓reduceIte, Nat.reduceAdd, Nat.reduceSub, Nat.reduceMul, Nat.reduceLT, Nat.reduceLeDiff, Nat.reduceEqDiff, Nat.reduceBEq, Int.reduceToNat]
  try simp (disch := omega) only [wrap_id]
  refine hJ _ _ (RunsL.call (ps := []) (rid := 1280) rfl rfl rfl rfl rfl (by simp only [go_sem, Nat.reduceEqDiff, brw_nums]; first | done | rfl) (hS) rfl (by decide) ⟨by decide, by decide, rfl⟩ (by first | exact .inl rfl | exact .inr (.inl rfl) | exact .inr (.inr rfl)) ?_); clear hJ J
  rintro r os' ros ⟨rfl, rfl, rfl⟩ _
  refine RunsL.go tabOk fun J hJ => ?_
  simp only [go_sem, ↓reduceIte, Nat.reduceAdd, Nat.reduceSub, Nat.reduceMul, Nat.reduceLT, Nat.reduceLeDiff, Nat.reduceEqDiff, Nat.reduceBEq, Int.reduceToNat]
  try simp (disch := omega) only [wrap_id]
  refine hJ _ _ (RunsL.call (ps := []) (rid := 16) rfl rfl rfl rfl rfl (by simp only [go_sem, Nat.reduceEqDiff, brw_lines]; first | done | rfl) (hT) rfl (by decide) ⟨by decide, by decide, rfl⟩ (by first | exact .inl rfl | exact .inr (.inl rfl) | exact .inr (.inr rfl)) ?_); clear hJ J
  rintro r os' ros ⟨rfl, rfl, rfl⟩ _
  refine RunsL.go tabOk fun J hJ => ?_
  simp only [go_sem, ↓reduceIte, Nat.reduceAdd, Nat.reduceSub, Nat.reduceMul, Nat.reduceLT, Nat.reduceLeDiff, Nat.reduceEqDiff, Nat.reduceBEq, Int.reduceToNat]
  try simp (disch := omega) only [wrap_id]
  refine hJ _ _ (RunsL.nil ?_); clear hJ J
  refine run_ ?_
  exact RetA.mk tabOk 0 rfl rfl rfl (by omega) rfl rfl rfl ⟨rfl, rfl, rfl⟩
theorem lawDisText_ok (l : List Int) (hl : l.length ≤ 140737488355328) : FnA Tryz.prog 3 false [.row .bo 1 (nums l)] [] (fun r os ros => r = .bool true ∧ os = [] ∧ ros = []) := by
  refine FnA.of Tryz.func3 rfl (by decide) Tryz.ntmps3 (by simp) ?_
  refine run1_ @nums_len ?_
  refine RunsA.cond rfl (fun h => ?_) (fun h => ?_)
  · refine run_ ?_
    exact RetA.mk tabOk 0 rfl rfl rfl (by omega) rfl rfl rfl ⟨rfl, rfl, rfl⟩
  have hlen : l.length ≤ 1048576 := by
    have : (l.length : Int) ≤ 1048576 := by simpa using h
    omega
  have hS := disTexts_ok l hlen
  have hI := disTexti_ok l hlen
  generalize textW (disV l) = tv at *
  have hT := toIntS_ok l (by omega)
  have hQ := eqIntS_ok l l (by omega)
  have ed : decide (l = l) = true := decide_eq_true rfl
  rw [ed] at hQ
  have et : (tv != tv) = false := by simp
  refine run_ ?_
  refine RunsA.rq tabOk fun J hJ => ?_
  simp only [go_sem, ↓reduceIte, Nat.reduceAdd, Nat.reduceSub, Nat.reduceMul, Nat.reduceLT, Nat.reduceLeDiff, Nat.reduceEqDiff, Nat.reduceBEq, Int.reduceToNat]
  try simp (disch := omega) only [wrap_id]
  refine hJ _ _ (RunsL.call (ps := []) (rid := 2816) rfl rfl rfl rfl rfl (by simp only [go_sem, Nat.reduceEqDiff]; first | done | rfl) (hT) rfl (by decide) ⟨by decide, by decide, rfl⟩ (by first | exact .inl rfl | exact .inr (.inl rfl) | exact .inr (.inr rfl)) ?_); clear hJ J
  rintro r os' ros ⟨rfl, rfl, rfl⟩ _
  refine RunsL.go tabOk fun J hJ => ?_
  simp only [go_sem, ↓reduceIte, Nat.reduceAdd, Nat.reduceSub, Nat.reduceMul, Nat.reduceLT, Nat.reduceLeDiff, Nat.reduceEqDiff, Nat.reduceBEq, Int.reduceToNat]
  try simp (disch := omega) only [wrap_id]
  refine hJ _ _ (RunsL.call (ps := []) (rid := 16) rfl rfl rfl rfl rfl (by simp only [go_sem, Nat.reduceEqDiff, brw_nums]; first | done | rfl) (hS) rfl (by decide) ⟨by decide, by decide, rfl⟩ (by first | exact .inl rfl | exact .inr (.inl rfl) | exact .inr (.inr rfl)) ?_); clear hJ J
  rintro r os' ros ⟨rfl, rfl, rfl⟩ _
  refine RunsL.go tabOk fun J hJ => ?_
  simp only [go_sem, ↓reduceIte, Nat.reduceAdd, Nat.reduceSub, Nat.reduceMul, Nat.reduceLT, Nat.reduceLeDiff, Nat.reduceEqDiff, Nat.reduceBEq, Int.reduceToNat]
  try simp (disch := omega) only [wrap_id]
  refine hJ _ _ (RunsL.nil ?_); clear hJ J
  refine run_ ?_
  refine RunsA.rq tabOk fun J hJ => ?_
  simp only [go_sem, ↓reduceIte, Nat.reduceAdd, Nat.reduceSub, Nat.reduceMul, Nat.reduceLT, Nat.reduceLeDiff, Nat.reduceEqDiff, Nat.reduceBEq, Int.reduceToNat]
  try simp (disch := omega) only [wrap_id]
  refine hJ _ _ (RunsL.call (ps := []) (rid := 3584) rfl rfl rfl rfl rfl (by simp only [go_sem, Nat.reduceEqDiff]; first | done | rfl) (hT) rfl (by decide) ⟨by decide, by decide, rfl⟩ (by first | exact .inl rfl | exact .inr (.inl rfl) | exact .inr (.inr rfl)) ?_); clear hJ J
  rintro r os' ros ⟨rfl, rfl, rfl⟩ _
  refine RunsL.go tabOk fun J hJ => ?_
  simp only [go_sem, ↓reduceIte, Nat.reduceAdd, Nat.reduceSub, Nat.reduceMul, Nat.reduceLT, Nat.reduceLeDiff, Nat.reduceEqDiff, Nat.reduceBEq, Int.reduceToNat]
  try simp (disch := omega) only [wrap_id]
  refine hJ _ _ (RunsL.nil ?_); clear hJ J
  refine run_ ?_
  refine RunsA.rq tabOk fun J hJ => ?_
  simp only [go_sem, ↓reduceIte, Nat.reduceAdd, Nat.reduceSub, Nat.reduceMul, Nat.reduceLT, Nat.reduceLeDiff, Nat.reduceEqDiff, Nat.reduceBEq, Int.reduceToNat]
  try simp (disch := omega) only [wrap_id]
  refine hJ _ _ (RunsL.call (ps := []) (rid := 16) rfl rfl rfl rfl rfl (by simp only [go_sem, Nat.reduceEqDiff, brw_nums]; first | done | rfl) (hI) rfl (by decide) ⟨by decide, by decide, rfl⟩ (by first | exact .inl rfl | exact .inr (.inl rfl) | exact .inr (.inr rfl)) ?_); clear hJ J
  rintro r os' ros ⟨rfl, rfl, rfl⟩ _
  refine RunsL.go tabOk fun J hJ => ?_
  simp only [go_sem, ↓reduceIte, Nat.reduceAdd, Nat.reduceSub, Nat.reduceMul, Nat.reduceLT, Nat.reduceLeDiff, Nat.reduceEqDiff, Nat.reduceBEq, Int.reduceToNat]
  try simp (disch := omega) only [wrap_id]
  refine hJ _ _ (RunsL.nil ?_); clear hJ J
  refine run1_ @et ?_
  refine RunsA.cond rfl (fun h => ?_) (fun h => ?_)
  · simp at h
  refine run_ ?_
  refine RunsA.rq tabOk fun J hJ => ?_
  simp only [go_sem, ↓reduceIte, Nat.reduceAdd, Nat.reduceSub, Nat.reduceMul, Nat.reduceLT, Nat.reduceLeDiff, Nat.reduceEqDiff, Nat.reduceBEq, Int.reduceToNat]
  try simp (disch := omega) only [wrap_id]
  refine hJ _ _ (RunsL.call (ps := []) (rid := 5632) rfl rfl rfl rfl rfl (by simp only [go_sem, Nat.reduceEqDiff]; first | done | rfl) (hT) rfl (by decide) ⟨by decide, by decide, rfl⟩ (by first | exact .inl rfl | exact .inr (.inl rfl) | exact .inr (.inr rfl)) ?_); clear hJ J
  rintro r os' ros ⟨rfl, rfl, rfl⟩ _
  refine RunsL.go tabOk fun J hJ => ?_
  simp only [go_sem, ↓reduceIte, Nat.reduceAdd, Nat.reduceSub, Nat.reduceMul, Nat.reduceLT, Nat.reduceLeDiff, Nat.reduceEqDiff, Nat.reduceBEq, Int.reduceToNat]
  try simp (disch := omega) only [wrap_id]
  refine hJ _ _ (RunsL.call (ps := []) (rid := 16) rfl rfl rfl rfl rfl (by simp only [go_sem, Nat.reduceEqDiff, brw_nums]; first | done | rfl) (hQ) rfl (by decide) ⟨by decide, by decide, rfl⟩ (by first | exact .inl rfl | exact .inr (.inl rfl) | exact .inr (.inr rfl)) ?_); clear hJ J
  rintro r os' ros ⟨rfl, rfl, rfl⟩ _
  refine RunsL.go tabOk fun J hJ => ?_
  simp only [go_sem, ↓reduceIte, Nat.reduceAdd, Nat.reduceSub, Nat.reduceMul, Nat.reduceLT, Nat.reduceLeDiff, Nat.reduceEqDiff, Nat.reduceBEq, Int.reduceToNat, Bool.not_true]
  try simp (disch := omega) only [wrap_id]
  refine hJ _ _ (RunsL.nil ?_); clear hJ J
  refine run_ ?_
  refine RunsA.cond rfl (fun h => ?_) (fun h => ?_)
  · simp at h
  refine run_ ?_
  exact RetA.mk tabOk 0 rfl rfl rfl (by omega) rfl rfl rfl ⟨rfl, rfl, rfl⟩
end Go.Proofs.YtgjeemfggfhibaaGreatDoorFw
