/- Trees of segments: whether names are right, all modules, whether texts are unlike. -/
import Derived.Test.YtiilnlihimdnlaaGreatDoorS1
import Derived.Test.YtiilnlihimdnlaaGreatDoorQC
namespace Go.Proofs.YtiilnlihimdnlaaGreatDoorFw
open Go Go.RowKit
set_option linter.unusedVariables false
set_option linter.unusedSimpArgs false
set_option maxRecDepth 4000
set_option pp.deepTerms.threshold 6
set_option pp.deepTerms false
theorem compact_all_iff (zs : List Str) : (Lib.compact zs).length = zs.length ↔ ∀ j, 0 < j → j < zs.length → zs[j]? ≠ zs[j - 1]? := by
  unfold Lib.compact Lib.compactUpTo
  rw [List.length_map]
  have hk : ∀ j, j < zs.length → (Lib.keeps zs.toArray j = true ↔ (0 < j → zs[j]? ≠ zs[j - 1]?)) := by
    intro j hj
    unfold Lib.keeps
    rw [decide_eq_true_iff]
    have e1 : zs.toArray[j]! = zs[j] := by simp [hj]
    have e2 : zs.toArray[j - 1]! = zs[j - 1]'(by omega) := by simp [show j - 1 < zs.length by omega]
    rw [e1, e2, List.getElem?_eq_getElem hj, List.getElem?_eq_getElem (show j - 1 < zs.length by omega)]
    constructor
    · rintro (h | h) h0
      · omega
      · intro e; exact h (Option.some.inj e)
    · intro h
      by_cases h0 : j = 0
      · exact .inl h0
      · exact .inr fun e => h (by omega) (by rw [e])
  constructor
  · intro h j h0 hj
    have := List.length_filter_eq_length_iff.1 (h.trans (List.length_range (n := zs.length)).symm) j (List.mem_range.2 hj)
    exact (hk j hj).1 this h0
  · intro h
    refine (List.length_filter_eq_length_iff.2 fun j hj => ?_).trans List.length_range
    have hj := List.mem_range.1 hj
    exact (hk j hj).2 fun h0 => h j h0 hj
theorem sorted_pairwise (l : List Str) : (sorted l).Pairwise fun a b => a ≤ b := by
  have := List.pairwise_mergeSort (le := fun x y : Str => decide (x ≤ y)) (fun a b c h1 h2 => by
    simp only [decide_eq_true_eq] at *; exact List.le_trans h1 h2) (fun a b => by
    simp only [Bool.or_eq_true, decide_eq_true_eq]; exact List.le_total a b) l
  exact this.imp fun h => by simpa using h
theorem sorted_nodup (l : List Str) : (Lib.compact (sorted l)).length = l.length ↔ l.Nodup := by
  have hp : (sorted l).Perm l := List.mergeSort_perm l _
  rw [← sorted_len l, compact_all_iff, ← hp.nodup_iff]
  have hs := sorted_pairwise l
  generalize sorted l = z at *
  rw [List.pairwise_iff_getElem] at hs
  constructor
  · intro h
    rw [List.Nodup, List.pairwise_iff_getElem]
    intro i j hi hj hij e
    have h1 : z[i] ≤ z[j - 1]'(by omega) := by
      rcases Nat.lt_or_ge i (j - 1) with h2 | h2
      · exact hs i (j - 1) hi (by omega) h2
      · have : j - 1 = i := by omega
        simp only [this]; exact List.le_refl _
    have h2 : z[j - 1]'(by omega) ≤ z[j] := hs (j - 1) j (by omega) hj (by omega)
    have h3 : z[j - 1]'(by omega) = z[j] := by
      rw [e] at h1
      exact List.le_antisymm h2 h1
    refine h j (by omega) hj ?_
    rw [List.getElem?_eq_getElem hj, List.getElem?_eq_getElem (show j - 1 < z.length by omega), h3]
  · intro h j h0 hj e
    rw [List.getElem?_eq_getElem hj, List.getElem?_eq_getElem (show j - 1 < z.length by omega)] at e
    rw [List.Nodup, List.pairwise_iff_getElem] at h
    exact h (j - 1) j (by omega) hj (by omega) (Option.some.inj e).symm
open Classical in
noncomputable instance (l : List Str) : Decidable l.Nodup := inferInstance
theorem copyTexts_ok (l : List Str) (hl : l.length ≤ 8796093022207) : FnA Tryz.prog 98 false [.row .bo 1 (strs l)] [] (fun r os ros => r = .hd 100 [] ∧ os = [] ∧ ros = [(1, strs l)]) := by
  refine FnA.of Tryz.func98 rfl (by decide) Tryz.ntmps98 (by simp) ?_
  repeat (first | refine RunsA.sq ?_ | refine RunsA.bk ?_ | refine RunsA.sk ?_ | refine RunsA.ex ?_ | refine RunsA.rt ?_ | refine At.n ?_ | refine At.x ?_ | refine At.r ?_ | refine At.bn ?_ | refine At.br ?_ | refine At.bx ?_ | refine At.by_ rfl ?_ | refine At.kx ?_ | refine At.kr ?_ | refine At.kn ?_ | refine At.er ?_ | refine At.en ?_ | (refine RunsA.rq tabOk fun J hJ => ?_; simp only [go_sem, ↓reduceIte, Nat.reduceAdd, Nat.reduceSub, Nat.reduceMul, Nat.reduceLT, Nat.reduceLeDiff, Nat.reduceEqDiff, Nat.reduceBEq, Int.reduceToNat, strs_len, List.nil_append]; (try simp (disch := omega) only [wrap_id]); (repeat refine ⟨by omega, ?_⟩); refine hJ _ _ (RunsL.nil ?_); clear hJ J) | (refine RunsA.dq mixed tabOk (by kernel_rfl) fun J hJ => ?_; simp only [go_sem, ↓reduceIte, Nat.reduceAdd, Nat.reduceSub, Nat.reduceMul, Nat.reduceLT, Nat.reduceLeDiff, Nat.reduceEqDiff, Nat.reduceBEq, Int.reduceToNat, strs_len, List.nil_append]; (try simp (disch := omega) only [wrap_id]); (repeat refine ⟨by omega, ?_⟩); refine hJ _ _ (QRuns.nil ?_); clear hJ J))
  refine RetA.v tabOk rfl ?_
  simp only [go_sem, ↓reduceIte, Nat.reduceAdd, Nat.reduceSub, Nat.reduceMul, Nat.reduceLT, Nat.reduceLeDiff, Nat.reduceEqDiff, Nat.reduceBEq, Int.reduceToNat]
  refine RetV.ren (id := 1024) (id' := 100) (by simp only [go_sem, ↓reduceIte, Nat.reduceAdd, Nat.reduceSub, Nat.reduceMul, Nat.reduceLT, Nat.reduceLeDiff, Nat.reduceEqDiff, Nat.reduceBEq, Int.reduceToNat]; rfl) ?_
  simp only [go_sem, ↓reduceIte, Nat.reduceAdd, Nat.reduceSub, Nat.reduceMul, Nat.reduceLT, Nat.reduceLeDiff, Nat.reduceEqDiff, Nat.reduceBEq, Int.reduceToNat]
  exact RetV.mk 1 rfl rfl (by omega) rfl (by simp [noBoO, noBo_strs]) rfl ⟨rfl, rfl, rfl⟩
theorem unlike_ok (l : List Str) (hl : l.length ≤ 8796093022207) : FnA Tryz.prog 60 false [.row .bo 1 (strs l)] [] (fun r os ros => r = .bool (decide l.Nodup) ∧ os = [] ∧ ros = []) := by
  have hsl := sorted_len l
  have hC := copyTexts_ok l hl
  have hS := sort_ok l (by omega)
  have hP := compact_ok (sorted l) (by omega)
  have hle := compact_le (sorted l)
  have hN : decide l.Nodup = (((Lib.compact (sorted l)).length : Int) == (l.length : Int)) := by
    rw [Bool.eq_iff_iff, decide_eq_true_iff, beq_iff_eq, ← sorted_nodup]
    omega
  rw [hN]
  generalize Lib.compact (sorted l) = z at *
  generalize sorted l = sl at *
  refine FnA.of Tryz.func60 rfl (by decide) Tryz.ntmps60 (by simp) ?_
  refine run_ ?_
  refine RunsA.rq tabOk fun J hJ => ?_
  simp only [go_sem, ↓reduceIte, Nat.reduceAdd, Nat.reduceSub, Nat.reduceMul, Nat.reduceLT, Nat.reduceLeDiff, Nat.reduceEqDiff, Nat.reduceBEq, Int.reduceToNat]
  try simp (disch := omega) only [wrap_id]
  refine hJ _ _ (RunsL.call (ps := []) (rid := 1536) rfl rfl rfl rfl rfl (by simp only [go_sem, Nat.reduceEqDiff]; first | done | rfl) (hC) rfl (by decide) ⟨by decide, by decide, rfl⟩ (by first | exact .inl rfl | exact .inr (.inl rfl) | exact .inr (.inr rfl)) ?_); clear hJ J
  rintro r os' ros ⟨rfl, rfl, rfl⟩ _
  refine RunsL.go tabOk fun J hJ => ?_
  simp only [go_sem, ↓reduceIte, Nat.reduceAdd, Nat.reduceSub, Nat.reduceMul, Nat.reduceLT, Nat.reduceLeDiff, Nat.reduceEqDiff, Nat.reduceBEq, Int.reduceToNat]
  try simp (disch := omega) only [wrap_id]
  refine hJ _ _ (RunsL.nil ?_); clear hJ J
  refine run_ ?_
  refine RunsA.rq tabOk fun J hJ => ?_
  simp only [go_sem, ↓reduceIte, Nat.reduceAdd, Nat.reduceSub, Nat.reduceMul, Nat.reduceLT, Nat.reduceLeDiff, Nat.reduceEqDiff, Nat.reduceBEq, Int.reduceToNat]
  try simp (disch := omega) only [wrap_id]
  refine hJ _ _ (RunsL.call (ps := [1536]) (rid := 16) rfl rfl rfl rfl rfl (by simp only [go_sem, Nat.reduceEqDiff]; first | done | rfl) (hS) rfl (by decide) ⟨by decide, by decide, rfl⟩ (by first | exact .inl rfl | exact .inr (.inl rfl) | exact .inr (.inr rfl)) ?_); clear hJ J
  rintro r os' ros ⟨rfl, rfl, rfl⟩ _
  refine RunsL.go tabOk fun J hJ => ?_
  simp only [go_sem, ↓reduceIte, Nat.reduceAdd, Nat.reduceSub, Nat.reduceMul, Nat.reduceLT, Nat.reduceLeDiff, Nat.reduceEqDiff, Nat.reduceBEq, Int.reduceToNat]
  try simp (disch := omega) only [wrap_id]
  refine hJ _ _ (RunsL.nil ?_); clear hJ J
  refine run_ ?_
  refine RunsA.rq tabOk fun J hJ => ?_
  simp only [go_sem, ↓reduceIte, Nat.reduceAdd, Nat.reduceSub, Nat.reduceMul, Nat.reduceLT, Nat.reduceLeDiff, Nat.reduceEqDiff, Nat.reduceBEq, Int.reduceToNat]
  try simp (disch := omega) only [wrap_id]
  refine hJ _ _ (RunsL.call (ps := [1536]) (rid := 16) rfl rfl rfl rfl rfl (by simp only [go_sem, Nat.reduceEqDiff]; first | done | rfl) (hP) rfl (by decide) ⟨by decide, by decide, rfl⟩ (by first | exact .inl rfl | exact .inr (.inl rfl) | exact .inr (.inr rfl)) ?_); clear hJ J
  rintro r os' ros ⟨rfl, rfl, rfl⟩ _
  refine RunsL.go tabOk fun J hJ => ?_
  simp only [go_sem, ↓reduceIte, Nat.reduceAdd, Nat.reduceSub, Nat.reduceMul, Nat.reduceLT, Nat.reduceLeDiff, Nat.reduceEqDiff, Nat.reduceBEq, Int.reduceToNat, strs_len]
  try simp (disch := omega) only [wrap_id]
  (repeat refine ⟨by omega, ?_⟩)
  refine hJ _ _ (RunsL.nil ?_); clear hJ J
  refine run_ ?_
  exact RetA.mk tabOk 0 rfl rfl rfl (by omega) rfl rfl rfl ⟨rfl, rfl, rfl⟩
mutual
def SegV.mods : SegV → List Str
  | .mk n ms ks => ms ++ SegV.modsL ks
def SegV.modsL : List SegV → List Str
  | [] => []
  | s :: r => s.mods ++ SegV.modsL r
end
theorem SegV.modsL_snoc : ∀ (l : List SegV) (i : Nat) (h : i < l.length), SegV.modsL (l.take (i + 1)) = SegV.modsL (l.take i) ++ l[i].mods
  | s :: r, 0, h => by simp [SegV.modsL]
  | s :: r, i + 1, h => by
    simp only [List.take_succ_cons, SegV.modsL, List.getElem_cons_succ]
    rw [SegV.modsL_snoc r i (by simpa using h), List.append_assoc]
mutual
theorem SegV.mods_len : ∀ s : SegV, s.mods.length ≤ s.tot
  | .mk n ms ks => by simp only [SegV.mods, SegV.tot, List.length_append, totS]; have := SegV.modsL_len ks; omega
theorem SegV.modsL_len : ∀ l : List SegV, (SegV.modsL l).length ≤ SegV.totL l
  | [] => by simp [SegV.modsL]
  | s :: r => by simp only [SegV.modsL, SegV.totL, List.length_append]; have := SegV.mods_len s; have := SegV.modsL_len r; omega
end
theorem modsOf_ok : ∀ s : SegV, s.tot ≤ 1048576 → FnA Tryz.prog 61 false [segA .bo s] [] (fun r os ros => r = .hd 100 [] ∧ os = [] ∧ ros = [(1, strs s.mods)]) := by
  refine SegV.ind fun n ms ks ih => ?_
  intro hf
  rw [SegV.tot, totS] at hf
  rw [segA_mk]
  have hC := copyTexts_ok ms (by omega)
  refine FnA.of Tryz.func61 rfl (by decide) Tryz.ntmps61 (by simp) ?_
  refine run_ ?_
  refine RunsA.rq tabOk fun J hJ => ?_
  simp only [go_sem, ↓reduceIte, Nat.reduceAdd, Nat.reduceSub, Nat.reduceMul, Nat.reduceLT, Nat.reduceLeDiff, Nat.reduceEqDiff, Nat.reduceBEq, Int.reduceToNat]
  try simp (disch := omega) only [wrap_id]
  refine hJ _ _ (RunsL.call (ps := []) (rid := 2304) rfl rfl rfl rfl rfl (by simp only [go_sem, Nat.reduceEqDiff]; first | done | rfl) (hC) rfl (by decide) ⟨by decide, by decide, rfl⟩ (by first | exact .inl rfl | exact .inr (.inl rfl) | exact .inr (.inr rfl)) ?_); clear hJ J
  rintro r os' ros ⟨rfl, rfl, rfl⟩ _
  refine RunsL.go tabOk fun J hJ => ?_
  simp only [go_sem, ↓reduceIte, Nat.reduceAdd, Nat.reduceSub, Nat.reduceMul, Nat.reduceLT, Nat.reduceLeDiff, Nat.reduceEqDiff, Nat.reduceBEq, Int.reduceToNat]
  try simp (disch := omega) only [wrap_id]
  refine hJ _ _ (RunsL.nil ?_); clear hJ J
  refine run1_ @segsA_len ?_
  refine RunsA.loop ?_
  refine (LoopA.ind (fun i : Nat => ⟨22, [(3, .hd 2304 []), (10, .row .bo 3 (segsA .bo ks)), (11, .int .i64 (ks.length : Nat)), (12, .int .i64 i)], [⟨2304, 1, strs (ms ++ SegV.modsL (ks.take i))⟩], false⟩) (fun i => ks.length - i) (fun i => i ≤ ks.length) ?_ 0 ?_).sub rfl ?_ ?_ rfl
  · intro i hi K3 hK3
    refine run_ ?_
    refine RunsA.cond rfl (fun h2 => ?_) (fun h2 => ?_)
    · simp only [decide_eq_true_eq] at h2
      have hilt : i < ks.length := by omega
      have hg := segsA_get .bo hilt
      have hmem := List.getElem_mem hilt
      have hsn := SegV.modsL_snoc ks i hilt
      have hlen := SegV.modsL_len (ks.take i)
      have hl2 := SegV.mods_len ks[i]
      have htm := SegV.totL_mem hmem
      have htt := SegV.totL_take ks i
      have HH := ih _ hmem
      have hal : (ms ++ SegV.modsL (ks.take i)).length = ms.length + (SegV.modsL (ks.take i)).length := List.length_append
      generalize ks[i] = s at *
      obtain ⟨n', ms', ks'⟩ := s
      rw [segA_mk] at hg HH
      refine run1_ @hg ?_
      refine RunsA.rq tabOk fun J hJ => ?_
      simp only [go_sem, ↓reduceIte, Nat.reduceAdd, Nat.reduceSub, Nat.reduceMul, Nat.reduceLT, Nat.reduceLeDiff, Nat.reduceEqDiff, Nat.reduceBEq, Int.reduceToNat]
      try simp (disch := omega) only [wrap_id]
      refine hJ _ _ (RunsL.call (ps := []) (rid := 4864) rfl rfl rfl rfl rfl (by simp only [go_sem, Nat.reduceEqDiff]; first | done | rfl) (HH (by omega)) rfl (by decide) ⟨by decide, by decide, rfl⟩ (by first | exact .inl rfl | exact .inr (.inl rfl) | exact .inr (.inr rfl)) ?_); clear hJ J
      rintro r os' ros ⟨rfl, rfl, rfl⟩ _
      refine RunsL.go tabOk fun J hJ => ?_
      simp only [go_sem, ↓reduceIte, Nat.reduceAdd, Nat.reduceSub, Nat.reduceMul, Nat.reduceLT, Nat.reduceLeDiff, Nat.reduceEqDiff, Nat.reduceBEq, Int.reduceToNat, strs_app, strs_len]
      try simp (disch := omega) only [wrap_id]
      (repeat refine ⟨by omega, ?_⟩)
      refine hJ _ _ (RunsL.nil ?_); clear hJ J
      refine run_ ?_
      exact hK3 (i + 1) _ (by omega) (by omega) rfl (by simp [SubS, lookS]) (by simp [SubO, lookO, hsn, List.append_assoc]) rfl
    · refine run_ ?_
      simp only [decide_eq_false_iff_not] at h2
      have : i = ks.length := by omega
      subst this
      rw [List.take_length]
      refine RetA.v tabOk rfl ?_
      simp only [go_sem, ↓reduceIte, Nat.reduceAdd, Nat.reduceSub, Nat.reduceMul, Nat.reduceLT, Nat.reduceLeDiff, Nat.reduceEqDiff, Nat.reduceBEq, Int.reduceToNat]
      refine RetV.ren (id := 2304) (id' := 100) (by simp only [go_sem, ↓reduceIte, Nat.reduceAdd, Nat.reduceSub, Nat.reduceMul, Nat.reduceLT, Nat.reduceLeDiff, Nat.reduceEqDiff, Nat.reduceBEq, Int.reduceToNat]; rfl) ?_
      simp only [go_sem, ↓reduceIte, Nat.reduceAdd, Nat.reduceSub, Nat.reduceMul, Nat.reduceLT, Nat.reduceLeDiff, Nat.reduceEqDiff, Nat.reduceBEq, Int.reduceToNat]
      exact RetV.mk 1 rfl rfl (by omega) rfl (by simp [noBoO, noBo_strs]) rfl ⟨rfl, rfl, by rw [SegV.mods]⟩
  · exact Nat.zero_le _
  · simp [SubS, lookS]
  · simp [SubO, lookO, SegV.modsL]
def TreeP : Nat → SegV → Prop
  | 0, _ => False
  | d + 1, .mk n ms ks => NameP n ∧ ms.length ≤ 6 ∧ ks.length ≤ 12 ∧ (∀ m ∈ ms, NameP m) ∧ ∀ k ∈ ks, TreeP d k
open Classical in
noncomputable instance (d : Nat) (s : SegV) : Decidable (TreeP d s) := inferInstance
end Go.Proofs.YtiilnlihimdnlaaGreatDoorFw
