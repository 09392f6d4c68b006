/- Trees: what is marked is held. -/
import Derived.Test.YtiilnlihimdnlaaGreatDoorQL
namespace Go.Proofs.YtiilnlihimdnlaaGreatDoorFw
open Go Go.RowKit
set_option linter.unusedVariables false
set_option linter.unusedSimpArgs false
set_option maxRecDepth 4000
set_option pp.deepTerms.threshold 6
set_option pp.deepTerms false
theorem heldSegS_ok : ∀ l : List SegV, ∀ (k : Int), 0 ≤ k → k + SegV.cntL l ≤ 4611686018427387904 →
    FnA Tryz.prog 33 false [.row .bo 3 (segsA .bo (SegV.marks l k)), .int .i64 k] [] (fun r os ros => r = .int .i64 (k + SegV.cntL l) ∧ os = [] ∧ ros = []) := by
  refine SegV.indL fun l ih => ?_
  intro k h0 h1
  refine FnA.of Tryz.func33 rfl (by decide) Tryz.ntmps33 (by simp) ?_
  have hml := SegV.marks_len l k
  refine run_ ?_
  refine RunsA.loop ?_
  refine (LoopA.ind (fun i : Nat => ⟨41, [(0, .row .bo 3 (segsA .bo (SegV.marks l k))), (1, .int .i64 (k + SegV.cntL (l.take i))), (5, .int .i64 i)], [], false⟩) (fun i => l.length - i) (fun i => i ≤ l.length) ?_ 0 ?_).sub rfl ?_ trivial rfl
  · intro i hi K3 hK3
    refine run1_ @segsA_len ?_
    refine RunsA.cond rfl (fun h2 => ?_) (fun h2 => ?_)
    · simp only [decide_eq_true_eq] at h2
      have hilt : i < l.length := by omega
      have hg : (segsA .bo (SegV.marks l k))[i]? = some (segA .bo (l[i].mark (k + SegV.cntL (l.take i)))) := by
        have hm := SegV.marks_get l k i hilt
        have hlt : i < (SegV.marks l k).length := by rw [hml]; exact hilt
        rw [segsA_get .bo hlt]
        rw [List.getElem?_eq_getElem hlt] at hm
        rw [Option.some.inj hm]
      have hc := SegV.cntL_snoc l i hilt
      have hmem := List.getElem_mem hilt
      have hct := SegV.cntL_take l (i + 1)
      have hcl := SegV.cntL_len l
      generalize l[i] = s at *
      obtain ⟨sn, sm, sk⟩ := s
      simp only [SegV.mark, segA_mk] at hg
      simp only [SegV.cnt] at hc
      refine run1_ @hg ?_
      refine RunsA.dq mixed tabOk (by kernel_rfl) fun J hJ => ?_
      simp only [go_sem, ↓reduceIte, Nat.reduceAdd, Nat.reduceSub, Nat.reduceMul, Nat.reduceLT, Nat.reduceLeDiff, Nat.reduceEqDiff, Nat.reduceBEq, Int.reduceToNat, hg]
      try simp (disch := omega) only [wrap_id]
      (repeat refine ⟨by omega, ?_⟩)
      refine hJ _ _ (QRuns.call (y := .str (markTxt (k + SegV.cntL (l.take i)))) rfl rfl rfl rfl (by simp only [go_sem, Nat.reduceEqDiff]) (markText_ok (k + SegV.cntL (l.take i)) (by omega) (by omega)) rfl (fun r os' ros h => ⟨by exact h.1, h.2.2⟩) rfl ?_); clear hJ J
      refine QRuns.go tabOk fun J hJ => ?_
      simp only [go_sem, ↓reduceIte, Nat.reduceAdd, Nat.reduceSub, Nat.reduceMul, Nat.reduceLT, Nat.reduceLeDiff, Nat.reduceEqDiff, Nat.reduceBEq, Int.reduceToNat]
      try simp (disch := omega) only [wrap_id]
      refine hJ _ _ (QRuns.nil ?_); clear hJ J
      refine run_ ?_
      refine RunsA.cond rfl (fun h => ?_) (fun h => ?_)
      · simp at h
      refine run_ ?_
      refine RunsA.rq tabOk fun J hJ => ?_
      simp only [go_sem, ↓reduceIte, Nat.reduceAdd, Nat.reduceSub, Nat.reduceMul, Nat.reduceLT, Nat.reduceLeDiff, Nat.reduceEqDiff, Nat.reduceBEq, Int.reduceToNat, hg]
      try simp (disch := omega) only [wrap_id]
      refine hJ _ _ (RunsL.call (ps := []) (rid := 16) rfl rfl rfl rfl rfl (by simp only [go_sem, Nat.reduceEqDiff]; first | done | rfl) (heldMarks_ok sm (k + SegV.cntL (l.take i) + 1) (by omega) (by omega)) rfl (by decide) ⟨by decide, by decide, rfl⟩ (by first | exact .inl rfl | exact .inr (.inl rfl) | exact .inr (.inr rfl)) ?_); clear hJ J
      rintro r os' ros ⟨rfl, rfl, rfl⟩ _
      refine RunsL.go tabOk fun J hJ => ?_
      simp only [go_sem, ↓reduceIte, Nat.reduceAdd, Nat.reduceSub, Nat.reduceMul, Nat.reduceLT, Nat.reduceLeDiff, Nat.reduceEqDiff, Nat.reduceBEq, Int.reduceToNat]
      try simp (disch := omega) only [wrap_id]
      (repeat refine ⟨by omega, ?_⟩)
      refine hJ _ _ (RunsL.nil ?_); clear hJ J
      refine run_ ?_
      refine RunsA.cond rfl (fun h => ?_) (fun h => ?_)
      · exfalso; simp only [decide_eq_true_eq] at h; omega
      refine run_ ?_
      refine RunsA.rq tabOk fun J hJ => ?_
      simp only [go_sem, ↓reduceIte, Nat.reduceAdd, Nat.reduceSub, Nat.reduceMul, Nat.reduceLT, Nat.reduceLeDiff, Nat.reduceEqDiff, Nat.reduceBEq, Int.reduceToNat, hg]
      try simp (disch := omega) only [wrap_id]
      refine hJ _ _ (RunsL.call (ps := []) (rid := 16) rfl rfl rfl rfl rfl (by simp only [go_sem, Nat.reduceEqDiff]; first | done | rfl) (ih sn sm sk hmem (k + SegV.cntL (l.take i) + 1 + sm.length) (by omega) (by omega)) rfl (by decide) ⟨by decide, by decide, rfl⟩ (by first | exact .inl rfl | exact .inr (.inl rfl) | exact .inr (.inr rfl)) ?_); clear hJ J
      rintro r os' ros ⟨rfl, rfl, rfl⟩ _
      refine RunsL.go tabOk fun J hJ => ?_
      simp only [go_sem, ↓reduceIte, Nat.reduceAdd, Nat.reduceSub, Nat.reduceMul, Nat.reduceLT, Nat.reduceLeDiff, Nat.reduceEqDiff, Nat.reduceBEq, Int.reduceToNat]
      try simp (disch := omega) only [wrap_id]
      (repeat refine ⟨by omega, ?_⟩)
      refine hJ _ _ (RunsL.nil ?_); clear hJ J
      refine run_ ?_
      refine RunsA.cond rfl (fun h => ?_) (fun h => ?_)
      · exfalso; simp only [decide_eq_true_eq] at h; omega
      refine run_ ?_
      have e3 : k + (SegV.cntL (l.take i) : Int) + 1 + sm.length + SegV.cntL sk = k + SegV.cntL (l.take (i + 1)) := by omega
      rw [e3]
      exact hK3 (i + 1) _ (by omega) (by omega) rfl (by simp [SubS, lookS]) trivial rfl
    · refine run_ ?_
      simp only [decide_eq_false_iff_not] at h2
      have : i = l.length := by omega
      subst this
      rw [List.take_length]
      exact RetA.mk tabOk 0 rfl rfl rfl (by omega) rfl rfl rfl ⟨rfl, rfl, rfl⟩
  · exact Nat.zero_le _
  · simp [SubS, lookS, SegV.cntL]
theorem heldSeg_ok (n : Str) (ms : List Str) (ks : List SegV) (k : Int) (h0 : 0 ≤ k) (h1 : k + ms.length + SegV.cntL ks ≤ 4611686018427387904) :
    FnA Tryz.prog 10 false [.agg [.str n, .row .bo 1 (strs (markStrs ms k)), .row .bo 3 (segsA .bo (SegV.marks ks (k + ms.length)))], .int .i64 k] [] (fun r os ros => r = .int .i64 (k + ms.length + SegV.cntL ks) ∧ os = [] ∧ ros = []) := by
  refine FnA.of Tryz.func10 rfl (by decide) Tryz.ntmps10 (by simp) ?_
  refine run_ ?_
  refine RunsA.rq tabOk fun J hJ => ?_
  simp only [go_sem, ↓reduceIte, Nat.reduceAdd, Nat.reduceSub, Nat.reduceMul, Nat.reduceLT, Nat.reduceLeDiff, Nat.reduceEqDiff, Nat.reduceBEq, Int.reduceToNat]
  try simp (disch := omega) only [wrap_id]
  refine hJ _ _ (RunsL.call (ps := []) (rid := 16) rfl rfl rfl rfl rfl (by simp only [go_sem, Nat.reduceEqDiff]; first | done | rfl) (heldMarks_ok ms k h0 (by omega)) rfl (by decide) ⟨by decide, by decide, rfl⟩ (by first | exact .inl rfl | exact .inr (.inl rfl) | exact .inr (.inr rfl)) ?_); clear hJ J
  rintro r os' ros ⟨rfl, rfl, rfl⟩ _
  refine RunsL.go tabOk fun J hJ => ?_
  simp only [go_sem, ↓reduceIte, Nat.reduceAdd, Nat.reduceSub, Nat.reduceMul, Nat.reduceLT, Nat.reduceLeDiff, Nat.reduceEqDiff, Nat.reduceBEq, Int.reduceToNat]
  try simp (disch := omega) only [wrap_id]
  (repeat refine ⟨by omega, ?_⟩)
  refine hJ _ _ (RunsL.nil ?_); clear hJ J
  refine run_ ?_
  refine RunsA.cond rfl (fun h => ?_) (fun h => ?_)
  · exfalso; simp only [decide_eq_true_eq] at h; omega
  refine run_ ?_
  refine RunsA.rq tabOk fun J hJ => ?_
  simp only [go_sem, ↓reduceIte, Nat.reduceAdd, Nat.reduceSub, Nat.reduceMul, Nat.reduceLT, Nat.reduceLeDiff, Nat.reduceEqDiff, Nat.reduceBEq, Int.reduceToNat]
  try simp (disch := omega) only [wrap_id]
  refine hJ _ _ (RunsL.call (ps := []) (rid := 16) rfl rfl rfl rfl rfl (by simp only [go_sem, Nat.reduceEqDiff]; first | done | rfl) (heldSegS_ok ks (k + ms.length) (by omega) (by omega)) rfl (by decide) ⟨by decide, by decide, rfl⟩ (by first | exact .inl rfl | exact .inr (.inl rfl) | exact .inr (.inr rfl)) ?_); clear hJ J
  rintro r os' ros ⟨rfl, rfl, rfl⟩ _
  refine RunsL.go tabOk fun J hJ => ?_
  simp only [go_sem, ↓reduceIte, Nat.reduceAdd, Nat.reduceSub, Nat.reduceMul, Nat.reduceLT, Nat.reduceLeDiff, Nat.reduceEqDiff, Nat.reduceBEq, Int.reduceToNat]
  try simp (disch := omega) only [wrap_id]
  (repeat refine ⟨by omega, ?_⟩)
  refine hJ _ _ (RunsL.nil ?_); clear hJ J
  refine run_ ?_
  refine RunsA.cond rfl (fun h => ?_) (fun h => ?_)
  · exfalso; simp only [decide_eq_true_eq] at h; omega
  refine run_ ?_
  exact RetA.mk tabOk 0 rfl rfl rfl (by omega) rfl rfl rfl ⟨rfl, rfl, rfl⟩
end Go.Proofs.YtiilnlihimdnlaaGreatDoorFw
