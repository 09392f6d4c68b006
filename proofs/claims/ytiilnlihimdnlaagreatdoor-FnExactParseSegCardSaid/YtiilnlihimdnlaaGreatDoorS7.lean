/- Trees of segments that are right: the reference's walk, walked. -/
import Derived.Test.YtiilnlihimdnlaaGreatDoorS6
import Derived.Test.YtiilnlihimdnlaaGreatDoorFwD
namespace Go.Proofs.YtiilnlihimdnlaaGreatDoorFw
open Go Go.RowKit
set_option linter.unusedVariables false
set_option linter.unusedSimpArgs false
set_option maxRecDepth 4000
set_option pp.deepTerms.threshold 6
set_option pp.deepTerms false
theorem namesL_take (l : List SegV) (i : Nat) : (SegV.namesL (l.take i)).length ≤ (SegV.namesL l).length := by
  induction l generalizing i with
  | nil => simp [SegV.namesL]
  | cons s r ih =>
    cases i with
    | zero => simp [SegV.namesL]
    | succ i => simp only [List.take_succ_cons, SegV.namesL, List.length_append]; have := ih i; omega
theorem modsL_take (l : List SegV) (i : Nat) : (SegV.modsL (l.take i)).length ≤ (SegV.modsL l).length := by
  induction l generalizing i with
  | nil => simp [SegV.modsL]
  | cons s r ih =>
    cases i with
    | zero => simp [SegV.modsL]
    | succ i => simp only [List.take_succ_cons, SegV.modsL, List.length_append]; have := ih i; omega
theorem atI_nn (l : List Str) (s : Str) : decide ((0 : Int) ≤ atI l s 0) = decide (s ∈ l) := atI_pos l s
set_option maxHeartbeats 8000000 in
theorem l22Walk_ok : ∀ s : SegV, s.tot ≤ 1048576 → ∀ (d : Int) (r : Seen), 0 ≤ d → d ≤ 5 → r.names.length + r.mods.length + s.names.length + s.mods.length ≤ 8000000 →
    FnA Tryz.prog 52 false [.ptr 0 [] 3 0 0, segA .bo s, .int .i64 d] [(3, [.agg [.row .own 1 (strs r.names), .row .own 1 (strs r.mods), .bool r.bad]])]
      (fun res os ros => res = .tup [] ∧ os = [(3, [.agg [.row .own 1 (strs (walkV s d r).names), .row .own 1 (strs (walkV s d r).mods), .bool (walkV s d r).bad]])] ∧ ros = []) := by
  refine SegV.ind fun n ms ks ih => ?_
  intro hf d r hd0 hd5 hr
  rw [SegV.tot] at hf
  have hmem := @totS_mem ms
  have hmsl : ms.length ≤ totS ms := by unfold totS; omega
  rw [segA_mk]
  have hN := l9Name_ok n (by omega)
  simp only [SegV.names, SegV.mods, List.length_cons, List.length_append] at hr
  have hA := l9At_ok r.names n (by omega)
  have hap := atI_nn r.names n
  have hW1 : StopP r n ms d → walkV (.mk n ms ks) d r = r.fail := fun h => by unfold walkV; rw [if_pos h]
  have hW2 : ¬ StopP r n ms d → walkV (.mk n ms ks) d r = walkL ks (d + 1) (addM ⟨r.names ++ [n], r.mods, r.bad⟩ ms) := fun h => by unfold walkV; rw [if_neg h]
  generalize walkV (.mk n ms ks) d r = res at *
  have hSP : StopP r n ms d ↔ (r.bad = true ∨ 4 < d ∨ ¬ NameP n ∨ n ∈ r.names ∨ 6 < ms.length) := Iff.rfl
  obtain ⟨rn, rm, rb⟩ := r
  simp only [Seen.fail] at *
  refine FnA.of Tryz.func52 rfl (by decide) Tryz.ntmps52 (by simp) ?_
  refine run_ ?_
  cases rb with
  | true =>
    have hE := hW1 (hSP.2 (.inl rfl))
    refine RunsA.dq mixed tabOk (by kernel_rfl) fun J hJ => ?_
    refine goQ_cut 8 ?_
    simp only [go_sem, ↓reduceIte, Nat.reduceAdd, Nat.reduceSub, Nat.reduceMul, Nat.reduceLT, Nat.reduceLeDiff, Nat.reduceEqDiff, Nat.reduceBEq, Int.reduceToNat, List.take_succ_cons, List.take_zero, List.take_nil, List.drop_succ_cons, List.drop_zero, List.drop_nil, List.nil_append, strs_len]
    try simp (disch := omega) only [wrap_id]
    (repeat refine ⟨by omega, ?_⟩)
    refine goQh.of ?_
    refine goQ_cut 8 ?_
    simp only [go_sem, ↓reduceIte, Nat.reduceAdd, Nat.reduceSub, Nat.reduceMul, Nat.reduceLT, Nat.reduceLeDiff, Nat.reduceEqDiff, Nat.reduceBEq, Int.reduceToNat, List.take_succ_cons, List.take_zero, List.take_nil, List.drop_succ_cons, List.drop_zero, List.drop_nil, List.nil_append, strs_len]
    try simp (disch := omega) only [wrap_id]
    (repeat refine ⟨by omega, ?_⟩)
    refine goQh.of ?_
    refine goQ_cut 8 ?_
    simp only [go_sem, ↓reduceIte, Nat.reduceAdd, Nat.reduceSub, Nat.reduceMul, Nat.reduceLT, Nat.reduceLeDiff, Nat.reduceEqDiff, Nat.reduceBEq, Int.reduceToNat, List.take_succ_cons, List.take_zero, List.take_nil, List.drop_succ_cons, List.drop_zero, List.drop_nil, List.nil_append, strs_len]
    try simp (disch := omega) only [wrap_id]
    (repeat refine ⟨by omega, ?_⟩)
    refine goQh.of ?_
    refine goQ_cut 6 ?_
    simp only [go_sem, ↓reduceIte, Nat.reduceAdd, Nat.reduceSub, Nat.reduceMul, Nat.reduceLT, Nat.reduceLeDiff, Nat.reduceEqDiff, Nat.reduceBEq, Int.reduceToNat, List.take_succ_cons, List.take_zero, List.take_nil, List.drop_succ_cons, List.drop_zero, List.drop_nil, List.nil_append, strs_len]
    try simp (disch := omega) only [wrap_id]
    (repeat refine ⟨by omega, ?_⟩)
    refine goQh.of ?_
    simp only [go_sem, ↓reduceIte, Nat.reduceAdd, Nat.reduceSub, Nat.reduceMul, Nat.reduceLT, Nat.reduceLeDiff, Nat.reduceEqDiff, Nat.reduceBEq, Int.reduceToNat]
    refine hJ _ _ (QRuns.nil ?_); clear hJ J
    refine run_ ?_
    refine RunsA.cond rfl (fun h => ?_) (fun h => absurd h (by decide))
    refine run_ ?_
    exact RetA.mk tabOk 0 rfl rfl rfl (by omega) (by simp only [noBoO, noBoL, noBo, noBo_strs, Bool.and_self, Bool.and_true]) rfl rfl ⟨rfl, by rw [hE], rfl⟩
  | false =>
    by_cases c2 : 4 < d
    · have hE := hW1 (hSP.2 (.inr (.inl c2)))
      have e2 : decide (4 < d) = true := decide_eq_true c2
      refine RunsA.dq mixed tabOk (by kernel_rfl) fun J hJ => ?_
      refine goQ_cut 8 ?_
      simp only [go_sem, ↓reduceIte, Nat.reduceAdd, Nat.reduceSub, Nat.reduceMul, Nat.reduceLT, Nat.reduceLeDiff, Nat.reduceEqDiff, Nat.reduceBEq, Int.reduceToNat, List.take_succ_cons, List.take_zero, List.take_nil, List.drop_succ_cons, List.drop_zero, List.drop_nil, List.nil_append, strs_len, e2]
      try simp (disch := omega) only [wrap_id]
      (repeat refine ⟨by omega, ?_⟩)
      refine goQh.of ?_
      refine goQ_cut 8 ?_
      simp only [go_sem, ↓reduceIte, Nat.reduceAdd, Nat.reduceSub, Nat.reduceMul, Nat.reduceLT, Nat.reduceLeDiff, Nat.reduceEqDiff, Nat.reduceBEq, Int.reduceToNat, List.take_succ_cons, List.take_zero, List.take_nil, List.drop_succ_cons, List.drop_zero, List.drop_nil, List.nil_append, strs_len, e2]
      try simp (disch := omega) only [wrap_id]
      (repeat refine ⟨by omega, ?_⟩)
      refine goQh.of ?_
      refine goQ_cut 8 ?_
      simp only [go_sem, ↓reduceIte, Nat.reduceAdd, Nat.reduceSub, Nat.reduceMul, Nat.reduceLT, Nat.reduceLeDiff, Nat.reduceEqDiff, Nat.reduceBEq, Int.reduceToNat, List.take_succ_cons, List.take_zero, List.take_nil, List.drop_succ_cons, List.drop_zero, List.drop_nil, List.nil_append, strs_len, e2]
      try simp (disch := omega) only [wrap_id]
      (repeat refine ⟨by omega, ?_⟩)
      refine goQh.of ?_
      refine goQ_cut 6 ?_
      simp only [go_sem, ↓reduceIte, Nat.reduceAdd, Nat.reduceSub, Nat.reduceMul, Nat.reduceLT, Nat.reduceLeDiff, Nat.reduceEqDiff, Nat.reduceBEq, Int.reduceToNat, List.take_succ_cons, List.take_zero, List.take_nil, List.drop_succ_cons, List.drop_zero, List.drop_nil, List.nil_append, strs_len, e2]
      try simp (disch := omega) only [wrap_id]
      (repeat refine ⟨by omega, ?_⟩)
      refine goQh.of ?_
      simp only [go_sem, ↓reduceIte, Nat.reduceAdd, Nat.reduceSub, Nat.reduceMul, Nat.reduceLT, Nat.reduceLeDiff, Nat.reduceEqDiff, Nat.reduceBEq, Int.reduceToNat]
      refine hJ _ _ (QRuns.nil ?_); clear hJ J
      refine run_ ?_
      refine RunsA.cond rfl (fun h => ?_) (fun h => absurd h (by decide))
      refine run_ ?_
      exact RetA.mk tabOk 0 rfl rfl rfl (by omega) (by simp only [noBoO, noBoL, noBo, noBo_strs, Bool.and_self, Bool.and_true]) rfl rfl ⟨rfl, by rw [hE], rfl⟩
    have e2 : decide (4 < d) = false := decide_eq_false c2
    by_cases c3 : NameP n
    · have e3 := decide_eq_true c3
      by_cases c4 : n ∈ rn
      · have hE := hW1 (hSP.2 (.inr (.inr (.inr (.inl c4)))))
        have e4 : decide ((0 : Int) ≤ atI rn n 0) = true := by rw [hap]; exact decide_eq_true c4
        refine RunsA.dq mixed tabOk (by kernel_rfl) fun J hJ => ?_
        refine goQ_cut 8 ?_
        simp only [go_sem, ↓reduceIte, Nat.reduceAdd, Nat.reduceSub, Nat.reduceMul, Nat.reduceLT, Nat.reduceLeDiff, Nat.reduceEqDiff, Nat.reduceBEq, Int.reduceToNat, List.take_succ_cons, List.take_zero, List.take_nil, List.drop_succ_cons, List.drop_zero, List.drop_nil, List.nil_append, strs_len, e2, e3, e4]
        try simp (disch := omega) only [wrap_id]
        (repeat refine ⟨by omega, ?_⟩)
        refine goQh.of ?_
        refine goQ_cut 3 ?_
        simp only [go_sem, ↓reduceIte, Nat.reduceAdd, Nat.reduceSub, Nat.reduceMul, Nat.reduceLT, Nat.reduceLeDiff, Nat.reduceEqDiff, Nat.reduceBEq, Int.reduceToNat, List.take_succ_cons, List.take_zero, List.take_nil, List.drop_succ_cons, List.drop_zero, List.drop_nil, List.nil_append, strs_len, e2, e3, e4]
        try simp (disch := omega) only [wrap_id]
        (repeat refine ⟨by omega, ?_⟩)
        refine goQh.of ?_
        simp only [go_sem, ↓reduceIte, Nat.reduceAdd, Nat.reduceSub, Nat.reduceMul, Nat.reduceLT, Nat.reduceLeDiff, Nat.reduceEqDiff, Nat.reduceBEq, Int.reduceToNat, strs_len, e2, e3, e4]
        refine hJ _ _ (QRuns.call (y := .bool (decide (NameP n))) rfl rfl rfl rfl (by simp only [go_sem, Nat.reduceEqDiff]) (hN) rfl (fun r os' ros h => ⟨by exact h.1, h.2.2⟩) rfl ?_); clear hJ J
        refine QRuns.go tabOk fun J hJ => ?_
        refine goQ_cut 8 ?_
        simp only [go_sem, ↓reduceIte, Nat.reduceAdd, Nat.reduceSub, Nat.reduceMul, Nat.reduceLT, Nat.reduceLeDiff, Nat.reduceEqDiff, Nat.reduceBEq, Int.reduceToNat, List.take_succ_cons, List.take_zero, List.take_nil, List.drop_succ_cons, List.drop_zero, List.drop_nil, List.nil_append, strs_len, e2, e3, e4]
        try simp (disch := omega) only [wrap_id]
        (repeat refine ⟨by omega, ?_⟩)
        refine goQh.of ?_
        refine goQ_cut 1 ?_
        simp only [go_sem, ↓reduceIte, Nat.reduceAdd, Nat.reduceSub, Nat.reduceMul, Nat.reduceLT, Nat.reduceLeDiff, Nat.reduceEqDiff, Nat.reduceBEq, Int.reduceToNat, List.take_succ_cons, List.take_zero, List.take_nil, List.drop_succ_cons, List.drop_zero, List.drop_nil, List.nil_append, strs_len, e2, e3, e4]
        try simp (disch := omega) only [wrap_id]
        (repeat refine ⟨by omega, ?_⟩)
        refine goQh.of ?_
        simp only [go_sem, ↓reduceIte, Nat.reduceAdd, Nat.reduceSub, Nat.reduceMul, Nat.reduceLT, Nat.reduceLeDiff, Nat.reduceEqDiff, Nat.reduceBEq, Int.reduceToNat, strs_len, e2, e3, e4]
        refine hJ _ _ (QRuns.call (y := .int .i64 (atI rn n 0)) rfl rfl rfl rfl (by simp only [go_sem, Nat.reduceEqDiff, brw_strs]) (hA) rfl (fun r os' ros h => ⟨by exact h.1, h.2.2⟩) rfl ?_); clear hJ J
        refine QRuns.go tabOk fun J hJ => ?_
        refine goQ_cut 8 ?_
        simp only [go_sem, ↓reduceIte, Nat.reduceAdd, Nat.reduceSub, Nat.reduceMul, Nat.reduceLT, Nat.reduceLeDiff, Nat.reduceEqDiff, Nat.reduceBEq, Int.reduceToNat, List.take_succ_cons, List.take_zero, List.take_nil, List.drop_succ_cons, List.drop_zero, List.drop_nil, List.nil_append, strs_len, e2, e3, e4]
        try simp (disch := omega) only [wrap_id]
        (repeat refine ⟨by omega, ?_⟩)
        refine goQh.of ?_
        simp only [go_sem, ↓reduceIte, Nat.reduceAdd, Nat.reduceSub, Nat.reduceMul, Nat.reduceLT, Nat.reduceLeDiff, Nat.reduceEqDiff, Nat.reduceBEq, Int.reduceToNat]
        refine hJ _ _ (QRuns.nil ?_); clear hJ J
        refine run_ ?_
        refine RunsA.cond rfl (fun h => ?_) (fun h => absurd h (by decide))
        refine run_ ?_
        exact RetA.mk tabOk 0 rfl rfl rfl (by omega) (by simp only [noBoO, noBoL, noBo, noBo_strs, Bool.and_self, Bool.and_true]) rfl rfl ⟨rfl, by rw [hE], rfl⟩
      have e4 : decide ((0 : Int) ≤ atI rn n 0) = false := by rw [hap]; exact decide_eq_false c4
      by_cases c5 : 6 < ms.length
      · have hE := hW1 (hSP.2 (.inr (.inr (.inr (.inr c5)))))
        have e5 : decide ((6 : Int) < (ms.length : Int)) = true := decide_eq_true (by omega)
        refine RunsA.dq mixed tabOk (by kernel_rfl) fun J hJ => ?_
        refine goQ_cut 8 ?_
        simp only [go_sem, ↓reduceIte, Nat.reduceAdd, Nat.reduceSub, Nat.reduceMul, Nat.reduceLT, Nat.reduceLeDiff, Nat.reduceEqDiff, Nat.reduceBEq, Int.reduceToNat, List.take_succ_cons, List.take_zero, List.take_nil, List.drop_succ_cons, List.drop_zero, List.drop_nil, List.nil_append, strs_len, e2, e3, e4, e5]
        try simp (disch := omega) only [wrap_id]
        (repeat refine ⟨by omega, ?_⟩)
        refine goQh.of ?_
        refine goQ_cut 3 ?_
        simp only [go_sem, ↓reduceIte, Nat.reduceAdd, Nat.reduceSub, Nat.reduceMul, Nat.reduceLT, Nat.reduceLeDiff, Nat.reduceEqDiff, Nat.reduceBEq, Int.reduceToNat, List.take_succ_cons, List.take_zero, List.take_nil, List.drop_succ_cons, List.drop_zero, List.drop_nil, List.nil_append, strs_len, e2, e3, e4, e5]
        try simp (disch := omega) only [wrap_id]
        (repeat refine ⟨by omega, ?_⟩)
        refine goQh.of ?_
        simp only [go_sem, ↓reduceIte, Nat.reduceAdd, Nat.reduceSub, Nat.reduceMul, Nat.reduceLT, Nat.reduceLeDiff, Nat.reduceEqDiff, Nat.reduceBEq, Int.reduceToNat, strs_len, e2, e3, e4, e5]
        refine hJ _ _ (QRuns.call (y := .bool (decide (NameP n))) rfl rfl rfl rfl (by simp only [go_sem, Nat.reduceEqDiff]) (hN) rfl (fun r os' ros h => ⟨by exact h.1, h.2.2⟩) rfl ?_); clear hJ J
        refine QRuns.go tabOk fun J hJ => ?_
        refine goQ_cut 8 ?_
        simp only [go_sem, ↓reduceIte, Nat.reduceAdd, Nat.reduceSub, Nat.reduceMul, Nat.reduceLT, Nat.reduceLeDiff, Nat.reduceEqDiff, Nat.reduceBEq, Int.reduceToNat, List.take_succ_cons, List.take_zero, List.take_nil, List.drop_succ_cons, List.drop_zero, List.drop_nil, List.nil_append, strs_len, e2, e3, e4, e5]
        try simp (disch := omega) only [wrap_id]
        (repeat refine ⟨by omega, ?_⟩)
        refine goQh.of ?_
        refine goQ_cut 1 ?_
        simp only [go_sem, ↓reduceIte, Nat.reduceAdd, Nat.reduceSub, Nat.reduceMul, Nat.reduceLT, Nat.reduceLeDiff, Nat.reduceEqDiff, Nat.reduceBEq, Int.reduceToNat, List.take_succ_cons, List.take_zero, List.take_nil, List.drop_succ_cons, List.drop_zero, List.drop_nil, List.nil_append, strs_len, e2, e3, e4, e5]
        try simp (disch := omega) only [wrap_id]
        (repeat refine ⟨by omega, ?_⟩)
        refine goQh.of ?_
        simp only [go_sem, ↓reduceIte, Nat.reduceAdd, Nat.reduceSub, Nat.reduceMul, Nat.reduceLT, Nat.reduceLeDiff, Nat.reduceEqDiff, Nat.reduceBEq, Int.reduceToNat, strs_len, e2, e3, e4, e5]
        refine hJ _ _ (QRuns.call (y := .int .i64 (atI rn n 0)) rfl rfl rfl rfl (by simp only [go_sem, Nat.reduceEqDiff, brw_strs]) (hA) rfl (fun r os' ros h => ⟨by exact h.1, h.2.2⟩) rfl ?_); clear hJ J
        refine QRuns.go tabOk fun J hJ => ?_
        refine goQ_cut 8 ?_
        simp only [go_sem, ↓reduceIte, Nat.reduceAdd, Nat.reduceSub, Nat.reduceMul, Nat.reduceLT, Nat.reduceLeDiff, Nat.reduceEqDiff, Nat.reduceBEq, Int.reduceToNat, List.take_succ_cons, List.take_zero, List.take_nil, List.drop_succ_cons, List.drop_zero, List.drop_nil, List.nil_append, strs_len, e2, e3, e4, e5]
        try simp (disch := omega) only [wrap_id]
        (repeat refine ⟨by omega, ?_⟩)
        refine goQh.of ?_
        simp only [go_sem, ↓reduceIte, Nat.reduceAdd, Nat.reduceSub, Nat.reduceMul, Nat.reduceLT, Nat.reduceLeDiff, Nat.reduceEqDiff, Nat.reduceBEq, Int.reduceToNat]
        refine hJ _ _ (QRuns.nil ?_); clear hJ J
        refine run_ ?_
        refine RunsA.cond rfl (fun h => ?_) (fun h => absurd h (by decide))
        refine run_ ?_
        exact RetA.mk tabOk 0 rfl rfl rfl (by omega) (by simp only [noBoO, noBoL, noBo, noBo_strs, Bool.and_self, Bool.and_true]) rfl rfl ⟨rfl, by rw [hE], rfl⟩
      have e5 : decide ((6 : Int) < (ms.length : Int)) = false := decide_eq_false (by omega)
      have hE := hW2 (fun h => by
        rcases hSP.1 h with h | h | h | h | h
        · cases h
        · exact c2 h
        · exact h c3
        · exact c4 h
        · exact c5 h)
      refine RunsA.dq mixed tabOk (by kernel_rfl) fun J hJ => ?_
      refine goQ_cut 8 ?_
      simp only [go_sem, ↓reduceIte, Nat.reduceAdd, Nat.reduceSub, Nat.reduceMul, Nat.reduceLT, Nat.reduceLeDiff, Nat.reduceEqDiff, Nat.reduceBEq, Int.reduceToNat, List.take_succ_cons, List.take_zero, List.take_nil, List.drop_succ_cons, List.drop_zero, List.drop_nil, List.nil_append, strs_len, e2, e3, e4, e5]
      try simp (disch := omega) only [wrap_id]
      (repeat refine ⟨by omega, ?_⟩)
      refine goQh.of ?_
      refine goQ_cut 3 ?_
      simp only [go_sem, ↓reduceIte, Nat.reduceAdd, Nat.reduceSub, Nat.reduceMul, Nat.reduceLT, Nat.reduceLeDiff, Nat.reduceEqDiff, Nat.reduceBEq, Int.reduceToNat, List.take_succ_cons, List.take_zero, List.take_nil, List.drop_succ_cons, List.drop_zero, List.drop_nil, List.nil_append, strs_len, e2, e3, e4, e5]
      try simp (disch := omega) only [wrap_id]
      (repeat refine ⟨by omega, ?_⟩)
      refine goQh.of ?_
      simp only [go_sem, ↓reduceIte, Nat.reduceAdd, Nat.reduceSub, Nat.reduceMul, Nat.reduceLT, Nat.reduceLeDiff, Nat.reduceEqDiff, Nat.reduceBEq, Int.reduceToNat, strs_len, e2, e3, e4, e5]
      refine hJ _ _ (QRuns.call (y := .bool (decide (NameP n))) rfl rfl rfl rfl (by simp only [go_sem, Nat.reduceEqDiff]) (hN) rfl (fun r os' ros h => ⟨by exact h.1, h.2.2⟩) rfl ?_); clear hJ J
      refine QRuns.go tabOk fun J hJ => ?_
      refine goQ_cut 8 ?_
      simp only [go_sem, ↓reduceIte, Nat.reduceAdd, Nat.reduceSub, Nat.reduceMul, Nat.reduceLT, Nat.reduceLeDiff, Nat.reduceEqDiff, Nat.reduceBEq, Int.reduceToNat, List.take_succ_cons, List.take_zero, List.take_nil, List.drop_succ_cons, List.drop_zero, List.drop_nil, List.nil_append, strs_len, e2, e3, e4, e5]
      try simp (disch := omega) only [wrap_id]
      (repeat refine ⟨by omega, ?_⟩)
      refine goQh.of ?_
      refine goQ_cut 1 ?_
      simp only [go_sem, ↓reduceIte, Nat.reduceAdd, Nat.reduceSub, Nat.reduceMul, Nat.reduceLT, Nat.reduceLeDiff, Nat.reduceEqDiff, Nat.reduceBEq, Int.reduceToNat, List.take_succ_cons, List.take_zero, List.take_nil, List.drop_succ_cons, List.drop_zero, List.drop_nil, List.nil_append, strs_len, e2, e3, e4, e5]
      try simp (disch := omega) only [wrap_id]
      (repeat refine ⟨by omega, ?_⟩)
      refine goQh.of ?_
      simp only [go_sem, ↓reduceIte, Nat.reduceAdd, Nat.reduceSub, Nat.reduceMul, Nat.reduceLT, Nat.reduceLeDiff, Nat.reduceEqDiff, Nat.reduceBEq, Int.reduceToNat, strs_len, e2, e3, e4, e5]
      refine hJ _ _ (QRuns.call (y := .int .i64 (atI rn n 0)) rfl rfl rfl rfl (by simp only [go_sem, Nat.reduceEqDiff, brw_strs]) (hA) rfl (fun r os' ros h => ⟨by exact h.1, h.2.2⟩) rfl ?_); clear hJ J
      refine QRuns.go tabOk fun J hJ => ?_
      refine goQ_cut 8 ?_
      simp only [go_sem, ↓reduceIte, Nat.reduceAdd, Nat.reduceSub, Nat.reduceMul, Nat.reduceLT, Nat.reduceLeDiff, Nat.reduceEqDiff, Nat.reduceBEq, Int.reduceToNat, List.take_succ_cons, List.take_zero, List.take_nil, List.drop_succ_cons, List.drop_zero, List.drop_nil, List.nil_append, strs_len, e2, e3, e4, e5]
      try simp (disch := omega) only [wrap_id]
      (repeat refine ⟨by omega, ?_⟩)
      refine goQh.of ?_
      simp only [go_sem, ↓reduceIte, Nat.reduceAdd, Nat.reduceSub, Nat.reduceMul, Nat.reduceLT, Nat.reduceLeDiff, Nat.reduceEqDiff, Nat.reduceBEq, Int.reduceToNat]
      refine hJ _ _ (QRuns.nil ?_); clear hJ J
      refine run_ ?_
      refine RunsA.cond rfl (fun h => absurd h (by decide)) (fun h => ?_)
      refine RunsA.sk ?_
      refine At.n ?_
      refine RunsA.sq ?_
      clear hN hA hap e2 e3 e4 e5 hW1 hW2 hSP
      have hsn : strs rn ++ [.str n] = strs (rn ++ [n]) := strs_app rn [n]
      refine RunsA.dqa 7 3 0 41 48 12544 (.ptr 0 [] 3 0 0) mixed tabOk (by kernel_rfl) (by kernel_rfl) (by kernel_rfl) (by decide) rfl ?_
      simp only [go_sem, ↓reduceIte, Nat.reduceAdd, Nat.reduceSub, Nat.reduceMul, Nat.reduceLT, Nat.reduceLeDiff, Nat.reduceEqDiff, Nat.reduceBEq, Int.reduceToNat, hsn]
      (repeat refine ⟨by omega, ?_⟩)
      refine AppSt.mk' tabOk rfl rfl rfl rfl rfl rfl rfl rfl (by simp only; omega) rfl rfl rfl rfl rfl rfl rfl rfl rfl (by intro d hd; cases hd; rfl) (by simp only [go_sem, ↓reduceIte, Nat.reduceAdd, Nat.reduceSub, Nat.reduceMul, Nat.reduceLT, Nat.reduceLeDiff, Nat.reduceEqDiff, Nat.reduceBEq, Int.reduceToNat, hsn, List.getElem_toArray, List.getElem_cons_zero, List.getElem_cons_succ]; first | rfl | exact ⟨rfl, rfl⟩) (by simp only [go_sem, ↓reduceIte, Nat.reduceAdd, Nat.reduceSub, Nat.reduceMul, Nat.reduceLT, Nat.reduceLeDiff, Nat.reduceEqDiff, Nat.reduceBEq, Int.reduceToNat, hsn, List.getElem_toArray, List.getElem_cons_zero, List.getElem_cons_succ]; first | rfl | exact ⟨rfl, rfl⟩) (by rfl) (by rfl) (by rfl) (by rfl) (by rfl) (by rfl) (by rfl) (by rfl) (by simp only; omega) (by first | trivial | omega | (simp only [strs_len, List.length_cons, List.length_nil]; omega)) (by first | trivial | omega | (simp only [strs_len, List.length_cons, List.length_nil]; omega)) ?_
      refine RunsL.go tabOk fun J hJ => ?_; simp only [go_sem, ↓reduceIte, Nat.reduceAdd, Nat.reduceSub, Nat.reduceMul, Nat.reduceLT, Nat.reduceLeDiff, Nat.reduceEqDiff, Nat.reduceBEq, Int.reduceToNat, List.getElem_toArray, List.getElem_cons_zero, List.getElem_cons_succ, List.drop_succ_cons, List.drop_zero, hsn]; try simp (disch := omega) only [wrap_id]
      (repeat refine ⟨by omega, ?_⟩)
      refine hJ _ _ (RunsL.nil ?_); clear hJ J
      refine run1_ @strs_len ?_
      refine RunsA.loop ?_
      refine (LoopA.ind (fun i : Nat => ⟨112, [(0, .ptr 0 [] 3 0 0), (2, .int .i64 d), (4, .ptr 1280 [] 3 0 0), (6, .int .i64 i)], [⟨0, 3, [.agg [.row .own 1 (strs (addM ⟨rn ++ [n], rm, false⟩ (ms.take i)).names), .row .own 1 (strs (addM ⟨rn ++ [n], rm, false⟩ (ms.take i)).mods), .bool (addM ⟨rn ++ [n], rm, false⟩ (ms.take i)).bad]]⟩, ⟨1280, 3, [.agg [.str n, .row .bo 1 (strs ms), .row .bo 3 (segsA .bo ks)]]⟩], false⟩) (fun i => ms.length - i) (fun i => i ≤ ms.length) ?_ 0 ?_).sub rfl ?_ ?_ rfl
      rotate_left
      · exact Nat.zero_le _
      · simp [SubS, lookS]
      · simp [SubO, lookO, addM]
      intro i hi K3 hK3
      refine run1_ @strs_len ?_
      refine RunsA.cond rfl (fun h2 => ?_) (fun h2 => ?_)
      · simp only [decide_eq_true_eq] at h2
        have hilt : i < ms.length := by omega
        have hg := strs_get hilt
        have hsm := addM_snoc ⟨rn ++ [n], rm, false⟩ hilt
        have hln := addM_len ⟨rn ++ [n], rm, false⟩ (ms.take i)
        have hl1 := congrArg List.length hln.1
        have hl2 := congrArg List.length hln.2
        simp only [List.length_append, List.length_cons, List.length_nil, List.length_take] at hl1 hl2
        have hNm := l9Name_ok ms[i] (by have := hmem _ (List.getElem_mem hilt); omega)
        generalize ms[i] = m at *
        generalize addM ⟨rn ++ [n], rm, false⟩ (ms.take i) = ri at *
        obtain ⟨ra, rbm, rc⟩ := ri
        simp only at hl1 hl2 hsm
        have hAm := l9At_ok rbm m (by omega)
        have hapm := atI_nn rbm m
        have hsn2 : strs rbm ++ [.str m] = strs (rbm ++ [m]) := strs_app rbm [m]
        (repeat (refine step_ ?_))
        by_cases c6 : NameP m
        · have e6 := decide_eq_true c6
          by_cases c7 : m ∈ rbm
          · have e7 : decide ((0 : Int) ≤ atI rbm m 0) = true := by rw [hapm]; exact decide_eq_true c7
            have hst : stepM ⟨ra, rbm, rc⟩ m = ⟨ra, rbm ++ [m], true⟩ := by simp only [stepM]; rw [decide_eq_true (.inr c7), Bool.or_true]
            rw [hst] at hsm
            refine RunsA.dq mixed tabOk (by kernel_rfl) fun J hJ => ?_
            refine goQ_cut 5 ?_
            simp only [go_sem, ↓reduceIte, Nat.reduceAdd, Nat.reduceSub, Nat.reduceMul, Nat.reduceLT, Nat.reduceLeDiff, Nat.reduceEqDiff, Nat.reduceBEq, Int.reduceToNat, List.take_succ_cons, List.take_zero, List.take_nil, List.drop_succ_cons, List.drop_zero, List.drop_nil, List.nil_append, strs_len, hg, e6, e7]
            try simp (disch := omega) only [wrap_id]
            (repeat refine ⟨by omega, ?_⟩)
            refine goQh.of ?_
            simp only [go_sem, ↓reduceIte, Nat.reduceAdd, Nat.reduceSub, Nat.reduceMul, Nat.reduceLT, Nat.reduceLeDiff, Nat.reduceEqDiff, Nat.reduceBEq, Int.reduceToNat, strs_len, hg, e6, e7]
            refine hJ _ _ (QRuns.call (y := .bool (decide (NameP m))) rfl rfl rfl rfl (by simp only [go_sem, Nat.reduceEqDiff]) (hNm) rfl (fun r os' ros h => ⟨by exact h.1, h.2.2⟩) rfl ?_); clear hJ J
            refine QRuns.go tabOk fun J hJ => ?_
            refine goQ_cut 8 ?_
            simp only [go_sem, ↓reduceIte, Nat.reduceAdd, Nat.reduceSub, Nat.reduceMul, Nat.reduceLT, Nat.reduceLeDiff, Nat.reduceEqDiff, Nat.reduceBEq, Int.reduceToNat, List.take_succ_cons, List.take_zero, List.take_nil, List.drop_succ_cons, List.drop_zero, List.drop_nil, List.nil_append, strs_len, hg, e6, e7]
            try simp (disch := omega) only [wrap_id]
            (repeat refine ⟨by omega, ?_⟩)
            refine goQh.of ?_
            refine goQ_cut 3 ?_
            simp only [go_sem, ↓reduceIte, Nat.reduceAdd, Nat.reduceSub, Nat.reduceMul, Nat.reduceLT, Nat.reduceLeDiff, Nat.reduceEqDiff, Nat.reduceBEq, Int.reduceToNat, List.take_succ_cons, List.take_zero, List.take_nil, List.drop_succ_cons, List.drop_zero, List.drop_nil, List.nil_append, strs_len, hg, e6, e7]
            try simp (disch := omega) only [wrap_id]
            (repeat refine ⟨by omega, ?_⟩)
            refine goQh.of ?_
            simp only [go_sem, ↓reduceIte, Nat.reduceAdd, Nat.reduceSub, Nat.reduceMul, Nat.reduceLT, Nat.reduceLeDiff, Nat.reduceEqDiff, Nat.reduceBEq, Int.reduceToNat, strs_len, hg, e6, e7]
            refine hJ _ _ (QRuns.call (y := .int .i64 (atI rbm m 0)) rfl rfl rfl rfl (by simp only [go_sem, Nat.reduceEqDiff, brw_strs]) (hAm) rfl (fun r os' ros h => ⟨by exact h.1, h.2.2⟩) rfl ?_); clear hJ J
            refine QRuns.go tabOk fun J hJ => ?_
            refine goQ_cut 2 ?_
            simp only [go_sem, ↓reduceIte, Nat.reduceAdd, Nat.reduceSub, Nat.reduceMul, Nat.reduceLT, Nat.reduceLeDiff, Nat.reduceEqDiff, Nat.reduceBEq, Int.reduceToNat, List.take_succ_cons, List.take_zero, List.take_nil, List.drop_succ_cons, List.drop_zero, List.drop_nil, List.nil_append, strs_len, hg, e6, e7]
            try simp (disch := omega) only [wrap_id]
            (repeat refine ⟨by omega, ?_⟩)
            refine goQh.of ?_
            simp only [go_sem, ↓reduceIte, Nat.reduceAdd, Nat.reduceSub, Nat.reduceMul, Nat.reduceLT, Nat.reduceLeDiff, Nat.reduceEqDiff, Nat.reduceBEq, Int.reduceToNat]
            refine hJ _ _ (QRuns.nil ?_); clear hJ J
            refine run_ ?_
            refine RunsA.cond rfl (fun h => ?_) (fun h => absurd h (by decide))
            refine run_ ?_
            refine RunsA.dqa 10 3 0 82 92 23808 (.ptr 0 [] 3 0 0) mixed tabOk (by kernel_rfl) (by kernel_rfl) (by kernel_rfl) (by decide) rfl ?_
            simp only [go_sem, ↓reduceIte, Nat.reduceAdd, Nat.reduceSub, Nat.reduceMul, Nat.reduceLT, Nat.reduceLeDiff, Nat.reduceEqDiff, Nat.reduceBEq, Int.reduceToNat, hsn2, hg]
            (repeat refine ⟨by omega, ?_⟩)
            refine AppSt.mk' tabOk rfl rfl rfl rfl rfl rfl rfl rfl (by simp only; omega) rfl rfl rfl rfl rfl rfl rfl rfl rfl (by intro d hd; cases hd; rfl) (by simp only [go_sem, ↓reduceIte, Nat.reduceAdd, Nat.reduceSub, Nat.reduceMul, Nat.reduceLT, Nat.reduceLeDiff, Nat.reduceEqDiff, Nat.reduceBEq, Int.reduceToNat, hsn2, hg, List.getElem_toArray, List.getElem_cons_zero, List.getElem_cons_succ]; first | rfl | exact ⟨rfl, rfl⟩) (by simp only [go_sem, ↓reduceIte, Nat.reduceAdd, Nat.reduceSub, Nat.reduceMul, Nat.reduceLT, Nat.reduceLeDiff, Nat.reduceEqDiff, Nat.reduceBEq, Int.reduceToNat, hsn2, hg, List.getElem_toArray, List.getElem_cons_zero, List.getElem_cons_succ]; first | rfl | exact ⟨rfl, rfl⟩) (by rfl) (by rfl) (by rfl) (by rfl) (by rfl) (by rfl) (by rfl) (by rfl) (by simp only; omega) (by first | trivial | omega | (simp only [strs_len, List.length_cons, List.length_nil]; omega)) (by first | trivial | omega | (simp only [strs_len, List.length_cons, List.length_nil]; omega)) ?_
            refine RunsL.go tabOk fun J hJ => ?_; simp only [go_sem, ↓reduceIte, Nat.reduceAdd, Nat.reduceSub, Nat.reduceMul, Nat.reduceLT, Nat.reduceLeDiff, Nat.reduceEqDiff, Nat.reduceBEq, Int.reduceToNat, List.getElem_toArray, List.getElem_cons_zero, List.getElem_cons_succ, List.drop_succ_cons, List.drop_zero, hsn2, hg]; try simp (disch := omega) only [wrap_id]
            (repeat refine ⟨by omega, ?_⟩)
            refine hJ _ _ (RunsL.nil ?_); clear hJ J
            refine run_ ?_
            exact hK3 (i + 1) _ (by omega) (by omega) rfl (by simp [SubS, lookS]) (by simp [SubO, lookO, hsm]) rfl
          · have e7 : decide ((0 : Int) ≤ atI rbm m 0) = false := by rw [hapm]; exact decide_eq_false c7
            have hst : stepM ⟨ra, rbm, rc⟩ m = ⟨ra, rbm ++ [m], rc⟩ := by simp only [stepM]; rw [decide_eq_false (fun h => h.elim (fun h => h c6) c7), Bool.or_false]
            rw [hst] at hsm
            refine RunsA.dq mixed tabOk (by kernel_rfl) fun J hJ => ?_
            refine goQ_cut 5 ?_
            simp only [go_sem, ↓reduceIte, Nat.reduceAdd, Nat.reduceSub, Nat.reduceMul, Nat.reduceLT, Nat.reduceLeDiff, Nat.reduceEqDiff, Nat.reduceBEq, Int.reduceToNat, List.take_succ_cons, List.take_zero, List.take_nil, List.drop_succ_cons, List.drop_zero, List.drop_nil, List.nil_append, strs_len, hg, e6, e7]
            try simp (disch := omega) only [wrap_id]
            (repeat refine ⟨by omega, ?_⟩)
            refine goQh.of ?_
            simp only [go_sem, ↓reduceIte, Nat.reduceAdd, Nat.reduceSub, Nat.reduceMul, Nat.reduceLT, Nat.reduceLeDiff, Nat.reduceEqDiff, Nat.reduceBEq, Int.reduceToNat, strs_len, hg, e6, e7]
            refine hJ _ _ (QRuns.call (y := .bool (decide (NameP m))) rfl rfl rfl rfl (by simp only [go_sem, Nat.reduceEqDiff]) (hNm) rfl (fun r os' ros h => ⟨by exact h.1, h.2.2⟩) rfl ?_); clear hJ J
            refine QRuns.go tabOk fun J hJ => ?_
            refine goQ_cut 8 ?_
            simp only [go_sem, ↓reduceIte, Nat.reduceAdd, Nat.reduceSub, Nat.reduceMul, Nat.reduceLT, Nat.reduceLeDiff, Nat.reduceEqDiff, Nat.reduceBEq, Int.reduceToNat, List.take_succ_cons, List.take_zero, List.take_nil, List.drop_succ_cons, List.drop_zero, List.drop_nil, List.nil_append, strs_len, hg, e6, e7]
            try simp (disch := omega) only [wrap_id]
            (repeat refine ⟨by omega, ?_⟩)
            refine goQh.of ?_
            refine goQ_cut 3 ?_
            simp only [go_sem, ↓reduceIte, Nat.reduceAdd, Nat.reduceSub, Nat.reduceMul, Nat.reduceLT, Nat.reduceLeDiff, Nat.reduceEqDiff, Nat.reduceBEq, Int.reduceToNat, List.take_succ_cons, List.take_zero, List.take_nil, List.drop_succ_cons, List.drop_zero, List.drop_nil, List.nil_append, strs_len, hg, e6, e7]
            try simp (disch := omega) only [wrap_id]
            (repeat refine ⟨by omega, ?_⟩)
            refine goQh.of ?_
            simp only [go_sem, ↓reduceIte, Nat.reduceAdd, Nat.reduceSub, Nat.reduceMul, Nat.reduceLT, Nat.reduceLeDiff, Nat.reduceEqDiff, Nat.reduceBEq, Int.reduceToNat, strs_len, hg, e6, e7]
            refine hJ _ _ (QRuns.call (y := .int .i64 (atI rbm m 0)) rfl rfl rfl rfl (by simp only [go_sem, Nat.reduceEqDiff, brw_strs]) (hAm) rfl (fun r os' ros h => ⟨by exact h.1, h.2.2⟩) rfl ?_); clear hJ J
            refine QRuns.go tabOk fun J hJ => ?_
            refine goQ_cut 2 ?_
            simp only [go_sem, ↓reduceIte, Nat.reduceAdd, Nat.reduceSub, Nat.reduceMul, Nat.reduceLT, Nat.reduceLeDiff, Nat.reduceEqDiff, Nat.reduceBEq, Int.reduceToNat, List.take_succ_cons, List.take_zero, List.take_nil, List.drop_succ_cons, List.drop_zero, List.drop_nil, List.nil_append, strs_len, hg, e6, e7]
            try simp (disch := omega) only [wrap_id]
            (repeat refine ⟨by omega, ?_⟩)
            refine goQh.of ?_
            simp only [go_sem, ↓reduceIte, Nat.reduceAdd, Nat.reduceSub, Nat.reduceMul, Nat.reduceLT, Nat.reduceLeDiff, Nat.reduceEqDiff, Nat.reduceBEq, Int.reduceToNat]
            refine hJ _ _ (QRuns.nil ?_); clear hJ J
            refine run_ ?_
            refine RunsA.cond rfl (fun h => absurd h (by decide)) (fun h => ?_)
            refine RunsA.sk ?_
            refine At.n ?_
            refine RunsA.dqa 10 3 0 82 92 23808 (.ptr 0 [] 3 0 0) mixed tabOk (by kernel_rfl) (by kernel_rfl) (by kernel_rfl) (by decide) rfl ?_
            simp only [go_sem, ↓reduceIte, Nat.reduceAdd, Nat.reduceSub, Nat.reduceMul, Nat.reduceLT, Nat.reduceLeDiff, Nat.reduceEqDiff, Nat.reduceBEq, Int.reduceToNat, hsn2, hg]
            (repeat refine ⟨by omega, ?_⟩)
            refine AppSt.mk' tabOk rfl rfl rfl rfl rfl rfl rfl rfl (by simp only; omega) rfl rfl rfl rfl rfl rfl rfl rfl rfl (by intro d hd; cases hd; rfl) (by simp only [go_sem, ↓reduceIte, Nat.reduceAdd, Nat.reduceSub, Nat.reduceMul, Nat.reduceLT, Nat.reduceLeDiff, Nat.reduceEqDiff, Nat.reduceBEq, Int.reduceToNat, hsn2, hg, List.getElem_toArray, List.getElem_cons_zero, List.getElem_cons_succ]; first | rfl | exact ⟨rfl, rfl⟩) (by simp only [go_sem, ↓reduceIte, Nat.reduceAdd, Nat.reduceSub, Nat.reduceMul, Nat.reduceLT, Nat.reduceLeDiff, Nat.reduceEqDiff, Nat.reduceBEq, Int.reduceToNat, hsn2, hg, List.getElem_toArray, List.getElem_cons_zero, List.getElem_cons_succ]; first | rfl | exact ⟨rfl, rfl⟩) (by rfl) (by rfl) (by rfl) (by rfl) (by rfl) (by rfl) (by rfl) (by rfl) (by simp only; omega) (by first | trivial | omega | (simp only [strs_len, List.length_cons, List.length_nil]; omega)) (by first | trivial | omega | (simp only [strs_len, List.length_cons, List.length_nil]; omega)) ?_
            refine RunsL.go tabOk fun J hJ => ?_; simp only [go_sem, ↓reduceIte, Nat.reduceAdd, Nat.reduceSub, Nat.reduceMul, Nat.reduceLT, Nat.reduceLeDiff, Nat.reduceEqDiff, Nat.reduceBEq, Int.reduceToNat, List.getElem_toArray, List.getElem_cons_zero, List.getElem_cons_succ, List.drop_succ_cons, List.drop_zero, hsn2, hg]; try simp (disch := omega) only [wrap_id]
            (repeat refine ⟨by omega, ?_⟩)
            refine hJ _ _ (RunsL.nil ?_); clear hJ J
            refine run_ ?_
            exact hK3 (i + 1) _ (by omega) (by omega) rfl (by simp [SubS, lookS]) (by simp [SubO, lookO, hsm]) rfl
        · have e6 := decide_eq_false c6
          have hst : stepM ⟨ra, rbm, rc⟩ m = ⟨ra, rbm ++ [m], true⟩ := by simp only [stepM]; rw [decide_eq_true (.inl c6), Bool.or_true]
          rw [hst] at hsm
          refine RunsA.dq mixed tabOk (by kernel_rfl) fun J hJ => ?_
          refine goQ_cut 5 ?_
          simp only [go_sem, ↓reduceIte, Nat.reduceAdd, Nat.reduceSub, Nat.reduceMul, Nat.reduceLT, Nat.reduceLeDiff, Nat.reduceEqDiff, Nat.reduceBEq, Int.reduceToNat, List.take_succ_cons, List.take_zero, List.take_nil, List.drop_succ_cons, List.drop_zero, List.drop_nil, List.nil_append, strs_len, hg, e6]
          try simp (disch := omega) only [wrap_id]
          (repeat refine ⟨by omega, ?_⟩)
          refine goQh.of ?_
          simp only [go_sem, ↓reduceIte, Nat.reduceAdd, Nat.reduceSub, Nat.reduceMul, Nat.reduceLT, Nat.reduceLeDiff, Nat.reduceEqDiff, Nat.reduceBEq, Int.reduceToNat, strs_len, hg, e6]
          refine hJ _ _ (QRuns.call (y := .bool (decide (NameP m))) rfl rfl rfl rfl (by simp only [go_sem, Nat.reduceEqDiff]) (hNm) rfl (fun r os' ros h => ⟨by exact h.1, h.2.2⟩) rfl ?_); clear hJ J
          refine QRuns.go tabOk fun J hJ => ?_
          refine goQ_cut 8 ?_
          simp only [go_sem, ↓reduceIte, Nat.reduceAdd, Nat.reduceSub, Nat.reduceMul, Nat.reduceLT, Nat.reduceLeDiff, Nat.reduceEqDiff, Nat.reduceBEq, Int.reduceToNat, List.take_succ_cons, List.take_zero, List.take_nil, List.drop_succ_cons, List.drop_zero, List.drop_nil, List.nil_append, strs_len, hg, e6]
          try simp (disch := omega) only [wrap_id]
          (repeat refine ⟨by omega, ?_⟩)
          refine goQh.of ?_
          refine goQ_cut 6 ?_
          simp only [go_sem, ↓reduceIte, Nat.reduceAdd, Nat.reduceSub, Nat.reduceMul, Nat.reduceLT, Nat.reduceLeDiff, Nat.reduceEqDiff, Nat.reduceBEq, Int.reduceToNat, List.take_succ_cons, List.take_zero, List.take_nil, List.drop_succ_cons, List.drop_zero, List.drop_nil, List.nil_append, strs_len, hg, e6]
          try simp (disch := omega) only [wrap_id]
          (repeat refine ⟨by omega, ?_⟩)
          refine goQh.of ?_
          simp only [go_sem, ↓reduceIte, Nat.reduceAdd, Nat.reduceSub, Nat.reduceMul, Nat.reduceLT, Nat.reduceLeDiff, Nat.reduceEqDiff, Nat.reduceBEq, Int.reduceToNat]
          refine hJ _ _ (QRuns.nil ?_); clear hJ J
          refine run_ ?_
          refine RunsA.cond rfl (fun h => ?_) (fun h => absurd h (by decide))
          refine run_ ?_
          refine RunsA.dqa 10 3 0 82 92 23808 (.ptr 0 [] 3 0 0) mixed tabOk (by kernel_rfl) (by kernel_rfl) (by kernel_rfl) (by decide) rfl ?_
          simp only [go_sem, ↓reduceIte, Nat.reduceAdd, Nat.reduceSub, Nat.reduceMul, Nat.reduceLT, Nat.reduceLeDiff, Nat.reduceEqDiff, Nat.reduceBEq, Int.reduceToNat, hsn2, hg]
          (repeat refine ⟨by omega, ?_⟩)
          refine AppSt.mk' tabOk rfl rfl rfl rfl rfl rfl rfl rfl (by simp only; omega) rfl rfl rfl rfl rfl rfl rfl rfl rfl (by intro d hd; cases hd; rfl) (by simp only [go_sem, ↓reduceIte, Nat.reduceAdd, Nat.reduceSub, Nat.reduceMul, Nat.reduceLT, Nat.reduceLeDiff, Nat.reduceEqDiff, Nat.reduceBEq, Int.reduceToNat, hsn2, hg, List.getElem_toArray, List.getElem_cons_zero, List.getElem_cons_succ]; first | rfl | exact ⟨rfl, rfl⟩) (by simp only [go_sem, ↓reduceIte, Nat.reduceAdd, Nat.reduceSub, Nat.reduceMul, Nat.reduceLT, Nat.reduceLeDiff, Nat.reduceEqDiff, Nat.reduceBEq, Int.reduceToNat, hsn2, hg, List.getElem_toArray, List.getElem_cons_zero, List.getElem_cons_succ]; first | rfl | exact ⟨rfl, rfl⟩) (by rfl) (by rfl) (by rfl) (by rfl) (by rfl) (by rfl) (by rfl) (by rfl) (by simp only; omega) (by first | trivial | omega | (simp only [strs_len, List.length_cons, List.length_nil]; omega)) (by first | trivial | omega | (simp only [strs_len, List.length_cons, List.length_nil]; omega)) ?_
          refine RunsL.go tabOk fun J hJ => ?_; simp only [go_sem, ↓reduceIte, Nat.reduceAdd, Nat.reduceSub, Nat.reduceMul, Nat.reduceLT, Nat.reduceLeDiff, Nat.reduceEqDiff, Nat.reduceBEq, Int.reduceToNat, List.getElem_toArray, List.getElem_cons_zero, List.getElem_cons_succ, List.drop_succ_cons, List.drop_zero, hsn2, hg]; try simp (disch := omega) only [wrap_id]
          (repeat refine ⟨by omega, ?_⟩)
          refine hJ _ _ (RunsL.nil ?_); clear hJ J
          refine run_ ?_
          exact hK3 (i + 1) _ (by omega) (by omega) rfl (by simp [SubS, lookS]) (by simp [SubO, lookO, hsm]) rfl
      · simp only [decide_eq_false_iff_not] at h2
        have : i = ms.length := by omega
        subst this
        clear hK3
        rw [List.take_length]
        have hln := addM_len ⟨rn ++ [n], rm, false⟩ ms
        have hl1 := congrArg List.length hln.1
        have hl2 := congrArg List.length hln.2
        simp only [List.length_append, List.length_cons, List.length_nil] at hl1 hl2
        generalize addM ⟨rn ++ [n], rm, false⟩ ms = R1 at *
        refine run_ ?_
        refine RunsA.loop ?_
        refine (LoopA.ind (fun j : Nat => ⟨112, [(0, .ptr 0 [] 3 0 0), (2, .int .i64 d), (4, .ptr 1280 [] 3 0 0), (7, .int .i64 j)], [⟨0, 3, [.agg [.row .own 1 (strs (walkL (ks.take j) (d + 1) R1).names), .row .own 1 (strs (walkL (ks.take j) (d + 1) R1).mods), .bool (walkL (ks.take j) (d + 1) R1).bad]]⟩, ⟨1280, 3, [.agg [.str n, .row .bo 1 (strs ms), .row .bo 3 (segsA .bo ks)]]⟩], false⟩) (fun j => ks.length - j) (fun j => j ≤ ks.length) ?_ 0 ?_).sub rfl ?_ ?_ rfl
        rotate_left
        · exact Nat.zero_le _
        · simp [SubS, lookS]
        · simp [SubO, lookO, walkL]
        intro j hj K3 hK3
        refine run1_ @segsA_len ?_
        refine RunsA.cond rfl (fun h2 => ?_) (fun h2 => ?_)
        · simp only [decide_eq_true_eq] at h2
          have hjlt : j < ks.length := by omega
          have hg := segsA_get .bo hjlt
          have hmk := List.getElem_mem hjlt
          have htm := SegV.totL_mem hmk
          have hws := walkL_snoc (d + 1) ks R1 j hjlt
          have hwl := walkL_len (ks.take j) (d + 1) R1
          have hn1 := congrArg List.length (SegV.namesL_snoc ks j hjlt)
          have hm1 := congrArg List.length (SegV.modsL_snoc ks j hjlt)
          have hn2 := namesL_take ks (j + 1)
          have hm2 := modsL_take ks (j + 1)
          simp only [List.length_append] at hn1 hm1
          have HH := ih ks[j] hmk (by omega) (d + 1) (walkL (ks.take j) (d + 1) R1) (by omega) (by omega) (by omega)
          rw [← hws] at HH
          generalize walkL (ks.take j) (d + 1) R1 = qj at *
          generalize hq1 : walkL (ks.take (j + 1)) (d + 1) R1 = qj1 at *
          generalize ks[j] = k at *
          obtain ⟨n', ms', ks'⟩ := k
          rw [segA_mk] at hg HH
          refine run_ ?_
          refine RunsA.rq tabOk fun J hJ => ?_
          simp only [go_sem, ↓reduceIte, Nat.reduceAdd, Nat.reduceSub, Nat.reduceMul, Nat.reduceLT, Nat.reduceLeDiff, Nat.reduceEqDiff, Nat.reduceBEq, Int.reduceToNat, hg, segsA_len]
          try simp (disch := omega) only [wrap_id]
          (repeat refine ⟨by omega, ?_⟩)
          refine hJ _ _ (RunsL.call (ps := [0]) (rid := 16) rfl rfl rfl rfl rfl (by simp only [go_sem, Nat.reduceEqDiff]; first | done | rfl) (HH) rfl (by decide) ⟨by decide, by decide, rfl⟩ (by first | exact .inl rfl | exact .inr (.inl rfl) | exact .inr (.inr rfl)) ?_); clear hJ J
          rintro r os' ros ⟨rfl, rfl, rfl⟩ _
          refine RunsL.go tabOk fun J hJ => ?_
          simp only [go_sem, ↓reduceIte, Nat.reduceAdd, Nat.reduceSub, Nat.reduceMul, Nat.reduceLT, Nat.reduceLeDiff, Nat.reduceEqDiff, Nat.reduceBEq, Int.reduceToNat]
          try simp (disch := omega) only [wrap_id]
          refine hJ _ _ (RunsL.nil ?_); clear hJ J
          refine run_ ?_
          exact hK3 (j + 1) _ (by omega) (by omega) rfl (by simp [SubS, lookS]) (by simp [SubO, lookO, hq1]) rfl
        · simp only [decide_eq_false_iff_not] at h2
          have : j = ks.length := by omega
          subst this
          rw [List.take_length, ← hE]
          refine run_ ?_
          exact RetA.mk tabOk 0 rfl rfl rfl (by omega) (by simp only [noBoO, noBoL, noBo, noBo_strs, Bool.and_self, Bool.and_true]) rfl rfl ⟨rfl, rfl, rfl⟩
    · have e3 := decide_eq_false c3
      have hE := hW1 (hSP.2 (.inr (.inr (.inl c3))))
      refine RunsA.dq mixed tabOk (by kernel_rfl) fun J hJ => ?_
      refine goQ_cut 8 ?_
      simp only [go_sem, ↓reduceIte, Nat.reduceAdd, Nat.reduceSub, Nat.reduceMul, Nat.reduceLT, Nat.reduceLeDiff, Nat.reduceEqDiff, Nat.reduceBEq, Int.reduceToNat, List.take_succ_cons, List.take_zero, List.take_nil, List.drop_succ_cons, List.drop_zero, List.drop_nil, List.nil_append, strs_len, e2, e3]
      try simp (disch := omega) only [wrap_id]
      (repeat refine ⟨by omega, ?_⟩)
      refine goQh.of ?_
      refine goQ_cut 3 ?_
      simp only [go_sem, ↓reduceIte, Nat.reduceAdd, Nat.reduceSub, Nat.reduceMul, Nat.reduceLT, Nat.reduceLeDiff, Nat.reduceEqDiff, Nat.reduceBEq, Int.reduceToNat, List.take_succ_cons, List.take_zero, List.take_nil, List.drop_succ_cons, List.drop_zero, List.drop_nil, List.nil_append, strs_len, e2, e3]
      try simp (disch := omega) only [wrap_id]
      (repeat refine ⟨by omega, ?_⟩)
      refine goQh.of ?_
      simp only [go_sem, ↓reduceIte, Nat.reduceAdd, Nat.reduceSub, Nat.reduceMul, Nat.reduceLT, Nat.reduceLeDiff, Nat.reduceEqDiff, Nat.reduceBEq, Int.reduceToNat, strs_len, e2, e3]
      refine hJ _ _ (QRuns.call (y := .bool (decide (NameP n))) rfl rfl rfl rfl (by simp only [go_sem, Nat.reduceEqDiff]) (hN) rfl (fun r os' ros h => ⟨by exact h.1, h.2.2⟩) rfl ?_); clear hJ J
      refine QRuns.go tabOk fun J hJ => ?_
      refine goQ_cut 8 ?_
      simp only [go_sem, ↓reduceIte, Nat.reduceAdd, Nat.reduceSub, Nat.reduceMul, Nat.reduceLT, Nat.reduceLeDiff, Nat.reduceEqDiff, Nat.reduceBEq, Int.reduceToNat, List.take_succ_cons, List.take_zero, List.take_nil, List.drop_succ_cons, List.drop_zero, List.drop_nil, List.nil_append, strs_len, e2, e3]
      try simp (disch := omega) only [wrap_id]
      (repeat refine ⟨by omega, ?_⟩)
      refine goQh.of ?_
      refine goQ_cut 8 ?_
      simp only [go_sem, ↓reduceIte, Nat.reduceAdd, Nat.reduceSub, Nat.reduceMul, Nat.reduceLT, Nat.reduceLeDiff, Nat.reduceEqDiff, Nat.reduceBEq, Int.reduceToNat, List.take_succ_cons, List.take_zero, List.take_nil, List.drop_succ_cons, List.drop_zero, List.drop_nil, List.nil_append, strs_len, e2, e3]
      try simp (disch := omega) only [wrap_id]
      (repeat refine ⟨by omega, ?_⟩)
      refine goQh.of ?_
      refine goQ_cut 2 ?_
      simp only [go_sem, ↓reduceIte, Nat.reduceAdd, Nat.reduceSub, Nat.reduceMul, Nat.reduceLT, Nat.reduceLeDiff, Nat.reduceEqDiff, Nat.reduceBEq, Int.reduceToNat, List.take_succ_cons, List.take_zero, List.take_nil, List.drop_succ_cons, List.drop_zero, List.drop_nil, List.nil_append, strs_len, e2, e3]
      try simp (disch := omega) only [wrap_id]
      (repeat refine ⟨by omega, ?_⟩)
      refine goQh.of ?_
      simp only [go_sem, ↓reduceIte, Nat.reduceAdd, Nat.reduceSub, Nat.reduceMul, Nat.reduceLT, Nat.reduceLeDiff, Nat.reduceEqDiff, Nat.reduceBEq, Int.reduceToNat]
      refine hJ _ _ (QRuns.nil ?_); clear hJ J
      refine run_ ?_
      refine RunsA.cond rfl (fun h => ?_) (fun h => absurd h (by decide))
      refine run_ ?_
      exact RetA.mk tabOk 0 rfl rfl rfl (by omega) (by simp only [noBoO, noBoL, noBo, noBo_strs, Bool.and_self, Bool.and_true]) rfl rfl ⟨rfl, by rw [hE], rfl⟩
end Go.Proofs.YtiilnlihimdnlaaGreatDoorFw
