/- Trees of segments out of tokens: the program's walk. -/
import Derived.Test.YtiilnlihimdnlaaGreatDoorQI
namespace Go.Proofs.YtiilnlihimdnlaaGreatDoorFw
open Go Go.RowKit
set_option linter.unusedVariables false
set_option linter.unusedSimpArgs false
set_option maxRecDepth 4000
set_option pp.deepTerms.threshold 6
set_option pp.deepTerms false
theorem segA_own (n : Str) (ms : List Str) (ks : List SegV) : segA .own (.mk n ms ks) = .agg [.str n, .row .own 1 (strs ms), .row .own 3 (segsA .own ks)] := segA_mk _ _ _ _
theorem segsA_snoc2 (m : Md) (l : List SegV) (x : SegV) : segsA m l ++ [segA m x] = segsA m (l ++ [x]) := by
  induction l with
  | nil => simp [segsA]
  | cons a r ih => simp only [List.cons_append, segsA, ih]
theorem strs_snoc' (l : List Str) (x : Str) : strs l ++ [.str x] = strs (l ++ [x]) := by simp [strs]
set_option maxHeartbeats 16000000 in
theorem pSeg_ok : ∀ (d : Nat), d ≤ 4 → ∀ (l : List TokV) (b : Bool), l.length ≤ 1048576 →
    FnA Tryz.prog 25 false [.ptr 0 [] 2 0 0, .int .i64 (d : Nat)] (prO l b) (fun r os ros => PSegR d l b r os ros) := by
  intro d
  induction d with
  | zero =>
    intro _ l b hl
    have hNm := pName_ok l b (by omega)
    have hW := pWant_ok (nmT l b).2.1 (nmT l b).2.2 [40] (by have := nxT_len l b; unfold nmT; simp only; omega)
    have hl2 : (tkL (nmT l b).2.1 [40]).length ≤ l.length := by
      have h1 := tkL_len (nmT l b).2.1 [40]
      have h2 := nxT_len l b
      unfold nmT at *
      simp only at *
      omega
    have hnone : segQ 0 l b = none := by unfold segQ; split <;> rfl
    generalize nmT l b = nm at *
    obtain ⟨n1, l1, b1⟩ := nm
    simp only at hNm hW hl2
    have hSee := pIsMark_ok (tkL l1 [40]) true [41] (by omega)
    have hW5 := pWant_ok (tkL l1 [40]) true [41] (by omega)
    have hk1 := tkL_len (tkL l1 [40]) [41]
    have hk2 := tkL_len (tkL (tkL l1 [40]) [41]) [60]
    have hT5 := pTake_ok (tkL (tkL l1 [40]) [41]) true [60] (by omega)
    have hR : PSegR 0 l b (.agg [.str n1, .hd 100 [], .hd 101 []]) (prO (tkL (tkL (tkL l1 [40]) [41]) [60]) true) [(1, strs []), (3, segsA .own [])] :=
      ⟨n1, [], [], _, true, rfl, rfl, rfl, by omega, by simp, by simp, fun hb => (by cases hb), fun _ => hnone⟩
    simp only [Bool.true_or] at hW5
    generalize tkL (tkL (tkL l1 [40]) [41]) [60] = l6 at *
    generalize isM (tkL (tkL l1 [40]) [41]) [60] = x5 at *
    generalize tkL (tkL l1 [40]) [41] = l5 at *
    generalize tkL l1 [40] = l2 at *
    generalize (b1 || !isM l1 [40]) = b2 at *
    generalize isM l2 [41] = x2 at *
    refine FnA.of Tryz.func25 rfl (by decide) Tryz.ntmps25 (by simp [prO]) ?_
    unfold prO at *
    refine run_ ?_
    refine RunsA.rq tabOk fun J hJ => ?_
    simp only [go_sem, ↓reduceIte, Nat.reduceAdd, Nat.reduceSub, Nat.reduceMul, Nat.reduceLT, Nat.reduceLeDiff, Nat.reduceEqDiff, Nat.reduceBEq, Int.reduceToNat]
    try simp (disch := omega) only [wrap_id]
    refine hJ _ _ (RunsL.call (ps := [0]) (rid := 16) rfl rfl rfl rfl rfl (by simp only [go_sem, Nat.reduceEqDiff]; first | done | rfl) (hNm) rfl (by decide) ⟨by decide, by decide, rfl⟩ (by first | exact .inl rfl | exact .inr (.inl rfl) | exact .inr (.inr rfl)) ?_); clear hJ J
    rintro r os' ros ⟨rfl, rfl, rfl⟩ _
    refine RunsL.go tabOk fun J hJ => ?_
    simp only [go_sem, ↓reduceIte, Nat.reduceAdd, Nat.reduceSub, Nat.reduceMul, Nat.reduceLT, Nat.reduceLeDiff, Nat.reduceEqDiff, Nat.reduceBEq, Int.reduceToNat]
    try simp (disch := omega) only [wrap_id]
    refine hJ _ _ (RunsL.nil ?_); clear hJ J
    refine run_ ?_
    refine RunsA.rq tabOk fun J hJ => ?_
    simp only [go_sem, ↓reduceIte, Nat.reduceAdd, Nat.reduceSub, Nat.reduceMul, Nat.reduceLT, Nat.reduceLeDiff, Nat.reduceEqDiff, Nat.reduceBEq, Int.reduceToNat]
    try simp (disch := omega) only [wrap_id]
    refine hJ _ _ (RunsL.call (ps := [0]) (rid := 16) rfl rfl rfl rfl rfl (by simp only [go_sem, Nat.reduceEqDiff]; first | done | rfl) (hW) rfl (by decide) ⟨by decide, by decide, rfl⟩ (by first | exact .inl rfl | exact .inr (.inl rfl) | exact .inr (.inr rfl)) ?_); clear hJ J
    rintro r os' ros ⟨rfl, rfl, rfl⟩ _
    refine RunsL.go tabOk fun J hJ => ?_
    simp only [go_sem, ↓reduceIte, Nat.reduceAdd, Nat.reduceSub, Nat.reduceMul, Nat.reduceLT, Nat.reduceLeDiff, Nat.reduceEqDiff, Nat.reduceBEq, Int.reduceToNat]
    try simp (disch := omega) only [wrap_id]
    refine hJ _ _ (RunsL.nil ?_); clear hJ J
    repeat' (first | refine ⟨by omega, ?_⟩ | (refine hJ _ _ (RunsL.nil ?_); clear hJ J) | refine RunsA.cond rfl (fun h => ?_) (fun h => absurd h (by decide)) | refine RunsA.cond rfl (fun h => absurd h (by decide)) (fun h => ?_) | (refine step_ ?_) | (refine RunsA.rk 11 [] tabOk fun J hJ => ?_; simp only [go_sem, ↓reduceIte, Nat.reduceAdd, Nat.reduceSub, Nat.reduceMul, Nat.reduceLT, Nat.reduceLeDiff, Nat.reduceEqDiff, Nat.reduceBEq, Int.reduceToNat, Int.reduceBEq]; try simp (disch := omega) only [wrap_id]) | simp only [↓reduceIte, not_false_eq_true, Int.reduceBEq])
    refine hJ _ _ (RunsL.call (ps := [0]) (rid := 16) rfl rfl rfl rfl rfl (by simp only [go_sem, Nat.reduceEqDiff]; first | done | rfl) (hSee) rfl (by decide) ⟨by decide, by decide, rfl⟩ (by first | exact .inl rfl | exact .inr (.inl rfl) | exact .inr (.inr rfl)) ?_); clear hJ J
    rintro r os' ros ⟨rfl, rfl, rfl⟩ _
    refine RunsL.go tabOk fun J hJ => ?_
    simp only [go_sem, ↓reduceIte, Nat.reduceAdd, Nat.reduceSub, Nat.reduceMul, Nat.reduceLT, Nat.reduceLeDiff, Nat.reduceEqDiff, Nat.reduceBEq, Int.reduceToNat]
    try simp (disch := omega) only [wrap_id]
    refine hJ _ _ (RunsL.nil ?_); clear hJ J
    refine run_ ?_
    refine RunsA.loop ?_
    refine (LoopA.ind (fun p : Unit => ⟨70, [(0, .ptr 0 [] 2 0 0), (1, .int .i64 ((0 : Nat) : Int)), (4, .ptr 1280 [] 3 0 0), (5, .ptr 1536 [] 3 0 0), (6, .bool (!x2))],
      [⟨0, 2, [.agg [.row .ro 3 (toksA l2), .bool true]]⟩, ⟨1280, 3, [.agg [.str [], .row .own 1 [], .row .own 3 []]]⟩, ⟨1536, 3, [.agg [.str n1, .row .own 1 [], .row .own 3 []]]⟩], false⟩)
      (fun _ => 0) (fun _ => True) ?_ () ?_).sub rfl ?_ ?_ rfl
    · intro p _ K3 hK3
      clear hK3
      cases x2
      all_goals (
        repeat' (first | refine ⟨by omega, ?_⟩ | (refine hJ _ _ (RunsL.nil ?_); clear hJ J) | refine RunsA.cond rfl (fun h => ?_) (fun h => absurd h (by decide)) | refine RunsA.cond rfl (fun h => absurd h (by decide)) (fun h => ?_) | (refine step_ ?_) | (refine RunsA.rk 11 [] tabOk fun J hJ => ?_; simp only [go_sem, ↓reduceIte, Nat.reduceAdd, Nat.reduceSub, Nat.reduceMul, Nat.reduceLT, Nat.reduceLeDiff, Nat.reduceEqDiff, Nat.reduceBEq, Int.reduceToNat, Bool.not_true, Bool.not_false]; try simp (disch := omega) only [wrap_id]) | simp only [↓reduceIte, not_false_eq_true, Bool.not_true, Bool.not_false])
        refine hJ _ _ (RunsL.call (ps := [0]) (rid := 16) rfl rfl rfl rfl rfl (by simp only [go_sem, Nat.reduceEqDiff]; first | done | rfl) (hW5) rfl (by decide) ⟨by decide, by decide, rfl⟩ (by first | exact .inl rfl | exact .inr (.inl rfl) | exact .inr (.inr rfl)) ?_); clear hJ J
        rintro r os' ros ⟨rfl, rfl, rfl⟩ _
        refine RunsL.go tabOk fun J hJ => ?_
        simp only [go_sem, ↓reduceIte, Nat.reduceAdd, Nat.reduceSub, Nat.reduceMul, Nat.reduceLT, Nat.reduceLeDiff, Nat.reduceEqDiff, Nat.reduceBEq, Int.reduceToNat]
        try simp (disch := omega) only [wrap_id]
        refine hJ _ _ (RunsL.nil ?_); clear hJ J
        refine run_ ?_
        refine RunsA.rq tabOk fun J hJ => ?_
        simp only [go_sem, ↓reduceIte, Nat.reduceAdd, Nat.reduceSub, Nat.reduceMul, Nat.reduceLT, Nat.reduceLeDiff, Nat.reduceEqDiff, Nat.reduceBEq, Int.reduceToNat]
        try simp (disch := omega) only [wrap_id]
        refine hJ _ _ (RunsL.call (ps := [0]) (rid := 16) rfl rfl rfl rfl rfl (by simp only [go_sem, Nat.reduceEqDiff]; first | done | rfl) (hT5) rfl (by decide) ⟨by decide, by decide, rfl⟩ (by first | exact .inl rfl | exact .inr (.inl rfl) | exact .inr (.inr rfl)) ?_); clear hJ J
        rintro r os' ros ⟨rfl, rfl, rfl⟩ _
        refine RunsL.go tabOk fun J hJ => ?_
        simp only [go_sem, ↓reduceIte, Nat.reduceAdd, Nat.reduceSub, Nat.reduceMul, Nat.reduceLT, Nat.reduceLeDiff, Nat.reduceEqDiff, Nat.reduceBEq, Int.reduceToNat]
        try simp (disch := omega) only [wrap_id]
        refine hJ _ _ (RunsL.nil ?_); clear hJ J
        refine run_ ?_
        refine RunsA.loop ?_
        refine (LoopA.ind (fun p : Unit => ⟨70, [(0, .ptr 0 [] 2 0 0), (1, .int .i64 ((0 : Nat) : Int)), (4, .ptr 1280 [] 3 0 0), (5, .ptr 1536 [] 3 0 0), (9, .bool x5)],
          [⟨0, 2, [.agg [.row .ro 3 (toksA l6), .bool true]]⟩, ⟨1280, 3, [.agg [.str [], .row .own 1 [], .row .own 3 []]]⟩, ⟨1536, 3, [.agg [.str n1, .row .own 1 [], .row .own 3 []]]⟩], false⟩)
          (fun _ => 0) (fun _ => True) ?_ () trivial).sub rfl ?_ ?_ rfl
        · intro p _ K4 hK4
          clear hK4
          cases x5
          all_goals (
            repeat' (first | refine ⟨by omega, ?_⟩ | (refine hJ _ _ (RunsL.nil ?_); clear hJ J) | refine RunsA.cond rfl (fun h => ?_) (fun h => absurd h (by decide)) | refine RunsA.cond rfl (fun h => absurd h (by decide)) (fun h => ?_) | (refine step_ ?_) | (refine RunsA.rk 11 [] tabOk fun J hJ => ?_; simp only [go_sem, ↓reduceIte, Nat.reduceAdd, Nat.reduceSub, Nat.reduceMul, Nat.reduceLT, Nat.reduceLeDiff, Nat.reduceEqDiff, Nat.reduceBEq, Int.reduceToNat, Bool.not_true, Bool.not_false]; try simp (disch := omega) only [wrap_id]) | simp only [↓reduceIte, not_false_eq_true, Bool.not_true, Bool.not_false])
            refine RetA.v tabOk rfl ?_
            simp only [go_sem, ↓reduceIte, Nat.reduceAdd, Nat.reduceSub, Nat.reduceMul, Nat.reduceLT, Nat.reduceLeDiff, Nat.reduceEqDiff, Nat.reduceBEq, Int.reduceToNat]
            refine RetV.det (id := 1280) (q := []) (i := 0) (k := 1) (tid := 100) (by simp only [go_sem, ↓reduceIte, Nat.reduceAdd, Nat.reduceSub, Nat.reduceMul, Nat.reduceLT, Nat.reduceLeDiff, Nat.reduceEqDiff, Nat.reduceBEq, Int.reduceToNat]; rfl) ?_
            simp only [go_sem, ↓reduceIte, Nat.reduceAdd, Nat.reduceSub, Nat.reduceMul, Nat.reduceLT, Nat.reduceLeDiff, Nat.reduceEqDiff, Nat.reduceBEq, Int.reduceToNat]
            refine RetV.det (id := 1280) (q := []) (i := 0) (k := 2) (tid := 101) (by simp only [go_sem, ↓reduceIte, Nat.reduceAdd, Nat.reduceSub, Nat.reduceMul, Nat.reduceLT, Nat.reduceLeDiff, Nat.reduceEqDiff, Nat.reduceBEq, Int.reduceToNat]; rfl) ?_
            simp only [go_sem, ↓reduceIte, Nat.reduceAdd, Nat.reduceSub, Nat.reduceMul, Nat.reduceLT, Nat.reduceLeDiff, Nat.reduceEqDiff, Nat.reduceBEq, Int.reduceToNat]
            exact RetV.mk 2 rfl rfl (by omega) rfl (by simp [noBoO, noBoL, noBo, noBo_segs, noBo_strs, noBo_toks]) rfl hR)
        · simp [SubS, lookS]
        · simp [SubO, lookO])
    · trivial
    · simp [SubS, lookS]
    · simp [SubO, lookO]
  | succ d ih =>
    intro hd l b hl
    have ih := ih (by omega)
    have hNm := pName_ok l b (by omega)
    have hW := pWant_ok (nmT l b).2.1 (nmT l b).2.2 [40] (by have := nxT_len l b; unfold nmT; simp only; omega)
    have hl2 : (tkL (nmT l b).2.1 [40]).length ≤ l.length := by
      have h1 := tkL_len (nmT l b).2.1 [40]
      have h2 := nxT_len l b
      unfold nmT at *
      simp only at *
      omega
    have hfin := segQ_eq d l b
    have q0 : (((d + 1 : Nat) : Int) == 0) = false := beq_eq_false_iff_ne.2 (by omega)
    have q00 : (((d + 1 : Nat) : Int) = 0) = False := eq_false (by omega)
    generalize nmT l b = nm at *
    obtain ⟨n1, l1, b1⟩ := nm
    simp only at hNm hW hl2 hfin
    have hSee := pIsMark_ok (tkL l1 [40]) (b1 || !isM l1 [40]) [41] (by omega)
    generalize tkL l1 [40] = l2 at *
    generalize (b1 || !isM l1 [40]) = b2 at *
    refine FnA.of Tryz.func25 rfl (by decide) Tryz.ntmps25 (by simp [prO]) ?_
    unfold prO at *
    refine run_ ?_
    refine RunsA.rq tabOk fun J hJ => ?_
    simp only [go_sem, ↓reduceIte, Nat.reduceAdd, Nat.reduceSub, Nat.reduceMul, Nat.reduceLT, Nat.reduceLeDiff, Nat.reduceEqDiff, Nat.reduceBEq, Int.reduceToNat]
    try simp (disch := omega) only [wrap_id]
    refine hJ _ _ (RunsL.call (ps := [0]) (rid := 16) rfl rfl rfl rfl rfl (by simp only [go_sem, Nat.reduceEqDiff]; first | done | rfl) (hNm) rfl (by decide) ⟨by decide, by decide, rfl⟩ (by first | exact .inl rfl | exact .inr (.inl rfl) | exact .inr (.inr rfl)) ?_); clear hJ J
    rintro r os' ros ⟨rfl, rfl, rfl⟩ _
    refine RunsL.go tabOk fun J hJ => ?_
    simp only [go_sem, ↓reduceIte, Nat.reduceAdd, Nat.reduceSub, Nat.reduceMul, Nat.reduceLT, Nat.reduceLeDiff, Nat.reduceEqDiff, Nat.reduceBEq, Int.reduceToNat]
    try simp (disch := omega) only [wrap_id]
    refine hJ _ _ (RunsL.nil ?_); clear hJ J
    refine run_ ?_
    refine RunsA.rq tabOk fun J hJ => ?_
    simp only [go_sem, ↓reduceIte, Nat.reduceAdd, Nat.reduceSub, Nat.reduceMul, Nat.reduceLT, Nat.reduceLeDiff, Nat.reduceEqDiff, Nat.reduceBEq, Int.reduceToNat]
    try simp (disch := omega) only [wrap_id]
    refine hJ _ _ (RunsL.call (ps := [0]) (rid := 16) rfl rfl rfl rfl rfl (by simp only [go_sem, Nat.reduceEqDiff]; first | done | rfl) (hW) rfl (by decide) ⟨by decide, by decide, rfl⟩ (by first | exact .inl rfl | exact .inr (.inl rfl) | exact .inr (.inr rfl)) ?_); clear hJ J
    rintro r os' ros ⟨rfl, rfl, rfl⟩ _
    refine RunsL.go tabOk fun J hJ => ?_
    simp only [go_sem, ↓reduceIte, Nat.reduceAdd, Nat.reduceSub, Nat.reduceMul, Nat.reduceLT, Nat.reduceLeDiff, Nat.reduceEqDiff, Nat.reduceBEq, Int.reduceToNat]
    try simp (disch := omega) only [wrap_id]
    refine hJ _ _ (RunsL.nil ?_); clear hJ J
    refine run1_ @q0 ?_
    refine RunsA.cond rfl (fun h => absurd h (by decide)) (fun h => ?_)
    refine run_ ?_
    refine RunsA.rq tabOk fun J hJ => ?_
    simp only [go_sem, ↓reduceIte, Nat.reduceAdd, Nat.reduceSub, Nat.reduceMul, Nat.reduceLT, Nat.reduceLeDiff, Nat.reduceEqDiff, Nat.reduceBEq, Int.reduceToNat]
    try simp (disch := omega) only [wrap_id]
    refine hJ _ _ (RunsL.call (ps := [0]) (rid := 16) rfl rfl rfl rfl rfl (by simp only [go_sem, Nat.reduceEqDiff]; first | done | rfl) (hSee) rfl (by decide) ⟨by decide, by decide, rfl⟩ (by first | exact .inl rfl | exact .inr (.inl rfl) | exact .inr (.inr rfl)) ?_); clear hJ J
    rintro r os' ros ⟨rfl, rfl, rfl⟩ _
    refine RunsL.go tabOk fun J hJ => ?_
    simp only [go_sem, ↓reduceIte, Nat.reduceAdd, Nat.reduceSub, Nat.reduceMul, Nat.reduceLT, Nat.reduceLeDiff, Nat.reduceEqDiff, Nat.reduceBEq, Int.reduceToNat]
    try simp (disch := omega) only [wrap_id]
    refine hJ _ _ (RunsL.nil ?_); clear hJ J
    refine run_ ?_
    clear hNm hW hSee
    obtain ⟨T, hT⟩ : ∃ T, modT l2 b2 = T := ⟨_, rfl⟩
    rw [hT] at hfin
    refine RunsA.loop ?_
    refine (LoopA.ind (fun p : MS => ⟨70, [(0, .ptr 0 [] 2 0 0), (1, .int .i64 ((d + 1 : Nat) : Int)), (4, .ptr 1280 [] 3 0 0), (5, .ptr 1536 [] 3 0 0), (6, .bool p.more)],
      [⟨0, 2, [.agg [.row .ro 3 (toksA p.l), .bool p.b]]⟩, ⟨1280, 3, [.agg [.str [], .row .own 1 [], .row .own 3 []]]⟩, ⟨1536, 3, [.agg [.str n1, .row .own 1 (strs p.ms), .row .own 3 []]]⟩], false⟩)
      (fun p => p.m) (fun p => p.inv T l.length) ?_ ⟨l2, b2, !isM l2 [41], []⟩ ?_).sub rfl ?_ ?_ rfl
    · intro p hp K3 hK3
      obtain ⟨ml, mb, more, ms⟩ := p
      by_cases c : mb = false ∧ more = true
      · obtain ⟨rfl, rfl⟩ := c
        have hst := MS.step hp rfl rfl
        have hb1 := hp.1
        have hb2 := hp.2.1
        simp only [Bool.false_eq_true, if_false] at hb1 hb2
        have hNm := pName_ok ml false (by omega)
        have hnl : (nmT ml false).2.1.length ≤ ml.length := nxT_len ml false
        have hTk := pTake_ok (nmT ml false).2.1 (nmT ml false).2.2 [44] (by omega)
        simp only [MS.next] at hst
        generalize nmT ml false = nm at *
        obtain ⟨n2, l3, b3⟩ := nm
        simp only at hNm hTk hst hnl
        clear ih hfin hp
        unfold prO at *
        repeat' (first | refine ⟨by omega, ?_⟩ | (refine hJ _ _ (RunsL.nil ?_); clear hJ J) | refine RunsA.cond rfl (fun h => ?_) (fun h => absurd h (by decide)) | refine RunsA.cond rfl (fun h => absurd h (by decide)) (fun h => ?_) | (refine step_ ?_) | (refine RunsA.rk 11 [] tabOk fun J hJ => ?_; simp only [go_sem, ↓reduceIte, Nat.reduceAdd, Nat.reduceSub, Nat.reduceMul, Nat.reduceLT, Nat.reduceLeDiff, Nat.reduceEqDiff, Nat.reduceBEq, Int.reduceToNat, Bool.not_false]; try simp (disch := omega) only [wrap_id]) | simp only [↓reduceIte, not_false_eq_true, Bool.not_false])
        refine hJ _ _ (RunsL.call (ps := [0]) (rid := 16) rfl rfl rfl rfl rfl (by simp only [go_sem, Nat.reduceEqDiff]; first | done | rfl) (hNm) rfl (by decide) ⟨by decide, by decide, rfl⟩ (by first | exact .inl rfl | exact .inr (.inl rfl) | exact .inr (.inr rfl)) ?_); clear hJ J
        rintro r os' ros ⟨rfl, rfl, rfl⟩ _
        refine RunsL.go tabOk fun J hJ => ?_
        simp only [go_sem, ↓reduceIte, Nat.reduceAdd, Nat.reduceSub, Nat.reduceMul, Nat.reduceLT, Nat.reduceLeDiff, Nat.reduceEqDiff, Nat.reduceBEq, Int.reduceToNat]
        try simp (disch := omega) only [wrap_id]
        refine hJ _ _ (RunsL.nil ?_); clear hJ J
        repeat' (first | refine ⟨by omega, ?_⟩ | (refine hJ _ _ (RunsL.nil ?_); clear hJ J) | refine RunsA.cond rfl (fun h => ?_) (fun h => absurd h (by decide)) | refine RunsA.cond rfl (fun h => absurd h (by decide)) (fun h => ?_) | (refine step_ ?_) | (refine RunsA.rk 11 [] tabOk fun J hJ => ?_; simp only [go_sem, ↓reduceIte, Nat.reduceAdd, Nat.reduceSub, Nat.reduceMul, Nat.reduceLT, Nat.reduceLeDiff, Nat.reduceEqDiff, Nat.reduceBEq, Int.reduceToNat, strs_len, List.length_cons, List.length_nil, strs_snoc']; try simp (disch := omega) only [wrap_id]) | simp only [↓reduceIte, not_false_eq_true, strs_len, List.length_cons, List.length_nil, strs_snoc'])
        refine hJ _ _ (RunsL.call (ps := [0]) (rid := 16) rfl rfl rfl rfl rfl (by simp only [go_sem, Nat.reduceEqDiff]; first | done | rfl) (hTk) rfl (by decide) ⟨by decide, by decide, rfl⟩ (by first | exact .inl rfl | exact .inr (.inl rfl) | exact .inr (.inr rfl)) ?_); clear hJ J
        rintro r os' ros ⟨rfl, rfl, rfl⟩ _
        refine RunsL.go tabOk fun J hJ => ?_
        simp only [go_sem, ↓reduceIte, Nat.reduceAdd, Nat.reduceSub, Nat.reduceMul, Nat.reduceLT, Nat.reduceLeDiff, Nat.reduceEqDiff, Nat.reduceBEq, Int.reduceToNat]
        try simp (disch := omega) only [wrap_id]
        refine hJ _ _ (RunsL.nil ?_); clear hJ J
        refine run_ ?_
        exact hK3 _ _ hst.1 hst.2 rfl (by simp [SubS, lookS]) (by simp [SubO, lookO, strs_snoc', strs]) rfl
      · have h1 : mb = true → T = none := hp.2.2.1
        have h2 : mb = false → T = some (ms, ml) := fun hb => hp.2.2.2.2 hb (by
          cases more with
          | true => exact absurd ⟨hb, rfl⟩ c
          | false => rfl)
        have hfin2 := hfin ms ml mb h1 h2
        have hb1 : ml.length ≤ l.length := hp.1
        have hb2 : ms.length ≤ l.length + 1 := by
          have := hp.2.1
          simp only at this
          split at this <;> omega
        have hW5 := pWant_ok ml mb [41] (by omega)
        have hk1 := tkL_len ml [41]
        have hk2 := tkL_len (tkL ml [41]) [60]
        obtain ⟨K, hK⟩ : ∃ K, kidT d ml (mb || !isM ml [41]) = K := ⟨_, rfl⟩
        rw [hK] at hfin2
        unfold kidT at hK
        have hT5 := pTake_ok (tkL ml [41]) (mb || !isM ml [41]) [60] (by omega)
        clear hfin hp h1 h2 hT
        generalize (mb || !isM ml [41]) = b5 at *
        generalize tkL (tkL ml [41]) [60] = l6 at *
        generalize isM (tkL ml [41]) [60] = x5 at *
        generalize tkL ml [41] = l5 at *
        have hmb : (mb = true ∧ more = true) ∨ (mb = true ∧ more = false) ∨ (mb = false ∧ more = false) := by
          cases mb <;> cases more <;> simp at c ⊢
        clear c
        unfold prO at hW5 hT5
        have hdm : ((d + 1 : Nat) : Int) - 1 = ((d : Nat) : Int) := by omega
        rcases hmb with ⟨rfl, rfl⟩ | ⟨rfl, rfl⟩ | ⟨rfl, rfl⟩
        all_goals (
          repeat' (first | refine ⟨by omega, ?_⟩ | (refine hJ _ _ (RunsL.nil ?_); clear hJ J) | refine RunsA.cond rfl (fun h => ?_) (fun h => absurd h (by decide)) | refine RunsA.cond rfl (fun h => absurd h (by decide)) (fun h => ?_) | (refine step_ ?_) | (refine RunsA.rk 11 [] tabOk fun J hJ => ?_; simp only [go_sem, ↓reduceIte, Nat.reduceAdd, Nat.reduceSub, Nat.reduceMul, Nat.reduceLT, Nat.reduceLeDiff, Nat.reduceEqDiff, Nat.reduceBEq, Int.reduceToNat, Bool.not_true, Bool.not_false]; try simp (disch := omega) only [wrap_id]) | simp only [↓reduceIte, not_false_eq_true, Bool.not_true, Bool.not_false])
          refine hJ _ _ (RunsL.call (ps := [0]) (rid := 16) rfl rfl rfl rfl rfl (by simp only [go_sem, Nat.reduceEqDiff]; first | done | rfl) (hW5) rfl (by decide) ⟨by decide, by decide, rfl⟩ (by first | exact .inl rfl | exact .inr (.inl rfl) | exact .inr (.inr rfl)) ?_); clear hJ J
          rintro r os' ros ⟨rfl, rfl, rfl⟩ _
          refine RunsL.go tabOk fun J hJ => ?_
          simp only [go_sem, ↓reduceIte, Nat.reduceAdd, Nat.reduceSub, Nat.reduceMul, Nat.reduceLT, Nat.reduceLeDiff, Nat.reduceEqDiff, Nat.reduceBEq, Int.reduceToNat]
          try simp (disch := omega) only [wrap_id]
          refine hJ _ _ (RunsL.nil ?_); clear hJ J
          refine run_ ?_
          refine RunsA.rq tabOk fun J hJ => ?_
          simp only [go_sem, ↓reduceIte, Nat.reduceAdd, Nat.reduceSub, Nat.reduceMul, Nat.reduceLT, Nat.reduceLeDiff, Nat.reduceEqDiff, Nat.reduceBEq, Int.reduceToNat]
          try simp (disch := omega) only [wrap_id]
          refine hJ _ _ (RunsL.call (ps := [0]) (rid := 16) rfl rfl rfl rfl rfl (by simp only [go_sem, Nat.reduceEqDiff]; first | done | rfl) (hT5) rfl (by decide) ⟨by decide, by decide, rfl⟩ (by first | exact .inl rfl | exact .inr (.inl rfl) | exact .inr (.inr rfl)) ?_); clear hJ J
          rintro r os' ros ⟨rfl, rfl, rfl⟩ _
          refine RunsL.go tabOk fun J hJ => ?_
          simp only [go_sem, ↓reduceIte, Nat.reduceAdd, Nat.reduceSub, Nat.reduceMul, Nat.reduceLT, Nat.reduceLeDiff, Nat.reduceEqDiff, Nat.reduceBEq, Int.reduceToNat]
          try simp (disch := omega) only [wrap_id]
          refine hJ _ _ (RunsL.nil ?_); clear hJ J
          refine run_ ?_
          refine RunsA.loop ?_
          refine (LoopA.ind (fun p : KS => ⟨70, [(0, .ptr 0 [] 2 0 0), (1, .int .i64 ((d + 1 : Nat) : Int)), (4, .ptr 1280 [] 3 0 0), (5, .ptr 1536 [] 3 0 0), (9, .bool p.more)],
            [⟨0, 2, [.agg [.row .ro 3 (toksA p.l), .bool p.b]]⟩, ⟨1280, 3, [.agg [.str [], .row .own 1 [], .row .own 3 []]]⟩, ⟨1536, 3, [.agg [.str n1, .row .own 1 (strs ms), .row .own 3 (segsA .own p.ks)]]⟩], false⟩)
            (fun p => p.m) (fun p => p.inv (segP d) K l.length) ?_ ⟨l6, b5, x5, []⟩ ?_).sub rfl ?_ ?_ rfl
          · intro p hp K4 hK4
            obtain ⟨kl, kb, kmore, ks⟩ := p
            by_cases c : kb = false ∧ kmore = true
            · obtain ⟨rfl, rfl⟩ := c
              have hst := fun (x : SegV) (l' : List TokV) (b' : Bool) => KS.step (fun l p => segP_len d l p) hp rfl rfl (x := x) (l' := l') (b' := b')
              have kb1 : kl.length ≤ l.length := hp.1
              have kb2 : ks.length + kl.length ≤ l.length := by
                have := hp.2.1
                simpa using this
              have hih := ih kl false (by omega)
              clear hW5 hT5 hfin2 hK hp
              unfold prO at hih
              repeat' (first | refine ⟨by omega, ?_⟩ | (refine hJ _ _ (RunsL.nil ?_); clear hJ J) | refine RunsA.cond rfl (fun h => ?_) (fun h => absurd h (by decide)) | refine RunsA.cond rfl (fun h => absurd h (by decide)) (fun h => ?_) | (refine step_ ?_) | (refine RunsA.rk 11 [] tabOk fun J hJ => ?_; simp only [go_sem, ↓reduceIte, Nat.reduceAdd, Nat.reduceSub, Nat.reduceMul, Nat.reduceLT, Nat.reduceLeDiff, Nat.reduceEqDiff, Nat.reduceBEq, Int.reduceToNat, Bool.not_false, hdm]; try simp (disch := omega) only [wrap_id]) | simp only [↓reduceIte, not_false_eq_true, Bool.not_false, hdm])
              refine hJ _ _ (RunsL.call (ps := [0]) (rid := 16128) rfl rfl rfl rfl rfl (by simp only [go_sem, Nat.reduceEqDiff]; first | done | rfl) (hih) rfl (by decide) ⟨by decide, by decide, rfl⟩ (by first | exact .inl rfl | exact .inr (.inl rfl) | exact .inr (.inr rfl)) ?_); clear hJ J
              rintro r os' ros ⟨n3, ms3, ks3, l7, b7, rfl, rfl, rfl, hl7, hm7, hk7, hg1, hg2⟩ _
              have hst2 := hst (.mk n3 ms3 ks3) l7 b7 hl7 (fun hb => by have := hg1 hb; simpa [segQ] using this) (fun hb => by have := hg2 hb; simpa [segQ] using this)
              have hT7 := pTake_ok l7 b7 [62] (by omega)
              have hsn := segsA_snoc2 .own ks (.mk n3 ms3 ks3)
              rw [segA_own] at hsn
              simp only [KS.next] at hst2
              unfold prO at *
              refine RunsL.go tabOk fun J hJ => ?_
              simp only [go_sem, ↓reduceIte, Nat.reduceAdd, Nat.reduceSub, Nat.reduceMul, Nat.reduceLT, Nat.reduceLeDiff, Nat.reduceEqDiff, Nat.reduceBEq, Int.reduceToNat]
              try simp (disch := omega) only [wrap_id]
              (repeat refine ⟨by omega, ?_⟩)
              refine hJ _ _ (RunsL.nil ?_); clear hJ J
              repeat' (first | refine ⟨by omega, ?_⟩ | (refine hJ _ _ (RunsL.nil ?_); clear hJ J) | refine RunsA.cond rfl (fun h => ?_) (fun h => absurd h (by decide)) | refine RunsA.cond rfl (fun h => absurd h (by decide)) (fun h => ?_) | (refine step_ ?_) | (refine RunsA.rk 11 [] tabOk fun J hJ => ?_; simp only [go_sem, ↓reduceIte, Nat.reduceAdd, Nat.reduceSub, Nat.reduceMul, Nat.reduceLT, Nat.reduceLeDiff, Nat.reduceEqDiff, Nat.reduceBEq, Int.reduceToNat, segsA_len, List.length_cons, List.length_nil, hsn]; try simp (disch := omega) only [wrap_id]) | simp only [↓reduceIte, not_false_eq_true, segsA_len, List.length_cons, List.length_nil, hsn])
              refine hJ _ _ (RunsL.call (ps := [0]) (rid := 16) rfl rfl rfl rfl rfl (by simp only [go_sem, Nat.reduceEqDiff]; first | done | rfl) (hT7) rfl (by decide) ⟨by decide, by decide, rfl⟩ (by first | exact .inl rfl | exact .inr (.inl rfl) | exact .inr (.inr rfl)) ?_); clear hJ J
              rintro r os' ros ⟨rfl, rfl, rfl⟩ _
              refine RunsL.go tabOk fun J hJ => ?_
              simp only [go_sem, ↓reduceIte, Nat.reduceAdd, Nat.reduceSub, Nat.reduceMul, Nat.reduceLT, Nat.reduceLeDiff, Nat.reduceEqDiff, Nat.reduceBEq, Int.reduceToNat]
              try simp (disch := omega) only [wrap_id]
              refine hJ _ _ (RunsL.nil ?_); clear hJ J
              refine run_ ?_
              exact hK4 _ _ hst2.1 hst2.2 rfl (by simp [SubS, lookS]) (by simp [SubO, lookO, hsn]) rfl
            · have h1 : kb = true → K = none := hp.2.2.1
              have h2 : kb = false → K = some (ks, kl) := fun hb => hp.2.2.2.2 hb (by
                cases kmore with
                | true => exact absurd ⟨hb, rfl⟩ c
                | false => rfl)
              have kb1 : kl.length ≤ l.length := hp.1
              have kb2 : ks.length ≤ l.length + 1 := by
                have := hp.2.1
                simp only at this
                split at this <;> omega
              have hkm : (kb = true ∧ kmore = true) ∨ (kb = true ∧ kmore = false) ∨ (kb = false ∧ kmore = false) := by
                cases kb <;> cases kmore <;> simp at c ⊢
              have hR : PSegR (d + 1) l b (.agg [.str n1, .hd 100 [], .hd 101 []]) (prO kl kb) [(1, strs ms), (3, segsA .own ks)] :=
                ⟨n1, ms, ks, kl, kb, rfl, rfl, rfl, kb1, hb2, kb2, fun hb => by rw [hfin2, h2 hb]; rfl, fun hb => by rw [hfin2, h1 hb]; rfl⟩
              clear c ih hW5 hT5 hfin2 hK hp h1 h2
              unfold prO at hR
              rcases hkm with ⟨rfl, rfl⟩ | ⟨rfl, rfl⟩ | ⟨rfl, rfl⟩
              all_goals (
                repeat' (first | refine ⟨by omega, ?_⟩ | (refine hJ _ _ (RunsL.nil ?_); clear hJ J) | refine RunsA.cond rfl (fun h => ?_) (fun h => absurd h (by decide)) | refine RunsA.cond rfl (fun h => absurd h (by decide)) (fun h => ?_) | (refine step_ ?_) | (refine RunsA.rk 11 [] tabOk fun J hJ => ?_; simp only [go_sem, ↓reduceIte, Nat.reduceAdd, Nat.reduceSub, Nat.reduceMul, Nat.reduceLT, Nat.reduceLeDiff, Nat.reduceEqDiff, Nat.reduceBEq, Int.reduceToNat, Bool.not_true, Bool.not_false]; try simp (disch := omega) only [wrap_id]) | simp only [↓reduceIte, not_false_eq_true, Bool.not_true, Bool.not_false])
                refine RetA.v tabOk rfl ?_
                simp only [go_sem, ↓reduceIte, Nat.reduceAdd, Nat.reduceSub, Nat.reduceMul, Nat.reduceLT, Nat.reduceLeDiff, Nat.reduceEqDiff, Nat.reduceBEq, Int.reduceToNat]
                refine RetV.det (id := 1280) (q := []) (i := 0) (k := 1) (tid := 100) (by simp only [go_sem, ↓reduceIte, Nat.reduceAdd, Nat.reduceSub, Nat.reduceMul, Nat.reduceLT, Nat.reduceLeDiff, Nat.reduceEqDiff, Nat.reduceBEq, Int.reduceToNat]; rfl) ?_
                simp only [go_sem, ↓reduceIte, Nat.reduceAdd, Nat.reduceSub, Nat.reduceMul, Nat.reduceLT, Nat.reduceLeDiff, Nat.reduceEqDiff, Nat.reduceBEq, Int.reduceToNat]
                refine RetV.det (id := 1280) (q := []) (i := 0) (k := 2) (tid := 101) (by simp only [go_sem, ↓reduceIte, Nat.reduceAdd, Nat.reduceSub, Nat.reduceMul, Nat.reduceLT, Nat.reduceLeDiff, Nat.reduceEqDiff, Nat.reduceBEq, Int.reduceToNat]; rfl) ?_
                simp only [go_sem, ↓reduceIte, Nat.reduceAdd, Nat.reduceSub, Nat.reduceMul, Nat.reduceLT, Nat.reduceLeDiff, Nat.reduceEqDiff, Nat.reduceBEq, Int.reduceToNat]
                exact RetV.mk 2 rfl rfl (by omega) rfl (by simp [noBoO, noBoL, noBo, noBo_segs, noBo_strs, noBo_toks]) rfl hR)
          · refine ⟨by simp only; omega, by simp only [List.length_nil]; omega, fun hb => ?_, fun hb hm => ?_, fun hb hm => ?_⟩
            · simp only at hb
              rw [← hK, if_pos hb]
            · simp only at hb hm
              refine ⟨ml.length + 1, by simp only; omega, ?_⟩
              rw [← hK, if_neg (by rw [hb]; simp), if_pos hm]
              simp only [List.nil_append]
              cases kidsP (segP d) (ml.length + 1) l6 <;> rfl
            · simp only at hb hm
              rw [← hK, if_neg (by rw [hb]; simp), if_neg (by rw [hm]; simp)]
          · simp [SubS, lookS]
          · simp [SubO, lookO, segsA])
    · refine ⟨hl2, by simp only [List.length_nil]; omega, fun hc => ?_, fun hb hc => ?_, fun hb hc => ?_⟩
      · simp only at hc
        rw [← hT, modT, if_pos hc]
      · simp only [Bool.not_eq_true'] at hb hc
        rw [← hT, modT, if_neg (by rw [hb]; simp), if_neg (by rw [hc]; simp)]
        cases modsP l2 <;> rfl
      · simp only [Bool.not_eq_false'] at hb hc
        rw [← hT, modT, if_neg (by rw [hb]; simp), if_pos hc]
    · simp [SubS, lookS]
    · simp [SubO, lookO, strs]
end Go.Proofs.YtiilnlihimdnlaaGreatDoorFw
