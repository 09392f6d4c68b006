/- Trees of segments out of tokens: the reference's walk. -/
import Derived.Test.YtiilnlihimdnlaaGreatDoorIL
namespace Go.Proofs.YtiilnlihimdnlaaGreatDoorFw
open Go Go.RowKit
set_option linter.unusedVariables false
set_option linter.unusedSimpArgs false
set_option maxRecDepth 4000
set_option pp.deepTerms.threshold 6
set_option pp.deepTerms false
def RSegR (d : Nat) (L : List TokV) (i : Nat) (b : Bool) (r : AV) (os ros : List (Nat × List AV)) : Prop := ∃ (n : Str) (ms : List Str) (ks : List SegV) (i' : Nat) (b' : Bool),
  r = .agg [.str n, .hd 100 [], .hd 101 []] ∧ ros = [(1, strs ms), (3, segsA .own ks)] ∧ os = rdO L i' b' ∧ i ≤ i' ∧ i' ≤ L.length ∧ ms.length ≤ L.length + 1 ∧ ks.length ≤ L.length + 1 ∧
  (b' = false → segQ d (L.drop i) b = some (.mk n ms ks, L.drop i')) ∧ (b' = true → segQ d (L.drop i) b = none)
theorem rIs2_ok (L : List TokV) (i : Nat) (b : Bool) (m : Str) (hl : L.length ≤ 140737488355328) (hi : i ≤ L.length) : FnA Tryz.prog 51 false [.ptr 0 [] 3 0 0, .str m] (rdO L i b)
    (fun r os ros => r = .bool (seS L i b m) ∧ os = rdO L (tkI L i b m) b ∧ ros = []) := rIs_ok L i b m hl hi
theorem rMust2_ok (L : List TokV) (i : Nat) (b : Bool) (m : Str) (hl : L.length ≤ 140737488355328) (hi : i ≤ L.length) : FnA Tryz.prog 49 false [.ptr 0 [] 3 0 0, .str m] (rdO L i b)
    (fun r os ros => r = .tup [] ∧ os = rdO L (tkI L i b m) (b || !seS L i b m) ∧ ros = []) := rMust_ok L i b m hl hi
structure RK where
  i : Nat
  b : Bool
  ks : List SegV
def RK.inv (d : Nat) (L : List TokV) (K : Option (List SegV × List TokV)) (i0 : Nat) (p : RK) : Prop := i0 ≤ p.i ∧ p.i ≤ L.length ∧ p.ks.length ≤ p.i + (if p.b = true then 1 else 0) ∧ (p.b = true → K = none) ∧
  (p.b = false → KS.inv (segP d) K L.length (if p.ks = [] then ⟨L.drop p.i, false, true, []⟩ else ⟨tkL (L.drop p.i) [62], false, !isM (L.drop p.i) [62], p.ks⟩))
def RK.m (L : List TokV) (p : RK) : Nat := if p.b = true then 0 else (L.drop p.i).length + 1
theorem RK.more {d : Nat} {L : List TokV} {K : Option (List SegV × List TokV)} {i0 i : Nat} {ks : List SegV} (h : RK.inv d L K i0 ⟨i, false, ks⟩) (hc : ks = [] ∨ isM (L.drop i) [62] = false) : KS.inv (segP d) K L.length ⟨L.drop i, false, true, ks⟩ := by
  have h1 := h.2.2.2.2 rfl
  simp only at h1
  by_cases c : ks = []
  · rw [if_pos c] at h1; rw [c]; exact h1
  · rcases hc with hc | hc
    · exact absurd hc c
    · rw [if_neg c, hc] at h1
      have e : tkL (L.drop i) [62] = L.drop i := by simp [tkL, hc]
      rw [e] at h1
      exact h1
theorem RK.step {d : Nat} {L : List TokV} {K : Option (List SegV × List TokV)} {i0 i : Nat} {ks : List SegV} (h : RK.inv d L K i0 ⟨i, false, ks⟩) (hc : ks = [] ∨ isM (L.drop i) [62] = false) {x : SegV} {j : Nat} {b' : Bool} (hij : i ≤ j) (hj : j ≤ L.length)
    (h1 : b' = false → segQ d (L.drop i) false = some (x, L.drop j)) (h2 : b' = true → segQ d (L.drop i) false = none) : RK.inv d L K i0 ⟨j, b', ks ++ [x]⟩ ∧ RK.m L ⟨j, b', ks ++ [x]⟩ < RK.m L ⟨i, false, ks⟩ := by
  have hm := RK.more h hc
  have hst := KS.step (fun l p => segP_len d l p) hm rfl rfl (x := x) (l' := L.drop j) (b' := b') (by rw [List.length_drop, List.length_drop]; omega) (fun hb => by simpa [segQ] using h1 hb) (fun hb => by simpa [segQ] using h2 hb)
  have g1 := h.1
  have g3 := h.2.2.1
  simp only [Bool.false_eq_true, if_false] at g1 g3
  cases b' with
  | true =>
    refine ⟨⟨by simp only; omega, hj, by simp only [List.length_append, List.length_cons, List.length_nil, if_true]; omega, fun _ => hst.1.2.2.1 rfl, fun hb => (by cases hb)⟩, ?_⟩
    simp [RK.m]
  | false =>
    have hx := h1 rfl
    have hlt := segP_len d _ _ (show segP d (L.drop i) = some (x, L.drop j) by simpa [segQ] using hx)
    simp only [List.length_drop] at hlt
    refine ⟨⟨by simp only; omega, hj, by simp only [List.length_append, List.length_cons, List.length_nil, Bool.false_eq_true, if_false]; omega, fun hb => (by cases hb), fun _ => ?_⟩, ?_⟩
    · simp only
      rw [if_neg (by simp)]
      exact hst.1
    · simp only [RK.m, Bool.false_eq_true, if_false, List.length_drop]; omega
theorem RK.done {d : Nat} {L : List TokV} {K : Option (List SegV × List TokV)} {i0 i : Nat} {ks : List SegV} (h : RK.inv d L K i0 ⟨i, false, ks⟩) (hc : ks ≠ []) (hm : isM (L.drop i) [62] = true) : K = some (ks, tkL (L.drop i) [62]) := by
  have h1 := h.2.2.2.2 rfl
  simp only at h1
  rw [if_neg hc, hm] at h1
  exact h1.2.2.2.2 rfl rfl
structure RS where
  i : Nat
  b : Bool
  more : Bool
  ms : List Str
set_option maxHeartbeats 16000000 in
theorem rSeg_ok (L : List TokV) (hl : L.length ≤ 1048576) (hM : MarkOk L) : ∀ (d : Nat), d ≤ 4 → ∀ (i : Nat) (b : Bool), i ≤ L.length →
    FnA Tryz.prog 22 false [.ptr 0 [] 3 0 0, .int .i64 (5 - (d : Nat) : Int)] (rdO L i b) (fun r os ros => RSegR d L i b r os ros) := by
  intro d
  induction d with
  | zero =>
    intro _ i b hi
    have hnone : segQ 0 (L.drop i) b = none := by unfold segQ; split <;> rfl
    have hR : RSegR 0 L i b (.agg [.str [], .hd 100 [], .hd 101 []]) (rdO L i true) [(1, strs []), (3, segsA .own [])] :=
      ⟨[], [], [], _, true, rfl, rfl, rfl, Nat.le_refl _, hi, by simp, by simp, fun hb => (by cases hb), fun _ => hnone⟩
    have q0 : decide ((4 : Int) < 5 - ((0 : Nat) : Int)) = true := by decide
    have q00 : ((4 : Int) < 5 - ((0 : Nat) : Int)) = True := by simp
    refine FnA.of Tryz.func22 rfl (by decide) Tryz.ntmps22 (by simp [rdO]) ?_
    unfold rdO at *
    repeat' (first | refine ⟨by omega, ?_⟩ | (refine hJ _ _ (RunsL.nil ?_); clear hJ J) | refine RunsA.cond rfl (fun h => ?_) (fun h => absurd h (by decide)) | refine RunsA.cond rfl (fun h => absurd h (by decide)) (fun h => ?_) | (refine step_ ?_) | (refine RunsA.rk 9 [] tabOk fun J hJ => ?_; simp only [go_sem, ↓reduceIte, Nat.reduceAdd, Nat.reduceSub, Nat.reduceMul, Nat.reduceLT, Nat.reduceLeDiff, Nat.reduceEqDiff, Nat.reduceBEq, Int.reduceToNat, q0, q00]; try simp (disch := omega) only [wrap_id]) | simp only [↓reduceIte, not_false_eq_true, q0, q00])
    refine RetA.v tabOk rfl ?_
    simp only [go_sem, ↓reduceIte, Nat.reduceAdd, Nat.reduceSub, Nat.reduceMul, Nat.reduceLT, Nat.reduceLeDiff, Nat.reduceEqDiff, Nat.reduceBEq, Int.reduceToNat]
    refine RetV.det (id := 1280) (q := []) (i := 0) (k := 1) (tid := 100) (by simp only [go_sem, ↓reduceIte, Nat.reduceAdd, Nat.reduceSub, Nat.reduceMul, Nat.reduceLT, Nat.reduceLeDiff, Nat.reduceEqDiff, Nat.reduceBEq, Int.reduceToNat]; rfl) ?_
    simp only [go_sem, ↓reduceIte, Nat.reduceAdd, Nat.reduceSub, Nat.reduceMul, Nat.reduceLT, Nat.reduceLeDiff, Nat.reduceEqDiff, Nat.reduceBEq, Int.reduceToNat]
    refine RetV.det (id := 1280) (q := []) (i := 0) (k := 2) (tid := 101) (by simp only [go_sem, ↓reduceIte, Nat.reduceAdd, Nat.reduceSub, Nat.reduceMul, Nat.reduceLT, Nat.reduceLeDiff, Nat.reduceEqDiff, Nat.reduceBEq, Int.reduceToNat]; rfl) ?_
    simp only [go_sem, ↓reduceIte, Nat.reduceAdd, Nat.reduceSub, Nat.reduceMul, Nat.reduceLT, Nat.reduceLeDiff, Nat.reduceEqDiff, Nat.reduceBEq, Int.reduceToNat]
    exact RetV.mk 2 rfl rfl (by omega) rfl (by simp [noBoO, noBoL, noBo, noBo_segs, noBo_strs, noBo_toks]) rfl hR
  | succ d ih =>
    intro hd i b hi
    have ih := ih (by omega)
    obtain ⟨e1, e2, e3, e4, e5⟩ := nxS_eq L i b hi
    have hNm := rName_ok L i b (by omega) hi
    have hfin := segQ_eq d (L.drop i) b
    have hnm : nmT (L.drop i) b = ((nxS L i b).1.s, L.drop (nxS L i b).2.1, (nxS L i b).2.2 || (nxS L i b).1.k != 1) := by simp only [nmT, ← e1, ← e2, ← e3]
    rw [hnm] at hfin
    simp only at hfin
    have q0 : decide ((4 : Int) < 5 - ((d + 1 : Nat) : Int)) = false := decide_eq_false (by omega)
    have q00 : ((4 : Int) < 5 - ((d + 1 : Nat) : Int)) = False := eq_false (by omega)
    clear hnm e1 e2 e3
    generalize (nxS L i b).1 = t at *
    generalize (nxS L i b).2.1 = i1 at *
    generalize ((nxS L i b).2.2 || t.k != 1) = b1 at *
    have hW := rMust2_ok L i1 b1 [40] (by omega) e5
    have hi2 := tkI_le b1 [40] e5
    have hb2 : (b1 || !seS L i1 b1 [40]) = (b1 || !isM (L.drop i1) [40]) := by
      rw [seS_eq hM i1 b1 (by decide)]; cases b1 <;> simp
    rw [hb2] at hW
    have hT0 : ∃ T, T = modT (tkL (L.drop i1) [40]) (b1 || !isM (L.drop i1) [40]) ∧ T = modT (L.drop (tkI L i1 b1 [40])) (b1 || !isM (L.drop i1) [40]) := by
      refine ⟨_, rfl, ?_⟩
      cases b1 with
      | true => simp [modT]
      | false => rw [tkI_drop hM i1 (by decide)]
    obtain ⟨T, hTa, hTb⟩ := hT0
    rw [← hTa] at hfin
    clear hTa hb2
    have hSee := rSee_ok L (tkI L i1 b1 [40]) (b1 || !isM (L.drop i1) [40]) [41] (by omega) hi2.2
    have hs2 := seS_eq hM (tkI L i1 b1 [40]) (b1 || !isM (L.drop i1) [40]) (c := 41) (by decide)
    generalize tkI L i1 b1 [40] = i2 at *
    generalize (b1 || !isM (L.drop i1) [40]) = b2 at *
    refine FnA.of Tryz.func22 rfl (by decide) Tryz.ntmps22 (by simp [rdO]) ?_
    unfold rdO at *
    repeat' (first | refine ⟨by omega, ?_⟩ | (refine hJ _ _ (RunsL.nil ?_); clear hJ J) | refine RunsA.cond rfl (fun h => ?_) (fun h => absurd h (by decide)) | refine RunsA.cond rfl (fun h => absurd h (by decide)) (fun h => ?_) | (refine step_ ?_) | (refine RunsA.rk 9 [] tabOk fun J hJ => ?_; simp only [go_sem, ↓reduceIte, Nat.reduceAdd, Nat.reduceSub, Nat.reduceMul, Nat.reduceLT, Nat.reduceLeDiff, Nat.reduceEqDiff, Nat.reduceBEq, Int.reduceToNat, q0, q00]; try simp (disch := omega) only [wrap_id]) | simp only [↓reduceIte, not_false_eq_true, q0, q00])
    refine hJ _ _ (RunsL.call (ps := [0]) (rid := 16) rfl rfl rfl rfl rfl (by simp only [go_sem, Nat.reduceEqDiff]; first | done | rfl) (hNm) rfl (by decide) ⟨by decide, by decide, rfl⟩ (by first | exact .inl rfl | exact .inr (.inl rfl) | exact .inr (.inr rfl)) ?_); clear hJ J
    rintro r os' ros ⟨rfl, rfl, rfl⟩ _
    refine RunsL.go tabOk fun J hJ => ?_
    simp only [go_sem, ↓reduceIte, Nat.reduceAdd, Nat.reduceSub, Nat.reduceMul, Nat.reduceLT, Nat.reduceLeDiff, Nat.reduceEqDiff, Nat.reduceBEq, Int.reduceToNat]
    try simp (disch := omega) only [wrap_id]
    refine hJ _ _ (RunsL.nil ?_); clear hJ J
    refine run_ ?_
    refine RunsA.rq tabOk fun J hJ => ?_
    simp only [go_sem, ↓reduceIte, Nat.reduceAdd, Nat.reduceSub, Nat.reduceMul, Nat.reduceLT, Nat.reduceLeDiff, Nat.reduceEqDiff, Nat.reduceBEq, Int.reduceToNat]
    try simp (disch := omega) only [wrap_id]
    refine hJ _ _ (RunsL.call (ps := [0]) (rid := 16) rfl rfl rfl rfl rfl (by simp only [go_sem, Nat.reduceEqDiff]; first | done | rfl) (hW) rfl (by decide) ⟨by decide, by decide, rfl⟩ (by first | exact .inl rfl | exact .inr (.inl rfl) | exact .inr (.inr rfl)) ?_); clear hJ J
    rintro r os' ros ⟨rfl, rfl, rfl⟩ _
    refine RunsL.go tabOk fun J hJ => ?_
    simp only [go_sem, ↓reduceIte, Nat.reduceAdd, Nat.reduceSub, Nat.reduceMul, Nat.reduceLT, Nat.reduceLeDiff, Nat.reduceEqDiff, Nat.reduceBEq, Int.reduceToNat]
    try simp (disch := omega) only [wrap_id]
    refine hJ _ _ (RunsL.nil ?_); clear hJ J
    refine run_ ?_
    refine RunsA.rq tabOk fun J hJ => ?_
    simp only [go_sem, ↓reduceIte, Nat.reduceAdd, Nat.reduceSub, Nat.reduceMul, Nat.reduceLT, Nat.reduceLeDiff, Nat.reduceEqDiff, Nat.reduceBEq, Int.reduceToNat]
    try simp (disch := omega) only [wrap_id]
    refine hJ _ _ (RunsL.call (ps := [0]) (rid := 16) rfl rfl rfl rfl rfl (by simp only [go_sem, Nat.reduceEqDiff]; first | done | rfl) (hSee) rfl (by decide) ⟨by decide, by decide, rfl⟩ (by first | exact .inl rfl | exact .inr (.inl rfl) | exact .inr (.inr rfl)) ?_); clear hJ J
    rintro r os' ros ⟨rfl, rfl, rfl⟩ _
    refine RunsL.go tabOk fun J hJ => ?_
    simp only [go_sem, ↓reduceIte, Nat.reduceAdd, Nat.reduceSub, Nat.reduceMul, Nat.reduceLT, Nat.reduceLeDiff, Nat.reduceEqDiff, Nat.reduceBEq, Int.reduceToNat]
    try simp (disch := omega) only [wrap_id]
    refine hJ _ _ (RunsL.nil ?_); clear hJ J
    refine run_ ?_
    clear hNm hW hSee
    refine RunsA.loop ?_
    refine (LoopA.ind (fun p : RS => ⟨76, [(0, .ptr 0 [] 3 0 0), (1, .int .i64 (5 - ((d + 1 : Nat) : Int))), (4, .ptr 1280 [] 3 0 0), (5, .ptr 1536 [] 3 0 0), (6, .bool p.more)],
      [⟨0, 3, [.agg [.row .ro 3 (toksA L), .int .i64 (p.i : Nat), .bool p.b]]⟩, ⟨1280, 3, [.agg [.str [], .row .own 1 [], .row .own 3 []]]⟩, ⟨1536, 3, [.agg [.str t.s, .row .own 1 (strs p.ms), .row .own 3 []]]⟩], false⟩)
      (fun p => MS.m ⟨L.drop p.i, p.b, p.more, p.ms⟩) (fun p => i ≤ p.i ∧ p.i ≤ L.length ∧ MS.inv T L.length ⟨L.drop p.i, p.b, p.more, p.ms⟩) ?_ ⟨i2, b2, !seS L i2 b2 [41], []⟩ ?_).sub rfl ?_ ?_ rfl
    · intro p hp K3 hK3
      obtain ⟨mi, mb, more, ms⟩ := p
      obtain ⟨p1, p2, p3⟩ := hp
      simp only at p1 p2 p3 hK3 ⊢
      by_cases c : mb = false ∧ more = true
      · obtain ⟨rfl, rfl⟩ := c
        have hst := MS.stepS hM p2 p3
        have hb2 := p3.2.1
        simp only [Bool.false_eq_true, if_false] at hb2
        have hNm := rName_ok L mi false (by omega) p2
        obtain ⟨_, _, _, f4, f5⟩ := nxS_eq L mi false p2
        have hTk := rIs2_ok L (nxS L mi false).2.1 ((nxS L mi false).2.2 || (nxS L mi false).1.k != 1) [44] (by omega) f5
        have hti := tkI_le ((nxS L mi false).2.2 || (nxS L mi false).1.k != 1) [44] f5
        generalize (nxS L mi false).1 = t2 at *
        generalize (nxS L mi false).2.1 = j at *
        generalize ((nxS L mi false).2.2 || t2.k != 1) = b3 at *
        generalize tkI L j b3 [44] = j2 at *
        generalize seS L j b3 [44] = m3 at *
        clear ih hfin p3
        unfold rdO at *
        repeat' (first | refine ⟨by omega, ?_⟩ | (refine hJ _ _ (RunsL.nil ?_); clear hJ J) | refine RunsA.cond rfl (fun h => ?_) (fun h => absurd h (by decide)) | refine RunsA.cond rfl (fun h => absurd h (by decide)) (fun h => ?_) | (refine step_ ?_) | (refine RunsA.rk 11 [] tabOk fun J hJ => ?_; simp only [go_sem, ↓reduceIte, Nat.reduceAdd, Nat.reduceSub, Nat.reduceMul, Nat.reduceLT, Nat.reduceLeDiff, Nat.reduceEqDiff, Nat.reduceBEq, Int.reduceToNat, Bool.not_false]; try simp (disch := omega) only [wrap_id]) | simp only [↓reduceIte, not_false_eq_true, Bool.not_false])
        refine hJ _ _ (RunsL.call (ps := [0]) (rid := 16) rfl rfl rfl rfl rfl (by simp only [go_sem, Nat.reduceEqDiff]; first | done | rfl) (hNm) rfl (by decide) ⟨by decide, by decide, rfl⟩ (by first | exact .inl rfl | exact .inr (.inl rfl) | exact .inr (.inr rfl)) ?_); clear hJ J
        rintro r os' ros ⟨rfl, rfl, rfl⟩ _
        refine RunsL.go tabOk fun J hJ => ?_
        simp only [go_sem, ↓reduceIte, Nat.reduceAdd, Nat.reduceSub, Nat.reduceMul, Nat.reduceLT, Nat.reduceLeDiff, Nat.reduceEqDiff, Nat.reduceBEq, Int.reduceToNat]
        try simp (disch := omega) only [wrap_id]
        refine hJ _ _ (RunsL.nil ?_); clear hJ J
        repeat' (first | refine ⟨by omega, ?_⟩ | (refine hJ _ _ (RunsL.nil ?_); clear hJ J) | refine RunsA.cond rfl (fun h => ?_) (fun h => absurd h (by decide)) | refine RunsA.cond rfl (fun h => absurd h (by decide)) (fun h => ?_) | (refine step_ ?_) | (refine RunsA.rk 11 [] tabOk fun J hJ => ?_; simp only [go_sem, ↓reduceIte, Nat.reduceAdd, Nat.reduceSub, Nat.reduceMul, Nat.reduceLT, Nat.reduceLeDiff, Nat.reduceEqDiff, Nat.reduceBEq, Int.reduceToNat, strs_len, List.length_cons, List.length_nil, strs_snoc']; try simp (disch := omega) only [wrap_id]) | simp only [↓reduceIte, not_false_eq_true, strs_len, List.length_cons, List.length_nil, strs_snoc'])
        refine hJ _ _ (RunsL.call (ps := [0]) (rid := 16) rfl rfl rfl rfl rfl (by simp only [go_sem, Nat.reduceEqDiff]; first | done | rfl) (hTk) rfl (by decide) ⟨by decide, by decide, rfl⟩ (by first | exact .inl rfl | exact .inr (.inl rfl) | exact .inr (.inr rfl)) ?_); clear hJ J
        rintro r os' ros ⟨rfl, rfl, rfl⟩ _
        refine RunsL.go tabOk fun J hJ => ?_
        simp only [go_sem, ↓reduceIte, Nat.reduceAdd, Nat.reduceSub, Nat.reduceMul, Nat.reduceLT, Nat.reduceLeDiff, Nat.reduceEqDiff, Nat.reduceBEq, Int.reduceToNat]
        try simp (disch := omega) only [wrap_id]
        refine hJ _ _ (RunsL.nil ?_); clear hJ J
        refine run_ ?_
        exact hK3 ⟨j2, b3, m3, ms ++ [t2.s]⟩ _ ⟨by simp only; omega, hti.2, hst.1⟩ hst.2 rfl (by simp [SubS, lookS]) (by simp [SubO, lookO, strs_snoc', strs]) rfl
      · have h1 : mb = true → T = none := p3.2.2.1
        have h2 : mb = false → T = some (ms, L.drop mi) := fun hb => p3.2.2.2.2 hb (by
          cases more with
          | true => exact absurd ⟨hb, rfl⟩ c
          | false => rfl)
        have hfin2 := hfin ms (L.drop mi) mb h1 h2
        have hms : ms.length ≤ L.length + 1 := by
          have := p3.2.1
          simp only at this
          split at this <;> omega
        have hW5 := rMust2_ok L mi mb [41] (by omega) p2
        have hi5 := tkI_le mb [41] p2
        have hb5 : (mb || !seS L mi mb [41]) = (mb || !isM (L.drop mi) [41]) := by
          rw [seS_eq hM mi mb (by decide)]; cases mb <;> simp
        rw [hb5] at hW5
        have hd5 : (mb || !isM (L.drop mi) [41]) = false → L.drop (tkI L mi mb [41]) = tkL (L.drop mi) [41] := by
          intro hb
          cases mb with
          | true => simp at hb
          | false => exact tkI_drop hM mi (by decide)
        have hK : ∃ K, kidT d (L.drop mi) (mb || !isM (L.drop mi) [41]) = K := ⟨_, rfl⟩
        obtain ⟨K, hK⟩ := hK
        rw [hK] at hfin2
        unfold kidT at hK
        clear hb5 h1 h2 p3 hfin hTb
        have hmb : (mb = true ∧ more = true) ∨ (mb = true ∧ more = false) ∨ (mb = false ∧ more = false) := by
          cases mb <;> cases more <;> simp at c ⊢
        generalize tkI L mi mb [41] = i5 at *
        generalize (mb || !isM (L.drop mi) [41]) = b5 at *
        have hI := rIs2_ok L i5 b5 [60] (by omega) hi5.2
        have hx5 := seS_eq hM i5 b5 (c := 60) (by decide)
        have hi6 := tkI_le b5 [60] hi5.2
        have hd6 := tkI_drop hM i5 (c := 60) (by decide)
        clear c
        obtain ⟨x5, e5⟩ : ∃ x, seS L i5 b5 [60] = x := ⟨_, rfl⟩
        rw [e5] at hI hx5
        cases x5 with
        | false =>
          have hti : tkI L i5 b5 [60] = i5 := by rw [tkI, e5]; simp
          rw [hti] at hI
          have hR : RSegR (d + 1) L i b (.agg [.str t.s, .hd 100 [], .hd 101 []]) (rdO L i5 b5) [(1, strs ms), (3, segsA .own [])] := by
            refine ⟨t.s, ms, [], i5, b5, rfl, rfl, rfl, by omega, hi5.2, hms, by simp, fun hb => ?_, fun hb => ?_⟩
            · subst hb
              simp only [Bool.not_false, Bool.true_and] at hx5
              rw [hfin2, ← hK, if_neg (by simp), ← hd5 rfl, ← hx5]
              simp [tkL, ← hx5]
            · subst hb
              rw [hfin2, ← hK, if_pos rfl]; rfl
          clear hK hfin2 ih hK3 hx5 e5 hd5 hd6
          unfold rdO at *
          rcases hmb with ⟨rfl, rfl⟩ | ⟨rfl, rfl⟩ | ⟨rfl, rfl⟩
          all_goals (
            repeat' (first | refine ⟨by omega, ?_⟩ | (refine hJ _ _ (RunsL.nil ?_); clear hJ J) | refine RunsA.cond rfl (fun h => ?_) (fun h => absurd h (by decide)) | refine RunsA.cond rfl (fun h => absurd h (by decide)) (fun h => ?_) | (refine step_ ?_) | (refine RunsA.rk 11 [] tabOk fun J hJ => ?_; simp only [go_sem, ↓reduceIte, Nat.reduceAdd, Nat.reduceSub, Nat.reduceMul, Nat.reduceLT, Nat.reduceLeDiff, Nat.reduceEqDiff, Nat.reduceBEq, Int.reduceToNat, Bool.not_true, Bool.not_false]; try simp (disch := omega) only [wrap_id]) | simp only [↓reduceIte, not_false_eq_true, Bool.not_true, Bool.not_false])
            refine hJ _ _ (RunsL.call (ps := [0]) (rid := 16) rfl rfl rfl rfl rfl (by simp only [go_sem, Nat.reduceEqDiff]; first | done | rfl) (hW5) rfl (by decide) ⟨by decide, by decide, rfl⟩ (by first | exact .inl rfl | exact .inr (.inl rfl) | exact .inr (.inr rfl)) ?_); clear hJ J
            rintro r os' ros ⟨rfl, rfl, rfl⟩ _
            refine RunsL.go tabOk fun J hJ => ?_
            simp only [go_sem, ↓reduceIte, Nat.reduceAdd, Nat.reduceSub, Nat.reduceMul, Nat.reduceLT, Nat.reduceLeDiff, Nat.reduceEqDiff, Nat.reduceBEq, Int.reduceToNat]
            try simp (disch := omega) only [wrap_id]
            refine hJ _ _ (RunsL.nil ?_); clear hJ J
            refine run_ ?_
            refine RunsA.rq tabOk fun J hJ => ?_
            simp only [go_sem, ↓reduceIte, Nat.reduceAdd, Nat.reduceSub, Nat.reduceMul, Nat.reduceLT, Nat.reduceLeDiff, Nat.reduceEqDiff, Nat.reduceBEq, Int.reduceToNat]
            try simp (disch := omega) only [wrap_id]
            refine hJ _ _ (RunsL.call (ps := [0]) (rid := 16) rfl rfl rfl rfl rfl (by simp only [go_sem, Nat.reduceEqDiff]; first | done | rfl) (hI) rfl (by decide) ⟨by decide, by decide, rfl⟩ (by first | exact .inl rfl | exact .inr (.inl rfl) | exact .inr (.inr rfl)) ?_); clear hJ J
            rintro r os' ros ⟨rfl, rfl, rfl⟩ _
            refine RunsL.go tabOk fun J hJ => ?_
            simp only [go_sem, ↓reduceIte, Nat.reduceAdd, Nat.reduceSub, Nat.reduceMul, Nat.reduceLT, Nat.reduceLeDiff, Nat.reduceEqDiff, Nat.reduceBEq, Int.reduceToNat, Bool.not_false]
            try simp (disch := omega) only [wrap_id]
            refine hJ _ _ (RunsL.nil ?_); clear hJ J
            repeat' (first | refine ⟨by omega, ?_⟩ | (refine hJ _ _ (RunsL.nil ?_); clear hJ J) | refine RunsA.cond rfl (fun h => ?_) (fun h => absurd h (by decide)) | refine RunsA.cond rfl (fun h => absurd h (by decide)) (fun h => ?_) | (refine step_ ?_) | (refine RunsA.rk 11 [] tabOk fun J hJ => ?_; simp only [go_sem, ↓reduceIte, Nat.reduceAdd, Nat.reduceSub, Nat.reduceMul, Nat.reduceLT, Nat.reduceLeDiff, Nat.reduceEqDiff, Nat.reduceBEq, Int.reduceToNat, Bool.not_true, Bool.not_false]; try simp (disch := omega) only [wrap_id]) | simp only [↓reduceIte, not_false_eq_true, Bool.not_true, Bool.not_false])
            refine RetA.v tabOk rfl ?_
            simp only [go_sem, ↓reduceIte, Nat.reduceAdd, Nat.reduceSub, Nat.reduceMul, Nat.reduceLT, Nat.reduceLeDiff, Nat.reduceEqDiff, Nat.reduceBEq, Int.reduceToNat]
            refine RetV.det (id := 1280) (q := []) (i := 0) (k := 1) (tid := 100) (by simp only [go_sem, ↓reduceIte, Nat.reduceAdd, Nat.reduceSub, Nat.reduceMul, Nat.reduceLT, Nat.reduceLeDiff, Nat.reduceEqDiff, Nat.reduceBEq, Int.reduceToNat]; rfl) ?_
            simp only [go_sem, ↓reduceIte, Nat.reduceAdd, Nat.reduceSub, Nat.reduceMul, Nat.reduceLT, Nat.reduceLeDiff, Nat.reduceEqDiff, Nat.reduceBEq, Int.reduceToNat]
            refine RetV.det (id := 1280) (q := []) (i := 0) (k := 2) (tid := 101) (by simp only [go_sem, ↓reduceIte, Nat.reduceAdd, Nat.reduceSub, Nat.reduceMul, Nat.reduceLT, Nat.reduceLeDiff, Nat.reduceEqDiff, Nat.reduceBEq, Int.reduceToNat]; rfl) ?_
            simp only [go_sem, ↓reduceIte, Nat.reduceAdd, Nat.reduceSub, Nat.reduceMul, Nat.reduceLT, Nat.reduceLeDiff, Nat.reduceEqDiff, Nat.reduceBEq, Int.reduceToNat]
            exact RetV.mk 2 rfl rfl (by omega) rfl (by simp [noBoO, noBoL, noBo, noBo_segs, noBo_strs, noBo_toks]) rfl hR)
        | true =>
          have hb5f : b5 = false := by cases b5 <;> simp at hx5 ⊢
          subst hb5f
          simp only [Bool.not_false, Bool.true_and] at hx5
          have hd5 := hd5 rfl
          rw [hd5] at hd6 hx5
          rw [if_neg (by simp), if_pos hx5.symm, ← hd6] at hK
          generalize tkI L i5 false [60] = i6 at *
          have hf0 : (L.drop i6).length < (L.drop mi).length + 1 := by rw [List.length_drop, List.length_drop]; omega
          generalize (L.drop mi).length + 1 = f0 at *
          clear hd5 hd6 hx5 e5
          unfold rdO at hW5 hI
          rcases hmb with ⟨rfl, rfl⟩ | ⟨rfl, rfl⟩ | ⟨rfl, rfl⟩
          all_goals (
            repeat' (first | refine ⟨by omega, ?_⟩ | (refine hJ _ _ (RunsL.nil ?_); clear hJ J) | refine RunsA.cond rfl (fun h => ?_) (fun h => absurd h (by decide)) | refine RunsA.cond rfl (fun h => absurd h (by decide)) (fun h => ?_) | (refine step_ ?_) | (refine RunsA.rk 11 [] tabOk fun J hJ => ?_; simp only [go_sem, ↓reduceIte, Nat.reduceAdd, Nat.reduceSub, Nat.reduceMul, Nat.reduceLT, Nat.reduceLeDiff, Nat.reduceEqDiff, Nat.reduceBEq, Int.reduceToNat, Bool.not_true, Bool.not_false]; try simp (disch := omega) only [wrap_id]) | simp only [↓reduceIte, not_false_eq_true, Bool.not_true, Bool.not_false])
            refine hJ _ _ (RunsL.call (ps := [0]) (rid := 16) rfl rfl rfl rfl rfl (by simp only [go_sem, Nat.reduceEqDiff]; first | done | rfl) (hW5) rfl (by decide) ⟨by decide, by decide, rfl⟩ (by first | exact .inl rfl | exact .inr (.inl rfl) | exact .inr (.inr rfl)) ?_); clear hJ J
            rintro r os' ros ⟨rfl, rfl, rfl⟩ _
            refine RunsL.go tabOk fun J hJ => ?_
            simp only [go_sem, ↓reduceIte, Nat.reduceAdd, Nat.reduceSub, Nat.reduceMul, Nat.reduceLT, Nat.reduceLeDiff, Nat.reduceEqDiff, Nat.reduceBEq, Int.reduceToNat]
            try simp (disch := omega) only [wrap_id]
            refine hJ _ _ (RunsL.nil ?_); clear hJ J
            refine run_ ?_
            refine RunsA.rq tabOk fun J hJ => ?_
            simp only [go_sem, ↓reduceIte, Nat.reduceAdd, Nat.reduceSub, Nat.reduceMul, Nat.reduceLT, Nat.reduceLeDiff, Nat.reduceEqDiff, Nat.reduceBEq, Int.reduceToNat]
            try simp (disch := omega) only [wrap_id]
            refine hJ _ _ (RunsL.call (ps := [0]) (rid := 16) rfl rfl rfl rfl rfl (by simp only [go_sem, Nat.reduceEqDiff]; first | done | rfl) (hI) rfl (by decide) ⟨by decide, by decide, rfl⟩ (by first | exact .inl rfl | exact .inr (.inl rfl) | exact .inr (.inr rfl)) ?_); clear hJ J
            rintro r os' ros ⟨rfl, rfl, rfl⟩ _
            refine RunsL.go tabOk fun J hJ => ?_
            simp only [go_sem, ↓reduceIte, Nat.reduceAdd, Nat.reduceSub, Nat.reduceMul, Nat.reduceLT, Nat.reduceLeDiff, Nat.reduceEqDiff, Nat.reduceBEq, Int.reduceToNat, Bool.not_true]
            try simp (disch := omega) only [wrap_id]
            refine hJ _ _ (RunsL.nil ?_); clear hJ J
            repeat' (first | refine ⟨by omega, ?_⟩ | (refine hJ _ _ (RunsL.nil ?_); clear hJ J) | refine RunsA.cond rfl (fun h => ?_) (fun h => absurd h (by decide)) | refine RunsA.cond rfl (fun h => absurd h (by decide)) (fun h => ?_) | (refine step_ ?_) | (refine RunsA.rk 11 [] tabOk fun J hJ => ?_; simp only [go_sem, ↓reduceIte, Nat.reduceAdd, Nat.reduceSub, Nat.reduceMul, Nat.reduceLT, Nat.reduceLeDiff, Nat.reduceEqDiff, Nat.reduceBEq, Int.reduceToNat, Bool.not_true, Bool.not_false]; try simp (disch := omega) only [wrap_id]) | simp only [↓reduceIte, not_false_eq_true, Bool.not_true, Bool.not_false])
            refine RunsA.loop ?_
            refine (LoopA.ind (fun p : RK => ⟨76, [(0, .ptr 0 [] 3 0 0), (1, .int .i64 (5 - ((d + 1 : Nat) : Int))), (4, .ptr 1280 [] 3 0 0), (5, .ptr 1536 [] 3 0 0)],
              [⟨0, 3, [.agg [.row .ro 3 (toksA L), .int .i64 (p.i : Nat), .bool p.b]]⟩, ⟨1280, 3, [.agg [.str [], .row .own 1 [], .row .own 3 []]]⟩, ⟨1536, 3, [.agg [.str t.s, .row .own 1 (strs ms), .row .own 3 (segsA .own p.ks)]]⟩], false⟩)
              (fun p => RK.m L p) (fun p => RK.inv d L K i p) ?_ ⟨i6, false, []⟩ ?_).sub rfl ?_ ?_ rfl
            · intro p hp K4 hK4
              obtain ⟨ki, kb, ks⟩ := p
              have k1 := hp.1
              have k2 := hp.2.1
              have k3 := hp.2.2.1
              simp only at k1 k2 k3
              have hk3 : ks.length ≤ L.length + 1 := by split at k3 <;> omega
              have hMu := rMust2_ok L ki kb [62] (by omega) k2
              have hki := tkI_le kb [62] k2
              have hse := seS_eq hM ki kb (c := 62) (by decide)
              by_cases c : kb = false ∧ (ks = [] ∨ isM (L.drop ki) [62] = false)
              · obtain ⟨rfl, hc⟩ := c
                have hst := fun (x : SegV) (j : Nat) (b' : Bool) => RK.step hp hc (x := x) (j := j) (b' := b')
                have hih := ih ki false k2
                have hdm : 5 - ((d + 1 : Nat) : Int) + 1 = 5 - ((d : Nat) : Int) := by omega
                have hsee := rSee_ok L ki false [62] (by omega) k2
                clear hp hMu hK hfin2 hW5 hI
                simp only [Bool.not_false, Bool.true_and] at hse
                unfold rdO at hih hsee
                by_cases c0 : ks = []
                · subst c0
                  have e0 : segsA .own ([] : List SegV) = [] := rfl
                  repeat' (first | refine ⟨by omega, ?_⟩ | (refine hJ _ _ (RunsL.nil ?_); clear hJ J) | refine RunsA.cond rfl (fun h => ?_) (fun h => absurd h (by decide)) | refine RunsA.cond rfl (fun h => absurd h (by decide)) (fun h => ?_) | (refine step_ ?_) | (refine RunsA.rk 11 [] tabOk fun J hJ => ?_; simp only [go_sem, ↓reduceIte, Nat.reduceAdd, Nat.reduceSub, Nat.reduceMul, Nat.reduceLT, Nat.reduceLeDiff, Nat.reduceEqDiff, Nat.reduceBEq, Int.reduceToNat, Bool.not_false, hdm, e0, List.length_nil, Int.reduceBEq]; try simp (disch := omega) only [wrap_id]) | simp only [↓reduceIte, not_false_eq_true, Bool.not_false, hdm, e0, List.length_nil, Int.reduceBEq])
                  refine hJ _ _ (RunsL.call (ps := [0]) (rid := 17152) rfl rfl rfl rfl rfl (by simp only [go_sem, Nat.reduceEqDiff]; first | done | rfl) (hih) rfl (by decide) ⟨by decide, by decide, rfl⟩ (by first | exact .inl rfl | exact .inr (.inl rfl) | exact .inr (.inr rfl)) ?_); clear hJ J
                  rintro r os' ros ⟨n3, ms3, ks3, i7, b7, rfl, rfl, rfl, hl7, hl8, hm7, hk7, hg1, hg2⟩ _
                  have hst2 := hst (.mk n3 ms3 ks3) i7 b7 hl7 hl8 hg1 hg2
                  have hsn := segsA_snoc2 .own [] (.mk n3 ms3 ks3)
                  rw [segA_own, e0, List.nil_append] at hsn
                  rw [List.nil_append] at hst2
                  have hsn' := hsn.symm
                  unfold rdO at *
                  refine RunsL.go tabOk fun J hJ => ?_
                  simp only [go_sem, ↓reduceIte, Nat.reduceAdd, Nat.reduceSub, Nat.reduceMul, Nat.reduceLT, Nat.reduceLeDiff, Nat.reduceEqDiff, Nat.reduceBEq, Int.reduceToNat]
                  try simp (disch := omega) only [wrap_id]
                  (repeat refine ⟨by omega, ?_⟩)
                  refine hJ _ _ (RunsL.nil ?_); clear hJ J
                  repeat' (first | refine ⟨by omega, ?_⟩ | (refine hJ _ _ (RunsL.nil ?_); clear hJ J) | refine RunsA.cond rfl (fun h => ?_) (fun h => absurd h (by decide)) | refine RunsA.cond rfl (fun h => absurd h (by decide)) (fun h => ?_) | (refine step_ ?_) | (refine RunsA.rk 11 [] tabOk fun J hJ => ?_; simp only [go_sem, ↓reduceIte, Nat.reduceAdd, Nat.reduceSub, Nat.reduceMul, Nat.reduceLT, Nat.reduceLeDiff, Nat.reduceEqDiff, Nat.reduceBEq, Int.reduceToNat, segsA_len, List.length_cons, List.length_nil, List.nil_append]; try simp (disch := omega) only [wrap_id]) | simp only [↓reduceIte, not_false_eq_true, segsA_len, List.length_cons, List.length_nil, List.nil_append])
                  exact hK4 _ _ hst2.1 hst2.2 rfl (by simp [SubS, lookS]) (by simp [SubO, lookO, hsn]) rfl
                · have c1 : isM (L.drop ki) [62] = false := by rcases hc with hc | hc; exact absurd hc c0; exact hc
                  rw [hse, c1] at hsee
                  have hk0 : 0 < ks.length := by cases ks with
                    | nil => exact absurd rfl c0
                    | cons a r => simp
                  have q : (((ks.length : Nat) : Int) == 0) = false := beq_eq_false_iff_ne.2 (by omega)
                  have q' : (((ks.length : Nat) : Int) = 0) = False := eq_false (by omega)
                  repeat' (first | refine ⟨by omega, ?_⟩ | (refine hJ _ _ (RunsL.nil ?_); clear hJ J) | refine RunsA.cond rfl (fun h => ?_) (fun h => absurd h (by decide)) | refine RunsA.cond rfl (fun h => absurd h (by decide)) (fun h => ?_) | (refine step_ ?_) | (refine RunsA.rk 11 [] tabOk fun J hJ => ?_; simp only [go_sem, ↓reduceIte, Nat.reduceAdd, Nat.reduceSub, Nat.reduceMul, Nat.reduceLT, Nat.reduceLeDiff, Nat.reduceEqDiff, Nat.reduceBEq, Int.reduceToNat, Bool.not_false, hdm, segsA_len, q, q']; try simp (disch := omega) only [wrap_id]) | simp only [↓reduceIte, not_false_eq_true, Bool.not_false, hdm, segsA_len, q, q'])
                  refine hJ _ _ (RunsL.call (ps := [0]) (rid := 16) rfl rfl rfl rfl rfl (by simp only [go_sem, Nat.reduceEqDiff]; first | done | rfl) (hsee) rfl (by decide) ⟨by decide, by decide, rfl⟩ (by first | exact .inl rfl | exact .inr (.inl rfl) | exact .inr (.inr rfl)) ?_); clear hJ J
                  rintro r os' ros ⟨rfl, rfl, rfl⟩ _
                  refine RunsL.go tabOk fun J hJ => ?_
                  simp only [go_sem, ↓reduceIte, Nat.reduceAdd, Nat.reduceSub, Nat.reduceMul, Nat.reduceLT, Nat.reduceLeDiff, Nat.reduceEqDiff, Nat.reduceBEq, Int.reduceToNat, Bool.not_false]
                  try simp (disch := omega) only [wrap_id]
                  refine hJ _ _ (RunsL.nil ?_); clear hJ J
                  repeat' (first | refine ⟨by omega, ?_⟩ | (refine hJ _ _ (RunsL.nil ?_); clear hJ J) | refine RunsA.cond rfl (fun h => ?_) (fun h => absurd h (by decide)) | refine RunsA.cond rfl (fun h => absurd h (by decide)) (fun h => ?_) | (refine step_ ?_) | (refine RunsA.rk 11 [] tabOk fun J hJ => ?_; simp only [go_sem, ↓reduceIte, Nat.reduceAdd, Nat.reduceSub, Nat.reduceMul, Nat.reduceLT, Nat.reduceLeDiff, Nat.reduceEqDiff, Nat.reduceBEq, Int.reduceToNat, Bool.not_false, hdm]; try simp (disch := omega) only [wrap_id]) | simp only [↓reduceIte, not_false_eq_true, Bool.not_false, hdm])
                  refine hJ _ _ (RunsL.call (ps := [0]) (rid := 17152) rfl rfl rfl rfl rfl (by simp only [go_sem, Nat.reduceEqDiff]; first | done | rfl) (hih) rfl (by decide) ⟨by decide, by decide, rfl⟩ (by first | exact .inl rfl | exact .inr (.inl rfl) | exact .inr (.inr rfl)) ?_); clear hJ J
                  rintro r os' ros ⟨n3, ms3, ks3, i7, b7, rfl, rfl, rfl, hl7, hl8, hm7, hk7, hg1, hg2⟩ _
                  have hst2 := hst (.mk n3 ms3 ks3) i7 b7 hl7 hl8 hg1 hg2
                  have hsn := segsA_snoc2 .own ks (.mk n3 ms3 ks3)
                  rw [segA_own] at hsn
                  unfold rdO at *
                  refine RunsL.go tabOk fun J hJ => ?_
                  simp only [go_sem, ↓reduceIte, Nat.reduceAdd, Nat.reduceSub, Nat.reduceMul, Nat.reduceLT, Nat.reduceLeDiff, Nat.reduceEqDiff, Nat.reduceBEq, Int.reduceToNat]
                  try simp (disch := omega) only [wrap_id]
                  (repeat refine ⟨by omega, ?_⟩)
                  refine hJ _ _ (RunsL.nil ?_); clear hJ J
                  repeat' (first | refine ⟨by omega, ?_⟩ | (refine hJ _ _ (RunsL.nil ?_); clear hJ J) | refine RunsA.cond rfl (fun h => ?_) (fun h => absurd h (by decide)) | refine RunsA.cond rfl (fun h => absurd h (by decide)) (fun h => ?_) | (refine step_ ?_) | (refine RunsA.rk 11 [] tabOk fun J hJ => ?_; simp only [go_sem, ↓reduceIte, Nat.reduceAdd, Nat.reduceSub, Nat.reduceMul, Nat.reduceLT, Nat.reduceLeDiff, Nat.reduceEqDiff, Nat.reduceBEq, Int.reduceToNat, segsA_len, List.length_cons, List.length_nil, hsn]; try simp (disch := omega) only [wrap_id]) | simp only [↓reduceIte, not_false_eq_true, segsA_len, List.length_cons, List.length_nil, hsn])
                  exact hK4 _ _ hst2.1 hst2.2 rfl (by simp [SubS, lookS]) (by simp [SubO, lookO, hsn]) rfl
              · have hR : RSegR (d + 1) L i b (.agg [.str t.s, .hd 100 [], .hd 101 []]) (rdO L (tkI L ki kb [62]) (kb || !seS L ki kb [62])) [(1, strs ms), (3, segsA .own ks)] := by
                  refine ⟨t.s, ms, ks, _, _, rfl, rfl, rfl, by omega, hki.2, hms, hk3, fun hb => ?_, fun hb => ?_⟩
                  · cases kb with
                    | true => simp at hb
                    | false =>
                      simp only [Bool.not_false, Bool.true_and] at hse
                      have hb1 : isM (L.drop ki) [62] = true := by rw [← hse]; simpa using hb
                      have hne : ks ≠ [] := fun h => c ⟨rfl, .inl h⟩
                      rw [hfin2, RK.done hp hne hb1, tkI_drop hM ki (by decide)]; rfl
                  · cases kb with
                    | true => rw [hfin2, hp.2.2.2.1 rfl]; rfl
                    | false =>
                      exfalso
                      simp only [Bool.not_false, Bool.true_and] at hse
                      have hb1 : isM (L.drop ki) [62] = false := by rw [← hse]; simpa using hb
                      exact c ⟨rfl, .inr hb1⟩
                have hsee := rSee_ok L ki false [62] (by omega) k2
                generalize tkI L ki kb [62] = i9 at *
                unfold rdO at *
                cases kb with
                | true =>
                  clear hp hK hfin2 hW5 hI ih
                  repeat' (first | refine ⟨by omega, ?_⟩ | (refine hJ _ _ (RunsL.nil ?_); clear hJ J) | refine RunsA.cond rfl (fun h => ?_) (fun h => absurd h (by decide)) | refine RunsA.cond rfl (fun h => absurd h (by decide)) (fun h => ?_) | (refine step_ ?_) | (refine RunsA.rk 11 [] tabOk fun J hJ => ?_; simp only [go_sem, ↓reduceIte, Nat.reduceAdd, Nat.reduceSub, Nat.reduceMul, Nat.reduceLT, Nat.reduceLeDiff, Nat.reduceEqDiff, Nat.reduceBEq, Int.reduceToNat, Bool.not_true, Bool.not_false]; try simp (disch := omega) only [wrap_id]) | simp only [↓reduceIte, not_false_eq_true, Bool.not_true, Bool.not_false])
                  refine hJ _ _ (RunsL.call (ps := [0]) (rid := 16) rfl rfl rfl rfl rfl (by simp only [go_sem, Nat.reduceEqDiff]; first | done | rfl) (hMu) rfl (by decide) ⟨by decide, by decide, rfl⟩ (by first | exact .inl rfl | exact .inr (.inl rfl) | exact .inr (.inr rfl)) ?_); clear hJ J
                  rintro r os' ros ⟨rfl, rfl, rfl⟩ _
                  refine RunsL.go tabOk fun J hJ => ?_
                  simp only [go_sem, ↓reduceIte, Nat.reduceAdd, Nat.reduceSub, Nat.reduceMul, Nat.reduceLT, Nat.reduceLeDiff, Nat.reduceEqDiff, Nat.reduceBEq, Int.reduceToNat]
                  try simp (disch := omega) only [wrap_id]
                  refine hJ _ _ (RunsL.nil ?_); clear hJ J
                  repeat' (first | refine ⟨by omega, ?_⟩ | (refine hJ _ _ (RunsL.nil ?_); clear hJ J) | refine RunsA.cond rfl (fun h => ?_) (fun h => absurd h (by decide)) | refine RunsA.cond rfl (fun h => absurd h (by decide)) (fun h => ?_) | (refine step_ ?_) | (refine RunsA.rk 11 [] tabOk fun J hJ => ?_; simp only [go_sem, ↓reduceIte, Nat.reduceAdd, Nat.reduceSub, Nat.reduceMul, Nat.reduceLT, Nat.reduceLeDiff, Nat.reduceEqDiff, Nat.reduceBEq, Int.reduceToNat, Bool.not_true]; try simp (disch := omega) only [wrap_id]) | simp only [↓reduceIte, not_false_eq_true, Bool.not_true])
                  refine RetA.v tabOk rfl ?_
                  simp only [go_sem, ↓reduceIte, Nat.reduceAdd, Nat.reduceSub, Nat.reduceMul, Nat.reduceLT, Nat.reduceLeDiff, Nat.reduceEqDiff, Nat.reduceBEq, Int.reduceToNat]
                  refine RetV.det (id := 1280) (q := []) (i := 0) (k := 1) (tid := 100) (by simp only [go_sem, ↓reduceIte, Nat.reduceAdd, Nat.reduceSub, Nat.reduceMul, Nat.reduceLT, Nat.reduceLeDiff, Nat.reduceEqDiff, Nat.reduceBEq, Int.reduceToNat]; rfl) ?_
                  simp only [go_sem, ↓reduceIte, Nat.reduceAdd, Nat.reduceSub, Nat.reduceMul, Nat.reduceLT, Nat.reduceLeDiff, Nat.reduceEqDiff, Nat.reduceBEq, Int.reduceToNat]
                  refine RetV.det (id := 1280) (q := []) (i := 0) (k := 2) (tid := 101) (by simp only [go_sem, ↓reduceIte, Nat.reduceAdd, Nat.reduceSub, Nat.reduceMul, Nat.reduceLT, Nat.reduceLeDiff, Nat.reduceEqDiff, Nat.reduceBEq, Int.reduceToNat]; rfl) ?_
                  simp only [go_sem, ↓reduceIte, Nat.reduceAdd, Nat.reduceSub, Nat.reduceMul, Nat.reduceLT, Nat.reduceLeDiff, Nat.reduceEqDiff, Nat.reduceBEq, Int.reduceToNat]
                  exact RetV.mk 2 rfl rfl (by omega) rfl (by simp [noBoO, noBoL, noBo, noBo_segs, noBo_strs, noBo_toks]) rfl hR
                | false =>
                  simp only [Bool.not_false, Bool.true_and] at hse
                  have hne : ks ≠ [] := fun h => c ⟨rfl, .inl h⟩
                  have hb1 : isM (L.drop ki) [62] = true := by
                    cases h : isM (L.drop ki) [62] with
                    | true => rfl
                    | false => exact absurd ⟨rfl, .inr h⟩ c
                  rw [hse, hb1] at hsee
                  have hk0 : 0 < ks.length := by cases ks with
                    | nil => exact absurd rfl hne
                    | cons a r => simp
                  have q : (((ks.length : Nat) : Int) == 0) = false := beq_eq_false_iff_ne.2 (by omega)
                  have q' : (((ks.length : Nat) : Int) = 0) = False := eq_false (by omega)
                  clear hp hK hfin2 hW5 hI ih
                  repeat' (first | refine ⟨by omega, ?_⟩ | (refine hJ _ _ (RunsL.nil ?_); clear hJ J) | refine RunsA.cond rfl (fun h => ?_) (fun h => absurd h (by decide)) | refine RunsA.cond rfl (fun h => absurd h (by decide)) (fun h => ?_) | (refine step_ ?_) | (refine RunsA.rk 11 [] tabOk fun J hJ => ?_; simp only [go_sem, ↓reduceIte, Nat.reduceAdd, Nat.reduceSub, Nat.reduceMul, Nat.reduceLT, Nat.reduceLeDiff, Nat.reduceEqDiff, Nat.reduceBEq, Int.reduceToNat, Bool.not_false, segsA_len, q, q']; try simp (disch := omega) only [wrap_id]) | simp only [↓reduceIte, not_false_eq_true, Bool.not_false, segsA_len, q, q'])
                  refine hJ _ _ (RunsL.call (ps := [0]) (rid := 16) rfl rfl rfl rfl rfl (by simp only [go_sem, Nat.reduceEqDiff]; first | done | rfl) (hsee) rfl (by decide) ⟨by decide, by decide, rfl⟩ (by first | exact .inl rfl | exact .inr (.inl rfl) | exact .inr (.inr rfl)) ?_); clear hJ J
                  rintro r os' ros ⟨rfl, rfl, rfl⟩ _
                  refine RunsL.go tabOk fun J hJ => ?_
                  simp only [go_sem, ↓reduceIte, Nat.reduceAdd, Nat.reduceSub, Nat.reduceMul, Nat.reduceLT, Nat.reduceLeDiff, Nat.reduceEqDiff, Nat.reduceBEq, Int.reduceToNat, Bool.not_true]
                  try simp (disch := omega) only [wrap_id]
                  refine hJ _ _ (RunsL.nil ?_); clear hJ J
                  repeat' (first | refine ⟨by omega, ?_⟩ | (refine hJ _ _ (RunsL.nil ?_); clear hJ J) | refine RunsA.cond rfl (fun h => ?_) (fun h => absurd h (by decide)) | refine RunsA.cond rfl (fun h => absurd h (by decide)) (fun h => ?_) | (refine step_ ?_) | (refine RunsA.rk 11 [] tabOk fun J hJ => ?_; simp only [go_sem, ↓reduceIte, Nat.reduceAdd, Nat.reduceSub, Nat.reduceMul, Nat.reduceLT, Nat.reduceLeDiff, Nat.reduceEqDiff, Nat.reduceBEq, Int.reduceToNat, Bool.not_true]; try simp (disch := omega) only [wrap_id]) | simp only [↓reduceIte, not_false_eq_true, Bool.not_true])
                  refine hJ _ _ (RunsL.call (ps := [0]) (rid := 16) rfl rfl rfl rfl rfl (by simp only [go_sem, Nat.reduceEqDiff]; first | done | rfl) (hMu) rfl (by decide) ⟨by decide, by decide, rfl⟩ (by first | exact .inl rfl | exact .inr (.inl rfl) | exact .inr (.inr rfl)) ?_); clear hJ J
                  rintro r os' ros ⟨rfl, rfl, rfl⟩ _
                  refine RunsL.go tabOk fun J hJ => ?_
                  simp only [go_sem, ↓reduceIte, Nat.reduceAdd, Nat.reduceSub, Nat.reduceMul, Nat.reduceLT, Nat.reduceLeDiff, Nat.reduceEqDiff, Nat.reduceBEq, Int.reduceToNat]
                  try simp (disch := omega) only [wrap_id]
                  refine hJ _ _ (RunsL.nil ?_); clear hJ J
                  repeat' (first | refine ⟨by omega, ?_⟩ | (refine hJ _ _ (RunsL.nil ?_); clear hJ J) | refine RunsA.cond rfl (fun h => ?_) (fun h => absurd h (by decide)) | refine RunsA.cond rfl (fun h => absurd h (by decide)) (fun h => ?_) | (refine step_ ?_) | (refine RunsA.rk 11 [] tabOk fun J hJ => ?_; simp only [go_sem, ↓reduceIte, Nat.reduceAdd, Nat.reduceSub, Nat.reduceMul, Nat.reduceLT, Nat.reduceLeDiff, Nat.reduceEqDiff, Nat.reduceBEq, Int.reduceToNat, Bool.not_true]; try simp (disch := omega) only [wrap_id]) | simp only [↓reduceIte, not_false_eq_true, Bool.not_true])
                  refine RetA.v tabOk rfl ?_
                  simp only [go_sem, ↓reduceIte, Nat.reduceAdd, Nat.reduceSub, Nat.reduceMul, Nat.reduceLT, Nat.reduceLeDiff, Nat.reduceEqDiff, Nat.reduceBEq, Int.reduceToNat]
                  refine RetV.det (id := 1280) (q := []) (i := 0) (k := 1) (tid := 100) (by simp only [go_sem, ↓reduceIte, Nat.reduceAdd, Nat.reduceSub, Nat.reduceMul, Nat.reduceLT, Nat.reduceLeDiff, Nat.reduceEqDiff, Nat.reduceBEq, Int.reduceToNat]; rfl) ?_
                  simp only [go_sem, ↓reduceIte, Nat.reduceAdd, Nat.reduceSub, Nat.reduceMul, Nat.reduceLT, Nat.reduceLeDiff, Nat.reduceEqDiff, Nat.reduceBEq, Int.reduceToNat]
                  refine RetV.det (id := 1280) (q := []) (i := 0) (k := 2) (tid := 101) (by simp only [go_sem, ↓reduceIte, Nat.reduceAdd, Nat.reduceSub, Nat.reduceMul, Nat.reduceLT, Nat.reduceLeDiff, Nat.reduceEqDiff, Nat.reduceBEq, Int.reduceToNat]; rfl) ?_
                  simp only [go_sem, ↓reduceIte, Nat.reduceAdd, Nat.reduceSub, Nat.reduceMul, Nat.reduceLT, Nat.reduceLeDiff, Nat.reduceEqDiff, Nat.reduceBEq, Int.reduceToNat]
                  exact RetV.mk 2 rfl rfl (by omega) rfl (by simp [noBoO, noBoL, noBo, noBo_segs, noBo_strs, noBo_toks]) rfl hR
            · refine ⟨by simp only; omega, by simp only; omega, by simp, fun hb => (by cases hb), fun _ => ?_⟩
              simp only [if_true]
              refine ⟨by simp only [List.length_drop]; omega, by simp only [List.length_nil, List.length_drop]; omega, fun hb => (by cases hb), fun _ _ => ⟨f0, hf0, ?_⟩, fun _ hb => (by cases hb)⟩
              simp only [List.nil_append]
              rw [← hK]
              cases kidsP (segP d) f0 (L.drop i6) <;> rfl
            · simp [SubS, lookS]
            · simp [SubO, lookO, segsA])
    · refine ⟨by simp only; omega, hi2.2, ?_⟩
      simp only [hs2]
      refine ⟨by simp only [List.length_drop]; omega, by simp only [List.length_nil, List.length_drop]; omega, fun hc => ?_, fun hb hc => ?_, fun hb hc => ?_⟩
      · simp only at hc
        rw [hTb, modT, if_pos hc]
      · simp only at hb hc
        subst hb
        simp only [Bool.not_false, Bool.true_and, Bool.not_eq_true'] at hc
        rw [hTb, modT, if_neg (by simp), if_neg (by rw [hc]; simp)]
        cases modsP (L.drop i2) <;> rfl
      · simp only at hb hc
        subst hb
        simp only [Bool.not_false, Bool.true_and, Bool.not_eq_false'] at hc
        rw [hTb, modT, if_neg (by simp), if_pos hc]
    · simp [SubS, lookS]
    · simp [SubO, lookO, strs]
end Go.Proofs.YtiilnlihimdnlaaGreatDoorFw
