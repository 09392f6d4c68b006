/- Trees of segments out of texts: the reference's ParseSeg. -/
import Derived.Test.YtiilnlihimdnlaaGreatDoorIO
import Derived.Test.YtiilnlihimdnlaaGreatDoorS8
namespace Go.Proofs.YtiilnlihimdnlaaGreatDoorFw
open Go Go.RowKit
set_option linter.unusedVariables false
set_option linter.unusedSimpArgs false
set_option maxRecDepth 4000
set_option pp.deepTerms.threshold 6
set_option pp.deepTerms false
set_option maxHeartbeats 8000000 in
theorem parseSegs_ok (s : Str) (hl : s.length ≤ 1048576) : FnA Tryz.prog 6 false [.str s] [] (fun r os ros => PSR (parseSegV s) r os ros) := by
  have hLex := lexS_ok s (by omega)
  have hll : ((lexV s).getD []).length ≤ 1048576 := by
    cases e : lexV s with
    | none => simp
    | some l => have := (lexV_facts e).2.2; simp only [Option.getD_some]; omega
  have hmk : MarkOk ((lexV s).getD []) := by
    cases e : lexV s with
    | none => intro t ht; simp at ht
    | some l => exact markOk_of (lexV_facts e).1
  have htot := fun x l' => segQ_tot (s := s) (x := x) (l' := l')
  have hSeg := rSeg_ok ((lexV s).getD []) hll hmk 4 (by omega) 0 (!(lexV s).isSome) (Nat.zero_le _)
  have e51 : (5 - ((4 : Nat) : Int)) = 1 := by decide
  rw [e51] at hSeg
  obtain ⟨P, hP⟩ : ∃ P, parseSegV s = P := ⟨_, rfl⟩
  rw [hP]
  unfold parseSegV at hP
  unfold RSegR at hSeg
  simp only [List.drop_zero] at hSeg
  generalize segQ 4 ((lexV s).getD []) (!(lexV s).isSome) = Q at *
  generalize (lexV s).getD [] = l at *
  generalize (lexV s).isSome = ok at *
  refine FnA.of Tryz.func6 rfl (by decide) Tryz.ntmps6 (by simp) ?_
  unfold rdO at hSeg
  refine run_ ?_
  refine RunsA.rq tabOk fun J hJ => ?_
  simp only [go_sem, ↓reduceIte, Nat.reduceAdd, Nat.reduceSub, Nat.reduceMul, Nat.reduceLT, Nat.reduceLeDiff, Nat.reduceEqDiff, Nat.reduceBEq, Int.reduceToNat]
  try simp (disch := omega) only [wrap_id]
  refine hJ _ _ (RunsL.call (ps := []) (rid := 2816) rfl rfl rfl rfl rfl (by simp only [go_sem, Nat.reduceEqDiff]; first | done | rfl) (hLex) rfl (by decide) ⟨by decide, by decide, rfl⟩ (by first | exact .inl rfl | exact .inr (.inl rfl) | exact .inr (.inr rfl)) ?_); clear hJ J
  rintro r os' ros ⟨rfl, rfl, rfl⟩ _
  refine RunsL.go tabOk fun J hJ => ?_
  simp only [go_sem, ↓reduceIte, Nat.reduceAdd, Nat.reduceSub, Nat.reduceMul, Nat.reduceLT, Nat.reduceLeDiff, Nat.reduceEqDiff, Nat.reduceBEq, Int.reduceToNat]
  try simp (disch := omega) only [wrap_id]
  refine hJ _ _ (RunsL.nil ?_); clear hJ J
  refine At.n ?_
  refine RunsA.sq ?_
  refine RunsA.ghost (GhostStep.freeze (id := 2816) rfl (noBo_toks _)) ?_
  simp only [go_sem, ↓reduceIte, Nat.reduceAdd, Nat.reduceSub, Nat.reduceMul, Nat.reduceLT, Nat.reduceLeDiff, Nat.reduceEqDiff, Nat.reduceBEq, Int.reduceToNat, frzS, frzV, frzVL, frzL_toks, dropO]
  refine run_ ?_
  refine RunsA.rq tabOk fun J hJ => ?_
  simp only [go_sem, ↓reduceIte, Nat.reduceAdd, Nat.reduceSub, Nat.reduceMul, Nat.reduceLT, Nat.reduceLeDiff, Nat.reduceEqDiff, Nat.reduceBEq, Int.reduceToNat]
  try simp (disch := omega) only [wrap_id]
  refine hJ _ _ (RunsL.call (ps := [4608]) (rid := 5120) rfl rfl rfl rfl rfl (by simp only [go_sem, Nat.reduceEqDiff]; first | done | rfl) (hSeg) rfl (by decide) ⟨by decide, by decide, rfl⟩ (by first | exact .inl rfl | exact .inr (.inl rfl) | exact .inr (.inr rfl)) ?_); clear hJ J
  rintro r os' ros ⟨n, ms, ks, i', b', rfl, rfl, rfl, _, hi', hm', hk', hg1, hg2⟩ _
  refine RunsL.go tabOk fun J hJ => ?_
  simp only [go_sem, ↓reduceIte, Nat.reduceAdd, Nat.reduceSub, Nat.reduceMul, Nat.reduceLT, Nat.reduceLeDiff, Nat.reduceEqDiff, Nat.reduceBEq, Int.reduceToNat]
  try simp (disch := omega) only [wrap_id]
  refine hJ _ _ (RunsL.nil ?_); clear hJ J
  refine run_ ?_
  by_cases hd : b' = false ∧ i' = l.length
  · obtain ⟨rfl, rfl⟩ := hd
    have hQ := hg1 rfl
    rw [List.drop_length] at hQ
    subst hQ
    have hOk := segOks_ok (.mk n ms ks) (by have := htot _ _ rfl; omega)
    rw [segA_mk] at hOk
    simp only [true_and] at hP
    have q : (((l.length : Nat) : Int) != ((l.length : Nat) : Int)) = false := by simp
    by_cases cs : SegOkP (.mk n ms ks)
    · rw [decide_eq_true cs] at hOk
      rw [if_pos cs] at hP
      have hR : PSR P (.tup [.agg [.str n, .hd 100 [], .hd 101 []], .bool true]) [] [(1, strs ms), (3, segsA .own ks)] := ⟨n, ms, ks, by rw [← hP]; rfl, rfl, rfl, by rw [← hP]; rfl⟩
      clear hP
      refine RunsA.rq tabOk fun J hJ => ?_
      simp only [go_sem, ↓reduceIte, Nat.reduceAdd, Nat.reduceSub, Nat.reduceMul, Nat.reduceLT, Nat.reduceLeDiff, Nat.reduceEqDiff, Nat.reduceBEq, Int.reduceToNat, toksA_len, q]
      try simp (disch := omega) only [wrap_id]
      refine hJ _ _ (RunsL.call (ps := []) (rid := 16) rfl rfl rfl rfl rfl (by simp only [go_sem, Nat.reduceEqDiff, brw_strs, brw_segs]; first | done | rfl) (hOk) rfl (by decide) ⟨by decide, by decide, rfl⟩ (by first | exact .inl rfl | exact .inr (.inl rfl) | exact .inr (.inr rfl)) ?_); clear hJ J
      rintro r os' ros ⟨rfl, rfl, rfl⟩ _
      refine RunsL.go tabOk fun J hJ => ?_
      simp only [go_sem, ↓reduceIte, Nat.reduceAdd, Nat.reduceSub, Nat.reduceMul, Nat.reduceLT, Nat.reduceLeDiff, Nat.reduceEqDiff, Nat.reduceBEq, Int.reduceToNat, Bool.not_true]
      try simp (disch := omega) only [wrap_id]
      refine hJ _ _ (RunsL.nil ?_); clear hJ J
      repeat' (first | refine ⟨by omega, ?_⟩ | (refine hJ _ _ (RunsL.nil ?_); clear hJ J) | refine RunsA.cond rfl (fun h => ?_) (fun h => absurd h (by decide)) | refine RunsA.cond rfl (fun h => absurd h (by decide)) (fun h => ?_) | (refine step_ ?_) | (refine RunsA.rk 9 [] tabOk fun J hJ => ?_; simp only [go_sem, ↓reduceIte, Nat.reduceAdd, Nat.reduceSub, Nat.reduceMul, Nat.reduceLT, Nat.reduceLeDiff, Nat.reduceEqDiff, Nat.reduceBEq, Int.reduceToNat, Bool.not_true]; try simp (disch := omega) only [wrap_id]) | simp only [↓reduceIte, not_false_eq_true, Bool.not_true])
      refine RetA.v tabOk rfl ?_
      simp only [go_sem, ↓reduceIte, Nat.reduceAdd, Nat.reduceSub, Nat.reduceMul, Nat.reduceLT, Nat.reduceLeDiff, Nat.reduceEqDiff, Nat.reduceBEq, Int.reduceToNat]
      refine RetV.det (id := 768) (q := []) (i := 0) (k := 1) (tid := 100) (by simp only [go_sem, ↓reduceIte, Nat.reduceAdd, Nat.reduceSub, Nat.reduceMul, Nat.reduceLT, Nat.reduceLeDiff, Nat.reduceEqDiff, Nat.reduceBEq, Int.reduceToNat]; rfl) ?_
      simp only [go_sem, ↓reduceIte, Nat.reduceAdd, Nat.reduceSub, Nat.reduceMul, Nat.reduceLT, Nat.reduceLeDiff, Nat.reduceEqDiff, Nat.reduceBEq, Int.reduceToNat]
      refine RetV.det (id := 768) (q := []) (i := 0) (k := 2) (tid := 101) (by simp only [go_sem, ↓reduceIte, Nat.reduceAdd, Nat.reduceSub, Nat.reduceMul, Nat.reduceLT, Nat.reduceLeDiff, Nat.reduceEqDiff, Nat.reduceBEq, Int.reduceToNat]; rfl) ?_
      simp only [go_sem, ↓reduceIte, Nat.reduceAdd, Nat.reduceSub, Nat.reduceMul, Nat.reduceLT, Nat.reduceLeDiff, Nat.reduceEqDiff, Nat.reduceBEq, Int.reduceToNat]
      exact RetV.mk 2 rfl rfl (by omega) rfl (by simp [noBoO, noBoL, noBo, noBo_segs, noBo_strs, noBo_toks]) rfl hR
    · rw [decide_eq_false cs] at hOk
      rw [if_neg cs] at hP
      have hR : PSR P (.tup [.agg [.str [], .hd 100 [], .hd 101 []], .bool false]) [] [(1, strs []), (3, segsA .own [])] := ⟨[], [], [], by rw [← hP]; rfl, rfl, rfl, by rw [← hP]; rfl⟩
      clear hP
      refine RunsA.rq tabOk fun J hJ => ?_
      simp only [go_sem, ↓reduceIte, Nat.reduceAdd, Nat.reduceSub, Nat.reduceMul, Nat.reduceLT, Nat.reduceLeDiff, Nat.reduceEqDiff, Nat.reduceBEq, Int.reduceToNat, toksA_len, q]
      try simp (disch := omega) only [wrap_id]
      refine hJ _ _ (RunsL.call (ps := []) (rid := 16) rfl rfl rfl rfl rfl (by simp only [go_sem, Nat.reduceEqDiff, brw_strs, brw_segs]; first | done | rfl) (hOk) rfl (by decide) ⟨by decide, by decide, rfl⟩ (by first | exact .inl rfl | exact .inr (.inl rfl) | exact .inr (.inr rfl)) ?_); clear hJ J
      rintro r os' ros ⟨rfl, rfl, rfl⟩ _
      refine RunsL.go tabOk fun J hJ => ?_
      simp only [go_sem, ↓reduceIte, Nat.reduceAdd, Nat.reduceSub, Nat.reduceMul, Nat.reduceLT, Nat.reduceLeDiff, Nat.reduceEqDiff, Nat.reduceBEq, Int.reduceToNat, Bool.not_false]
      try simp (disch := omega) only [wrap_id]
      refine hJ _ _ (RunsL.nil ?_); clear hJ J
      repeat' (first | refine ⟨by omega, ?_⟩ | (refine hJ _ _ (RunsL.nil ?_); clear hJ J) | refine RunsA.cond rfl (fun h => ?_) (fun h => absurd h (by decide)) | refine RunsA.cond rfl (fun h => absurd h (by decide)) (fun h => ?_) | (refine step_ ?_) | (refine RunsA.rk 9 [] tabOk fun J hJ => ?_; simp only [go_sem, ↓reduceIte, Nat.reduceAdd, Nat.reduceSub, Nat.reduceMul, Nat.reduceLT, Nat.reduceLeDiff, Nat.reduceEqDiff, Nat.reduceBEq, Int.reduceToNat, Bool.not_false]; try simp (disch := omega) only [wrap_id]) | simp only [↓reduceIte, not_false_eq_true, Bool.not_false])
      refine RetA.v tabOk rfl ?_
      simp only [go_sem, ↓reduceIte, Nat.reduceAdd, Nat.reduceSub, Nat.reduceMul, Nat.reduceLT, Nat.reduceLeDiff, Nat.reduceEqDiff, Nat.reduceBEq, Int.reduceToNat]
      refine RetV.det (id := 768) (q := []) (i := 0) (k := 1) (tid := 100) (by simp only [go_sem, ↓reduceIte, Nat.reduceAdd, Nat.reduceSub, Nat.reduceMul, Nat.reduceLT, Nat.reduceLeDiff, Nat.reduceEqDiff, Nat.reduceBEq, Int.reduceToNat]; rfl) ?_
      simp only [go_sem, ↓reduceIte, Nat.reduceAdd, Nat.reduceSub, Nat.reduceMul, Nat.reduceLT, Nat.reduceLeDiff, Nat.reduceEqDiff, Nat.reduceBEq, Int.reduceToNat]
      refine RetV.det (id := 768) (q := []) (i := 0) (k := 2) (tid := 101) (by simp only [go_sem, ↓reduceIte, Nat.reduceAdd, Nat.reduceSub, Nat.reduceMul, Nat.reduceLT, Nat.reduceLeDiff, Nat.reduceEqDiff, Nat.reduceBEq, Int.reduceToNat]; rfl) ?_
      simp only [go_sem, ↓reduceIte, Nat.reduceAdd, Nat.reduceSub, Nat.reduceMul, Nat.reduceLT, Nat.reduceLeDiff, Nat.reduceEqDiff, Nat.reduceBEq, Int.reduceToNat]
      exact RetV.mk 2 rfl rfl (by omega) rfl (by simp [noBoO, noBoL, noBo, noBo_segs, noBo_strs, noBo_toks]) rfl hR
  · have hPn : P = none := by
      cases b' with
      | true => rw [← hP, hg2 rfl]
      | false =>
        rw [← hP, hg1 rfl]
        simp only
        rw [if_neg (fun h => hd ⟨rfl, by
          have := congrArg List.length h.1
          rw [List.length_drop, List.length_nil] at this
          omega⟩)]
    have hR : PSR P (.tup [.agg [.str [], .hd 100 [], .hd 101 []], .bool false]) [] [(1, strs []), (3, segsA .own [])] := ⟨[], [], [], by rw [hPn]; rfl, rfl, rfl, by rw [hPn]; rfl⟩
    clear hP hPn hg1 hg2
    cases b' with
    | true =>
      repeat' (first | refine ⟨by omega, ?_⟩ | (refine hJ _ _ (RunsL.nil ?_); clear hJ J) | refine RunsA.cond rfl (fun h => ?_) (fun h => absurd h (by decide)) | refine RunsA.cond rfl (fun h => absurd h (by decide)) (fun h => ?_) | (refine step_ ?_) | (refine RunsA.rk 9 [] tabOk fun J hJ => ?_; simp only [go_sem, ↓reduceIte, Nat.reduceAdd, Nat.reduceSub, Nat.reduceMul, Nat.reduceLT, Nat.reduceLeDiff, Nat.reduceEqDiff, Nat.reduceBEq, Int.reduceToNat, toksA_len]; try simp (disch := omega) only [wrap_id]) | simp only [↓reduceIte, not_false_eq_true, toksA_len])
      refine RetA.v tabOk rfl ?_
      simp only [go_sem, ↓reduceIte, Nat.reduceAdd, Nat.reduceSub, Nat.reduceMul, Nat.reduceLT, Nat.reduceLeDiff, Nat.reduceEqDiff, Nat.reduceBEq, Int.reduceToNat]
      refine RetV.det (id := 768) (q := []) (i := 0) (k := 1) (tid := 100) (by simp only [go_sem, ↓reduceIte, Nat.reduceAdd, Nat.reduceSub, Nat.reduceMul, Nat.reduceLT, Nat.reduceLeDiff, Nat.reduceEqDiff, Nat.reduceBEq, Int.reduceToNat]; rfl) ?_
      simp only [go_sem, ↓reduceIte, Nat.reduceAdd, Nat.reduceSub, Nat.reduceMul, Nat.reduceLT, Nat.reduceLeDiff, Nat.reduceEqDiff, Nat.reduceBEq, Int.reduceToNat]
      refine RetV.det (id := 768) (q := []) (i := 0) (k := 2) (tid := 101) (by simp only [go_sem, ↓reduceIte, Nat.reduceAdd, Nat.reduceSub, Nat.reduceMul, Nat.reduceLT, Nat.reduceLeDiff, Nat.reduceEqDiff, Nat.reduceBEq, Int.reduceToNat]; rfl) ?_
      simp only [go_sem, ↓reduceIte, Nat.reduceAdd, Nat.reduceSub, Nat.reduceMul, Nat.reduceLT, Nat.reduceLeDiff, Nat.reduceEqDiff, Nat.reduceBEq, Int.reduceToNat]
      exact RetV.mk 2 rfl rfl (by omega) rfl (by simp [noBoO, noBoL, noBo, noBo_segs, noBo_strs, noBo_toks]) rfl hR
    | false =>
      have hne : i' ≠ l.length := fun h => hd ⟨rfl, h⟩
      have q : (((i' : Nat) : Int) != ((l.length : Nat) : Int)) = true := bne_iff_ne.2 (by omega)
      have q' : (((i' : Nat) : Int) = ((l.length : Nat) : Int)) = False := eq_false (by omega)
      repeat' (first | refine ⟨by omega, ?_⟩ | (refine hJ _ _ (RunsL.nil ?_); clear hJ J) | refine RunsA.cond rfl (fun h => ?_) (fun h => absurd h (by decide)) | refine RunsA.cond rfl (fun h => absurd h (by decide)) (fun h => ?_) | (refine step_ ?_) | (refine RunsA.rk 9 [] tabOk fun J hJ => ?_; simp only [go_sem, ↓reduceIte, Nat.reduceAdd, Nat.reduceSub, Nat.reduceMul, Nat.reduceLT, Nat.reduceLeDiff, Nat.reduceEqDiff, Nat.reduceBEq, Int.reduceToNat, toksA_len, q, q']; try simp (disch := omega) only [wrap_id]) | simp only [↓reduceIte, not_false_eq_true, toksA_len, q, q'])
      refine RetA.v tabOk rfl ?_
      simp only [go_sem, ↓reduceIte, Nat.reduceAdd, Nat.reduceSub, Nat.reduceMul, Nat.reduceLT, Nat.reduceLeDiff, Nat.reduceEqDiff, Nat.reduceBEq, Int.reduceToNat]
      refine RetV.det (id := 768) (q := []) (i := 0) (k := 1) (tid := 100) (by simp only [go_sem, ↓reduceIte, Nat.reduceAdd, Nat.reduceSub, Nat.reduceMul, Nat.reduceLT, Nat.reduceLeDiff, Nat.reduceEqDiff, Nat.reduceBEq, Int.reduceToNat]; rfl) ?_
      simp only [go_sem, ↓reduceIte, Nat.reduceAdd, Nat.reduceSub, Nat.reduceMul, Nat.reduceLT, Nat.reduceLeDiff, Nat.reduceEqDiff, Nat.reduceBEq, Int.reduceToNat]
      refine RetV.det (id := 768) (q := []) (i := 0) (k := 2) (tid := 101) (by simp only [go_sem, ↓reduceIte, Nat.reduceAdd, Nat.reduceSub, Nat.reduceMul, Nat.reduceLT, Nat.reduceLeDiff, Nat.reduceEqDiff, Nat.reduceBEq, Int.reduceToNat]; rfl) ?_
      simp only [go_sem, ↓reduceIte, Nat.reduceAdd, Nat.reduceSub, Nat.reduceMul, Nat.reduceLT, Nat.reduceLeDiff, Nat.reduceEqDiff, Nat.reduceBEq, Int.reduceToNat]
      exact RetV.mk 2 rfl rfl (by omega) rfl (by simp [noBoO, noBoL, noBo, noBo_segs, noBo_strs, noBo_toks]) rfl hR
end Go.Proofs.YtiilnlihimdnlaaGreatDoorFw
