/- Trees of segments out of texts: the program's ParseSeg. -/
import Derived.Test.YtiilnlihimdnlaaGreatDoorIN
import Derived.Test.YtiilnlihimdnlaaGreatDoorS4
namespace Go.Proofs.YtiilnlihimdnlaaGreatDoorFw
open Go Go.RowKit
set_option linter.unusedVariables false
set_option linter.unusedSimpArgs false
set_option maxRecDepth 4000
set_option pp.deepTerms.threshold 6
set_option pp.deepTerms false
theorem frzL_toks : ∀ l : List TokV, frzL (toksA l) = toksA l
  | [] => rfl
  | t :: r => by
    have := frzL_toks r
    simp only [toksA, List.map_cons, frzL, tokA, frz] at *
    rw [this]
open Classical in
noncomputable def parseSegV (s : Str) : Option SegV := match segQ 4 ((lexV s).getD []) (!(lexV s).isSome) with
  | some p => if p.2 = [] ∧ SegOkP p.1 then some p.1 else none
  | none => none
def PSR (o : Option SegV) (r : AV) (os ros : List (Nat × List AV)) : Prop := ∃ (n : Str) (ms : List Str) (ks : List SegV), r = .tup [.agg [.str n, .hd 100 [], .hd 101 []], .bool o.isSome] ∧ os = [] ∧ ros = [(1, strs ms), (3, segsA .own ks)] ∧ SegV.mk n ms ks = o.getD (.mk [] [] [])
theorem segQ_tot {s : Str} {x : SegV} {l' : List TokV} (h : segQ 4 ((lexV s).getD []) (!(lexV s).isSome) = some (x, l')) : x.tot ≤ s.length := by
  unfold segQ at h
  cases e : lexV s with
  | none => rw [e] at h; simp at h
  | some l =>
    rw [e] at h
    simp only [Option.isSome_some, Bool.not_true, Bool.false_eq_true, if_false, Option.getD_some] at h
    have h1 := segP_w 4 l _ h
    have h2 := (lexV_facts e).2.1
    simp only at h1
    omega
set_option maxHeartbeats 8000000 in
theorem parseSegi_ok (s : Str) (hl : s.length ≤ 1048576) : FnA Tryz.prog 7 false [.str s] [] (fun r os ros => PSR (parseSegV s) r os ros) := by
  have hLex := lexI_ok s (by omega)
  have hll : ((lexV s).getD []).length ≤ 1048576 := by
    cases e : lexV s with
    | none => simp
    | some l => have := (lexV_facts e).2.2; simp only [Option.getD_some]; omega
  have htot := fun x l' => segQ_tot (s := s) (x := x) (l' := l')
  have hSeg := pSeg_ok 4 (by omega) ((lexV s).getD []) (!(lexV s).isSome) hll
  obtain ⟨P, hP⟩ : ∃ P, parseSegV s = P := ⟨_, rfl⟩
  rw [hP]
  unfold parseSegV at hP
  unfold PSegR at hSeg
  generalize segQ 4 ((lexV s).getD []) (!(lexV s).isSome) = Q at *
  generalize (lexV s).getD [] = l at *
  generalize (lexV s).isSome = ok at *
  refine FnA.of Tryz.func7 rfl (by decide) Tryz.ntmps7 (by simp) ?_
  unfold prO at hSeg
  refine run_ ?_
  refine RunsA.rq tabOk fun J hJ => ?_
  simp only [go_sem, ↓reduceIte, Nat.reduceAdd, Nat.reduceSub, Nat.reduceMul, Nat.reduceLT, Nat.reduceLeDiff, Nat.reduceEqDiff, Nat.reduceBEq, Int.reduceToNat]
  try simp (disch := omega) only [wrap_id]
  refine hJ _ _ (RunsL.call (ps := []) (rid := 2816) rfl rfl rfl rfl rfl (by simp only [go_sem, Nat.reduceEqDiff]; first | done | rfl) (hLex) rfl (by decide) ⟨by decide, by decide, rfl⟩ (by first | exact .inl rfl | exact .inr (.inl rfl) | exact .inr (.inr rfl)) ?_); clear hJ J
  rintro r os' ros ⟨rfl, rfl, rfl⟩ _
  refine RunsL.go tabOk fun J hJ => ?_
  simp only [go_sem, ↓reduceIte, Nat.reduceAdd, Nat.reduceSub, Nat.reduceMul, Nat.reduceLT, Nat.reduceLeDiff, Nat.reduceEqDiff, Nat.reduceBEq, Int.reduceToNat]
  try simp (disch := omega) only [wrap_id]
  refine hJ _ _ (RunsL.nil ?_); clear hJ J
  refine At.n ?_
  refine RunsA.sq ?_
  refine RunsA.ghost (GhostStep.freeze (id := 2816) rfl (noBo_toks _)) ?_
  simp only [go_sem, ↓reduceIte, Nat.reduceAdd, Nat.reduceSub, Nat.reduceMul, Nat.reduceLT, Nat.reduceLeDiff, Nat.reduceEqDiff, Nat.reduceBEq, Int.reduceToNat, frzS, frzV, frzVL, frzL_toks, dropO]
  refine run_ ?_
  refine RunsA.rq tabOk fun J hJ => ?_
  simp only [go_sem, ↓reduceIte, Nat.reduceAdd, Nat.reduceSub, Nat.reduceMul, Nat.reduceLT, Nat.reduceLeDiff, Nat.reduceEqDiff, Nat.reduceBEq, Int.reduceToNat]
  try simp (disch := omega) only [wrap_id]
  refine hJ _ _ (RunsL.call (ps := [4608]) (rid := 5120) rfl rfl rfl rfl rfl (by simp only [go_sem, Nat.reduceEqDiff]; first | done | rfl) (hSeg) rfl (by decide) ⟨by decide, by decide, rfl⟩ (by first | exact .inl rfl | exact .inr (.inl rfl) | exact .inr (.inr rfl)) ?_); clear hJ J
  rintro r os' ros ⟨n, ms, ks, l', b', rfl, rfl, rfl, hl', hm', hk', hg1, hg2⟩ _
  refine RunsL.go tabOk fun J hJ => ?_
  simp only [go_sem, ↓reduceIte, Nat.reduceAdd, Nat.reduceSub, Nat.reduceMul, Nat.reduceLT, Nat.reduceLeDiff, Nat.reduceEqDiff, Nat.reduceBEq, Int.reduceToNat]
  try simp (disch := omega) only [wrap_id]
  refine hJ _ _ (RunsL.nil ?_); clear hJ J
  refine run_ ?_
  have hDn := pDone_ok l' b' (by omega)
  unfold prO at hDn
  by_cases hd : b' = false ∧ l' = []
  · obtain ⟨rfl, rfl⟩ := hd
    have hQ := hg1 rfl
    subst hQ
    have hOk := segOki_ok (.mk n ms ks) (by have := htot _ _ rfl; omega)
    rw [segA_mk] at hOk
    simp only [true_and] at hP
    simp only [Bool.not_false, List.isEmpty_nil, Bool.and_self] at hDn
    have e0 : toksA ([] : List TokV) = [] := rfl
    rw [e0] at hDn
    rw [e0]
    by_cases cs : SegOkP (.mk n ms ks)
    · rw [decide_eq_true cs] at hOk
      rw [if_pos cs] at hP
      have hR : PSR P (.tup [.agg [.str n, .hd 100 [], .hd 101 []], .bool true]) [] [(1, strs ms), (3, segsA .own ks)] := ⟨n, ms, ks, by rw [← hP]; rfl, rfl, rfl, by rw [← hP]; rfl⟩
      clear hP
      refine RunsA.rq tabOk fun J hJ => ?_
      simp only [go_sem, ↓reduceIte, Nat.reduceAdd, Nat.reduceSub, Nat.reduceMul, Nat.reduceLT, Nat.reduceLeDiff, Nat.reduceEqDiff, Nat.reduceBEq, Int.reduceToNat]
      try simp (disch := omega) only [wrap_id]
      refine hJ _ _ (RunsL.call (ps := [4608]) (rid := 16) rfl rfl rfl rfl rfl (by simp only [go_sem, Nat.reduceEqDiff]; first | done | rfl) (hDn) rfl (by decide) ⟨by decide, by decide, rfl⟩ (by first | exact .inl rfl | exact .inr (.inl rfl) | exact .inr (.inr rfl)) ?_); clear hJ J
      rintro r os' ros ⟨rfl, rfl, rfl⟩ _
      refine RunsL.go tabOk fun J hJ => ?_
      simp only [go_sem, ↓reduceIte, Nat.reduceAdd, Nat.reduceSub, Nat.reduceMul, Nat.reduceLT, Nat.reduceLeDiff, Nat.reduceEqDiff, Nat.reduceBEq, Int.reduceToNat, Bool.not_true]
      try simp (disch := omega) only [wrap_id]
      refine hJ _ _ (RunsL.call (ps := []) (rid := 16) rfl rfl rfl rfl rfl (by simp only [go_sem, Nat.reduceEqDiff, brw_strs, brw_segs]; first | done | rfl) (hOk) rfl (by decide) ⟨by decide, by decide, rfl⟩ (by first | exact .inl rfl | exact .inr (.inl rfl) | exact .inr (.inr rfl)) ?_); clear hJ J
      rintro r os' ros ⟨rfl, rfl, rfl⟩ _
      refine RunsL.go tabOk fun J hJ => ?_
      simp only [go_sem, ↓reduceIte, Nat.reduceAdd, Nat.reduceSub, Nat.reduceMul, Nat.reduceLT, Nat.reduceLeDiff, Nat.reduceEqDiff, Nat.reduceBEq, Int.reduceToNat, Bool.not_true]
      try simp (disch := omega) only [wrap_id]
      refine hJ _ _ (RunsL.nil ?_); clear hJ J
      repeat' (first | refine ⟨by omega, ?_⟩ | (refine hJ _ _ (RunsL.nil ?_); clear hJ J) | refine RunsA.cond rfl (fun h => ?_) (fun h => absurd h (by decide)) | refine RunsA.cond rfl (fun h => absurd h (by decide)) (fun h => ?_) | (refine step_ ?_) | (refine RunsA.rk 9 [] tabOk fun J hJ => ?_; simp only [go_sem, ↓reduceIte, Nat.reduceAdd, Nat.reduceSub, Nat.reduceMul, Nat.reduceLT, Nat.reduceLeDiff, Nat.reduceEqDiff, Nat.reduceBEq, Int.reduceToNat, Bool.not_true]; try simp (disch := omega) only [wrap_id]) | simp only [↓reduceIte, not_false_eq_true, Bool.not_true])
      refine RetA.v tabOk rfl ?_
      simp only [go_sem, ↓reduceIte, Nat.reduceAdd, Nat.reduceSub, Nat.reduceMul, Nat.reduceLT, Nat.reduceLeDiff, Nat.reduceEqDiff, Nat.reduceBEq, Int.reduceToNat]
      refine RetV.det (id := 768) (q := []) (i := 0) (k := 1) (tid := 100) (by simp only [go_sem, ↓reduceIte, Nat.reduceAdd, Nat.reduceSub, Nat.reduceMul, Nat.reduceLT, Nat.reduceLeDiff, Nat.reduceEqDiff, Nat.reduceBEq, Int.reduceToNat]; rfl) ?_
      simp only [go_sem, ↓reduceIte, Nat.reduceAdd, Nat.reduceSub, Nat.reduceMul, Nat.reduceLT, Nat.reduceLeDiff, Nat.reduceEqDiff, Nat.reduceBEq, Int.reduceToNat]
      refine RetV.det (id := 768) (q := []) (i := 0) (k := 2) (tid := 101) (by simp only [go_sem, ↓reduceIte, Nat.reduceAdd, Nat.reduceSub, Nat.reduceMul, Nat.reduceLT, Nat.reduceLeDiff, Nat.reduceEqDiff, Nat.reduceBEq, Int.reduceToNat]; rfl) ?_
      simp only [go_sem, ↓reduceIte, Nat.reduceAdd, Nat.reduceSub, Nat.reduceMul, Nat.reduceLT, Nat.reduceLeDiff, Nat.reduceEqDiff, Nat.reduceBEq, Int.reduceToNat]
      exact RetV.mk 2 rfl rfl (by omega) rfl (by simp [noBoO, noBoL, noBo, noBo_segs, noBo_strs, noBo_toks]) rfl hR
    · rw [decide_eq_false cs] at hOk
      rw [if_neg cs] at hP
      have hR : PSR P (.tup [.agg [.str [], .hd 100 [], .hd 101 []], .bool false]) [] [(1, strs []), (3, segsA .own [])] := ⟨[], [], [], by rw [← hP]; rfl, rfl, rfl, by rw [← hP]; rfl⟩
      clear hP
      refine RunsA.rq tabOk fun J hJ => ?_
      simp only [go_sem, ↓reduceIte, Nat.reduceAdd, Nat.reduceSub, Nat.reduceMul, Nat.reduceLT, Nat.reduceLeDiff, Nat.reduceEqDiff, Nat.reduceBEq, Int.reduceToNat]
      try simp (disch := omega) only [wrap_id]
      refine hJ _ _ (RunsL.call (ps := [4608]) (rid := 16) rfl rfl rfl rfl rfl (by simp only [go_sem, Nat.reduceEqDiff]; first | done | rfl) (hDn) rfl (by decide) ⟨by decide, by decide, rfl⟩ (by first | exact .inl rfl | exact .inr (.inl rfl) | exact .inr (.inr rfl)) ?_); clear hJ J
      rintro r os' ros ⟨rfl, rfl, rfl⟩ _
      refine RunsL.go tabOk fun J hJ => ?_
      simp only [go_sem, ↓reduceIte, Nat.reduceAdd, Nat.reduceSub, Nat.reduceMul, Nat.reduceLT, Nat.reduceLeDiff, Nat.reduceEqDiff, Nat.reduceBEq, Int.reduceToNat, Bool.not_true]
      try simp (disch := omega) only [wrap_id]
      refine hJ _ _ (RunsL.call (ps := []) (rid := 16) rfl rfl rfl rfl rfl (by simp only [go_sem, Nat.reduceEqDiff, brw_strs, brw_segs]; first | done | rfl) (hOk) rfl (by decide) ⟨by decide, by decide, rfl⟩ (by first | exact .inl rfl | exact .inr (.inl rfl) | exact .inr (.inr rfl)) ?_); clear hJ J
      rintro r os' ros ⟨rfl, rfl, rfl⟩ _
      refine RunsL.go tabOk fun J hJ => ?_
      simp only [go_sem, ↓reduceIte, Nat.reduceAdd, Nat.reduceSub, Nat.reduceMul, Nat.reduceLT, Nat.reduceLeDiff, Nat.reduceEqDiff, Nat.reduceBEq, Int.reduceToNat, Bool.not_false]
      try simp (disch := omega) only [wrap_id]
      refine hJ _ _ (RunsL.nil ?_); clear hJ J
      repeat' (first | refine ⟨by omega, ?_⟩ | (refine hJ _ _ (RunsL.nil ?_); clear hJ J) | refine RunsA.cond rfl (fun h => ?_) (fun h => absurd h (by decide)) | refine RunsA.cond rfl (fun h => absurd h (by decide)) (fun h => ?_) | (refine step_ ?_) | (refine RunsA.rk 9 [] tabOk fun J hJ => ?_; simp only [go_sem, ↓reduceIte, Nat.reduceAdd, Nat.reduceSub, Nat.reduceMul, Nat.reduceLT, Nat.reduceLeDiff, Nat.reduceEqDiff, Nat.reduceBEq, Int.reduceToNat, Bool.not_false]; try simp (disch := omega) only [wrap_id]) | simp only [↓reduceIte, not_false_eq_true, Bool.not_false])
      refine RetA.v tabOk rfl ?_
      simp only [go_sem, ↓reduceIte, Nat.reduceAdd, Nat.reduceSub, Nat.reduceMul, Nat.reduceLT, Nat.reduceLeDiff, Nat.reduceEqDiff, Nat.reduceBEq, Int.reduceToNat]
      refine RetV.det (id := 768) (q := []) (i := 0) (k := 1) (tid := 100) (by simp only [go_sem, ↓reduceIte, Nat.reduceAdd, Nat.reduceSub, Nat.reduceMul, Nat.reduceLT, Nat.reduceLeDiff, Nat.reduceEqDiff, Nat.reduceBEq, Int.reduceToNat]; rfl) ?_
      simp only [go_sem, ↓reduceIte, Nat.reduceAdd, Nat.reduceSub, Nat.reduceMul, Nat.reduceLT, Nat.reduceLeDiff, Nat.reduceEqDiff, Nat.reduceBEq, Int.reduceToNat]
      refine RetV.det (id := 768) (q := []) (i := 0) (k := 2) (tid := 101) (by simp only [go_sem, ↓reduceIte, Nat.reduceAdd, Nat.reduceSub, Nat.reduceMul, Nat.reduceLT, Nat.reduceLeDiff, Nat.reduceEqDiff, Nat.reduceBEq, Int.reduceToNat]; rfl) ?_
      simp only [go_sem, ↓reduceIte, Nat.reduceAdd, Nat.reduceSub, Nat.reduceMul, Nat.reduceLT, Nat.reduceLeDiff, Nat.reduceEqDiff, Nat.reduceBEq, Int.reduceToNat]
      exact RetV.mk 2 rfl rfl (by omega) rfl (by simp [noBoO, noBoL, noBo, noBo_segs, noBo_strs, noBo_toks]) rfl hR
  · have hdn : (!b' && l'.isEmpty) = false := by
      cases b' with
      | true => rfl
      | false => cases l' with
        | nil => exact absurd ⟨rfl, rfl⟩ hd
        | cons t r => rfl
    rw [hdn] at hDn
    have hPn : P = none := by
      cases b' with
      | true => rw [← hP, hg2 rfl]
      | false =>
        rw [← hP, hg1 rfl]
        simp only
        rw [if_neg (fun h => hd ⟨rfl, h.1⟩)]
    have hR : PSR P (.tup [.agg [.str [], .hd 100 [], .hd 101 []], .bool false]) [] [(1, strs []), (3, segsA .own [])] := ⟨[], [], [], by rw [hPn]; rfl, rfl, rfl, by rw [hPn]; rfl⟩
    clear hP hPn hg1 hg2
    refine RunsA.rq tabOk fun J hJ => ?_
    simp only [go_sem, ↓reduceIte, Nat.reduceAdd, Nat.reduceSub, Nat.reduceMul, Nat.reduceLT, Nat.reduceLeDiff, Nat.reduceEqDiff, Nat.reduceBEq, Int.reduceToNat]
    try simp (disch := omega) only [wrap_id]
    refine hJ _ _ (RunsL.call (ps := [4608]) (rid := 16) rfl rfl rfl rfl rfl (by simp only [go_sem, Nat.reduceEqDiff]; first | done | rfl) (hDn) rfl (by decide) ⟨by decide, by decide, rfl⟩ (by first | exact .inl rfl | exact .inr (.inl rfl) | exact .inr (.inr rfl)) ?_); clear hJ J
    rintro r os' ros ⟨rfl, rfl, rfl⟩ _
    refine RunsL.go tabOk fun J hJ => ?_
    simp only [go_sem, ↓reduceIte, Nat.reduceAdd, Nat.reduceSub, Nat.reduceMul, Nat.reduceLT, Nat.reduceLeDiff, Nat.reduceEqDiff, Nat.reduceBEq, Int.reduceToNat, Bool.not_false]
    try simp (disch := omega) only [wrap_id]
    refine hJ _ _ (RunsL.nil ?_); clear hJ J
    repeat' (first | refine ⟨by omega, ?_⟩ | (refine hJ _ _ (RunsL.nil ?_); clear hJ J) | refine RunsA.cond rfl (fun h => ?_) (fun h => absurd h (by decide)) | refine RunsA.cond rfl (fun h => absurd h (by decide)) (fun h => ?_) | (refine step_ ?_) | (refine RunsA.rk 9 [] tabOk fun J hJ => ?_; simp only [go_sem, ↓reduceIte, Nat.reduceAdd, Nat.reduceSub, Nat.reduceMul, Nat.reduceLT, Nat.reduceLeDiff, Nat.reduceEqDiff, Nat.reduceBEq, Int.reduceToNat, Bool.not_false]; try simp (disch := omega) only [wrap_id]) | simp only [↓reduceIte, not_false_eq_true, Bool.not_false])
    refine RetA.v tabOk rfl ?_
    simp only [go_sem, ↓reduceIte, Nat.reduceAdd, Nat.reduceSub, Nat.reduceMul, Nat.reduceLT, Nat.reduceLeDiff, Nat.reduceEqDiff, Nat.reduceBEq, Int.reduceToNat]
    refine RetV.det (id := 768) (q := []) (i := 0) (k := 1) (tid := 100) (by simp only [go_sem, ↓reduceIte, Nat.reduceAdd, Nat.reduceSub, Nat.reduceMul, Nat.reduceLT, Nat.reduceLeDiff, Nat.reduceEqDiff, Nat.reduceBEq, Int.reduceToNat]; rfl) ?_
    simp only [go_sem, ↓reduceIte, Nat.reduceAdd, Nat.reduceSub, Nat.reduceMul, Nat.reduceLT, Nat.reduceLeDiff, Nat.reduceEqDiff, Nat.reduceBEq, Int.reduceToNat]
    refine RetV.det (id := 768) (q := []) (i := 0) (k := 2) (tid := 101) (by simp only [go_sem, ↓reduceIte, Nat.reduceAdd, Nat.reduceSub, Nat.reduceMul, Nat.reduceLT, Nat.reduceLeDiff, Nat.reduceEqDiff, Nat.reduceBEq, Int.reduceToNat]; rfl) ?_
    simp only [go_sem, ↓reduceIte, Nat.reduceAdd, Nat.reduceSub, Nat.reduceMul, Nat.reduceLT, Nat.reduceLeDiff, Nat.reduceEqDiff, Nat.reduceBEq, Int.reduceToNat]
    exact RetV.mk 2 rfl rfl (by omega) rfl (by simp [noBoO, noBoL, noBo, noBo_segs, noBo_strs, noBo_toks]) rfl hR
end Go.Proofs.YtiilnlihimdnlaaGreatDoorFw
