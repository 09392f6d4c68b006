/- Lines as tokens: the program's Lex. -/
import Derived.Test.YtiilnlihimdnlaaGreatDoorIC
namespace Go.Proofs.YtiilnlihimdnlaaGreatDoorFw
open Go Go.RowKit Go.Proofs
set_option linter.unusedVariables false
set_option linter.unusedSimpArgs false
set_option maxRecDepth 4000
set_option pp.deepTerms.threshold 6
set_option pp.deepTerms false
set_option maxHeartbeats 8000000 in
theorem lexI_ok (s : Str) (hl : s.length ≤ 1099511627776) : FnA Tryz.prog 24 false [.str s] [] (fun res os ros => res = .tup [.hd 100 [], .bool (lexV s).isSome] ∧ os = [] ∧ ros = [(3, toksA ((lexV s).getD []))]) := by
  refine FnA.of Tryz.func24 rfl (by decide) Tryz.ntmps24 (by simp) ?_
  refine run_ ?_
  refine RunsA.loop ?_
  refine (LoopA.ind (fun p : Nat × List TokV => ⟨52, [(0, .str s), (4, .hd 2304 []), (5, .int .i64 (p.1 : Nat))], [⟨2304, 3, toksA p.2⟩], false⟩) (fun p => s.length - p.1) (fun p => p.1 ≤ s.length ∧ p.2.length ≤ p.1 ∧ lexG s p.1 p.2 = lexV s) ?_ (0, []) ?_).sub rfl ?_ ?_ rfl
  · rintro ⟨a, acc⟩ ⟨hi, hal, hv⟩ K3 hK3
    simp only at hi hal hv hK3 ⊢
    by_cases h2 : a < s.length
    · have q1 : decide ((a : Int) < (s.length : Nat)) = true := decide_eq_true (by omega)
      have q11 : ((a : Int) < (s.length : Nat)) = True := eq_true (by omega)
      have hg : s[a]? = some s[a] := List.getElem?_eq_getElem h2
      generalize s[a] = c at *
      have hgt := oneV_gt hg
      by_cases c1 : c.toNat = 59
      · have q2 : (((c.toNat : Nat) : Int) != 59) = false := by rw [c1]; rfl
        have q22 : (((c.toNat : Nat) : Int) = 59) = True := eq_true (by omega)
        rw [lexG_semi hg c1] at hv
        rw [← hv]
        repeat' (first | refine ⟨by omega, ?_⟩ | (refine hJ _ _ (RunsL.nil ?_); clear hJ J) | refine RunsA.cond rfl (fun h => ?_) (fun h => absurd h (by decide)) | refine RunsA.cond rfl (fun h => absurd h (by decide)) (fun h => ?_) | (refine step_ ?_) | (refine RunsA.rk 8 [] tabOk fun J hJ => ?_; simp only [go_sem, ↓reduceIte, Nat.reduceAdd, Nat.reduceSub, Nat.reduceMul, Nat.reduceLT, Nat.reduceLeDiff, Nat.reduceEqDiff, Nat.reduceBEq, Int.reduceToNat, q1, q11, hg, q2, q22]; try simp (disch := omega) only [wrap_id]) | simp only [↓reduceIte, not_false_eq_true, q1, q11, hg, q2, q22])
        refine RetA.v tabOk rfl ?_
        simp only [go_sem, ↓reduceIte, Nat.reduceAdd, Nat.reduceSub, Nat.reduceMul, Nat.reduceLT, Nat.reduceLeDiff, Nat.reduceEqDiff, Nat.reduceBEq, Int.reduceToNat]
        refine RetV.ren (id := 2304) (id' := 100) (by simp only [go_sem, ↓reduceIte, Nat.reduceAdd, Nat.reduceSub, Nat.reduceMul, Nat.reduceLT, Nat.reduceLeDiff, Nat.reduceEqDiff, Nat.reduceBEq, Int.reduceToNat]; rfl) ?_
        simp only [go_sem, ↓reduceIte, Nat.reduceAdd, Nat.reduceSub, Nat.reduceMul, Nat.reduceLT, Nat.reduceLeDiff, Nat.reduceEqDiff, Nat.reduceBEq, Int.reduceToNat]
        exact RetV.mk 1 rfl rfl (by omega) rfl (by simp [noBoO, noBo_toks]) rfl ⟨rfl, rfl, rfl⟩
      have q2 : (((c.toNat : Nat) : Int) != 59) = true := bne_iff_ne.2 (by omega)
      have q22 : (((c.toNat : Nat) : Int) = 59) = False := eq_false (by omega)
      by_cases c2 : c.toNat = 32
      · have q3 : (((c.toNat : Nat) : Int) == 32) = true := by rw [c2]; rfl
        have q33 : (((c.toNat : Nat) : Int) = 32) = True := eq_true (by omega)
        rw [lexG_blank hg (.inl c2)] at hv
        repeat' (first | refine ⟨by omega, ?_⟩ | (refine hJ _ _ (RunsL.nil ?_); clear hJ J) | refine RunsA.cond rfl (fun h => ?_) (fun h => absurd h (by decide)) | refine RunsA.cond rfl (fun h => absurd h (by decide)) (fun h => ?_) | (refine step_ ?_) | (refine RunsA.rk 8 [] tabOk fun J hJ => ?_; simp only [go_sem, ↓reduceIte, Nat.reduceAdd, Nat.reduceSub, Nat.reduceMul, Nat.reduceLT, Nat.reduceLeDiff, Nat.reduceEqDiff, Nat.reduceBEq, Int.reduceToNat, q1, q11, hg, q2, q22, q3, q33]; try simp (disch := omega) only [wrap_id]) | simp only [↓reduceIte, not_false_eq_true, q1, q11, hg, q2, q22, q3, q33])
        exact hK3 (a + 1, acc) _ ⟨by simp only; omega, by simp only; omega, hv⟩ (by simp only; omega) rfl (by simp [SubS, lookS]) (by simp [SubO, lookO]) rfl
      have q3 : (((c.toNat : Nat) : Int) == 32) = false := beq_eq_false_iff_ne.2 (by omega)
      have q33 : (((c.toNat : Nat) : Int) = 32) = False := eq_false (by omega)
      by_cases c3 : c.toNat = 9
      · have q4 : (((c.toNat : Nat) : Int) == 9) = true := by rw [c3]; rfl
        have q44 : (((c.toNat : Nat) : Int) = 9) = True := eq_true (by omega)
        rw [lexG_blank hg (.inr c3)] at hv
        repeat' (first | refine ⟨by omega, ?_⟩ | (refine hJ _ _ (RunsL.nil ?_); clear hJ J) | refine RunsA.cond rfl (fun h => ?_) (fun h => absurd h (by decide)) | refine RunsA.cond rfl (fun h => absurd h (by decide)) (fun h => ?_) | (refine step_ ?_) | (refine RunsA.rk 8 [] tabOk fun J hJ => ?_; simp only [go_sem, ↓reduceIte, Nat.reduceAdd, Nat.reduceSub, Nat.reduceMul, Nat.reduceLT, Nat.reduceLeDiff, Nat.reduceEqDiff, Nat.reduceBEq, Int.reduceToNat, q1, q11, hg, q2, q22, q3, q33, q4, q44]; try simp (disch := omega) only [wrap_id]) | simp only [↓reduceIte, not_false_eq_true, q1, q11, hg, q2, q22, q3, q33, q4, q44])
        exact hK3 (a + 1, acc) _ ⟨by simp only; omega, by simp only; omega, hv⟩ (by simp only; omega) rfl (by simp [SubS, lookS]) (by simp [SubO, lookO]) rfl
      have q4 : (((c.toNat : Nat) : Int) == 9) = false := beq_eq_false_iff_ne.2 (by omega)
      have q44 : (((c.toNat : Nat) : Int) = 9) = False := eq_false (by omega)
      have hno : ¬ (c.toNat = 32 ∨ c.toNat = 9) := by omega
      have hT := tokenAt_ok s a c hg (by omega)
      have hyes := fun h3 h4 => lexG_tok (acc := acc) hg c1 hno h3 h4
      have hbad := fun h3 => lexG_bad (acc := acc) hg c1 hno h3
      have hsn : ∀ t : TokV, toksA acc ++ [.agg [.int .i64 t.k, .int .i64 t.n, .str t.s]] = toksA (acc ++ [t]) := fun t => by simp [toksA, tokA]
      generalize oneV s a c = t at *
      obtain ⟨⟨k, n, w⟩, e⟩ := t
      simp only at hgt hyes hbad
      have hsn2 := hsn ⟨k, n, w⟩
      simp only at hsn2
      by_cases c5 : OkT k n w
      · rw [tokR_ok (by exact c5)] at hT
        obtain ⟨d, rfl⟩ : ∃ d, e = a + (d + 1) := ⟨e - a - 1, by omega⟩
        simp only [tokA, Nat.add_sub_cancel_left] at hT
        have q6 : (((d + 1 : Nat) : Int) == 0) = false := beq_eq_false_iff_ne.2 (by omega)
        have q66 : (((d + 1 : Nat) : Int) = 0) = False := eq_false (by omega)
        have hae : ((a : Nat) : Int) + ((d + 1 : Nat) : Int) = ((a + (d + 1) : Nat) : Int) := by omega
        generalize hd1 : d + 1 = d1 at *
        by_cases c6 : acc.length = 800
        · have q5 : (((acc.length : Nat) : Int) == 800) = true := by rw [c6]; rfl
          have q55 : (((acc.length : Nat) : Int) = 800) = True := eq_true (by omega)
          rw [hbad (fun h => h.2 c6)] at hv
          rw [← hv]
          repeat' (first | refine ⟨by omega, ?_⟩ | (refine hJ _ _ (RunsL.nil ?_); clear hJ J) | refine RunsA.cond rfl (fun h => ?_) (fun h => absurd h (by decide)) | refine RunsA.cond rfl (fun h => absurd h (by decide)) (fun h => ?_) | (refine step_ ?_) | (refine RunsA.rk 8 [] tabOk fun J hJ => ?_; simp only [go_sem, ↓reduceIte, Nat.reduceAdd, Nat.reduceSub, Nat.reduceMul, Nat.reduceLT, Nat.reduceLeDiff, Nat.reduceEqDiff, Nat.reduceBEq, Int.reduceToNat, q1, q11, hg, q2, q22, q3, q33, q4, q44, q5, q55, q6, q66, toksA_len]; try simp (disch := omega) only [wrap_id]) | (refine hJ _ _ (RunsL.call (ps := []) (rid := 16) rfl rfl rfl rfl rfl (by simp only [go_sem, Nat.reduceEqDiff]; first | done | rfl) (hT) rfl (by decide) ⟨by decide, by decide, rfl⟩ (by first | exact .inl rfl | exact .inr (.inl rfl) | exact .inr (.inr rfl)) ?_); clear hJ J; rintro r os' ros ⟨rfl, rfl, rfl⟩ _; refine RunsL.go tabOk fun J hJ => ?_; simp only [go_sem, ↓reduceIte, Nat.reduceAdd, Nat.reduceSub, Nat.reduceMul, Nat.reduceLT, Nat.reduceLeDiff, Nat.reduceEqDiff, Nat.reduceBEq, Int.reduceToNat, q1, q11, hg, q2, q22, q3, q33, q4, q44, q5, q55, q6, q66, toksA_len]; try simp (disch := omega) only [wrap_id]) | simp only [↓reduceIte, not_false_eq_true, q1, q11, hg, q2, q22, q3, q33, q4, q44, q5, q55, q6, q66, toksA_len])
          refine RetA.v tabOk rfl ?_
          simp only [go_sem, ↓reduceIte, Nat.reduceAdd, Nat.reduceSub, Nat.reduceMul, Nat.reduceLT, Nat.reduceLeDiff, Nat.reduceEqDiff, Nat.reduceBEq, Int.reduceToNat]
          refine RetV.ren (id := 768) (id' := 100) (by simp only [go_sem, ↓reduceIte, Nat.reduceAdd, Nat.reduceSub, Nat.reduceMul, Nat.reduceLT, Nat.reduceLeDiff, Nat.reduceEqDiff, Nat.reduceBEq, Int.reduceToNat]; rfl) ?_
          simp only [go_sem, ↓reduceIte, Nat.reduceAdd, Nat.reduceSub, Nat.reduceMul, Nat.reduceLT, Nat.reduceLeDiff, Nat.reduceEqDiff, Nat.reduceBEq, Int.reduceToNat]
          exact RetV.mk 1 rfl rfl (by omega) rfl (by simp [noBoO, noBoL]) rfl ⟨rfl, rfl, rfl⟩
        · have q5 : (((acc.length : Nat) : Int) == 800) = false := beq_eq_false_iff_ne.2 (by omega)
          have q55 : (((acc.length : Nat) : Int) = 800) = False := eq_false (by omega)
          rw [hyes c5 c6] at hv
          repeat' (first | refine ⟨by omega, ?_⟩ | (refine hJ _ _ (RunsL.nil ?_); clear hJ J) | refine RunsA.cond rfl (fun h => ?_) (fun h => absurd h (by decide)) | refine RunsA.cond rfl (fun h => absurd h (by decide)) (fun h => ?_) | (refine step_ ?_) | (refine RunsA.rk 8 [] tabOk fun J hJ => ?_; simp only [go_sem, ↓reduceIte, Nat.reduceAdd, Nat.reduceSub, Nat.reduceMul, Nat.reduceLT, Nat.reduceLeDiff, Nat.reduceEqDiff, Nat.reduceBEq, Int.reduceToNat, q1, q11, hg, q2, q22, q3, q33, q4, q44, q5, q55, q6, q66, toksA_len, hsn2, hae]; try simp (disch := omega) only [wrap_id]) | (refine hJ _ _ (RunsL.call (ps := []) (rid := 16) rfl rfl rfl rfl rfl (by simp only [go_sem, Nat.reduceEqDiff]; first | done | rfl) (hT) rfl (by decide) ⟨by decide, by decide, rfl⟩ (by first | exact .inl rfl | exact .inr (.inl rfl) | exact .inr (.inr rfl)) ?_); clear hJ J; rintro r os' ros ⟨rfl, rfl, rfl⟩ _; refine RunsL.go tabOk fun J hJ => ?_; simp only [go_sem, ↓reduceIte, Nat.reduceAdd, Nat.reduceSub, Nat.reduceMul, Nat.reduceLT, Nat.reduceLeDiff, Nat.reduceEqDiff, Nat.reduceBEq, Int.reduceToNat, q1, q11, hg, q2, q22, q3, q33, q4, q44, q5, q55, q6, q66, toksA_len, hsn2, hae]; try simp (disch := omega) only [wrap_id]) | simp only [↓reduceIte, not_false_eq_true, q1, q11, hg, q2, q22, q3, q33, q4, q44, q5, q55, q6, q66, toksA_len, hsn2, hae])
          exact hK3 (a + d1, acc ++ [⟨k, n, w⟩]) _ ⟨by simp only; omega, by simp only [List.length_append, List.length_cons, List.length_nil]; omega, hv⟩ (by simp only; omega) rfl (by simp [SubS, lookS]) (by simp [SubO, lookO, hsn2]) rfl
      · rw [tokR_no (by exact c5)] at hT
        rw [hbad (fun h => c5 h.1)] at hv
        rw [← hv]
        repeat' (first | refine ⟨by omega, ?_⟩ | (refine hJ _ _ (RunsL.nil ?_); clear hJ J) | refine RunsA.cond rfl (fun h => ?_) (fun h => absurd h (by decide)) | refine RunsA.cond rfl (fun h => absurd h (by decide)) (fun h => ?_) | (refine step_ ?_) | (refine RunsA.rk 8 [] tabOk fun J hJ => ?_; simp only [go_sem, ↓reduceIte, Nat.reduceAdd, Nat.reduceSub, Nat.reduceMul, Nat.reduceLT, Nat.reduceLeDiff, Nat.reduceEqDiff, Nat.reduceBEq, Int.reduceToNat, q1, q11, hg, q2, q22, q3, q33, q4, q44, toksA_len, Int.reduceBEq]; try simp (disch := omega) only [wrap_id]) | (refine hJ _ _ (RunsL.call (ps := []) (rid := 16) rfl rfl rfl rfl rfl (by simp only [go_sem, Nat.reduceEqDiff]; first | done | rfl) (hT) rfl (by decide) ⟨by decide, by decide, rfl⟩ (by first | exact .inl rfl | exact .inr (.inl rfl) | exact .inr (.inr rfl)) ?_); clear hJ J; rintro r os' ros ⟨rfl, rfl, rfl⟩ _; refine RunsL.go tabOk fun J hJ => ?_; simp only [go_sem, ↓reduceIte, Nat.reduceAdd, Nat.reduceSub, Nat.reduceMul, Nat.reduceLT, Nat.reduceLeDiff, Nat.reduceEqDiff, Nat.reduceBEq, Int.reduceToNat, q1, q11, hg, q2, q22, q3, q33, q4, q44, toksA_len, Int.reduceBEq]; try simp (disch := omega) only [wrap_id]) | simp only [↓reduceIte, not_false_eq_true, q1, q11, hg, q2, q22, q3, q33, q4, q44, toksA_len, Int.reduceBEq])
        refine RetA.v tabOk rfl ?_
        simp only [go_sem, ↓reduceIte, Nat.reduceAdd, Nat.reduceSub, Nat.reduceMul, Nat.reduceLT, Nat.reduceLeDiff, Nat.reduceEqDiff, Nat.reduceBEq, Int.reduceToNat]
        refine RetV.ren (id := 768) (id' := 100) (by simp only [go_sem, ↓reduceIte, Nat.reduceAdd, Nat.reduceSub, Nat.reduceMul, Nat.reduceLT, Nat.reduceLeDiff, Nat.reduceEqDiff, Nat.reduceBEq, Int.reduceToNat]; rfl) ?_
        simp only [go_sem, ↓reduceIte, Nat.reduceAdd, Nat.reduceSub, Nat.reduceMul, Nat.reduceLT, Nat.reduceLeDiff, Nat.reduceEqDiff, Nat.reduceBEq, Int.reduceToNat]
        exact RetV.mk 1 rfl rfl (by omega) rfl (by simp [noBoO, noBoL]) rfl ⟨rfl, rfl, rfl⟩
    · have q1 : decide ((a : Int) < (s.length : Nat)) = false := decide_eq_false (by omega)
      have q11 : ((a : Int) < (s.length : Nat)) = False := eq_false (by omega)
      rw [lexG_end h2] at hv
      rw [← hv]
      repeat' (first | refine ⟨by omega, ?_⟩ | (refine hJ _ _ (RunsL.nil ?_); clear hJ J) | refine RunsA.cond rfl (fun h => ?_) (fun h => absurd h (by decide)) | refine RunsA.cond rfl (fun h => absurd h (by decide)) (fun h => ?_) | (refine step_ ?_) | (refine RunsA.rk 8 [] tabOk fun J hJ => ?_; simp only [go_sem, ↓reduceIte, Nat.reduceAdd, Nat.reduceSub, Nat.reduceMul, Nat.reduceLT, Nat.reduceLeDiff, Nat.reduceEqDiff, Nat.reduceBEq, Int.reduceToNat, q1, q11]; try simp (disch := omega) only [wrap_id]) | simp only [↓reduceIte, not_false_eq_true, q1, q11])
      refine RetA.v tabOk rfl ?_
      simp only [go_sem, ↓reduceIte, Nat.reduceAdd, Nat.reduceSub, Nat.reduceMul, Nat.reduceLT, Nat.reduceLeDiff, Nat.reduceEqDiff, Nat.reduceBEq, Int.reduceToNat]
      refine RetV.ren (id := 2304) (id' := 100) (by simp only [go_sem, ↓reduceIte, Nat.reduceAdd, Nat.reduceSub, Nat.reduceMul, Nat.reduceLT, Nat.reduceLeDiff, Nat.reduceEqDiff, Nat.reduceBEq, Int.reduceToNat]; rfl) ?_
      simp only [go_sem, ↓reduceIte, Nat.reduceAdd, Nat.reduceSub, Nat.reduceMul, Nat.reduceLT, Nat.reduceLeDiff, Nat.reduceEqDiff, Nat.reduceBEq, Int.reduceToNat]
      exact RetV.mk 1 rfl rfl (by omega) rfl (by simp [noBoO, noBo_toks]) rfl ⟨rfl, rfl, rfl⟩
  · exact ⟨Nat.zero_le _, by simp, rfl⟩
  · simp [SubS, lookS]
  · simp [SubO, lookO, toksA]
end Go.Proofs.YtiilnlihimdnlaaGreatDoorFw
