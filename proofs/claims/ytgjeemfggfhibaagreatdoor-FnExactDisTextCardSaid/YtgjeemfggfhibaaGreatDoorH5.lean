/- The tokens of lines: the reference's. -/
import Derived.Test.YtgjeemfggfhibaaGreatDoorHB
import Derived.Test.YtgjeemfggfhibaaGreatDoorH3
namespace Go.Proofs.YtgjeemfggfhibaaGreatDoorFw
open Go Go.RowKit
set_option linter.unusedVariables false
set_option linter.unusedSimpArgs false
set_option maxRecDepth 4000
set_option pp.deepTerms.threshold 6
set_option pp.deepTerms false
theorem argT_len2 (f r : Int) (e : ExprV) (h0 : 0 ≤ f) (h : 6 ≤ f → e.good) : (argT f r e.toks).length ≤ 3 * e.tot + 8 := by
  by_cases c : 6 ≤ f
  · have h1 := argT_len f r e.toks
    have h2 := ExprV.toks_len e (h c)
    omega
  · unfold argT
    repeat' split
    all_goals first | omega | (simp only [rdT, List.length_append, List.length_cons, List.length_nil]; omega)
set_option maxHeartbeats 8000000 in
theorem l12Tokens_ok (x : LineV) (ht : x.tot ≤ 1048576) (hx : x.okB = true) :
    FnA Tryz.prog 58 false [lineA .bo x] [] (fun res os ros => res = .hd 100 [] ∧ os = [] ∧ ros = [(3, toksA x.toks)]) := by
  obtain ⟨k, s, op, sf, sr, sk, sn, ss, sl, df, dr, dk, dn, ds, dl, n, l⟩ := x
  obtain ⟨hk, hgd, h2, h0, h3⟩ := okB_facts hx
  have htx := ht
  simp only [LineV.tot] at ht
  have hIns := fun h : k = 3 => l12InsTokens_ok k s op sf sr sk sn ss sl df dr dk dn ds dl n l (h3 h).1 (h3 h).2.1 (h3 h).2.2.1 (h3 h).2.2.2.1 (h3 h).2.2.2.2 hgd htx _ _ rfl rfl
    (fun ho => by have := argT_len2 sf sr (ExprV.mk sk sn ss sl) ((h3 h).2.1 ho).1.1 ((h3 h).2.1 ho).2.2; omega)
    (fun ho => by have := argT_len2 df dr (ExprV.mk dk dn ds dl) ((h3 h).2.2.1 ho).1.1 ((h3 h).2.2.1 ho).2.2; omega)
  have htl := Nat.le_trans (txtW_len _) (termsT_txtW l hgd)
  have hTm := fun w => l12Terms_ok w l ⟨by omega, by omega⟩ hgd
  have hT : k = 2 → ∃ (e : ExprV) (r : List TokV), exprsA .bo l = [exprA .bo e] ∧ sepL (termsT l) = r ∧ r.length ≤ 4194304 ∧ FnA Tryz.prog 113 false [exprA .bo e] [] (fun r' os ros => r' = .hd 100 [] ∧ os = [] ∧ ros = [(3, toksA r)]) := by
    intro h1
    obtain ⟨e, rfl⟩ := List.length_eq_one_iff.1 (h2 h1)
    have ge := hgd e (by simp)
    have ht2 : e.tot ≤ 1048576 := by simp only [ExprV.totL] at ht; omega
    refine ⟨e, e.toks, by simp [exprsA], by simp [termsT, sepL], ?_, l10Tokens_ok e ge ht2⟩
    have := ExprV.toks_len e ge
    omega
  have hel := exprsA_len .bo l
  have hnil : k = 0 ∨ k = 1 ∨ k = 6 ∨ k = 8 → sepL (termsT l) = [] := fun h => by rw [List.eq_nil_of_length_eq_zero (h0 h)]; rfl
  clear h0 h2 h3 hx hgd
  rw [lineA_mk] at hIns ⊢
  refine FnA.of Tryz.func58 rfl (by decide) Tryz.ntmps58 (by simp) ?_
  rcases (by omega : k = 0 ∨ k = 1 ∨ k = 2 ∨ k = 3 ∨ k = 4 ∨ k = 5 ∨ k = 6 ∨ k = 7 ∨ k = 8) with rfl | rfl | rfl | rfl | rfl | rfl | rfl | rfl | rfl
  · clear hIns hTm hT
    repeat' (first | refine ⟨by omega, ?_⟩ | (refine hJ _ _ (RunsL.nil ?_); clear hJ J) | refine RunsA.cond rfl (fun h => ?_) (fun h => absurd h (by decide)) | refine RunsA.cond rfl (fun h => absurd h (by decide)) (fun h => ?_) | (refine step_ ?_) | (refine RunsA.rk 5 [9] tabOk fun J hJ => ?_; simp only [go_sem, ↓reduceIte, Nat.reduceAdd, Nat.reduceSub, Nat.reduceMul, Nat.reduceLT, Nat.reduceLeDiff, Nat.reduceEqDiff, Nat.reduceBEq, Int.reduceToNat, toksA_len, List.length_append, List.length_cons, List.length_nil, Int.reduceBEq, brw_exprs]; try simp (disch := omega) only [wrap_id]) | simp only [↓reduceIte, not_false_eq_true, toksA_len, List.length_append, List.length_cons, List.length_nil, Int.reduceBEq, brw_exprs])
    refine RetA.v tabOk rfl ?_
    simp only [go_sem, ↓reduceIte, Nat.reduceAdd, Nat.reduceSub, Nat.reduceMul, Nat.reduceLT, Nat.reduceLeDiff, Nat.reduceEqDiff, Nat.reduceBEq, Int.reduceToNat]
    refine RetV.ren (id := 16640) (id' := 100) (by simp only [go_sem, ↓reduceIte, Nat.reduceAdd, Nat.reduceSub, Nat.reduceMul, Nat.reduceLT, Nat.reduceLeDiff, Nat.reduceEqDiff, Nat.reduceBEq, Int.reduceToNat]; rfl) ?_
    simp only [go_sem, ↓reduceIte, Nat.reduceAdd, Nat.reduceSub, Nat.reduceMul, Nat.reduceLT, Nat.reduceLeDiff, Nat.reduceEqDiff, Nat.reduceBEq, Int.reduceToNat]
    exact RetV.mk 1 rfl rfl (by omega) rfl (by simp [noBoO, noBoL, noBo, noBo_toks, noBoLapp]) rfl ⟨rfl, rfl, by simp [LineV.toks, dotT, nameT, toksA, tokA, markT, keptT]⟩
  · clear hIns hTm hT
    repeat' (first | refine ⟨by omega, ?_⟩ | (refine hJ _ _ (RunsL.nil ?_); clear hJ J) | refine RunsA.cond rfl (fun h => ?_) (fun h => absurd h (by decide)) | refine RunsA.cond rfl (fun h => absurd h (by decide)) (fun h => ?_) | (refine step_ ?_) | (refine RunsA.rk 5 [9] tabOk fun J hJ => ?_; simp only [go_sem, ↓reduceIte, Nat.reduceAdd, Nat.reduceSub, Nat.reduceMul, Nat.reduceLT, Nat.reduceLeDiff, Nat.reduceEqDiff, Nat.reduceBEq, Int.reduceToNat, toksA_len, List.length_append, List.length_cons, List.length_nil, Int.reduceBEq, brw_exprs]; try simp (disch := omega) only [wrap_id]) | simp only [↓reduceIte, not_false_eq_true, toksA_len, List.length_append, List.length_cons, List.length_nil, Int.reduceBEq, brw_exprs])
    refine RunsA.dag (Ω := Unit) mixed () [(1, [(0, 0)]), (2, [(0, 1)]), (3, [(1, 1), (2, 0)]), (7, [(3, 2)]), (15, [(7, 3)])] (by kernel_rfl) ?_
    repeat
      (apply DagP.step
       · repeat
           (apply EdgesP.cons rfl rfl
            · intro ω
              refine RunsL.go tabOk fun J hJ => ?_
              simp only [go_sem, ↓reduceIte, Nat.reduceAdd, Nat.reduceSub, Nat.reduceMul, Nat.reduceLT, Nat.reduceLeDiff, Nat.reduceEqDiff, Nat.reduceBEq, Int.reduceToNat, toksA_len, List.length_append, List.length_cons, List.length_nil, Int.reduceBEq, brw_exprs]
              try simp (disch := omega) only [wrap_id]
              (repeat refine ⟨by omega, ?_⟩)
              first
                | (refine hJ _ _ (RunsL.nil ?_); clear hJ J; first | exact ⟨ω, LeS.refl _⟩ | exact ⟨ω, LeS.of rfl (by simp only [SubS, lookS, Nat.reduceEqDiff, ↓reduceIte, and_self]) (by simp only [SubO, lookO, Nat.reduceEqDiff, ↓reduceIte, and_self]) rfl⟩)
                | (refine hJ _ _ (RunsL.call (ps := []) (rid := 16) rfl rfl rfl rfl rfl (by simp only [go_sem, Nat.reduceEqDiff, toksA_len, List.length_append, List.length_cons, List.length_nil, Int.reduceBEq, brw_exprs]; first | done | rfl) (l10Mark_ok [58]) rfl (by decide) ⟨by decide, by decide, rfl⟩ (by first | exact .inl rfl | exact .inr (.inl rfl) | exact .inr (.inr rfl)) ?_); clear hJ J
                   rintro r os' ros ⟨rfl, rfl, rfl⟩ _
                   refine RunsL.go tabOk fun J hJ => ?_
                   simp only [go_sem, ↓reduceIte, Nat.reduceAdd, Nat.reduceSub, Nat.reduceMul, Nat.reduceLT, Nat.reduceLeDiff, Nat.reduceEqDiff, Nat.reduceBEq, Int.reduceToNat, toksA_len, List.length_append, List.length_cons, List.length_nil, Int.reduceBEq, brw_exprs]
                   try simp (disch := omega) only [wrap_id]
                   (repeat refine ⟨by omega, ?_⟩)
                   refine hJ _ _ (RunsL.nil ?_)
                   clear hJ J
                   first | exact ⟨ω, LeS.refl _⟩ | exact ⟨ω, LeS.of rfl (by simp only [SubS, lookS, Nat.reduceEqDiff, ↓reduceIte, and_self]) (by simp only [SubO, lookO, Nat.reduceEqDiff, ↓reduceIte, and_self]) rfl⟩))
         exact EdgesP.nil)
    refine DagP.done fun ω => ?_
    refine run_ ?_
    refine RetA.v tabOk rfl ?_
    simp only [go_sem, ↓reduceIte, Nat.reduceAdd, Nat.reduceSub, Nat.reduceMul, Nat.reduceLT, Nat.reduceLeDiff, Nat.reduceEqDiff, Nat.reduceBEq, Int.reduceToNat]
    refine RetV.ren (id := 3840) (id' := 100) (by simp only [go_sem, ↓reduceIte, Nat.reduceAdd, Nat.reduceSub, Nat.reduceMul, Nat.reduceLT, Nat.reduceLeDiff, Nat.reduceEqDiff, Nat.reduceBEq, Int.reduceToNat]; rfl) ?_
    simp only [go_sem, ↓reduceIte, Nat.reduceAdd, Nat.reduceSub, Nat.reduceMul, Nat.reduceLT, Nat.reduceLeDiff, Nat.reduceEqDiff, Nat.reduceBEq, Int.reduceToNat]
    exact RetV.mk 1 rfl rfl (by omega) rfl (by simp [noBoO, noBoL, noBo, noBo_toks, noBoLapp]) rfl ⟨rfl, rfl, by simp [LineV.toks, dotT, nameT, toksA, tokA, markT, keptT]⟩
  · obtain ⟨e, r, hRL, hr, hrl, hTE⟩ := hT rfl
    clear hIns hTm hT
    rw [exprA_un] at hTE hRL
    rw [hRL]
    repeat' (first | refine ⟨by omega, ?_⟩ | (refine hJ _ _ (RunsL.nil ?_); clear hJ J) | refine RunsA.cond rfl (fun h => ?_) (fun h => absurd h (by decide)) | refine RunsA.cond rfl (fun h => absurd h (by decide)) (fun h => ?_) | (refine step_ ?_) | (refine RunsA.rk 5 [9] tabOk fun J hJ => ?_; simp only [go_sem, ↓reduceIte, Nat.reduceAdd, Nat.reduceSub, Nat.reduceMul, Nat.reduceLT, Nat.reduceLeDiff, Nat.reduceEqDiff, Nat.reduceBEq, Int.reduceToNat, toksA_len, List.length_append, List.length_cons, List.length_nil, Int.reduceBEq, brw_exprs]; try simp (disch := omega) only [wrap_id]) | simp only [↓reduceIte, not_false_eq_true, toksA_len, List.length_append, List.length_cons, List.length_nil, Int.reduceBEq, brw_exprs])
    refine RunsA.dag (Ω := Unit) mixed () [(1, [(0, 0)]), (2, [(0, 1)]), (8, [(0, 3)]), (3, [(1, 1), (2, 0)]), (9, [(1, 3), (8, 0)]), (10, [(2, 3), (8, 1)]), (24, [(8, 4)]), (7, [(3, 2)]), (11, [(3, 3), (9, 1), (10, 0)]), (25, [(9, 4), (24, 0)]), (26, [(10, 4), (24, 1)]), (56, [(24, 5)]), (15, [(7, 3), (11, 2)]), (27, [(11, 4), (25, 1), (26, 0)]), (57, [(25, 5), (56, 0)]), (58, [(26, 5), (56, 1)]), (120, [(56, 6)]), (31, [(15, 4), (27, 2)]), (59, [(27, 5), (57, 1), (58, 0)]), (121, [(57, 6), (120, 0)]), (122, [(58, 6), (120, 1)]), (63, [(31, 5), (59, 2)]), (123, [(59, 6), (121, 1), (122, 0)]), (250, [(122, 7)]), (127, [(63, 6), (123, 2)]), (251, [(123, 7), (250, 0)]), (255, [(127, 7), (251, 2)]), (511, [(255, 8)]), (1023, [(511, 9)])] (by kernel_rfl) ?_
    repeat
      (apply DagP.step
       · repeat
           (apply EdgesP.cons rfl rfl
            · intro ω
              refine RunsL.go tabOk fun J hJ => ?_
              simp only [go_sem, ↓reduceIte, Nat.reduceAdd, Nat.reduceSub, Nat.reduceMul, Nat.reduceLT, Nat.reduceLeDiff, Nat.reduceEqDiff, Nat.reduceBEq, Int.reduceToNat, toksA_len, List.length_append, List.length_cons, List.length_nil, Int.reduceBEq, brw_exprs]
              try simp (disch := omega) only [wrap_id]
              (repeat refine ⟨by omega, ?_⟩)
              first
                | (refine hJ _ _ (RunsL.nil ?_); clear hJ J; first | exact ⟨ω, LeS.refl _⟩ | exact ⟨ω, LeS.of rfl (by simp only [SubS, lookS, Nat.reduceEqDiff, ↓reduceIte, and_self]) (by simp only [SubO, lookO, Nat.reduceEqDiff, ↓reduceIte, and_self]) rfl⟩)
                | (refine hJ _ _ (RunsL.call (ps := []) (rid := 16) rfl rfl rfl rfl rfl (by simp only [go_sem, Nat.reduceEqDiff, toksA_len, List.length_append, List.length_cons, List.length_nil, Int.reduceBEq, brw_exprs]; first | done | rfl) (l10Mark_ok [61]) rfl (by decide) ⟨by decide, by decide, rfl⟩ (by first | exact .inl rfl | exact .inr (.inl rfl) | exact .inr (.inr rfl)) ?_); clear hJ J
                   rintro r os' ros ⟨rfl, rfl, rfl⟩ _
                   refine RunsL.go tabOk fun J hJ => ?_
                   simp only [go_sem, ↓reduceIte, Nat.reduceAdd, Nat.reduceSub, Nat.reduceMul, Nat.reduceLT, Nat.reduceLeDiff, Nat.reduceEqDiff, Nat.reduceBEq, Int.reduceToNat, toksA_len, List.length_append, List.length_cons, List.length_nil, Int.reduceBEq, brw_exprs]
                   try simp (disch := omega) only [wrap_id]
                   (repeat refine ⟨by omega, ?_⟩)
                   refine hJ _ _ (RunsL.nil ?_)
                   clear hJ J
                   first | exact ⟨ω, LeS.refl _⟩ | exact ⟨ω, LeS.of rfl (by simp only [SubS, lookS, Nat.reduceEqDiff, ↓reduceIte, and_self]) (by simp only [SubO, lookO, Nat.reduceEqDiff, ↓reduceIte, and_self]) rfl⟩)
                | (refine hJ _ _ (RunsL.call (ps := []) (rid := 6400) rfl rfl rfl rfl rfl (by simp only [go_sem, Nat.reduceEqDiff, toksA_len, List.length_append, List.length_cons, List.length_nil, Int.reduceBEq, brw_exprs]; first | done | rfl) (hTE) rfl (by decide) ⟨by decide, by decide, rfl⟩ (by first | exact .inl rfl | exact .inr (.inl rfl) | exact .inr (.inr rfl)) ?_); clear hJ J
                   rintro r os' ros ⟨rfl, rfl, rfl⟩ _
                   refine RunsL.go tabOk fun J hJ => ?_
                   simp only [go_sem, ↓reduceIte, Nat.reduceAdd, Nat.reduceSub, Nat.reduceMul, Nat.reduceLT, Nat.reduceLeDiff, Nat.reduceEqDiff, Nat.reduceBEq, Int.reduceToNat, toksA_len, List.length_append, List.length_cons, List.length_nil, Int.reduceBEq, brw_exprs]
                   try simp (disch := omega) only [wrap_id]
                   (repeat refine ⟨by omega, ?_⟩)
                   refine hJ _ _ (RunsL.nil ?_)
                   clear hJ J
                   first | exact ⟨ω, LeS.refl _⟩ | exact ⟨ω, LeS.of rfl (by simp only [SubS, lookS, Nat.reduceEqDiff, ↓reduceIte, and_self]) (by simp only [SubO, lookO, Nat.reduceEqDiff, ↓reduceIte, and_self]) rfl⟩))
         exact EdgesP.nil)
    refine DagP.done fun ω => ?_
    refine run_ ?_
    refine RetA.v tabOk rfl ?_
    simp only [go_sem, ↓reduceIte, Nat.reduceAdd, Nat.reduceSub, Nat.reduceMul, Nat.reduceLT, Nat.reduceLeDiff, Nat.reduceEqDiff, Nat.reduceBEq, Int.reduceToNat]
    refine RetV.ren (id := 5120) (id' := 100) (by simp only [go_sem, ↓reduceIte, Nat.reduceAdd, Nat.reduceSub, Nat.reduceMul, Nat.reduceLT, Nat.reduceLeDiff, Nat.reduceEqDiff, Nat.reduceBEq, Int.reduceToNat]; rfl) ?_
    simp only [go_sem, ↓reduceIte, Nat.reduceAdd, Nat.reduceSub, Nat.reduceMul, Nat.reduceLT, Nat.reduceLeDiff, Nat.reduceEqDiff, Nat.reduceBEq, Int.reduceToNat]
    exact RetV.mk 1 rfl rfl (by omega) rfl (by simp [noBoO, noBoL, noBo, noBo_toks, noBoLapp]) rfl ⟨rfl, rfl, by simp [LineV.toks, dotT, nameT, toksA, tokA, markT, keptT, hr]⟩
  · have hI := hIns rfl
    clear hIns hTm hT
    repeat' (first | refine ⟨by omega, ?_⟩ | (refine hJ _ _ (RunsL.nil ?_); clear hJ J) | refine RunsA.cond rfl (fun h => ?_) (fun h => absurd h (by decide)) | refine RunsA.cond rfl (fun h => absurd h (by decide)) (fun h => ?_) | (refine step_ ?_) | (refine RunsA.rk 5 [9] tabOk fun J hJ => ?_; simp only [go_sem, ↓reduceIte, Nat.reduceAdd, Nat.reduceSub, Nat.reduceMul, Nat.reduceLT, Nat.reduceLeDiff, Nat.reduceEqDiff, Nat.reduceBEq, Int.reduceToNat, toksA_len, List.length_append, List.length_cons, List.length_nil, Int.reduceBEq, brw_exprs]; try simp (disch := omega) only [wrap_id]) | simp only [↓reduceIte, not_false_eq_true, toksA_len, List.length_append, List.length_cons, List.length_nil, Int.reduceBEq, brw_exprs])
    refine hJ _ _ (RunsL.call (ps := []) (rid := 7680) rfl rfl rfl rfl rfl (by simp only [go_sem, Nat.reduceEqDiff, brw_exprs]; first | done | rfl) (hI) rfl (by decide) ⟨by decide, by decide, rfl⟩ (by first | exact .inl rfl | exact .inr (.inl rfl) | exact .inr (.inr rfl)) ?_); clear hJ J
    rintro r os' ros ⟨rfl, rfl, rfl⟩ _
    refine RunsL.go tabOk fun J hJ => ?_
    simp only [go_sem, ↓reduceIte, Nat.reduceAdd, Nat.reduceSub, Nat.reduceMul, Nat.reduceLT, Nat.reduceLeDiff, Nat.reduceEqDiff, Nat.reduceBEq, Int.reduceToNat, toksA_len, List.length_append, List.length_cons, List.length_nil, Int.reduceBEq, brw_exprs]
    try simp (disch := omega) only [wrap_id]
    (repeat refine ⟨by omega, ?_⟩)
    refine hJ _ _ (RunsL.nil ?_); clear hJ J
    refine run_ ?_
    refine RetA.v tabOk rfl ?_
    simp only [go_sem, ↓reduceIte, Nat.reduceAdd, Nat.reduceSub, Nat.reduceMul, Nat.reduceLT, Nat.reduceLeDiff, Nat.reduceEqDiff, Nat.reduceBEq, Int.reduceToNat]
    refine RetV.ren (id := 7680) (id' := 100) (by simp only [go_sem, ↓reduceIte, Nat.reduceAdd, Nat.reduceSub, Nat.reduceMul, Nat.reduceLT, Nat.reduceLeDiff, Nat.reduceEqDiff, Nat.reduceBEq, Int.reduceToNat]; rfl) ?_
    simp only [go_sem, ↓reduceIte, Nat.reduceAdd, Nat.reduceSub, Nat.reduceMul, Nat.reduceLT, Nat.reduceLeDiff, Nat.reduceEqDiff, Nat.reduceBEq, Int.reduceToNat]
    exact RetV.mk 1 rfl rfl (by omega) rfl (by simp [noBoO, noBoL, noBo, noBo_toks, noBoLapp]) rfl ⟨rfl, rfl, by simp [LineV.toks, dotT, nameT, toksA, tokA, markT, keptT]⟩
  · clear hIns hT
    repeat' (first | refine ⟨by omega, ?_⟩ | (refine hJ _ _ (RunsL.nil ?_); clear hJ J) | refine RunsA.cond rfl (fun h => ?_) (fun h => absurd h (by decide)) | refine RunsA.cond rfl (fun h => absurd h (by decide)) (fun h => ?_) | (refine step_ ?_) | (refine RunsA.rk 5 [9] tabOk fun J hJ => ?_; simp only [go_sem, ↓reduceIte, Nat.reduceAdd, Nat.reduceSub, Nat.reduceMul, Nat.reduceLT, Nat.reduceLeDiff, Nat.reduceEqDiff, Nat.reduceBEq, Int.reduceToNat, toksA_len, List.length_append, List.length_cons, List.length_nil, Int.reduceBEq, brw_exprs]; try simp (disch := omega) only [wrap_id]) | simp only [↓reduceIte, not_false_eq_true, toksA_len, List.length_append, List.length_cons, List.length_nil, Int.reduceBEq, brw_exprs])
    refine hJ _ _ (RunsL.call (ps := []) (rid := 8960) rfl rfl rfl rfl rfl (by simp only [go_sem, Nat.reduceEqDiff, brw_exprs]; first | done | rfl) (hTm _) rfl (by decide) ⟨by decide, by decide, rfl⟩ (by first | exact .inl rfl | exact .inr (.inl rfl) | exact .inr (.inr rfl)) ?_); clear hJ J
    rintro r os' ros ⟨rfl, rfl, rfl⟩ _
    refine RunsL.go tabOk fun J hJ => ?_
    simp only [go_sem, ↓reduceIte, Nat.reduceAdd, Nat.reduceSub, Nat.reduceMul, Nat.reduceLT, Nat.reduceLeDiff, Nat.reduceEqDiff, Nat.reduceBEq, Int.reduceToNat, toksA_len, List.length_append, List.length_cons, List.length_nil, Int.reduceBEq, brw_exprs]
    try simp (disch := omega) only [wrap_id]
    (repeat refine ⟨by omega, ?_⟩)
    refine hJ _ _ (RunsL.nil ?_); clear hJ J
    refine run_ ?_
    refine RetA.v tabOk rfl ?_
    simp only [go_sem, ↓reduceIte, Nat.reduceAdd, Nat.reduceSub, Nat.reduceMul, Nat.reduceLT, Nat.reduceLeDiff, Nat.reduceEqDiff, Nat.reduceBEq, Int.reduceToNat]
    refine RetV.ren (id := 8960) (id' := 100) (by simp only [go_sem, ↓reduceIte, Nat.reduceAdd, Nat.reduceSub, Nat.reduceMul, Nat.reduceLT, Nat.reduceLeDiff, Nat.reduceEqDiff, Nat.reduceBEq, Int.reduceToNat]; rfl) ?_
    simp only [go_sem, ↓reduceIte, Nat.reduceAdd, Nat.reduceSub, Nat.reduceMul, Nat.reduceLT, Nat.reduceLeDiff, Nat.reduceEqDiff, Nat.reduceBEq, Int.reduceToNat]
    exact RetV.mk 1 rfl rfl (by omega) rfl (by simp [noBoO, noBoL, noBo, noBo_toks, noBoLapp]) rfl ⟨rfl, rfl, by simp [LineV.toks, dotT, nameT, toksA, tokA, markT, keptT]⟩
  · clear hIns hT
    repeat' (first | refine ⟨by omega, ?_⟩ | (refine hJ _ _ (RunsL.nil ?_); clear hJ J) | refine RunsA.cond rfl (fun h => ?_) (fun h => absurd h (by decide)) | refine RunsA.cond rfl (fun h => absurd h (by decide)) (fun h => ?_) | (refine step_ ?_) | (refine RunsA.rk 5 [9] tabOk fun J hJ => ?_; simp only [go_sem, ↓reduceIte, Nat.reduceAdd, Nat.reduceSub, Nat.reduceMul, Nat.reduceLT, Nat.reduceLeDiff, Nat.reduceEqDiff, Nat.reduceBEq, Int.reduceToNat, toksA_len, List.length_append, List.length_cons, List.length_nil, Int.reduceBEq, brw_exprs]; try simp (disch := omega) only [wrap_id]) | simp only [↓reduceIte, not_false_eq_true, toksA_len, List.length_append, List.length_cons, List.length_nil, Int.reduceBEq, brw_exprs])
    refine hJ _ _ (RunsL.call (ps := []) (rid := 10240) rfl rfl rfl rfl rfl (by simp only [go_sem, Nat.reduceEqDiff, brw_exprs]; first | done | rfl) (hTm _) rfl (by decide) ⟨by decide, by decide, rfl⟩ (by first | exact .inl rfl | exact .inr (.inl rfl) | exact .inr (.inr rfl)) ?_); clear hJ J
    rintro r os' ros ⟨rfl, rfl, rfl⟩ _
    refine RunsL.go tabOk fun J hJ => ?_
    simp only [go_sem, ↓reduceIte, Nat.reduceAdd, Nat.reduceSub, Nat.reduceMul, Nat.reduceLT, Nat.reduceLeDiff, Nat.reduceEqDiff, Nat.reduceBEq, Int.reduceToNat, toksA_len, List.length_append, List.length_cons, List.length_nil, Int.reduceBEq, brw_exprs]
    try simp (disch := omega) only [wrap_id]
    (repeat refine ⟨by omega, ?_⟩)
    refine hJ _ _ (RunsL.nil ?_); clear hJ J
    refine run_ ?_
    refine RetA.v tabOk rfl ?_
    simp only [go_sem, ↓reduceIte, Nat.reduceAdd, Nat.reduceSub, Nat.reduceMul, Nat.reduceLT, Nat.reduceLeDiff, Nat.reduceEqDiff, Nat.reduceBEq, Int.reduceToNat]
    refine RetV.ren (id := 10240) (id' := 100) (by simp only [go_sem, ↓reduceIte, Nat.reduceAdd, Nat.reduceSub, Nat.reduceMul, Nat.reduceLT, Nat.reduceLeDiff, Nat.reduceEqDiff, Nat.reduceBEq, Int.reduceToNat]; rfl) ?_
    simp only [go_sem, ↓reduceIte, Nat.reduceAdd, Nat.reduceSub, Nat.reduceMul, Nat.reduceLT, Nat.reduceLeDiff, Nat.reduceEqDiff, Nat.reduceBEq, Int.reduceToNat]
    exact RetV.mk 1 rfl rfl (by omega) rfl (by simp [noBoO, noBoL, noBo, noBo_toks, noBoLapp]) rfl ⟨rfl, rfl, by simp [LineV.toks, dotT, nameT, toksA, tokA, markT, keptT]⟩
  · clear hIns hTm hT
    by_cases c : n = 1
    · subst c
      repeat' (first | refine ⟨by omega, ?_⟩ | (refine hJ _ _ (RunsL.nil ?_); clear hJ J) | refine RunsA.cond rfl (fun h => ?_) (fun h => absurd h (by decide)) | refine RunsA.cond rfl (fun h => absurd h (by decide)) (fun h => ?_) | (refine step_ ?_) | (refine RunsA.rk 5 [9] tabOk fun J hJ => ?_; simp only [go_sem, ↓reduceIte, Nat.reduceAdd, Nat.reduceSub, Nat.reduceMul, Nat.reduceLT, Nat.reduceLeDiff, Nat.reduceEqDiff, Nat.reduceBEq, Int.reduceToNat, toksA_len, List.length_append, List.length_cons, List.length_nil, Int.reduceBEq, brw_exprs]; try simp (disch := omega) only [wrap_id]) | (refine hJ _ _ (RunsL.call (ps := []) (rid := 16) rfl rfl rfl rfl rfl (by simp only [go_sem, Nat.reduceEqDiff]; first | done | rfl) (l10Mark_ok _) rfl (by decide) ⟨by decide, by decide, rfl⟩ (by first | exact .inl rfl | exact .inr (.inl rfl) | exact .inr (.inr rfl)) ?_); clear hJ J; rintro r os' ros ⟨rfl, rfl, rfl⟩ _; refine RunsL.go tabOk fun J hJ => ?_; simp only [go_sem, ↓reduceIte, Nat.reduceAdd, Nat.reduceSub, Nat.reduceMul, Nat.reduceLT, Nat.reduceLeDiff, Nat.reduceEqDiff, Nat.reduceBEq, Int.reduceToNat, toksA_len, List.length_append, List.length_cons, List.length_nil, Int.reduceBEq, brw_exprs]; try simp (disch := omega) only [wrap_id]) | simp only [↓reduceIte, not_false_eq_true, toksA_len, List.length_append, List.length_cons, List.length_nil, Int.reduceBEq, brw_exprs])
      refine RetA.v tabOk rfl ?_
      simp only [go_sem, ↓reduceIte, Nat.reduceAdd, Nat.reduceSub, Nat.reduceMul, Nat.reduceLT, Nat.reduceLeDiff, Nat.reduceEqDiff, Nat.reduceBEq, Int.reduceToNat]
      refine RetV.ren (id := 14080) (id' := 100) (by simp only [go_sem, ↓reduceIte, Nat.reduceAdd, Nat.reduceSub, Nat.reduceMul, Nat.reduceLT, Nat.reduceLeDiff, Nat.reduceEqDiff, Nat.reduceBEq, Int.reduceToNat]; rfl) ?_
      simp only [go_sem, ↓reduceIte, Nat.reduceAdd, Nat.reduceSub, Nat.reduceMul, Nat.reduceLT, Nat.reduceLeDiff, Nat.reduceEqDiff, Nat.reduceBEq, Int.reduceToNat]
      exact RetV.mk 1 rfl rfl (by omega) rfl (by simp [noBoO, noBoL, noBo, noBo_toks, noBoLapp]) rfl ⟨rfl, rfl, by simp [LineV.toks, dotT, nameT, toksA, tokA, markT, keptT]⟩
    · have e1 : (n == 1) = false := by simpa using c
      repeat' (first | refine ⟨by omega, ?_⟩ | (refine hJ _ _ (RunsL.nil ?_); clear hJ J) | refine RunsA.cond rfl (fun h => ?_) (fun h => absurd h (by decide)) | refine RunsA.cond rfl (fun h => absurd h (by decide)) (fun h => ?_) | (refine step_ ?_) | (refine RunsA.rk 5 [9] tabOk fun J hJ => ?_; simp only [go_sem, ↓reduceIte, Nat.reduceAdd, Nat.reduceSub, Nat.reduceMul, Nat.reduceLT, Nat.reduceLeDiff, Nat.reduceEqDiff, Nat.reduceBEq, Int.reduceToNat, e1, toksA_len, List.length_append, List.length_cons, List.length_nil, Int.reduceBEq, brw_exprs]; try simp (disch := omega) only [wrap_id]) | (refine hJ _ _ (RunsL.call (ps := []) (rid := 16) rfl rfl rfl rfl rfl (by simp only [go_sem, Nat.reduceEqDiff]; first | done | rfl) (l10Mark_ok _) rfl (by decide) ⟨by decide, by decide, rfl⟩ (by first | exact .inl rfl | exact .inr (.inl rfl) | exact .inr (.inr rfl)) ?_); clear hJ J; rintro r os' ros ⟨rfl, rfl, rfl⟩ _; refine RunsL.go tabOk fun J hJ => ?_; simp only [go_sem, ↓reduceIte, Nat.reduceAdd, Nat.reduceSub, Nat.reduceMul, Nat.reduceLT, Nat.reduceLeDiff, Nat.reduceEqDiff, Nat.reduceBEq, Int.reduceToNat, e1, toksA_len, List.length_append, List.length_cons, List.length_nil, Int.reduceBEq, brw_exprs]; try simp (disch := omega) only [wrap_id]) | simp only [↓reduceIte, not_false_eq_true, e1, toksA_len, List.length_append, List.length_cons, List.length_nil, Int.reduceBEq, brw_exprs])
      refine RetA.v tabOk rfl ?_
      simp only [go_sem, ↓reduceIte, Nat.reduceAdd, Nat.reduceSub, Nat.reduceMul, Nat.reduceLT, Nat.reduceLeDiff, Nat.reduceEqDiff, Nat.reduceBEq, Int.reduceToNat]
      refine RetV.ren (id := 14080) (id' := 100) (by simp only [go_sem, ↓reduceIte, Nat.reduceAdd, Nat.reduceSub, Nat.reduceMul, Nat.reduceLT, Nat.reduceLeDiff, Nat.reduceEqDiff, Nat.reduceBEq, Int.reduceToNat]; rfl) ?_
      simp only [go_sem, ↓reduceIte, Nat.reduceAdd, Nat.reduceSub, Nat.reduceMul, Nat.reduceLT, Nat.reduceLeDiff, Nat.reduceEqDiff, Nat.reduceBEq, Int.reduceToNat]
      exact RetV.mk 1 rfl rfl (by omega) rfl (by simp [noBoO, noBoL, noBo, noBo_toks, noBoLapp]) rfl ⟨rfl, rfl, by simp [LineV.toks, dotT, nameT, toksA, tokA, markT, keptT, c]⟩
  · clear hIns hT
    repeat' (first | refine ⟨by omega, ?_⟩ | (refine hJ _ _ (RunsL.nil ?_); clear hJ J) | refine RunsA.cond rfl (fun h => ?_) (fun h => absurd h (by decide)) | refine RunsA.cond rfl (fun h => absurd h (by decide)) (fun h => ?_) | (refine step_ ?_) | (refine RunsA.rk 5 [9] tabOk fun J hJ => ?_; simp only [go_sem, ↓reduceIte, Nat.reduceAdd, Nat.reduceSub, Nat.reduceMul, Nat.reduceLT, Nat.reduceLeDiff, Nat.reduceEqDiff, Nat.reduceBEq, Int.reduceToNat, toksA_len, List.length_append, List.length_cons, List.length_nil, Int.reduceBEq, brw_exprs]; try simp (disch := omega) only [wrap_id]) | simp only [↓reduceIte, not_false_eq_true, toksA_len, List.length_append, List.length_cons, List.length_nil, Int.reduceBEq, brw_exprs])
    refine hJ _ _ (RunsL.call (ps := []) (rid := 11520) rfl rfl rfl rfl rfl (by simp only [go_sem, Nat.reduceEqDiff, brw_exprs]; first | done | rfl) (hTm _) rfl (by decide) ⟨by decide, by decide, rfl⟩ (by first | exact .inl rfl | exact .inr (.inl rfl) | exact .inr (.inr rfl)) ?_); clear hJ J
    rintro r os' ros ⟨rfl, rfl, rfl⟩ _
    refine RunsL.go tabOk fun J hJ => ?_
    simp only [go_sem, ↓reduceIte, Nat.reduceAdd, Nat.reduceSub, Nat.reduceMul, Nat.reduceLT, Nat.reduceLeDiff, Nat.reduceEqDiff, Nat.reduceBEq, Int.reduceToNat, toksA_len, List.length_append, List.length_cons, List.length_nil, Int.reduceBEq, brw_exprs]
    try simp (disch := omega) only [wrap_id]
    (repeat refine ⟨by omega, ?_⟩)
    refine hJ _ _ (RunsL.nil ?_); clear hJ J
    refine run_ ?_
    refine RetA.v tabOk rfl ?_
    simp only [go_sem, ↓reduceIte, Nat.reduceAdd, Nat.reduceSub, Nat.reduceMul, Nat.reduceLT, Nat.reduceLeDiff, Nat.reduceEqDiff, Nat.reduceBEq, Int.reduceToNat]
    refine RetV.ren (id := 11520) (id' := 100) (by simp only [go_sem, ↓reduceIte, Nat.reduceAdd, Nat.reduceSub, Nat.reduceMul, Nat.reduceLT, Nat.reduceLeDiff, Nat.reduceEqDiff, Nat.reduceBEq, Int.reduceToNat]; rfl) ?_
    simp only [go_sem, ↓reduceIte, Nat.reduceAdd, Nat.reduceSub, Nat.reduceMul, Nat.reduceLT, Nat.reduceLeDiff, Nat.reduceEqDiff, Nat.reduceBEq, Int.reduceToNat]
    exact RetV.mk 1 rfl rfl (by omega) rfl (by simp [noBoO, noBoL, noBo, noBo_toks, noBoLapp]) rfl ⟨rfl, rfl, by simp [LineV.toks, dotT, nameT, toksA, tokA, markT, keptT]⟩
  · clear hIns hT
    repeat' (first | refine ⟨by omega, ?_⟩ | (refine hJ _ _ (RunsL.nil ?_); clear hJ J) | refine RunsA.cond rfl (fun h => ?_) (fun h => absurd h (by decide)) | refine RunsA.cond rfl (fun h => absurd h (by decide)) (fun h => ?_) | (refine step_ ?_) | (refine RunsA.rk 5 [9] tabOk fun J hJ => ?_; simp only [go_sem, ↓reduceIte, Nat.reduceAdd, Nat.reduceSub, Nat.reduceMul, Nat.reduceLT, Nat.reduceLeDiff, Nat.reduceEqDiff, Nat.reduceBEq, Int.reduceToNat, toksA_len, List.length_append, List.length_cons, List.length_nil, Int.reduceBEq, brw_exprs]; try simp (disch := omega) only [wrap_id]) | simp only [↓reduceIte, not_false_eq_true, toksA_len, List.length_append, List.length_cons, List.length_nil, Int.reduceBEq, brw_exprs])
    refine hJ _ _ (RunsL.call (ps := []) (rid := 12800) rfl rfl rfl rfl rfl (by simp only [go_sem, Nat.reduceEqDiff, brw_exprs]; first | done | rfl) (hTm _) rfl (by decide) ⟨by decide, by decide, rfl⟩ (by first | exact .inl rfl | exact .inr (.inl rfl) | exact .inr (.inr rfl)) ?_); clear hJ J
    rintro r os' ros ⟨rfl, rfl, rfl⟩ _
    refine RunsL.go tabOk fun J hJ => ?_
    simp only [go_sem, ↓reduceIte, Nat.reduceAdd, Nat.reduceSub, Nat.reduceMul, Nat.reduceLT, Nat.reduceLeDiff, Nat.reduceEqDiff, Nat.reduceBEq, Int.reduceToNat, toksA_len, List.length_append, List.length_cons, List.length_nil, Int.reduceBEq, brw_exprs]
    try simp (disch := omega) only [wrap_id]
    (repeat refine ⟨by omega, ?_⟩)
    refine hJ _ _ (RunsL.nil ?_); clear hJ J
    refine run_ ?_
    refine RetA.v tabOk rfl ?_
    simp only [go_sem, ↓reduceIte, Nat.reduceAdd, Nat.reduceSub, Nat.reduceMul, Nat.reduceLT, Nat.reduceLeDiff, Nat.reduceEqDiff, Nat.reduceBEq, Int.reduceToNat]
    refine RetV.ren (id := 12800) (id' := 100) (by simp only [go_sem, ↓reduceIte, Nat.reduceAdd, Nat.reduceSub, Nat.reduceMul, Nat.reduceLT, Nat.reduceLeDiff, Nat.reduceEqDiff, Nat.reduceBEq, Int.reduceToNat]; rfl) ?_
    simp only [go_sem, ↓reduceIte, Nat.reduceAdd, Nat.reduceSub, Nat.reduceMul, Nat.reduceLT, Nat.reduceLeDiff, Nat.reduceEqDiff, Nat.reduceBEq, Int.reduceToNat]
    exact RetV.mk 1 rfl rfl (by omega) rfl (by simp [noBoO, noBoL, noBo, noBo_toks, noBoLapp]) rfl ⟨rfl, rfl, by simp [LineV.toks, dotT, nameT, toksA, tokA, markT, keptT]⟩
end Go.Proofs.YtgjeemfggfhibaaGreatDoorFw
