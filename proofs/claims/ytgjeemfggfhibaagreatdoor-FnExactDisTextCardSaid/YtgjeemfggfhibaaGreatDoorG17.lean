/- The tokens of operands: the program's. -/
import Derived.Test.YtgjeemfggfhibaaGreatDoorG16
namespace Go.Proofs.YtgjeemfggfhibaaGreatDoorFw
open Go Go.RowKit
set_option linter.unusedVariables false
set_option linter.unusedSimpArgs false
set_option maxRecDepth 4000
set_option pp.deepTerms.threshold 6
set_option pp.deepTerms false
set_option maxHeartbeats 8000000 in
theorem argTokens_ok (f r k n : Int) (s : Str) (l : List ExprV) (hf : 0 ≤ f ∧ f ≤ 11) (hr : 0 ≤ r ∧ r ≤ 7) (hg : 6 ≤ f → (ExprV.mk k n s l).good) (ht : (ExprV.mk k n s l).tot ≤ 1048576) :
    FnA Tryz.prog 156 false [.agg [.int .i64 f, .int .i64 r, .int .i64 k, .int .i64 n, .str s, .row .bo 4 (exprsA .bo l)]] [] (fun res os ros => res = .hd 100 [] ∧ os = [] ∧ ros = [(3, toksA (argT f r (ExprV.mk k n s l).toks))]) := by
  have hR := regToken_ok r hr
  have hT := fun h => iTokens_ok (.mk k n s l) (hg h) ht
  have hl := fun h => ExprV.toks_len (.mk k n s l) (hg h)
  rw [exprA_mk] at hT
  generalize (ExprV.mk k n s l).toks = T at *
  refine FnA.of Tryz.func156 rfl (by decide) Tryz.ntmps156 (by simp) ?_
  refine run_ ?_
  refine RunsA.dag (Ω := Unit) mixed () [(1, [(0, 0)]), (2, [(0, 1)]), (3, [(1, 1), (2, 0)]), (6, [(2, 2)]), (7, [(3, 2), (6, 0)]), (15, [(7, 3)]), (31, [(15, 4)]), (63, [(31, 5)]), (127, [(63, 6)])] (by kernel_rfl) ?_
  repeat
    (apply DagP.step
     · repeat
         (apply EdgesP.cons rfl rfl
          · intro ω
            refine RunsL.go tabOk fun J hJ => ?_
            simp only [go_sem, ↓reduceIte, Nat.reduceAdd, Nat.reduceSub, Nat.reduceMul, Nat.reduceLT, Nat.reduceLeDiff, Nat.reduceEqDiff, Nat.reduceBEq, Int.reduceToNat, toksA_len, List.length_cons, List.length_nil, List.length_append]
            try simp (disch := omega) only [wrap_id]
            (repeat refine ⟨by omega, ?_⟩)
            first
              | (refine hJ _ _ (RunsL.nil ?_); clear hJ J; first | exact ⟨ω, LeS.refl _⟩ | exact ⟨ω, LeS.of rfl (by simp only [SubS, lookS, Nat.reduceEqDiff, ↓reduceIte, and_self]) (by simp only [SubO, lookO, Nat.reduceEqDiff, ↓reduceIte, and_self]) rfl⟩)
              | (refine hJ _ _ (RunsL.call (ps := []) (rid := 16) rfl rfl rfl rfl rfl (by simp only [go_sem, Nat.reduceEqDiff, toksA_len, List.length_cons, List.length_nil, List.length_append]; first | done | rfl) (markTi_ok [40]) rfl (by decide) ⟨by decide, by decide, rfl⟩ (by first | exact .inl rfl | exact .inr (.inl rfl) | exact .inr (.inr rfl)) ?_); clear hJ J
                 rintro r os' ros ⟨rfl, rfl, rfl⟩ _
                 refine RunsL.go tabOk fun J hJ => ?_
                 simp only [go_sem, ↓reduceIte, Nat.reduceAdd, Nat.reduceSub, Nat.reduceMul, Nat.reduceLT, Nat.reduceLeDiff, Nat.reduceEqDiff, Nat.reduceBEq, Int.reduceToNat, toksA_len, List.length_cons, List.length_nil, List.length_append]
                 try simp (disch := omega) only [wrap_id]
                 (repeat refine ⟨by omega, ?_⟩)
                 refine hJ _ _ (RunsL.nil ?_)
                 clear hJ J
                 first | exact ⟨ω, LeS.refl _⟩ | exact ⟨ω, LeS.of rfl (by simp only [SubS, lookS, Nat.reduceEqDiff, ↓reduceIte, and_self]) (by simp only [SubO, lookO, Nat.reduceEqDiff, ↓reduceIte, and_self]) rfl⟩)
              | (refine hJ _ _ (RunsL.call (ps := []) (rid := 16) rfl rfl rfl rfl rfl (by simp only [go_sem, Nat.reduceEqDiff, toksA_len, List.length_cons, List.length_nil, List.length_append]; first | done | rfl) (hR) rfl (by decide) ⟨by decide, by decide, rfl⟩ (by first | exact .inl rfl | exact .inr (.inl rfl) | exact .inr (.inr rfl)) ?_); clear hJ J
                 rintro r os' ros ⟨rfl, rfl, rfl⟩ _
                 refine RunsL.go tabOk fun J hJ => ?_
                 simp only [go_sem, ↓reduceIte, Nat.reduceAdd, Nat.reduceSub, Nat.reduceMul, Nat.reduceLT, Nat.reduceLeDiff, Nat.reduceEqDiff, Nat.reduceBEq, Int.reduceToNat, toksA_len, List.length_cons, List.length_nil, List.length_append]
                 try simp (disch := omega) only [wrap_id]
                 (repeat refine ⟨by omega, ?_⟩)
                 refine hJ _ _ (RunsL.nil ?_)
                 clear hJ J
                 first | exact ⟨ω, LeS.refl _⟩ | exact ⟨ω, LeS.of rfl (by simp only [SubS, lookS, Nat.reduceEqDiff, ↓reduceIte, and_self]) (by simp only [SubO, lookO, Nat.reduceEqDiff, ↓reduceIte, and_self]) rfl⟩)
              | (refine hJ _ _ (RunsL.call (ps := []) (rid := 16) rfl rfl rfl rfl rfl (by simp only [go_sem, Nat.reduceEqDiff, toksA_len, List.length_cons, List.length_nil, List.length_append]; first | done | rfl) (markTi_ok [41]) rfl (by decide) ⟨by decide, by decide, rfl⟩ (by first | exact .inl rfl | exact .inr (.inl rfl) | exact .inr (.inr rfl)) ?_); clear hJ J
                 rintro r os' ros ⟨rfl, rfl, rfl⟩ _
                 refine RunsL.go tabOk fun J hJ => ?_
                 simp only [go_sem, ↓reduceIte, Nat.reduceAdd, Nat.reduceSub, Nat.reduceMul, Nat.reduceLT, Nat.reduceLeDiff, Nat.reduceEqDiff, Nat.reduceBEq, Int.reduceToNat, toksA_len, List.length_cons, List.length_nil, List.length_append]
                 try simp (disch := omega) only [wrap_id]
                 (repeat refine ⟨by omega, ?_⟩)
                 refine hJ _ _ (RunsL.nil ?_)
                 clear hJ J
                 first | exact ⟨ω, LeS.refl _⟩ | exact ⟨ω, LeS.of rfl (by simp only [SubS, lookS, Nat.reduceEqDiff, ↓reduceIte, and_self]) (by simp only [SubO, lookO, Nat.reduceEqDiff, ↓reduceIte, and_self]) rfl⟩))
       exact EdgesP.nil)
  refine DagP.done fun ω => ?_
  rcases (by omega : f = 0 ∨ f = 1 ∨ f = 2 ∨ f = 3 ∨ f = 4 ∨ f = 5 ∨ f = 6 ∨ f = 7 ∨ f = 8 ∨ f = 9 ∨ f = 10 ∨ f = 11) with rfl | rfl | rfl | rfl | rfl | rfl | rfl | rfl | rfl | rfl | rfl | rfl
  ·
    clear hT hl
    repeat' (first | refine ⟨by omega, ?_⟩ | (refine hJ _ _ (RunsL.nil ?_); clear hJ J) | refine RunsA.cond rfl (fun h => ?_) (fun h => absurd h (by decide)) | refine RunsA.cond rfl (fun h => absurd h (by decide)) (fun h => ?_) | (refine step_ ?_) | (refine RunsA.rk 80 [] tabOk fun J hJ => ?_; simp only [go_sem, ↓reduceIte, Nat.reduceAdd, Nat.reduceSub, Nat.reduceMul, Nat.reduceLT, Nat.reduceLeDiff, Nat.reduceEqDiff, Nat.reduceBEq, Int.reduceToNat, toksA_len, List.length_cons, List.length_nil, List.length_append, Int.reduceBEq, brw_exprs]; try simp (disch := omega) only [wrap_id]) | (refine hJ _ _ (RunsL.call (ps := []) (rid := 16) rfl rfl rfl rfl rfl (by simp only [go_sem, Nat.reduceEqDiff]; first | done | rfl) (markTi_ok _) rfl (by decide) ⟨by decide, by decide, rfl⟩ (by first | exact .inl rfl | exact .inr (.inl rfl) | exact .inr (.inr rfl)) ?_); clear hJ J; rintro r os' ros ⟨rfl, rfl, rfl⟩ _; refine RunsL.go tabOk fun J hJ => ?_; simp only [go_sem, ↓reduceIte, Nat.reduceAdd, Nat.reduceSub, Nat.reduceMul, Nat.reduceLT, Nat.reduceLeDiff, Nat.reduceEqDiff, Nat.reduceBEq, Int.reduceToNat, toksA_len, List.length_cons, List.length_nil, List.length_append, Int.reduceBEq, brw_exprs]; try simp (disch := omega) only [wrap_id]) | (refine hJ _ _ (RunsL.call (ps := []) (rid := 16) rfl rfl rfl rfl rfl (by simp only [go_sem, Nat.reduceEqDiff]; first | done | rfl) (hR) rfl (by decide) ⟨by decide, by decide, rfl⟩ (by first | exact .inl rfl | exact .inr (.inl rfl) | exact .inr (.inr rfl)) ?_); clear hJ J; rintro r os' ros ⟨rfl, rfl, rfl⟩ _; refine RunsL.go tabOk fun J hJ => ?_; simp only [go_sem, ↓reduceIte, Nat.reduceAdd, Nat.reduceSub, Nat.reduceMul, Nat.reduceLT, Nat.reduceLeDiff, Nat.reduceEqDiff, Nat.reduceBEq, Int.reduceToNat, toksA_len, List.length_cons, List.length_nil, List.length_append, Int.reduceBEq, brw_exprs]; try simp (disch := omega) only [wrap_id]) | simp only [↓reduceIte, not_false_eq_true, toksA_len, List.length_cons, List.length_nil, List.length_append, Int.reduceBEq, brw_exprs])
    all_goals (refine RetA.v tabOk rfl ?_; simp only [go_sem, ↓reduceIte, Nat.reduceAdd, Nat.reduceSub, Nat.reduceMul, Nat.reduceLT, Nat.reduceLeDiff, Nat.reduceEqDiff, Nat.reduceBEq, Int.reduceToNat])
    all_goals (refine RetV.ren (id := 8192) (id' := 100) (by simp only [go_sem, ↓reduceIte, Nat.reduceAdd, Nat.reduceSub, Nat.reduceMul, Nat.reduceLT, Nat.reduceLeDiff, Nat.reduceEqDiff, Nat.reduceBEq, Int.reduceToNat]; rfl) ?_; simp only [go_sem, ↓reduceIte, Nat.reduceAdd, Nat.reduceSub, Nat.reduceMul, Nat.reduceLT, Nat.reduceLeDiff, Nat.reduceEqDiff, Nat.reduceBEq, Int.reduceToNat])
    all_goals exact RetV.mk 1 rfl rfl (by omega) rfl (by simp [noBoO, noBoL, noBo, noBo_toks, noBoLapp]) rfl ⟨rfl, rfl, by simp [argT, rdT, toksA, tokA, markT, keptT]⟩
  ·
    clear hT hl
    repeat' (first | refine ⟨by omega, ?_⟩ | (refine hJ _ _ (RunsL.nil ?_); clear hJ J) | refine RunsA.cond rfl (fun h => ?_) (fun h => absurd h (by decide)) | refine RunsA.cond rfl (fun h => absurd h (by decide)) (fun h => ?_) | (refine step_ ?_) | (refine RunsA.rk 80 [] tabOk fun J hJ => ?_; simp only [go_sem, ↓reduceIte, Nat.reduceAdd, Nat.reduceSub, Nat.reduceMul, Nat.reduceLT, Nat.reduceLeDiff, Nat.reduceEqDiff, Nat.reduceBEq, Int.reduceToNat, toksA_len, List.length_cons, List.length_nil, List.length_append, Int.reduceBEq, brw_exprs]; try simp (disch := omega) only [wrap_id]) | (refine hJ _ _ (RunsL.call (ps := []) (rid := 16) rfl rfl rfl rfl rfl (by simp only [go_sem, Nat.reduceEqDiff]; first | done | rfl) (markTi_ok _) rfl (by decide) ⟨by decide, by decide, rfl⟩ (by first | exact .inl rfl | exact .inr (.inl rfl) | exact .inr (.inr rfl)) ?_); clear hJ J; rintro r os' ros ⟨rfl, rfl, rfl⟩ _; refine RunsL.go tabOk fun J hJ => ?_; simp only [go_sem, ↓reduceIte, Nat.reduceAdd, Nat.reduceSub, Nat.reduceMul, Nat.reduceLT, Nat.reduceLeDiff, Nat.reduceEqDiff, Nat.reduceBEq, Int.reduceToNat, toksA_len, List.length_cons, List.length_nil, List.length_append, Int.reduceBEq, brw_exprs]; try simp (disch := omega) only [wrap_id]) | simp only [↓reduceIte, not_false_eq_true, toksA_len, List.length_cons, List.length_nil, List.length_append, Int.reduceBEq, brw_exprs])
    all_goals (refine RetA.v tabOk rfl ?_; simp only [go_sem, ↓reduceIte, Nat.reduceAdd, Nat.reduceSub, Nat.reduceMul, Nat.reduceLT, Nat.reduceLeDiff, Nat.reduceEqDiff, Nat.reduceBEq, Int.reduceToNat])
    all_goals (refine RetV.ren (id := 2816) (id' := 100) (by simp only [go_sem, ↓reduceIte, Nat.reduceAdd, Nat.reduceSub, Nat.reduceMul, Nat.reduceLT, Nat.reduceLeDiff, Nat.reduceEqDiff, Nat.reduceBEq, Int.reduceToNat]; rfl) ?_; simp only [go_sem, ↓reduceIte, Nat.reduceAdd, Nat.reduceSub, Nat.reduceMul, Nat.reduceLT, Nat.reduceLeDiff, Nat.reduceEqDiff, Nat.reduceBEq, Int.reduceToNat])
    all_goals exact RetV.mk 1 rfl rfl (by omega) rfl (by simp [noBoO, noBoL, noBo, noBo_toks, noBoLapp]) rfl ⟨rfl, rfl, by simp [argT, rdT, toksA, tokA, markT, keptT]⟩
  ·
    clear hT hl
    repeat' (first | refine ⟨by omega, ?_⟩ | (refine hJ _ _ (RunsL.nil ?_); clear hJ J) | refine RunsA.cond rfl (fun h => ?_) (fun h => absurd h (by decide)) | refine RunsA.cond rfl (fun h => absurd h (by decide)) (fun h => ?_) | (refine step_ ?_) | (refine RunsA.rk 80 [] tabOk fun J hJ => ?_; simp only [go_sem, ↓reduceIte, Nat.reduceAdd, Nat.reduceSub, Nat.reduceMul, Nat.reduceLT, Nat.reduceLeDiff, Nat.reduceEqDiff, Nat.reduceBEq, Int.reduceToNat, toksA_len, List.length_cons, List.length_nil, List.length_append, Int.reduceBEq, brw_exprs]; try simp (disch := omega) only [wrap_id]) | (refine hJ _ _ (RunsL.call (ps := []) (rid := 16) rfl rfl rfl rfl rfl (by simp only [go_sem, Nat.reduceEqDiff]; first | done | rfl) (markTi_ok _) rfl (by decide) ⟨by decide, by decide, rfl⟩ (by first | exact .inl rfl | exact .inr (.inl rfl) | exact .inr (.inr rfl)) ?_); clear hJ J; rintro r os' ros ⟨rfl, rfl, rfl⟩ _; refine RunsL.go tabOk fun J hJ => ?_; simp only [go_sem, ↓reduceIte, Nat.reduceAdd, Nat.reduceSub, Nat.reduceMul, Nat.reduceLT, Nat.reduceLeDiff, Nat.reduceEqDiff, Nat.reduceBEq, Int.reduceToNat, toksA_len, List.length_cons, List.length_nil, List.length_append, Int.reduceBEq, brw_exprs]; try simp (disch := omega) only [wrap_id]) | simp only [↓reduceIte, not_false_eq_true, toksA_len, List.length_cons, List.length_nil, List.length_append, Int.reduceBEq, brw_exprs])
    all_goals (refine RetA.v tabOk rfl ?_; simp only [go_sem, ↓reduceIte, Nat.reduceAdd, Nat.reduceSub, Nat.reduceMul, Nat.reduceLT, Nat.reduceLeDiff, Nat.reduceEqDiff, Nat.reduceBEq, Int.reduceToNat])
    all_goals (refine RetV.ren (id := 3072) (id' := 100) (by simp only [go_sem, ↓reduceIte, Nat.reduceAdd, Nat.reduceSub, Nat.reduceMul, Nat.reduceLT, Nat.reduceLeDiff, Nat.reduceEqDiff, Nat.reduceBEq, Int.reduceToNat]; rfl) ?_; simp only [go_sem, ↓reduceIte, Nat.reduceAdd, Nat.reduceSub, Nat.reduceMul, Nat.reduceLT, Nat.reduceLeDiff, Nat.reduceEqDiff, Nat.reduceBEq, Int.reduceToNat])
    all_goals exact RetV.mk 1 rfl rfl (by omega) rfl (by simp [noBoO, noBoL, noBo, noBo_toks, noBoLapp]) rfl ⟨rfl, rfl, by simp [argT, rdT, toksA, tokA, markT, keptT]⟩
  ·
    clear hT hl
    repeat' (first | refine ⟨by omega, ?_⟩ | (refine hJ _ _ (RunsL.nil ?_); clear hJ J) | refine RunsA.cond rfl (fun h => ?_) (fun h => absurd h (by decide)) | refine RunsA.cond rfl (fun h => absurd h (by decide)) (fun h => ?_) | (refine step_ ?_) | (refine RunsA.rk 80 [] tabOk fun J hJ => ?_; simp only [go_sem, ↓reduceIte, Nat.reduceAdd, Nat.reduceSub, Nat.reduceMul, Nat.reduceLT, Nat.reduceLeDiff, Nat.reduceEqDiff, Nat.reduceBEq, Int.reduceToNat, toksA_len, List.length_cons, List.length_nil, List.length_append, Int.reduceBEq, brw_exprs]; try simp (disch := omega) only [wrap_id]) | (refine hJ _ _ (RunsL.call (ps := []) (rid := 16) rfl rfl rfl rfl rfl (by simp only [go_sem, Nat.reduceEqDiff]; first | done | rfl) (markTi_ok _) rfl (by decide) ⟨by decide, by decide, rfl⟩ (by first | exact .inl rfl | exact .inr (.inl rfl) | exact .inr (.inr rfl)) ?_); clear hJ J; rintro r os' ros ⟨rfl, rfl, rfl⟩ _; refine RunsL.go tabOk fun J hJ => ?_; simp only [go_sem, ↓reduceIte, Nat.reduceAdd, Nat.reduceSub, Nat.reduceMul, Nat.reduceLT, Nat.reduceLeDiff, Nat.reduceEqDiff, Nat.reduceBEq, Int.reduceToNat, toksA_len, List.length_cons, List.length_nil, List.length_append, Int.reduceBEq, brw_exprs]; try simp (disch := omega) only [wrap_id]) | simp only [↓reduceIte, not_false_eq_true, toksA_len, List.length_cons, List.length_nil, List.length_append, Int.reduceBEq, brw_exprs])
    all_goals (refine RetA.v tabOk rfl ?_; simp only [go_sem, ↓reduceIte, Nat.reduceAdd, Nat.reduceSub, Nat.reduceMul, Nat.reduceLT, Nat.reduceLeDiff, Nat.reduceEqDiff, Nat.reduceBEq, Int.reduceToNat])
    all_goals (refine RetV.ren (id := 3072) (id' := 100) (by simp only [go_sem, ↓reduceIte, Nat.reduceAdd, Nat.reduceSub, Nat.reduceMul, Nat.reduceLT, Nat.reduceLeDiff, Nat.reduceEqDiff, Nat.reduceBEq, Int.reduceToNat]; rfl) ?_; simp only [go_sem, ↓reduceIte, Nat.reduceAdd, Nat.reduceSub, Nat.reduceMul, Nat.reduceLT, Nat.reduceLeDiff, Nat.reduceEqDiff, Nat.reduceBEq, Int.reduceToNat])
    all_goals exact RetV.mk 1 rfl rfl (by omega) rfl (by simp [noBoO, noBoL, noBo, noBo_toks, noBoLapp]) rfl ⟨rfl, rfl, by simp [argT, rdT, toksA, tokA, markT, keptT]⟩
  ·
    clear hT hl
    repeat' (first | refine ⟨by omega, ?_⟩ | (refine hJ _ _ (RunsL.nil ?_); clear hJ J) | refine RunsA.cond rfl (fun h => ?_) (fun h => absurd h (by decide)) | refine RunsA.cond rfl (fun h => absurd h (by decide)) (fun h => ?_) | (refine step_ ?_) | (refine RunsA.rk 80 [] tabOk fun J hJ => ?_; simp only [go_sem, ↓reduceIte, Nat.reduceAdd, Nat.reduceSub, Nat.reduceMul, Nat.reduceLT, Nat.reduceLeDiff, Nat.reduceEqDiff, Nat.reduceBEq, Int.reduceToNat, toksA_len, List.length_cons, List.length_nil, List.length_append, Int.reduceBEq, brw_exprs]; try simp (disch := omega) only [wrap_id]) | (refine hJ _ _ (RunsL.call (ps := []) (rid := 16) rfl rfl rfl rfl rfl (by simp only [go_sem, Nat.reduceEqDiff]; first | done | rfl) (markTi_ok _) rfl (by decide) ⟨by decide, by decide, rfl⟩ (by first | exact .inl rfl | exact .inr (.inl rfl) | exact .inr (.inr rfl)) ?_); clear hJ J; rintro r os' ros ⟨rfl, rfl, rfl⟩ _; refine RunsL.go tabOk fun J hJ => ?_; simp only [go_sem, ↓reduceIte, Nat.reduceAdd, Nat.reduceSub, Nat.reduceMul, Nat.reduceLT, Nat.reduceLeDiff, Nat.reduceEqDiff, Nat.reduceBEq, Int.reduceToNat, toksA_len, List.length_cons, List.length_nil, List.length_append, Int.reduceBEq, brw_exprs]; try simp (disch := omega) only [wrap_id]) | simp only [↓reduceIte, not_false_eq_true, toksA_len, List.length_cons, List.length_nil, List.length_append, Int.reduceBEq, brw_exprs])
    all_goals (refine RetA.v tabOk rfl ?_; simp only [go_sem, ↓reduceIte, Nat.reduceAdd, Nat.reduceSub, Nat.reduceMul, Nat.reduceLT, Nat.reduceLeDiff, Nat.reduceEqDiff, Nat.reduceBEq, Int.reduceToNat])
    all_goals (refine RetV.ren (id := 3072) (id' := 100) (by simp only [go_sem, ↓reduceIte, Nat.reduceAdd, Nat.reduceSub, Nat.reduceMul, Nat.reduceLT, Nat.reduceLeDiff, Nat.reduceEqDiff, Nat.reduceBEq, Int.reduceToNat]; rfl) ?_; simp only [go_sem, ↓reduceIte, Nat.reduceAdd, Nat.reduceSub, Nat.reduceMul, Nat.reduceLT, Nat.reduceLeDiff, Nat.reduceEqDiff, Nat.reduceBEq, Int.reduceToNat])
    all_goals exact RetV.mk 1 rfl rfl (by omega) rfl (by simp [noBoO, noBoL, noBo, noBo_toks, noBoLapp]) rfl ⟨rfl, rfl, by simp [argT, rdT, toksA, tokA, markT, keptT]⟩
  ·
    clear hT hl
    repeat' (first | refine ⟨by omega, ?_⟩ | (refine hJ _ _ (RunsL.nil ?_); clear hJ J) | refine RunsA.cond rfl (fun h => ?_) (fun h => absurd h (by decide)) | refine RunsA.cond rfl (fun h => absurd h (by decide)) (fun h => ?_) | (refine step_ ?_) | (refine RunsA.rk 80 [] tabOk fun J hJ => ?_; simp only [go_sem, ↓reduceIte, Nat.reduceAdd, Nat.reduceSub, Nat.reduceMul, Nat.reduceLT, Nat.reduceLeDiff, Nat.reduceEqDiff, Nat.reduceBEq, Int.reduceToNat, toksA_len, List.length_cons, List.length_nil, List.length_append, Int.reduceBEq, brw_exprs]; try simp (disch := omega) only [wrap_id]) | (refine hJ _ _ (RunsL.call (ps := []) (rid := 16) rfl rfl rfl rfl rfl (by simp only [go_sem, Nat.reduceEqDiff]; first | done | rfl) (markTi_ok _) rfl (by decide) ⟨by decide, by decide, rfl⟩ (by first | exact .inl rfl | exact .inr (.inl rfl) | exact .inr (.inr rfl)) ?_); clear hJ J; rintro r os' ros ⟨rfl, rfl, rfl⟩ _; refine RunsL.go tabOk fun J hJ => ?_; simp only [go_sem, ↓reduceIte, Nat.reduceAdd, Nat.reduceSub, Nat.reduceMul, Nat.reduceLT, Nat.reduceLeDiff, Nat.reduceEqDiff, Nat.reduceBEq, Int.reduceToNat, toksA_len, List.length_cons, List.length_nil, List.length_append, Int.reduceBEq, brw_exprs]; try simp (disch := omega) only [wrap_id]) | simp only [↓reduceIte, not_false_eq_true, toksA_len, List.length_cons, List.length_nil, List.length_append, Int.reduceBEq, brw_exprs])
    all_goals (refine RetA.v tabOk rfl ?_; simp only [go_sem, ↓reduceIte, Nat.reduceAdd, Nat.reduceSub, Nat.reduceMul, Nat.reduceLT, Nat.reduceLeDiff, Nat.reduceEqDiff, Nat.reduceBEq, Int.reduceToNat])
    all_goals (refine RetV.ren (id := 3072) (id' := 100) (by simp only [go_sem, ↓reduceIte, Nat.reduceAdd, Nat.reduceSub, Nat.reduceMul, Nat.reduceLT, Nat.reduceLeDiff, Nat.reduceEqDiff, Nat.reduceBEq, Int.reduceToNat]; rfl) ?_; simp only [go_sem, ↓reduceIte, Nat.reduceAdd, Nat.reduceSub, Nat.reduceMul, Nat.reduceLT, Nat.reduceLeDiff, Nat.reduceEqDiff, Nat.reduceBEq, Int.reduceToNat])
    all_goals exact RetV.mk 1 rfl rfl (by omega) rfl (by simp [noBoO, noBoL, noBo, noBo_toks, noBoLapp]) rfl ⟨rfl, rfl, by simp [argT, rdT, toksA, tokA, markT, keptT]⟩
  ·
    have hT := hT (by omega)
    have hl := hl (by omega)
    repeat' (first | refine ⟨by omega, ?_⟩ | (refine hJ _ _ (RunsL.nil ?_); clear hJ J) | refine RunsA.cond rfl (fun h => ?_) (fun h => absurd h (by decide)) | refine RunsA.cond rfl (fun h => absurd h (by decide)) (fun h => ?_) | (refine step_ ?_) | (refine RunsA.rk 80 [] tabOk fun J hJ => ?_; simp only [go_sem, ↓reduceIte, Nat.reduceAdd, Nat.reduceSub, Nat.reduceMul, Nat.reduceLT, Nat.reduceLeDiff, Nat.reduceEqDiff, Nat.reduceBEq, Int.reduceToNat, toksA_len, List.length_cons, List.length_nil, List.length_append, Int.reduceBEq, brw_exprs]; try simp (disch := omega) only [wrap_id]) | (refine hJ _ _ (RunsL.call (ps := []) (rid := 16) rfl rfl rfl rfl rfl (by simp only [go_sem, Nat.reduceEqDiff]; first | done | rfl) (markTi_ok _) rfl (by decide) ⟨by decide, by decide, rfl⟩ (by first | exact .inl rfl | exact .inr (.inl rfl) | exact .inr (.inr rfl)) ?_); clear hJ J; rintro r os' ros ⟨rfl, rfl, rfl⟩ _; refine RunsL.go tabOk fun J hJ => ?_; simp only [go_sem, ↓reduceIte, Nat.reduceAdd, Nat.reduceSub, Nat.reduceMul, Nat.reduceLT, Nat.reduceLeDiff, Nat.reduceEqDiff, Nat.reduceBEq, Int.reduceToNat, toksA_len, List.length_cons, List.length_nil, List.length_append, Int.reduceBEq, brw_exprs]; try simp (disch := omega) only [wrap_id]) | simp only [↓reduceIte, not_false_eq_true, toksA_len, List.length_cons, List.length_nil, List.length_append, Int.reduceBEq, brw_exprs])
    refine hJ _ _ (RunsL.call (ps := []) (rid := 15360) rfl rfl rfl rfl rfl (by simp only [go_sem, Nat.reduceEqDiff, brw_exprs]; first | done | rfl) (hT) rfl (by decide) ⟨by decide, by decide, rfl⟩ (by first | exact .inl rfl | exact .inr (.inl rfl) | exact .inr (.inr rfl)) ?_); clear hJ J
    rintro r os' ros ⟨rfl, rfl, rfl⟩ _
    refine RunsL.go tabOk fun J hJ => ?_
    simp only [go_sem, ↓reduceIte, Nat.reduceAdd, Nat.reduceSub, Nat.reduceMul, Nat.reduceLT, Nat.reduceLeDiff, Nat.reduceEqDiff, Nat.reduceBEq, Int.reduceToNat, toksA_len, List.length_cons, List.length_nil, List.length_append, Int.reduceBEq, brw_exprs]
    try simp (disch := omega) only [wrap_id]
    (repeat refine ⟨by omega, ?_⟩)
    refine hJ _ _ (RunsL.nil ?_); clear hJ J
    refine run_ ?_
    refine RetA.v tabOk rfl ?_
    simp only [go_sem, ↓reduceIte, Nat.reduceAdd, Nat.reduceSub, Nat.reduceMul, Nat.reduceLT, Nat.reduceLeDiff, Nat.reduceEqDiff, Nat.reduceBEq, Int.reduceToNat]
    refine RetV.ren (id := 3072) (id' := 100) (by simp only [go_sem, ↓reduceIte, Nat.reduceAdd, Nat.reduceSub, Nat.reduceMul, Nat.reduceLT, Nat.reduceLeDiff, Nat.reduceEqDiff, Nat.reduceBEq, Int.reduceToNat]; rfl) ?_
    simp only [go_sem, ↓reduceIte, Nat.reduceAdd, Nat.reduceSub, Nat.reduceMul, Nat.reduceLT, Nat.reduceLeDiff, Nat.reduceEqDiff, Nat.reduceBEq, Int.reduceToNat]
    exact RetV.mk 1 rfl rfl (by omega) rfl (by simp [noBoO, noBoL, noBo, noBo_toks, noBoLapp]) rfl ⟨rfl, rfl, by simp [argT, rdT, toksA, tokA, markT, keptT]⟩
  ·
    have hT := hT (by omega)
    have hl := hl (by omega)
    repeat' (first | refine ⟨by omega, ?_⟩ | (refine hJ _ _ (RunsL.nil ?_); clear hJ J) | refine RunsA.cond rfl (fun h => ?_) (fun h => absurd h (by decide)) | refine RunsA.cond rfl (fun h => absurd h (by decide)) (fun h => ?_) | (refine step_ ?_) | (refine RunsA.rk 80 [] tabOk fun J hJ => ?_; simp only [go_sem, ↓reduceIte, Nat.reduceAdd, Nat.reduceSub, Nat.reduceMul, Nat.reduceLT, Nat.reduceLeDiff, Nat.reduceEqDiff, Nat.reduceBEq, Int.reduceToNat, toksA_len, List.length_cons, List.length_nil, List.length_append, Int.reduceBEq, brw_exprs]; try simp (disch := omega) only [wrap_id]) | (refine hJ _ _ (RunsL.call (ps := []) (rid := 16) rfl rfl rfl rfl rfl (by simp only [go_sem, Nat.reduceEqDiff]; first | done | rfl) (markTi_ok _) rfl (by decide) ⟨by decide, by decide, rfl⟩ (by first | exact .inl rfl | exact .inr (.inl rfl) | exact .inr (.inr rfl)) ?_); clear hJ J; rintro r os' ros ⟨rfl, rfl, rfl⟩ _; refine RunsL.go tabOk fun J hJ => ?_; simp only [go_sem, ↓reduceIte, Nat.reduceAdd, Nat.reduceSub, Nat.reduceMul, Nat.reduceLT, Nat.reduceLeDiff, Nat.reduceEqDiff, Nat.reduceBEq, Int.reduceToNat, toksA_len, List.length_cons, List.length_nil, List.length_append, Int.reduceBEq, brw_exprs]; try simp (disch := omega) only [wrap_id]) | simp only [↓reduceIte, not_false_eq_true, toksA_len, List.length_cons, List.length_nil, List.length_append, Int.reduceBEq, brw_exprs])
    refine hJ _ _ (RunsL.call (ps := []) (rid := 15360) rfl rfl rfl rfl rfl (by simp only [go_sem, Nat.reduceEqDiff, brw_exprs]; first | done | rfl) (hT) rfl (by decide) ⟨by decide, by decide, rfl⟩ (by first | exact .inl rfl | exact .inr (.inl rfl) | exact .inr (.inr rfl)) ?_); clear hJ J
    rintro r os' ros ⟨rfl, rfl, rfl⟩ _
    refine RunsL.go tabOk fun J hJ => ?_
    simp only [go_sem, ↓reduceIte, Nat.reduceAdd, Nat.reduceSub, Nat.reduceMul, Nat.reduceLT, Nat.reduceLeDiff, Nat.reduceEqDiff, Nat.reduceBEq, Int.reduceToNat, toksA_len, List.length_cons, List.length_nil, List.length_append, Int.reduceBEq, brw_exprs]
    try simp (disch := omega) only [wrap_id]
    (repeat refine ⟨by omega, ?_⟩)
    refine hJ _ _ (RunsL.nil ?_); clear hJ J
    refine run_ ?_
    refine RetA.v tabOk rfl ?_
    simp only [go_sem, ↓reduceIte, Nat.reduceAdd, Nat.reduceSub, Nat.reduceMul, Nat.reduceLT, Nat.reduceLeDiff, Nat.reduceEqDiff, Nat.reduceBEq, Int.reduceToNat]
    refine RetV.ren (id := 3072) (id' := 100) (by simp only [go_sem, ↓reduceIte, Nat.reduceAdd, Nat.reduceSub, Nat.reduceMul, Nat.reduceLT, Nat.reduceLeDiff, Nat.reduceEqDiff, Nat.reduceBEq, Int.reduceToNat]; rfl) ?_
    simp only [go_sem, ↓reduceIte, Nat.reduceAdd, Nat.reduceSub, Nat.reduceMul, Nat.reduceLT, Nat.reduceLeDiff, Nat.reduceEqDiff, Nat.reduceBEq, Int.reduceToNat]
    exact RetV.mk 1 rfl rfl (by omega) rfl (by simp [noBoO, noBoL, noBo, noBo_toks, noBoLapp]) rfl ⟨rfl, rfl, by simp [argT, rdT, toksA, tokA, markT, keptT]⟩
  ·
    have hT := hT (by omega)
    have hl := hl (by omega)
    repeat' (first | refine ⟨by omega, ?_⟩ | (refine hJ _ _ (RunsL.nil ?_); clear hJ J) | refine RunsA.cond rfl (fun h => ?_) (fun h => absurd h (by decide)) | refine RunsA.cond rfl (fun h => absurd h (by decide)) (fun h => ?_) | (refine step_ ?_) | (refine RunsA.rk 80 [] tabOk fun J hJ => ?_; simp only [go_sem, ↓reduceIte, Nat.reduceAdd, Nat.reduceSub, Nat.reduceMul, Nat.reduceLT, Nat.reduceLeDiff, Nat.reduceEqDiff, Nat.reduceBEq, Int.reduceToNat, toksA_len, List.length_cons, List.length_nil, List.length_append, Int.reduceBEq, brw_exprs]; try simp (disch := omega) only [wrap_id]) | (refine hJ _ _ (RunsL.call (ps := []) (rid := 16) rfl rfl rfl rfl rfl (by simp only [go_sem, Nat.reduceEqDiff]; first | done | rfl) (markTi_ok _) rfl (by decide) ⟨by decide, by decide, rfl⟩ (by first | exact .inl rfl | exact .inr (.inl rfl) | exact .inr (.inr rfl)) ?_); clear hJ J; rintro r os' ros ⟨rfl, rfl, rfl⟩ _; refine RunsL.go tabOk fun J hJ => ?_; simp only [go_sem, ↓reduceIte, Nat.reduceAdd, Nat.reduceSub, Nat.reduceMul, Nat.reduceLT, Nat.reduceLeDiff, Nat.reduceEqDiff, Nat.reduceBEq, Int.reduceToNat, toksA_len, List.length_cons, List.length_nil, List.length_append, Int.reduceBEq, brw_exprs]; try simp (disch := omega) only [wrap_id]) | simp only [↓reduceIte, not_false_eq_true, toksA_len, List.length_cons, List.length_nil, List.length_append, Int.reduceBEq, brw_exprs])
    refine hJ _ _ (RunsL.call (ps := []) (rid := 18944) rfl rfl rfl rfl rfl (by simp only [go_sem, Nat.reduceEqDiff, brw_exprs]; first | done | rfl) (hT) rfl (by decide) ⟨by decide, by decide, rfl⟩ (by first | exact .inl rfl | exact .inr (.inl rfl) | exact .inr (.inr rfl)) ?_); clear hJ J
    rintro r os' ros ⟨rfl, rfl, rfl⟩ _
    refine RunsL.go tabOk fun J hJ => ?_
    simp only [go_sem, ↓reduceIte, Nat.reduceAdd, Nat.reduceSub, Nat.reduceMul, Nat.reduceLT, Nat.reduceLeDiff, Nat.reduceEqDiff, Nat.reduceBEq, Int.reduceToNat, toksA_len, List.length_cons, List.length_nil, List.length_append, Int.reduceBEq, brw_exprs]
    try simp (disch := omega) only [wrap_id]
    (repeat refine ⟨by omega, ?_⟩)
    refine hJ _ _ (RunsL.nil ?_); clear hJ J
    refine run_ ?_
    refine RetA.v tabOk rfl ?_
    simp only [go_sem, ↓reduceIte, Nat.reduceAdd, Nat.reduceSub, Nat.reduceMul, Nat.reduceLT, Nat.reduceLeDiff, Nat.reduceEqDiff, Nat.reduceBEq, Int.reduceToNat]
    refine RetV.ren (id := 3072) (id' := 100) (by simp only [go_sem, ↓reduceIte, Nat.reduceAdd, Nat.reduceSub, Nat.reduceMul, Nat.reduceLT, Nat.reduceLeDiff, Nat.reduceEqDiff, Nat.reduceBEq, Int.reduceToNat]; rfl) ?_
    simp only [go_sem, ↓reduceIte, Nat.reduceAdd, Nat.reduceSub, Nat.reduceMul, Nat.reduceLT, Nat.reduceLeDiff, Nat.reduceEqDiff, Nat.reduceBEq, Int.reduceToNat]
    exact RetV.mk 1 rfl rfl (by omega) rfl (by simp [noBoO, noBoL, noBo, noBo_toks, noBoLapp]) rfl ⟨rfl, rfl, by simp [argT, rdT, toksA, tokA, markT, keptT]⟩
  ·
    have hT := hT (by omega)
    have hl := hl (by omega)
    repeat' (first | refine ⟨by omega, ?_⟩ | (refine hJ _ _ (RunsL.nil ?_); clear hJ J) | refine RunsA.cond rfl (fun h => ?_) (fun h => absurd h (by decide)) | refine RunsA.cond rfl (fun h => absurd h (by decide)) (fun h => ?_) | (refine step_ ?_) | (refine RunsA.rk 80 [] tabOk fun J hJ => ?_; simp only [go_sem, ↓reduceIte, Nat.reduceAdd, Nat.reduceSub, Nat.reduceMul, Nat.reduceLT, Nat.reduceLeDiff, Nat.reduceEqDiff, Nat.reduceBEq, Int.reduceToNat, toksA_len, List.length_cons, List.length_nil, List.length_append, Int.reduceBEq, brw_exprs]; try simp (disch := omega) only [wrap_id]) | (refine hJ _ _ (RunsL.call (ps := []) (rid := 16) rfl rfl rfl rfl rfl (by simp only [go_sem, Nat.reduceEqDiff]; first | done | rfl) (markTi_ok _) rfl (by decide) ⟨by decide, by decide, rfl⟩ (by first | exact .inl rfl | exact .inr (.inl rfl) | exact .inr (.inr rfl)) ?_); clear hJ J; rintro r os' ros ⟨rfl, rfl, rfl⟩ _; refine RunsL.go tabOk fun J hJ => ?_; simp only [go_sem, ↓reduceIte, Nat.reduceAdd, Nat.reduceSub, Nat.reduceMul, Nat.reduceLT, Nat.reduceLeDiff, Nat.reduceEqDiff, Nat.reduceBEq, Int.reduceToNat, toksA_len, List.length_cons, List.length_nil, List.length_append, Int.reduceBEq, brw_exprs]; try simp (disch := omega) only [wrap_id]) | simp only [↓reduceIte, not_false_eq_true, toksA_len, List.length_cons, List.length_nil, List.length_append, Int.reduceBEq, brw_exprs])
    refine hJ _ _ (RunsL.call (ps := []) (rid := 18944) rfl rfl rfl rfl rfl (by simp only [go_sem, Nat.reduceEqDiff, brw_exprs]; first | done | rfl) (hT) rfl (by decide) ⟨by decide, by decide, rfl⟩ (by first | exact .inl rfl | exact .inr (.inl rfl) | exact .inr (.inr rfl)) ?_); clear hJ J
    rintro r os' ros ⟨rfl, rfl, rfl⟩ _
    refine RunsL.go tabOk fun J hJ => ?_
    simp only [go_sem, ↓reduceIte, Nat.reduceAdd, Nat.reduceSub, Nat.reduceMul, Nat.reduceLT, Nat.reduceLeDiff, Nat.reduceEqDiff, Nat.reduceBEq, Int.reduceToNat, toksA_len, List.length_cons, List.length_nil, List.length_append, Int.reduceBEq, brw_exprs]
    try simp (disch := omega) only [wrap_id]
    (repeat refine ⟨by omega, ?_⟩)
    refine hJ _ _ (RunsL.nil ?_); clear hJ J
    refine run_ ?_
    refine RetA.v tabOk rfl ?_
    simp only [go_sem, ↓reduceIte, Nat.reduceAdd, Nat.reduceSub, Nat.reduceMul, Nat.reduceLT, Nat.reduceLeDiff, Nat.reduceEqDiff, Nat.reduceBEq, Int.reduceToNat]
    refine RetV.ren (id := 3072) (id' := 100) (by simp only [go_sem, ↓reduceIte, Nat.reduceAdd, Nat.reduceSub, Nat.reduceMul, Nat.reduceLT, Nat.reduceLeDiff, Nat.reduceEqDiff, Nat.reduceBEq, Int.reduceToNat]; rfl) ?_
    simp only [go_sem, ↓reduceIte, Nat.reduceAdd, Nat.reduceSub, Nat.reduceMul, Nat.reduceLT, Nat.reduceLeDiff, Nat.reduceEqDiff, Nat.reduceBEq, Int.reduceToNat]
    exact RetV.mk 1 rfl rfl (by omega) rfl (by simp [noBoO, noBoL, noBo, noBo_toks, noBoLapp]) rfl ⟨rfl, rfl, by simp [argT, rdT, toksA, tokA, markT, keptT]⟩
  ·
    have hT := hT (by omega)
    have hl := hl (by omega)
    repeat' (first | refine ⟨by omega, ?_⟩ | (refine hJ _ _ (RunsL.nil ?_); clear hJ J) | refine RunsA.cond rfl (fun h => ?_) (fun h => absurd h (by decide)) | refine RunsA.cond rfl (fun h => absurd h (by decide)) (fun h => ?_) | (refine step_ ?_) | (refine RunsA.rk 80 [] tabOk fun J hJ => ?_; simp only [go_sem, ↓reduceIte, Nat.reduceAdd, Nat.reduceSub, Nat.reduceMul, Nat.reduceLT, Nat.reduceLeDiff, Nat.reduceEqDiff, Nat.reduceBEq, Int.reduceToNat, toksA_len, List.length_cons, List.length_nil, List.length_append, Int.reduceBEq, brw_exprs]; try simp (disch := omega) only [wrap_id]) | (refine hJ _ _ (RunsL.call (ps := []) (rid := 16) rfl rfl rfl rfl rfl (by simp only [go_sem, Nat.reduceEqDiff]; first | done | rfl) (markTi_ok _) rfl (by decide) ⟨by decide, by decide, rfl⟩ (by first | exact .inl rfl | exact .inr (.inl rfl) | exact .inr (.inr rfl)) ?_); clear hJ J; rintro r os' ros ⟨rfl, rfl, rfl⟩ _; refine RunsL.go tabOk fun J hJ => ?_; simp only [go_sem, ↓reduceIte, Nat.reduceAdd, Nat.reduceSub, Nat.reduceMul, Nat.reduceLT, Nat.reduceLeDiff, Nat.reduceEqDiff, Nat.reduceBEq, Int.reduceToNat, toksA_len, List.length_cons, List.length_nil, List.length_append, Int.reduceBEq, brw_exprs]; try simp (disch := omega) only [wrap_id]) | simp only [↓reduceIte, not_false_eq_true, toksA_len, List.length_cons, List.length_nil, List.length_append, Int.reduceBEq, brw_exprs])
    refine hJ _ _ (RunsL.call (ps := []) (rid := 18944) rfl rfl rfl rfl rfl (by simp only [go_sem, Nat.reduceEqDiff, brw_exprs]; first | done | rfl) (hT) rfl (by decide) ⟨by decide, by decide, rfl⟩ (by first | exact .inl rfl | exact .inr (.inl rfl) | exact .inr (.inr rfl)) ?_); clear hJ J
    rintro r os' ros ⟨rfl, rfl, rfl⟩ _
    refine RunsL.go tabOk fun J hJ => ?_
    simp only [go_sem, ↓reduceIte, Nat.reduceAdd, Nat.reduceSub, Nat.reduceMul, Nat.reduceLT, Nat.reduceLeDiff, Nat.reduceEqDiff, Nat.reduceBEq, Int.reduceToNat, toksA_len, List.length_cons, List.length_nil, List.length_append, Int.reduceBEq, brw_exprs]
    try simp (disch := omega) only [wrap_id]
    (repeat refine ⟨by omega, ?_⟩)
    refine hJ _ _ (RunsL.nil ?_); clear hJ J
    refine run_ ?_
    refine RetA.v tabOk rfl ?_
    simp only [go_sem, ↓reduceIte, Nat.reduceAdd, Nat.reduceSub, Nat.reduceMul, Nat.reduceLT, Nat.reduceLeDiff, Nat.reduceEqDiff, Nat.reduceBEq, Int.reduceToNat]
    refine RetV.ren (id := 3072) (id' := 100) (by simp only [go_sem, ↓reduceIte, Nat.reduceAdd, Nat.reduceSub, Nat.reduceMul, Nat.reduceLT, Nat.reduceLeDiff, Nat.reduceEqDiff, Nat.reduceBEq, Int.reduceToNat]; rfl) ?_
    simp only [go_sem, ↓reduceIte, Nat.reduceAdd, Nat.reduceSub, Nat.reduceMul, Nat.reduceLT, Nat.reduceLeDiff, Nat.reduceEqDiff, Nat.reduceBEq, Int.reduceToNat]
    exact RetV.mk 1 rfl rfl (by omega) rfl (by simp [noBoO, noBoL, noBo, noBo_toks, noBoLapp]) rfl ⟨rfl, rfl, by simp [argT, rdT, toksA, tokA, markT, keptT]⟩
  ·
    have hT := hT (by omega)
    have hl := hl (by omega)
    repeat' (first | refine ⟨by omega, ?_⟩ | (refine hJ _ _ (RunsL.nil ?_); clear hJ J) | refine RunsA.cond rfl (fun h => ?_) (fun h => absurd h (by decide)) | refine RunsA.cond rfl (fun h => absurd h (by decide)) (fun h => ?_) | (refine step_ ?_) | (refine RunsA.rk 80 [] tabOk fun J hJ => ?_; simp only [go_sem, ↓reduceIte, Nat.reduceAdd, Nat.reduceSub, Nat.reduceMul, Nat.reduceLT, Nat.reduceLeDiff, Nat.reduceEqDiff, Nat.reduceBEq, Int.reduceToNat, toksA_len, List.length_cons, List.length_nil, List.length_append, Int.reduceBEq, brw_exprs]; try simp (disch := omega) only [wrap_id]) | (refine hJ _ _ (RunsL.call (ps := []) (rid := 16) rfl rfl rfl rfl rfl (by simp only [go_sem, Nat.reduceEqDiff]; first | done | rfl) (markTi_ok _) rfl (by decide) ⟨by decide, by decide, rfl⟩ (by first | exact .inl rfl | exact .inr (.inl rfl) | exact .inr (.inr rfl)) ?_); clear hJ J; rintro r os' ros ⟨rfl, rfl, rfl⟩ _; refine RunsL.go tabOk fun J hJ => ?_; simp only [go_sem, ↓reduceIte, Nat.reduceAdd, Nat.reduceSub, Nat.reduceMul, Nat.reduceLT, Nat.reduceLeDiff, Nat.reduceEqDiff, Nat.reduceBEq, Int.reduceToNat, toksA_len, List.length_cons, List.length_nil, List.length_append, Int.reduceBEq, brw_exprs]; try simp (disch := omega) only [wrap_id]) | simp only [↓reduceIte, not_false_eq_true, toksA_len, List.length_cons, List.length_nil, List.length_append, Int.reduceBEq, brw_exprs])
    refine hJ _ _ (RunsL.call (ps := []) (rid := 18944) rfl rfl rfl rfl rfl (by simp only [go_sem, Nat.reduceEqDiff, brw_exprs]; first | done | rfl) (hT) rfl (by decide) ⟨by decide, by decide, rfl⟩ (by first | exact .inl rfl | exact .inr (.inl rfl) | exact .inr (.inr rfl)) ?_); clear hJ J
    rintro r os' ros ⟨rfl, rfl, rfl⟩ _
    refine RunsL.go tabOk fun J hJ => ?_
    simp only [go_sem, ↓reduceIte, Nat.reduceAdd, Nat.reduceSub, Nat.reduceMul, Nat.reduceLT, Nat.reduceLeDiff, Nat.reduceEqDiff, Nat.reduceBEq, Int.reduceToNat, toksA_len, List.length_cons, List.length_nil, List.length_append, Int.reduceBEq, brw_exprs]
    try simp (disch := omega) only [wrap_id]
    (repeat refine ⟨by omega, ?_⟩)
    refine hJ _ _ (RunsL.nil ?_); clear hJ J
    refine run_ ?_
    refine RetA.v tabOk rfl ?_
    simp only [go_sem, ↓reduceIte, Nat.reduceAdd, Nat.reduceSub, Nat.reduceMul, Nat.reduceLT, Nat.reduceLeDiff, Nat.reduceEqDiff, Nat.reduceBEq, Int.reduceToNat]
    refine RetV.ren (id := 3072) (id' := 100) (by simp only [go_sem, ↓reduceIte, Nat.reduceAdd, Nat.reduceSub, Nat.reduceMul, Nat.reduceLT, Nat.reduceLeDiff, Nat.reduceEqDiff, Nat.reduceBEq, Int.reduceToNat]; rfl) ?_
    simp only [go_sem, ↓reduceIte, Nat.reduceAdd, Nat.reduceSub, Nat.reduceMul, Nat.reduceLT, Nat.reduceLeDiff, Nat.reduceEqDiff, Nat.reduceBEq, Int.reduceToNat]
    exact RetV.mk 1 rfl rfl (by omega) rfl (by simp [noBoO, noBoL, noBo, noBo_toks, noBoLapp]) rfl ⟨rfl, rfl, by simp [argT, rdT, toksA, tokA, markT, keptT]⟩
end Go.Proofs.YtgjeemfggfhibaaGreatDoorFw
