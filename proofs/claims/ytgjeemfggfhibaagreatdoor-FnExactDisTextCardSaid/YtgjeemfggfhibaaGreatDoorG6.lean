/- The tokens of terms: the program's. -/
import Derived.Test.YtgjeemfggfhibaaGreatDoorG5
namespace Go.Proofs.YtgjeemfggfhibaaGreatDoorFw
open Go Go.RowKit
set_option linter.unusedVariables false
set_option linter.unusedSimpArgs false
set_option maxRecDepth 4000
set_option pp.deepTerms.threshold 6
set_option pp.deepTerms false
set_option maxHeartbeats 2000000 in
theorem iTokens_ok : ∀ e : ExprV, e.good → e.tot ≤ 1048576 → FnA Tryz.prog 126 false [exprA .bo e] [] (fun r os ros => r = .hd 100 [] ∧ os = [] ∧ ros = [(3, toksA e.toks)]) := by
  refine ExprV.ind fun k n s l ih => ?_
  intro hgd hf
  have hgd2 := hgd
  rw [ExprV.good] at hgd
  have ht : (ExprV.mk k n s l).tot = s.length + (l.length + ExprV.totL l) := rfl
  have hln := ExprV.toks_len _ hgd2
  clear hgd2
  rw [exprA_mk]
  refine FnA.of Tryz.func126 rfl (by decide) Tryz.ntmps126 (by simp) ?_
  by_cases k1 : k = 1
  · subst k1
    repeat (first | refine RunsA.sq ?_ | refine RunsA.bk ?_ | refine RunsA.sk ?_ | refine RunsA.ex ?_ | refine RunsA.rt ?_ | refine At.n ?_ | refine At.x ?_ | refine At.r ?_ | refine At.bn ?_ | refine At.br ?_ | refine At.bx ?_ | refine At.by_ rfl ?_ | refine At.kx ?_ | refine At.kr ?_ | refine At.kn ?_ | refine At.er ?_ | refine At.en ?_ | (refine RunsA.rq tabOk fun J hJ => ?_; simp only [go_sem, ↓reduceIte, Nat.reduceAdd, Nat.reduceSub, Nat.reduceMul, Nat.reduceLT, Nat.reduceLeDiff, Nat.reduceEqDiff, Nat.reduceBEq, Int.reduceToNat, Int.reduceBEq]; (try simp (disch := omega) only [wrap_id]); (repeat refine ⟨by omega, ?_⟩); refine hJ _ _ (RunsL.nil ?_); clear hJ J) | (refine RunsA.dq mixed tabOk (by kernel_rfl) fun J hJ => ?_; simp only [go_sem, ↓reduceIte, Nat.reduceAdd, Nat.reduceSub, Nat.reduceMul, Nat.reduceLT, Nat.reduceLeDiff, Nat.reduceEqDiff, Nat.reduceBEq, Int.reduceToNat, Int.reduceBEq]; (try simp (disch := omega) only [wrap_id]); (repeat refine ⟨by omega, ?_⟩); refine hJ _ _ (QRuns.nil ?_); clear hJ J))
    refine RunsA.cond rfl (fun h => ?_) (fun h => absurd h (by decide))
    refine run_ ?_
    refine RetA.v tabOk rfl ?_
    simp only [go_sem, ↓reduceIte, Nat.reduceAdd, Nat.reduceSub, Nat.reduceMul, Nat.reduceLT, Nat.reduceLeDiff, Nat.reduceEqDiff, Nat.reduceBEq, Int.reduceToNat]
    refine RetV.ren (id := 3072) (id' := 100) (by simp only [go_sem, ↓reduceIte, Nat.reduceAdd, Nat.reduceSub, Nat.reduceMul, Nat.reduceLT, Nat.reduceLeDiff, Nat.reduceEqDiff, Nat.reduceBEq, Int.reduceToNat]; rfl) ?_
    simp only [go_sem, ↓reduceIte, Nat.reduceAdd, Nat.reduceSub, Nat.reduceMul, Nat.reduceLT, Nat.reduceLeDiff, Nat.reduceEqDiff, Nat.reduceBEq, Int.reduceToNat]
    exact RetV.mk 1 rfl rfl (by omega) rfl rfl rfl ⟨rfl, rfl, by simp [ExprV.toks, toksA, tokA]⟩
  have b1 : (k == 1) = false := by simpa using k1
  refine run1_ @b1 ?_
  refine RunsA.cond rfl (fun h => absurd h (by decide)) (fun h => ?_)
  by_cases k2 : k = 2
  · subst k2
    repeat (first | refine RunsA.sq ?_ | refine RunsA.bk ?_ | refine RunsA.sk ?_ | refine RunsA.ex ?_ | refine RunsA.rt ?_ | refine At.n ?_ | refine At.x ?_ | refine At.r ?_ | refine At.bn ?_ | refine At.br ?_ | refine At.bx ?_ | refine At.by_ rfl ?_ | refine At.kx ?_ | refine At.kr ?_ | refine At.kn ?_ | refine At.er ?_ | refine At.en ?_ | (refine RunsA.rq tabOk fun J hJ => ?_; simp only [go_sem, ↓reduceIte, Nat.reduceAdd, Nat.reduceSub, Nat.reduceMul, Nat.reduceLT, Nat.reduceLeDiff, Nat.reduceEqDiff, Nat.reduceBEq, Int.reduceToNat, Int.reduceBEq]; (try simp (disch := omega) only [wrap_id]); (repeat refine ⟨by omega, ?_⟩); refine hJ _ _ (RunsL.nil ?_); clear hJ J) | (refine RunsA.dq mixed tabOk (by kernel_rfl) fun J hJ => ?_; simp only [go_sem, ↓reduceIte, Nat.reduceAdd, Nat.reduceSub, Nat.reduceMul, Nat.reduceLT, Nat.reduceLeDiff, Nat.reduceEqDiff, Nat.reduceBEq, Int.reduceToNat, Int.reduceBEq]; (try simp (disch := omega) only [wrap_id]); (repeat refine ⟨by omega, ?_⟩); refine hJ _ _ (QRuns.nil ?_); clear hJ J))
    refine RunsA.cond rfl (fun h => ?_) (fun h => absurd h (by decide))
    refine run_ ?_
    refine RetA.v tabOk rfl ?_
    simp only [go_sem, ↓reduceIte, Nat.reduceAdd, Nat.reduceSub, Nat.reduceMul, Nat.reduceLT, Nat.reduceLeDiff, Nat.reduceEqDiff, Nat.reduceBEq, Int.reduceToNat]
    refine RetV.ren (id := 4608) (id' := 100) (by simp only [go_sem, ↓reduceIte, Nat.reduceAdd, Nat.reduceSub, Nat.reduceMul, Nat.reduceLT, Nat.reduceLeDiff, Nat.reduceEqDiff, Nat.reduceBEq, Int.reduceToNat]; rfl) ?_
    simp only [go_sem, ↓reduceIte, Nat.reduceAdd, Nat.reduceSub, Nat.reduceMul, Nat.reduceLT, Nat.reduceLeDiff, Nat.reduceEqDiff, Nat.reduceBEq, Int.reduceToNat]
    exact RetV.mk 1 rfl rfl (by omega) rfl rfl rfl ⟨rfl, rfl, by simp [ExprV.toks, toksA, tokA, nameT]⟩
  have b2 : (k == 2) = false := by simpa using k2
  refine run1_ @b2 ?_
  refine RunsA.cond rfl (fun h => absurd h (by decide)) (fun h => ?_)
  by_cases k3 : k = 3
  · subst k3
    repeat (first | refine RunsA.sq ?_ | refine RunsA.bk ?_ | refine RunsA.sk ?_ | refine RunsA.ex ?_ | refine RunsA.rt ?_ | refine At.n ?_ | refine At.x ?_ | refine At.r ?_ | refine At.bn ?_ | refine At.br ?_ | refine At.bx ?_ | refine At.by_ rfl ?_ | refine At.kx ?_ | refine At.kr ?_ | refine At.kn ?_ | refine At.er ?_ | refine At.en ?_ | (refine RunsA.rq tabOk fun J hJ => ?_; simp only [go_sem, ↓reduceIte, Nat.reduceAdd, Nat.reduceSub, Nat.reduceMul, Nat.reduceLT, Nat.reduceLeDiff, Nat.reduceEqDiff, Nat.reduceBEq, Int.reduceToNat, Int.reduceBEq]; (try simp (disch := omega) only [wrap_id]); (repeat refine ⟨by omega, ?_⟩); refine hJ _ _ (RunsL.nil ?_); clear hJ J) | (refine RunsA.dq mixed tabOk (by kernel_rfl) fun J hJ => ?_; simp only [go_sem, ↓reduceIte, Nat.reduceAdd, Nat.reduceSub, Nat.reduceMul, Nat.reduceLT, Nat.reduceLeDiff, Nat.reduceEqDiff, Nat.reduceBEq, Int.reduceToNat, Int.reduceBEq]; (try simp (disch := omega) only [wrap_id]); (repeat refine ⟨by omega, ?_⟩); refine hJ _ _ (QRuns.nil ?_); clear hJ J))
    refine RunsA.cond rfl (fun h => ?_) (fun h => absurd h (by decide))
    refine run_ ?_
    refine RunsA.rq tabOk fun J hJ => ?_
    simp only [go_sem, ↓reduceIte, Nat.reduceAdd, Nat.reduceSub, Nat.reduceMul, Nat.reduceLT, Nat.reduceLeDiff, Nat.reduceEqDiff, Nat.reduceBEq, Int.reduceToNat]
    try simp (disch := omega) only [wrap_id]
    refine hJ _ _ (RunsL.call (ps := []) (rid := 16) rfl rfl rfl rfl rfl (by simp only [go_sem, Nat.reduceEqDiff]; first | done | rfl) (markTi_ok [46]) rfl (by decide) ⟨by decide, by decide, rfl⟩ (by first | exact .inl rfl | exact .inr (.inl rfl) | exact .inr (.inr rfl)) ?_); clear hJ J
    rintro r os' ros ⟨rfl, rfl, rfl⟩ _
    refine RunsL.go tabOk fun J hJ => ?_
    simp only [go_sem, ↓reduceIte, Nat.reduceAdd, Nat.reduceSub, Nat.reduceMul, Nat.reduceLT, Nat.reduceLeDiff, Nat.reduceEqDiff, Nat.reduceBEq, Int.reduceToNat]
    try simp (disch := omega) only [wrap_id]
    refine hJ _ _ (RunsL.nil ?_); clear hJ J
    refine run_ ?_
    refine RetA.v tabOk rfl ?_
    simp only [go_sem, ↓reduceIte, Nat.reduceAdd, Nat.reduceSub, Nat.reduceMul, Nat.reduceLT, Nat.reduceLeDiff, Nat.reduceEqDiff, Nat.reduceBEq, Int.reduceToNat]
    refine RetV.ren (id := 5632) (id' := 100) (by simp only [go_sem, ↓reduceIte, Nat.reduceAdd, Nat.reduceSub, Nat.reduceMul, Nat.reduceLT, Nat.reduceLeDiff, Nat.reduceEqDiff, Nat.reduceBEq, Int.reduceToNat]; rfl) ?_
    simp only [go_sem, ↓reduceIte, Nat.reduceAdd, Nat.reduceSub, Nat.reduceMul, Nat.reduceLT, Nat.reduceLeDiff, Nat.reduceEqDiff, Nat.reduceBEq, Int.reduceToNat]
    exact RetV.mk 1 rfl rfl (by omega) rfl rfl rfl ⟨rfl, rfl, by simp [ExprV.toks, toksA, tokA, markT]⟩
  have b3 : (k == 3) = false := by simpa using k3
  refine run1_ @b3 ?_
  refine RunsA.cond rfl (fun h => absurd h (by decide)) (fun h => ?_)
  by_cases k4 : k = 4
  · subst k4
    obtain ⟨e0, r0, rfl⟩ : ∃ e r, l = e :: r := by
      cases l with
      | nil => simp at hgd
      | cons e r => exact ⟨e, r, rfl⟩
    have hE : (ExprV.mk 4 n s (e0 :: r0)).toks = markT [45] :: e0.toks := by simp [ExprV.toks, ExprV.toksL]
    have g0 := hgd.2.1
    have t0 : e0.tot ≤ 1048576 := by have := ExprV.totL_mem (l := e0 :: r0) (e := e0) (by simp); omega
    have l0 := ExprV.toks_len e0 g0
    have H0 := ih e0 (by simp) g0 t0
    rw [hE]
    generalize e0.toks = A at *
    have hx0 : (exprsA .bo (e0 :: r0))[0]? = some (.agg [.int .i64 e0.1, .int .i64 e0.2, .str e0.3, .row .bo 4 (exprsA .bo e0.4)]) := by rw [← exprA_un]; rfl
    rw [exprA_un] at H0
    generalize exprsA .bo (e0 :: r0) = RW at *
    repeat (first | refine RunsA.sq ?_ | refine RunsA.bk ?_ | refine RunsA.sk ?_ | refine RunsA.ex ?_ | refine RunsA.rt ?_ | refine At.n ?_ | refine At.x ?_ | refine At.r ?_ | refine At.bn ?_ | refine At.br ?_ | refine At.bx ?_ | refine At.by_ rfl ?_ | refine At.kx ?_ | refine At.kr ?_ | refine At.kn ?_ | refine At.er ?_ | refine At.en ?_ | (refine RunsA.rq tabOk fun J hJ => ?_; simp only [go_sem, ↓reduceIte, Nat.reduceAdd, Nat.reduceSub, Nat.reduceMul, Nat.reduceLT, Nat.reduceLeDiff, Nat.reduceEqDiff, Nat.reduceBEq, Int.reduceToNat, Int.reduceBEq]; (try simp (disch := omega) only [wrap_id]); (repeat refine ⟨by omega, ?_⟩); refine hJ _ _ (RunsL.nil ?_); clear hJ J) | (refine RunsA.dq mixed tabOk (by kernel_rfl) fun J hJ => ?_; simp only [go_sem, ↓reduceIte, Nat.reduceAdd, Nat.reduceSub, Nat.reduceMul, Nat.reduceLT, Nat.reduceLeDiff, Nat.reduceEqDiff, Nat.reduceBEq, Int.reduceToNat, Int.reduceBEq]; (try simp (disch := omega) only [wrap_id]); (repeat refine ⟨by omega, ?_⟩); refine hJ _ _ (QRuns.nil ?_); clear hJ J))
    refine RunsA.cond rfl (fun h => ?_) (fun h => absurd h (by decide))
    refine RunsA.sq ?_
    refine RunsA.dag (Ω := Unit) mixed () [(1, [(0, 0)]), (4, [(0, 2)]), (3, [(1, 1)]), (5, [(1, 2), (4, 0)]), (12, [(4, 3)]), (7, [(3, 2), (5, 1)]), (13, [(5, 3), (12, 0)]), (28, [(12, 4)]), (15, [(7, 3), (13, 1)]), (29, [(13, 4), (28, 0)]), (60, [(28, 5)]), (31, [(15, 4), (29, 1)]), (61, [(29, 5), (60, 0)]), (63, [(31, 5), (61, 1)]), (125, [(61, 6)]), (127, [(63, 6), (125, 1)]), (255, [(127, 7)]), (511, [(255, 8)])] (by kernel_rfl) ?_
    repeat
      (apply DagP.step
       · repeat
           (apply EdgesP.cons rfl rfl
            · intro ω
              refine RunsL.go tabOk fun J hJ => ?_
              simp only [go_sem, ↓reduceIte, Nat.reduceAdd, Nat.reduceSub, Nat.reduceMul, Nat.reduceLT, Nat.reduceLeDiff, Nat.reduceEqDiff, Nat.reduceBEq, Int.reduceToNat, hx0, toksA_len, brw_exprs, brwL, brw, List.length_cons, List.length_nil, List.length_append]
              try simp (disch := omega) only [wrap_id]
              (repeat refine ⟨by omega, ?_⟩)
              first
                | (refine hJ _ _ (RunsL.nil ?_); clear hJ J; first | exact ⟨ω, LeS.refl _⟩ | exact ⟨ω, LeS.of rfl (by simp only [SubS, lookS, Nat.reduceEqDiff, ↓reduceIte, and_self]) (by simp only [SubO, lookO, Nat.reduceEqDiff, ↓reduceIte, and_self]) rfl⟩)
                | (refine hJ _ _ (RunsL.call (ps := []) (rid := 16) rfl rfl rfl rfl rfl (by simp only [go_sem, Nat.reduceEqDiff, hx0, toksA_len, brw_exprs, brwL, brw, List.length_cons, List.length_nil, List.length_append]; first | done | rfl) (markTi_ok [45]) rfl (by decide) ⟨by decide, by decide, rfl⟩ (by first | exact .inl rfl | exact .inr (.inl rfl) | exact .inr (.inr rfl)) ?_); clear hJ J
                   rintro r os' ros ⟨rfl, rfl, rfl⟩ _
                   refine RunsL.go tabOk fun J hJ => ?_
                   simp only [go_sem, ↓reduceIte, Nat.reduceAdd, Nat.reduceSub, Nat.reduceMul, Nat.reduceLT, Nat.reduceLeDiff, Nat.reduceEqDiff, Nat.reduceBEq, Int.reduceToNat, hx0, toksA_len, brw_exprs, brwL, brw, List.length_cons, List.length_nil, List.length_append]
                   try simp (disch := omega) only [wrap_id]
                   (repeat refine ⟨by omega, ?_⟩)
                   refine hJ _ _ (RunsL.nil ?_)
                   clear hJ J
                   first | exact ⟨ω, LeS.refl _⟩ | exact ⟨ω, LeS.of rfl (by simp only [SubS, lookS, Nat.reduceEqDiff, ↓reduceIte, and_self]) (by simp only [SubO, lookO, Nat.reduceEqDiff, ↓reduceIte, and_self]) rfl⟩)
                | (refine hJ _ _ (RunsL.call (ps := []) (rid := 7936) rfl rfl rfl rfl rfl (by simp only [go_sem, Nat.reduceEqDiff, hx0, toksA_len, brw_exprs, brwL, brw, List.length_cons, List.length_nil, List.length_append]; first | done | rfl) (H0) rfl (by decide) ⟨by decide, by decide, rfl⟩ (by first | exact .inl rfl | exact .inr (.inl rfl) | exact .inr (.inr rfl)) ?_); clear hJ J
                   rintro r os' ros ⟨rfl, rfl, rfl⟩ _
                   refine RunsL.go tabOk fun J hJ => ?_
                   simp only [go_sem, ↓reduceIte, Nat.reduceAdd, Nat.reduceSub, Nat.reduceMul, Nat.reduceLT, Nat.reduceLeDiff, Nat.reduceEqDiff, Nat.reduceBEq, Int.reduceToNat, hx0, toksA_len, brw_exprs, brwL, brw, List.length_cons, List.length_nil, List.length_append]
                   try simp (disch := omega) only [wrap_id]
                   (repeat refine ⟨by omega, ?_⟩)
                   refine hJ _ _ (RunsL.nil ?_)
                   clear hJ J
                   first | exact ⟨ω, LeS.refl _⟩ | exact ⟨ω, LeS.of rfl (by simp only [SubS, lookS, Nat.reduceEqDiff, ↓reduceIte, and_self]) (by simp only [SubO, lookO, Nat.reduceEqDiff, ↓reduceIte, and_self]) rfl⟩))
         exact EdgesP.nil)
    refine DagP.done fun ω => ?_
    refine run_ ?_
    refine RetA.v tabOk rfl ?_
    simp only [go_sem, ↓reduceIte, Nat.reduceAdd, Nat.reduceSub, Nat.reduceMul, Nat.reduceLT, Nat.reduceLeDiff, Nat.reduceEqDiff, Nat.reduceBEq, Int.reduceToNat]
    refine RetV.ren (id := 6656) (id' := 100) (by simp only [go_sem, ↓reduceIte, Nat.reduceAdd, Nat.reduceSub, Nat.reduceMul, Nat.reduceLT, Nat.reduceLeDiff, Nat.reduceEqDiff, Nat.reduceBEq, Int.reduceToNat]; rfl) ?_
    simp only [go_sem, ↓reduceIte, Nat.reduceAdd, Nat.reduceSub, Nat.reduceMul, Nat.reduceLT, Nat.reduceLeDiff, Nat.reduceEqDiff, Nat.reduceBEq, Int.reduceToNat]
    exact RetV.mk 1 rfl rfl (by omega) rfl (by simp [noBoO, noBoL, noBo, noBo_toks]) rfl ⟨rfl, rfl, by simp [toksA, tokA, markT]⟩
  have b4 : (k == 4) = false := by simpa using k4
  obtain ⟨e0, e1, r0, rfl⟩ : ∃ e e1 r, l = e :: e1 :: r := by
    match l, hgd with
    | [], hgd => exfalso; simp at hgd; omega
    | [_], hgd => exfalso; simp at hgd; omega
    | e :: e1 :: r, _ => exact ⟨e, e1, r, rfl⟩
  have hE : (ExprV.mk k n s (e0 :: e1 :: r0)).toks = markT [60] :: e0.toks ++ [markT (signT k)] ++ e1.toks ++ [markT [62]] := by simp [ExprV.toks, ExprV.toksL, k1, k2, k3, k4]
  have g0 := hgd.2.1
  have g1 := hgd.2.2.1
  have t0 : e0.tot ≤ 1048576 := by have := ExprV.totL_mem (l := e0 :: e1 :: r0) (e := e0) (by simp); omega
  have t1 : e1.tot ≤ 1048576 := by have := ExprV.totL_mem (l := e0 :: e1 :: r0) (e := e1) (by simp); omega
  have l0 := ExprV.toks_len e0 g0
  have l1 := ExprV.toks_len e1 g1
  have H0 := ih e0 (by simp) g0 t0
  have H1 := ih e1 (by simp) g1 t1
  rw [hE]
  generalize e0.toks = A at *
  generalize e1.toks = B at *
  generalize hsg : signT k = sg at *
  have hx0 : (exprsA .bo (e0 :: e1 :: r0))[0]? = some (.agg [.int .i64 e0.1, .int .i64 e0.2, .str e0.3, .row .bo 4 (exprsA .bo e0.4)]) := by rw [← exprA_un]; rfl
  have hx1 : (exprsA .bo (e0 :: e1 :: r0))[1]? = some (.agg [.int .i64 e1.1, .int .i64 e1.2, .str e1.3, .row .bo 4 (exprsA .bo e1.4)]) := by rw [← exprA_un]; rfl
  rw [exprA_un] at H0 H1
  generalize exprsA .bo (e0 :: e1 :: r0) = RW at *
  refine run1_ @b4 ?_
  refine RunsA.cond rfl (fun h => absurd h (by decide)) (fun h => ?_)
  refine run_ ?_
  refine RunsA.dag (Ω := Unit) mixed () [(1, [(0, 0)]), (4, [(0, 2)]), (3, [(1, 1)]), (5, [(1, 2), (4, 0)]), (12, [(4, 3)]), (7, [(3, 2), (5, 1)]), (13, [(5, 3), (12, 0)]), (28, [(12, 4)]), (15, [(7, 3), (13, 1)]), (29, [(13, 4), (28, 0)]), (60, [(28, 5)]), (31, [(15, 4), (29, 1)]), (61, [(29, 5), (60, 0)]), (63, [(31, 5), (61, 1)]), (125, [(61, 6)]), (127, [(63, 6), (125, 1)]), (255, [(127, 7)]), (511, [(255, 8)])] (by kernel_rfl) ?_
  repeat
    (apply DagP.step
     · repeat
         (apply EdgesP.cons rfl rfl
          · intro ω
            refine RunsL.go tabOk fun J hJ => ?_
            simp only [go_sem, ↓reduceIte, Nat.reduceAdd, Nat.reduceSub, Nat.reduceMul, Nat.reduceLT, Nat.reduceLeDiff, Nat.reduceEqDiff, Nat.reduceBEq, Int.reduceToNat, hx0, toksA_len, brw_exprs, List.length_cons, List.length_nil, List.length_append]
            try simp (disch := omega) only [wrap_id]
            (repeat refine ⟨by omega, ?_⟩)
            first
              | (refine hJ _ _ (RunsL.nil ?_); clear hJ J; first | exact ⟨ω, LeS.refl _⟩ | exact ⟨ω, LeS.of rfl (by simp only [SubS, lookS, Nat.reduceEqDiff, ↓reduceIte, and_self]) (by simp only [SubO, lookO, Nat.reduceEqDiff, ↓reduceIte, and_self]) rfl⟩)
              | (refine hJ _ _ (RunsL.call (ps := []) (rid := 16) rfl rfl rfl rfl rfl (by simp only [go_sem, Nat.reduceEqDiff, hx0, toksA_len, brw_exprs, List.length_cons, List.length_nil, List.length_append]; first | done | rfl) (markTi_ok [60]) rfl (by decide) ⟨by decide, by decide, rfl⟩ (by first | exact .inl rfl | exact .inr (.inl rfl) | exact .inr (.inr rfl)) ?_); clear hJ J
                 rintro r os' ros ⟨rfl, rfl, rfl⟩ _
                 refine RunsL.go tabOk fun J hJ => ?_
                 simp only [go_sem, ↓reduceIte, Nat.reduceAdd, Nat.reduceSub, Nat.reduceMul, Nat.reduceLT, Nat.reduceLeDiff, Nat.reduceEqDiff, Nat.reduceBEq, Int.reduceToNat, hx0, toksA_len, brw_exprs, List.length_cons, List.length_nil, List.length_append]
                 try simp (disch := omega) only [wrap_id]
                 (repeat refine ⟨by omega, ?_⟩)
                 refine hJ _ _ (RunsL.nil ?_)
                 clear hJ J
                 first | exact ⟨ω, LeS.refl _⟩ | exact ⟨ω, LeS.of rfl (by simp only [SubS, lookS, Nat.reduceEqDiff, ↓reduceIte, and_self]) (by simp only [SubO, lookO, Nat.reduceEqDiff, ↓reduceIte, and_self]) rfl⟩)
              | (refine hJ _ _ (RunsL.call (ps := []) (rid := 9984) rfl rfl rfl rfl rfl (by simp only [go_sem, Nat.reduceEqDiff, hx0, toksA_len, brw_exprs, List.length_cons, List.length_nil, List.length_append]; first | done | rfl) (H0) rfl (by decide) ⟨by decide, by decide, rfl⟩ (by first | exact .inl rfl | exact .inr (.inl rfl) | exact .inr (.inr rfl)) ?_); clear hJ J
                 rintro r os' ros ⟨rfl, rfl, rfl⟩ _
                 refine RunsL.go tabOk fun J hJ => ?_
                 simp only [go_sem, ↓reduceIte, Nat.reduceAdd, Nat.reduceSub, Nat.reduceMul, Nat.reduceLT, Nat.reduceLeDiff, Nat.reduceEqDiff, Nat.reduceBEq, Int.reduceToNat, hx0, toksA_len, brw_exprs, List.length_cons, List.length_nil, List.length_append]
                 try simp (disch := omega) only [wrap_id]
                 (repeat refine ⟨by omega, ?_⟩)
                 refine hJ _ _ (RunsL.nil ?_)
                 clear hJ J
                 first | exact ⟨ω, LeS.refl _⟩ | exact ⟨ω, LeS.of rfl (by simp only [SubS, lookS, Nat.reduceEqDiff, ↓reduceIte, and_self]) (by simp only [SubO, lookO, Nat.reduceEqDiff, ↓reduceIte, and_self]) rfl⟩))
       exact EdgesP.nil)
  refine DagP.done fun ω => ?_
  refine run_ ?_
  have hsl : List.take ((k - 5 + 1).toNat - (k - 5).toNat) (List.drop (k - 5).toNat [(43 : UInt8), 45, 42, 47, 38, 124]) = sg := by
    rw [← hsg]
    have : k = 5 ∨ k = 6 ∨ k = 7 ∨ k = 8 ∨ k = 9 ∨ k = 10 := by
      have := hgd.1
      omega
    rcases this with rfl | rfl | rfl | rfl | rfl | rfl <;> rfl
  have hk5 : 5 ≤ k ∧ k ≤ 10 := by have := hgd.1; omega
  refine RunsA.rq tabOk fun J hJ => ?_
  simp only [go_sem, ↓reduceIte, Nat.reduceAdd, Nat.reduceSub, Nat.reduceMul, Nat.reduceLT, Nat.reduceLeDiff, Nat.reduceEqDiff, Nat.reduceBEq, Int.reduceToNat, toksA_len, List.length_cons, List.length_nil, List.length_append, hsl]
  try simp (disch := omega) only [wrap_id]
  (repeat refine ⟨by omega, ?_⟩)
  refine hJ _ _ (RunsL.call (ps := []) (rid := 16) rfl rfl rfl rfl rfl (by simp only [go_sem, Nat.reduceEqDiff, hsl]; first | done | rfl) (markTi_ok sg) rfl (by decide) ⟨by decide, by decide, rfl⟩ (by first | exact .inl rfl | exact .inr (.inl rfl) | exact .inr (.inr rfl)) ?_); clear hJ J
  rintro r os' ros ⟨rfl, rfl, rfl⟩ _
  refine RunsL.go tabOk fun J hJ => ?_
  simp only [go_sem, ↓reduceIte, Nat.reduceAdd, Nat.reduceSub, Nat.reduceMul, Nat.reduceLT, Nat.reduceLeDiff, Nat.reduceEqDiff, Nat.reduceBEq, Int.reduceToNat, toksA_len, List.length_cons, List.length_nil, List.length_append]
  try simp (disch := omega) only [wrap_id]
  (repeat refine ⟨by omega, ?_⟩)
  refine hJ _ _ (RunsL.nil ?_); clear hJ J
  refine run_ ?_
  refine RunsA.rq tabOk fun J hJ => ?_
  simp only [go_sem, ↓reduceIte, Nat.reduceAdd, Nat.reduceSub, Nat.reduceMul, Nat.reduceLT, Nat.reduceLeDiff, Nat.reduceEqDiff, Nat.reduceBEq, Int.reduceToNat, hx1, toksA_len, List.length_cons, List.length_nil, List.length_append]
  try simp (disch := omega) only [wrap_id]
  (repeat refine ⟨by omega, ?_⟩)
  refine hJ _ _ (RunsL.call (ps := []) (rid := 14848) rfl rfl rfl rfl rfl (by simp only [go_sem, Nat.reduceEqDiff, brw_exprs]; first | done | rfl) (H1) rfl (by decide) ⟨by decide, by decide, rfl⟩ (by first | exact .inl rfl | exact .inr (.inl rfl) | exact .inr (.inr rfl)) ?_); clear hJ J
  rintro r os' ros ⟨rfl, rfl, rfl⟩ _
  refine RunsL.go tabOk fun J hJ => ?_
  simp only [go_sem, ↓reduceIte, Nat.reduceAdd, Nat.reduceSub, Nat.reduceMul, Nat.reduceLT, Nat.reduceLeDiff, Nat.reduceEqDiff, Nat.reduceBEq, Int.reduceToNat, toksA_len, List.length_cons, List.length_nil, List.length_append]
  try simp (disch := omega) only [wrap_id]
  (repeat refine ⟨by omega, ?_⟩)
  refine hJ _ _ (RunsL.call (ps := []) (rid := 16) rfl rfl rfl rfl rfl (by simp only [go_sem, Nat.reduceEqDiff]; first | done | rfl) (markTi_ok [62]) rfl (by decide) ⟨by decide, by decide, rfl⟩ (by first | exact .inl rfl | exact .inr (.inl rfl) | exact .inr (.inr rfl)) ?_); clear hJ J
  rintro r os' ros ⟨rfl, rfl, rfl⟩ _
  refine RunsL.go tabOk fun J hJ => ?_
  simp only [go_sem, ↓reduceIte, Nat.reduceAdd, Nat.reduceSub, Nat.reduceMul, Nat.reduceLT, Nat.reduceLeDiff, Nat.reduceEqDiff, Nat.reduceBEq, Int.reduceToNat, toksA_len, List.length_cons, List.length_nil, List.length_append]
  try simp (disch := omega) only [wrap_id]
  (repeat refine ⟨by omega, ?_⟩)
  refine hJ _ _ (RunsL.nil ?_); clear hJ J
  refine run_ ?_
  refine RetA.v tabOk rfl ?_
  simp only [go_sem, ↓reduceIte, Nat.reduceAdd, Nat.reduceSub, Nat.reduceMul, Nat.reduceLT, Nat.reduceLeDiff, Nat.reduceEqDiff, Nat.reduceBEq, Int.reduceToNat]
  refine RetV.ren (id := 8704) (id' := 100) (by simp only [go_sem, ↓reduceIte, Nat.reduceAdd, Nat.reduceSub, Nat.reduceMul, Nat.reduceLT, Nat.reduceLeDiff, Nat.reduceEqDiff, Nat.reduceBEq, Int.reduceToNat]; rfl) ?_
  simp only [go_sem, ↓reduceIte, Nat.reduceAdd, Nat.reduceSub, Nat.reduceMul, Nat.reduceLT, Nat.reduceLeDiff, Nat.reduceEqDiff, Nat.reduceBEq, Int.reduceToNat]
  exact RetV.mk 1 rfl rfl (by omega) rfl (by simp [noBoO, noBoL, noBo, noBo_toks, noBoLapp]) rfl ⟨rfl, rfl, by simp [toksA, tokA, markT]⟩
end Go.Proofs.YtgjeemfggfhibaaGreatDoorFw
