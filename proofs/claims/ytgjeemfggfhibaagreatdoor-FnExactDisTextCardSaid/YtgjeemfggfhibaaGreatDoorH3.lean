/- The tokens of instructions: the reference's. -/
import Derived.Test.YtgjeemfggfhibaaGreatDoorHB
namespace Go.Proofs.YtgjeemfggfhibaaGreatDoorFw
open Go Go.RowKit
set_option linter.unusedVariables false
set_option linter.unusedSimpArgs false
set_option maxRecDepth 4000
set_option pp.deepTerms.threshold 6
set_option pp.deepTerms false
theorem insT_of {op n : Int} (A B : List TokV) (L : List (List TokV)) :
    (op ≤ 6 → insT op n A B L = keptT (opS op) :: (A ++ [markT [44]] ++ B)) ∧ (7 ≤ op → op ≤ 14 → insT op n A B L = keptT (opS op) :: B) ∧ (op = 15 → insT op n A B L = keptT (opS op) :: ([keptT (regS n)] ++ [markT [44]] ++ B)) ∧
    (op = 16 → insT op n A B L = [keptT (opS op), keptT (regS n)]) ∧ (op = 22 → insT op n A B L = [keptT (opS op)]) ∧ (17 ≤ op → op ≠ 22 → insT op n A B L = keptT (opS op) :: L.getD 0 []) := by
  unfold insT
  refine ⟨fun h => ?_, fun h h' => ?_, fun h => ?_, fun h => ?_, fun h => ?_, fun h h' => ?_⟩
  · rw [if_pos h]
  · rw [if_neg (by omega), if_pos h']
  · rw [if_neg (by omega), if_neg (by omega), if_pos h]
  · rw [if_neg (by omega), if_neg (by omega), if_neg (by omega), if_pos h]
  · rw [if_neg (by omega), if_neg (by omega), if_neg (by omega), if_neg (by omega), if_pos h]
  · rw [if_neg (by omega), if_neg (by omega), if_neg (by omega), if_neg (by omega), if_neg (by omega)]
set_option maxHeartbeats 8000000 in
theorem l12InsTokens_ok (k : Int) (s : Str) (op : Int) (sf sr sk sn : Int) (ss : Str) (sl : List ExprV) (df dr dk dn : Int) (ds : Str) (dl : List ExprV) (n : Int) (l : List ExprV)
    (hop : 1 ≤ op ∧ op ≤ 23) (hs : op ≤ 6 → (0 ≤ sf ∧ sf ≤ 11) ∧ (0 ≤ sr ∧ sr ≤ 7) ∧ (6 ≤ sf → (ExprV.mk sk sn ss sl).good)) (hd : op ≤ 15 → (0 ≤ df ∧ df ≤ 11) ∧ (0 ≤ dr ∧ dr ≤ 7) ∧ (6 ≤ df → (ExprV.mk dk dn ds dl).good))
    (hn : 15 ≤ op → op ≤ 16 → 0 ≤ n ∧ n ≤ 7) (hl : 17 ≤ op → op ≠ 22 → l.length = 1) (hg : ∀ e ∈ l, e.good) (ht : (LineV.mk k s op sf sr sk sn ss sl df dr dk dn ds dl n l).tot ≤ 1048576)
    (A B : List TokV) (hA : A = argT sf sr (ExprV.mk sk sn ss sl).toks) (hB : B = argT df dr (ExprV.mk dk dn ds dl).toks) (hAl : op ≤ 6 → A.length ≤ 4194304) (hBl : op ≤ 15 → B.length ≤ 4194304) :
    FnA Tryz.prog 114 false [lineA .bo (.mk k s op sf sr sk sn ss sl df dr dk dn ds dl n l)] [] (fun res os ros => res = .hd 100 [] ∧ os = [] ∧ ros = [(3, toksA (insT op n A B (termsT l)))]) := by
  simp only [LineV.tot] at ht
  have hS := fun h => l12Arg_ok sf sr sk sn ss sl (hs h).1 (hs h).2.1 (hs h).2.2 (by omega)
  have hD := fun h => l12Arg_ok df dr dk dn ds dl (hd h).1 (hd h).2.1 (hd h).2.2 (by omega)
  rw [← hA] at hS
  rw [← hB] at hD
  have hR := fun h1 h2 => l12Reg_ok n (hn h1 h2)
  have hel := exprsA_len .bo l
  rw [lineA_mk]
  have hT : 17 ≤ op → op ≠ 22 → ∃ (e : ExprV) (r : List TokV), exprsA .bo l = [exprA .bo e] ∧ (termsT l).getD 0 [] = r ∧ r.length ≤ 4194304 ∧ FnA Tryz.prog 113 false [exprA .bo e] [] (fun r' os ros => r' = .hd 100 [] ∧ os = [] ∧ ros = [(3, toksA r)]) := by
    intro h1 h2
    obtain ⟨e, rfl⟩ := List.length_eq_one_iff.1 (hl h1 h2)
    have ge := hg e (by simp)
    have ht2 : e.tot ≤ 1048576 := by simp only [ExprV.totL] at ht; omega
    refine ⟨e, e.toks, by simp [exprsA], by simp [termsT], ?_, l10Tokens_ok e ge ht2⟩
    have := ExprV.toks_len e ge
    omega
  obtain ⟨i1, i2, i3, i4, i5, i6⟩ := insT_of (op := op) (n := n) A B (termsT l)
  have hK := l12Kept_ok (op - 1) (by omega)
  rw [keptS_op op hop] at hK
  generalize termsT l = TL at *
  generalize insT op n A B TL = IT at *
  generalize l.length = c at *
  clear hA hB hs hd hn hg ht
  generalize opS op = ow at *
  refine FnA.of Tryz.func114 rfl (by decide) Tryz.ntmps114 (by simp) ?_
  refine run_ ?_
  rcases (by omega : op ≤ 6 ∨ (7 ≤ op ∧ op ≤ 14) ∨ op = 15 ∨ op = 16 ∨ op = 22 ∨ (17 ≤ op ∧ op ≠ 22)) with h | h | h | h | h | h
  · have hI := i1 h
    clear i1 i2 i3 i4 i5 i6
    have d1 : decide (op ≤ 6) = true := decide_eq_true (by omega)
    have d2 : decide (op ≤ 14) = true := decide_eq_true (by omega)
    have d3 : (op == 15) = false := beq_eq_false_iff_ne.2 (by omega)
    have d4 : (op == 16) = false := beq_eq_false_iff_ne.2 (by omega)
    have d5 : (op == 22) = false := beq_eq_false_iff_ne.2 (by omega)
    have hS := hS (by omega)
    have hD := hD (by omega)
    have hAl := hAl (by omega)
    have hBl := hBl (by omega)
    clear hT hR
    repeat' (first | refine ⟨by omega, ?_⟩ | (refine hJ _ _ (RunsL.nil ?_); clear hJ J) | refine RunsA.cond rfl (fun h => ?_) (fun h => absurd h (by decide)) | refine RunsA.cond rfl (fun h => absurd h (by decide)) (fun h => ?_) | (refine step_ ?_) | (refine RunsA.rk 4 [] tabOk fun J hJ => ?_; simp only [go_sem, ↓reduceIte, Nat.reduceAdd, Nat.reduceSub, Nat.reduceMul, Nat.reduceLT, Nat.reduceLeDiff, Nat.reduceEqDiff, Nat.reduceBEq, Int.reduceToNat, d1, d2, d3, d4, d5, toksA_len, List.length_append, List.length_cons, List.length_nil, brw_exprs]; try simp (disch := omega) only [wrap_id]) | (refine hJ _ _ (RunsL.call (ps := []) (rid := 16) rfl rfl rfl rfl rfl (by simp only [go_sem, Nat.reduceEqDiff]; first | done | rfl) (hK) rfl (by decide) ⟨by decide, by decide, rfl⟩ (by first | exact .inl rfl | exact .inr (.inl rfl) | exact .inr (.inr rfl)) ?_); clear hJ J; rintro r os' ros ⟨rfl, rfl, rfl⟩ _; refine RunsL.go tabOk fun J hJ => ?_; simp only [go_sem, ↓reduceIte, Nat.reduceAdd, Nat.reduceSub, Nat.reduceMul, Nat.reduceLT, Nat.reduceLeDiff, Nat.reduceEqDiff, Nat.reduceBEq, Int.reduceToNat, d1, d2, d3, d4, d5, toksA_len, List.length_append, List.length_cons, List.length_nil, brw_exprs]; try simp (disch := omega) only [wrap_id]) | simp only [↓reduceIte, not_false_eq_true, d1, d2, d3, d4, d5, toksA_len, List.length_append, List.length_cons, List.length_nil, brw_exprs])
    refine hJ _ _ (RunsL.call (ps := []) (rid := 4352) rfl rfl rfl rfl rfl (by simp only [go_sem, Nat.reduceEqDiff, brw_exprs]; first | done | rfl) (hS) rfl (by decide) ⟨by decide, by decide, rfl⟩ (by first | exact .inl rfl | exact .inr (.inl rfl) | exact .inr (.inr rfl)) ?_); clear hJ J
    rintro r os' ros ⟨rfl, rfl, rfl⟩ _
    refine RunsL.go tabOk fun J hJ => ?_
    simp only [go_sem, ↓reduceIte, Nat.reduceAdd, Nat.reduceSub, Nat.reduceMul, Nat.reduceLT, Nat.reduceLeDiff, Nat.reduceEqDiff, Nat.reduceBEq, Int.reduceToNat, toksA_len, List.length_append, List.length_cons, List.length_nil, brw_exprs]
    try simp (disch := omega) only [wrap_id]
    (repeat refine ⟨by omega, ?_⟩)
    refine hJ _ _ (RunsL.call (ps := []) (rid := 16) rfl rfl rfl rfl rfl (by simp only [go_sem, Nat.reduceEqDiff]; first | done | rfl) (l10Mark_ok [44]) rfl (by decide) ⟨by decide, by decide, rfl⟩ (by first | exact .inl rfl | exact .inr (.inl rfl) | exact .inr (.inr rfl)) ?_); clear hJ J
    rintro r os' ros ⟨rfl, rfl, rfl⟩ _
    refine RunsL.go tabOk fun J hJ => ?_
    simp only [go_sem, ↓reduceIte, Nat.reduceAdd, Nat.reduceSub, Nat.reduceMul, Nat.reduceLT, Nat.reduceLeDiff, Nat.reduceEqDiff, Nat.reduceBEq, Int.reduceToNat, toksA_len, List.length_append, List.length_cons, List.length_nil, brw_exprs]
    try simp (disch := omega) only [wrap_id]
    (repeat refine ⟨by omega, ?_⟩)
    refine hJ _ _ (RunsL.nil ?_); clear hJ J
    refine run_ ?_
    refine RunsA.rq tabOk fun J hJ => ?_
    simp only [go_sem, ↓reduceIte, Nat.reduceAdd, Nat.reduceSub, Nat.reduceMul, Nat.reduceLT, Nat.reduceLeDiff, Nat.reduceEqDiff, Nat.reduceBEq, Int.reduceToNat, d1, d2, d3, d4, d5, toksA_len, List.length_append, List.length_cons, List.length_nil, brw_exprs]
    try simp (disch := omega) only [wrap_id]
    refine hJ _ _ (RunsL.call (ps := []) (rid := 6400) rfl rfl rfl rfl rfl (by simp only [go_sem, Nat.reduceEqDiff, brw_exprs]; first | done | rfl) (hD) rfl (by decide) ⟨by decide, by decide, rfl⟩ (by first | exact .inl rfl | exact .inr (.inl rfl) | exact .inr (.inr rfl)) ?_); clear hJ J
    rintro r os' ros ⟨rfl, rfl, rfl⟩ _
    refine RunsL.go tabOk fun J hJ => ?_
    simp only [go_sem, ↓reduceIte, Nat.reduceAdd, Nat.reduceSub, Nat.reduceMul, Nat.reduceLT, Nat.reduceLeDiff, Nat.reduceEqDiff, Nat.reduceBEq, Int.reduceToNat, toksA_len, List.length_append, List.length_cons, List.length_nil, brw_exprs]
    try simp (disch := omega) only [wrap_id]
    (repeat refine ⟨by omega, ?_⟩)
    refine hJ _ _ (RunsL.nil ?_); clear hJ J
    refine run_ ?_
    refine RetA.v tabOk rfl ?_
    simp only [go_sem, ↓reduceIte, Nat.reduceAdd, Nat.reduceSub, Nat.reduceMul, Nat.reduceLT, Nat.reduceLeDiff, Nat.reduceEqDiff, Nat.reduceBEq, Int.reduceToNat]
    refine RetV.ren (id := 2304) (id' := 100) (by simp only [go_sem, ↓reduceIte, Nat.reduceAdd, Nat.reduceSub, Nat.reduceMul, Nat.reduceLT, Nat.reduceLeDiff, Nat.reduceEqDiff, Nat.reduceBEq, Int.reduceToNat]; rfl) ?_
    simp only [go_sem, ↓reduceIte, Nat.reduceAdd, Nat.reduceSub, Nat.reduceMul, Nat.reduceLT, Nat.reduceLeDiff, Nat.reduceEqDiff, Nat.reduceBEq, Int.reduceToNat]
    exact RetV.mk 1 rfl rfl (by omega) rfl (by simp [noBoO, noBoL, noBo, noBo_toks, noBoLapp]) rfl ⟨rfl, rfl, by rw [hI]; simp [toksA, tokA, markT, keptT]⟩
  · have hI := i2 h.1 h.2
    clear i1 i2 i3 i4 i5 i6
    have d1 : decide (op ≤ 6) = false := decide_eq_false (by omega)
    have d2 : decide (op ≤ 14) = true := decide_eq_true (by omega)
    have d3 : (op == 15) = false := beq_eq_false_iff_ne.2 (by omega)
    have d4 : (op == 16) = false := beq_eq_false_iff_ne.2 (by omega)
    have d5 : (op == 22) = false := beq_eq_false_iff_ne.2 (by omega)
    have hD := hD (by omega)
    have hBl := hBl (by omega)
    clear hT hR hS hAl
    repeat' (first | refine ⟨by omega, ?_⟩ | (refine hJ _ _ (RunsL.nil ?_); clear hJ J) | refine RunsA.cond rfl (fun h => ?_) (fun h => absurd h (by decide)) | refine RunsA.cond rfl (fun h => absurd h (by decide)) (fun h => ?_) | (refine step_ ?_) | (refine RunsA.rk 4 [] tabOk fun J hJ => ?_; simp only [go_sem, ↓reduceIte, Nat.reduceAdd, Nat.reduceSub, Nat.reduceMul, Nat.reduceLT, Nat.reduceLeDiff, Nat.reduceEqDiff, Nat.reduceBEq, Int.reduceToNat, d1, d2, d3, d4, d5, toksA_len, List.length_append, List.length_cons, List.length_nil, brw_exprs]; try simp (disch := omega) only [wrap_id]) | (refine hJ _ _ (RunsL.call (ps := []) (rid := 16) rfl rfl rfl rfl rfl (by simp only [go_sem, Nat.reduceEqDiff]; first | done | rfl) (hK) rfl (by decide) ⟨by decide, by decide, rfl⟩ (by first | exact .inl rfl | exact .inr (.inl rfl) | exact .inr (.inr rfl)) ?_); clear hJ J; rintro r os' ros ⟨rfl, rfl, rfl⟩ _; refine RunsL.go tabOk fun J hJ => ?_; simp only [go_sem, ↓reduceIte, Nat.reduceAdd, Nat.reduceSub, Nat.reduceMul, Nat.reduceLT, Nat.reduceLeDiff, Nat.reduceEqDiff, Nat.reduceBEq, Int.reduceToNat, d1, d2, d3, d4, d5, toksA_len, List.length_append, List.length_cons, List.length_nil, brw_exprs]; try simp (disch := omega) only [wrap_id]) | simp only [↓reduceIte, not_false_eq_true, d1, d2, d3, d4, d5, toksA_len, List.length_append, List.length_cons, List.length_nil, brw_exprs])
    refine hJ _ _ (RunsL.call (ps := []) (rid := 8704) rfl rfl rfl rfl rfl (by simp only [go_sem, Nat.reduceEqDiff, brw_exprs]; first | done | rfl) (hD) rfl (by decide) ⟨by decide, by decide, rfl⟩ (by first | exact .inl rfl | exact .inr (.inl rfl) | exact .inr (.inr rfl)) ?_); clear hJ J
    rintro r os' ros ⟨rfl, rfl, rfl⟩ _
    refine RunsL.go tabOk fun J hJ => ?_
    simp only [go_sem, ↓reduceIte, Nat.reduceAdd, Nat.reduceSub, Nat.reduceMul, Nat.reduceLT, Nat.reduceLeDiff, Nat.reduceEqDiff, Nat.reduceBEq, Int.reduceToNat, toksA_len, List.length_append, List.length_cons, List.length_nil, brw_exprs]
    try simp (disch := omega) only [wrap_id]
    (repeat refine ⟨by omega, ?_⟩)
    refine hJ _ _ (RunsL.nil ?_); clear hJ J
    refine run_ ?_
    refine RetA.v tabOk rfl ?_
    simp only [go_sem, ↓reduceIte, Nat.reduceAdd, Nat.reduceSub, Nat.reduceMul, Nat.reduceLT, Nat.reduceLeDiff, Nat.reduceEqDiff, Nat.reduceBEq, Int.reduceToNat]
    refine RetV.ren (id := 2304) (id' := 100) (by simp only [go_sem, ↓reduceIte, Nat.reduceAdd, Nat.reduceSub, Nat.reduceMul, Nat.reduceLT, Nat.reduceLeDiff, Nat.reduceEqDiff, Nat.reduceBEq, Int.reduceToNat]; rfl) ?_
    simp only [go_sem, ↓reduceIte, Nat.reduceAdd, Nat.reduceSub, Nat.reduceMul, Nat.reduceLT, Nat.reduceLeDiff, Nat.reduceEqDiff, Nat.reduceBEq, Int.reduceToNat]
    exact RetV.mk 1 rfl rfl (by omega) rfl (by simp [noBoO, noBoL, noBo, noBo_toks, noBoLapp]) rfl ⟨rfl, rfl, by rw [hI]; simp [toksA, tokA, markT, keptT]⟩
  · have hI := i3 h
    clear i1 i2 i3 i4 i5 i6
    have d1 : decide (op ≤ 6) = false := decide_eq_false (by omega)
    have d2 : decide (op ≤ 14) = false := decide_eq_false (by omega)
    have d3 : (op == 15) = true := beq_iff_eq.2 (by omega)
    have d4 : (op == 16) = false := beq_eq_false_iff_ne.2 (by omega)
    have d5 : (op == 22) = false := beq_eq_false_iff_ne.2 (by omega)
    have hD := hD (by omega)
    have hBl := hBl (by omega)
    have hR := hR (by omega) (by omega)
    clear hT hS hAl
    repeat' (first | refine ⟨by omega, ?_⟩ | (refine hJ _ _ (RunsL.nil ?_); clear hJ J) | refine RunsA.cond rfl (fun h => ?_) (fun h => absurd h (by decide)) | refine RunsA.cond rfl (fun h => absurd h (by decide)) (fun h => ?_) | (refine step_ ?_) | (refine RunsA.rk 4 [] tabOk fun J hJ => ?_; simp only [go_sem, ↓reduceIte, Nat.reduceAdd, Nat.reduceSub, Nat.reduceMul, Nat.reduceLT, Nat.reduceLeDiff, Nat.reduceEqDiff, Nat.reduceBEq, Int.reduceToNat, d1, d2, d3, d4, d5, toksA_len, List.length_append, List.length_cons, List.length_nil, brw_exprs]; try simp (disch := omega) only [wrap_id]) | (refine hJ _ _ (RunsL.call (ps := []) (rid := 16) rfl rfl rfl rfl rfl (by simp only [go_sem, Nat.reduceEqDiff]; first | done | rfl) (hK) rfl (by decide) ⟨by decide, by decide, rfl⟩ (by first | exact .inl rfl | exact .inr (.inl rfl) | exact .inr (.inr rfl)) ?_); clear hJ J; rintro r os' ros ⟨rfl, rfl, rfl⟩ _; refine RunsL.go tabOk fun J hJ => ?_; simp only [go_sem, ↓reduceIte, Nat.reduceAdd, Nat.reduceSub, Nat.reduceMul, Nat.reduceLT, Nat.reduceLeDiff, Nat.reduceEqDiff, Nat.reduceBEq, Int.reduceToNat, d1, d2, d3, d4, d5, toksA_len, List.length_append, List.length_cons, List.length_nil, brw_exprs]; try simp (disch := omega) only [wrap_id]) | simp only [↓reduceIte, not_false_eq_true, d1, d2, d3, d4, d5, toksA_len, List.length_append, List.length_cons, List.length_nil, brw_exprs])
    refine RunsA.dag (Ω := Unit) mixed () [(1, [(0, 0)]), (2, [(0, 1)]), (128, [(0, 7)]), (3, [(1, 1), (2, 0)]), (129, [(1, 7), (128, 0)]), (6, [(2, 2)]), (130, [(2, 7), (128, 1)]), (384, [(128, 8)]), (7, [(3, 2), (6, 0)]), (131, [(3, 7), (129, 1), (130, 0)]), (385, [(129, 8), (384, 0)]), (14, [(6, 3)]), (134, [(6, 7), (130, 2)]), (386, [(130, 8), (384, 1)]), (15, [(7, 3), (14, 0)]), (135, [(7, 7), (131, 2), (134, 0)]), (387, [(131, 8), (385, 1), (386, 0)]), (30, [(14, 4)]), (142, [(14, 7), (134, 3)]), (390, [(134, 8), (386, 2)]), (31, [(15, 4), (30, 0)]), (143, [(15, 7), (135, 3), (142, 0)]), (391, [(135, 8), (387, 2), (390, 0)]), (62, [(30, 5)]), (158, [(30, 7), (142, 4)]), (398, [(142, 8), (390, 3)]), (63, [(31, 5), (62, 0)]), (159, [(31, 7), (143, 4), (158, 0)]), (399, [(143, 8), (391, 3), (398, 0)]), (190, [(62, 7), (158, 5)]), (414, [(158, 8), (398, 4)]), (127, [(63, 6)]), (191, [(63, 7), (159, 5), (190, 0)]), (415, [(159, 8), (399, 4), (414, 0)]), (446, [(190, 8), (414, 5)]), (255, [(127, 7), (191, 6)]), (447, [(191, 8), (415, 5), (446, 0)]), (511, [(255, 8), (447, 6)]), (1023, [(511, 9)]), (2047, [(1023, 10)]), (4095, [(2047, 11)])] (by kernel_rfl) ?_
    repeat
      (apply DagP.step
       · repeat
           (apply EdgesP.cons rfl rfl
            · intro ω
              refine RunsL.go tabOk fun J hJ => ?_
              simp only [go_sem, ↓reduceIte, Nat.reduceAdd, Nat.reduceSub, Nat.reduceMul, Nat.reduceLT, Nat.reduceLeDiff, Nat.reduceEqDiff, Nat.reduceBEq, Int.reduceToNat, toksA_len, List.length_append, List.length_cons, List.length_nil, brw_exprs]
              try simp (disch := omega) only [wrap_id]
              (repeat refine ⟨by omega, ?_⟩)
              first
                | (refine hJ _ _ (RunsL.nil ?_); clear hJ J; first | exact ⟨ω, LeS.refl _⟩ | exact ⟨ω, LeS.of rfl (by simp only [SubS, lookS, Nat.reduceEqDiff, ↓reduceIte, and_self]) (by simp only [SubO, lookO, Nat.reduceEqDiff, ↓reduceIte, and_self]) rfl⟩)
                | (refine hJ _ _ (RunsL.call (ps := []) (rid := 16) rfl rfl rfl rfl rfl (by simp only [go_sem, Nat.reduceEqDiff, toksA_len, List.length_append, List.length_cons, List.length_nil, brw_exprs]; first | done | rfl) (hR) rfl (by decide) ⟨by decide, by decide, rfl⟩ (by first | exact .inl rfl | exact .inr (.inl rfl) | exact .inr (.inr rfl)) ?_); clear hJ J
                   rintro r os' ros ⟨rfl, rfl, rfl⟩ _
                   refine RunsL.go tabOk fun J hJ => ?_
                   simp only [go_sem, ↓reduceIte, Nat.reduceAdd, Nat.reduceSub, Nat.reduceMul, Nat.reduceLT, Nat.reduceLeDiff, Nat.reduceEqDiff, Nat.reduceBEq, Int.reduceToNat, toksA_len, List.length_append, List.length_cons, List.length_nil, brw_exprs]
                   try simp (disch := omega) only [wrap_id]
                   (repeat refine ⟨by omega, ?_⟩)
                   refine hJ _ _ (RunsL.nil ?_)
                   clear hJ J
                   first | exact ⟨ω, LeS.refl _⟩ | exact ⟨ω, LeS.of rfl (by simp only [SubS, lookS, Nat.reduceEqDiff, ↓reduceIte, and_self]) (by simp only [SubO, lookO, Nat.reduceEqDiff, ↓reduceIte, and_self]) rfl⟩)
                | (refine hJ _ _ (RunsL.call (ps := []) (rid := 16) rfl rfl rfl rfl rfl (by simp only [go_sem, Nat.reduceEqDiff, toksA_len, List.length_append, List.length_cons, List.length_nil, brw_exprs]; first | done | rfl) (l10Mark_ok [44]) rfl (by decide) ⟨by decide, by decide, rfl⟩ (by first | exact .inl rfl | exact .inr (.inl rfl) | exact .inr (.inr rfl)) ?_); clear hJ J
                   rintro r os' ros ⟨rfl, rfl, rfl⟩ _
                   refine RunsL.go tabOk fun J hJ => ?_
                   simp only [go_sem, ↓reduceIte, Nat.reduceAdd, Nat.reduceSub, Nat.reduceMul, Nat.reduceLT, Nat.reduceLeDiff, Nat.reduceEqDiff, Nat.reduceBEq, Int.reduceToNat, toksA_len, List.length_append, List.length_cons, List.length_nil, brw_exprs]
                   try simp (disch := omega) only [wrap_id]
                   (repeat refine ⟨by omega, ?_⟩)
                   refine hJ _ _ (RunsL.nil ?_)
                   clear hJ J
                   first | exact ⟨ω, LeS.refl _⟩ | exact ⟨ω, LeS.of rfl (by simp only [SubS, lookS, Nat.reduceEqDiff, ↓reduceIte, and_self]) (by simp only [SubO, lookO, Nat.reduceEqDiff, ↓reduceIte, and_self]) rfl⟩)
                | (refine hJ _ _ (RunsL.call (ps := []) (rid := 12544) rfl rfl rfl rfl rfl (by simp only [go_sem, Nat.reduceEqDiff, toksA_len, List.length_append, List.length_cons, List.length_nil, brw_exprs]; first | done | rfl) (hD) rfl (by decide) ⟨by decide, by decide, rfl⟩ (by first | exact .inl rfl | exact .inr (.inl rfl) | exact .inr (.inr rfl)) ?_); clear hJ J
                   rintro r os' ros ⟨rfl, rfl, rfl⟩ _
                   refine RunsL.go tabOk fun J hJ => ?_
                   simp only [go_sem, ↓reduceIte, Nat.reduceAdd, Nat.reduceSub, Nat.reduceMul, Nat.reduceLT, Nat.reduceLeDiff, Nat.reduceEqDiff, Nat.reduceBEq, Int.reduceToNat, toksA_len, List.length_append, List.length_cons, List.length_nil, brw_exprs]
                   try simp (disch := omega) only [wrap_id]
                   (repeat refine ⟨by omega, ?_⟩)
                   refine hJ _ _ (RunsL.nil ?_)
                   clear hJ J
                   first | exact ⟨ω, LeS.refl _⟩ | exact ⟨ω, LeS.of rfl (by simp only [SubS, lookS, Nat.reduceEqDiff, ↓reduceIte, and_self]) (by simp only [SubO, lookO, Nat.reduceEqDiff, ↓reduceIte, and_self]) rfl⟩))
         exact EdgesP.nil)
    refine DagP.done fun ω => ?_
    refine run_ ?_
    refine RetA.v tabOk rfl ?_
    simp only [go_sem, ↓reduceIte, Nat.reduceAdd, Nat.reduceSub, Nat.reduceMul, Nat.reduceLT, Nat.reduceLeDiff, Nat.reduceEqDiff, Nat.reduceBEq, Int.reduceToNat]
    refine RetV.ren (id := 2304) (id' := 100) (by simp only [go_sem, ↓reduceIte, Nat.reduceAdd, Nat.reduceSub, Nat.reduceMul, Nat.reduceLT, Nat.reduceLeDiff, Nat.reduceEqDiff, Nat.reduceBEq, Int.reduceToNat]; rfl) ?_
    simp only [go_sem, ↓reduceIte, Nat.reduceAdd, Nat.reduceSub, Nat.reduceMul, Nat.reduceLT, Nat.reduceLeDiff, Nat.reduceEqDiff, Nat.reduceBEq, Int.reduceToNat]
    exact RetV.mk 1 rfl rfl (by omega) rfl (by simp [noBoO, noBoL, noBo, noBo_toks, noBoLapp]) rfl ⟨rfl, rfl, by rw [hI]; simp [toksA, tokA, markT, keptT]⟩
  · have hI := i4 h
    clear i1 i2 i3 i4 i5 i6
    have d1 : decide (op ≤ 6) = false := decide_eq_false (by omega)
    have d2 : decide (op ≤ 14) = false := decide_eq_false (by omega)
    have d3 : (op == 15) = false := beq_eq_false_iff_ne.2 (by omega)
    have d4 : (op == 16) = true := beq_iff_eq.2 (by omega)
    have d5 : (op == 22) = false := beq_eq_false_iff_ne.2 (by omega)
    have hR := hR (by omega) (by omega)
    clear hT hS hAl hD hBl
    repeat' (first | refine ⟨by omega, ?_⟩ | (refine hJ _ _ (RunsL.nil ?_); clear hJ J) | refine RunsA.cond rfl (fun h => ?_) (fun h => absurd h (by decide)) | refine RunsA.cond rfl (fun h => absurd h (by decide)) (fun h => ?_) | (refine step_ ?_) | (refine RunsA.rk 4 [] tabOk fun J hJ => ?_; simp only [go_sem, ↓reduceIte, Nat.reduceAdd, Nat.reduceSub, Nat.reduceMul, Nat.reduceLT, Nat.reduceLeDiff, Nat.reduceEqDiff, Nat.reduceBEq, Int.reduceToNat, d1, d2, d3, d4, d5, toksA_len, List.length_append, List.length_cons, List.length_nil, brw_exprs]; try simp (disch := omega) only [wrap_id]) | (refine hJ _ _ (RunsL.call (ps := []) (rid := 16) rfl rfl rfl rfl rfl (by simp only [go_sem, Nat.reduceEqDiff]; first | done | rfl) (hK) rfl (by decide) ⟨by decide, by decide, rfl⟩ (by first | exact .inl rfl | exact .inr (.inl rfl) | exact .inr (.inr rfl)) ?_); clear hJ J; rintro r os' ros ⟨rfl, rfl, rfl⟩ _; refine RunsL.go tabOk fun J hJ => ?_; simp only [go_sem, ↓reduceIte, Nat.reduceAdd, Nat.reduceSub, Nat.reduceMul, Nat.reduceLT, Nat.reduceLeDiff, Nat.reduceEqDiff, Nat.reduceBEq, Int.reduceToNat, d1, d2, d3, d4, d5, toksA_len, List.length_append, List.length_cons, List.length_nil, brw_exprs]; try simp (disch := omega) only [wrap_id]) | (refine hJ _ _ (RunsL.call (ps := []) (rid := 16) rfl rfl rfl rfl rfl (by simp only [go_sem, Nat.reduceEqDiff]; first | done | rfl) (hR) rfl (by decide) ⟨by decide, by decide, rfl⟩ (by first | exact .inl rfl | exact .inr (.inl rfl) | exact .inr (.inr rfl)) ?_); clear hJ J; rintro r os' ros ⟨rfl, rfl, rfl⟩ _; refine RunsL.go tabOk fun J hJ => ?_; simp only [go_sem, ↓reduceIte, Nat.reduceAdd, Nat.reduceSub, Nat.reduceMul, Nat.reduceLT, Nat.reduceLeDiff, Nat.reduceEqDiff, Nat.reduceBEq, Int.reduceToNat, d1, d2, d3, d4, d5, toksA_len, List.length_append, List.length_cons, List.length_nil, brw_exprs]; try simp (disch := omega) only [wrap_id]) | simp only [↓reduceIte, not_false_eq_true, d1, d2, d3, d4, d5, toksA_len, List.length_append, List.length_cons, List.length_nil, brw_exprs])
    refine RetA.v tabOk rfl ?_
    simp only [go_sem, ↓reduceIte, Nat.reduceAdd, Nat.reduceSub, Nat.reduceMul, Nat.reduceLT, Nat.reduceLeDiff, Nat.reduceEqDiff, Nat.reduceBEq, Int.reduceToNat]
    refine RetV.ren (id := 2304) (id' := 100) (by simp only [go_sem, ↓reduceIte, Nat.reduceAdd, Nat.reduceSub, Nat.reduceMul, Nat.reduceLT, Nat.reduceLeDiff, Nat.reduceEqDiff, Nat.reduceBEq, Int.reduceToNat]; rfl) ?_
    simp only [go_sem, ↓reduceIte, Nat.reduceAdd, Nat.reduceSub, Nat.reduceMul, Nat.reduceLT, Nat.reduceLeDiff, Nat.reduceEqDiff, Nat.reduceBEq, Int.reduceToNat]
    exact RetV.mk 1 rfl rfl (by omega) rfl (by simp [noBoO, noBoL, noBo, noBo_toks, noBoLapp]) rfl ⟨rfl, rfl, by rw [hI]; simp [toksA, tokA, markT, keptT]⟩
  · have hI := i5 h
    clear i1 i2 i3 i4 i5 i6
    have d1 : decide (op ≤ 6) = false := decide_eq_false (by omega)
    have d2 : decide (op ≤ 14) = false := decide_eq_false (by omega)
    have d3 : (op == 15) = false := beq_eq_false_iff_ne.2 (by omega)
    have d4 : (op == 16) = false := beq_eq_false_iff_ne.2 (by omega)
    have d5 : (op == 22) = true := beq_iff_eq.2 (by omega)
    clear hT hS hAl hD hBl hR
    repeat' (first | refine ⟨by omega, ?_⟩ | (refine hJ _ _ (RunsL.nil ?_); clear hJ J) | refine RunsA.cond rfl (fun h => ?_) (fun h => absurd h (by decide)) | refine RunsA.cond rfl (fun h => absurd h (by decide)) (fun h => ?_) | (refine step_ ?_) | (refine RunsA.rk 4 [] tabOk fun J hJ => ?_; simp only [go_sem, ↓reduceIte, Nat.reduceAdd, Nat.reduceSub, Nat.reduceMul, Nat.reduceLT, Nat.reduceLeDiff, Nat.reduceEqDiff, Nat.reduceBEq, Int.reduceToNat, d1, d2, d3, d4, d5, toksA_len, List.length_append, List.length_cons, List.length_nil, brw_exprs]; try simp (disch := omega) only [wrap_id]) | (refine hJ _ _ (RunsL.call (ps := []) (rid := 16) rfl rfl rfl rfl rfl (by simp only [go_sem, Nat.reduceEqDiff]; first | done | rfl) (hK) rfl (by decide) ⟨by decide, by decide, rfl⟩ (by first | exact .inl rfl | exact .inr (.inl rfl) | exact .inr (.inr rfl)) ?_); clear hJ J; rintro r os' ros ⟨rfl, rfl, rfl⟩ _; refine RunsL.go tabOk fun J hJ => ?_; simp only [go_sem, ↓reduceIte, Nat.reduceAdd, Nat.reduceSub, Nat.reduceMul, Nat.reduceLT, Nat.reduceLeDiff, Nat.reduceEqDiff, Nat.reduceBEq, Int.reduceToNat, d1, d2, d3, d4, d5, toksA_len, List.length_append, List.length_cons, List.length_nil, brw_exprs]; try simp (disch := omega) only [wrap_id]) | simp only [↓reduceIte, not_false_eq_true, d1, d2, d3, d4, d5, toksA_len, List.length_append, List.length_cons, List.length_nil, brw_exprs])
    refine RetA.v tabOk rfl ?_
    simp only [go_sem, ↓reduceIte, Nat.reduceAdd, Nat.reduceSub, Nat.reduceMul, Nat.reduceLT, Nat.reduceLeDiff, Nat.reduceEqDiff, Nat.reduceBEq, Int.reduceToNat]
    refine RetV.ren (id := 2304) (id' := 100) (by simp only [go_sem, ↓reduceIte, Nat.reduceAdd, Nat.reduceSub, Nat.reduceMul, Nat.reduceLT, Nat.reduceLeDiff, Nat.reduceEqDiff, Nat.reduceBEq, Int.reduceToNat]; rfl) ?_
    simp only [go_sem, ↓reduceIte, Nat.reduceAdd, Nat.reduceSub, Nat.reduceMul, Nat.reduceLT, Nat.reduceLeDiff, Nat.reduceEqDiff, Nat.reduceBEq, Int.reduceToNat]
    exact RetV.mk 1 rfl rfl (by omega) rfl (by simp [noBoO, noBoL, noBo, noBo_toks, noBoLapp]) rfl ⟨rfl, rfl, by rw [hI]; simp [toksA, tokA, markT, keptT]⟩
  · have hI := i6 h.1 h.2
    clear i1 i2 i3 i4 i5 i6
    have d1 : decide (op ≤ 6) = false := decide_eq_false (by omega)
    have d2 : decide (op ≤ 14) = false := decide_eq_false (by omega)
    have d3 : (op == 15) = false := beq_eq_false_iff_ne.2 (by omega)
    have d4 : (op == 16) = false := beq_eq_false_iff_ne.2 (by omega)
    have d5 : (op == 22) = false := beq_eq_false_iff_ne.2 (by omega)
    obtain ⟨e, r, hRL, hr, hrl, hTE⟩ := hT (by omega) (by omega)
    clear hT hS hAl hD hBl hR
    rw [hr] at hI
    rw [hRL]
    rw [exprA_un] at hTE ⊢
    repeat' (first | refine ⟨by omega, ?_⟩ | (refine hJ _ _ (RunsL.nil ?_); clear hJ J) | refine RunsA.cond rfl (fun h => ?_) (fun h => absurd h (by decide)) | refine RunsA.cond rfl (fun h => absurd h (by decide)) (fun h => ?_) | (refine step_ ?_) | (refine RunsA.rk 4 [] tabOk fun J hJ => ?_; simp only [go_sem, ↓reduceIte, Nat.reduceAdd, Nat.reduceSub, Nat.reduceMul, Nat.reduceLT, Nat.reduceLeDiff, Nat.reduceEqDiff, Nat.reduceBEq, Int.reduceToNat, d1, d2, d3, d4, d5, toksA_len, List.length_append, List.length_cons, List.length_nil, brw_exprs]; try simp (disch := omega) only [wrap_id]) | (refine hJ _ _ (RunsL.call (ps := []) (rid := 16) rfl rfl rfl rfl rfl (by simp only [go_sem, Nat.reduceEqDiff]; first | done | rfl) (hK) rfl (by decide) ⟨by decide, by decide, rfl⟩ (by first | exact .inl rfl | exact .inr (.inl rfl) | exact .inr (.inr rfl)) ?_); clear hJ J; rintro r os' ros ⟨rfl, rfl, rfl⟩ _; refine RunsL.go tabOk fun J hJ => ?_; simp only [go_sem, ↓reduceIte, Nat.reduceAdd, Nat.reduceSub, Nat.reduceMul, Nat.reduceLT, Nat.reduceLeDiff, Nat.reduceEqDiff, Nat.reduceBEq, Int.reduceToNat, d1, d2, d3, d4, d5, toksA_len, List.length_append, List.length_cons, List.length_nil, brw_exprs]; try simp (disch := omega) only [wrap_id]) | simp only [↓reduceIte, not_false_eq_true, d1, d2, d3, d4, d5, toksA_len, List.length_append, List.length_cons, List.length_nil, brw_exprs])
    refine hJ _ _ (RunsL.call (ps := []) (rid := 18176) rfl rfl rfl rfl rfl (by simp only [go_sem, Nat.reduceEqDiff, brw_exprs]; first | done | rfl) (hTE) rfl (by decide) ⟨by decide, by decide, rfl⟩ (by first | exact .inl rfl | exact .inr (.inl rfl) | exact .inr (.inr rfl)) ?_); clear hJ J
    rintro r os' ros ⟨rfl, rfl, rfl⟩ _
    refine RunsL.go tabOk fun J hJ => ?_
    simp only [go_sem, ↓reduceIte, Nat.reduceAdd, Nat.reduceSub, Nat.reduceMul, Nat.reduceLT, Nat.reduceLeDiff, Nat.reduceEqDiff, Nat.reduceBEq, Int.reduceToNat, toksA_len, List.length_append, List.length_cons, List.length_nil, brw_exprs]
    try simp (disch := omega) only [wrap_id]
    (repeat refine ⟨by omega, ?_⟩)
    refine hJ _ _ (RunsL.nil ?_); clear hJ J
    refine run_ ?_
    refine RetA.v tabOk rfl ?_
    simp only [go_sem, ↓reduceIte, Nat.reduceAdd, Nat.reduceSub, Nat.reduceMul, Nat.reduceLT, Nat.reduceLeDiff, Nat.reduceEqDiff, Nat.reduceBEq, Int.reduceToNat]
    refine RetV.ren (id := 2304) (id' := 100) (by simp only [go_sem, ↓reduceIte, Nat.reduceAdd, Nat.reduceSub, Nat.reduceMul, Nat.reduceLT, Nat.reduceLeDiff, Nat.reduceEqDiff, Nat.reduceBEq, Int.reduceToNat]; rfl) ?_
    simp only [go_sem, ↓reduceIte, Nat.reduceAdd, Nat.reduceSub, Nat.reduceMul, Nat.reduceLT, Nat.reduceLeDiff, Nat.reduceEqDiff, Nat.reduceBEq, Int.reduceToNat]
    exact RetV.mk 1 rfl rfl (by omega) rfl (by simp [noBoO, noBoL, noBo, noBo_toks, noBoLapp]) rfl ⟨rfl, rfl, by rw [hI]; simp [toksA, tokA, markT, keptT]⟩
end Go.Proofs.YtgjeemfggfhibaaGreatDoorFw
