/- The tokens of instructions: the program's. -/
import Derived.Test.YtgjeemfggfhibaaGreatDoorH3
namespace Go.Proofs.YtgjeemfggfhibaaGreatDoorFw
open Go Go.RowKit
set_option linter.unusedVariables false
set_option linter.unusedSimpArgs false
set_option maxRecDepth 4000
set_option pp.deepTerms.threshold 6
set_option pp.deepTerms false
set_option maxHeartbeats 8000000 in
theorem insTokens_ok (k : Int) (s : Str) (op : Int) (sf sr sk sn : Int) (ss : Str) (sl : List ExprV) (df dr dk dn : Int) (ds : Str) (dl : List ExprV) (n : Int) (l : List ExprV)
    (hop : 1 ≤ op ∧ op ≤ 23) (hs : op ≤ 6 → (0 ≤ sf ∧ sf ≤ 11) ∧ (0 ≤ sr ∧ sr ≤ 7) ∧ (6 ≤ sf → (ExprV.mk sk sn ss sl).good)) (hd : op ≤ 15 → (0 ≤ df ∧ df ≤ 11) ∧ (0 ≤ dr ∧ dr ≤ 7) ∧ (6 ≤ df → (ExprV.mk dk dn ds dl).good))
    (hn : 15 ≤ op → op ≤ 16 → 0 ≤ n ∧ n ≤ 7) (hl : 17 ≤ op → op ≠ 22 → l.length = 1) (hg : ∀ e ∈ l, e.good) (ht : (LineV.mk k s op sf sr sk sn ss sl df dr dk dn ds dl n l).tot ≤ 1048576)
    (A B : List TokV) (hA : A = argT sf sr (ExprV.mk sk sn ss sl).toks) (hB : B = argT df dr (ExprV.mk dk dn ds dl).toks) (hAl : op ≤ 6 → A.length ≤ 4194304) (hBl : op ≤ 15 → B.length ≤ 4194304) :
    FnA Tryz.prog 128 false [lineA .bo (.mk k s op sf sr sk sn ss sl df dr dk dn ds dl n l)] [] (fun res os ros => res = .hd 100 [] ∧ os = [] ∧ ros = [(3, toksA (insT op n A B (termsT l)))]) := by
  simp only [LineV.tot] at ht
  have hS := fun h => argTokens_ok sf sr sk sn ss sl (hs h).1 (hs h).2.1 (hs h).2.2 (by omega)
  have hD := fun h => argTokens_ok df dr dk dn ds dl (hd h).1 (hd h).2.1 (hd h).2.2 (by omega)
  rw [← hA] at hS
  rw [← hB] at hD
  have hR := fun h1 h2 => regToken_ok n (hn h1 h2)
  have hel := exprsA_len .bo l
  rw [lineA_mk]
  have hT : 17 ≤ op → op ≠ 22 → ∃ (e : ExprV) (r : List TokV), exprsA .bo l = [exprA .bo e] ∧ (termsT l).getD 0 [] = r ∧ r.length ≤ 4194304 ∧ FnA Tryz.prog 126 false [exprA .bo e] [] (fun r' os ros => r' = .hd 100 [] ∧ os = [] ∧ ros = [(3, toksA r)]) := by
    intro h1 h2
    obtain ⟨e, rfl⟩ := List.length_eq_one_iff.1 (hl h1 h2)
    have ge := hg e (by simp)
    have ht2 : e.tot ≤ 1048576 := by simp only [ExprV.totL] at ht; omega
    refine ⟨e, e.toks, by simp [exprsA], by simp [termsT], ?_, iTokens_ok e ge ht2⟩
    have := ExprV.toks_len e ge
    omega
  obtain ⟨i1, i2, i3, i4, i5, i6⟩ := insT_of (op := op) (n := n) A B (termsT l)
  have hK := opWords_ok
  have hg0 := opS_get op hop
  have hlen := strs_opL
  generalize strs opW = OW at *
  generalize termsT l = TL at *
  generalize insT op n A B TL = IT at *
  generalize l.length = c at *
  clear hA hB hs hd hn hg ht
  generalize opS op = ow at *
  refine FnA.of Tryz.func128 rfl (by decide) Tryz.ntmps128 (by simp) ?_
  refine run_ ?_
  refine RunsA.dag (Ω := Unit) mixed () [(1, [(0, 0)]), (2, [(0, 1)]), (3, [(1, 1), (2, 0)]), (6, [(2, 2)]), (7, [(3, 2), (6, 0)]), (14, [(6, 3)]), (15, [(7, 3), (14, 0)]), (31, [(15, 4)]), (63, [(31, 5)]), (127, [(63, 6)]), (255, [(127, 7)]), (511, [(255, 8)])] (by kernel_rfl) ?_
  repeat
    (apply DagP.step
     · repeat
         (apply EdgesP.cons rfl rfl
          · intro ω
            refine RunsL.go tabOk fun J hJ => ?_
            simp only [go_sem, ↓reduceIte, Nat.reduceAdd, Nat.reduceSub, Nat.reduceMul, Nat.reduceLT, Nat.reduceLeDiff, Nat.reduceEqDiff, Nat.reduceBEq, Int.reduceToNat, hg0, hlen]
            try simp (disch := omega) only [wrap_id]
            (repeat refine ⟨by omega, ?_⟩)
            first
              | (refine hJ _ _ (RunsL.nil ?_); clear hJ J; first | exact ⟨ω, LeS.refl _⟩ | exact ⟨ω, LeS.of rfl (by simp only [SubS, lookS, Nat.reduceEqDiff, ↓reduceIte, and_self]) (by simp only [SubO, lookO, Nat.reduceEqDiff, ↓reduceIte, and_self]) rfl⟩)
              | (refine hJ _ _ (RunsL.call (ps := []) (rid := 1280) rfl rfl rfl rfl rfl (by simp only [go_sem, Nat.reduceEqDiff, hg0, hlen]; first | done | rfl) (hK) rfl (by decide) ⟨by decide, by decide, rfl⟩ (by first | exact .inl rfl | exact .inr (.inl rfl) | exact .inr (.inr rfl)) ?_); clear hJ J
                 rintro r os' ros ⟨rfl, rfl, rfl⟩ _
                 refine RunsL.go tabOk fun J hJ => ?_
                 simp only [go_sem, ↓reduceIte, Nat.reduceAdd, Nat.reduceSub, Nat.reduceMul, Nat.reduceLT, Nat.reduceLeDiff, Nat.reduceEqDiff, Nat.reduceBEq, Int.reduceToNat, hg0, hlen]
                 try simp (disch := omega) only [wrap_id]
                 (repeat refine ⟨by omega, ?_⟩)
                 refine hJ _ _ (RunsL.nil ?_)
                 clear hJ J
                 first | exact ⟨ω, LeS.refl _⟩ | exact ⟨ω, LeS.of rfl (by simp only [SubS, lookS, Nat.reduceEqDiff, ↓reduceIte, and_self]) (by simp only [SubO, lookO, Nat.reduceEqDiff, ↓reduceIte, and_self]) rfl⟩))
       exact EdgesP.nil)
  refine DagP.done fun ω => ?_
  rcases (by omega : op ≤ 6 ∨ (7 ≤ op ∧ op ≤ 14) ∨ op = 15 ∨ op = 16 ∨ op = 22 ∨ (17 ≤ op ∧ op ≠ 22)) with h | h | h | h | h | h
  · have hI := i1 h
    clear i1 i2 i3 i4 i5 i6
    have d1 : decide (1 ≤ op ∧ op ≤ 6) = true := decide_eq_true (by omega)
    have d2 : decide (1 ≤ op ∧ op ≤ 15) = true := decide_eq_true (by omega)
    have d3 : (op == 15) = false := beq_eq_false_iff_ne.2 (by omega)
    have d4 : (op == 16) = false := beq_eq_false_iff_ne.2 (by omega)
    have d5 : decide ((17 ≤ op ∧ op ≤ 21) ∨ op = 23) = false := decide_eq_false (by omega)
    have hS := hS (by omega)
    have hD := hD (by omega)
    have hAl := hAl (by omega)
    have hBl := hBl (by omega)
    clear hT hR
    have hLi := listed_ok [A, B] (by simp) (by simp only [totT]; omega)
    simp only [rowsT, List.map_cons, List.map_nil] at hLi
    have hsl : sepL [A, B] = A ++ [markT [44]] ++ B := by simp [sepL]
    rw [hsl] at hLi
    have hll : (toksA (A ++ [markT [44]] ++ B)).length = A.length + 1 + B.length := by rw [toksA_len]; simp; omega
    repeat' (first | refine ⟨by omega, ?_⟩ | (refine hJ _ _ (RunsL.nil ?_); clear hJ J) | refine RunsA.cond rfl (fun h => ?_) (fun h => absurd h (by decide)) | refine RunsA.cond rfl (fun h => absurd h (by decide)) (fun h => ?_) | (refine step_ ?_) | (refine RunsA.rk 4 [] tabOk fun J hJ => ?_; simp only [go_sem, ↓reduceIte, Nat.reduceAdd, Nat.reduceSub, Nat.reduceMul, Nat.reduceLT, Nat.reduceLeDiff, Nat.reduceEqDiff, Nat.reduceBEq, Int.reduceToNat, d1, d2, d3, d4, d5, toksA_len, List.length_append, List.length_cons, List.length_nil, brw_exprs]; try simp (disch := omega) only [wrap_id]) | (refine hJ _ _ (RunsL.call (ps := []) (rid := 16) rfl rfl rfl rfl rfl (by simp only [go_sem, Nat.reduceEqDiff]; first | done | rfl) (hasSrc_ok _) rfl (by decide) ⟨by decide, by decide, rfl⟩ (by first | exact .inl rfl | exact .inr (.inl rfl) | exact .inr (.inr rfl)) ?_); clear hJ J; rintro r os' ros ⟨rfl, rfl, rfl⟩ _; refine RunsL.go tabOk fun J hJ => ?_; simp only [go_sem, ↓reduceIte, Nat.reduceAdd, Nat.reduceSub, Nat.reduceMul, Nat.reduceLT, Nat.reduceLeDiff, Nat.reduceEqDiff, Nat.reduceBEq, Int.reduceToNat, d1, d2, d3, d4, d5, toksA_len, List.length_append, List.length_cons, List.length_nil, brw_exprs]; try simp (disch := omega) only [wrap_id]) | (refine hJ _ _ (RunsL.call (ps := []) (rid := 16) rfl rfl rfl rfl rfl (by simp only [go_sem, Nat.reduceEqDiff]; first | done | rfl) (hasDst_ok _) rfl (by decide) ⟨by decide, by decide, rfl⟩ (by first | exact .inl rfl | exact .inr (.inl rfl) | exact .inr (.inr rfl)) ?_); clear hJ J; rintro r os' ros ⟨rfl, rfl, rfl⟩ _; refine RunsL.go tabOk fun J hJ => ?_; simp only [go_sem, ↓reduceIte, Nat.reduceAdd, Nat.reduceSub, Nat.reduceMul, Nat.reduceLT, Nat.reduceLeDiff, Nat.reduceEqDiff, Nat.reduceBEq, Int.reduceToNat, d1, d2, d3, d4, d5, toksA_len, List.length_append, List.length_cons, List.length_nil, brw_exprs]; try simp (disch := omega) only [wrap_id]) | (refine hJ _ _ (RunsL.call (ps := []) (rid := 16) rfl rfl rfl rfl rfl (by simp only [go_sem, Nat.reduceEqDiff]; first | done | rfl) (hasTerm_ok _) rfl (by decide) ⟨by decide, by decide, rfl⟩ (by first | exact .inl rfl | exact .inr (.inl rfl) | exact .inr (.inr rfl)) ?_); clear hJ J; rintro r os' ros ⟨rfl, rfl, rfl⟩ _; refine RunsL.go tabOk fun J hJ => ?_; simp only [go_sem, ↓reduceIte, Nat.reduceAdd, Nat.reduceSub, Nat.reduceMul, Nat.reduceLT, Nat.reduceLeDiff, Nat.reduceEqDiff, Nat.reduceBEq, Int.reduceToNat, d1, d2, d3, d4, d5, toksA_len, List.length_append, List.length_cons, List.length_nil, brw_exprs]; try simp (disch := omega) only [wrap_id]) | simp only [↓reduceIte, not_false_eq_true, d1, d2, d3, d4, d5, toksA_len, List.length_append, List.length_cons, List.length_nil, brw_exprs])
    refine RunsA.dag (Ω := Unit) mixed () [(1, [(0, 0)]), (2, [(0, 1)]), (16, [(0, 4)]), (3, [(1, 1), (2, 0)]), (17, [(1, 4), (16, 0)]), (6, [(2, 2)]), (18, [(2, 4), (16, 1)]), (48, [(16, 5)]), (7, [(3, 2), (6, 0)]), (19, [(3, 4), (17, 1), (18, 0)]), (49, [(17, 5), (48, 0)]), (14, [(6, 3)]), (22, [(6, 4), (18, 2)]), (50, [(18, 5), (48, 1)]), (15, [(7, 3), (14, 0)]), (23, [(7, 4), (19, 2), (22, 0)]), (51, [(19, 5), (49, 1), (50, 0)]), (30, [(14, 4), (22, 3)]), (54, [(22, 5), (50, 2)]), (31, [(15, 4), (23, 3), (30, 0)]), (55, [(23, 5), (51, 2), (54, 0)]), (62, [(30, 5), (54, 3)]), (63, [(31, 5), (55, 3), (62, 0)]), (126, [(62, 6)]), (127, [(63, 6), (126, 0)]), (254, [(126, 7)]), (255, [(127, 7), (254, 0)]), (510, [(254, 8)]), (511, [(255, 8), (510, 0)]), (1023, [(511, 9)]), (2047, [(1023, 10)])] (by kernel_rfl) ?_
    repeat
      (apply DagP.step
       · repeat
           (apply EdgesP.cons rfl rfl
            · intro ω
              refine RunsL.go tabOk fun J hJ => ?_
              simp only [go_sem, ↓reduceIte, Nat.reduceAdd, Nat.reduceSub, Nat.reduceMul, Nat.reduceLT, Nat.reduceLeDiff, Nat.reduceEqDiff, Nat.reduceBEq, Int.reduceToNat, brw_exprs, brw_toks, hll]
              try simp (disch := omega) only [wrap_id]
              (repeat refine ⟨by omega, ?_⟩)
              first
                | (refine hJ _ _ (RunsL.nil ?_); clear hJ J; first | exact ⟨ω, LeS.refl _⟩ | exact ⟨ω, LeS.of rfl (by simp only [SubS, lookS, Nat.reduceEqDiff, ↓reduceIte, and_self]) (by simp only [SubO, lookO, Nat.reduceEqDiff, ↓reduceIte, and_self]) rfl⟩)
                | (refine hJ _ _ (RunsL.call (ps := []) (rid := 5120) rfl rfl rfl rfl rfl (by simp only [go_sem, Nat.reduceEqDiff, brw_exprs, brw_toks, hll]; first | done | rfl) (hS) rfl (by decide) ⟨by decide, by decide, rfl⟩ (by first | exact .inl rfl | exact .inr (.inl rfl) | exact .inr (.inr rfl)) ?_); clear hJ J
                   rintro r os' ros ⟨rfl, rfl, rfl⟩ _
                   refine RunsL.go tabOk fun J hJ => ?_
                   simp only [go_sem, ↓reduceIte, Nat.reduceAdd, Nat.reduceSub, Nat.reduceMul, Nat.reduceLT, Nat.reduceLeDiff, Nat.reduceEqDiff, Nat.reduceBEq, Int.reduceToNat, brw_exprs, brw_toks, hll]
                   try simp (disch := omega) only [wrap_id]
                   (repeat refine ⟨by omega, ?_⟩)
                   refine hJ _ _ (RunsL.nil ?_)
                   clear hJ J
                   first | exact ⟨ω, LeS.refl _⟩ | exact ⟨ω, LeS.of rfl (by simp only [SubS, lookS, Nat.reduceEqDiff, ↓reduceIte, and_self]) (by simp only [SubO, lookO, Nat.reduceEqDiff, ↓reduceIte, and_self]) rfl⟩)
                | (refine hJ _ _ (RunsL.call (ps := []) (rid := 5888) rfl rfl rfl rfl rfl (by simp only [go_sem, Nat.reduceEqDiff, brw_exprs, brw_toks, hll]; first | done | rfl) (hD) rfl (by decide) ⟨by decide, by decide, rfl⟩ (by first | exact .inl rfl | exact .inr (.inl rfl) | exact .inr (.inr rfl)) ?_); clear hJ J
                   rintro r os' ros ⟨rfl, rfl, rfl⟩ _
                   refine RunsL.go tabOk fun J hJ => ?_
                   simp only [go_sem, ↓reduceIte, Nat.reduceAdd, Nat.reduceSub, Nat.reduceMul, Nat.reduceLT, Nat.reduceLeDiff, Nat.reduceEqDiff, Nat.reduceBEq, Int.reduceToNat, brw_exprs, brw_toks, hll]
                   try simp (disch := omega) only [wrap_id]
                   (repeat refine ⟨by omega, ?_⟩)
                   refine hJ _ _ (RunsL.nil ?_)
                   clear hJ J
                   first | exact ⟨ω, LeS.refl _⟩ | exact ⟨ω, LeS.of rfl (by simp only [SubS, lookS, Nat.reduceEqDiff, ↓reduceIte, and_self]) (by simp only [SubO, lookO, Nat.reduceEqDiff, ↓reduceIte, and_self]) rfl⟩)
                | (refine hJ _ _ (RunsL.call (ps := []) (rid := 6400) rfl rfl rfl rfl rfl (by simp only [go_sem, Nat.reduceEqDiff, brw_exprs, brw_toks, hll]; first | done | rfl) (hLi) rfl (by decide) ⟨by decide, by decide, rfl⟩ (by first | exact .inl rfl | exact .inr (.inl rfl) | exact .inr (.inr rfl)) ?_); clear hJ J
                   rintro r os' ros ⟨rfl, rfl, rfl⟩ _
                   refine RunsL.go tabOk fun J hJ => ?_
                   simp only [go_sem, ↓reduceIte, Nat.reduceAdd, Nat.reduceSub, Nat.reduceMul, Nat.reduceLT, Nat.reduceLeDiff, Nat.reduceEqDiff, Nat.reduceBEq, Int.reduceToNat, brw_exprs, brw_toks, hll]
                   try simp (disch := omega) only [wrap_id]
                   (repeat refine ⟨by omega, ?_⟩)
                   refine hJ _ _ (RunsL.nil ?_)
                   clear hJ J
                   first | exact ⟨ω, LeS.refl _⟩ | exact ⟨ω, LeS.of rfl (by simp only [SubS, lookS, Nat.reduceEqDiff, ↓reduceIte, and_self]) (by simp only [SubO, lookO, Nat.reduceEqDiff, ↓reduceIte, and_self]) rfl⟩))
         exact EdgesP.nil)
    refine DagP.done fun ω => ?_
    refine run_ ?_
    refine RetA.v tabOk rfl ?_
    simp only [go_sem, ↓reduceIte, Nat.reduceAdd, Nat.reduceSub, Nat.reduceMul, Nat.reduceLT, Nat.reduceLeDiff, Nat.reduceEqDiff, Nat.reduceBEq, Int.reduceToNat]
    refine RetV.ren (id := 3072) (id' := 100) (by simp only [go_sem, ↓reduceIte, Nat.reduceAdd, Nat.reduceSub, Nat.reduceMul, Nat.reduceLT, Nat.reduceLeDiff, Nat.reduceEqDiff, Nat.reduceBEq, Int.reduceToNat]; rfl) ?_
    simp only [go_sem, ↓reduceIte, Nat.reduceAdd, Nat.reduceSub, Nat.reduceMul, Nat.reduceLT, Nat.reduceLeDiff, Nat.reduceEqDiff, Nat.reduceBEq, Int.reduceToNat]
    exact RetV.mk 1 rfl rfl (by omega) rfl (by simp [noBoO, noBoL, noBo, noBo_toks, noBoLapp]) rfl ⟨rfl, rfl, by rw [hI]; simp [toksA, tokA, markT, keptT]⟩
  · have hI := i2 h.1 h.2
    clear i1 i2 i3 i4 i5 i6
    have d1 : decide (1 ≤ op ∧ op ≤ 6) = false := decide_eq_false (by omega)
    have d2 : decide (1 ≤ op ∧ op ≤ 15) = true := decide_eq_true (by omega)
    have d3 : (op == 15) = false := beq_eq_false_iff_ne.2 (by omega)
    have d4 : (op == 16) = false := beq_eq_false_iff_ne.2 (by omega)
    have d5 : decide ((17 ≤ op ∧ op ≤ 21) ∨ op = 23) = false := decide_eq_false (by omega)
    have hD := hD (by omega)
    have hBl := hBl (by omega)
    clear hT hR hS hAl
    repeat' (first | refine ⟨by omega, ?_⟩ | (refine hJ _ _ (RunsL.nil ?_); clear hJ J) | refine RunsA.cond rfl (fun h => ?_) (fun h => absurd h (by decide)) | refine RunsA.cond rfl (fun h => absurd h (by decide)) (fun h => ?_) | (refine step_ ?_) | (refine RunsA.rk 4 [] tabOk fun J hJ => ?_; simp only [go_sem, ↓reduceIte, Nat.reduceAdd, Nat.reduceSub, Nat.reduceMul, Nat.reduceLT, Nat.reduceLeDiff, Nat.reduceEqDiff, Nat.reduceBEq, Int.reduceToNat, d1, d2, d3, d4, d5, toksA_len, List.length_append, List.length_cons, List.length_nil, brw_exprs]; try simp (disch := omega) only [wrap_id]) | (refine hJ _ _ (RunsL.call (ps := []) (rid := 16) rfl rfl rfl rfl rfl (by simp only [go_sem, Nat.reduceEqDiff]; first | done | rfl) (hasSrc_ok _) rfl (by decide) ⟨by decide, by decide, rfl⟩ (by first | exact .inl rfl | exact .inr (.inl rfl) | exact .inr (.inr rfl)) ?_); clear hJ J; rintro r os' ros ⟨rfl, rfl, rfl⟩ _; refine RunsL.go tabOk fun J hJ => ?_; simp only [go_sem, ↓reduceIte, Nat.reduceAdd, Nat.reduceSub, Nat.reduceMul, Nat.reduceLT, Nat.reduceLeDiff, Nat.reduceEqDiff, Nat.reduceBEq, Int.reduceToNat, d1, d2, d3, d4, d5, toksA_len, List.length_append, List.length_cons, List.length_nil, brw_exprs]; try simp (disch := omega) only [wrap_id]) | (refine hJ _ _ (RunsL.call (ps := []) (rid := 16) rfl rfl rfl rfl rfl (by simp only [go_sem, Nat.reduceEqDiff]; first | done | rfl) (hasDst_ok _) rfl (by decide) ⟨by decide, by decide, rfl⟩ (by first | exact .inl rfl | exact .inr (.inl rfl) | exact .inr (.inr rfl)) ?_); clear hJ J; rintro r os' ros ⟨rfl, rfl, rfl⟩ _; refine RunsL.go tabOk fun J hJ => ?_; simp only [go_sem, ↓reduceIte, Nat.reduceAdd, Nat.reduceSub, Nat.reduceMul, Nat.reduceLT, Nat.reduceLeDiff, Nat.reduceEqDiff, Nat.reduceBEq, Int.reduceToNat, d1, d2, d3, d4, d5, toksA_len, List.length_append, List.length_cons, List.length_nil, brw_exprs]; try simp (disch := omega) only [wrap_id]) | (refine hJ _ _ (RunsL.call (ps := []) (rid := 16) rfl rfl rfl rfl rfl (by simp only [go_sem, Nat.reduceEqDiff]; first | done | rfl) (hasTerm_ok _) rfl (by decide) ⟨by decide, by decide, rfl⟩ (by first | exact .inl rfl | exact .inr (.inl rfl) | exact .inr (.inr rfl)) ?_); clear hJ J; rintro r os' ros ⟨rfl, rfl, rfl⟩ _; refine RunsL.go tabOk fun J hJ => ?_; simp only [go_sem, ↓reduceIte, Nat.reduceAdd, Nat.reduceSub, Nat.reduceMul, Nat.reduceLT, Nat.reduceLeDiff, Nat.reduceEqDiff, Nat.reduceBEq, Int.reduceToNat, d1, d2, d3, d4, d5, toksA_len, List.length_append, List.length_cons, List.length_nil, brw_exprs]; try simp (disch := omega) only [wrap_id]) | simp only [↓reduceIte, not_false_eq_true, d1, d2, d3, d4, d5, toksA_len, List.length_append, List.length_cons, List.length_nil, brw_exprs])
    refine hJ _ _ (RunsL.call (ps := []) (rid := 12544) rfl rfl rfl rfl rfl (by simp only [go_sem, Nat.reduceEqDiff, brw_exprs]; first | done | rfl) (hD) rfl (by decide) ⟨by decide, by decide, rfl⟩ (by first | exact .inl rfl | exact .inr (.inl rfl) | exact .inr (.inr rfl)) ?_); clear hJ J
    rintro r os' ros ⟨rfl, rfl, rfl⟩ _
    refine RunsL.go tabOk fun J hJ => ?_
    simp only [go_sem, ↓reduceIte, Nat.reduceAdd, Nat.reduceSub, Nat.reduceMul, Nat.reduceLT, Nat.reduceLeDiff, Nat.reduceEqDiff, Nat.reduceBEq, Int.reduceToNat, toksA_len, List.length_append, List.length_cons, List.length_nil, brw_exprs]
    try simp (disch := omega) only [wrap_id]
    (repeat refine ⟨by omega, ?_⟩)
    refine hJ _ _ (RunsL.nil ?_); clear hJ J
    refine run_ ?_
    refine RetA.v tabOk rfl ?_
    simp only [go_sem, ↓reduceIte, Nat.reduceAdd, Nat.reduceSub, Nat.reduceMul, Nat.reduceLT, Nat.reduceLeDiff, Nat.reduceEqDiff, Nat.reduceBEq, Int.reduceToNat]
    refine RetV.ren (id := 3072) (id' := 100) (by simp only [go_sem, ↓reduceIte, Nat.reduceAdd, Nat.reduceSub, Nat.reduceMul, Nat.reduceLT, Nat.reduceLeDiff, Nat.reduceEqDiff, Nat.reduceBEq, Int.reduceToNat]; rfl) ?_
    simp only [go_sem, ↓reduceIte, Nat.reduceAdd, Nat.reduceSub, Nat.reduceMul, Nat.reduceLT, Nat.reduceLeDiff, Nat.reduceEqDiff, Nat.reduceBEq, Int.reduceToNat]
    exact RetV.mk 1 rfl rfl (by omega) rfl (by simp [noBoO, noBoL, noBo, noBo_toks, noBoLapp]) rfl ⟨rfl, rfl, by rw [hI]; simp [toksA, tokA, markT, keptT]⟩
  · have hI := i3 h
    clear i1 i2 i3 i4 i5 i6
    have d1 : decide (1 ≤ op ∧ op ≤ 6) = false := decide_eq_false (by omega)
    have d2 : decide (1 ≤ op ∧ op ≤ 15) = true := decide_eq_true (by omega)
    have d3 : (op == 15) = true := beq_iff_eq.2 (by omega)
    have d4 : (op == 16) = false := beq_eq_false_iff_ne.2 (by omega)
    have d5 : decide ((17 ≤ op ∧ op ≤ 21) ∨ op = 23) = false := decide_eq_false (by omega)
    have hD := hD (by omega)
    have hBl := hBl (by omega)
    have hR := hR (by omega) (by omega)
    clear hT hS hAl
    have hLi := listed_ok [[keptT (regS n)], B] (by simp) (by simp only [totT, List.length_cons, List.length_nil]; omega)
    simp only [rowsT, List.map_cons, List.map_nil] at hLi
    have hsl : sepL [[keptT (regS n)], B] = [keptT (regS n)] ++ [markT [44]] ++ B := by simp [sepL]
    rw [hsl] at hLi
    have hll : (toksA ([keptT (regS n)] ++ [markT [44]] ++ B)).length = 2 + B.length := by rw [toksA_len]; simp; omega
    generalize [keptT (regS n)] ++ [markT [44]] ++ B = X at *
    have hk1 : toksA [keptT (regS n)] = [.agg [.int .i64 5, .int .i64 0, .str (regS n)]] := rfl
    rw [hk1] at hLi
    repeat' (first | refine ⟨by omega, ?_⟩ | (refine hJ _ _ (RunsL.nil ?_); clear hJ J) | refine RunsA.cond rfl (fun h => ?_) (fun h => absurd h (by decide)) | refine RunsA.cond rfl (fun h => absurd h (by decide)) (fun h => ?_) | (refine step_ ?_) | (refine RunsA.rk 4 [] tabOk fun J hJ => ?_; simp only [go_sem, ↓reduceIte, Nat.reduceAdd, Nat.reduceSub, Nat.reduceMul, Nat.reduceLT, Nat.reduceLeDiff, Nat.reduceEqDiff, Nat.reduceBEq, Int.reduceToNat, d1, d2, d3, d4, d5, toksA_len, List.length_append, List.length_cons, List.length_nil, brw_exprs]; try simp (disch := omega) only [wrap_id]) | (refine hJ _ _ (RunsL.call (ps := []) (rid := 16) rfl rfl rfl rfl rfl (by simp only [go_sem, Nat.reduceEqDiff]; first | done | rfl) (hasSrc_ok _) rfl (by decide) ⟨by decide, by decide, rfl⟩ (by first | exact .inl rfl | exact .inr (.inl rfl) | exact .inr (.inr rfl)) ?_); clear hJ J; rintro r os' ros ⟨rfl, rfl, rfl⟩ _; refine RunsL.go tabOk fun J hJ => ?_; simp only [go_sem, ↓reduceIte, Nat.reduceAdd, Nat.reduceSub, Nat.reduceMul, Nat.reduceLT, Nat.reduceLeDiff, Nat.reduceEqDiff, Nat.reduceBEq, Int.reduceToNat, d1, d2, d3, d4, d5, toksA_len, List.length_append, List.length_cons, List.length_nil, brw_exprs]; try simp (disch := omega) only [wrap_id]) | (refine hJ _ _ (RunsL.call (ps := []) (rid := 16) rfl rfl rfl rfl rfl (by simp only [go_sem, Nat.reduceEqDiff]; first | done | rfl) (hasDst_ok _) rfl (by decide) ⟨by decide, by decide, rfl⟩ (by first | exact .inl rfl | exact .inr (.inl rfl) | exact .inr (.inr rfl)) ?_); clear hJ J; rintro r os' ros ⟨rfl, rfl, rfl⟩ _; refine RunsL.go tabOk fun J hJ => ?_; simp only [go_sem, ↓reduceIte, Nat.reduceAdd, Nat.reduceSub, Nat.reduceMul, Nat.reduceLT, Nat.reduceLeDiff, Nat.reduceEqDiff, Nat.reduceBEq, Int.reduceToNat, d1, d2, d3, d4, d5, toksA_len, List.length_append, List.length_cons, List.length_nil, brw_exprs]; try simp (disch := omega) only [wrap_id]) | (refine hJ _ _ (RunsL.call (ps := []) (rid := 16) rfl rfl rfl rfl rfl (by simp only [go_sem, Nat.reduceEqDiff]; first | done | rfl) (hasTerm_ok _) rfl (by decide) ⟨by decide, by decide, rfl⟩ (by first | exact .inl rfl | exact .inr (.inl rfl) | exact .inr (.inr rfl)) ?_); clear hJ J; rintro r os' ros ⟨rfl, rfl, rfl⟩ _; refine RunsL.go tabOk fun J hJ => ?_; simp only [go_sem, ↓reduceIte, Nat.reduceAdd, Nat.reduceSub, Nat.reduceMul, Nat.reduceLT, Nat.reduceLeDiff, Nat.reduceEqDiff, Nat.reduceBEq, Int.reduceToNat, d1, d2, d3, d4, d5, toksA_len, List.length_append, List.length_cons, List.length_nil, brw_exprs]; try simp (disch := omega) only [wrap_id]) | simp only [↓reduceIte, not_false_eq_true, d1, d2, d3, d4, d5, toksA_len, List.length_append, List.length_cons, List.length_nil, brw_exprs])
    refine RunsA.dag (Ω := Unit) mixed () [(1, [(0, 0)]), (2, [(0, 1)]), (32, [(0, 5)]), (3, [(1, 1), (2, 0)]), (33, [(1, 5), (32, 0)]), (6, [(2, 2)]), (34, [(2, 5), (32, 1)]), (96, [(32, 6)]), (7, [(3, 2), (6, 0)]), (35, [(3, 5), (33, 1), (34, 0)]), (97, [(33, 6), (96, 0)]), (14, [(6, 3)]), (38, [(6, 5), (34, 2)]), (98, [(34, 6), (96, 1)]), (15, [(7, 3), (14, 0)]), (39, [(7, 5), (35, 2), (38, 0)]), (99, [(35, 6), (97, 1), (98, 0)]), (30, [(14, 4)]), (46, [(14, 5), (38, 3)]), (102, [(38, 6), (98, 2)]), (31, [(15, 4), (30, 0)]), (47, [(15, 5), (39, 3), (46, 0)]), (103, [(39, 6), (99, 2), (102, 0)]), (62, [(30, 5), (46, 4)]), (110, [(46, 6), (102, 3)]), (63, [(31, 5), (47, 4), (62, 0)]), (111, [(47, 6), (103, 3), (110, 0)]), (126, [(62, 6), (110, 4)]), (238, [(110, 7)]), (127, [(63, 6), (111, 4), (126, 0)]), (239, [(111, 7), (238, 0)]), (254, [(126, 7), (238, 4)]), (255, [(127, 7), (239, 4), (254, 0)]), (510, [(254, 8)]), (511, [(255, 8), (510, 0)]), (1022, [(510, 9)]), (1023, [(511, 9), (1022, 0)]), (2047, [(1023, 10)]), (4095, [(2047, 11)])] (by kernel_rfl) ?_
    repeat
      (apply DagP.step
       · repeat
           (apply EdgesP.cons rfl rfl
            · intro ω
              refine RunsL.go tabOk fun J hJ => ?_
              simp only [go_sem, ↓reduceIte, Nat.reduceAdd, Nat.reduceSub, Nat.reduceMul, Nat.reduceLT, Nat.reduceLeDiff, Nat.reduceEqDiff, Nat.reduceBEq, Int.reduceToNat, brw_exprs, brw_toks, hll]
              try simp (disch := omega) only [wrap_id]
              (repeat refine ⟨by omega, ?_⟩)
              first
                | (refine hJ _ _ (RunsL.nil ?_); clear hJ J; first | exact ⟨ω, LeS.refl _⟩ | exact ⟨ω, LeS.of rfl (by simp only [SubS, lookS, Nat.reduceEqDiff, ↓reduceIte, and_self]) (by simp only [SubO, lookO, Nat.reduceEqDiff, ↓reduceIte, and_self]) rfl⟩)
                | (refine hJ _ _ (RunsL.call (ps := []) (rid := 16) rfl rfl rfl rfl rfl (by simp only [go_sem, Nat.reduceEqDiff, brw_exprs, brw_toks, hll]; first | done | rfl) (hR) rfl (by decide) ⟨by decide, by decide, rfl⟩ (by first | exact .inl rfl | exact .inr (.inl rfl) | exact .inr (.inr rfl)) ?_); clear hJ J
                   rintro r os' ros ⟨rfl, rfl, rfl⟩ _
                   refine RunsL.go tabOk fun J hJ => ?_
                   simp only [go_sem, ↓reduceIte, Nat.reduceAdd, Nat.reduceSub, Nat.reduceMul, Nat.reduceLT, Nat.reduceLeDiff, Nat.reduceEqDiff, Nat.reduceBEq, Int.reduceToNat, brw_exprs, brw_toks, hll]
                   try simp (disch := omega) only [wrap_id]
                   (repeat refine ⟨by omega, ?_⟩)
                   refine hJ _ _ (RunsL.nil ?_)
                   clear hJ J
                   first | exact ⟨ω, LeS.refl _⟩ | exact ⟨ω, LeS.of rfl (by simp only [SubS, lookS, Nat.reduceEqDiff, ↓reduceIte, and_self]) (by simp only [SubO, lookO, Nat.reduceEqDiff, ↓reduceIte, and_self]) rfl⟩)
                | (refine hJ _ _ (RunsL.call (ps := []) (rid := 9728) rfl rfl rfl rfl rfl (by simp only [go_sem, Nat.reduceEqDiff, brw_exprs, brw_toks, hll]; first | done | rfl) (hD) rfl (by decide) ⟨by decide, by decide, rfl⟩ (by first | exact .inl rfl | exact .inr (.inl rfl) | exact .inr (.inr rfl)) ?_); clear hJ J
                   rintro r os' ros ⟨rfl, rfl, rfl⟩ _
                   refine RunsL.go tabOk fun J hJ => ?_
                   simp only [go_sem, ↓reduceIte, Nat.reduceAdd, Nat.reduceSub, Nat.reduceMul, Nat.reduceLT, Nat.reduceLeDiff, Nat.reduceEqDiff, Nat.reduceBEq, Int.reduceToNat, brw_exprs, brw_toks, hll]
                   try simp (disch := omega) only [wrap_id]
                   (repeat refine ⟨by omega, ?_⟩)
                   refine hJ _ _ (RunsL.nil ?_)
                   clear hJ J
                   first | exact ⟨ω, LeS.refl _⟩ | exact ⟨ω, LeS.of rfl (by simp only [SubS, lookS, Nat.reduceEqDiff, ↓reduceIte, and_self]) (by simp only [SubO, lookO, Nat.reduceEqDiff, ↓reduceIte, and_self]) rfl⟩)
                | (refine hJ _ _ (RunsL.call (ps := []) (rid := 10240) rfl rfl rfl rfl rfl (by simp only [go_sem, Nat.reduceEqDiff, brw_exprs, brw_toks, hll]; first | done | rfl) (hLi) rfl (by decide) ⟨by decide, by decide, rfl⟩ (by first | exact .inl rfl | exact .inr (.inl rfl) | exact .inr (.inr rfl)) ?_); clear hJ J
                   rintro r os' ros ⟨rfl, rfl, rfl⟩ _
                   refine RunsL.go tabOk fun J hJ => ?_
                   simp only [go_sem, ↓reduceIte, Nat.reduceAdd, Nat.reduceSub, Nat.reduceMul, Nat.reduceLT, Nat.reduceLeDiff, Nat.reduceEqDiff, Nat.reduceBEq, Int.reduceToNat, brw_exprs, brw_toks, hll]
                   try simp (disch := omega) only [wrap_id]
                   (repeat refine ⟨by omega, ?_⟩)
                   refine hJ _ _ (RunsL.nil ?_)
                   clear hJ J
                   first | exact ⟨ω, LeS.refl _⟩ | exact ⟨ω, LeS.of rfl (by simp only [SubS, lookS, Nat.reduceEqDiff, ↓reduceIte, and_self]) (by simp only [SubO, lookO, Nat.reduceEqDiff, ↓reduceIte, and_self]) rfl⟩))
         exact EdgesP.nil)
    refine DagP.done fun ω => ?_
    refine run_ ?_
    refine RetA.v tabOk rfl ?_
    simp only [go_sem, ↓reduceIte, Nat.reduceAdd, Nat.reduceSub, Nat.reduceMul, Nat.reduceLT, Nat.reduceLeDiff, Nat.reduceEqDiff, Nat.reduceBEq, Int.reduceToNat]
    refine RetV.ren (id := 3072) (id' := 100) (by simp only [go_sem, ↓reduceIte, Nat.reduceAdd, Nat.reduceSub, Nat.reduceMul, Nat.reduceLT, Nat.reduceLeDiff, Nat.reduceEqDiff, Nat.reduceBEq, Int.reduceToNat]; rfl) ?_
    simp only [go_sem, ↓reduceIte, Nat.reduceAdd, Nat.reduceSub, Nat.reduceMul, Nat.reduceLT, Nat.reduceLeDiff, Nat.reduceEqDiff, Nat.reduceBEq, Int.reduceToNat]
    exact RetV.mk 1 rfl rfl (by omega) rfl (by simp [noBoO, noBoL, noBo, noBo_toks, noBoLapp]) rfl ⟨rfl, rfl, by rw [hI]; simp [toksA, tokA, markT, keptT]⟩
  · have hI := i4 h
    clear i1 i2 i3 i4 i5 i6
    have d1 : decide (1 ≤ op ∧ op ≤ 6) = false := decide_eq_false (by omega)
    have d2 : decide (1 ≤ op ∧ op ≤ 15) = false := decide_eq_false (by omega)
    have d3 : (op == 15) = false := beq_eq_false_iff_ne.2 (by omega)
    have d4 : (op == 16) = true := beq_iff_eq.2 (by omega)
    have d5 : decide ((17 ≤ op ∧ op ≤ 21) ∨ op = 23) = false := decide_eq_false (by omega)
    have hR := hR (by omega) (by omega)
    clear hT hS hAl hD hBl
    repeat' (first | refine ⟨by omega, ?_⟩ | (refine hJ _ _ (RunsL.nil ?_); clear hJ J) | refine RunsA.cond rfl (fun h => ?_) (fun h => absurd h (by decide)) | refine RunsA.cond rfl (fun h => absurd h (by decide)) (fun h => ?_) | (refine step_ ?_) | (refine RunsA.rk 4 [] tabOk fun J hJ => ?_; simp only [go_sem, ↓reduceIte, Nat.reduceAdd, Nat.reduceSub, Nat.reduceMul, Nat.reduceLT, Nat.reduceLeDiff, Nat.reduceEqDiff, Nat.reduceBEq, Int.reduceToNat, d1, d2, d3, d4, d5, toksA_len, List.length_append, List.length_cons, List.length_nil, brw_exprs]; try simp (disch := omega) only [wrap_id]) | (refine hJ _ _ (RunsL.call (ps := []) (rid := 16) rfl rfl rfl rfl rfl (by simp only [go_sem, Nat.reduceEqDiff]; first | done | rfl) (hasSrc_ok _) rfl (by decide) ⟨by decide, by decide, rfl⟩ (by first | exact .inl rfl | exact .inr (.inl rfl) | exact .inr (.inr rfl)) ?_); clear hJ J; rintro r os' ros ⟨rfl, rfl, rfl⟩ _; refine RunsL.go tabOk fun J hJ => ?_; simp only [go_sem, ↓reduceIte, Nat.reduceAdd, Nat.reduceSub, Nat.reduceMul, Nat.reduceLT, Nat.reduceLeDiff, Nat.reduceEqDiff, Nat.reduceBEq, Int.reduceToNat, d1, d2, d3, d4, d5, toksA_len, List.length_append, List.length_cons, List.length_nil, brw_exprs]; try simp (disch := omega) only [wrap_id]) | (refine hJ _ _ (RunsL.call (ps := []) (rid := 16) rfl rfl rfl rfl rfl (by simp only [go_sem, Nat.reduceEqDiff]; first | done | rfl) (hasDst_ok _) rfl (by decide) ⟨by decide, by decide, rfl⟩ (by first | exact .inl rfl | exact .inr (.inl rfl) | exact .inr (.inr rfl)) ?_); clear hJ J; rintro r os' ros ⟨rfl, rfl, rfl⟩ _; refine RunsL.go tabOk fun J hJ => ?_; simp only [go_sem, ↓reduceIte, Nat.reduceAdd, Nat.reduceSub, Nat.reduceMul, Nat.reduceLT, Nat.reduceLeDiff, Nat.reduceEqDiff, Nat.reduceBEq, Int.reduceToNat, d1, d2, d3, d4, d5, toksA_len, List.length_append, List.length_cons, List.length_nil, brw_exprs]; try simp (disch := omega) only [wrap_id]) | (refine hJ _ _ (RunsL.call (ps := []) (rid := 16) rfl rfl rfl rfl rfl (by simp only [go_sem, Nat.reduceEqDiff]; first | done | rfl) (hasTerm_ok _) rfl (by decide) ⟨by decide, by decide, rfl⟩ (by first | exact .inl rfl | exact .inr (.inl rfl) | exact .inr (.inr rfl)) ?_); clear hJ J; rintro r os' ros ⟨rfl, rfl, rfl⟩ _; refine RunsL.go tabOk fun J hJ => ?_; simp only [go_sem, ↓reduceIte, Nat.reduceAdd, Nat.reduceSub, Nat.reduceMul, Nat.reduceLT, Nat.reduceLeDiff, Nat.reduceEqDiff, Nat.reduceBEq, Int.reduceToNat, d1, d2, d3, d4, d5, toksA_len, List.length_append, List.length_cons, List.length_nil, brw_exprs]; try simp (disch := omega) only [wrap_id]) | (refine hJ _ _ (RunsL.call (ps := []) (rid := 16) rfl rfl rfl rfl rfl (by simp only [go_sem, Nat.reduceEqDiff]; first | done | rfl) (hR) rfl (by decide) ⟨by decide, by decide, rfl⟩ (by first | exact .inl rfl | exact .inr (.inl rfl) | exact .inr (.inr rfl)) ?_); clear hJ J; rintro r os' ros ⟨rfl, rfl, rfl⟩ _; refine RunsL.go tabOk fun J hJ => ?_; simp only [go_sem, ↓reduceIte, Nat.reduceAdd, Nat.reduceSub, Nat.reduceMul, Nat.reduceLT, Nat.reduceLeDiff, Nat.reduceEqDiff, Nat.reduceBEq, Int.reduceToNat, d1, d2, d3, d4, d5, toksA_len, List.length_append, List.length_cons, List.length_nil, brw_exprs]; try simp (disch := omega) only [wrap_id]) | simp only [↓reduceIte, not_false_eq_true, d1, d2, d3, d4, d5, toksA_len, List.length_append, List.length_cons, List.length_nil, brw_exprs])
    refine RetA.v tabOk rfl ?_
    simp only [go_sem, ↓reduceIte, Nat.reduceAdd, Nat.reduceSub, Nat.reduceMul, Nat.reduceLT, Nat.reduceLeDiff, Nat.reduceEqDiff, Nat.reduceBEq, Int.reduceToNat]
    refine RetV.ren (id := 3072) (id' := 100) (by simp only [go_sem, ↓reduceIte, Nat.reduceAdd, Nat.reduceSub, Nat.reduceMul, Nat.reduceLT, Nat.reduceLeDiff, Nat.reduceEqDiff, Nat.reduceBEq, Int.reduceToNat]; rfl) ?_
    simp only [go_sem, ↓reduceIte, Nat.reduceAdd, Nat.reduceSub, Nat.reduceMul, Nat.reduceLT, Nat.reduceLeDiff, Nat.reduceEqDiff, Nat.reduceBEq, Int.reduceToNat]
    exact RetV.mk 1 rfl rfl (by omega) rfl (by simp [noBoO, noBoL, noBo, noBo_toks, noBoLapp]) rfl ⟨rfl, rfl, by rw [hI]; simp [toksA, tokA, markT, keptT]⟩
  · have hI := i5 h
    clear i1 i2 i3 i4 i5 i6
    have d1 : decide (1 ≤ op ∧ op ≤ 6) = false := decide_eq_false (by omega)
    have d2 : decide (1 ≤ op ∧ op ≤ 15) = false := decide_eq_false (by omega)
    have d3 : (op == 15) = false := beq_eq_false_iff_ne.2 (by omega)
    have d4 : (op == 16) = false := beq_eq_false_iff_ne.2 (by omega)
    have d5 : decide ((17 ≤ op ∧ op ≤ 21) ∨ op = 23) = false := decide_eq_false (by omega)
    clear hT hS hAl hD hBl hR
    repeat' (first | refine ⟨by omega, ?_⟩ | (refine hJ _ _ (RunsL.nil ?_); clear hJ J) | refine RunsA.cond rfl (fun h => ?_) (fun h => absurd h (by decide)) | refine RunsA.cond rfl (fun h => absurd h (by decide)) (fun h => ?_) | (refine step_ ?_) | (refine RunsA.rk 4 [] tabOk fun J hJ => ?_; simp only [go_sem, ↓reduceIte, Nat.reduceAdd, Nat.reduceSub, Nat.reduceMul, Nat.reduceLT, Nat.reduceLeDiff, Nat.reduceEqDiff, Nat.reduceBEq, Int.reduceToNat, d1, d2, d3, d4, d5, toksA_len, List.length_append, List.length_cons, List.length_nil, brw_exprs]; try simp (disch := omega) only [wrap_id]) | (refine hJ _ _ (RunsL.call (ps := []) (rid := 16) rfl rfl rfl rfl rfl (by simp only [go_sem, Nat.reduceEqDiff]; first | done | rfl) (hasSrc_ok _) rfl (by decide) ⟨by decide, by decide, rfl⟩ (by first | exact .inl rfl | exact .inr (.inl rfl) | exact .inr (.inr rfl)) ?_); clear hJ J; rintro r os' ros ⟨rfl, rfl, rfl⟩ _; refine RunsL.go tabOk fun J hJ => ?_; simp only [go_sem, ↓reduceIte, Nat.reduceAdd, Nat.reduceSub, Nat.reduceMul, Nat.reduceLT, Nat.reduceLeDiff, Nat.reduceEqDiff, Nat.reduceBEq, Int.reduceToNat, d1, d2, d3, d4, d5, toksA_len, List.length_append, List.length_cons, List.length_nil, brw_exprs]; try simp (disch := omega) only [wrap_id]) | (refine hJ _ _ (RunsL.call (ps := []) (rid := 16) rfl rfl rfl rfl rfl (by simp only [go_sem, Nat.reduceEqDiff]; first | done | rfl) (hasDst_ok _) rfl (by decide) ⟨by decide, by decide, rfl⟩ (by first | exact .inl rfl | exact .inr (.inl rfl) | exact .inr (.inr rfl)) ?_); clear hJ J; rintro r os' ros ⟨rfl, rfl, rfl⟩ _; refine RunsL.go tabOk fun J hJ => ?_; simp only [go_sem, ↓reduceIte, Nat.reduceAdd, Nat.reduceSub, Nat.reduceMul, Nat.reduceLT, Nat.reduceLeDiff, Nat.reduceEqDiff, Nat.reduceBEq, Int.reduceToNat, d1, d2, d3, d4, d5, toksA_len, List.length_append, List.length_cons, List.length_nil, brw_exprs]; try simp (disch := omega) only [wrap_id]) | (refine hJ _ _ (RunsL.call (ps := []) (rid := 16) rfl rfl rfl rfl rfl (by simp only [go_sem, Nat.reduceEqDiff]; first | done | rfl) (hasTerm_ok _) rfl (by decide) ⟨by decide, by decide, rfl⟩ (by first | exact .inl rfl | exact .inr (.inl rfl) | exact .inr (.inr rfl)) ?_); clear hJ J; rintro r os' ros ⟨rfl, rfl, rfl⟩ _; refine RunsL.go tabOk fun J hJ => ?_; simp only [go_sem, ↓reduceIte, Nat.reduceAdd, Nat.reduceSub, Nat.reduceMul, Nat.reduceLT, Nat.reduceLeDiff, Nat.reduceEqDiff, Nat.reduceBEq, Int.reduceToNat, d1, d2, d3, d4, d5, toksA_len, List.length_append, List.length_cons, List.length_nil, brw_exprs]; try simp (disch := omega) only [wrap_id]) | simp only [↓reduceIte, not_false_eq_true, d1, d2, d3, d4, d5, toksA_len, List.length_append, List.length_cons, List.length_nil, brw_exprs])
    refine RetA.v tabOk rfl ?_
    simp only [go_sem, ↓reduceIte, Nat.reduceAdd, Nat.reduceSub, Nat.reduceMul, Nat.reduceLT, Nat.reduceLeDiff, Nat.reduceEqDiff, Nat.reduceBEq, Int.reduceToNat]
    refine RetV.ren (id := 3072) (id' := 100) (by simp only [go_sem, ↓reduceIte, Nat.reduceAdd, Nat.reduceSub, Nat.reduceMul, Nat.reduceLT, Nat.reduceLeDiff, Nat.reduceEqDiff, Nat.reduceBEq, Int.reduceToNat]; rfl) ?_
    simp only [go_sem, ↓reduceIte, Nat.reduceAdd, Nat.reduceSub, Nat.reduceMul, Nat.reduceLT, Nat.reduceLeDiff, Nat.reduceEqDiff, Nat.reduceBEq, Int.reduceToNat]
    exact RetV.mk 1 rfl rfl (by omega) rfl (by simp [noBoO, noBoL, noBo, noBo_toks, noBoLapp]) rfl ⟨rfl, rfl, by rw [hI]; simp [toksA, tokA, markT, keptT]⟩
  · have hI := i6 h.1 h.2
    clear i1 i2 i3 i4 i5 i6
    have d1 : decide (1 ≤ op ∧ op ≤ 6) = false := decide_eq_false (by omega)
    have d2 : decide (1 ≤ op ∧ op ≤ 15) = false := decide_eq_false (by omega)
    have d3 : (op == 15) = false := beq_eq_false_iff_ne.2 (by omega)
    have d4 : (op == 16) = false := beq_eq_false_iff_ne.2 (by omega)
    have d5 : decide ((17 ≤ op ∧ op ≤ 21) ∨ op = 23) = true := decide_eq_true (by omega)
    obtain ⟨e, r, hRL, hr, hrl, hTE⟩ := hT (by omega) (by omega)
    clear hT hS hAl hD hBl hR
    rw [hr] at hI
    rw [hRL]
    rw [exprA_un] at hTE ⊢
    repeat' (first | refine ⟨by omega, ?_⟩ | (refine hJ _ _ (RunsL.nil ?_); clear hJ J) | refine RunsA.cond rfl (fun h => ?_) (fun h => absurd h (by decide)) | refine RunsA.cond rfl (fun h => absurd h (by decide)) (fun h => ?_) | (refine step_ ?_) | (refine RunsA.rk 4 [] tabOk fun J hJ => ?_; simp only [go_sem, ↓reduceIte, Nat.reduceAdd, Nat.reduceSub, Nat.reduceMul, Nat.reduceLT, Nat.reduceLeDiff, Nat.reduceEqDiff, Nat.reduceBEq, Int.reduceToNat, d1, d2, d3, d4, d5, toksA_len, List.length_append, List.length_cons, List.length_nil, brw_exprs]; try simp (disch := omega) only [wrap_id]) | (refine hJ _ _ (RunsL.call (ps := []) (rid := 16) rfl rfl rfl rfl rfl (by simp only [go_sem, Nat.reduceEqDiff]; first | done | rfl) (hasSrc_ok _) rfl (by decide) ⟨by decide, by decide, rfl⟩ (by first | exact .inl rfl | exact .inr (.inl rfl) | exact .inr (.inr rfl)) ?_); clear hJ J; rintro r os' ros ⟨rfl, rfl, rfl⟩ _; refine RunsL.go tabOk fun J hJ => ?_; simp only [go_sem, ↓reduceIte, Nat.reduceAdd, Nat.reduceSub, Nat.reduceMul, Nat.reduceLT, Nat.reduceLeDiff, Nat.reduceEqDiff, Nat.reduceBEq, Int.reduceToNat, d1, d2, d3, d4, d5, toksA_len, List.length_append, List.length_cons, List.length_nil, brw_exprs]; try simp (disch := omega) only [wrap_id]) | (refine hJ _ _ (RunsL.call (ps := []) (rid := 16) rfl rfl rfl rfl rfl (by simp only [go_sem, Nat.reduceEqDiff]; first | done | rfl) (hasDst_ok _) rfl (by decide) ⟨by decide, by decide, rfl⟩ (by first | exact .inl rfl | exact .inr (.inl rfl) | exact .inr (.inr rfl)) ?_); clear hJ J; rintro r os' ros ⟨rfl, rfl, rfl⟩ _; refine RunsL.go tabOk fun J hJ => ?_; simp only [go_sem, ↓reduceIte, Nat.reduceAdd, Nat.reduceSub, Nat.reduceMul, Nat.reduceLT, Nat.reduceLeDiff, Nat.reduceEqDiff, Nat.reduceBEq, Int.reduceToNat, d1, d2, d3, d4, d5, toksA_len, List.length_append, List.length_cons, List.length_nil, brw_exprs]; try simp (disch := omega) only [wrap_id]) | (refine hJ _ _ (RunsL.call (ps := []) (rid := 16) rfl rfl rfl rfl rfl (by simp only [go_sem, Nat.reduceEqDiff]; first | done | rfl) (hasTerm_ok _) rfl (by decide) ⟨by decide, by decide, rfl⟩ (by first | exact .inl rfl | exact .inr (.inl rfl) | exact .inr (.inr rfl)) ?_); clear hJ J; rintro r os' ros ⟨rfl, rfl, rfl⟩ _; refine RunsL.go tabOk fun J hJ => ?_; simp only [go_sem, ↓reduceIte, Nat.reduceAdd, Nat.reduceSub, Nat.reduceMul, Nat.reduceLT, Nat.reduceLeDiff, Nat.reduceEqDiff, Nat.reduceBEq, Int.reduceToNat, d1, d2, d3, d4, d5, toksA_len, List.length_append, List.length_cons, List.length_nil, brw_exprs]; try simp (disch := omega) only [wrap_id]) | simp only [↓reduceIte, not_false_eq_true, d1, d2, d3, d4, d5, toksA_len, List.length_append, List.length_cons, List.length_nil, brw_exprs])
    refine hJ _ _ (RunsL.call (ps := []) (rid := 17920) rfl rfl rfl rfl rfl (by simp only [go_sem, Nat.reduceEqDiff, brw_exprs]; first | done | rfl) (hTE) rfl (by decide) ⟨by decide, by decide, rfl⟩ (by first | exact .inl rfl | exact .inr (.inl rfl) | exact .inr (.inr rfl)) ?_); clear hJ J
    rintro r os' ros ⟨rfl, rfl, rfl⟩ _
    refine RunsL.go tabOk fun J hJ => ?_
    simp only [go_sem, ↓reduceIte, Nat.reduceAdd, Nat.reduceSub, Nat.reduceMul, Nat.reduceLT, Nat.reduceLeDiff, Nat.reduceEqDiff, Nat.reduceBEq, Int.reduceToNat, toksA_len, List.length_append, List.length_cons, List.length_nil, brw_exprs]
    try simp (disch := omega) only [wrap_id]
    (repeat refine ⟨by omega, ?_⟩)
    refine hJ _ _ (RunsL.nil ?_); clear hJ J
    refine run_ ?_
    refine RetA.v tabOk rfl ?_
    simp only [go_sem, ↓reduceIte, Nat.reduceAdd, Nat.reduceSub, Nat.reduceMul, Nat.reduceLT, Nat.reduceLeDiff, Nat.reduceEqDiff, Nat.reduceBEq, Int.reduceToNat]
    refine RetV.ren (id := 3072) (id' := 100) (by simp only [go_sem, ↓reduceIte, Nat.reduceAdd, Nat.reduceSub, Nat.reduceMul, Nat.reduceLT, Nat.reduceLeDiff, Nat.reduceEqDiff, Nat.reduceBEq, Int.reduceToNat]; rfl) ?_
    simp only [go_sem, ↓reduceIte, Nat.reduceAdd, Nat.reduceSub, Nat.reduceMul, Nat.reduceLT, Nat.reduceLeDiff, Nat.reduceEqDiff, Nat.reduceBEq, Int.reduceToNat]
    exact RetV.mk 1 rfl rfl (by omega) rfl (by simp [noBoO, noBoL, noBo, noBo_toks, noBoLapp]) rfl ⟨rfl, rfl, by rw [hI]; simp [toksA, tokA, markT, keptT]⟩
end Go.Proofs.YtgjeemfggfhibaaGreatDoorFw
