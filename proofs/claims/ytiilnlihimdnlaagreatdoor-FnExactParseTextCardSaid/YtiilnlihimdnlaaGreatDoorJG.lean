/- Terms out of tokens: the program's walk. -/
import Derived.Test.YtiilnlihimdnlaaGreatDoorQM
namespace Go.Proofs.YtiilnlihimdnlaaGreatDoorFw
open Go Go.RowKit
set_option linter.unusedVariables false
set_option linter.unusedSimpArgs false
set_option maxRecDepth 4000
def exprR (e : ExprV) : AV := .agg [.int .i64 e.1, .int .i64 e.2, .str e.3, .hd 100 []]
def ExPR (V : ExprV × List TokV × Bool) (r : AV) (os ros : List (Nat × List AV)) : Prop := r = exprR V.1 ∧ os = prO V.2.1 V.2.2 ∧ ros = [(4, exprsA .own V.1.4)]
theorem two2_ok (k ka na : Int) (sa : Str) (la : List ExprV) (kb nb : Int) (sb : Str) (lb : List ExprV) :
 FnG Tryz.prog 134 false [.int .i64 k, .agg [.int .i64 ka, .int .i64 na, .str sa, .hd 50 []], .agg [.int .i64 kb, .int .i64 nb, .str sb, .hd 51 []]] [] [(4, exprsA .own la), (4, exprsA .own lb)]
  (fun r os ros => r = .agg [.int .i64 k, .int .i64 0, .str [], .hd 100 []] ∧ os = [] ∧ ros = [(4, exprsA .own [.mk ka na sa la, .mk kb nb sb lb])]) := by
 refine FnG.of Tryz.func134 rfl (by decide) Tryz.ntmps134 (by simp) (by simp) ?_
 refine run_ ?_
 refine rv_ ?_
 refine vdet_ 1792 [] 0 3 100 ?_
 exact RetV.mk 1 rfl rfl (by omega) rfl (by simp [noBoO, noBo, noBoL, noBo_exprs]) rfl ⟨rfl, rfl, by simp only [exprsA, exprA]⟩
theorem sgn_take {i : Nat} (h : i < 6) : (sgnW.drop i).take (i + 1 - i) = [sgnW[i]'h] := by
 rw [show i + 1 - i = 1 by omega, List.drop_eq_getElem_cons h]; rfl
set_option maxHeartbeats 8000000 in
theorem pPair_ok (d : Nat) (hd : d ≤ 5) (ih : ∀ (l : List TokV) (b : Bool), l.length ≤ 1048576 → FnA Tryz.prog 66 false [.ptr 0 [] 2 0 0, .int .i64 (d : Nat)] (prO l b) (ExPR (exI d l b)))
 (l : List TokV) (b : Bool) (hl : l.length ≤ 1048576) : FnA Tryz.prog 109 false [.ptr 0 [] 2 0 0, .int .i64 ((d + 1 : Nat) : Int)] (prO l b) (ExPR (prI (exI d) l b)) := by
 have hA := ih l b hl
 have la := exI_len d l b
 unfold prI
 unfold ExPR exprR at hA
 generalize exI d l b = A at *
 obtain ⟨⟨ka, na, sa, xa⟩, l1, b1⟩ := A
 unfold prI2
 simp only at hA la ⊢
 have hN := pNext_ok l1 b1 (by omega)
 have ln := nxT_len l1 b1
 generalize nxT l1 b1 = T at *
 obtain ⟨⟨k, n, s⟩, l2, b2⟩ := T
 unfold prI3
 simp only [tokA] at hN ln ⊢
 have hB := ih l2 b2 (by omega)
 have lb := exI_len d l2 b2
 unfold ExPR exprR at hB
 generalize exI d l2 b2 = B at *
 obtain ⟨⟨kb, nb, sb, xb⟩, l3, b3⟩ := B
 simp only at hB lb
 have hW := pWant_ok l3 b3 [62] (by omega)
 have hdm : ((d + 1 : Nat) : Int) - 1 = ((d : Nat) : Int) := by omega
 have hdw : IntKind.i64.wrap (((d + 1 : Nat) : Int) - 1) = ((d : Nat) : Int) := by rw [hdm]; exact wrap_id (by omega) (by omega)
 unfold prI4
 generalize hl4 : tkL l3 [62] = l4 at *
 generalize hb4 : (b3 || !isM l3 [62]) = b4 at *
 have hat := fun i hi h1 h2 => sgn_at (p := isT ⟨k, n, s⟩) i hi h1 h2
 have hno := fun h1 => sgn_none (p := isT ⟨k, n, s⟩) h1
 obtain ⟨S, hS⟩ : ∃ S, sgn (isT ⟨k, n, s⟩) = S := ⟨_, rfl⟩
 simp only [hS] at hat hno ⊢
 clear ih
 refine FnA.of Tryz.func109 rfl (by decide) Tryz.ntmps109 (by simp [prO]) ?_
 unfold prO at *
 refine run_ ?_
 refine rg1_ @hdm ?_
 refine call_ (ps := [0]) (rid := 3328) rfl rfl rfl rfl rfl (hA) ?_
 refine cr_ ?_
 refine run_ ?_
 refine rg_ ?_
 refine call_ (ps := [0]) (rid := 16) rfl rfl rfl rfl rfl (hN) ?_
 refine cr_ ?_
 refine run_ ?_
 refine rg1_ @hdm ?_
 refine call_ (ps := [0]) (rid := 4864) rfl rfl rfl rfl rfl (hB) ?_
 refine cr_ ?_
 refine run_ ?_
 refine rg_ ?_
 refine call_ (ps := [0]) (rid := 16) rfl rfl rfl rfl rfl (hW) ?_
 refine cr_ ?_
 refine run_ ?_
 refine RunsA.loop ?_
 refine (LoopA.ind (fun i : Nat => ⟨41, [(0, .ptr 0 [] 2 0 0), (1, .int .i64 ((d + 1 : Nat) : Int)), (4, .ptr 1280 [] 4 0 0), (5, .ptr 1536 [] 4 0 0), (6, .ptr 1792 [] 3 0 0), (7, .ptr 2048 [] 4 0 0), (21, .int .i64 i)],
  [⟨0, 2, [.agg [.row .ro 3 (toksA l4), .bool b4]]⟩, ⟨1280, 4, [.agg [.int .i64 0, .int .i64 0, .str [], .row .own 4 []]]⟩, ⟨1536, 4, [.agg [.int .i64 ka, .int .i64 na, .str sa, .row .own 4 (exprsA .own xa)]]⟩,
   ⟨1792, 3, [.agg [.int .i64 k, .int .i64 n, .str s]]⟩, ⟨2048, 4, [.agg [.int .i64 kb, .int .i64 nb, .str sb, .row .own 4 (exprsA .own xb)]]⟩], false⟩)
  (fun i => 6 - i) (fun i => i ≤ 6 ∧ ∀ j (h : j < 6), j < i → isT ⟨k, n, s⟩ (sgnW[j]'h) = false) ?_ 0 ?_).sub rfl ?_ ?_ rfl
 ·rintro i ⟨hi, ht⟩ K3 hK3
  by_cases h2 : i < 6
  ·have e2 : decide ((i : Int) < 6) = true := decide_eq_true (by omega)
   have hi1 : ((i : Int) + 1).toNat = i + 1 := by omega
   have hs1 : (([43, 45, 42, 47, 38, 124] : Str).drop i).take (i + 1 - i) = [sgnW[i]'h2] := sgn_take h2
   have hlen : (([43, 45, 42, 47, 38, 124] : Str)).length = 6 := rfl
   have hat := hat i h2 ht
   have hmk := markTi_ok [sgnW[i]'h2]
   cases hx : isT ⟨k, n, s⟩ (sgnW[i]'h2) with
   | true =>
    have hSi := hat hx
    generalize sgnW[i]'h2 = m at *
    subst hSi
    have hT := two2_ok (5 + (i : Int)) ka na sa xa kb nb sb xb
    have hw5 : IntKind.i64.wrap (5 + (i : Int)) = 5 + (i : Int) := wrap_id (by omega) (by omega)
    refine auto1_ 9 [21] @e2 ?_
    refine RunsA.dag (Ω := Unit) mixed () [(1, [(0, 0)]), (2, [(0, 1)]), (4, [(0, 2)]), (3, [(1, 1), (2, 0)]), (5, [(1, 2), (4, 0)]), (6, [(2, 2), (4, 1)]), (12, [(4, 3)]), (7, [(3, 2), (5, 1), (6, 0)]), (13, [(5, 3), (12, 0)]), (14, [(6, 3), (12, 1)]), (15, [(7, 3), (13, 1), (14, 0)]), (30, [(14, 4)]), (31, [(15, 4), (30, 0)]), (62, [(30, 5)]), (63, [(31, 5), (62, 0)]), (127, [(63, 6)])] (by kernel_rfl) ?_
    repeat
     (apply DagP.step
      ·repeat
        (apply EdgesP.cons rfl rfl
         ·intro ω
          refine cgo3_ @hi1 @hs1 @hlen ?_
          first
           | (refine RunsL.nil ?_; first | exact ⟨ω, LeS.refl _⟩ | exact ⟨ω, les_⟩)
           | (refine call_ (ps := []) (rid := 16) (hy := by simp only [go_sem, Nat.reduceEqDiff, hi1, hs1, hlen]; first | done | rfl) rfl rfl rfl rfl rfl (hmk) ?_
              refine cro3_ @hi1 @hs1 @hlen ?_
              first | exact ⟨ω, LeS.refl _⟩ | exact ⟨ω, les_⟩)
           | ((refine RunsL.eqTwo [.int .i64 k, .int .i64 n, .str s] [.int .i64 4, .int .i64 0, .str [m]] rfl rfl (by kernel_rfl) rfl rfl rfl rfl true (.inl ⟨rfl, hx.symm⟩) ?_)
              refine cgo3_ @hi1 @hs1 @hlen ?_
              refine RunsL.nil ?_
              first | exact ⟨ω, LeS.refl _⟩ | exact ⟨ω, les_⟩))
       exact EdgesP.nil)
    refine DagP.done fun ω => ?_
    repeat' (first | refine ⟨by omega, ?_⟩ | (refine hJ _ _ (RunsL.nil ?_); clear hJ J) | refine RunsA.cond rfl (fun h => ?_) (fun h => absurd h (by decide)) | refine RunsA.cond rfl (fun h => absurd h (by decide)) (fun h => ?_) | (refine step_ ?_) | (refine RunsA.rk 9 [21] tabOk fun J hJ => ?_; simp only [go_sem, ↓reduceIte, Nat.reduceAdd, Nat.reduceSub, Nat.reduceMul, Nat.reduceLT, Nat.reduceLeDiff, Nat.reduceEqDiff, Nat.reduceBEq, Int.reduceToNat, hw5]; try simp (disch := omega) only [wrap_id]) | simp only [↓reduceIte, not_false_eq_true, hw5])
    refine hJ _ _ ?_
    clear hJ J
    refine RunsL.ghost (fun a w g hs => detach_ok (id := 1536) (q := []) (i := 0) (k := 3) (tid := 90112) (by simp only [go_sem, ↓reduceIte, Nat.reduceAdd, Nat.reduceSub, Nat.reduceMul, Nat.reduceLT, Nat.reduceLeDiff, Nat.reduceEqDiff, Nat.reduceBEq, Int.reduceToNat]; rfl) a w g hs) ?_
    refine RunsL.ghost (fun a w g hs => detach_ok (id := 2048) (q := []) (i := 0) (k := 3) (tid := 92160) (by simp only [go_sem, ↓reduceIte, Nat.reduceAdd, Nat.reduceSub, Nat.reduceMul, Nat.reduceLT, Nat.reduceLeDiff, Nat.reduceEqDiff, Nat.reduceBEq, Int.reduceToNat]; rfl) a w g hs) ?_
    refine RunsL.callG (ps := []) (pg := [90112, 92160]) (rid := 9216) rfl rfl rfl rfl rfl rfl (by simp only [go_sem, ↓reduceIte, Nat.reduceEqDiff, Nat.reduceLT, Nat.reduceLeDiff, Nat.reduceAdd]; first | done | rfl) (hT) rfl (by decide) ⟨by decide, by decide, by decide, by decide, by decide⟩ rfl (by first | exact .inl rfl | exact .inr (.inl rfl) | exact .inr (.inr rfl)) ?_
    rintro r os' ros ⟨rfl, rfl, rfl⟩ _
    refine cg_ ?_
    refine RunsL.nil ?_
    refine run_ ?_
    refine rv_ ?_
    refine vdet_ 1280 [] 0 3 100 ?_
    exact RetV.mk 1 rfl rfl (by omega) rfl (by simp [noBoO, noBo, noBoL, noBo_exprs]) rfl ⟨rfl, rfl, rfl⟩
   | false =>
    have hy : ∀ j (h : j < 6), j < i + 1 → isT ⟨k, n, s⟩ (sgnW[j]'h) = false := fun j hj hji => by
     rcases Nat.lt_or_eq_of_le (Nat.lt_succ_iff.1 hji) with h4 | h4
     ·exact ht j hj h4
     ·subst h4; exact hx
    generalize sgnW[i]'h2 = m at *
    refine auto1_ 9 [21] @e2 ?_
    refine RunsA.dag (Ω := Unit) mixed () [(1, [(0, 0)]), (2, [(0, 1)]), (4, [(0, 2)]), (3, [(1, 1), (2, 0)]), (5, [(1, 2), (4, 0)]), (6, [(2, 2), (4, 1)]), (12, [(4, 3)]), (7, [(3, 2), (5, 1), (6, 0)]), (13, [(5, 3), (12, 0)]), (14, [(6, 3), (12, 1)]), (15, [(7, 3), (13, 1), (14, 0)]), (30, [(14, 4)]), (31, [(15, 4), (30, 0)]), (62, [(30, 5)]), (63, [(31, 5), (62, 0)]), (127, [(63, 6)])] (by kernel_rfl) ?_
    repeat
     (apply DagP.step
      ·repeat
        (apply EdgesP.cons rfl rfl
         ·intro ω
          refine cgo3_ @hi1 @hs1 @hlen ?_
          first
           | (refine RunsL.nil ?_; first | exact ⟨ω, LeS.refl _⟩ | exact ⟨ω, les_⟩)
           | (refine call_ (ps := []) (rid := 16) (hy := by simp only [go_sem, Nat.reduceEqDiff, hi1, hs1, hlen]; first | done | rfl) rfl rfl rfl rfl rfl (hmk) ?_
              refine cro3_ @hi1 @hs1 @hlen ?_
              first | exact ⟨ω, LeS.refl _⟩ | exact ⟨ω, les_⟩)
           | ((refine RunsL.eqTwo [.int .i64 k, .int .i64 n, .str s] [.int .i64 4, .int .i64 0, .str [m]] rfl rfl (by kernel_rfl) rfl rfl rfl rfl false (.inl ⟨rfl, hx.symm⟩) ?_)
              refine cgo3_ @hi1 @hs1 @hlen ?_
              refine RunsL.nil ?_
              first | exact ⟨ω, LeS.refl _⟩ | exact ⟨ω, les_⟩))
       exact EdgesP.nil)
    refine DagP.done fun ω => ?_
    refine auto1_ 9 [21] @e2 ?_
    exact hK3 (i + 1) _ ⟨by omega, hy⟩ (by omega) rfl (by simp [SubS, lookS]) (by simp [SubO, lookO]) rfl
  ·have e2 : decide ((i : Int) < 6) = false := decide_eq_false (by omega)
   have hSn := hno (fun j hj => ht j hj (by omega))
   subst hSn
   refine auto1_ 9 [21] @e2 ?_
   refine rv_ ?_
   refine vdet_ 1280 [] 0 3 100 ?_
   exact RetV.mk 1 rfl rfl (by omega) rfl (by simp [noBoO, noBo, noBoL, noBo_exprs]) rfl ⟨rfl, rfl, rfl⟩
 ·exact ⟨by omega, fun j h1 h2 => by omega⟩
 ·simp [SubS, lookS]
 ·simp [SubO, lookO]
set_option maxHeartbeats 16000000 in
theorem pExpr_ok : ∀ (d : Nat), d ≤ 6 → ∀ (l : List TokV) (b : Bool), l.length ≤ 1048576 → FnA Tryz.prog 66 false [.ptr 0 [] 2 0 0, .int .i64 (d : Nat)] (prO l b) (ExPR (exI d l b)) := by
 intro d
 induction d with
 | zero =>
  intro _ l b hl
  have hN := pNext_ok l b (by omega)
  rw [exI]
  generalize nxT l b = T at *
  obtain ⟨⟨k, n, s⟩, l1, b1⟩ := T
  simp only [tokA] at hN
  refine FnA.of Tryz.func66 rfl (by decide) Tryz.ntmps66 (by simp [prO]) ?_
  unfold ExPR prO at *
  refine run_ ?_
  refine rg_ ?_
  refine call_ (ps := [0]) (rid := 16) rfl rfl rfl rfl rfl (hN) ?_
  refine cr_ ?_
  refine auto0_ 7 [] ?_
  refine rv_ ?_
  refine vdet_ 1280 [] 0 3 100 ?_
  exact RetV.mk 1 rfl rfl (by omega) rfl (by simp [noBoO, noBo, noBoL, noBo_exprs]) rfl ⟨rfl, rfl, rfl⟩
 | succ d ih =>
  intro hd l b hl
  have ih := ih (by omega)
  have hN := pNext_ok l b (by omega)
  have ln := nxT_len l b
  have q0 : (((d + 1 : Nat) : Int) == 0) = false := beq_eq_false_iff_ne.2 (by omega)
  have q00 : (((d + 1 : Nat) : Int) = 0) = False := eq_false (by omega)
  have hdm : ((d + 1 : Nat) : Int) - 1 = ((d : Nat) : Int) := by omega
  rw [exI]
  generalize nxT l b = T at *
  obtain ⟨⟨k, n, s⟩, l1, b1⟩ := T
  simp only [tokA] at hN ln
  unfold exI2
  simp only
  refine FnA.of Tryz.func66 rfl (by decide) Tryz.ntmps66 (by simp [prO]) ?_
  cases b1 with
  | true =>
   rw [if_pos rfl]
   clear ih
   unfold ExPR prO at *
   refine run_ ?_
   refine rg_ ?_
   refine call_ (ps := [0]) (rid := 16) rfl rfl rfl rfl rfl (hN) ?_
   refine cr_ ?_
   refine auto2_ 7 [] @q0 @q00 ?_
   refine rv_ ?_
   refine vdet_ 1280 [] 0 3 100 ?_
   exact RetV.mk 1 rfl rfl (by omega) rfl (by simp [noBoO, noBo, noBoL, noBo_exprs]) rfl ⟨rfl, rfl, rfl⟩
  | false =>
   rw [if_neg (by simp)]
   by_cases c2 : k = 2
   ·subst c2
    rw [if_pos rfl]
    clear ih
    unfold ExPR prO at *
    refine run_ ?_
    refine rg_ ?_
    refine call_ (ps := [0]) (rid := 16) rfl rfl rfl rfl rfl (hN) ?_
    refine cr_ ?_
    refine auto2_ 7 [] @q0 @q00 ?_
    refine rv_ ?_
    refine vdet_ 1280 [] 0 3 100 ?_
    exact RetV.mk 1 rfl rfl (by omega) rfl (by simp [noBoO, noBo, noBoL, noBo_exprs]) rfl ⟨rfl, rfl, rfl⟩
   rw [if_neg c2]
   have q2 : (k == 2) = false := beq_eq_false_iff_ne.2 c2
   have q22 : (k = 2) = False := eq_false c2
   by_cases c1 : k = 1
   ·subst c1
    rw [if_pos rfl]
    clear ih
    unfold ExPR prO at *
    refine run_ ?_
    refine rg_ ?_
    refine call_ (ps := [0]) (rid := 16) rfl rfl rfl rfl rfl (hN) ?_
    refine cr_ ?_
    refine auto2_ 7 [] @q0 @q00 ?_
    refine rv_ ?_
    refine vdet_ 1280 [] 0 3 100 ?_
    exact RetV.mk 1 rfl rfl (by omega) rfl (by simp [noBoO, noBo, noBoL, noBo_exprs]) rfl ⟨rfl, rfl, rfl⟩
   rw [if_neg c1]
   have q1 : (k == 1) = false := beq_eq_false_iff_ne.2 c1
   have q11 : (k = 1) = False := eq_false c1
   have hm46 := markTi_ok [46]
   have hm45 := markTi_ok [45]
   have hm60 := markTi_ok [60]
   cases x46 : isT ⟨k, n, s⟩ 46 with
   | true =>
    rw [if_pos rfl]
    clear ih
    unfold ExPR prO at *
    refine run_ ?_
    refine rg_ ?_
    refine call_ (ps := [0]) (rid := 16) rfl rfl rfl rfl rfl (hN) ?_
    refine cr_ ?_
    refine auto6_ 7 [] @q0 @q00 @q2 @q22 @q1 @q11 ?_
    refine RunsA.dag (Ω := Unit) mixed () [(1, [(0, 0)]), (2, [(0, 1)]), (3, [(1, 1), (2, 0)]), (7, [(3, 2)]), (15, [(7, 3)])] (by kernel_rfl) ?_
    repeat
     (apply DagP.step
      ·repeat
        (apply EdgesP.cons rfl rfl
         ·intro ω
          refine cgo_ ?_
          first
           | (refine RunsL.nil ?_; first | exact ⟨ω, LeS.refl _⟩ | exact ⟨ω, les_⟩)
           | (refine call_ (ps := []) (rid := 16) rfl rfl rfl rfl rfl (hm46) ?_
              refine cro_ ?_
              first | exact ⟨ω, LeS.refl _⟩ | exact ⟨ω, les_⟩)
           | ((refine RunsL.eqTwo [.int .i64 k, .int .i64 n, .str s] [.int .i64 4, .int .i64 0, .str [46]] rfl rfl (by kernel_rfl) rfl rfl rfl rfl true (.inl ⟨rfl, x46.symm⟩) ?_)
              refine cgo_ ?_
              refine RunsL.nil ?_
              first | exact ⟨ω, LeS.refl _⟩ | exact ⟨ω, les_⟩))
       exact EdgesP.nil)
    refine DagP.done fun ω => ?_
    refine auto1_ 7 [] @q0 ?_
    refine rv_ ?_
    refine vdet_ 1280 [] 0 3 100 ?_
    exact RetV.mk 1 rfl rfl (by omega) rfl (by simp [noBoO, noBo, noBoL, noBo_exprs]) rfl ⟨rfl, rfl, rfl⟩
   | false =>
   rw [if_neg (by simp)]
   cases x45 : isT ⟨k, n, s⟩ 45 with
   | true =>
    rw [if_pos rfl]
    have hE := ih l1 false (by omega)
    clear ih
    unfold ngI
    unfold ExPR at hE
    generalize exI d l1 false = A at *
    obtain ⟨⟨ka, na, sa, xa⟩, l2, b2⟩ := A
    simp only [exprR] at hE ⊢
    unfold ExPR
    unfold prO at *
    refine run_ ?_
    refine rg_ ?_
    refine call_ (ps := [0]) (rid := 16) rfl rfl rfl rfl rfl (hN) ?_
    refine cr_ ?_
    refine auto6_ 7 [] @q0 @q00 @q2 @q22 @q1 @q11 ?_
    refine RunsA.dag (Ω := Unit) mixed () [(1, [(0, 0)]), (2, [(0, 1)]), (3, [(1, 1), (2, 0)]), (7, [(3, 2)]), (15, [(7, 3)])] (by kernel_rfl) ?_
    repeat
     (apply DagP.step
      ·repeat
        (apply EdgesP.cons rfl rfl
         ·intro ω
          refine cgo_ ?_
          first
           | (refine RunsL.nil ?_; first | exact ⟨ω, LeS.refl _⟩ | exact ⟨ω, les_⟩)
           | (refine call_ (ps := []) (rid := 16) rfl rfl rfl rfl rfl (hm46) ?_
              refine cro_ ?_
              first | exact ⟨ω, LeS.refl _⟩ | exact ⟨ω, les_⟩)
           | ((refine RunsL.eqTwo [.int .i64 k, .int .i64 n, .str s] [.int .i64 4, .int .i64 0, .str [46]] rfl rfl (by kernel_rfl) rfl rfl rfl rfl false (.inl ⟨rfl, x46.symm⟩) ?_)
              refine cgo_ ?_
              refine RunsL.nil ?_
              first | exact ⟨ω, LeS.refl _⟩ | exact ⟨ω, les_⟩))
       exact EdgesP.nil)
    refine DagP.done fun ω => ?_
    refine auto1_ 7 [] @q0 ?_
    refine RunsA.dag (Ω := Unit) mixed () [(1, [(0, 0)]), (2, [(0, 1)]), (3, [(1, 1), (2, 0)]), (7, [(3, 2)]), (15, [(7, 3)])] (by kernel_rfl) ?_
    repeat
     (apply DagP.step
      ·repeat
        (apply EdgesP.cons rfl rfl
         ·intro ω
          refine cgo_ ?_
          first
           | (refine RunsL.nil ?_; first | exact ⟨ω, LeS.refl _⟩ | exact ⟨ω, les_⟩)
           | (refine call_ (ps := []) (rid := 16) rfl rfl rfl rfl rfl (hm45) ?_
              refine cro_ ?_
              first | exact ⟨ω, LeS.refl _⟩ | exact ⟨ω, les_⟩)
           | ((refine RunsL.eqTwo [.int .i64 k, .int .i64 n, .str s] [.int .i64 4, .int .i64 0, .str [45]] rfl rfl (by kernel_rfl) rfl rfl rfl rfl true (.inl ⟨rfl, x45.symm⟩) ?_)
              refine cgo_ ?_
              refine RunsL.nil ?_
              first | exact ⟨ω, LeS.refl _⟩ | exact ⟨ω, les_⟩))
       exact EdgesP.nil)
    refine DagP.done fun ω => ?_
    refine auto1_ 7 [] @hdm ?_
    refine call_ (ps := [0]) (rid := 11776) rfl rfl rfl rfl rfl (hE) ?_
    refine cr_ ?_
    refine run_ ?_
    refine rv_ ?_
    refine vdet_ 1280 [] 0 3 100 ?_
    exact RetV.mk 1 rfl rfl (by omega) rfl (by simp [noBoO, noBo, noBoL, noBo_exprs]) rfl ⟨rfl, rfl, rfl⟩
   | false =>
   rw [if_neg (by simp)]
   cases x60 : isT ⟨k, n, s⟩ 60 with
   | true =>
    rw [if_pos rfl]
    have hE := pPair_ok d (by omega) ih l1 false (by omega)
    clear ih
    unfold ExPR at *
    generalize prI (exI d) l1 false = A at *
    obtain ⟨⟨ka, na, sa, xa⟩, l2, b2⟩ := A
    simp only [exprR] at *
    unfold prO at *
    refine run_ ?_
    refine rg_ ?_
    refine call_ (ps := [0]) (rid := 16) rfl rfl rfl rfl rfl (hN) ?_
    refine cr_ ?_
    refine auto6_ 7 [] @q0 @q00 @q2 @q22 @q1 @q11 ?_
    refine RunsA.dag (Ω := Unit) mixed () [(1, [(0, 0)]), (2, [(0, 1)]), (3, [(1, 1), (2, 0)]), (7, [(3, 2)]), (15, [(7, 3)])] (by kernel_rfl) ?_
    repeat
     (apply DagP.step
      ·repeat
        (apply EdgesP.cons rfl rfl
         ·intro ω
          refine cgo_ ?_
          first
           | (refine RunsL.nil ?_; first | exact ⟨ω, LeS.refl _⟩ | exact ⟨ω, les_⟩)
           | (refine call_ (ps := []) (rid := 16) rfl rfl rfl rfl rfl (hm46) ?_
              refine cro_ ?_
              first | exact ⟨ω, LeS.refl _⟩ | exact ⟨ω, les_⟩)
           | ((refine RunsL.eqTwo [.int .i64 k, .int .i64 n, .str s] [.int .i64 4, .int .i64 0, .str [46]] rfl rfl (by kernel_rfl) rfl rfl rfl rfl false (.inl ⟨rfl, x46.symm⟩) ?_)
              refine cgo_ ?_
              refine RunsL.nil ?_
              first | exact ⟨ω, LeS.refl _⟩ | exact ⟨ω, les_⟩))
       exact EdgesP.nil)
    refine DagP.done fun ω => ?_
    refine auto1_ 7 [] @q0 ?_
    refine RunsA.dag (Ω := Unit) mixed () [(1, [(0, 0)]), (2, [(0, 1)]), (3, [(1, 1), (2, 0)]), (7, [(3, 2)]), (15, [(7, 3)])] (by kernel_rfl) ?_
    repeat
     (apply DagP.step
      ·repeat
        (apply EdgesP.cons rfl rfl
         ·intro ω
          refine cgo_ ?_
          first
           | (refine RunsL.nil ?_; first | exact ⟨ω, LeS.refl _⟩ | exact ⟨ω, les_⟩)
           | (refine call_ (ps := []) (rid := 16) rfl rfl rfl rfl rfl (hm45) ?_
              refine cro_ ?_
              first | exact ⟨ω, LeS.refl _⟩ | exact ⟨ω, les_⟩)
           | ((refine RunsL.eqTwo [.int .i64 k, .int .i64 n, .str s] [.int .i64 4, .int .i64 0, .str [45]] rfl rfl (by kernel_rfl) rfl rfl rfl rfl false (.inl ⟨rfl, x45.symm⟩) ?_)
              refine cgo_ ?_
              refine RunsL.nil ?_
              first | exact ⟨ω, LeS.refl _⟩ | exact ⟨ω, les_⟩))
       exact EdgesP.nil)
    refine DagP.done fun ω => ?_
    refine auto1_ 7 [] @q0 ?_
    refine RunsA.dag (Ω := Unit) mixed () [(1, [(0, 0)]), (2, [(0, 1)]), (3, [(1, 1), (2, 0)]), (7, [(3, 2)]), (15, [(7, 3)])] (by kernel_rfl) ?_
    repeat
     (apply DagP.step
      ·repeat
        (apply EdgesP.cons rfl rfl
         ·intro ω
          refine cgo_ ?_
          first
           | (refine RunsL.nil ?_; first | exact ⟨ω, LeS.refl _⟩ | exact ⟨ω, les_⟩)
           | (refine call_ (ps := []) (rid := 16) rfl rfl rfl rfl rfl (hm60) ?_
              refine cro_ ?_
              first | exact ⟨ω, LeS.refl _⟩ | exact ⟨ω, les_⟩)
           | ((refine RunsL.eqTwo [.int .i64 k, .int .i64 n, .str s] [.int .i64 4, .int .i64 0, .str [60]] rfl rfl (by kernel_rfl) rfl rfl rfl rfl true (.inl ⟨rfl, x60.symm⟩) ?_)
              refine cgo_ ?_
              refine RunsL.nil ?_
              first | exact ⟨ω, LeS.refl _⟩ | exact ⟨ω, les_⟩))
       exact EdgesP.nil)
    refine DagP.done fun ω => ?_
    refine auto1_ 7 [] @q0 ?_
    refine call_ (ps := [0]) (rid := 14336) rfl rfl rfl rfl rfl (hE) ?_
    refine cr_ ?_
    refine run_ ?_
    refine rv_ ?_
    refine vdet_ 1280 [] 0 3 100 ?_
    exact RetV.mk 1 rfl rfl (by omega) rfl (by simp [noBoO, noBo, noBoL, noBo_exprs]) rfl ⟨rfl, rfl, rfl⟩
   | false =>
    rw [if_neg (by simp)]
    clear ih
    unfold ExPR prO at *
    refine run_ ?_
    refine rg_ ?_
    refine call_ (ps := [0]) (rid := 16) rfl rfl rfl rfl rfl (hN) ?_
    refine cr_ ?_
    refine auto6_ 7 [] @q0 @q00 @q2 @q22 @q1 @q11 ?_
    refine RunsA.dag (Ω := Unit) mixed () [(1, [(0, 0)]), (2, [(0, 1)]), (3, [(1, 1), (2, 0)]), (7, [(3, 2)]), (15, [(7, 3)])] (by kernel_rfl) ?_
    repeat
     (apply DagP.step
      ·repeat
        (apply EdgesP.cons rfl rfl
         ·intro ω
          refine cgo_ ?_
          first
           | (refine RunsL.nil ?_; first | exact ⟨ω, LeS.refl _⟩ | exact ⟨ω, les_⟩)
           | (refine call_ (ps := []) (rid := 16) rfl rfl rfl rfl rfl (hm46) ?_
              refine cro_ ?_
              first | exact ⟨ω, LeS.refl _⟩ | exact ⟨ω, les_⟩)
           | ((refine RunsL.eqTwo [.int .i64 k, .int .i64 n, .str s] [.int .i64 4, .int .i64 0, .str [46]] rfl rfl (by kernel_rfl) rfl rfl rfl rfl false (.inl ⟨rfl, x46.symm⟩) ?_)
              refine cgo_ ?_
              refine RunsL.nil ?_
              first | exact ⟨ω, LeS.refl _⟩ | exact ⟨ω, les_⟩))
       exact EdgesP.nil)
    refine DagP.done fun ω => ?_
    refine auto1_ 7 [] @q0 ?_
    refine RunsA.dag (Ω := Unit) mixed () [(1, [(0, 0)]), (2, [(0, 1)]), (3, [(1, 1), (2, 0)]), (7, [(3, 2)]), (15, [(7, 3)])] (by kernel_rfl) ?_
    repeat
     (apply DagP.step
      ·repeat
        (apply EdgesP.cons rfl rfl
         ·intro ω
          refine cgo_ ?_
          first
           | (refine RunsL.nil ?_; first | exact ⟨ω, LeS.refl _⟩ | exact ⟨ω, les_⟩)
           | (refine call_ (ps := []) (rid := 16) rfl rfl rfl rfl rfl (hm45) ?_
              refine cro_ ?_
              first | exact ⟨ω, LeS.refl _⟩ | exact ⟨ω, les_⟩)
           | ((refine RunsL.eqTwo [.int .i64 k, .int .i64 n, .str s] [.int .i64 4, .int .i64 0, .str [45]] rfl rfl (by kernel_rfl) rfl rfl rfl rfl false (.inl ⟨rfl, x45.symm⟩) ?_)
              refine cgo_ ?_
              refine RunsL.nil ?_
              first | exact ⟨ω, LeS.refl _⟩ | exact ⟨ω, les_⟩))
       exact EdgesP.nil)
    refine DagP.done fun ω => ?_
    refine auto1_ 7 [] @q0 ?_
    refine RunsA.dag (Ω := Unit) mixed () [(1, [(0, 0)]), (2, [(0, 1)]), (3, [(1, 1), (2, 0)]), (7, [(3, 2)]), (15, [(7, 3)])] (by kernel_rfl) ?_
    repeat
     (apply DagP.step
      ·repeat
        (apply EdgesP.cons rfl rfl
         ·intro ω
          refine cgo_ ?_
          first
           | (refine RunsL.nil ?_; first | exact ⟨ω, LeS.refl _⟩ | exact ⟨ω, les_⟩)
           | (refine call_ (ps := []) (rid := 16) rfl rfl rfl rfl rfl (hm60) ?_
              refine cro_ ?_
              first | exact ⟨ω, LeS.refl _⟩ | exact ⟨ω, les_⟩)
           | ((refine RunsL.eqTwo [.int .i64 k, .int .i64 n, .str s] [.int .i64 4, .int .i64 0, .str [60]] rfl rfl (by kernel_rfl) rfl rfl rfl rfl false (.inl ⟨rfl, x60.symm⟩) ?_)
              refine cgo_ ?_
              refine RunsL.nil ?_
              first | exact ⟨ω, LeS.refl _⟩ | exact ⟨ω, les_⟩))
       exact EdgesP.nil)
    refine DagP.done fun ω => ?_
    refine auto1_ 7 [] @q0 ?_
    refine rv_ ?_
    refine vdet_ 1280 [] 0 3 100 ?_
    exact RetV.mk 1 rfl rfl (by omega) rfl (by simp [noBoO, noBo, noBoL, noBo_exprs]) rfl ⟨rfl, rfl, rfl⟩
end Go.Proofs.YtiilnlihimdnlaaGreatDoorFw
