/- Terms out of tokens: the reference's walk. -/
import Derived.Test.YtiilnlihimdnlaaGreatDoorJI
import Derived.Test.YtiilnlihimdnlaaGreatDoorQG
namespace Go.Proofs.YtiilnlihimdnlaaGreatDoorFw
open Go Go.RowKit
set_option linter.unusedVariables false
set_option linter.unusedSimpArgs false
set_option maxRecDepth 4000
def ExSR (L : List TokV) (V : ExprV × Nat × Bool) (r : AV) (os ros : List (Nat × List AV)) : Prop := r = exprR V.1 ∧ os = rdO L V.2.1 V.2.2 ∧ ros = [(4, exprsA .own V.1.4)]
theorem rIs3_ok (L : List TokV) (i : Nat) (b : Bool) (m : Str) (hl : L.length ≤ 1048576) (hi : i ≤ L.length) : FnA Tryz.prog 51 false [.ptr 0 [] 3 0 0, .str m] (rdO L i b)
 (fun r os ros => r = .bool (seS L i b m) ∧ os = rdO L (tkI L i b m) b ∧ ros = []) := rIs_ok L i b m (by omega) hi
theorem rMust3_ok (L : List TokV) (i : Nat) (b : Bool) (m : Str) (hl : L.length ≤ 1048576) (hi : i ≤ L.length) : FnA Tryz.prog 49 false [.ptr 0 [] 3 0 0, .str m] (rdO L i b)
 (fun r os ros => r = .tup [] ∧ os = rdO L (tkI L i b m) (b || !seS L i b m) ∧ ros = []) := rMust_ok L i b m (by omega) hi
theorem sign_at : ∀ (i : Nat) (h : i < 6), signT (5 + (i : Int)) = [sgnW[i]'h] := by
 intro i h
 match i, h with
 | 0, _ => rfl
 | 1, _ => rfl
 | 2, _ => rfl
 | 3, _ => rfl
 | 4, _ => rfl
 | 5, _ => rfl
set_option maxHeartbeats 8000000 in
theorem rTwo_ok (L : List TokV) (hL : L.length ≤ 1048576) (d : Nat) (hd : d ≤ 5) (dp : Int) (hdp : dp + 1 = 7 - (d : Nat)) (ih : ∀ (i : Nat) (b : Bool), i ≤ L.length → FnA Tryz.prog 103 false [.ptr 0 [] 3 0 0, .int .i64 (dp + 1)] (rdO L i b) (ExSR L (exS L d i b)))
 (i : Nat) (b : Bool) (hi : i ≤ L.length) : FnA Tryz.prog 130 false [.ptr 0 [] 3 0 0, .int .i64 dp] (rdO L i b) (ExSR L (prS L (exS L d) i b)) := by
 have hA := ih i b hi
 have la := exS_le (L := L) d i b hi
 unfold prS
 unfold ExSR exprR at hA
 generalize exS L d i b = A at *
 obtain ⟨⟨ka, na, sa, xa⟩, i1, b1⟩ := A
 unfold prS2
 simp only at hA la ⊢
 have hN := rNext_ok L i1 b1 (by omega) la
 have ln := nxS_le (L := L) b1 la
 generalize nxS L i1 b1 = T at *
 obtain ⟨⟨k, n, s⟩, i2, b2⟩ := T
 unfold prS3
 simp only [tokA] at hN ln ⊢
 have hB := ih i2 b2 ln
 have lb := exS_le (L := L) d i2 b2 ln
 unfold ExSR exprR at hB
 generalize exS L d i2 b2 = B at *
 obtain ⟨⟨kb, nb, sb, xb⟩, i3, b3⟩ := B
 simp only at hB lb
 have hW := rMust3_ok L i3 b3 [62] hL lb
 unfold prS4
 generalize hl4 : tkI L i3 b3 [62] = i4 at *
 generalize hb4 : (b3 || !seS L i3 b3 [62]) = b4 at *
 have hat := fun i hi h1 h2 => sgn_at (p := fun c => s == [c]) i hi h1 h2
 have hno := fun h1 => sgn_none (p := fun c => s == [c]) h1
 obtain ⟨S, hS⟩ : ∃ S, sgn (fun c => s == [c]) = S := ⟨_, rfl⟩
 simp only [hS] at hat hno ⊢
 clear ih
 refine FnA.of Tryz.func130 rfl (by decide) Tryz.ntmps130 (by simp [rdO]) ?_
 unfold rdO at *
 refine run_ ?_
 refine rg_ ?_
 refine call_ (ps := [0]) (rid := 3328) rfl rfl rfl rfl rfl (hA) ?_
 refine cr_ ?_
 refine run_ ?_
 refine rg_ ?_
 refine call_ (ps := [0]) (rid := 16) rfl rfl rfl rfl rfl (hN) ?_
 refine cr_ ?_
 refine run_ ?_
 refine rg_ ?_
 refine call_ (ps := [0]) (rid := 5120) rfl rfl rfl rfl rfl (hB) ?_
 refine cr_ ?_
 refine run_ ?_
 refine rg_ ?_
 refine call_ (ps := [0]) (rid := 16) rfl rfl rfl rfl rfl (hW) ?_
 refine cr_ ?_
 refine run_ ?_
 refine RunsA.loop ?_
 refine (LoopA.ind (fun i : Nat => ⟨39, [(0, .ptr 0 [] 3 0 0), (1, .int .i64 dp), (4, .ptr 1280 [] 4 0 0), (5, .ptr 1536 [] 4 0 0), (6, .str s), (7, .ptr 2048 [] 4 0 0), (8, .int .i64 (5 + (i : Nat)))],
  [⟨0, 3, [.agg [.row .ro 3 (toksA L), .int .i64 (i4 : Nat), .bool b4]]⟩, ⟨1280, 4, [.agg [.int .i64 0, .int .i64 0, .str [], .row .own 4 []]]⟩, ⟨1536, 4, [.agg [.int .i64 ka, .int .i64 na, .str sa, .row .own 4 (exprsA .own xa)]]⟩,
   ⟨2048, 4, [.agg [.int .i64 kb, .int .i64 nb, .str sb, .row .own 4 (exprsA .own xb)]]⟩], false⟩)
  (fun i => 6 - i) (fun i => i ≤ 6 ∧ ∀ j (h : j < 6), j < i → (s == [sgnW[j]'h]) = false) ?_ 0 ?_).sub rfl ?_ ?_ rfl
 ·rintro i ⟨hi, ht⟩ K3 hK3
  have hw5 : IntKind.i64.wrap (5 + (i : Int) + 1) = 5 + ((i + 1 : Nat) : Int) := by rw [wrap_id (by omega) (by omega)]; omega
  by_cases h2 : i < 6
  ·have e2 : decide (5 + (i : Int) ≤ 10) = true := decide_eq_true (by omega)
   have e2' : (5 + (i : Int) ≤ 10) = True := eq_true (by omega)
   have hat := hat i h2 ht
   have hmk := l10Sign_ok (5 + (i : Int))
   rw [sign_at i h2] at hmk
   cases hx : s == [sgnW[i]'h2] with
   | true =>
    have hSi := hat hx
    have qs : ([sgnW[i]'h2] == s) = true := by rw [← hx]; exact Bool.beq_comm
    generalize sgnW[i]'h2 = m at *
    subst hSi
    refine auto2_ 9 [] @e2 @e2' ?_
    refine call_ (ps := []) (rid := 16) rfl rfl rfl rfl rfl (hmk) ?_
    refine cr1_ @qs ?_
    refine auto1_ 9 [] @qs ?_
    refine rv_ ?_
    refine vdet_ 1280 [] 0 3 100 ?_
    exact RetV.mk 1 rfl rfl (by omega) rfl (by simp [noBoO, noBo, noBoL, noBo_exprs]) rfl ⟨rfl, rfl, rfl⟩
   | false =>
    have qs : ([sgnW[i]'h2] == s) = false := by rw [← hx]; exact Bool.beq_comm
    have hy : ∀ j (h : j < 6), j < i + 1 → (s == [sgnW[j]'h]) = false := fun j hj hji => by
     rcases Nat.lt_or_eq_of_le (Nat.lt_succ_iff.1 hji) with h4 | h4
     ·exact ht j hj h4
     ·subst h4; exact hx
    generalize sgnW[i]'h2 = m at *
    refine auto2_ 9 [] @e2 @e2' ?_
    refine call_ (ps := []) (rid := 16) rfl rfl rfl rfl rfl (hmk) ?_
    refine cr1_ @qs ?_
    refine auto2_ 9 [] @qs @hw5 ?_
    exact hK3 (i + 1) _ ⟨by omega, hy⟩ (by omega) rfl (by simp [SubS, lookS]) (by simp [SubO, lookO]) rfl
  ·have e2 : decide (5 + (i : Int) ≤ 10) = false := decide_eq_false (by omega)
   have e2' : (5 + (i : Int) ≤ 10) = False := eq_false (by omega)
   have hSn := hno (fun j hj => ht j hj (by omega))
   subst hSn
   refine auto2_ 9 [] @e2 @e2' ?_
   refine rv_ ?_
   refine vdet_ 1280 [] 0 3 100 ?_
   exact RetV.mk 1 rfl rfl (by omega) rfl (by simp [noBoO, noBo, noBoL, noBo_exprs]) rfl ⟨rfl, rfl, rfl⟩
 ·exact ⟨by omega, fun j h1 h2 => by omega⟩
 ·simp [SubS, lookS]
 ·simp [SubO, lookO]
set_option maxHeartbeats 16000000 in
theorem rExpr_ok (L : List TokV) (hL : L.length ≤ 1048576) : ∀ (d : Nat), d ≤ 6 → ∀ (dp : Int), dp = 7 - (d : Nat) → ∀ (i : Nat) (b : Bool), i ≤ L.length → FnA Tryz.prog 103 false [.ptr 0 [] 3 0 0, .int .i64 dp] (rdO L i b) (ExSR L (exS L d i b)) := by
 intro d
 induction d with
 | zero =>
  intro _ dp hdp i b hi
  have q0 : decide ((6 : Int) < dp) = true := decide_eq_true (by omega)
  have q00 : ((6 : Int) < dp) = True := eq_true (by omega)
  rw [exS]
  refine FnA.of Tryz.func103 rfl (by decide) Tryz.ntmps103 (by simp [rdO]) ?_
  unfold ExSR rdO at *
  refine auto2_ 7 [] @q0 @q00 ?_
  refine rv_ ?_
  refine vdet_ 1280 [] 0 3 100 ?_
  exact RetV.mk 1 rfl rfl (by omega) rfl (by simp [noBoO, noBo, noBoL, noBo_exprs]) rfl ⟨rfl, rfl, rfl⟩
 | succ d ih =>
  intro hd dp hdp i b hi
  have ih := ih (by omega) (dp + 1) (by omega)
  have hN := rNext_ok L i b (by omega) hi
  have ln := nxS_le (L := L) b hi
  have q0 : decide ((6 : Int) < dp) = false := decide_eq_false (by omega)
  have q00 : ((6 : Int) < dp) = False := eq_false (by omega)
  rw [exS]
  generalize nxS L i b = T at *
  obtain ⟨⟨k, n, s⟩, i1, b1⟩ := T
  simp only [tokA] at hN ln
  unfold exS2
  simp only
  refine FnA.of Tryz.func103 rfl (by decide) Tryz.ntmps103 (by simp [rdO]) ?_
  by_cases c2 : k = 2
  ·subst c2
   rw [if_pos rfl]
   clear ih
   unfold ExSR rdO at *
   refine auto2_ 7 [] @q0 @q00 ?_
   refine call_ (ps := [0]) (rid := 16) rfl rfl rfl rfl rfl (hN) ?_
   refine cr_ ?_
   refine auto0_ 7 [] ?_
   refine rv_ ?_
   refine vdet_ 1280 [] 0 3 100 ?_
   exact RetV.mk 1 rfl rfl (by omega) rfl (by simp [noBoO, noBo, noBoL, noBo_exprs]) rfl ⟨rfl, rfl, rfl⟩
  rw [if_neg c2]
  have q2 : (k == 2) = false := beq_eq_false_iff_ne.2 c2
  have q22 : (k = 2) = False := eq_false c2
  by_cases c1 : k = 1
  ·subst c1
   rw [if_pos rfl]
   clear ih
   unfold ExSR rdO at *
   refine auto2_ 7 [] @q0 @q00 ?_
   refine call_ (ps := [0]) (rid := 16) rfl rfl rfl rfl rfl (hN) ?_
   refine cr_ ?_
   refine auto0_ 7 [] ?_
   refine rv_ ?_
   refine vdet_ 1280 [] 0 3 100 ?_
   exact RetV.mk 1 rfl rfl (by omega) rfl (by simp [noBoO, noBo, noBoL, noBo_exprs]) rfl ⟨rfl, rfl, rfl⟩
  rw [if_neg c1]
  have q1 : (k == 1) = false := beq_eq_false_iff_ne.2 c1
  have q11 : (k = 1) = False := eq_false c1
  cases x46 : s == [46] with
  | true =>
   have p46 : (s = [46]) = True := eq_true (by simpa using x46)
   rw [if_pos rfl]
   clear ih
   unfold ExSR rdO at *
   refine auto2_ 7 [] @q0 @q00 ?_
   refine call_ (ps := [0]) (rid := 16) rfl rfl rfl rfl rfl (hN) ?_
   refine cr_ ?_
   refine auto6_ 7 [] @q2 @q22 @q1 @q11 @x46 @p46 ?_
   refine rv_ ?_
   refine vdet_ 1280 [] 0 3 100 ?_
   exact RetV.mk 1 rfl rfl (by omega) rfl (by simp [noBoO, noBo, noBoL, noBo_exprs]) rfl ⟨rfl, rfl, rfl⟩
  | false =>
  have p46 : (s = [46]) = False := eq_false (by simpa using x46)
  rw [if_neg (by simp)]
  cases x45 : s == [45] with
  | true =>
   have p45 : (s = [45]) = True := eq_true (by simpa using x45)
   rw [if_pos rfl]
   have hE := ih i1 b1 ln
   clear ih
   unfold ngS
   unfold ExSR at hE
   generalize exS L d i1 b1 = A at *
   obtain ⟨⟨ka, na, sa, xa⟩, i2, b2⟩ := A
   simp only [exprR] at hE ⊢
   unfold ExSR
   unfold rdO at *
   refine auto2_ 7 [] @q0 @q00 ?_
   refine call_ (ps := [0]) (rid := 16) rfl rfl rfl rfl rfl (hN) ?_
   refine cr_ ?_
   refine auto8_ 7 [] @q2 @q22 @q1 @q11 @x46 @p46 @x45 @p45 ?_
   refine call_ (ps := [0]) (rid := 10752) rfl rfl rfl rfl rfl (hE) ?_
   refine cr_ ?_
   refine run_ ?_
   refine rv_ ?_
   refine vdet_ 1280 [] 0 3 100 ?_
   exact RetV.mk 1 rfl rfl (by omega) rfl (by simp [noBoO, noBo, noBoL, noBo_exprs]) rfl ⟨rfl, rfl, rfl⟩
  | false =>
  have p45 : (s = [45]) = False := eq_false (by simpa using x45)
  rw [if_neg (by simp)]
  cases x60 : s == [60] with
  | true =>
   have p60 : (s = [60]) = True := eq_true (by simpa using x60)
   rw [if_pos rfl]
   have hE := rTwo_ok L hL d (by omega) dp (by omega) ih i1 b1 ln
   clear ih
   unfold ExSR at *
   generalize prS L (exS L d) i1 b1 = A at *
   obtain ⟨⟨ka, na, sa, xa⟩, i2, b2⟩ := A
   simp only [exprR] at *
   unfold rdO at *
   refine auto2_ 7 [] @q0 @q00 ?_
   refine call_ (ps := [0]) (rid := 16) rfl rfl rfl rfl rfl (hN) ?_
   refine cr_ ?_
   refine auto11_ 7 [] @q2 @q22 @q1 @q11 @x46 @p46 @x45 @p45 @x60 @p60 @p60 ?_
   refine call_ (ps := [0]) (rid := 13312) rfl rfl rfl rfl rfl (hE) ?_
   refine cr_ ?_
   refine run_ ?_
   refine rv_ ?_
   refine vdet_ 1280 [] 0 3 100 ?_
   exact RetV.mk 1 rfl rfl (by omega) rfl (by simp [noBoO, noBo, noBoL, noBo_exprs]) rfl ⟨rfl, rfl, rfl⟩
  | false =>
  have p60 : (s = [60]) = False := eq_false (by simpa using x60)
  rw [if_neg (by simp)]
  clear ih
  unfold ExSR rdO at *
  refine auto2_ 7 [] @q0 @q00 ?_
  refine call_ (ps := [0]) (rid := 16) rfl rfl rfl rfl rfl (hN) ?_
  refine cr_ ?_
  refine auto11_ 7 [] @q2 @q22 @q1 @q11 @x46 @p46 @x45 @p45 @x60 @p60 @p60 ?_
  refine rv_ ?_
  refine vdet_ 1280 [] 0 3 100 ?_
  exact RetV.mk 1 rfl rfl (by omega) rfl (by simp [noBoO, noBo, noBoL, noBo_exprs]) rfl ⟨rfl, rfl, rfl⟩
end Go.Proofs.YtiilnlihimdnlaaGreatDoorFw
