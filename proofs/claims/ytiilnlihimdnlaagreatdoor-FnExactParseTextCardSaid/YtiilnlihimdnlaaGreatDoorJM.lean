/- Lines out of tokens: the program's walk. -/
import Derived.Test.YtiilnlihimdnlaaGreatDoorQN
import Derived.Test.YtiilnlihimdnlaaGreatDoorQC
namespace Go.Proofs.YtiilnlihimdnlaaGreatDoorFw
open Go Go.RowKit
set_option linter.unusedVariables false
set_option linter.unusedSimpArgs false
set_option maxRecDepth 4000
set_option maxHeartbeats 16000000 in
theorem pDot_0 (l : List TokV) (b : Bool) (hl : l.length ≤ 1048576) (w : Str)  (h : w = wordW) : FnA Tryz.prog 65 false [.ptr 0 [] 2 0 0, .str w] (prO l b) (LiPR (mpI (fun x => lnV 4 [] 0 azV azV 0 x) (trmI (l.length + 1) l b []))) := by
 have q0 : (w == [46, 119, 111, 114, 100]) = true := by rw [h]; rfl
 have q0' : (w = [46, 119, 111, 114, 100]) = True := eq_true h
 have hT := pTerms_ok l b hl
 unfold trm at hT
 unfold mpI
 generalize trmI (l.length + 1) l b [] = T at *
 obtain ⟨x, l2, b2⟩ := T
 unfold TrPR at hT
 simp only at hT ⊢
 refine FnA.of Tryz.func65 rfl (by decide) Tryz.ntmps65 (by simp [prO]) ?_
 unfold LiPR prO at *
 try unfold lnV at *
 try unfold azV at *
 try unfold nothE at *
 simp only [lineR, lineO] at *
 refine auto2_ 8 [9] @q0 @q0' ?_
 refine call_ (ps := [0]) (rid := 4608) rfl rfl rfl rfl rfl (hT) ?_
 refine cr_ ?_
 refine run_ ?_
 refine rv_ ?_
 refine vdet_ 1280 [] 0 8 100 ?_
 refine vdet_ 1280 [] 0 14 101 ?_
 refine vdet_ 1280 [] 0 16 102 ?_
 exact RetV.mk 3 rfl rfl (by omega) rfl (by simp [noBoO, noBo, noBoL, noBo_exprs]) rfl ⟨rfl, rfl, rfl⟩
set_option maxHeartbeats 16000000 in
theorem pDot_1 (l : List TokV) (b : Bool) (hl : l.length ≤ 1048576) (w : Str) (n0 : w ≠ wordW) (h : w = blkW) : FnA Tryz.prog 65 false [.ptr 0 [] 2 0 0, .str w] (prO l b) (LiPR (mpI (fun x => lnV 5 [] 0 azV azV 0 x) (trmI (l.length + 1) l b []))) := by
 have q0 : (w == [46, 119, 111, 114, 100]) = false := beq_eq_false_iff_ne.2 n0
 have q0' : (w = [46, 119, 111, 114, 100]) = False := eq_false n0
 have q1 : (w == [46, 98, 108, 107, 119]) = true := by rw [h]; rfl
 have q1' : (w = [46, 98, 108, 107, 119]) = True := eq_true h
 have hT := pTerms_ok l b hl
 unfold trm at hT
 unfold mpI
 generalize trmI (l.length + 1) l b [] = T at *
 obtain ⟨x, l2, b2⟩ := T
 unfold TrPR at hT
 simp only at hT ⊢
 refine FnA.of Tryz.func65 rfl (by decide) Tryz.ntmps65 (by simp [prO]) ?_
 unfold LiPR prO at *
 try unfold lnV at *
 try unfold azV at *
 try unfold nothE at *
 simp only [lineR, lineO] at *
 refine auto4_ 8 [9] @q0 @q0' @q1 @q1' ?_
 refine call_ (ps := [0]) (rid := 6144) rfl rfl rfl rfl rfl (hT) ?_
 refine cr_ ?_
 refine run_ ?_
 refine rv_ ?_
 refine vdet_ 1280 [] 0 8 100 ?_
 refine vdet_ 1280 [] 0 14 101 ?_
 refine vdet_ 1280 [] 0 16 102 ?_
 exact RetV.mk 3 rfl rfl (by omega) rfl (by simp [noBoO, noBo, noBoL, noBo_exprs]) rfl ⟨rfl, rfl, rfl⟩
set_option maxHeartbeats 16000000 in
theorem pDot_2 (l : List TokV) (b : Bool) (hl : l.length ≤ 1048576) (w : Str) (n0 : w ≠ wordW) (n1 : w ≠ blkW) (h : w = globW) : FnA Tryz.prog 65 false [.ptr 0 [] 2 0 0, .str w] (prO l b) (LiPR (mpI (fun x => lnV 7 [] 0 azV azV 0 x) (trmI (l.length + 1) l b []))) := by
 have q0 : (w == [46, 119, 111, 114, 100]) = false := beq_eq_false_iff_ne.2 n0
 have q0' : (w = [46, 119, 111, 114, 100]) = False := eq_false n0
 have q1 : (w == [46, 98, 108, 107, 119]) = false := beq_eq_false_iff_ne.2 n1
 have q1' : (w = [46, 98, 108, 107, 119]) = False := eq_false n1
 have q2 : (w == [46, 103, 108, 111, 98, 108]) = true := by rw [h]; rfl
 have q2' : (w = [46, 103, 108, 111, 98, 108]) = True := eq_true h
 have hT := pTerms_ok l b hl
 unfold trm at hT
 unfold mpI
 generalize trmI (l.length + 1) l b [] = T at *
 obtain ⟨x, l2, b2⟩ := T
 unfold TrPR at hT
 simp only at hT ⊢
 refine FnA.of Tryz.func65 rfl (by decide) Tryz.ntmps65 (by simp [prO]) ?_
 unfold LiPR prO at *
 try unfold lnV at *
 try unfold azV at *
 try unfold nothE at *
 simp only [lineR, lineO] at *
 refine auto6_ 8 [9] @q0 @q0' @q1 @q1' @q2 @q2' ?_
 refine call_ (ps := [0]) (rid := 7680) rfl rfl rfl rfl rfl (hT) ?_
 refine cr_ ?_
 refine run_ ?_
 refine rv_ ?_
 refine vdet_ 1280 [] 0 8 100 ?_
 refine vdet_ 1280 [] 0 14 101 ?_
 refine vdet_ 1280 [] 0 16 102 ?_
 exact RetV.mk 3 rfl rfl (by omega) rfl (by simp [noBoO, noBo, noBoL, noBo_exprs]) rfl ⟨rfl, rfl, rfl⟩
set_option maxHeartbeats 16000000 in
theorem pDot_3 (l : List TokV) (b : Bool) (hl : l.length ≤ 1048576) (w : Str) (n0 : w ≠ wordW) (n1 : w ≠ blkW) (n2 : w ≠ globW) (h : w = endW) : FnA Tryz.prog 65 false [.ptr 0 [] 2 0 0, .str w] (prO l b) (LiPR (lnV 8 [] 0 azV azV 0 [], l, b)) := by
 have q0 : (w == [46, 119, 111, 114, 100]) = false := beq_eq_false_iff_ne.2 n0
 have q0' : (w = [46, 119, 111, 114, 100]) = False := eq_false n0
 have q1 : (w == [46, 98, 108, 107, 119]) = false := beq_eq_false_iff_ne.2 n1
 have q1' : (w = [46, 98, 108, 107, 119]) = False := eq_false n1
 have q2 : (w == [46, 103, 108, 111, 98, 108]) = false := beq_eq_false_iff_ne.2 n2
 have q2' : (w = [46, 103, 108, 111, 98, 108]) = False := eq_false n2
 have q3 : (w == [46, 101, 110, 100]) = true := by rw [h]; rfl
 have q3' : (w = [46, 101, 110, 100]) = True := eq_true h
 refine FnA.of Tryz.func65 rfl (by decide) Tryz.ntmps65 (by simp [prO]) ?_
 unfold LiPR prO at *
 try unfold lnV at *
 try unfold azV at *
 try unfold nothE at *
 simp only [lineR, lineO] at *
 refine auto8_ 8 [9] @q0 @q0' @q1 @q1' @q2 @q2' @q3 @q3' ?_
 refine rv_ ?_
 refine vdet_ 1280 [] 0 8 100 ?_
 refine vdet_ 1280 [] 0 14 101 ?_
 refine vdet_ 1280 [] 0 16 102 ?_
 exact RetV.mk 3 rfl rfl (by omega) rfl (by simp [noBoO, noBo, noBoL, noBo_exprs]) rfl ⟨rfl, rfl, rfl⟩
set_option maxHeartbeats 16000000 in
theorem pDot_4true (l : List TokV) (b : Bool) (hl : l.length ≤ 1048576) (w : Str) (n0 : w ≠ wordW) (n1 : w ≠ blkW) (n2 : w ≠ globW) (n3 : w ≠ endW) (h : w = sectW) (hy : isM (nmT l b).2.1 [44] = true) : FnA Tryz.prog 65 false [.ptr 0 [] 2 0 0, .str w] (prO l b) (LiPR (sctI (nmT l b))) := by
 have q0 : (w == [46, 119, 111, 114, 100]) = false := beq_eq_false_iff_ne.2 n0
 have q0' : (w = [46, 119, 111, 114, 100]) = False := eq_false n0
 have q1 : (w == [46, 98, 108, 107, 119]) = false := beq_eq_false_iff_ne.2 n1
 have q1' : (w = [46, 98, 108, 107, 119]) = False := eq_false n1
 have q2 : (w == [46, 103, 108, 111, 98, 108]) = false := beq_eq_false_iff_ne.2 n2
 have q2' : (w = [46, 103, 108, 111, 98, 108]) = False := eq_false n2
 have q3 : (w == [46, 101, 110, 100]) = false := beq_eq_false_iff_ne.2 n3
 have q3' : (w = [46, 101, 110, 100]) = False := eq_false n3
 have q4 : (w == [46, 115, 101, 99, 116]) = true := by rw [h]; rfl
 have q4' : (w = [46, 115, 101, 99, 116]) = True := eq_true h
 have hN := pName_ok l b (by omega)
 have ln := nm_len l b
 unfold sctI
 generalize nmT l b = A at *
 have hT := pTake_ok A.2.1 A.2.2 [44] (by omega)
 rw [hy] at hT ⊢
 have hN2 := pName_ok (tkL A.2.1 [44]) A.2.2 (by have := tkL_len A.2.1 [44]; omega)
 simp only [if_true]
 generalize nmT (tkL A.2.1 [44]) A.2.2 = B at *
 generalize tkL A.2.1 [44] = l3 at *
 obtain ⟨n, l2, b2⟩ := A
 obtain ⟨v, l4, b4⟩ := B
 simp only at *
 have eo : (v != overW) = (v != [111, 118, 101, 114]) := rfl
 rw [eo]
 generalize hvv : (v != [111, 118, 101, 114]) = vv at *
 refine FnA.of Tryz.func65 rfl (by decide) Tryz.ntmps65 (by simp [prO]) ?_
 unfold LiPR prO at *
 try unfold lnV at *
 try unfold azV at *
 try unfold nothE at *
 simp only [lineR, lineO] at *
 refine auto11_ 8 [9] @q0 @q0' @q1 @q1' @q2 @q2' @q3 @q3' @q4 @q4' @q4' ?_
 refine call_ (ps := [0]) (rid := 16) rfl rfl rfl rfl rfl (hN) ?_
 refine cr_ ?_
 refine auto0_ 8 [] ?_
 refine call_ (ps := [0]) (rid := 16) rfl rfl rfl rfl rfl (hT) ?_
 refine cr_ ?_
 refine auto0_ 8 [] ?_
 refine call_ (ps := [0]) (rid := 16) rfl rfl rfl rfl rfl (hN2) ?_
 refine cr_ ?_
 cases b4 <;> cases vv
 all_goals (
  have hvp : (v = [111, 118, 101, 114]) = ((v != [111, 118, 101, 114]) = false) := by simp
  rw [hvv] at hvp
  refine auto6_ 8 [] @hvv @hvp @Bool.true_or @Bool.false_or @Bool.or_false @Bool.or_true ?_
  refine rv_ ?_
  refine vdet_ 1280 [] 0 8 100 ?_
  refine vdet_ 1280 [] 0 14 101 ?_
  refine vdet_ 1280 [] 0 16 102 ?_
  exact RetV.mk 3 rfl rfl (by omega) rfl (by simp [noBoO, noBo, noBoL, noBo_exprs]) rfl ⟨rfl, rfl, rfl⟩)
set_option maxHeartbeats 16000000 in
theorem pDot_4false (l : List TokV) (b : Bool) (hl : l.length ≤ 1048576) (w : Str) (n0 : w ≠ wordW) (n1 : w ≠ blkW) (n2 : w ≠ globW) (n3 : w ≠ endW) (h : w = sectW) (hy : isM (nmT l b).2.1 [44] = false) : FnA Tryz.prog 65 false [.ptr 0 [] 2 0 0, .str w] (prO l b) (LiPR (sctI (nmT l b))) := by
 have q0 : (w == [46, 119, 111, 114, 100]) = false := beq_eq_false_iff_ne.2 n0
 have q0' : (w = [46, 119, 111, 114, 100]) = False := eq_false n0
 have q1 : (w == [46, 98, 108, 107, 119]) = false := beq_eq_false_iff_ne.2 n1
 have q1' : (w = [46, 98, 108, 107, 119]) = False := eq_false n1
 have q2 : (w == [46, 103, 108, 111, 98, 108]) = false := beq_eq_false_iff_ne.2 n2
 have q2' : (w = [46, 103, 108, 111, 98, 108]) = False := eq_false n2
 have q3 : (w == [46, 101, 110, 100]) = false := beq_eq_false_iff_ne.2 n3
 have q3' : (w = [46, 101, 110, 100]) = False := eq_false n3
 have q4 : (w == [46, 115, 101, 99, 116]) = true := by rw [h]; rfl
 have q4' : (w = [46, 115, 101, 99, 116]) = True := eq_true h
 have hN := pName_ok l b (by omega)
 have ln := nm_len l b
 unfold sctI
 generalize nmT l b = A at *
 have hT := pTake_ok A.2.1 A.2.2 [44] (by omega)
 rw [hy] at hT ⊢
 simp only [Bool.false_eq_true, if_false]
 generalize tkL A.2.1 [44] = l3 at *
 obtain ⟨n, l2, b2⟩ := A
 simp only at *
 refine FnA.of Tryz.func65 rfl (by decide) Tryz.ntmps65 (by simp [prO]) ?_
 unfold LiPR prO at *
 try unfold lnV at *
 try unfold azV at *
 try unfold nothE at *
 simp only [lineR, lineO] at *
 refine auto11_ 8 [9] @q0 @q0' @q1 @q1' @q2 @q2' @q3 @q3' @q4 @q4' @q4' ?_
 refine call_ (ps := [0]) (rid := 16) rfl rfl rfl rfl rfl (hN) ?_
 refine cr_ ?_
 refine auto0_ 8 [] ?_
 refine call_ (ps := [0]) (rid := 16) rfl rfl rfl rfl rfl (hT) ?_
 refine cr_ ?_
 refine auto0_ 8 [] ?_
 refine rv_ ?_
 refine vdet_ 1280 [] 0 8 100 ?_
 refine vdet_ 1280 [] 0 14 101 ?_
 refine vdet_ 1280 [] 0 16 102 ?_
 exact RetV.mk 3 rfl rfl (by omega) rfl (by simp [noBoO, noBo, noBoL, noBo_exprs]) rfl ⟨rfl, rfl, rfl⟩
set_option maxHeartbeats 16000000 in
theorem pDot_5 (l : List TokV) (b : Bool) (hl : l.length ≤ 1048576) (w : Str) (n0 : w ≠ wordW) (n1 : w ≠ blkW) (n2 : w ≠ globW) (n3 : w ≠ endW) (n4 : w ≠ sectW) : FnA Tryz.prog 65 false [.ptr 0 [] 2 0 0, .str w] (prO l b) (LiPR (lnV 0 [] 0 azV azV 0 [], l, true)) := by
 have q0 : (w == [46, 119, 111, 114, 100]) = false := beq_eq_false_iff_ne.2 n0
 have q0' : (w = [46, 119, 111, 114, 100]) = False := eq_false n0
 have q1 : (w == [46, 98, 108, 107, 119]) = false := beq_eq_false_iff_ne.2 n1
 have q1' : (w = [46, 98, 108, 107, 119]) = False := eq_false n1
 have q2 : (w == [46, 103, 108, 111, 98, 108]) = false := beq_eq_false_iff_ne.2 n2
 have q2' : (w = [46, 103, 108, 111, 98, 108]) = False := eq_false n2
 have q3 : (w == [46, 101, 110, 100]) = false := beq_eq_false_iff_ne.2 n3
 have q3' : (w = [46, 101, 110, 100]) = False := eq_false n3
 have q4 : (w == [46, 115, 101, 99, 116]) = false := beq_eq_false_iff_ne.2 n4
 have q4' : (w = [46, 115, 101, 99, 116]) = False := eq_false n4
 refine FnA.of Tryz.func65 rfl (by decide) Tryz.ntmps65 (by simp [prO]) ?_
 unfold LiPR prO at *
 try unfold lnV at *
 try unfold azV at *
 try unfold nothE at *
 simp only [lineR, lineO] at *
 refine auto11_ 8 [9] @q0 @q0' @q1 @q1' @q2 @q2' @q3 @q3' @q4 @q4' @q4' ?_
 refine rv_ ?_
 refine vdet_ 1280 [] 0 8 100 ?_
 refine vdet_ 1280 [] 0 14 101 ?_
 refine vdet_ 1280 [] 0 16 102 ?_
 exact RetV.mk 3 rfl rfl (by omega) rfl (by simp [noBoO, noBo, noBoL, noBo_exprs]) rfl ⟨rfl, rfl, rfl⟩
theorem pDot_ok (l : List TokV) (b : Bool) (hl : l.length ≤ 1048576) (w : Str) : FnA Tryz.prog 65 false [.ptr 0 [] 2 0 0, .str w] (prO l b) (LiPR (dotI w l b)) := by
 unfold dotI
 by_cases n0 : w = wordW
 ·rw [if_pos n0]; exact pDot_0 l b hl w n0
 rw [if_neg n0]
 by_cases n1 : w = blkW
 ·rw [if_pos n1]; exact pDot_1 l b hl w n0 n1
 rw [if_neg n1]
 by_cases n2 : w = globW
 ·rw [if_pos n2]; exact pDot_2 l b hl w n0 n1 n2
 rw [if_neg n2]
 by_cases n3 : w = endW
 ·rw [if_pos n3]; exact pDot_3 l b hl w n0 n1 n2 n3
 rw [if_neg n3]
 by_cases n4 : w = sectW
 ·rw [if_pos n4]
  cases hy : isM (nmT l b).2.1 [44] with
  | true => exact pDot_4true l b hl w n0 n1 n2 n3 n4 hy
  | false => exact pDot_4false l b hl w n0 n1 n2 n3 n4 hy
 rw [if_neg n4]
 exact pDot_5 l b hl w n0 n1 n2 n3 n4
set_option maxHeartbeats 16000000 in
theorem pLine_dot (l : List TokV) (b : Bool) (hl : l.length ≤ 1048576) (hne : l ≠ []) (h : (nxT l b).1.k = 3) : FnA Tryz.prog 35 false [.ptr 0 [] 2 0 0] (prO l b) (LiPR (dotI (nxT l b).1.s (nxT l b).2.1 (nxT l b).2.2)) := by
 have q0 : (((l.length : Nat) : Int) == 0) = false := beq_eq_false_iff_ne.2 (by have := List.length_pos_iff.2 hne; omega)
 have q00 : (((l.length : Nat) : Int) = 0) = False := eq_false (by have := List.length_pos_iff.2 hne; omega)
 have hN := pNext_ok l b (by omega)
 have ln := nxT_len l b
 generalize nxT l b = T at *
 obtain ⟨⟨k, n, s⟩, l1, b1⟩ := T
 simp only [tokA] at *
 subst h
 have hA := pDot_ok l1 b1 (by omega) s
 generalize dotI s l1 b1 = A at *
 obtain ⟨⟨kk, ss, oo, sf, sr, sk, sn, st, sl, df, dr, dk, dn, dt, dl, nn, ll⟩, l4, b4⟩ := A
 refine FnA.of Tryz.func35 rfl (by decide) Tryz.ntmps35 (by simp [prO]) ?_
 unfold LiPR prO at *
 try unfold lnV at *
 try unfold azV at *
 try unfold nothE at *
 simp only [lineR, lineO] at *
 refine auto3_ 7 [] @q0 @q00 @toksA_len ?_
 refine call_ (ps := [0]) (rid := 16) rfl rfl rfl rfl rfl (hN) ?_
 refine cr_ ?_
 refine auto0_ 7 [17] ?_
 refine call_ (ps := [0]) (rid := 6144) rfl rfl rfl rfl rfl (hA) ?_
 refine cr_ ?_
 refine run_ ?_
 refine rv_ ?_
 refine vdet_ 768 [] 0 8 100 ?_
 refine vdet_ 768 [] 0 14 101 ?_
 refine vdet_ 768 [] 0 16 102 ?_
 exact RetV.mk 3 rfl rfl (by omega) rfl (by simp [noBoO, noBo, noBoL, noBo_exprs]) rfl ⟨rfl, rfl, rfl⟩
set_option maxHeartbeats 16000000 in
theorem pLine_lab (l : List TokV) (b : Bool) (hl : l.length ≤ 1048576) (hne : l ≠ []) (h : (nxT l b).1.k = 1) (hy : isM (nxT l b).2.1 [58] = true) : FnA Tryz.prog 35 false [.ptr 0 [] 2 0 0] (prO l b) (LiPR (lnV 1 (nxT l b).1.s 0 azV azV 0 [], tkL (nxT l b).2.1 [58], (nxT l b).2.2)) := by
 have q0 : (((l.length : Nat) : Int) == 0) = false := beq_eq_false_iff_ne.2 (by have := List.length_pos_iff.2 hne; omega)
 have q00 : (((l.length : Nat) : Int) = 0) = False := eq_false (by have := List.length_pos_iff.2 hne; omega)
 have hN := pNext_ok l b (by omega)
 have ln := nxT_len l b
 generalize nxT l b = T at *
 obtain ⟨⟨k, n, s⟩, l1, b1⟩ := T
 simp only [tokA] at *
 subst h
 have hT := pTake_ok l1 b1 [58] (by omega)
 rw [hy] at hT
 generalize tkL l1 [58] = l2 at *
 refine FnA.of Tryz.func35 rfl (by decide) Tryz.ntmps35 (by simp [prO]) ?_
 unfold LiPR prO at *
 try unfold lnV at *
 try unfold azV at *
 try unfold nothE at *
 simp only [lineR, lineO] at *
 refine auto3_ 7 [] @q0 @q00 @toksA_len ?_
 refine call_ (ps := [0]) (rid := 16) rfl rfl rfl rfl rfl (hN) ?_
 refine cr_ ?_
 refine auto0_ 7 [17] ?_
 refine call_ (ps := [0]) (rid := 16) rfl rfl rfl rfl rfl (hT) ?_
 refine cr_ ?_
 refine auto0_ 7 [17] ?_
 refine rv_ ?_
 refine vdet_ 768 [] 0 8 100 ?_
 refine vdet_ 768 [] 0 14 101 ?_
 refine vdet_ 768 [] 0 16 102 ?_
 exact RetV.mk 3 rfl rfl (by omega) rfl (by simp [noBoO, noBo, noBoL, noBo_exprs]) rfl ⟨rfl, rfl, rfl⟩
set_option maxHeartbeats 16000000 in
theorem pLine_set (l : List TokV) (b : Bool) (hl : l.length ≤ 1048576) (hne : l ≠ []) (h : (nxT l b).1.k = 1) (hy : isM (nxT l b).2.1 [58] = false) : FnA Tryz.prog 35 false [.ptr 0 [] 2 0 0] (prO l b) (LiPR (mpI (fun e => lnV 2 (nxT l b).1.s 0 azV azV 0 [e]) (exI 6 (tkL (tkL (nxT l b).2.1 [58]) [61]) ((nxT l b).2.2 || !isM (tkL (nxT l b).2.1 [58]) [61])))) := by
 have q0 : (((l.length : Nat) : Int) == 0) = false := beq_eq_false_iff_ne.2 (by have := List.length_pos_iff.2 hne; omega)
 have q00 : (((l.length : Nat) : Int) = 0) = False := eq_false (by have := List.length_pos_iff.2 hne; omega)
 have hN := pNext_ok l b (by omega)
 have ln := nxT_len l b
 generalize nxT l b = T at *
 obtain ⟨⟨k, n, s⟩, l1, b1⟩ := T
 simp only [tokA] at *
 subst h
 have hT := pTake_ok l1 b1 [58] (by omega)
 rw [hy] at hT
 have lt := tkL_len l1 [58]
 generalize tkL l1 [58] = l2 at *
 have hW := pWant_ok l2 b1 [61] (by omega)
 have lw := tkL_len l2 [61]
 have hE := pExpr_ok 6 (by omega) (tkL l2 [61]) (b1 || !isM l2 [61]) (by omega)
 generalize (b1 || !isM l2 [61]) = b3 at *
 generalize tkL l2 [61] = l3 at *
 unfold mpI
 generalize exI 6 l3 b3 = E at *
 obtain ⟨⟨ka, na, sa, xa⟩, l4, b4⟩ := E
 unfold ExPR exprR at hE
 simp only at hE ⊢
 refine FnA.of Tryz.func35 rfl (by decide) Tryz.ntmps35 (by simp [prO]) ?_
 unfold LiPR prO at *
 try unfold lnV at *
 try unfold azV at *
 try unfold nothE at *
 simp only [lineR, lineO] at *
 refine auto3_ 7 [] @q0 @q00 @toksA_len ?_
 refine call_ (ps := [0]) (rid := 16) rfl rfl rfl rfl rfl (hN) ?_
 refine cr_ ?_
 refine auto0_ 7 [17] ?_
 refine call_ (ps := [0]) (rid := 16) rfl rfl rfl rfl rfl (hT) ?_
 refine cr_ ?_
 refine auto0_ 7 [17] ?_
 refine call_ (ps := [0]) (rid := 16) rfl rfl rfl rfl rfl (hW) ?_
 refine cr_ ?_
 refine auto0_ 7 [17] ?_
 refine call_ (ps := [0]) (rid := 9216) rfl rfl rfl rfl rfl (hE) ?_
 refine cr_ ?_
 refine run_ ?_
 refine rv_ ?_
 refine vdet_ 768 [] 0 8 100 ?_
 refine vdet_ 768 [] 0 14 101 ?_
 refine vdet_ 768 [] 0 16 102 ?_
 exact RetV.mk 3 rfl rfl (by omega) rfl (by simp [noBoO, noBo, noBoL, noBo_exprs]) rfl ⟨rfl, rfl, rfl⟩
set_option maxHeartbeats 16000000 in
theorem pLine_ins (l : List TokV) (b : Bool) (hl : l.length ≤ 1048576) (hne : l ≠ []) (h : (nxT l b).1.k = 5) (hv : 0 < 1 + atI opW (nxT l b).1.s 0) : FnA Tryz.prog 35 false [.ptr 0 [] 2 0 0] (prO l b) (LiPR (insI (1 + atI opW (nxT l b).1.s 0) (nxT l b).2.1 (nxT l b).2.2)) := by
 have q0 : (((l.length : Nat) : Int) == 0) = false := beq_eq_false_iff_ne.2 (by have := List.length_pos_iff.2 hne; omega)
 have q00 : (((l.length : Nat) : Int) = 0) = False := eq_false (by have := List.length_pos_iff.2 hne; omega)
 have hN := pNext_ok l b (by omega)
 have ln := nxT_len l b
 generalize nxT l b = T at *
 obtain ⟨⟨k, n, s⟩, l1, b1⟩ := T
 simp only [tokA] at *
 subst h
 have hO := opWords_ok
 have hP := placeIn_ok opW s (by decide)
 have hb := atI_cases opW s 0 (by omega)
 have hbl : opW.length = 23 := rfl
 generalize atI opW s 0 = v at *
 have hw1 : IntKind.i64.wrap (1 + v) = 1 + v := wrap_id (by omega) (by omega)
 generalize opW = W at *
 have qv : decide (0 < 1 + v) = true := decide_eq_true hv
 have qv' : (0 < 1 + v) = True := eq_true hv
 have hA := pIns_ok l1 b1 (by omega) (1 + v)
 generalize insI (1 + v) l1 b1 = A at *
 obtain ⟨⟨kk, ss, oo, sf, sr, sk, sn, st, sl, df, dr, dk, dn, dt, dl, nn, ll⟩, l4, b4⟩ := A
 refine FnA.of Tryz.func35 rfl (by decide) Tryz.ntmps35 (by simp [prO]) ?_
 unfold LiPR prO at *
 try unfold lnV at *
 try unfold azV at *
 try unfold nothE at *
 simp only [lineR, lineO] at *
 refine auto3_ 7 [] @q0 @q00 @toksA_len ?_
 refine call_ (ps := [0]) (rid := 16) rfl rfl rfl rfl rfl (hN) ?_
 refine cr_ ?_
 refine auto0_ 7 [17] ?_
 refine RunsA.dag (Ω := Unit) mixed () [(1, [(0, 0)]), (2, [(0, 1)]), (3, [(1, 1), (2, 0)]), (6, [(2, 2)]), (7, [(3, 2), (6, 0)]), (15, [(7, 3)]), (31, [(15, 4)]), (63, [(31, 5)])] (by kernel_rfl) ?_
 repeat
  (apply DagP.step
   ·repeat
     (apply EdgesP.cons rfl rfl
      ·intro ω
       refine cgo2_ @brw_strs @hw1 ?_
       first
        | (refine RunsL.nil ?_; first | exact ⟨ω, LeS.refl _⟩ | exact ⟨ω, les_⟩)
        | (refine call_ (ps := []) (rid := 11264) (hy := by simp only [go_sem, Nat.reduceEqDiff, brw_strs, hw1]; first | done | rfl) rfl rfl rfl rfl rfl (hO) ?_
           refine cro2_ @brw_strs @hw1 ?_
           first | exact ⟨ω, LeS.refl _⟩ | exact ⟨ω, les_⟩)
        | (refine call_ (ps := []) (rid := 16) (hy := by simp only [go_sem, Nat.reduceEqDiff, brw_strs, hw1]; first | done | rfl) rfl rfl rfl rfl rfl (hP) ?_
           refine cro2_ @brw_strs @hw1 ?_
           first | exact ⟨ω, LeS.refl _⟩ | exact ⟨ω, les_⟩))
    exact EdgesP.nil)
 refine DagP.done fun ω => ?_
 refine auto2_ 7 [17] @qv @qv' ?_
 refine call_ (ps := [0]) (rid := 13568) rfl rfl rfl rfl rfl (hA) ?_
 refine cr_ ?_
 refine run_ ?_
 refine rv_ ?_
 refine vdet_ 768 [] 0 8 100 ?_
 refine vdet_ 768 [] 0 14 101 ?_
 refine vdet_ 768 [] 0 16 102 ?_
 exact RetV.mk 3 rfl rfl (by omega) rfl (by simp [noBoO, noBo, noBoL, noBo_exprs]) rfl ⟨rfl, rfl, rfl⟩
set_option maxHeartbeats 16000000 in
theorem pLine_bad5 (l : List TokV) (b : Bool) (hl : l.length ≤ 1048576) (hne : l ≠ []) (h : (nxT l b).1.k = 5) (hv : ¬ 0 < 1 + atI opW (nxT l b).1.s 0) : FnA Tryz.prog 35 false [.ptr 0 [] 2 0 0] (prO l b) (LiPR (lnV 0 [] 0 azV azV 0 [], (nxT l b).2.1, true)) := by
 have q0 : (((l.length : Nat) : Int) == 0) = false := beq_eq_false_iff_ne.2 (by have := List.length_pos_iff.2 hne; omega)
 have q00 : (((l.length : Nat) : Int) = 0) = False := eq_false (by have := List.length_pos_iff.2 hne; omega)
 have hN := pNext_ok l b (by omega)
 have ln := nxT_len l b
 generalize nxT l b = T at *
 obtain ⟨⟨k, n, s⟩, l1, b1⟩ := T
 simp only [tokA] at *
 subst h
 have hO := opWords_ok
 have hP := placeIn_ok opW s (by decide)
 have hb := atI_cases opW s 0 (by omega)
 have hbl : opW.length = 23 := rfl
 generalize atI opW s 0 = v at *
 have hw1 : IntKind.i64.wrap (1 + v) = 1 + v := wrap_id (by omega) (by omega)
 generalize opW = W at *
 have qv : decide (0 < 1 + v) = false := decide_eq_false hv
 have qv' : (0 < 1 + v) = False := eq_false hv
 refine FnA.of Tryz.func35 rfl (by decide) Tryz.ntmps35 (by simp [prO]) ?_
 unfold LiPR prO at *
 try unfold lnV at *
 try unfold azV at *
 try unfold nothE at *
 simp only [lineR, lineO] at *
 refine auto3_ 7 [] @q0 @q00 @toksA_len ?_
 refine call_ (ps := [0]) (rid := 16) rfl rfl rfl rfl rfl (hN) ?_
 refine cr_ ?_
 refine auto0_ 7 [17] ?_
 refine RunsA.dag (Ω := Unit) mixed () [(1, [(0, 0)]), (2, [(0, 1)]), (3, [(1, 1), (2, 0)]), (6, [(2, 2)]), (7, [(3, 2), (6, 0)]), (15, [(7, 3)]), (31, [(15, 4)]), (63, [(31, 5)])] (by kernel_rfl) ?_
 repeat
  (apply DagP.step
   ·repeat
     (apply EdgesP.cons rfl rfl
      ·intro ω
       refine cgo2_ @brw_strs @hw1 ?_
       first
        | (refine RunsL.nil ?_; first | exact ⟨ω, LeS.refl _⟩ | exact ⟨ω, les_⟩)
        | (refine call_ (ps := []) (rid := 11264) (hy := by simp only [go_sem, Nat.reduceEqDiff, brw_strs, hw1]; first | done | rfl) rfl rfl rfl rfl rfl (hO) ?_
           refine cro2_ @brw_strs @hw1 ?_
           first | exact ⟨ω, LeS.refl _⟩ | exact ⟨ω, les_⟩)
        | (refine call_ (ps := []) (rid := 16) (hy := by simp only [go_sem, Nat.reduceEqDiff, brw_strs, hw1]; first | done | rfl) rfl rfl rfl rfl rfl (hP) ?_
           refine cro2_ @brw_strs @hw1 ?_
           first | exact ⟨ω, LeS.refl _⟩ | exact ⟨ω, les_⟩))
    exact EdgesP.nil)
 refine DagP.done fun ω => ?_
 refine auto2_ 7 [17] @qv @qv' ?_
 refine rv_ ?_
 refine vdet_ 768 [] 0 8 100 ?_
 refine vdet_ 768 [] 0 14 101 ?_
 refine vdet_ 768 [] 0 16 102 ?_
 exact RetV.mk 3 rfl rfl (by omega) rfl (by simp [noBoO, noBo, noBoL, noBo_exprs]) rfl ⟨rfl, rfl, rfl⟩
set_option maxHeartbeats 16000000 in
theorem pLine_bad (l : List TokV) (b : Bool) (hl : l.length ≤ 1048576) (hne : l ≠ []) (h3 : (nxT l b).1.k ≠ 3) (h1 : (nxT l b).1.k ≠ 1) (h5 : (nxT l b).1.k ≠ 5) : FnA Tryz.prog 35 false [.ptr 0 [] 2 0 0] (prO l b) (LiPR (lnV 0 [] 0 azV azV 0 [], (nxT l b).2.1, true)) := by
 have q0 : (((l.length : Nat) : Int) == 0) = false := beq_eq_false_iff_ne.2 (by have := List.length_pos_iff.2 hne; omega)
 have q00 : (((l.length : Nat) : Int) = 0) = False := eq_false (by have := List.length_pos_iff.2 hne; omega)
 have hN := pNext_ok l b (by omega)
 have ln := nxT_len l b
 generalize nxT l b = T at *
 obtain ⟨⟨k, n, s⟩, l1, b1⟩ := T
 simp only [tokA] at *
 have e3 : (k == 3) = false := beq_eq_false_iff_ne.2 (by omega)
 have e3' : (k = 3) = False := eq_false (by omega)
 have e1 : (k == 1) = false := beq_eq_false_iff_ne.2 (by omega)
 have e1' : (k = 1) = False := eq_false (by omega)
 have e5 : (k == 5) = false := beq_eq_false_iff_ne.2 (by omega)
 have e5' : (k = 5) = False := eq_false (by omega)
 refine FnA.of Tryz.func35 rfl (by decide) Tryz.ntmps35 (by simp [prO]) ?_
 unfold LiPR prO at *
 try unfold lnV at *
 try unfold azV at *
 try unfold nothE at *
 simp only [lineR, lineO] at *
 refine auto3_ 7 [] @q0 @q00 @toksA_len ?_
 refine call_ (ps := [0]) (rid := 16) rfl rfl rfl rfl rfl (hN) ?_
 refine cr_ ?_
 refine auto6_ 7 [17] @e3 @e3' @e1 @e1' @e5 @e5' ?_
 refine rv_ ?_
 refine vdet_ 768 [] 0 8 100 ?_
 refine vdet_ 768 [] 0 14 101 ?_
 refine vdet_ 768 [] 0 16 102 ?_
 exact RetV.mk 3 rfl rfl (by omega) rfl (by simp [noBoO, noBo, noBoL, noBo_exprs]) rfl ⟨rfl, rfl, rfl⟩
set_option maxHeartbeats 16000000 in
theorem pLine_nil (b : Bool) : FnA Tryz.prog 35 false [.ptr 0 [] 2 0 0] (prO [] b) (LiPR (lnV 0 [] 0 azV azV 0 [], [], b)) := by
 have e0 : toksA ([] : List TokV) = [] := rfl
 refine FnA.of Tryz.func35 rfl (by decide) Tryz.ntmps35 (by simp [prO]) ?_
 unfold LiPR prO at *
 try unfold lnV at *
 try unfold azV at *
 try unfold nothE at *
 simp only [lineR, lineO] at *
 repeat' (first | refine ⟨by omega, ?_⟩ | (refine hJ _ _ (RunsL.nil ?_); clear hJ J) | refine RunsA.cond rfl (fun h => ?_) (fun h => absurd h (by decide)) | refine RunsA.cond rfl (fun h => absurd h (by decide)) (fun h => ?_) | (refine step_ ?_) | (refine RunsA.rk 7 [] tabOk fun J hJ => ?_; simp only [go_sem, ↓reduceIte, Nat.reduceAdd, Nat.reduceSub, Nat.reduceMul, Nat.reduceLT, Nat.reduceLeDiff, Nat.reduceEqDiff, Nat.reduceBEq, Int.reduceToNat, e0, List.length_nil, Int.reduceBEq]; try simp (disch := omega) only [wrap_id]) | simp only [↓reduceIte, not_false_eq_true, e0, List.length_nil, Int.reduceBEq])
 refine rv_ ?_
 refine vdet_ 768 [] 0 8 100 ?_
 refine vdet_ 768 [] 0 14 101 ?_
 refine vdet_ 768 [] 0 16 102 ?_
 exact RetV.mk 3 rfl rfl (by omega) rfl (by simp [noBoO, noBo, noBoL, noBo_exprs]) rfl ⟨rfl, rfl, rfl⟩
theorem pLine_ok (l : List TokV) (b : Bool) (hl : l.length ≤ 1048576) : FnA Tryz.prog 35 false [.ptr 0 [] 2 0 0] (prO l b) (LiPR (lineI l b)) := by
 unfold lineI
 by_cases hne : l = []
 ·rw [if_pos hne, hne]; exact pLine_nil b
 rw [if_neg hne]
 unfold lineI2
 by_cases h3 : (nxT l b).1.k = 3
 ·rw [if_pos h3]; exact pLine_dot l b hl hne h3
 rw [if_neg h3]
 by_cases h1 : (nxT l b).1.k = 1
 ·rw [if_pos h1]
  unfold namI
  cases hy : isM (nxT l b).2.1 [58] with
  | true => rw [if_pos rfl]; exact pLine_lab l b hl hne h1 hy
  | false => rw [if_neg (by simp)]; exact pLine_set l b hl hne h1 hy
 rw [if_neg h1]
 by_cases h5 : (nxT l b).1.k = 5
 ·by_cases hv : 0 < 1 + atI opW (nxT l b).1.s 0
  ·rw [if_pos ⟨h5, hv⟩]; exact pLine_ins l b hl hne h5 hv
  ·rw [if_neg (fun h => hv h.2)]; exact pLine_bad5 l b hl hne h5 hv
 ·rw [if_neg (fun h => h5 h.1)]; exact pLine_bad l b hl hne h3 h1 h5
end Go.Proofs.YtiilnlihimdnlaaGreatDoorFw
