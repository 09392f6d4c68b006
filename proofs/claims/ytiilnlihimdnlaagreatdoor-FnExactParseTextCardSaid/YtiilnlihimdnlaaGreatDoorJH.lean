/- Operands out of tokens: the program's walk. -/
import Derived.Test.YtiilnlihimdnlaaGreatDoorJG
namespace Go.Proofs.YtiilnlihimdnlaaGreatDoorFw
open Go Go.RowKit
set_option linter.unusedVariables false
set_option linter.unusedSimpArgs false
set_option maxRecDepth 4000
set_option maxHeartbeats 4000000 in
theorem pReg_ok (l : List TokV) (b : Bool) (hl : l.length ≤ 1048576) : FnA Tryz.prog 112 false [.ptr 0 [] 2 0 0] (prO l b)
 (fun r os ros => r = .int .i64 (regI l b).1 ∧ os = prO (regI l b).2.1 (regI l b).2.2 ∧ ros = []) := by
 have hN := pNext_ok l b (by omega)
 unfold regI
 generalize nxT l b = T at *
 obtain ⟨⟨k, n, s⟩, l1, b1⟩ := T
 simp only [tokA] at hN
 unfold regI2
 simp only
 have hR := regWords_ok
 have hP := placeIn_ok regW s (by decide)
 obtain ⟨V, hV⟩ : ∃ V, atI regW s 0 = V := ⟨_, rfl⟩
 rw [hV] at hP ⊢
 generalize regW = W at *
 refine FnA.of Tryz.func112 rfl (by decide) Tryz.ntmps112 (by simp [prO]) ?_
 unfold prO at *
 by_cases c : k = 5
 ·have q5 : (k != 5) = false := by simp [c]
  have q5' : (k = 5) = True := eq_true c
  by_cases cv : V < 0
  ·rw [if_pos (.inr cv)]
   have qv : decide (V < 0) = true := decide_eq_true cv
   refine run_ ?_
   refine rg_ ?_
   refine call_ (ps := [0]) (rid := 16) rfl rfl rfl rfl rfl (hN) ?_
   refine cr_ ?_
   refine run_ ?_
   refine RunsA.dag (Ω := Unit) mixed () [(1, [(0, 0)]), (2, [(0, 1)]), (3, [(1, 1), (2, 0)]), (6, [(2, 2)]), (7, [(3, 2), (6, 0)]), (15, [(7, 3)]), (31, [(15, 4)])] (by kernel_rfl) ?_
   repeat
    (apply DagP.step
     ·repeat
       (apply EdgesP.cons rfl rfl
        ·intro ω
         refine cgo1_ @brw_strs ?_
         first
          | (refine RunsL.nil ?_; first | exact ⟨ω, LeS.refl _⟩ | exact ⟨ω, les_⟩)
          | (refine call_ (ps := []) (rid := 2048) (hy := by simp only [go_sem, Nat.reduceEqDiff, brw_strs]; first | done | rfl) rfl rfl rfl rfl rfl (hR) ?_
             refine cro1_ @brw_strs ?_
             first | exact ⟨ω, LeS.refl _⟩ | exact ⟨ω, les_⟩)
          | (refine call_ (ps := []) (rid := 16) (hy := by simp only [go_sem, Nat.reduceEqDiff, brw_strs]; first | done | rfl) rfl rfl rfl rfl rfl (hP) ?_
             refine cro1_ @brw_strs ?_
             first | exact ⟨ω, LeS.refl _⟩ | exact ⟨ω, les_⟩))
      exact EdgesP.nil)
   refine DagP.done fun ω => ?_
   refine auto3_ 5 [] @q5 @q5' @qv ?_
   exact RetA.mk tabOk 0 rfl rfl rfl (by omega) rfl rfl rfl ⟨rfl, rfl, rfl⟩
  ·rw [if_neg (fun h => h.elim (fun h => h c) cv)]
   have qv : decide (V < 0) = false := decide_eq_false cv
   refine run_ ?_
   refine rg_ ?_
   refine call_ (ps := [0]) (rid := 16) rfl rfl rfl rfl rfl (hN) ?_
   refine cr_ ?_
   refine run_ ?_
   refine RunsA.dag (Ω := Unit) mixed () [(1, [(0, 0)]), (2, [(0, 1)]), (3, [(1, 1), (2, 0)]), (6, [(2, 2)]), (7, [(3, 2), (6, 0)]), (15, [(7, 3)]), (31, [(15, 4)])] (by kernel_rfl) ?_
   repeat
    (apply DagP.step
     ·repeat
       (apply EdgesP.cons rfl rfl
        ·intro ω
         refine cgo1_ @brw_strs ?_
         first
          | (refine RunsL.nil ?_; first | exact ⟨ω, LeS.refl _⟩ | exact ⟨ω, les_⟩)
          | (refine call_ (ps := []) (rid := 2048) (hy := by simp only [go_sem, Nat.reduceEqDiff, brw_strs]; first | done | rfl) rfl rfl rfl rfl rfl (hR) ?_
             refine cro1_ @brw_strs ?_
             first | exact ⟨ω, LeS.refl _⟩ | exact ⟨ω, les_⟩)
          | (refine call_ (ps := []) (rid := 16) (hy := by simp only [go_sem, Nat.reduceEqDiff, brw_strs]; first | done | rfl) rfl rfl rfl rfl rfl (hP) ?_
             refine cro1_ @brw_strs ?_
             first | exact ⟨ω, LeS.refl _⟩ | exact ⟨ω, les_⟩))
      exact EdgesP.nil)
   refine DagP.done fun ω => ?_
   refine auto3_ 5 [] @q5 @q5' @qv ?_
   exact RetA.mk tabOk 0 rfl rfl rfl (by omega) rfl rfl rfl ⟨rfl, rfl, rfl⟩
 ·rw [if_pos (.inl c)]
  have q5 : (k != 5) = true := by simp [c]
  have q5' : (k = 5) = False := eq_false c
  refine run_ ?_
  refine rg_ ?_
  refine call_ (ps := [0]) (rid := 16) rfl rfl rfl rfl rfl (hN) ?_
  refine cr_ ?_
  refine run_ ?_
  refine RunsA.dag (Ω := Unit) mixed () [(1, [(0, 0)]), (2, [(0, 1)]), (3, [(1, 1), (2, 0)]), (6, [(2, 2)]), (7, [(3, 2), (6, 0)]), (15, [(7, 3)]), (31, [(15, 4)])] (by kernel_rfl) ?_
  repeat
   (apply DagP.step
    ·repeat
      (apply EdgesP.cons rfl rfl
       ·intro ω
        refine cgo1_ @brw_strs ?_
        first
         | (refine RunsL.nil ?_; first | exact ⟨ω, LeS.refl _⟩ | exact ⟨ω, les_⟩)
         | (refine call_ (ps := []) (rid := 2048) (hy := by simp only [go_sem, Nat.reduceEqDiff, brw_strs]; first | done | rfl) rfl rfl rfl rfl rfl (hR) ?_
            refine cro1_ @brw_strs ?_
            first | exact ⟨ω, LeS.refl _⟩ | exact ⟨ω, les_⟩)
         | (refine call_ (ps := []) (rid := 16) (hy := by simp only [go_sem, Nat.reduceEqDiff, brw_strs]; first | done | rfl) rfl rfl rfl rfl rfl (hP) ?_
            refine cro1_ @brw_strs ?_
            first | exact ⟨ω, LeS.refl _⟩ | exact ⟨ω, les_⟩))
     exact EdgesP.nil)
  refine DagP.done fun ω => ?_
  refine auto2_ 5 [] @q5 @q5' ?_
  exact RetA.mk tabOk 0 rfl rfl rfl (by omega) rfl rfl rfl ⟨rfl, rfl, rfl⟩
theorem pInB_ok (l : List TokV) (b : Bool) (hl : l.length ≤ 1048576) : FnA Tryz.prog 136 false [.ptr 0 [] 2 0 0] (prO l b)
 (fun r os ros => r = .int .i64 (inbI l b).1 ∧ os = prO (inbI l b).2.1 (inbI l b).2.2 ∧ ros = []) := by
 have hW := pWant_ok l b [40] (by omega)
 have l1 := tkL_len l [40]
 have hR := pReg_ok (tkL l [40]) (b || !isM l [40]) (by omega)
 have l2 := reg_len (tkL l [40]) (b || !isM l [40])
 unfold inbI inbI2
 generalize regI (tkL l [40]) (b || !isM l [40]) = R at *
 have hW2 := pWant_ok R.2.1 R.2.2 [41] (by omega)
 generalize (b || !isM l [40]) = b1 at *
 generalize tkL l [40] = l1 at *
 obtain ⟨n, l3, b3⟩ := R
 simp only at *
 generalize (b3 || !isM l3 [41]) = b4 at *
 generalize tkL l3 [41] = l4 at *
 refine FnA.of Tryz.func136 rfl (by decide) Tryz.ntmps136 (by simp [prO]) ?_
 unfold prO at *
 refine run_ ?_
 refine rg_ ?_
 refine call_ (ps := [0]) (rid := 16) rfl rfl rfl rfl rfl (hW) ?_
 refine cr_ ?_
 refine run_ ?_
 refine rg_ ?_
 refine call_ (ps := [0]) (rid := 16) rfl rfl rfl rfl rfl (hR) ?_
 refine cr_ ?_
 refine run_ ?_
 refine rg_ ?_
 refine call_ (ps := [0]) (rid := 16) rfl rfl rfl rfl rfl (hW2) ?_
 refine cr_ ?_
 refine run_ ?_
 exact RetA.mk tabOk 0 rfl rfl rfl (by omega) rfl rfl rfl ⟨rfl, rfl, rfl⟩
set_option maxHeartbeats 8000000 in
theorem pCb_ok (l : List TokV) (b : Bool) (hl : l.length ≤ 1048576) : FnA Tryz.prog 135 false [.ptr 0 [] 2 0 0] (prO l b)
 (fun r os ros => r = .bool (cbI l) ∧ os = prO l b ∧ ros = []) := by
 have hM := pIsMark_ok l b [45] (by omega)
 have hm40 := markTi_ok [40]
 refine FnA.of Tryz.func135 rfl (by decide) Tryz.ntmps135 (by simp [prO]) ?_
 unfold cbI
 by_cases c : 1 < l.length
 ·have q : decide ((1 : Int) < (l.length : Nat)) = true := decide_eq_true (by omega)
  have q' : ((1 : Int) < (l.length : Nat)) = True := eq_true (by omega)
  cases hx : isM l [45] with
  | false =>
   rw [hx] at hM
   simp only [Bool.false_and]
   unfold prO at *
   refine run_ ?_
   refine RunsA.dag (Ω := Unit) mixed () [(1, [(0, 0)]), (3, [(1, 1)]), (7, [(3, 2)]), (15, [(7, 3)]), (31, [(15, 4)]), (63, [(31, 5)]), (127, [(63, 6)]), (255, [(127, 7)]), (511, [(255, 8)]), (1023, [(511, 9)]), (2047, [(1023, 10)]), (4095, [(2047, 11)]), (133119, [(2047, 17)]), (8191, [(4095, 12)]), (135167, [(4095, 17), (133119, 11)]), (16383, [(8191, 13)]), (139263, [(8191, 17), (135167, 12)]), (32767, [(16383, 14)]), (147455, [(16383, 17), (139263, 13)]), (65535, [(32767, 15)]), (163839, [(32767, 17), (147455, 14)]), (131071, [(65535, 16)]), (196607, [(65535, 17), (163839, 15)]), (262143, [(131071, 17), (196607, 16)]), (524287, [(262143, 18)]), (1048575, [(524287, 19)]), (2097151, [(1048575, 20)])] (by kernel_rfl) ?_
   repeat
    (apply DagP.step
     ·repeat
       (apply EdgesP.cons rfl rfl
        ·intro ω
         refine cgo3_ @toksA_len @q @q' ?_
         first
          | (refine RunsL.nil ?_; first | exact ⟨ω, LeS.refl _⟩ | exact ⟨ω, les_⟩)
          | (refine call_ (ps := [0]) (rid := 16) (hy := by simp only [go_sem, Nat.reduceEqDiff, toksA_len, q, q']; first | done | rfl) rfl rfl rfl rfl rfl (hM) ?_
             refine cro3_ @toksA_len @q @q' ?_
             first | exact ⟨ω, LeS.refl _⟩ | exact ⟨ω, les_⟩))
      exact EdgesP.nil)
   refine DagP.done fun ω => ?_
   refine run_ ?_
   exact RetA.mk tabOk 0 rfl rfl rfl (by omega) rfl rfl rfl ⟨rfl, rfl, rfl⟩
  | true =>
   rw [hx] at hM
   simp only [Bool.true_and]
   match l, c with
   | t0 :: ⟨k, n, s⟩ :: r, _ =>
    obtain ⟨z, hz⟩ : ∃ z, isM (t0 :: ⟨k, n, s⟩ :: r).tail [40] = z := ⟨_, rfl⟩
    rw [hz]
    have hg : (toksA (t0 :: ⟨k, n, s⟩ :: r))[1]? = some (.agg [.int .i64 k, .int .i64 n, .str s]) := rfl
    generalize hl2 : t0 :: ⟨k, n, s⟩ :: r = l2 at *
    have hz2 : scEqL [.int .i64 k, .int .i64 n, .str s] [.int .i64 4, .int .i64 0, .str [40]] = z := by rw [← hz, ← hl2]; rfl
    clear hz hl2
    unfold prO at *
    refine run_ ?_
    refine RunsA.dag (Ω := Unit) mixed () [(1, [(0, 0)]), (3, [(1, 1)]), (7, [(3, 2)]), (15, [(7, 3)]), (31, [(15, 4)]), (63, [(31, 5)]), (127, [(63, 6)]), (255, [(127, 7)]), (511, [(255, 8)]), (1023, [(511, 9)]), (2047, [(1023, 10)]), (4095, [(2047, 11)]), (133119, [(2047, 17)]), (8191, [(4095, 12)]), (135167, [(4095, 17), (133119, 11)]), (16383, [(8191, 13)]), (139263, [(8191, 17), (135167, 12)]), (32767, [(16383, 14)]), (147455, [(16383, 17), (139263, 13)]), (65535, [(32767, 15)]), (163839, [(32767, 17), (147455, 14)]), (131071, [(65535, 16)]), (196607, [(65535, 17), (163839, 15)]), (262143, [(131071, 17), (196607, 16)]), (524287, [(262143, 18)]), (1048575, [(524287, 19)]), (2097151, [(1048575, 20)])] (by kernel_rfl) ?_
    repeat
     (apply DagP.step
      ·repeat
        (apply EdgesP.cons rfl rfl
         ·intro ω
          refine cgo4_ @toksA_len @q @q' @hg ?_
          first
           | (refine RunsL.nil ?_; first | exact ⟨ω, LeS.refl _⟩ | exact ⟨ω, les_⟩)
           | (refine call_ (ps := [0]) (rid := 16) (hy := by simp only [go_sem, Nat.reduceEqDiff, toksA_len, q, q', hg]; first | done | rfl) rfl rfl rfl rfl rfl (hM) ?_
              refine cro4_ @toksA_len @q @q' @hg ?_
              first | exact ⟨ω, LeS.refl _⟩ | exact ⟨ω, les_⟩)
           | (refine call_ (ps := []) (rid := 16) (hy := by simp only [go_sem, Nat.reduceEqDiff, toksA_len, q, q', hg]; first | done | rfl) rfl rfl rfl rfl rfl (hm40) ?_
              refine cro4_ @toksA_len @q @q' @hg ?_
              first | exact ⟨ω, LeS.refl _⟩ | exact ⟨ω, les_⟩)
           | ((refine RunsL.eqTwo [.int .i64 k, .int .i64 n, .str s] [.int .i64 4, .int .i64 0, .str [40]] rfl rfl (by kernel_rfl) rfl rfl rfl rfl z (.inl ⟨rfl, hz2.symm⟩) ?_)
              refine cgo4_ @toksA_len @q @q' @hg ?_
              refine RunsL.nil ?_
              first | exact ⟨ω, LeS.refl _⟩ | exact ⟨ω, les_⟩))
       exact EdgesP.nil)
    refine DagP.done fun ω => ?_
    refine run_ ?_
    exact RetA.mk tabOk 0 rfl rfl rfl (by omega) rfl rfl rfl ⟨rfl, rfl, rfl⟩
 ·have q : decide ((1 : Int) < (l.length : Nat)) = false := decide_eq_false (by omega)
  have q' : ((1 : Int) < (l.length : Nat)) = False := eq_false (by omega)
  have e : (isM l [45] && isM l.tail [40]) = false := by
   match l, c with
   | [], _ => rfl
   | [t], _ => simp [isM]
   | t :: t2 :: r, h => simp at h
  rw [e]
  unfold prO at *
  refine run_ ?_
  refine RunsA.dag (Ω := Unit) mixed () [(1, [(0, 0)]), (3, [(1, 1)]), (7, [(3, 2)]), (15, [(7, 3)]), (31, [(15, 4)]), (63, [(31, 5)]), (127, [(63, 6)]), (255, [(127, 7)]), (511, [(255, 8)]), (1023, [(511, 9)]), (2047, [(1023, 10)]), (4095, [(2047, 11)]), (133119, [(2047, 17)]), (8191, [(4095, 12)]), (135167, [(4095, 17), (133119, 11)]), (16383, [(8191, 13)]), (139263, [(8191, 17), (135167, 12)]), (32767, [(16383, 14)]), (147455, [(16383, 17), (139263, 13)]), (65535, [(32767, 15)]), (163839, [(32767, 17), (147455, 14)]), (131071, [(65535, 16)]), (196607, [(65535, 17), (163839, 15)]), (262143, [(131071, 17), (196607, 16)]), (524287, [(262143, 18)]), (1048575, [(524287, 19)]), (2097151, [(1048575, 20)])] (by kernel_rfl) ?_
  repeat
   (apply DagP.step
    ·repeat
      (apply EdgesP.cons rfl rfl
       ·intro ω
        refine cgo3_ @toksA_len @q @q' ?_
        first
         | (refine RunsL.nil ?_; first | exact ⟨ω, LeS.refl _⟩ | exact ⟨ω, les_⟩))
     exact EdgesP.nil)
  refine DagP.done fun ω => ?_
  refine run_ ?_
  exact RetA.mk tabOk 0 rfl rfl rfl (by omega) rfl rfl rfl ⟨rfl, rfl, rfl⟩
end Go.Proofs.YtiilnlihimdnlaaGreatDoorFw
