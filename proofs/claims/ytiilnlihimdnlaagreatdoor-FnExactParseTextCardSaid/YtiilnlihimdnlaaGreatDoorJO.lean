/- Operands out of tokens: the reference's walk. -/
import Derived.Test.YtiilnlihimdnlaaGreatDoorJN
import Derived.Test.YtiilnlihimdnlaaGreatDoorQC
namespace Go.Proofs.YtiilnlihimdnlaaGreatDoorFw
open Go Go.RowKit
set_option linter.unusedVariables false
set_option linter.unusedSimpArgs false
set_option maxRecDepth 4000
def ArSR (L : List TokV) (V : AgV × Nat × Bool) (r : AV) (os ros : List (Nat × List AV)) : Prop := r = argR V.1 ∧ os = rdO L V.2.1 V.2.2 ∧ ros = [(4, exprsA .own V.1.e.4)]
set_option maxHeartbeats 4000000 in
theorem rReg_ok (k n : Int) (s : Str) : FnA Tryz.prog 128 false [.agg [.int .i64 k, .int .i64 n, .str s]] [] (fun r os ros => r = .int .i64 (rgS ⟨k, n, s⟩) ∧ os = [] ∧ ros = []) := by
 have hK := l9Kept_ok
 have hA := l9At_ok (opW ++ regW) s (by decide)
 have hb := atI_cases (opW ++ regW) s 0 (by omega)
 have hbl : (opW ++ regW).length = 31 := rfl
 unfold rgS
 simp only
 generalize atI (opW ++ regW) s 0 = V at *
 generalize opW ++ regW = W at *
 have hw : IntKind.i64.wrap (V - 23) = V - 23 := wrap_id (by omega) (by omega)
 refine FnA.of Tryz.func128 rfl (by decide) Tryz.ntmps128 (by simp) ?_
 by_cases c : k = 5
 ·have q5 : (k != 5) = false := by simp [c]
  have q5' : (k = 5) = True := eq_true c
  by_cases cv : V < 23
  ·rw [if_pos (.inr cv)]
   have qv : decide (V < 23) = true := decide_eq_true cv
   have qv' : (V < 23) = True := eq_true cv
   refine run_ ?_
   refine RunsA.dag (Ω := Unit) mixed () [(1, [(0, 0)]), (2, [(0, 1)]), (3, [(1, 1), (2, 0)]), (6, [(2, 2)]), (7, [(3, 2), (6, 0)]), (15, [(7, 3)]), (31, [(15, 4)])] (by kernel_rfl) ?_
   repeat
    (apply DagP.step
     ·repeat
       (apply EdgesP.cons rfl rfl
        ·intro ω
         refine cgo1_ @brw_strs ?_
         first
          | (refine RunsL.nil ?_; first | exact ⟨ω, LeS.refl _⟩ | exact ⟨ω, les_⟩)
          | (refine call_ (ps := []) (rid := 1280) (hy := by simp only [go_sem, Nat.reduceEqDiff, brw_strs]; first | done | rfl) rfl rfl rfl rfl rfl (hK) ?_
             refine cro1_ @brw_strs ?_
             first | exact ⟨ω, LeS.refl _⟩ | exact ⟨ω, les_⟩)
          | (refine call_ (ps := []) (rid := 16) (hy := by simp only [go_sem, Nat.reduceEqDiff, brw_strs]; first | done | rfl) rfl rfl rfl rfl rfl (hA) ?_
             refine cro1_ @brw_strs ?_
             first | exact ⟨ω, LeS.refl _⟩ | exact ⟨ω, les_⟩))
      exact EdgesP.nil)
   refine DagP.done fun ω => ?_
   refine auto4_ 4 [] @q5 @q5' @qv @qv' ?_
   exact RetA.mk tabOk 0 rfl rfl rfl (by omega) rfl rfl rfl ⟨rfl, rfl, rfl⟩
  ·rw [if_neg (fun h => h.elim (fun h => h c) cv)]
   have qv : decide (V < 23) = false := decide_eq_false cv
   have qv' : (V < 23) = False := eq_false cv
   refine run_ ?_
   refine RunsA.dag (Ω := Unit) mixed () [(1, [(0, 0)]), (2, [(0, 1)]), (3, [(1, 1), (2, 0)]), (6, [(2, 2)]), (7, [(3, 2), (6, 0)]), (15, [(7, 3)]), (31, [(15, 4)])] (by kernel_rfl) ?_
   repeat
    (apply DagP.step
     ·repeat
       (apply EdgesP.cons rfl rfl
        ·intro ω
         refine cgo1_ @brw_strs ?_
         first
          | (refine RunsL.nil ?_; first | exact ⟨ω, LeS.refl _⟩ | exact ⟨ω, les_⟩)
          | (refine call_ (ps := []) (rid := 1280) (hy := by simp only [go_sem, Nat.reduceEqDiff, brw_strs]; first | done | rfl) rfl rfl rfl rfl rfl (hK) ?_
             refine cro1_ @brw_strs ?_
             first | exact ⟨ω, LeS.refl _⟩ | exact ⟨ω, les_⟩)
          | (refine call_ (ps := []) (rid := 16) (hy := by simp only [go_sem, Nat.reduceEqDiff, brw_strs]; first | done | rfl) rfl rfl rfl rfl rfl (hA) ?_
             refine cro1_ @brw_strs ?_
             first | exact ⟨ω, LeS.refl _⟩ | exact ⟨ω, les_⟩))
      exact EdgesP.nil)
   refine DagP.done fun ω => ?_
   refine auto6_ 4 [] @q5 @q5' @qv @qv' @hw @hw ?_
   exact RetA.mk tabOk 0 rfl rfl rfl (by omega) rfl rfl rfl ⟨rfl, rfl, rfl⟩
 ·rw [if_pos (.inl c)]
  have q5 : (k != 5) = true := by simp [c]
  have q5' : (k = 5) = False := eq_false c
  refine run_ ?_
  refine RunsA.dag (Ω := Unit) mixed () [(1, [(0, 0)]), (2, [(0, 1)]), (3, [(1, 1), (2, 0)]), (6, [(2, 2)]), (7, [(3, 2), (6, 0)]), (15, [(7, 3)]), (31, [(15, 4)])] (by kernel_rfl) ?_
  repeat
   (apply DagP.step
    ·repeat
      (apply EdgesP.cons rfl rfl
       ·intro ω
        refine cgo1_ @brw_strs ?_
        first
         | (refine RunsL.nil ?_; first | exact ⟨ω, LeS.refl _⟩ | exact ⟨ω, les_⟩)
         | (refine call_ (ps := []) (rid := 1280) (hy := by simp only [go_sem, Nat.reduceEqDiff, brw_strs]; first | done | rfl) rfl rfl rfl rfl rfl (hK) ?_
            refine cro1_ @brw_strs ?_
            first | exact ⟨ω, LeS.refl _⟩ | exact ⟨ω, les_⟩)
         | (refine call_ (ps := []) (rid := 16) (hy := by simp only [go_sem, Nat.reduceEqDiff, brw_strs]; first | done | rfl) rfl rfl rfl rfl rfl (hA) ?_
            refine cro1_ @brw_strs ?_
            first | exact ⟨ω, LeS.refl _⟩ | exact ⟨ω, les_⟩))
     exact EdgesP.nil)
  refine DagP.done fun ω => ?_
  refine auto2_ 4 [] @q5 @q5' ?_
  exact RetA.mk tabOk 0 rfl rfl rfl (by omega) rfl rfl rfl ⟨rfl, rfl, rfl⟩
set_option maxHeartbeats 4000000 in
theorem rRound_ok (L : List TokV) (hL : L.length ≤ 1048576) (i : Nat) (b : Bool) (hi : i ≤ L.length) : FnA Tryz.prog 176 false [.ptr 0 [] 3 0 0] (rdO L i b)
 (fun r os ros => r = .int .i64 (roS L i b).1 ∧ os = rdO L (roS L i b).2.1 (roS L i b).2.2 ∧ ros = []) := by
 have hW := rMust3_ok L i b [40] hL hi
 have l1 := tkS_le b [40] hi
 unfold roS
 have hN := rNext_ok L (tkI L i b [40]) (b || !seS L i b [40]) (by omega) l1
 have l2 := nxS_le (L := L) (b || !seS L i b [40]) l1
 generalize nxS L (tkI L i b [40]) (b || !seS L i b [40]) = T at *
 generalize tkI L i b [40] = i1 at *
 generalize (b || !seS L i b [40]) = b1 at *
 obtain ⟨⟨k, n, s⟩, i2, b2⟩ := T
 simp only [tokA] at hN l2
 have hR := rReg_ok k n s
 have hW2 := rMust3_ok L i2 b2 [41] hL l2
 unfold roS2
 simp only
 generalize rgS ⟨k, n, s⟩ = v at *
 generalize tkI L i2 b2 [41] = i3 at *
 generalize (b2 || !seS L i2 b2 [41]) = b3 at *
 generalize hz : decide (v < 0) = z at *
 have hz' : (v < 0) = (z = true) := by rw [← hz]; simp
 refine FnA.of Tryz.func176 rfl (by decide) Tryz.ntmps176 (by simp [rdO]) ?_
 unfold rdO at *
 refine run_ ?_
 refine rg_ ?_
 refine call_ (ps := [0]) (rid := 16) rfl rfl rfl rfl rfl (hW) ?_
 refine cr_ ?_
 refine run_ ?_
 refine rg_ ?_
 refine call_ (ps := [0]) (rid := 16) rfl rfl rfl rfl rfl (hN) ?_
 rintro r os' ros ⟨rfl, rfl, rfl⟩ _
 refine cg_ ?_
 refine call_ (ps := []) (rid := 16) rfl rfl rfl rfl rfl (hR) ?_
 refine cr_ ?_
 refine run_ ?_
 refine rg_ ?_
 refine call_ (ps := [0]) (rid := 16) rfl rfl rfl rfl rfl (hW2) ?_
 refine cr_ ?_
 cases b3 <;> cases z
 all_goals (
  refine auto4_ 4 [] @hz @hz' @Bool.true_or @Bool.false_or ?_
  exact RetA.mk tabOk 0 rfl rfl rfl (by omega) rfl rfl rfl ⟨rfl, rfl, rfl⟩)
set_option maxHeartbeats 16000000 in
theorem rDown_ok (L : List TokV) (hL : L.length ≤ 1048576) (i : Nat) (b : Bool) (hi : i ≤ L.length) : FnA Tryz.prog 175 false [.ptr 0 [] 3 0 0] (rdO L i b)
 (fun r os ros => r = .bool (dnS L i b) ∧ os = rdO L i b ∧ ros = []) := by
 have hS := rSee_ok L i b [45] (by omega) hi
 unfold dnS
 refine FnA.of Tryz.func175 rfl (by decide) Tryz.ntmps175 (by simp [rdO]) ?_
 have hw : IntKind.i64.wrap ((i : Int) + 1) = (i : Int) + 1 := wrap_id (by omega) (by omega)
 have hn : ((i : Int) + 1).toNat = i + 1 := by omega
 cases hx : seS L i b [45] with
 | false =>
  rw [hx] at hS
  simp only [Bool.false_and]
  unfold rdO at *
  refine run_ ?_
  refine RunsA.dag (Ω := Unit) mixed () [(1, [(0, 0)]), (3, [(1, 1)]), (7, [(3, 2)]), (15, [(7, 3)]), (263, [(7, 8)]), (31, [(15, 4)]), (271, [(15, 8), (263, 3)]), (775, [(263, 9)]), (63, [(31, 5)]), (287, [(31, 8), (271, 4)]), (783, [(271, 9), (775, 3)]), (1799, [(775, 10)]), (127, [(63, 6)]), (319, [(63, 8), (287, 5)]), (799, [(287, 9), (783, 4)]), (1807, [(783, 10), (1799, 3)]), (3847, [(1799, 11)]), (255, [(127, 7)]), (383, [(127, 8), (319, 6)]), (831, [(319, 9), (799, 5)]), (1823, [(799, 10), (1807, 4)]), (3855, [(1807, 11), (3847, 3)]), (7943, [(3847, 12)]), (511, [(255, 8), (383, 7)]), (895, [(383, 9), (831, 6)]), (1855, [(831, 10), (1823, 5)]), (3871, [(1823, 11), (3855, 4)]), (7951, [(3855, 12), (7943, 3)]), (1023, [(511, 9), (895, 7)]), (1919, [(895, 10), (1855, 6)]), (3903, [(1855, 11), (3871, 5)]), (7967, [(3871, 12), (7951, 4)]), (2047, [(1023, 10), (1919, 7)]), (3967, [(1919, 11), (3903, 6)]), (7999, [(3903, 12), (7967, 5)]), (4095, [(2047, 11), (3967, 7)]), (8063, [(3967, 12), (7999, 6)]), (8191, [(4095, 12), (8063, 7)]), (16383, [(8191, 13)]), (32767, [(16383, 14)]), (65535, [(32767, 15)]), (131071, [(65535, 16)]), (1114111, [(65535, 20)]), (262143, [(131071, 17)]), (1179647, [(131071, 20), (1114111, 16)]), (3211263, [(1114111, 21)]), (524287, [(262143, 18)]), (1310719, [(262143, 20), (1179647, 17)]), (3276799, [(1179647, 21), (3211263, 16)]), (7405567, [(3211263, 22)]), (1048575, [(524287, 19)]), (1572863, [(524287, 20), (1310719, 18)]), (3407871, [(1310719, 21), (3276799, 17)]), (7471103, [(3276799, 22), (7405567, 16)]), (15794175, [(7405567, 23)]), (2097151, [(1048575, 20), (1572863, 19)]), (3670015, [(1572863, 21), (3407871, 18)]), (7602175, [(3407871, 22), (7471103, 17)]), (15859711, [(7471103, 23), (15794175, 16)]), (32571391, [(15794175, 24)]), (4194303, [(2097151, 21), (3670015, 19)]), (7864319, [(3670015, 22), (7602175, 18)]), (15990783, [(7602175, 23), (15859711, 17)]), (32636927, [(15859711, 24), (32571391, 16)]), (8388607, [(4194303, 22), (7864319, 19)]), (16252927, [(7864319, 23), (15990783, 18)]), (32767999, [(15990783, 24), (32636927, 17)]), (16777215, [(8388607, 23), (16252927, 19)]), (33030143, [(16252927, 24), (32767999, 18)]), (33554431, [(16777215, 24), (33030143, 19)]), (67108863, [(33554431, 25)]), (134217727, [(67108863, 26)]), (268435455, [(134217727, 27)]), (536870911, [(268435455, 28)]), (1073741823, [(536870911, 29)]), (2147483647, [(1073741823, 30)])] (by kernel_rfl) ?_
  repeat
   (apply DagP.step
    ·repeat
      (apply EdgesP.cons rfl rfl
       ·intro ω
        refine cgo1_ @toksA_len ?_
        first
         | (refine RunsL.nil ?_; first | exact ⟨ω, LeS.refl _⟩ | exact ⟨ω, les_⟩)
         | (refine call_ (ps := [0]) (rid := 16) (hy := by simp only [go_sem, Nat.reduceEqDiff, toksA_len]; first | done | rfl) rfl rfl rfl rfl rfl (hS) ?_
            refine cro1_ @toksA_len ?_
            first | exact ⟨ω, LeS.refl _⟩ | exact ⟨ω, les_⟩))
     exact EdgesP.nil)
  refine DagP.done fun ω => ?_
  refine run_ ?_
  exact RetA.mk tabOk 0 rfl rfl rfl (by omega) rfl rfl rfl ⟨rfl, rfl, rfl⟩
 | true =>
  rw [hx] at hS
  simp only [Bool.true_and]
  by_cases h : i + 1 < L.length
  ·have hg0 : L[i + 1]? = some L[i + 1] := List.getElem?_eq_getElem h
   rw [hg0]
   have hg := toksA_get' hg0
   have q : decide ((i : Int) + 1 < (L.length : Nat)) = true := decide_eq_true (by omega)
   have q' : ((i : Int) + 1 < (L.length : Nat)) = True := eq_true (by omega)
   generalize L[i + 1] = t at *
   simp only
   generalize hz : (t.s == [40]) = z at *
   have hz' : (t.s = [40]) = (z = true) := by rw [← hz]; simp
   unfold rdO at *
   refine run_ ?_
   refine RunsA.dag (Ω := Unit) mixed () [(1, [(0, 0)]), (3, [(1, 1)]), (7, [(3, 2)]), (15, [(7, 3)]), (263, [(7, 8)]), (31, [(15, 4)]), (271, [(15, 8), (263, 3)]), (775, [(263, 9)]), (63, [(31, 5)]), (287, [(31, 8), (271, 4)]), (783, [(271, 9), (775, 3)]), (1799, [(775, 10)]), (127, [(63, 6)]), (319, [(63, 8), (287, 5)]), (799, [(287, 9), (783, 4)]), (1807, [(783, 10), (1799, 3)]), (3847, [(1799, 11)]), (255, [(127, 7)]), (383, [(127, 8), (319, 6)]), (831, [(319, 9), (799, 5)]), (1823, [(799, 10), (1807, 4)]), (3855, [(1807, 11), (3847, 3)]), (7943, [(3847, 12)]), (511, [(255, 8), (383, 7)]), (895, [(383, 9), (831, 6)]), (1855, [(831, 10), (1823, 5)]), (3871, [(1823, 11), (3855, 4)]), (7951, [(3855, 12), (7943, 3)]), (1023, [(511, 9), (895, 7)]), (1919, [(895, 10), (1855, 6)]), (3903, [(1855, 11), (3871, 5)]), (7967, [(3871, 12), (7951, 4)]), (2047, [(1023, 10), (1919, 7)]), (3967, [(1919, 11), (3903, 6)]), (7999, [(3903, 12), (7967, 5)]), (4095, [(2047, 11), (3967, 7)]), (8063, [(3967, 12), (7999, 6)]), (8191, [(4095, 12), (8063, 7)]), (16383, [(8191, 13)]), (32767, [(16383, 14)]), (65535, [(32767, 15)]), (131071, [(65535, 16)]), (1114111, [(65535, 20)]), (262143, [(131071, 17)]), (1179647, [(131071, 20), (1114111, 16)]), (3211263, [(1114111, 21)]), (524287, [(262143, 18)]), (1310719, [(262143, 20), (1179647, 17)]), (3276799, [(1179647, 21), (3211263, 16)]), (7405567, [(3211263, 22)]), (1048575, [(524287, 19)]), (1572863, [(524287, 20), (1310719, 18)]), (3407871, [(1310719, 21), (3276799, 17)]), (7471103, [(3276799, 22), (7405567, 16)]), (15794175, [(7405567, 23)]), (2097151, [(1048575, 20), (1572863, 19)]), (3670015, [(1572863, 21), (3407871, 18)]), (7602175, [(3407871, 22), (7471103, 17)]), (15859711, [(7471103, 23), (15794175, 16)]), (32571391, [(15794175, 24)]), (4194303, [(2097151, 21), (3670015, 19)]), (7864319, [(3670015, 22), (7602175, 18)]), (15990783, [(7602175, 23), (15859711, 17)]), (32636927, [(15859711, 24), (32571391, 16)]), (8388607, [(4194303, 22), (7864319, 19)]), (16252927, [(7864319, 23), (15990783, 18)]), (32767999, [(15990783, 24), (32636927, 17)]), (16777215, [(8388607, 23), (16252927, 19)]), (33030143, [(16252927, 24), (32767999, 18)]), (33554431, [(16777215, 24), (33030143, 19)]), (67108863, [(33554431, 25)]), (134217727, [(67108863, 26)]), (268435455, [(134217727, 27)]), (536870911, [(268435455, 28)]), (1073741823, [(536870911, 29)]), (2147483647, [(1073741823, 30)])] (by kernel_rfl) ?_
   repeat
    (apply DagP.step
     ·repeat
       (apply EdgesP.cons rfl rfl
        ·intro ω
         refine cgo7_ @toksA_len @hw @hn @q @q' @hg @hz ?_
         first
          | (refine RunsL.nil ?_; first | exact ⟨ω, LeS.refl _⟩ | exact ⟨ω, les_⟩)
          | (refine call_ (ps := [0]) (rid := 16) (hy := by simp only [go_sem, Nat.reduceEqDiff, toksA_len, hw, hn, q, q', hg, hz]; first | done | rfl) rfl rfl rfl rfl rfl (hS) ?_
             refine cro7_ @toksA_len @hw @hn @q @q' @hg @hz ?_
             first | exact ⟨ω, LeS.refl _⟩ | exact ⟨ω, les_⟩))
      exact EdgesP.nil)
   refine DagP.done fun ω => ?_
   refine run_ ?_
   exact RetA.mk tabOk 0 rfl rfl rfl (by omega) rfl rfl rfl ⟨rfl, rfl, rfl⟩
  ·have hg0 : L[i + 1]? = none := List.getElem?_eq_none (by omega)
   rw [hg0]
   have q : decide ((i : Int) + 1 < (L.length : Nat)) = false := decide_eq_false (by omega)
   have q' : ((i : Int) + 1 < (L.length : Nat)) = False := eq_false (by omega)
   unfold rdO at *
   refine run_ ?_
   refine RunsA.dag (Ω := Unit) mixed () [(1, [(0, 0)]), (3, [(1, 1)]), (7, [(3, 2)]), (15, [(7, 3)]), (263, [(7, 8)]), (31, [(15, 4)]), (271, [(15, 8), (263, 3)]), (775, [(263, 9)]), (63, [(31, 5)]), (287, [(31, 8), (271, 4)]), (783, [(271, 9), (775, 3)]), (1799, [(775, 10)]), (127, [(63, 6)]), (319, [(63, 8), (287, 5)]), (799, [(287, 9), (783, 4)]), (1807, [(783, 10), (1799, 3)]), (3847, [(1799, 11)]), (255, [(127, 7)]), (383, [(127, 8), (319, 6)]), (831, [(319, 9), (799, 5)]), (1823, [(799, 10), (1807, 4)]), (3855, [(1807, 11), (3847, 3)]), (7943, [(3847, 12)]), (511, [(255, 8), (383, 7)]), (895, [(383, 9), (831, 6)]), (1855, [(831, 10), (1823, 5)]), (3871, [(1823, 11), (3855, 4)]), (7951, [(3855, 12), (7943, 3)]), (1023, [(511, 9), (895, 7)]), (1919, [(895, 10), (1855, 6)]), (3903, [(1855, 11), (3871, 5)]), (7967, [(3871, 12), (7951, 4)]), (2047, [(1023, 10), (1919, 7)]), (3967, [(1919, 11), (3903, 6)]), (7999, [(3903, 12), (7967, 5)]), (4095, [(2047, 11), (3967, 7)]), (8063, [(3967, 12), (7999, 6)]), (8191, [(4095, 12), (8063, 7)]), (16383, [(8191, 13)]), (32767, [(16383, 14)]), (65535, [(32767, 15)]), (131071, [(65535, 16)]), (1114111, [(65535, 20)]), (262143, [(131071, 17)]), (1179647, [(131071, 20), (1114111, 16)]), (3211263, [(1114111, 21)]), (524287, [(262143, 18)]), (1310719, [(262143, 20), (1179647, 17)]), (3276799, [(1179647, 21), (3211263, 16)]), (7405567, [(3211263, 22)]), (1048575, [(524287, 19)]), (1572863, [(524287, 20), (1310719, 18)]), (3407871, [(1310719, 21), (3276799, 17)]), (7471103, [(3276799, 22), (7405567, 16)]), (15794175, [(7405567, 23)]), (2097151, [(1048575, 20), (1572863, 19)]), (3670015, [(1572863, 21), (3407871, 18)]), (7602175, [(3407871, 22), (7471103, 17)]), (15859711, [(7471103, 23), (15794175, 16)]), (32571391, [(15794175, 24)]), (4194303, [(2097151, 21), (3670015, 19)]), (7864319, [(3670015, 22), (7602175, 18)]), (15990783, [(7602175, 23), (15859711, 17)]), (32636927, [(15859711, 24), (32571391, 16)]), (8388607, [(4194303, 22), (7864319, 19)]), (16252927, [(7864319, 23), (15990783, 18)]), (32767999, [(15990783, 24), (32636927, 17)]), (16777215, [(8388607, 23), (16252927, 19)]), (33030143, [(16252927, 24), (32767999, 18)]), (33554431, [(16777215, 24), (33030143, 19)]), (67108863, [(33554431, 25)]), (134217727, [(67108863, 26)]), (268435455, [(134217727, 27)]), (536870911, [(268435455, 28)]), (1073741823, [(536870911, 29)]), (2147483647, [(1073741823, 30)])] (by kernel_rfl) ?_
   repeat
    (apply DagP.step
     ·repeat
       (apply EdgesP.cons rfl rfl
        ·intro ω
         refine cgo5_ @toksA_len @hw @hn @q @q' ?_
         first
          | (refine RunsL.nil ?_; first | exact ⟨ω, LeS.refl _⟩ | exact ⟨ω, les_⟩)
          | (refine call_ (ps := [0]) (rid := 16) (hy := by simp only [go_sem, Nat.reduceEqDiff, toksA_len, hw, hn, q, q']; first | done | rfl) rfl rfl rfl rfl rfl (hS) ?_
             refine cro5_ @toksA_len @hw @hn @q @q' ?_
             first | exact ⟨ω, LeS.refl _⟩ | exact ⟨ω, les_⟩))
      exact EdgesP.nil)
   refine DagP.done fun ω => ?_
   refine run_ ?_
   exact RetA.mk tabOk 0 rfl rfl rfl (by omega) rfl rfl rfl ⟨rfl, rfl, rfl⟩
theorem plS_bad {L : List TokV} {i : Nat} {b : Bool} (h : b = true ∨ L[i]? = none) : plS L i b = (⟨10, 0, nothE⟩, i, true) ∧ dnS L i b = false ∧ exS L 6 i b = (nothE, i, true) ∧ (∀ m, seS L i b m = false) ∧ ∀ m, tkI L i b m = i := by
 have hs : ∀ m, seS L i b m = false := fun m => by
  unfold seS
  rcases h with h | h
  ·simp [h]
  ·simp [h]
 have hd : dnS L i b = false := by unfold dnS; rw [hs]; rfl
 have he : exS L 6 i b = (nothE, i, true) := by
  show exS2 L (exS L 5) (nxS L i b) = _
  have : nxS L i b = (⟨0, 0, []⟩, i, true) := by
   unfold nxS
   rcases h with h | h
   ·simp [h]
   ·simp [h]
  rw [this]; rfl
 refine ⟨?_, hd, he, hs, fun m => by unfold tkI; rw [hs]; simp⟩
 have hr : ¬ (b = false ∧ 0 ≤ hdR L i) := by
  rintro ⟨h1, h2⟩
  rcases h with h | h
  ·rw [h1] at h; cases h
  ·unfold hdR at h2; rw [h] at h2; exact absurd h2 (by decide)
 unfold plS
 rw [if_neg hr, hd]
 simp only [hs, he, Bool.false_eq_true, if_false]
 unfold idS
 rw [seS_true, if_neg (by simp)]
set_option maxHeartbeats 16000000 in
theorem rPlain_bad (L : List TokV) (hL : L.length ≤ 1048576) (i : Nat) (b : Bool) (hi : i ≤ L.length) (h : b = true ∨ L[i]? = none) : FnA Tryz.prog 158 false [.ptr 0 [] 3 0 0] (rdO L i b) (ArSR L (plS L i b)) := by
 obtain ⟨e1, e2, e3, e4, e5⟩ := plS_bad h
 have hD := rDown_ok L hL i b hi
 have hS := rSee_ok L i b [40] (by omega) hi
 have hI := rIs3_ok L i b [35] hL hi
 have hE := rExpr_ok L hL 6 (by omega) 1 (by omega) i b hi
 have hS2 := rSee_ok L i true [40] (by omega) hi
 rw [e2] at hD
 rw [e4] at hS hI
 rw [e5] at hI
 rw [seS_true] at hS2
 unfold ExSR at hE
 rw [e3] at hE
 rw [e1]
 have hq : b = true ∨ (b = false ∧ decide ((i : Int) < (L.length : Nat)) = false ∧ ((i : Int) < (L.length : Nat)) = False) := by
  cases b with
  | true => exact .inl rfl
  | false =>
   rcases h with h | h
   ·cases h
   ·have := List.getElem?_eq_none_iff.1 h
    exact .inr ⟨rfl, decide_eq_false (by omega), eq_false (by omega)⟩
 clear h e1 e2 e3 e4 e5
 refine FnA.of Tryz.func158 rfl (by decide) Tryz.ntmps158 (by simp [rdO]) ?_
 unfold ArSR
 simp only [exprR, argR, nothE] at hE ⊢
 unfold rdO at *
 rcases hq with rfl | ⟨rfl, q, q'⟩
 ·refine run_ ?_
  refine RunsA.dag (Ω := Unit) mixed () [(1, [(0, 0)]), (3, [(1, 1)]), (7, [(3, 2)]), (15, [(7, 3)]), (31, [(15, 4)]), (63, [(31, 5)]), (127, [(63, 6)]), (1087, [(63, 10)]), (255, [(127, 7)]), (1151, [(127, 10), (1087, 6)]), (3135, [(1087, 11)]), (511, [(255, 8)]), (1279, [(255, 10), (1151, 7)]), (3199, [(1151, 11), (3135, 6)]), (7231, [(3135, 12)]), (1023, [(511, 9)]), (1535, [(511, 10), (1279, 8)]), (3327, [(1279, 11), (3199, 7)]), (7295, [(3199, 12), (7231, 6)]), (15423, [(7231, 13)]), (2047, [(1023, 10), (1535, 9)]), (3583, [(1535, 11), (3327, 8)]), (7423, [(3327, 12), (7295, 7)]), (15487, [(7295, 13), (15423, 6)]), (31807, [(15423, 14)]), (4095, [(2047, 11), (3583, 9)]), (7679, [(3583, 12), (7423, 8)]), (15615, [(7423, 13), (15487, 7)]), (31871, [(15487, 14), (31807, 6)]), (8191, [(4095, 12), (7679, 9)]), (15871, [(7679, 13), (15615, 8)]), (31999, [(15615, 14), (31871, 7)]), (16383, [(8191, 13), (15871, 9)]), (32255, [(15871, 14), (31999, 8)]), (32767, [(16383, 14), (32255, 9)]), (65535, [(32767, 15)]), (131071, [(65535, 16)]), (262143, [(131071, 17)]), (524287, [(262143, 18)]), (4456447, [(262143, 22)]), (1048575, [(524287, 19)]), (4718591, [(524287, 22), (4456447, 18)]), (12845055, [(4456447, 23)]), (2097151, [(1048575, 20)]), (5242879, [(1048575, 22), (4718591, 19)]), (13107199, [(4718591, 23), (12845055, 18)]), (29622271, [(12845055, 24)]), (4194303, [(2097151, 21)]), (6291455, [(2097151, 22), (5242879, 20)]), (13631487, [(5242879, 23), (13107199, 19)]), (29884415, [(13107199, 24), (29622271, 18)]), (63176703, [(29622271, 25)]), (8388607, [(4194303, 22), (6291455, 21)]), (14680063, [(6291455, 23), (13631487, 20)]), (30408703, [(13631487, 24), (29884415, 19)]), (63438847, [(29884415, 25), (63176703, 18)]), (16777215, [(8388607, 23), (14680063, 21)]), (31457279, [(14680063, 24), (30408703, 20)]), (63963135, [(30408703, 25), (63438847, 19)]), (33554431, [(16777215, 24), (31457279, 21)]), (65011711, [(31457279, 25), (63963135, 20)]), (67108863, [(33554431, 25), (65011711, 21)]), (134217727, [(67108863, 26)]), (268435455, [(134217727, 27)]), (536870911, [(268435455, 28)]), (1073741823, [(536870911, 29)]), (2147483647, [(1073741823, 30)])] (by kernel_rfl) ?_
  repeat
   (apply DagP.step
    ·repeat
      (apply EdgesP.cons rfl rfl
       ·intro ω
        refine cgo2_ @toksA_len @Bool.not_true ?_
        first
         | (refine RunsL.nil ?_; first | exact ⟨ω, LeS.refl _⟩ | exact ⟨ω, les_⟩))
     exact EdgesP.nil)
  refine DagP.done fun ω => ?_
  refine auto0_ 5 [] ?_
  refine call_ (ps := [0]) (rid := 16) rfl rfl rfl rfl rfl (hD) ?_
  refine cr_ ?_
  refine auto0_ 5 [] ?_
  refine call_ (ps := [0]) (rid := 16) rfl rfl rfl rfl rfl (hS) ?_
  refine cr_ ?_
  refine auto0_ 5 [] ?_
  refine call_ (ps := [0]) (rid := 16) rfl rfl rfl rfl rfl (hI) ?_
  refine cr_ ?_
  refine auto0_ 5 [] ?_
  refine call_ (ps := [0]) (rid := 16896) rfl rfl rfl rfl rfl (hE) ?_
  refine cr_ ?_
  refine auto0_ 5 [] ?_
  refine call_ (ps := [0]) (rid := 16) rfl rfl rfl rfl rfl (hS2) ?_
  refine cr_ ?_
  refine auto0_ 5 [] ?_
  refine rv_ ?_
  refine vdet_ 768 [] 0 5 100 ?_
  exact RetV.mk 1 rfl rfl (by omega) rfl (by simp [noBoO, noBo, noBoL, noBo_exprs]) rfl ⟨rfl, rfl, rfl⟩
 ·refine run_ ?_
  refine RunsA.dag (Ω := Unit) mixed () [(1, [(0, 0)]), (3, [(1, 1)]), (7, [(3, 2)]), (15, [(7, 3)]), (31, [(15, 4)]), (63, [(31, 5)]), (127, [(63, 6)]), (1087, [(63, 10)]), (255, [(127, 7)]), (1151, [(127, 10), (1087, 6)]), (3135, [(1087, 11)]), (511, [(255, 8)]), (1279, [(255, 10), (1151, 7)]), (3199, [(1151, 11), (3135, 6)]), (7231, [(3135, 12)]), (1023, [(511, 9)]), (1535, [(511, 10), (1279, 8)]), (3327, [(1279, 11), (3199, 7)]), (7295, [(3199, 12), (7231, 6)]), (15423, [(7231, 13)]), (2047, [(1023, 10), (1535, 9)]), (3583, [(1535, 11), (3327, 8)]), (7423, [(3327, 12), (7295, 7)]), (15487, [(7295, 13), (15423, 6)]), (31807, [(15423, 14)]), (4095, [(2047, 11), (3583, 9)]), (7679, [(3583, 12), (7423, 8)]), (15615, [(7423, 13), (15487, 7)]), (31871, [(15487, 14), (31807, 6)]), (8191, [(4095, 12), (7679, 9)]), (15871, [(7679, 13), (15615, 8)]), (31999, [(15615, 14), (31871, 7)]), (16383, [(8191, 13), (15871, 9)]), (32255, [(15871, 14), (31999, 8)]), (32767, [(16383, 14), (32255, 9)]), (65535, [(32767, 15)]), (131071, [(65535, 16)]), (262143, [(131071, 17)]), (524287, [(262143, 18)]), (4456447, [(262143, 22)]), (1048575, [(524287, 19)]), (4718591, [(524287, 22), (4456447, 18)]), (12845055, [(4456447, 23)]), (2097151, [(1048575, 20)]), (5242879, [(1048575, 22), (4718591, 19)]), (13107199, [(4718591, 23), (12845055, 18)]), (29622271, [(12845055, 24)]), (4194303, [(2097151, 21)]), (6291455, [(2097151, 22), (5242879, 20)]), (13631487, [(5242879, 23), (13107199, 19)]), (29884415, [(13107199, 24), (29622271, 18)]), (63176703, [(29622271, 25)]), (8388607, [(4194303, 22), (6291455, 21)]), (14680063, [(6291455, 23), (13631487, 20)]), (30408703, [(13631487, 24), (29884415, 19)]), (63438847, [(29884415, 25), (63176703, 18)]), (16777215, [(8388607, 23), (14680063, 21)]), (31457279, [(14680063, 24), (30408703, 20)]), (63963135, [(30408703, 25), (63438847, 19)]), (33554431, [(16777215, 24), (31457279, 21)]), (65011711, [(31457279, 25), (63963135, 20)]), (67108863, [(33554431, 25), (65011711, 21)]), (134217727, [(67108863, 26)]), (268435455, [(134217727, 27)]), (536870911, [(268435455, 28)]), (1073741823, [(536870911, 29)]), (2147483647, [(1073741823, 30)])] (by kernel_rfl) ?_
  repeat
   (apply DagP.step
    ·repeat
      (apply EdgesP.cons rfl rfl
       ·intro ω
        refine cgo4_ @toksA_len @Bool.not_false @q @q' ?_
        first
         | (refine RunsL.nil ?_; first | exact ⟨ω, LeS.refl _⟩ | exact ⟨ω, les_⟩))
     exact EdgesP.nil)
  refine DagP.done fun ω => ?_
  refine auto0_ 5 [] ?_
  refine call_ (ps := [0]) (rid := 16) rfl rfl rfl rfl rfl (hD) ?_
  refine cr_ ?_
  refine auto0_ 5 [] ?_
  refine call_ (ps := [0]) (rid := 16) rfl rfl rfl rfl rfl (hS) ?_
  refine cr_ ?_
  refine auto0_ 5 [] ?_
  refine call_ (ps := [0]) (rid := 16) rfl rfl rfl rfl rfl (hI) ?_
  refine cr_ ?_
  refine auto0_ 5 [] ?_
  refine call_ (ps := [0]) (rid := 16896) rfl rfl rfl rfl rfl (hE) ?_
  refine cr_ ?_
  refine auto0_ 5 [] ?_
  refine call_ (ps := [0]) (rid := 16) rfl rfl rfl rfl rfl (hS2) ?_
  refine cr_ ?_
  refine auto0_ 5 [] ?_
  refine rv_ ?_
  refine vdet_ 768 [] 0 5 100 ?_
  exact RetV.mk 1 rfl rfl (by omega) rfl (by simp [noBoO, noBo, noBoL, noBo_exprs]) rfl ⟨rfl, rfl, rfl⟩
set_option maxHeartbeats 32000000 in
theorem rPlain_some (L : List TokV) (hL : L.length ≤ 1048576) (i : Nat) (hi : i < L.length) : FnA Tryz.prog 158 false [.ptr 0 [] 3 0 0] (rdO L i false) (ArSR L (plS L i false)) := by
 obtain ⟨⟨k, n, s⟩, hg0⟩ : ∃ t, L[i]? = some t := ⟨_, List.getElem?_eq_getElem hi⟩
 have hg := toksA_get' hg0
 simp only at hg
 have q : decide ((i : Int) < (L.length : Nat)) = true := decide_eq_true (by omega)
 have q' : ((i : Int) < (L.length : Nat)) = True := eq_true (by omega)
 have hR := rReg_ok k n s
 have hr : hdR L i = rgS ⟨k, n, s⟩ := by unfold hdR; rw [hg0]
 have hN := rNext_ok L i false (by omega) (by omega)
 have en : nxS L i false = (⟨k, n, s⟩, i + 1, false) := by unfold nxS; simp [hg0]
 have hD := rDown_ok L hL i false (by omega)
 have hS := rSee_ok L i false [40] (by omega) (by omega)
 have hI := rIs3_ok L i false [35] hL (by omega)
 unfold plS
 rw [hr]
 refine FnA.of Tryz.func158 rfl (by decide) Tryz.ntmps158 (by simp [rdO]) ?_
 rw [en] at hN ⊢
 simp only [tokA] at hN
 obtain ⟨v, hv0⟩ : ∃ v, rgS ⟨k, n, s⟩ = v := ⟨_, rfl⟩
 rw [hv0] at hR hr ⊢
 generalize hz : decide (0 ≤ v) = z at *
 have hz' : (0 ≤ v) = (z = true) := by rw [← hz]; simp
 cases z with
 | true =>
  have hv : 0 ≤ v := by simpa using hz
  rw [if_pos ⟨rfl, hv⟩]
  unfold mpS ArSR rdO at *
  simp only [argR, nothE, hv0]
  refine run_ ?_
  refine RunsA.dag (Ω := Unit) mixed () [(1, [(0, 0)]), (3, [(1, 1)]), (7, [(3, 2)]), (15, [(7, 3)]), (31, [(15, 4)]), (63, [(31, 5)]), (127, [(63, 6)]), (1087, [(63, 10)]), (255, [(127, 7)]), (1151, [(127, 10), (1087, 6)]), (3135, [(1087, 11)]), (511, [(255, 8)]), (1279, [(255, 10), (1151, 7)]), (3199, [(1151, 11), (3135, 6)]), (7231, [(3135, 12)]), (1023, [(511, 9)]), (1535, [(511, 10), (1279, 8)]), (3327, [(1279, 11), (3199, 7)]), (7295, [(3199, 12), (7231, 6)]), (15423, [(7231, 13)]), (2047, [(1023, 10), (1535, 9)]), (3583, [(1535, 11), (3327, 8)]), (7423, [(3327, 12), (7295, 7)]), (15487, [(7295, 13), (15423, 6)]), (31807, [(15423, 14)]), (4095, [(2047, 11), (3583, 9)]), (7679, [(3583, 12), (7423, 8)]), (15615, [(7423, 13), (15487, 7)]), (31871, [(15487, 14), (31807, 6)]), (8191, [(4095, 12), (7679, 9)]), (15871, [(7679, 13), (15615, 8)]), (31999, [(15615, 14), (31871, 7)]), (16383, [(8191, 13), (15871, 9)]), (32255, [(15871, 14), (31999, 8)]), (32767, [(16383, 14), (32255, 9)]), (65535, [(32767, 15)]), (131071, [(65535, 16)]), (262143, [(131071, 17)]), (524287, [(262143, 18)]), (4456447, [(262143, 22)]), (1048575, [(524287, 19)]), (4718591, [(524287, 22), (4456447, 18)]), (12845055, [(4456447, 23)]), (2097151, [(1048575, 20)]), (5242879, [(1048575, 22), (4718591, 19)]), (13107199, [(4718591, 23), (12845055, 18)]), (29622271, [(12845055, 24)]), (4194303, [(2097151, 21)]), (6291455, [(2097151, 22), (5242879, 20)]), (13631487, [(5242879, 23), (13107199, 19)]), (29884415, [(13107199, 24), (29622271, 18)]), (63176703, [(29622271, 25)]), (8388607, [(4194303, 22), (6291455, 21)]), (14680063, [(6291455, 23), (13631487, 20)]), (30408703, [(13631487, 24), (29884415, 19)]), (63438847, [(29884415, 25), (63176703, 18)]), (16777215, [(8388607, 23), (14680063, 21)]), (31457279, [(14680063, 24), (30408703, 20)]), (63963135, [(30408703, 25), (63438847, 19)]), (33554431, [(16777215, 24), (31457279, 21)]), (65011711, [(31457279, 25), (63963135, 20)]), (67108863, [(33554431, 25), (65011711, 21)]), (134217727, [(67108863, 26)]), (268435455, [(134217727, 27)]), (536870911, [(268435455, 28)]), (1073741823, [(536870911, 29)]), (2147483647, [(1073741823, 30)])] (by kernel_rfl) ?_
  repeat
   (apply DagP.step
    ·repeat
      (apply EdgesP.cons rfl rfl
       ·intro ω
        refine cgo8_ @toksA_len @Bool.not_false @q @q' @hg @Int.toNat_natCast @hz @hz' ?_
        first
         | (refine RunsL.nil ?_; first | exact ⟨ω, LeS.refl _⟩ | exact ⟨ω, les_⟩)
         | (refine call_ (ps := []) (rid := 16) (hy := by simp only [go_sem, Nat.reduceEqDiff, toksA_len, Bool.not_false, q, q', hg, Int.toNat_natCast, hz, hz']; first | done | rfl) rfl rfl rfl rfl rfl (hR) ?_
            refine cro8_ @toksA_len @Bool.not_false @q @q' @hg @Int.toNat_natCast @hz @hz' ?_
            first | exact ⟨ω, LeS.refl _⟩ | exact ⟨ω, les_⟩))
     exact EdgesP.nil)
  refine DagP.done fun ω => ?_
  refine auto1_ 5 [] @q ?_
  refine call_ (ps := [0]) (rid := 16) rfl rfl rfl rfl rfl (hN) ?_
  rintro r os' ros ⟨rfl, rfl, rfl⟩ _
  refine cg_ ?_
  refine call_ (ps := []) (rid := 16) rfl rfl rfl rfl rfl (hR) ?_
  refine cr_ ?_
  refine run_ ?_
  refine rv_ ?_
  refine vdet_ 768 [] 0 5 100 ?_
  exact RetV.mk 1 rfl rfl (by omega) rfl (by simp [noBoO, noBo, noBoL, noBo_exprs]) rfl ⟨rfl, rfl, rfl⟩
 | false =>
 have hv : ¬ 0 ≤ v := by simpa using hz
 rw [if_neg (fun h => hv h.2)]
 unfold rdO
 refine run_ ?_
 refine RunsA.dag (Ω := Unit) mixed () [(1, [(0, 0)]), (3, [(1, 1)]), (7, [(3, 2)]), (15, [(7, 3)]), (31, [(15, 4)]), (63, [(31, 5)]), (127, [(63, 6)]), (1087, [(63, 10)]), (255, [(127, 7)]), (1151, [(127, 10), (1087, 6)]), (3135, [(1087, 11)]), (511, [(255, 8)]), (1279, [(255, 10), (1151, 7)]), (3199, [(1151, 11), (3135, 6)]), (7231, [(3135, 12)]), (1023, [(511, 9)]), (1535, [(511, 10), (1279, 8)]), (3327, [(1279, 11), (3199, 7)]), (7295, [(3199, 12), (7231, 6)]), (15423, [(7231, 13)]), (2047, [(1023, 10), (1535, 9)]), (3583, [(1535, 11), (3327, 8)]), (7423, [(3327, 12), (7295, 7)]), (15487, [(7295, 13), (15423, 6)]), (31807, [(15423, 14)]), (4095, [(2047, 11), (3583, 9)]), (7679, [(3583, 12), (7423, 8)]), (15615, [(7423, 13), (15487, 7)]), (31871, [(15487, 14), (31807, 6)]), (8191, [(4095, 12), (7679, 9)]), (15871, [(7679, 13), (15615, 8)]), (31999, [(15615, 14), (31871, 7)]), (16383, [(8191, 13), (15871, 9)]), (32255, [(15871, 14), (31999, 8)]), (32767, [(16383, 14), (32255, 9)]), (65535, [(32767, 15)]), (131071, [(65535, 16)]), (262143, [(131071, 17)]), (524287, [(262143, 18)]), (4456447, [(262143, 22)]), (1048575, [(524287, 19)]), (4718591, [(524287, 22), (4456447, 18)]), (12845055, [(4456447, 23)]), (2097151, [(1048575, 20)]), (5242879, [(1048575, 22), (4718591, 19)]), (13107199, [(4718591, 23), (12845055, 18)]), (29622271, [(12845055, 24)]), (4194303, [(2097151, 21)]), (6291455, [(2097151, 22), (5242879, 20)]), (13631487, [(5242879, 23), (13107199, 19)]), (29884415, [(13107199, 24), (29622271, 18)]), (63176703, [(29622271, 25)]), (8388607, [(4194303, 22), (6291455, 21)]), (14680063, [(6291455, 23), (13631487, 20)]), (30408703, [(13631487, 24), (29884415, 19)]), (63438847, [(29884415, 25), (63176703, 18)]), (16777215, [(8388607, 23), (14680063, 21)]), (31457279, [(14680063, 24), (30408703, 20)]), (63963135, [(30408703, 25), (63438847, 19)]), (33554431, [(16777215, 24), (31457279, 21)]), (65011711, [(31457279, 25), (63963135, 20)]), (67108863, [(33554431, 25), (65011711, 21)]), (134217727, [(67108863, 26)]), (268435455, [(134217727, 27)]), (536870911, [(268435455, 28)]), (1073741823, [(536870911, 29)]), (2147483647, [(1073741823, 30)])] (by kernel_rfl) ?_
 repeat
  (apply DagP.step
   ·repeat
     (apply EdgesP.cons rfl rfl
      ·intro ω
       refine cgo8_ @toksA_len @Bool.not_false @q @q' @hg @Int.toNat_natCast @hz @hz' ?_
       first
        | (refine RunsL.nil ?_; first | exact ⟨ω, LeS.refl _⟩ | exact ⟨ω, les_⟩)
        | (refine call_ (ps := []) (rid := 16) (hy := by simp only [go_sem, Nat.reduceEqDiff, toksA_len, Bool.not_false, q, q', hg, Int.toNat_natCast, hz, hz']; first | done | rfl) rfl rfl rfl rfl rfl (hR) ?_
           refine cro8_ @toksA_len @Bool.not_false @q @q' @hg @Int.toNat_natCast @hz @hz' ?_
           first | exact ⟨ω, LeS.refl _⟩ | exact ⟨ω, les_⟩))
    exact EdgesP.nil)
 refine DagP.done fun ω => ?_
 clear hR hN hz hz' hr hg hg0 en hv0
 unfold rdO at hD hS hI
 cases h1 : dnS L i false with
 | true =>
  rw [if_pos rfl]
  rw [h1] at hD
  have hW := rMust3_ok L i false [45] hL (by omega)
  have hRo := rRound_ok L hL (tkI L i false [45]) (false || !seS L i false [45]) (tkS_le _ _ (by omega))
  generalize roS L (tkI L i false [45]) (false || !seS L i false [45]) = R at *
  generalize tkI L i false [45] = i1 at *
  generalize (false || !seS L i false [45]) = b1 at *
  obtain ⟨w, i2, b2⟩ := R
  unfold mpS ArSR rdO at *
  simp only [argR, nothE]
  refine auto1_ 5 [] @q ?_
  refine call_ (ps := [0]) (rid := 16) rfl rfl rfl rfl rfl (hD) ?_
  refine cr_ ?_
  refine auto1_ 5 [] @q ?_
  refine call_ (ps := [0]) (rid := 16) rfl rfl rfl rfl rfl (hW) ?_
  refine cr_ ?_
  refine auto1_ 5 [] @q ?_
  refine call_ (ps := [0]) (rid := 16) rfl rfl rfl rfl rfl (hRo) ?_
  refine cr_ ?_
  refine run_ ?_
  refine rv_ ?_
  refine vdet_ 768 [] 0 5 100 ?_
  exact RetV.mk 1 rfl rfl (by omega) rfl (by simp [noBoO, noBo, noBoL, noBo_exprs]) rfl ⟨rfl, rfl, rfl⟩
 | false =>
 rw [if_neg (by simp)]
 rw [h1] at hD
 cases h2 : seS L i false [40] with
 | true =>
  rw [if_pos rfl]
  rw [h2] at hS
  have hRo := rRound_ok L hL i false (by omega)
  have lr := ro_le (L := L) (i := i) false (by omega)
  generalize roS L i false = R at *
  obtain ⟨w, i2, b2⟩ := R
  simp only at lr
  have hP := rIs3_ok L i2 b2 [43] hL lr
  unfold plS2
  simp only
  generalize tkI L i2 b2 [43] = i3 at *
  generalize seS L i2 b2 [43] = y at *
  unfold ArSR rdO at *
  simp only [argR, nothE]
  refine auto1_ 5 [] @q ?_
  refine call_ (ps := [0]) (rid := 16) rfl rfl rfl rfl rfl (hD) ?_
  refine cr_ ?_
  refine auto1_ 5 [] @q ?_
  refine call_ (ps := [0]) (rid := 16) rfl rfl rfl rfl rfl (hS) ?_
  refine cr_ ?_
  refine auto1_ 5 [] @q ?_
  refine call_ (ps := [0]) (rid := 16) rfl rfl rfl rfl rfl (hRo) ?_
  refine cr_ ?_
  refine auto1_ 5 [] @q ?_
  refine call_ (ps := [0]) (rid := 16) rfl rfl rfl rfl rfl (hP) ?_
  refine cr_ ?_
  cases y
  all_goals (
   refine auto1_ 5 [] @q ?_
   refine rv_ ?_
   refine vdet_ 768 [] 0 5 100 ?_
   exact RetV.mk 1 rfl rfl (by omega) rfl (by simp [noBoO, noBo, noBoL, noBo_exprs]) rfl ⟨rfl, rfl, rfl⟩)
 | false =>
 rw [if_neg (by simp)]
 rw [h2] at hS
 cases h3 : seS L i false [35] with
 | true =>
  rw [if_pos rfl]
  rw [h3] at hI
  have hE := rExpr_ok L hL 6 (by omega) 1 (by omega) (tkI L i false [35]) false (tkS_le _ _ (by omega))
  generalize exS L 6 (tkI L i false [35]) false = E at *
  generalize tkI L i false [35] = i1 at *
  obtain ⟨⟨ka, na, sa, xa⟩, i2, b2⟩ := E
  unfold ExSR at hE
  unfold mpS ArSR rdO at *
  simp only [argR, exprR] at hE ⊢
  refine auto1_ 5 [] @q ?_
  refine call_ (ps := [0]) (rid := 16) rfl rfl rfl rfl rfl (hD) ?_
  refine cr_ ?_
  refine auto1_ 5 [] @q ?_
  refine call_ (ps := [0]) (rid := 16) rfl rfl rfl rfl rfl (hS) ?_
  refine cr_ ?_
  refine auto1_ 5 [] @q ?_
  refine call_ (ps := [0]) (rid := 16) rfl rfl rfl rfl rfl (hI) ?_
  refine cr_ ?_
  refine auto1_ 5 [] @q ?_
  refine call_ (ps := [0]) (rid := 16128) rfl rfl rfl rfl rfl (hE) ?_
  refine cr_ ?_
  refine run_ ?_
  refine rv_ ?_
  refine vdet_ 768 [] 0 5 100 ?_
  exact RetV.mk 1 rfl rfl (by omega) rfl (by simp [noBoO, noBo, noBoL, noBo_exprs]) rfl ⟨rfl, rfl, rfl⟩
 | false =>
 rw [if_neg (by simp)]
 rw [h3] at hI
 have e5 : tkI L i false [35] = i := by unfold tkI; rw [h3]; simp
 rw [e5] at hI
 have hE := rExpr_ok L hL 6 (by omega) 1 (by omega) i false (by omega)
 have le := exS_le (L := L) 6 i false (by omega)
 generalize exS L 6 i false = E at *
 obtain ⟨⟨ka, na, sa, xa⟩, i2, b2⟩ := E
 simp only at le
 unfold ExSR at hE
 simp only [exprR] at hE
 have hS2 := rSee_ok L i2 b2 [40] (by omega) le
 unfold idS
 simp only
 unfold rdO at hE hS2
 cases h4 : seS L i2 b2 [40] with
 | true =>
  rw [if_pos rfl]
  rw [h4] at hS2
  have hRo := rRound_ok L hL i2 b2 le
  generalize roS L i2 b2 = R at *
  obtain ⟨w, i3, b3⟩ := R
  unfold mpS ArSR rdO at *
  simp only [argR]
  refine auto1_ 5 [] @q ?_
  refine call_ (ps := [0]) (rid := 16) rfl rfl rfl rfl rfl (hD) ?_
  refine cr_ ?_
  refine auto1_ 5 [] @q ?_
  refine call_ (ps := [0]) (rid := 16) rfl rfl rfl rfl rfl (hS) ?_
  refine cr_ ?_
  refine auto1_ 5 [] @q ?_
  refine call_ (ps := [0]) (rid := 16) rfl rfl rfl rfl rfl (hI) ?_
  refine cr_ ?_
  refine auto1_ 5 [] @q ?_
  refine call_ (ps := [0]) (rid := 16896) rfl rfl rfl rfl rfl (hE) ?_
  refine cr_ ?_
  refine auto1_ 5 [] @q ?_
  refine call_ (ps := [0]) (rid := 16) rfl rfl rfl rfl rfl (hS2) ?_
  refine cr_ ?_
  refine auto1_ 5 [] @q ?_
  refine RunsA.dag (Ω := Unit) mixed () [(1, [(0, 0)]), (4, [(0, 2)]), (3, [(1, 1)]), (5, [(1, 2), (4, 0)]), (7, [(3, 2), (5, 1)]), (15, [(7, 3)]), (31, [(15, 4)])] (by kernel_rfl) ?_
  repeat
   (apply DagP.step
    ·repeat
      (apply EdgesP.cons rfl rfl
       ·intro ω
        refine cgo_ ?_
        first
         | (refine RunsL.nil ?_; first | exact ⟨ω, LeS.refl _⟩ | exact ⟨ω, les_⟩)
         | (refine call_ (ps := [0]) (rid := 16) rfl rfl rfl rfl rfl (hRo) ?_
            refine cro_ ?_
            first | exact ⟨ω, LeS.refl _⟩ | exact ⟨ω, les_⟩))
     exact EdgesP.nil)
  refine DagP.done fun ω => ?_
  refine run_ ?_
  refine rv_ ?_
  refine vdet_ 768 [] 0 5 100 ?_
  exact RetV.mk 1 rfl rfl (by omega) rfl (by simp [noBoO, noBo, noBoL, noBo_exprs]) rfl ⟨rfl, rfl, rfl⟩
 | false =>
  rw [if_neg (by simp)]
  rw [h4] at hS2
  unfold ArSR rdO at *
  simp only [argR]
  refine auto1_ 5 [] @q ?_
  refine call_ (ps := [0]) (rid := 16) rfl rfl rfl rfl rfl (hD) ?_
  refine cr_ ?_
  refine auto1_ 5 [] @q ?_
  refine call_ (ps := [0]) (rid := 16) rfl rfl rfl rfl rfl (hS) ?_
  refine cr_ ?_
  refine auto1_ 5 [] @q ?_
  refine call_ (ps := [0]) (rid := 16) rfl rfl rfl rfl rfl (hI) ?_
  refine cr_ ?_
  refine auto1_ 5 [] @q ?_
  refine call_ (ps := [0]) (rid := 16896) rfl rfl rfl rfl rfl (hE) ?_
  refine cr_ ?_
  refine auto1_ 5 [] @q ?_
  refine call_ (ps := [0]) (rid := 16) rfl rfl rfl rfl rfl (hS2) ?_
  refine cr_ ?_
  refine auto1_ 5 [] @q ?_
  refine rv_ ?_
  refine vdet_ 768 [] 0 5 100 ?_
  exact RetV.mk 1 rfl rfl (by omega) rfl (by simp [noBoO, noBo, noBoL, noBo_exprs]) rfl ⟨rfl, rfl, rfl⟩
theorem rPlain_ok (L : List TokV) (hL : L.length ≤ 1048576) (i : Nat) (b : Bool) (hi : i ≤ L.length) : FnA Tryz.prog 158 false [.ptr 0 [] 3 0 0] (rdO L i b) (ArSR L (plS L i b)) := by
 by_cases h : b = true ∨ L[i]? = none
 ·exact rPlain_bad L hL i b hi h
 ·have hb : b = false := by
   cases b with
   | true => exact absurd (.inl rfl) h
   | false => rfl
  subst hb
  have hn : ¬ L.length ≤ i := fun h2 => h (.inr (List.getElem?_eq_none h2))
  exact rPlain_some L hL i (by omega)
set_option maxHeartbeats 16000000 in
theorem rArg_ok (L : List TokV) (hL : L.length ≤ 1048576) (i : Nat) (b : Bool) (hi : i ≤ L.length) : FnA Tryz.prog 127 false [.ptr 0 [] 3 0 0] (rdO L i b) (ArSR L (argS L i b)) := by
 have hI := rIs3_ok L i b [64] hL hi
 have hP := rPlain_ok L hL (tkI L i b [64]) b (tkS_le _ _ hi)
 unfold argS
 generalize plS L (tkI L i b [64]) b = A at *
 generalize tkI L i b [64] = i1 at *
 generalize seS L i b [64] = at' at *
 obtain ⟨⟨f, r, ⟨ka, na, sa, xa⟩⟩, i2, b2⟩ := A
 unfold ArSR at *
 simp only [argR] at hP ⊢
 refine FnA.of Tryz.func127 rfl (by decide) Tryz.ntmps127 (by simp [rdO]) ?_
 unfold argS2
 cases at' with
 | false =>
  rw [if_pos rfl]
  unfold rdO at *
  refine run_ ?_
  refine rg_ ?_
  refine call_ (ps := [0]) (rid := 16) rfl rfl rfl rfl rfl (hI) ?_
  refine cr_ ?_
  refine run_ ?_
  refine rg_ ?_
  refine call_ (ps := [0]) (rid := 2304) rfl rfl rfl rfl rfl (hP) ?_
  refine cr_ ?_
  refine auto0_ 5 [] ?_
  refine rv_ ?_
  refine vdet_ 768 [] 0 5 100 ?_
  exact RetV.mk 1 rfl rfl (by omega) rfl (by simp [noBoO, noBo, noBoL, noBo_exprs]) rfl ⟨rfl, rfl, rfl⟩
 | true =>
  rw [if_neg (by simp)]
  simp only
  by_cases c : f = 2 ∨ f = 4 ∨ f = 6 ∨ f = 8 ∨ f = 10
  ·rw [if_pos c]
   rcases c with rfl | rfl | rfl | rfl | rfl
   all_goals (
    unfold rdO at *
    refine run_ ?_
    refine rg_ ?_
    refine call_ (ps := [0]) (rid := 16) rfl rfl rfl rfl rfl (hI) ?_
    refine cr_ ?_
    refine run_ ?_
    refine rg_ ?_
    refine call_ (ps := [0]) (rid := 2304) rfl rfl rfl rfl rfl (hP) ?_
    refine cr_ ?_
    refine auto0_ 5 [13, 17] ?_
    refine rv_ ?_
    refine vdet_ 768 [] 0 5 100 ?_
    exact RetV.mk 1 rfl rfl (by omega) rfl (by simp [noBoO, noBo, noBoL, noBo_exprs]) rfl ⟨rfl, rfl, rfl⟩)
  ·rw [if_neg c]
   have a2 : (f == 2) = false := beq_eq_false_iff_ne.2 (by omega)
   have a2' : (f = 2) = False := eq_false (by omega)
   have a4 : (f == 4) = false := beq_eq_false_iff_ne.2 (by omega)
   have a4' : (f = 4) = False := eq_false (by omega)
   have a6 : (f == 6) = false := beq_eq_false_iff_ne.2 (by omega)
   have a6' : (f = 6) = False := eq_false (by omega)
   have a8 : (f == 8) = false := beq_eq_false_iff_ne.2 (by omega)
   have a8' : (f = 8) = False := eq_false (by omega)
   have a10 : (f == 10) = false := beq_eq_false_iff_ne.2 (by omega)
   have a10' : (f = 10) = False := eq_false (by omega)
   unfold rdO at *
   refine run_ ?_
   refine rg_ ?_
   refine call_ (ps := [0]) (rid := 16) rfl rfl rfl rfl rfl (hI) ?_
   refine cr_ ?_
   refine run_ ?_
   refine rg_ ?_
   refine call_ (ps := [0]) (rid := 2304) rfl rfl rfl rfl rfl (hP) ?_
   refine cr_ ?_
   refine auto11_ 5 [13, 17] @a2 @a2' @a4 @a4' @a6 @a6' @a8 @a8' @a10 @a10' @a10' ?_
   refine rv_ ?_
   refine vdet_ 768 [] 0 5 100 ?_
   exact RetV.mk 1 rfl rfl (by omega) rfl (by simp [noBoO, noBo, noBoL, noBo_exprs]) rfl ⟨rfl, rfl, rfl⟩
end Go.Proofs.YtiilnlihimdnlaaGreatDoorFw
