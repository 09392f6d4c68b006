/- Tokens read at a place: the reference's. -/
import Derived.Test.YtiilnlihimdnlaaGreatDoorI8
namespace Go.Proofs.YtiilnlihimdnlaaGreatDoorFw
open Go Go.RowKit Go.Proofs
set_option linter.unusedVariables false
set_option linter.unusedSimpArgs false
set_option maxRecDepth 4000
noncomputable def octN (s : Str) : Int := match octV s with
 | some n => n
 | none => -1
noncomputable def oneV (s : Str) (a : Nat) (c : UInt8) : TokV × Nat :=
 if SmP c.toNat then ((if runQ true s a ∈ opW ++ regW then ⟨5, 0, runQ true s a⟩ else ⟨1, 0, runQ true s a⟩), a + (runQ true s a).length)
 else if DigP c.toNat then (⟨2, octN (runQ false s a), []⟩, a + (runQ false s a).length)
 else if c.toNat = 46 ∧ ∃ d, s[a + 1]? = some d ∧ SmP d.toNat then (⟨3, 0, c :: runQ true s (a + 1)⟩, a + 1 + (runQ true s (a + 1)).length)
 else (⟨4, 0, [c]⟩, a + 1)
theorem slice_run (b : Bool) (s : Str) (a : Nat) : (s.drop a).take (a + (runQ b s a).length - a) = runQ b s a := by
 rw [Nat.add_sub_cancel_left]; exact runQ_take b s a
theorem slice_dot (s : Str) (a : Nat) (c : UInt8) (h : s[a]? = some c) : (s.drop a).take (a + 1 + (runQ true s (a + 1)).length - a) = c :: runQ true s (a + 1) := by
 obtain ⟨hlt, hc⟩ := List.getElem?_eq_some_iff.1 h
 rw [List.drop_eq_getElem_cons hlt, hc, show a + 1 + (runQ true s (a + 1)).length - a = (runQ true s (a + 1)).length + 1 by omega, List.take_succ_cons, runQ_take]
theorem slice_one (s : Str) (a : Nat) (c : UInt8) (h : s[a]? = some c) : (s.drop a).take (a + 1 - a) = [c] := by
 obtain ⟨hlt, hc⟩ := List.getElem?_eq_some_iff.1 h
 rw [List.drop_eq_getElem_cons hlt, hc, show a + 1 - a = 1 by omega]; rfl
set_option maxHeartbeats 8000000 in
theorem l9One_ok (s : Str) (a : Nat) (c : UInt8) (hc : s[a]? = some c) (hl : s.length ≤ 140737488355328) :
 FnA Tryz.prog 46 false [.str s, .int .i64 a] [] (fun res os ros => res = .tup [tokA (oneV s a c).1, .int .i64 ((oneV s a c).2 : Nat)] ∧ os = [] ∧ ros = []) := by
 obtain ⟨hlt, _⟩ := List.getElem?_eq_some_iff.1 hc
 have hb := byte_lt c
 have hS : FnA Tryz.prog 79 false [.int .u8 (c.toNat : Nat)] [] (fun res os ros => res = .bool (decide (SmP c.toNat)) ∧ os = [] ∧ ros = []) := l9Small_ok c.toNat hb
 have hD : FnA Tryz.prog 82 false [.int .u8 (c.toNat : Nat)] [] (fun res os ros => res = .bool (decide (DigP c.toNat)) ∧ os = [] ∧ ros = []) := l9Digit_ok c.toNat hb
 have hR1 := l9Run_ok s a true (by omega) hl
 have hR2 := l9Run_ok s a false (by omega) hl
 have hR3 := l9Run_ok s (a + 1) true (by omega) hl
 have l1 := runQ_le true s a (by omega)
 have l2 := runQ_le false s a (by omega)
 have l3 := runQ_le true s (a + 1) (by omega)
 refine FnA.of Tryz.func46 rfl (by decide) Tryz.ntmps46 (by simp) ?_
 unfold oneV
 by_cases c1 : SmP c.toNat
 ·rw [if_pos c1]
  rw [decide_eq_true c1] at hS
  have hsl := slice_run true s a
  have hW := l9Word_ok (runQ true s a)
  have hnn : ((a + (runQ true s a).length : Nat) : Int).toNat = a + (runQ true s a).length := by omega
  have hle : ((a : Nat) : Int) ≤ ((a + (runQ true s a).length : Nat) : Int) := by omega
  have hle2 : ((a + (runQ true s a).length : Nat) : Int) ≤ (s.length : Nat) := by omega
  generalize hX : a + (runQ true s a).length = X at *
  generalize runQ true s a = w at *
  by_cases ck : w ∈ opW ++ regW
  ·rw [if_pos ck] at hW ⊢
   simp only [tokA] at hW
   refine auto2c2_ 8 [] @hS @hR1 @hc @hsl ?_
   refine call_ (ps := []) (rid := 16) rfl rfl rfl rfl rfl (hW) ?_
   refine cro_ ?_
   refine run_ ?_
   exact RetA.mk tabOk 0 rfl rfl rfl (by omega) rfl rfl rfl ⟨rfl, rfl, rfl⟩
  ·rw [if_neg ck] at hW ⊢
   simp only [tokA] at hW
   refine auto2c2_ 8 [] @hS @hR1 @hc @hsl ?_
   refine call_ (ps := []) (rid := 16) rfl rfl rfl rfl rfl (hW) ?_
   refine cro_ ?_
   refine run_ ?_
   exact RetA.mk tabOk 0 rfl rfl rfl (by omega) rfl rfl rfl ⟨rfl, rfl, rfl⟩
 rw [if_neg c1]
 rw [decide_eq_false c1] at hS
 by_cases c2 : DigP c.toNat
 ·rw [if_pos c2]
  rw [decide_eq_true c2] at hD
  have hsl := slice_run false s a
  have hO := soctP_ok (runQ false s a) (by omega)
  have hnn : ((a + (runQ false s a).length : Nat) : Int).toNat = a + (runQ false s a).length := by omega
  generalize hX : a + (runQ false s a).length = X at *
  generalize runQ false s a = w at *
  cases ev : octV w with
  | some n =>
   rw [octR_some ev] at hO
   have eN : octN w = n := by rw [octN, ev]
   rw [eN]
   refine auto2c4_ 12 [] @hS @hD @hR2 @hO @hc @hsl ?_
   exact RetA.mk tabOk 0 rfl rfl rfl (by omega) rfl rfl rfl ⟨rfl, rfl, rfl⟩
  | none =>
   rw [octR_none ev] at hO
   have eN : octN w = -1 := by rw [octN, ev]
   rw [eN]
   refine auto2c4_ 12 [] @hS @hD @hR2 @hO @hc @hsl ?_
   exact RetA.mk tabOk 0 rfl rfl rfl (by omega) rfl rfl rfl ⟨rfl, rfl, rfl⟩
 rw [if_neg c2]
 rw [decide_eq_false c2] at hD
 have hsl1 := slice_one s a c hc
 have hi1 : ((a : Nat) : Int) + 1 = ((a + 1 : Nat) : Int) := by omega
 have hi2 : (((a : Nat) : Int) + 1).toNat = a + 1 := by omega
 by_cases c3 : c.toNat = 46
 ·have q3 : (((c.toNat : Nat) : Int) == 46) = true := by rw [c3]; rfl
  have q33 : (((c.toNat : Nat) : Int) = 46) = True := eq_true (by omega)
  by_cases c4 : a + 1 < s.length
  ·have q4 : decide (((a : Nat) : Int) + 1 < (s.length : Nat)) = true := decide_eq_true (by omega)
   have q44 : (((a : Nat) : Int) + 1 < (s.length : Nat)) = True := eq_true (by omega)
   have hg2 : s[a + 1]? = some s[a + 1] := List.getElem?_eq_getElem c4
   have hb2 := byte_lt s[a + 1]
   generalize s[a + 1] = d at *
   have hS2 : FnA Tryz.prog 79 false [.int .u8 (d.toNat : Nat)] [] (fun res os ros => res = .bool (decide (SmP d.toNat)) ∧ os = [] ∧ ros = []) := l9Small_ok d.toNat hb2
   by_cases c5 : SmP d.toNat
   ·rw [if_pos ⟨c3, d, hg2, c5⟩]
    rw [decide_eq_true c5] at hS2
    have hsl := slice_dot s a c hc
    have hnn : ((a + 1 + (runQ true s (a + 1)).length : Nat) : Int).toNat = a + 1 + (runQ true s (a + 1)).length := by omega
    rw [← hi1] at hR3
    generalize hX : a + 1 + (runQ true s (a + 1)).length = X at *
    generalize runQ true s (a + 1) = w at *
    refine auto8c4_ 12 [] @hS @hD @hS2 @hR3 @hc @hg2 @hi2 @q3 @q33 @q4 @q44 @hsl ?_
    exact RetA.mk tabOk 0 rfl rfl rfl (by omega) rfl rfl rfl ⟨rfl, rfl, rfl⟩
   ·rw [if_neg (by rintro ⟨_, d', h1, h2⟩; rw [hg2] at h1; obtain rfl := Option.some.inj h1; exact c5 h2)]
    rw [decide_eq_false c5] at hS2
    clear hR1 hR2 hR3
    refine auto8c3_ 12 [] @hS @hD @hS2 @hc @hg2 @hi2 @q3 @q33 @q4 @q44 @hsl1 ?_
    exact RetA.mk tabOk 0 rfl rfl rfl (by omega) rfl rfl rfl ⟨rfl, rfl, rfl⟩
  ·rw [if_neg (by rintro ⟨_, d', h1, h2⟩; rw [List.getElem?_eq_none (by omega)] at h1; cases h1)]
   have q4 : decide (((a : Nat) : Int) + 1 < (s.length : Nat)) = false := decide_eq_false (by omega)
   have q44 : (((a : Nat) : Int) + 1 < (s.length : Nat)) = False := eq_false (by omega)
   clear hR1 hR2 hR3
   refine auto8c2_ 12 [] @hS @hD @hc @hi2 @q3 @q33 @q4 @q44 @hsl1 @hsl1 ?_
   exact RetA.mk tabOk 0 rfl rfl rfl (by omega) rfl rfl rfl ⟨rfl, rfl, rfl⟩
 ·rw [if_neg (fun h => c3 h.1)]
  have q3 : (((c.toNat : Nat) : Int) == 46) = false := beq_eq_false_iff_ne.2 (by omega)
  have q33 : (((c.toNat : Nat) : Int) = 46) = False := eq_false (by omega)
  clear hR1 hR2 hR3
  refine auto6c2_ 12 [] @hS @hD @hc @hi2 @q3 @q33 @hsl1 @hsl1 ?_
  exact RetA.mk tabOk 0 rfl rfl rfl (by omega) rfl rfl rfl ⟨rfl, rfl, rfl⟩
end Go.Proofs.YtiilnlihimdnlaaGreatDoorFw
