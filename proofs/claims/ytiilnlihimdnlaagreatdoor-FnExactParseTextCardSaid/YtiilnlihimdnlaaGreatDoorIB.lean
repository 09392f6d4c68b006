/- Tokens read at a place: the program's tokenAt. -/
import Derived.Test.YtiilnlihimdnlaaGreatDoorIA
namespace Go.Proofs.YtiilnlihimdnlaaGreatDoorFw
open Go Go.RowKit Go.Proofs
set_option linter.unusedVariables false
set_option linter.unusedSimpArgs false
set_option maxRecDepth 4000
theorem formB {s : Str} (h : (decide (1 ≤ s.length) && decide (s.length ≤ 6) && (s.all fun b => decide (PartP b.toNat)) && (match s with | [] => false | c :: _ => decide (SmP c.toNat))) = true) : FormP s := by
 simp only [Bool.and_eq_true, decide_eq_true_eq, List.all_eq_true] at h
 obtain ⟨⟨⟨h1, h2⟩, h3⟩, h4⟩ := h
 refine ⟨h1, h2, fun i hi => ⟨h3 _ (List.getElem_mem hi), fun h0 => ?_⟩⟩
 subst h0
 cases s with
 | nil => simp at hi
 | cons c r => exact of_decide_eq_true h4
theorem kept_form : ∀ w ∈ opW ++ regW, FormP w := by
 intro w hw
 refine formB ?_
 revert w
 decide +kernel
theorem runQ_cons {s : Str} {a : Nat} {c : UInt8} (hc : s[a]? = some c) (h : SmP c.toNat ∨ DigP c.toNat) : ∃ t, runQ true s a = c :: t := by
 obtain ⟨hlt, hcc⟩ := List.getElem?_eq_some_iff.1 hc
 unfold runQ
 rw [List.drop_eq_getElem_cons hlt, hcc, List.takeWhile_cons_of_pos (by rcases h with h | h <;> simp [ptQ, h])]
 exact ⟨_, rfl⟩
theorem runQ_nil {s : Str} {a : Nat} (h : ∀ c, s[a]? = some c → ¬ SmP c.toNat ∧ ¬ DigP c.toNat) : runQ true s a = [] := by
 unfold runQ
 rcases Nat.lt_or_ge a s.length with hlt | hge
 ·obtain ⟨h1, h2⟩ := h s[a] (List.getElem?_eq_getElem hlt)
  rw [List.drop_eq_getElem_cons hlt, List.takeWhile_cons_of_neg (by simp [ptQ, h1, h2])]
 ·rw [List.drop_eq_nil_of_le hge]; rfl
theorem runQ_all (s : Str) (a : Nat) : ∀ x ∈ runQ true s a, PartP x.toNat := by
 intro x hx
 unfold runQ at hx
 have h1 := List.all_eq_true.1 (List.all_takeWhile (p := ptQ true) (l := s.drop a)) x hx
 simp only [ptQ, Bool.true_and, Bool.or_eq_true, decide_eq_true_eq] at h1
 rcases h1 with h | h
 ·exact .inr h
 ·exact .inl h
theorem runQ_form {s : Str} {a : Nat} {c : UInt8} (hc : s[a]? = some c) (h : SmP c.toNat) : FormP (runQ true s a) ↔ (runQ true s a).length ≤ 6 := by
 obtain ⟨t, ht⟩ := runQ_cons hc (.inl h)
 have hall := runQ_all s a
 rw [ht] at hall ⊢
 refine ⟨fun h => h.2.1, fun hl => ⟨by simp, hl, fun i hi => ⟨hall _ (List.getElem_mem hi), fun h0 => ?_⟩⟩⟩
 subst h0
 exact h
noncomputable def tokR (t : TokV × Nat) (a : Nat) : AV := if OkT t.1.k t.1.n t.1.s then .tup [tokA t.1, .int .i64 ((t.2 - a : Nat))] else .tup [.agg [.int .i64 0, .int .i64 0, .str []], .int .i64 0]
theorem tokR_ok {t : TokV × Nat} {a : Nat} (h : OkT t.1.k t.1.n t.1.s) : tokR t a = .tup [tokA t.1, .int .i64 ((t.2 - a : Nat))] := if_pos h
theorem tokR_no {t : TokV × Nat} {a : Nat} (h : ¬ OkT t.1.k t.1.n t.1.s) : tokR t a = .tup [.agg [.int .i64 0, .int .i64 0, .str []], .int .i64 0] := if_neg h
set_option maxHeartbeats 8000000 in
theorem tokenAt_ok (s : Str) (a : Nat) (c : UInt8) (hc : s[a]? = some c) (hl : s.length ≤ 140737488355328) :
 FnA Tryz.prog 53 false [.str s, .int .i64 a] [] (fun res os ros => res = tokR (oneV s a c) a ∧ os = [] ∧ ros = []) := by
 obtain ⟨hlt, _⟩ := List.getElem?_eq_some_iff.1 hc
 have hb := byte_lt c
 have hLt : FnA Tryz.prog 92 false [.int .u8 (c.toNat : Nat)] [] (fun res os ros => res = .bool (decide (SmP c.toNat)) ∧ os = [] ∧ ros = []) := isLetter_ok c.toNat hb
 have hR := runFrom_ok s a (by omega) hl
 rw [← runQ_V] at hR
 have hle := runQ_le true s a (by omega)
 refine FnA.of Tryz.func53 rfl (by decide) Tryz.ntmps53 (by simp) ?_
 by_cases c1 : SmP c.toNat
 ·obtain ⟨t0, ht0⟩ := runQ_cons hc (.inl c1)
  have hfm := runQ_form hc c1
  have hne : (runQ true s a == []) = false := by rw [ht0]; rfl
  have hO : oneV s a c = ((if runQ true s a ∈ opW ++ regW then ⟨5, 0, runQ true s a⟩ else ⟨1, 0, runQ true s a⟩), a + (runQ true s a).length) := if_pos c1
  rw [hO]
  rw [decide_eq_true c1] at hLt
  have hF := hasForm_ok (runQ true s a) (by omega)
  have hK := isKept_ok (runQ true s a)
  clear hO ht0 hR
  have hR := runFrom_ok s a (by omega) hl
  rw [← runQ_V] at hR
  generalize runQ true s a = w at *
  by_cases cf : FormP w
  ·rw [decide_eq_true cf] at hF
   by_cases ck : w ∈ opW ++ regW
   ·rw [if_pos ck]
    rw [decide_eq_true ck] at hK
    rw [tokR_ok (by exact (okT_5 w).2 ck)]
    simp only [Nat.add_sub_cancel_left, tokA]
    refine auto2c4_ 8 [] @hR @hLt @hF @hK @hc @hne ?_
    exact RetA.mk tabOk 0 rfl rfl rfl (by omega) rfl rfl rfl ⟨rfl, rfl, rfl⟩
   ·rw [if_neg ck]
    rw [decide_eq_false ck] at hK
    rw [tokR_ok (by exact (okT_1 w).2 ⟨cf, ck⟩)]
    simp only [Nat.add_sub_cancel_left, tokA]
    refine auto2c4_ 8 [] @hR @hLt @hF @hK @hc @hne ?_
    exact RetA.mk tabOk 0 rfl rfl rfl (by omega) rfl rfl rfl ⟨rfl, rfl, rfl⟩
  ·rw [decide_eq_false cf] at hF
   have ck : ¬ w ∈ opW ++ regW := fun h => cf (kept_form w h)
   rw [if_neg ck, tokR_no (by exact fun h => cf ((okT_1 w).1 h).1)]
   refine auto2c3_ 8 [] @hR @hLt @hF @hc @hne ?_
   exact RetA.mk tabOk 0 rfl rfl rfl (by omega) rfl rfl rfl ⟨rfl, rfl, rfl⟩
 rw [decide_eq_false c1] at hLt
 by_cases c2 : DigP c.toNat
 ·obtain ⟨t0, ht0⟩ := runQ_cons hc (.inr c2)
  have hne : (runQ true s a == []) = false := by rw [ht0]; rfl
  have hO : oneV s a c = (⟨2, octN (runQ false s a), []⟩, a + (runQ false s a).length) := by rw [oneV, if_neg c1, if_pos c2]
  rw [hO]
  have hN := numberAt_ok s a (by omega) hl
  clear hO ht0
  generalize runQ true s a = w at *
  generalize runQ false s a = v at *
  cases ev : octV v with
  | some n =>
   have e1 : octN v = n := by rw [octN, ev]
   have e2 : numR v = .tup [.agg [.int .i64 2, .int .i64 n, .str []], .int .i64 (v.length : Nat)] := by rw [numR, ev]
   have h6 := (octV_some.1 ev).1
   rw [e1, tokR_ok (by exact (okT_2 _ _).2 ⟨⟨by simp only; omega, by simp only; omega⟩, rfl⟩)]
   rw [e2] at hN
   simp only [Nat.add_sub_cancel_left, tokA]
   refine auto2c3_ 8 [] @hR @hLt @hN @hc @hne ?_
   exact RetA.mk tabOk 0 rfl rfl rfl (by omega) rfl rfl rfl ⟨rfl, rfl, rfl⟩
  | none =>
   have e1 : octN v = -1 := by rw [octN, ev]
   have e2 : numR v = .tup [.agg [.int .i64 0, .int .i64 0, .str []], .int .i64 0] := by rw [numR, ev]
   rw [e1, tokR_no (by exact fun h => by have := ((okT_2 _ _).1 h).1.1; simp at this)]
   rw [e2] at hN
   refine auto2c3_ 8 [] @hR @hLt @hN @hc @hne ?_
   exact RetA.mk tabOk 0 rfl rfl rfl (by omega) rfl rfl rfl ⟨rfl, rfl, rfl⟩
 have hnil : runQ true s a = [] := runQ_nil (fun d hd => by rw [hc] at hd; obtain rfl := Option.some.inj hd; exact ⟨c1, c2⟩)
 rw [hnil] at hR
 have hI := idxByte_ok marksS c
 have hmk := idx_marks c
 have hsl1 := slice_one s a c hc
 have hi2 : (((a : Nat) : Int) + 1).toNat = a + 1 := by omega
 have hi1 : ((a : Nat) : Int) + 1 = ((a + 1 : Nat) : Int) := by omega
 have hMark : ¬ (c.toNat = 46 ∧ ∃ d, s[a + 1]? = some d ∧ SmP d.toNat) → tokR (oneV s a c) a = if c ∈ marksS then .tup [.agg [.int .i64 4, .int .i64 0, .str [c]], .int .i64 1] else .tup [.agg [.int .i64 0, .int .i64 0, .str []], .int .i64 0] := by
  intro hno
  have hO : oneV s a c = (⟨4, 0, [c]⟩, a + 1) := by rw [oneV, if_neg c1, if_neg c2, if_neg hno]
  rw [hO]
  by_cases hm : c ∈ marksS
  ·rw [if_pos hm, tokR_ok (by exact (okT_4 _).2 ⟨c, hm, rfl⟩)]
   simp only [Nat.add_sub_cancel_left, tokA]
   rfl
  ·rw [if_neg hm, tokR_no (by exact fun h => by obtain ⟨d, hd, e⟩ := (okT_4 _).1 h; obtain rfl := (List.cons.inj e).1; exact hm hd)]
 obtain ⟨ix, hix⟩ : ∃ i, Lib.indexByte marksS c = i := ⟨_, rfl⟩
 rw [hix] at hI hmk
 clear hix
 unfold marksS at hI
 by_cases c3 : c.toNat = 46
 ·have q3 : (((c.toNat : Nat) : Int) == 46) = true := by rw [c3]; rfl
  have q33 : (((c.toNat : Nat) : Int) = 46) = True := eq_true (by omega)
  have hcm : c ∈ marksS := by
   have : c = 46 := by apply UInt8.toNat_inj.1; rw [c3]; rfl
   rw [this]; decide
  rw [decide_eq_true hcm, Bool.not_true] at hmk
  have hmk2 : (ix < 0) = False := eq_false (of_decide_eq_false hmk)
  rw [if_pos hcm] at hMark
  have hR2 := runFrom_ok s (a + 1) (by omega) hl
  rw [← runQ_V, ← hi1] at hR2
  by_cases c4 : ∃ d, s[a + 1]? = some d ∧ (SmP d.toNat ∨ DigP d.toNat)
  ·obtain ⟨d, hd, hdd⟩ := c4
   obtain ⟨hlt2, _⟩ := List.getElem?_eq_some_iff.1 hd
   obtain ⟨t0, ht0⟩ := runQ_cons hd hdd
   have hne : (runQ true s (a + 1) != []) = true := by rw [ht0]; rfl
   have hg0 : (runQ true s (a + 1))[0]? = some d := by rw [ht0]; rfl
   have hb2 := byte_lt d
   have hL2 : FnA Tryz.prog 92 false [.int .u8 (d.toNat : Nat)] [] (fun res os ros => res = .bool (decide (SmP d.toNat)) ∧ os = [] ∧ ros = []) := isLetter_ok d.toNat hb2
   have hle2 := runQ_le true s (a + 1) (by omega)
   by_cases c5 : SmP d.toNat
   ·rw [decide_eq_true c5] at hL2
    have hO : oneV s a c = (⟨3, 0, c :: runQ true s (a + 1)⟩, a + 1 + (runQ true s (a + 1)).length) := by rw [oneV, if_neg c1, if_neg c2, if_pos ⟨c3, d, hd, c5⟩]
    rw [hO]
    have hF := hasForm_ok (runQ true s (a + 1)) (by omega)
    have hc46 : c = 46 := by apply UInt8.toNat_inj.1; rw [c3]; rfl
    have hwl : 1 ≤ (runQ true s (a + 1)).length := by rw [ht0]; simp
    have hok : OkT 3 0 (c :: runQ true s (a + 1)) ↔ FormP (runQ true s (a + 1)) := by
     rw [okT_3]
     exact ⟨fun h => h.2.2, fun h => ⟨by simp only [List.length_cons]; omega, by rw [hc46]; rfl, h⟩⟩
    have hlen : a + 1 + (runQ true s (a + 1)).length - a = 1 + (runQ true s (a + 1)).length := by omega
    clear hMark hI hmk hO ht0 hLt
    generalize runQ true s (a + 1) = w at *
    by_cases cf : FormP w
    ·rw [decide_eq_true cf] at hF
     rw [tokR_ok (by exact hok.2 cf)]
     simp only [hlen, tokA]
     rw [hc46]
     refine auto6c4_ 8 [] @hR @hR2 @hL2 @hF @hc @hi2 @q3 @q33 @hne @hg0 ?_
     exact RetA.mk tabOk 0 rfl rfl rfl (by omega) rfl rfl rfl ⟨rfl, rfl, rfl⟩
    ·rw [decide_eq_false cf] at hF
     rw [tokR_no (by exact fun h => cf (hok.1 h))]
     refine auto6c4_ 8 [] @hR @hR2 @hL2 @hF @hc @hi2 @q3 @q33 @hne @hg0 ?_
     exact RetA.mk tabOk 0 rfl rfl rfl (by omega) rfl rfl rfl ⟨rfl, rfl, rfl⟩
   ·rw [decide_eq_false c5] at hL2
    rw [hMark (by rintro ⟨_, d', h1, h2⟩; rw [hd] at h1; obtain rfl := Option.some.inj h1; exact c5 h2)]
    clear hMark ht0
    generalize runQ true s (a + 1) = w at *
    refine auto11c4_ 8 [] @hR @hR2 @hL2 @hI @hc @hi2 @q3 @q33 @hne @hg0 @hmk @hmk2 @hsl1 @hsl1 @hsl1 ?_
    exact RetA.mk tabOk 0 rfl rfl rfl (by omega) rfl rfl rfl ⟨rfl, rfl, rfl⟩
  ·have hn2 : runQ true s (a + 1) = [] := runQ_nil (fun d hd => ⟨fun h => c4 ⟨d, hd, .inl h⟩, fun h => c4 ⟨d, hd, .inr h⟩⟩)
   rw [hn2] at hR2
   rw [hMark (by rintro ⟨_, d', h1, h2⟩; exact c4 ⟨d', h1, .inl h2⟩)]
   clear hMark
   refine auto8c3_ 8 [] @hR @hR2 @hI @hc @hi2 @q3 @q33 @hmk @hmk2 @hsl1 @hsl1 ?_
   exact RetA.mk tabOk 0 rfl rfl rfl (by omega) rfl rfl rfl ⟨rfl, rfl, rfl⟩
 ·have q3 : (((c.toNat : Nat) : Int) == 46) = false := beq_eq_false_iff_ne.2 (by omega)
  have q33 : (((c.toNat : Nat) : Int) = 46) = False := eq_false (by omega)
  rw [hMark (fun h => c3 h.1)]
  clear hMark
  by_cases hm : c ∈ marksS
  ·rw [if_pos hm]
   rw [decide_eq_true hm, Bool.not_true] at hmk
   have hmk2 : (ix < 0) = False := eq_false (of_decide_eq_false hmk)
   refine auto8c2_ 8 [] @hR @hI @hc @hi2 @q3 @q33 @hmk @hmk2 @hsl1 @hsl1 ?_
   exact RetA.mk tabOk 0 rfl rfl rfl (by omega) rfl rfl rfl ⟨rfl, rfl, rfl⟩
  ·rw [if_neg hm]
   rw [decide_eq_false hm, Bool.not_false] at hmk
   have hmk2 : (ix < 0) = True := eq_true (of_decide_eq_true hmk)
   refine auto8c2_ 8 [] @hR @hI @hc @hi2 @q3 @q33 @hmk @hmk2 @hsl1 @hsl1 ?_
   exact RetA.mk tabOk 0 rfl rfl rfl (by omega) rfl rfl rfl ⟨rfl, rfl, rfl⟩
end Go.Proofs.YtiilnlihimdnlaaGreatDoorFw
