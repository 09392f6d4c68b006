/- Lines as tokens: the reference's and the program's Lex. -/
import Derived.Test.YtiilnlihimdnlaaGreatDoorIB
import Derived.Test.YtiilnlihimdnlaaGreatDoorQI
set_option linter.unusedVariables false
set_option linter.unusedSimpArgs false
set_option maxRecDepth 4000
namespace Go.Proofs.YtiilnlihimdnlaaGreatDoorFw
open Go Go.RowKit Go.Proofs
theorem oneV_gt {s : Str} {a : Nat} {c : UInt8} (hc : s[a]? = some c) : a < (oneV s a c).2 ∧ (oneV s a c).2 ≤ s.length ∧ (oneV s a c).1.s.length ≤ s.length := by
 obtain ⟨hlt, hcc⟩ := List.getElem?_eq_some_iff.1 hc
 have l1 := runQ_le true s a (by omega)
 have l2 := runQ_le false s a (by omega)
 have l3 := runQ_le true s (a + 1) (by omega)
 unfold oneV
 by_cases c1 : SmP c.toNat
 ·rw [if_pos c1]
  obtain ⟨t, ht⟩ := runQ_cons hc (.inl c1)
  have : 1 ≤ (runQ true s a).length := by rw [ht]; simp
  refine ⟨by simp only; omega, by simp only; omega, ?_⟩
  simp only
  split <;> simp only <;> omega
 rw [if_neg c1]
 by_cases c2 : DigP c.toNat
 ·rw [if_pos c2]
  have : 1 ≤ (runQ false s a).length := by
   unfold runQ
   rw [List.drop_eq_getElem_cons hlt, hcc, List.takeWhile_cons_of_pos (by simp [ptQ, c2])]
   simp
  exact ⟨by simp only; omega, by simp only; omega, by simp⟩
 rw [if_neg c2]
 split
 ·exact ⟨by simp only; omega, by simp only; omega, by simp only [List.length_cons]; omega⟩
 ·exact ⟨by simp only; omega, by simp only; omega, by simp only [List.length_cons, List.length_nil]; omega⟩
noncomputable def lexG (s : Str) (a : Nat) (acc : List TokV) : Option (List TokV) :=
 if h : a < s.length then
  (if s[a].toNat = 59 then some acc
  else if s[a].toNat = 32 ∨ s[a].toNat = 9 then lexG s (a + 1) acc
  else if OkT (oneV s a s[a]).1.k (oneV s a s[a]).1.n (oneV s a s[a]).1.s ∧ acc.length ≠ 800 then lexG s (a + 1 + ((oneV s a s[a]).2 - (a + 1))) (acc ++ [(oneV s a s[a]).1])
  else none)
 else some acc
termination_by s.length - a
noncomputable def lexV (s : Str) : Option (List TokV) := lexG s 0 []
theorem lexG_end {s : Str} {a : Nat} {acc : List TokV} (h : ¬ a < s.length) : lexG s a acc = some acc := by rw [lexG, dif_neg h]
theorem lexG_semi {s : Str} {a : Nat} {acc : List TokV} {c : UInt8} (hc : s[a]? = some c) (h : c.toNat = 59) : lexG s a acc = some acc := by
 obtain ⟨hlt, rfl⟩ := List.getElem?_eq_some_iff.1 hc
 rw [lexG, dif_pos hlt, if_pos h]
theorem lexG_blank {s : Str} {a : Nat} {acc : List TokV} {c : UInt8} (hc : s[a]? = some c) (h : c.toNat = 32 ∨ c.toNat = 9) : lexG s a acc = lexG s (a + 1) acc := by
 obtain ⟨hlt, rfl⟩ := List.getElem?_eq_some_iff.1 hc
 rw [lexG, dif_pos hlt, if_neg (by omega), if_pos h]
theorem lexG_tok {s : Str} {a : Nat} {acc : List TokV} {c : UInt8} (hc : s[a]? = some c) (h1 : c.toNat ≠ 59) (h2 : ¬ (c.toNat = 32 ∨ c.toNat = 9)) (h3 : OkT (oneV s a c).1.k (oneV s a c).1.n (oneV s a c).1.s) (h4 : acc.length ≠ 800) :
 lexG s a acc = lexG s (oneV s a c).2 (acc ++ [(oneV s a c).1]) := by
 have hgt := oneV_gt hc
 obtain ⟨hlt, rfl⟩ := List.getElem?_eq_some_iff.1 hc
 rw [lexG, dif_pos hlt, if_neg h1, if_neg h2, if_pos ⟨h3, h4⟩, show a + 1 + ((oneV s a s[a]).2 - (a + 1)) = (oneV s a s[a]).2 by omega]
theorem lexG_bad {s : Str} {a : Nat} {acc : List TokV} {c : UInt8} (hc : s[a]? = some c) (h1 : c.toNat ≠ 59) (h2 : ¬ (c.toNat = 32 ∨ c.toNat = 9)) (h3 : ¬ (OkT (oneV s a c).1.k (oneV s a c).1.n (oneV s a c).1.s ∧ acc.length ≠ 800)) : lexG s a acc = none := by
 obtain ⟨hlt, rfl⟩ := List.getElem?_eq_some_iff.1 hc
 rw [lexG, dif_pos hlt, if_neg h1, if_neg h2, if_neg h3]
set_option maxHeartbeats 8000000 in
theorem lexS_ok (s : Str) (hl : s.length ≤ 1099511627776) : FnA Tryz.prog 21 false [.str s] [] (fun res os ros => res = .tup [.hd 100 [], .bool (lexV s).isSome] ∧ os = [] ∧ ros = [(3, toksA ((lexV s).getD []))]) := by
 refine FnA.of Tryz.func21 rfl (by decide) Tryz.ntmps21 (by simp) ?_
 refine run_ ?_
 refine RunsA.loop ?_
 refine (LoopA.ind (fun p : Nat × List TokV => ⟨52, [(0, .str s), (4, .hd 2304 []), (5, .int .i64 (p.1 : Nat))], [⟨2304, 3, toksA p.2⟩], false⟩) (fun p => s.length - p.1) (fun p => p.1 ≤ s.length ∧ p.2.length ≤ p.1 ∧ lexG s p.1 p.2 = lexV s) ?_ (0, []) ?_).sub rfl ?_ ?_ rfl
 ·rintro ⟨a, acc⟩ ⟨hi, hal, hv⟩ K3 hK3
  simp only at hi hal hv hK3 ⊢
  by_cases h2 : a < s.length
  ·have q1 : decide ((a : Int) < (s.length : Nat)) = true := decide_eq_true (by omega)
   have q11 : ((a : Int) < (s.length : Nat)) = True := eq_true (by omega)
   have hg : s[a]? = some s[a] := List.getElem?_eq_getElem h2
   generalize s[a] = c at *
   have hgt := oneV_gt hg
   by_cases c1 : c.toNat = 59
   ·have q2 : (((c.toNat : Nat) : Int) != 59) = false := by rw [c1]; rfl
    have q22 : (((c.toNat : Nat) : Int) = 59) = True := eq_true (by omega)
    rw [lexG_semi hg c1] at hv
    rw [← hv]
    refine auto6_ 8 [] @q1 @q11 @hg @q2 @q22 @q22 ?_
    refine rv_ ?_
    refine vren_ 2304 100 ?_
    exact RetV.mk 1 rfl rfl (by omega) rfl (by simp [noBoO, noBo_toks]) rfl ⟨rfl, rfl, rfl⟩
   have q2 : (((c.toNat : Nat) : Int) != 59) = true := bne_iff_ne.2 (by omega)
   have q22 : (((c.toNat : Nat) : Int) = 59) = False := eq_false (by omega)
   by_cases c2 : c.toNat = 32
   ·have q3 : (((c.toNat : Nat) : Int) == 32) = true := by rw [c2]; rfl
    have q33 : (((c.toNat : Nat) : Int) = 32) = True := eq_true (by omega)
    rw [lexG_blank hg (.inl c2)] at hv
    refine auto8_ 8 [] @q1 @q11 @hg @q2 @q22 @q3 @q33 @q33 ?_
    exact hK3 (a + 1, acc) _ ⟨by simp only; omega, by simp only; omega, hv⟩ (by simp only; omega) rfl (by simp [SubS, lookS]) (by simp [SubO, lookO]) rfl
   have q3 : (((c.toNat : Nat) : Int) == 32) = false := beq_eq_false_iff_ne.2 (by omega)
   have q33 : (((c.toNat : Nat) : Int) = 32) = False := eq_false (by omega)
   by_cases c3 : c.toNat = 9
   ·have q4 : (((c.toNat : Nat) : Int) == 9) = true := by rw [c3]; rfl
    have q44 : (((c.toNat : Nat) : Int) = 9) = True := eq_true (by omega)
    rw [lexG_blank hg (.inr c3)] at hv
    refine auto11_ 8 [] @q1 @q11 @hg @q2 @q22 @q3 @q33 @q4 @q44 @q44 @q44 ?_
    exact hK3 (a + 1, acc) _ ⟨by simp only; omega, by simp only; omega, hv⟩ (by simp only; omega) rfl (by simp [SubS, lookS]) (by simp [SubO, lookO]) rfl
   have q4 : (((c.toNat : Nat) : Int) == 9) = false := beq_eq_false_iff_ne.2 (by omega)
   have q44 : (((c.toNat : Nat) : Int) = 9) = False := eq_false (by omega)
   have hno : ¬ (c.toNat = 32 ∨ c.toNat = 9) := by omega
   have hT := l9One_ok s a c hg (by omega)
   have hyes := fun h3 h4 => lexG_tok (acc := acc) hg c1 hno h3 h4
   have hbad := fun h3 => lexG_bad (acc := acc) hg c1 hno h3
   have hsn : ∀ t : TokV, toksA acc ++ [.agg [.int .i64 t.k, .int .i64 t.n, .str t.s]] = toksA (acc ++ [t]) := fun t => by simp [toksA, tokA]
   generalize oneV s a c = t at *
   obtain ⟨⟨k, n, w⟩, e⟩ := t
   simp only at hgt hyes hbad
   simp only [tokA] at hT
   have hOk := tokenOk_ok k n w (by omega)
   have hsn2 := hsn ⟨k, n, w⟩
   simp only at hsn2
   by_cases c5 : OkT k n w
   ·rw [decide_eq_true c5] at hOk
    by_cases c6 : acc.length = 800
    ·have q5 : (((acc.length : Nat) : Int) == 800) = true := by rw [c6]; rfl
     have q55 : (((acc.length : Nat) : Int) = 800) = True := eq_true (by omega)
     rw [hbad (fun h => h.2 c6)] at hv
     rw [← hv]
     refine auto16c2_ 8 [] @hT @hOk @q1 @q11 @hg @q2 @q22 @q3 @q33 @q4 @q44 @q5 @q55 @toksA_len @toksA_len @toksA_len @toksA_len @toksA_len ?_
     refine rv_ ?_
     refine vren_ 11776 100 ?_
     exact RetV.mk 1 rfl rfl (by omega) rfl (by simp [noBoO, noBoL]) rfl ⟨rfl, rfl, rfl⟩
    ·have q5 : (((acc.length : Nat) : Int) == 800) = false := beq_eq_false_iff_ne.2 (by omega)
     have q55 : (((acc.length : Nat) : Int) = 800) = False := eq_false (by omega)
     rw [hyes c5 c6] at hv
     refine auto16c2_ 8 [] @hT @hOk @q1 @q11 @hg @q2 @q22 @q3 @q33 @q4 @q44 @q5 @q55 @toksA_len @hsn2 @hsn2 @hsn2 @hsn2 ?_
     exact hK3 (e, acc ++ [⟨k, n, w⟩]) _ ⟨by simp only; omega, by simp only [List.length_append, List.length_cons, List.length_nil]; omega, hv⟩ (by simp only; omega) rfl (by simp [SubS, lookS]) (by simp [SubO, lookO, hsn2]) rfl
   ·rw [decide_eq_false c5] at hOk
    rw [hbad (fun h => c5 h.1)] at hv
    rw [← hv]
    refine auto11c2_ 8 [] @hT @hOk @q1 @q11 @hg @q2 @q22 @q3 @q33 @q4 @q44 @toksA_len @toksA_len ?_
    refine rv_ ?_
    refine vren_ 11776 100 ?_
    exact RetV.mk 1 rfl rfl (by omega) rfl (by simp [noBoO, noBoL]) rfl ⟨rfl, rfl, rfl⟩
  ·have q1 : decide ((a : Int) < (s.length : Nat)) = false := decide_eq_false (by omega)
   have q11 : ((a : Int) < (s.length : Nat)) = False := eq_false (by omega)
   rw [lexG_end h2] at hv
   rw [← hv]
   refine auto2_ 8 [] @q1 @q11 ?_
   refine rv_ ?_
   refine vren_ 2304 100 ?_
   exact RetV.mk 1 rfl rfl (by omega) rfl (by simp [noBoO, noBo_toks]) rfl ⟨rfl, rfl, rfl⟩
 ·exact ⟨Nat.zero_le _, by simp, rfl⟩
 ·simp [SubS, lookS]
 ·simp [SubO, lookO, toksA]
end Go.Proofs.YtiilnlihimdnlaaGreatDoorFw
namespace Go.Proofs.YtiilnlihimdnlaaGreatDoorFw
open Go Go.RowKit Go.Proofs
set_option maxHeartbeats 8000000 in
theorem lexI_ok (s : Str) (hl : s.length ≤ 1099511627776) : FnA Tryz.prog 24 false [.str s] [] (fun res os ros => res = .tup [.hd 100 [], .bool (lexV s).isSome] ∧ os = [] ∧ ros = [(3, toksA ((lexV s).getD []))]) := by
 refine FnA.of Tryz.func24 rfl (by decide) Tryz.ntmps24 (by simp) ?_
 refine run_ ?_
 refine RunsA.loop ?_
 refine (LoopA.ind (fun p : Nat × List TokV => ⟨52, [(0, .str s), (4, .hd 2304 []), (5, .int .i64 (p.1 : Nat))], [⟨2304, 3, toksA p.2⟩], false⟩) (fun p => s.length - p.1) (fun p => p.1 ≤ s.length ∧ p.2.length ≤ p.1 ∧ lexG s p.1 p.2 = lexV s) ?_ (0, []) ?_).sub rfl ?_ ?_ rfl
 ·rintro ⟨a, acc⟩ ⟨hi, hal, hv⟩ K3 hK3
  simp only at hi hal hv hK3 ⊢
  by_cases h2 : a < s.length
  ·have q1 : decide ((a : Int) < (s.length : Nat)) = true := decide_eq_true (by omega)
   have q11 : ((a : Int) < (s.length : Nat)) = True := eq_true (by omega)
   have hg : s[a]? = some s[a] := List.getElem?_eq_getElem h2
   generalize s[a] = c at *
   have hgt := oneV_gt hg
   by_cases c1 : c.toNat = 59
   ·have q2 : (((c.toNat : Nat) : Int) != 59) = false := by rw [c1]; rfl
    have q22 : (((c.toNat : Nat) : Int) = 59) = True := eq_true (by omega)
    rw [lexG_semi hg c1] at hv
    rw [← hv]
    refine auto6_ 8 [] @q1 @q11 @hg @q2 @q22 @q22 ?_
    refine rv_ ?_
    refine vren_ 2304 100 ?_
    exact RetV.mk 1 rfl rfl (by omega) rfl (by simp [noBoO, noBo_toks]) rfl ⟨rfl, rfl, rfl⟩
   have q2 : (((c.toNat : Nat) : Int) != 59) = true := bne_iff_ne.2 (by omega)
   have q22 : (((c.toNat : Nat) : Int) = 59) = False := eq_false (by omega)
   by_cases c2 : c.toNat = 32
   ·have q3 : (((c.toNat : Nat) : Int) == 32) = true := by rw [c2]; rfl
    have q33 : (((c.toNat : Nat) : Int) = 32) = True := eq_true (by omega)
    rw [lexG_blank hg (.inl c2)] at hv
    refine auto8_ 8 [] @q1 @q11 @hg @q2 @q22 @q3 @q33 @q33 ?_
    exact hK3 (a + 1, acc) _ ⟨by simp only; omega, by simp only; omega, hv⟩ (by simp only; omega) rfl (by simp [SubS, lookS]) (by simp [SubO, lookO]) rfl
   have q3 : (((c.toNat : Nat) : Int) == 32) = false := beq_eq_false_iff_ne.2 (by omega)
   have q33 : (((c.toNat : Nat) : Int) = 32) = False := eq_false (by omega)
   by_cases c3 : c.toNat = 9
   ·have q4 : (((c.toNat : Nat) : Int) == 9) = true := by rw [c3]; rfl
    have q44 : (((c.toNat : Nat) : Int) = 9) = True := eq_true (by omega)
    rw [lexG_blank hg (.inr c3)] at hv
    refine auto11_ 8 [] @q1 @q11 @hg @q2 @q22 @q3 @q33 @q4 @q44 @q44 @q44 ?_
    exact hK3 (a + 1, acc) _ ⟨by simp only; omega, by simp only; omega, hv⟩ (by simp only; omega) rfl (by simp [SubS, lookS]) (by simp [SubO, lookO]) rfl
   have q4 : (((c.toNat : Nat) : Int) == 9) = false := beq_eq_false_iff_ne.2 (by omega)
   have q44 : (((c.toNat : Nat) : Int) = 9) = False := eq_false (by omega)
   have hno : ¬ (c.toNat = 32 ∨ c.toNat = 9) := by omega
   have hT := tokenAt_ok s a c hg (by omega)
   have hyes := fun h3 h4 => lexG_tok (acc := acc) hg c1 hno h3 h4
   have hbad := fun h3 => lexG_bad (acc := acc) hg c1 hno h3
   have hsn : ∀ t : TokV, toksA acc ++ [.agg [.int .i64 t.k, .int .i64 t.n, .str t.s]] = toksA (acc ++ [t]) := fun t => by simp [toksA, tokA]
   generalize oneV s a c = t at *
   obtain ⟨⟨k, n, w⟩, e⟩ := t
   simp only at hgt hyes hbad
   have hsn2 := hsn ⟨k, n, w⟩
   simp only at hsn2
   by_cases c5 : OkT k n w
   ·rw [tokR_ok (by exact c5)] at hT
    obtain ⟨d, rfl⟩ : ∃ d, e = a + (d + 1) := ⟨e - a - 1, by omega⟩
    simp only [tokA, Nat.add_sub_cancel_left] at hT
    have q6 : (((d + 1 : Nat) : Int) == 0) = false := beq_eq_false_iff_ne.2 (by omega)
    have q66 : (((d + 1 : Nat) : Int) = 0) = False := eq_false (by omega)
    have hae : ((a : Nat) : Int) + ((d + 1 : Nat) : Int) = ((a + (d + 1) : Nat) : Int) := by omega
    generalize hd1 : d + 1 = d1 at *
    by_cases c6 : acc.length = 800
    ·have q5 : (((acc.length : Nat) : Int) == 800) = true := by rw [c6]; rfl
     have q55 : (((acc.length : Nat) : Int) = 800) = True := eq_true (by omega)
     rw [hbad (fun h => h.2 c6)] at hv
     rw [← hv]
     refine auto16c1_ 8 [] @hT @q1 @q11 @hg @q2 @q22 @q3 @q33 @q4 @q44 @q5 @q55 @q6 @q66 @toksA_len @toksA_len @toksA_len ?_
     refine rv_ ?_
     refine vren_ 768 100 ?_
     exact RetV.mk 1 rfl rfl (by omega) rfl (by simp [noBoO, noBoL]) rfl ⟨rfl, rfl, rfl⟩
    ·have q5 : (((acc.length : Nat) : Int) == 800) = false := beq_eq_false_iff_ne.2 (by omega)
     have q55 : (((acc.length : Nat) : Int) = 800) = False := eq_false (by omega)
     rw [hyes c5 c6] at hv
     refine auto16c1_ 8 [] @hT @q1 @q11 @hg @q2 @q22 @q3 @q33 @q4 @q44 @q5 @q55 @q6 @q66 @toksA_len @hsn2 @hae ?_
     exact hK3 (a + d1, acc ++ [⟨k, n, w⟩]) _ ⟨by simp only; omega, by simp only [List.length_append, List.length_cons, List.length_nil]; omega, hv⟩ (by simp only; omega) rfl (by simp [SubS, lookS]) (by simp [SubO, lookO, hsn2]) rfl
   ·rw [tokR_no (by exact c5)] at hT
    rw [hbad (fun h => c5 h.1)] at hv
    rw [← hv]
    refine auto11c1_ 8 [] @hT @q1 @q11 @hg @q2 @q22 @q3 @q33 @q4 @q44 @toksA_len @toksA_len ?_
    refine rv_ ?_
    refine vren_ 768 100 ?_
    exact RetV.mk 1 rfl rfl (by omega) rfl (by simp [noBoO, noBoL]) rfl ⟨rfl, rfl, rfl⟩
  ·have q1 : decide ((a : Int) < (s.length : Nat)) = false := decide_eq_false (by omega)
   have q11 : ((a : Int) < (s.length : Nat)) = False := eq_false (by omega)
   rw [lexG_end h2] at hv
   rw [← hv]
   refine auto2_ 8 [] @q1 @q11 ?_
   refine rv_ ?_
   refine vren_ 2304 100 ?_
   exact RetV.mk 1 rfl rfl (by omega) rfl (by simp [noBoO, noBo_toks]) rfl ⟨rfl, rfl, rfl⟩
 ·exact ⟨Nat.zero_le _, by simp, rfl⟩
 ·simp [SubS, lookS]
 ·simp [SubO, lookO, toksA]
end Go.Proofs.YtiilnlihimdnlaaGreatDoorFw
namespace Go.Proofs.YtiilnlihimdnlaaGreatDoorFw
open Go Go.RowKit
def wT : List TokV → Nat
 | [] => 0
 | t :: r => t.s.length + wT r
theorem wT_app (a b : List TokV) : wT (a ++ b) = wT a + wT b := by
 induction a with
 | nil => simp [wT]
 | cons x r ih => simp only [List.cons_append, wT, ih]; omega
theorem oneV_w {s : Str} {a : Nat} {c : UInt8} (hc : s[a]? = some c) : (oneV s a c).1.s.length + a ≤ (oneV s a c).2 := by
 unfold oneV
 by_cases c1 : SmP c.toNat
 ·rw [if_pos c1]
  simp only
  split <;> simp only <;> omega
 rw [if_neg c1]
 by_cases c2 : DigP c.toNat
 ·rw [if_pos c2]; simp
 rw [if_neg c2]
 split
 ·simp only [List.length_cons]; omega
 ·simp only [List.length_cons, List.length_nil]; omega
theorem lexG_facts (s : Str) : ∀ (n a : Nat) (acc : List TokV), s.length - a ≤ n → a ≤ s.length → (∀ t ∈ acc, OkT t.k t.n t.s) → wT acc ≤ a → acc.length ≤ 800 → ∀ l, lexG s a acc = some l → (∀ t ∈ l, OkT t.k t.n t.s) ∧ wT l ≤ s.length ∧ l.length ≤ 800 := by
 intro n
 induction n with
 | zero =>
  intro a acc hn ha h1 h2 h3 l hl
  rw [lexG_end (by omega)] at hl
  obtain rfl := Option.some.inj hl
  exact ⟨h1, by omega, h3⟩
 | succ n ih =>
  intro a acc hn ha h1 h2 h3 l hl
  by_cases hlt : a < s.length
  ·have hc : s[a]? = some s[a] := List.getElem?_eq_getElem hlt
   generalize s[a] = c at *
   by_cases c1 : c.toNat = 59
   ·rw [lexG_semi hc c1] at hl
    obtain rfl := Option.some.inj hl
    exact ⟨h1, by omega, h3⟩
   by_cases c2 : c.toNat = 32 ∨ c.toNat = 9
   ·rw [lexG_blank hc c2] at hl
    exact ih (a + 1) acc (by omega) (by omega) h1 (by omega) h3 l hl
   by_cases c3 : OkT (oneV s a c).1.k (oneV s a c).1.n (oneV s a c).1.s ∧ acc.length ≠ 800
   ·rw [lexG_tok hc c1 c2 c3.1 c3.2] at hl
    have hg := oneV_gt hc
    have hw := oneV_w hc
    refine ih _ _ (by omega) hg.2.1 ?_ ?_ ?_ l hl
    ·intro t ht
     rcases List.mem_append.1 ht with ht | ht
     ·exact h1 t ht
     ·rw [List.mem_singleton.1 ht]; exact c3.1
    ·rw [wT_app]; simp only [wT]; omega
    ·have := c3.2
     simp only [List.length_append, List.length_cons, List.length_nil]; omega
   ·rw [lexG_bad hc c1 c2 c3] at hl; cases hl
  ·rw [lexG_end hlt] at hl
   obtain rfl := Option.some.inj hl
   exact ⟨h1, by omega, h3⟩
theorem lexV_facts {s : Str} {l : List TokV} (h : lexV s = some l) : (∀ t ∈ l, OkT t.k t.n t.s) ∧ wT l ≤ s.length ∧ l.length ≤ 800 :=
 lexG_facts s s.length 0 [] (by omega) (by omega) (by simp) (by simp [wT]) (by simp) l h
end Go.Proofs.YtiilnlihimdnlaaGreatDoorFw
