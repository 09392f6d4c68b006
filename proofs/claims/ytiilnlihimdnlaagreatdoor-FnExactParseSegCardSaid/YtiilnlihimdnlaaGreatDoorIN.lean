/- What a lexed line is, and how great a tree may be that is read of it (pure). -/
import Derived.Test.YtiilnlihimdnlaaGreatDoorIM
import Derived.Test.YtiilnlihimdnlaaGreatDoorID
namespace Go.Proofs.YtiilnlihimdnlaaGreatDoorFw
open Go Go.RowKit
set_option linter.unusedVariables false
set_option linter.unusedSimpArgs false
set_option maxRecDepth 4000
set_option pp.deepTerms.threshold 6
set_option pp.deepTerms false
def wT : List TokV → Nat
  | [] => 0
  | t :: r => t.s.length + wT r
theorem wT_app (a b : List TokV) : wT (a ++ b) = wT a + wT b := by
  induction a with
  | nil => simp [wT]
  | cons x r ih => simp only [List.cons_append, wT, ih]; omega
theorem oneV_w {s : Str} {a : Nat} {c : UInt8} (hc : s[a]? = some c) : (oneV s a c).1.s.length + a ≤ (oneV s a c).2 := by
  unfold oneV
  by_cases c1 : SmP c.toNat
  · rw [if_pos c1]
    simp only
    split <;> simp only <;> omega
  rw [if_neg c1]
  by_cases c2 : DigP c.toNat
  · rw [if_pos c2]; simp
  rw [if_neg c2]
  split
  · simp only [List.length_cons]; omega
  · simp only [List.length_cons, List.length_nil]; omega
theorem lexG_facts (s : Str) : ∀ (n a : Nat) (acc : List TokV), s.length - a ≤ n → a ≤ s.length → (∀ t ∈ acc, OkT t.k t.n t.s) → wT acc ≤ a → acc.length ≤ 800 → ∀ l, lexG s a acc = some l → (∀ t ∈ l, OkT t.k t.n t.s) ∧ wT l ≤ s.length ∧ l.length ≤ 800 := by
  intro n
  induction n with
  | zero =>
    intro a acc hn ha h1 h2 h3 l hl
    rw [lexG_end (by omega)] at hl
    obtain rfl := Option.some.inj hl
    exact ⟨h1, by omega, h3⟩
  | succ n ih =>
    intro a acc hn ha h1 h2 h3 l hl
    by_cases hlt : a < s.length
    · have hc : s[a]? = some s[a] := List.getElem?_eq_getElem hlt
      generalize s[a] = c at *
      by_cases c1 : c.toNat = 59
      · rw [lexG_semi hc c1] at hl
        obtain rfl := Option.some.inj hl
        exact ⟨h1, by omega, h3⟩
      by_cases c2 : c.toNat = 32 ∨ c.toNat = 9
      · rw [lexG_blank hc c2] at hl
        exact ih (a + 1) acc (by omega) (by omega) h1 (by omega) h3 l hl
      by_cases c3 : OkT (oneV s a c).1.k (oneV s a c).1.n (oneV s a c).1.s ∧ acc.length ≠ 800
      · rw [lexG_tok hc c1 c2 c3.1 c3.2] at hl
        have hg := oneV_gt hc
        have hw := oneV_w hc
        refine ih _ _ (by omega) hg.2.1 ?_ ?_ ?_ l hl
        · intro t ht
          rcases List.mem_append.1 ht with ht | ht
          · exact h1 t ht
          · rw [List.mem_singleton.1 ht]; exact c3.1
        · rw [wT_app]; simp only [wT]; omega
        · have := c3.2
          simp only [List.length_append, List.length_cons, List.length_nil]; omega
      · rw [lexG_bad hc c1 c2 c3] at hl; cases hl
    · rw [lexG_end hlt] at hl
      obtain rfl := Option.some.inj hl
      exact ⟨h1, by omega, h3⟩
theorem lexV_facts {s : Str} {l : List TokV} (h : lexV s = some l) : (∀ t ∈ l, OkT t.k t.n t.s) ∧ wT l ≤ s.length ∧ l.length ≤ 800 :=
  lexG_facts s s.length 0 [] (by omega) (by omega) (by simp) (by simp [wT]) (by simp) l h
theorem kept_len : ∀ w ∈ opW ++ regW, 2 ≤ w.length := by decide
theorem markOk_of {l : List TokV} (h : ∀ t ∈ l, OkT t.k t.n t.s) : MarkOk l := by
  intro t ht c hc e
  have h1 := h t ht
  rw [e] at h1
  have hcn : c.toNat = 40 ∨ c.toNat = 41 ∨ c.toNat = 44 ∨ c.toNat = 60 ∨ c.toNat = 62 := by
    simp only [List.mem_cons, List.not_mem_nil, or_false] at hc
    rcases hc with rfl | rfl | rfl | rfl | rfl <;> decide
  rcases h1 with ⟨_, _, h3⟩ | ⟨_, hn, h3 | h3 | h3 | h3⟩
  · cases h3
  · have := (h3.2.1.2.2 0 (by simp)).2 rfl
    simp only [List.getElem_cons_zero] at this
    omega
  · simp at h3
  · exact ⟨h3.1, hn⟩
  · have := kept_len _ h3.2
    simp at this
theorem isM_w {l : List TokV} {c : UInt8} (h : isM l [c] = true) : wT (l.drop 1) + 1 = wT l := by
  cases l with
  | nil => simp [isM] at h
  | cons t r =>
    simp only [isM, scEqL, scEq, Bool.and_eq_true, beq_iff_eq] at h
    have : t.s = [c] := by simpa using h.2.2
    simp only [List.drop_succ_cons, List.drop_zero, wT, this, List.length_cons, List.length_nil]; omega
theorem modsP_w : ∀ (n : Nat) (l : List TokV), l.length ≤ n → ∀ p, modsP l = some p → wT p.2 + totS p.1 ≤ wT l + 1
  | n, [], _, p, h => by rw [modsP] at h; cases h
  | 0, t :: r, hn, p, h => by simp at hn
  | n + 1, t :: r, hn, p, h => by
    rw [modsP] at h
    split at h
    · split at h
      · rename_i hm
        split at h
        · cases h
        · rename_i q hq
          have ih := modsP_w n (r.drop 1) (by simp at hn ⊢; omega) q hq
          have hw := isM_w hm
          obtain rfl := Option.some.inj h
          simp only [wT, totS, totL, List.length_cons] at *
          omega
      · obtain rfl := Option.some.inj h
        simp [wT, totS, totL]; omega
    · cases h
theorem kidsP_w {sg : List TokV → Option (SegV × List TokV)} (hs : ∀ l p, sg l = some p → wT p.2 + p.1.tot + 1 ≤ wT l) : ∀ (f : Nat) (l : List TokV) (p : List SegV × List TokV), kidsP sg f l = some p → wT p.2 + SegV.totL p.1 + p.1.length ≤ wT l
  | 0, l, p, h => by cases h
  | f + 1, l, p, h => by
    rw [kidsP] at h
    split at h
    · cases h
    · rename_i q hq
      have h1 := hs l q hq
      split at h
      · rename_i hm
        have hw := isM_w hm
        obtain rfl := Option.some.inj h
        simp only [SegV.totL, List.length_cons, List.length_nil]
        omega
      · split at h
        · cases h
        · rename_i z hz
          have ih := kidsP_w hs f q.2 z hz
          obtain rfl := Option.some.inj h
          simp only [SegV.totL, List.length_cons]
          omega
theorem segP_w : ∀ (d : Nat) (l : List TokV) (p : SegV × List TokV), segP d l = some p → wT p.2 + p.1.tot + 1 ≤ wT l
  | 0, l, p, h => by rw [segP] at h; cases h
  | d + 1, [], p, h => by rw [segP] at h; cases h
  | d + 1, t :: r, p, h => by
    rw [segP] at h
    split at h
    · rename_i hm
      have hw1 := isM_w hm.2
      split at h
      · cases h
      · rename_i q hq
        have hql : wT q.2 + totS q.1 ≤ wT (r.drop 1) + 1 := by
          split at hq
          · obtain rfl := Option.some.inj hq
            simp [totS, totL]
          · exact modsP_w _ (r.drop 1) (Nat.le_refl _) q hq
        split at h
        · rename_i hm2
          have hw2 := isM_w hm2
          split at h
          · rename_i hm3
            have hw3 := isM_w hm3
            split at h
            · cases h
            · rename_i z hz
              have := kidsP_w (fun l p => segP_w d l p) _ _ z hz
              obtain rfl := Option.some.inj h
              simp only [wT, SegV.tot] at *
              omega
          · obtain rfl := Option.some.inj h
            simp only [wT, SegV.tot, SegV.totL, List.length_nil] at *
            omega
        · cases h
    · cases h
end Go.Proofs.YtiilnlihimdnlaaGreatDoorFw
