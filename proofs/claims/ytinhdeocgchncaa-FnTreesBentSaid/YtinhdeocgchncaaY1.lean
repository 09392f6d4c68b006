/- What lies over what, of trees whose names are each other's none but the root's: the program's and the reference's. No program in sight. -/
import Derived.Test.YtinhdeocgchncaaX5
namespace Go.Proofs.YtinhdeocgchncaaFw
open Go Go.RowKit
set_option linter.unusedVariables false
set_option linter.unusedSimpArgs false

mutual
def SegV.find (a : Str) : SegV → Option SegV
  | .mk n ms ks => if n = a then some (.mk n ms ks) else SegV.findL a ks
def SegV.findL (a : Str) : List SegV → Option SegV
  | [] => none
  | k :: r => match SegV.find a k with
    | some x => some x
    | none => SegV.findL a r
end

/-- Where what is found stands. -/
def FoundP (a : Str) (N : List Str) (Z : List Nat) : Option SegV → Prop
  | none => ¬ a ∈ N
  | some x => ∃ i : Nat, N[i]? = some a ∧ (∀ j : Nat, j < i → N[j]? ≠ some a) ∧ Z[i]? = some x.names.length ∧ x.names = (N.drop i).take x.names.length

theorem FoundP.right {a : Str} {N1 N2 : List Str} {Z1 Z2 : List Nat} {x : Option SegV} (hl : Z1.length = N1.length) (hn : ¬ a ∈ N1) (h : FoundP a N2 Z2 x) : FoundP a (N1 ++ N2) (Z1 ++ Z2) x := by
  cases x with
  | none => simp only [FoundP, List.mem_append, not_or] at h ⊢; exact ⟨hn, h⟩
  | some x =>
    obtain ⟨i, h1, h2, h3, h4⟩ := h
    refine ⟨N1.length + i, ?_, ?_, ?_, ?_⟩
    · rw [List.getElem?_append_right (by omega)]; rw [show N1.length + i - N1.length = i by omega]; exact h1
    · intro j hj e
      by_cases c : j < N1.length
      · rw [List.getElem?_append_left c] at e
        exact hn (List.mem_of_getElem? e)
      · rw [List.getElem?_append_right (by omega)] at e
        exact h2 _ (by omega) e
    · rw [List.getElem?_append_right (by omega), hl, show N1.length + i - N1.length = i by omega]; exact h3
    · rw [List.drop_append, List.drop_eq_nil_of_le (by omega), List.nil_append, show N1.length + i - N1.length = i by omega]; exact h4

theorem FoundP.left {a : Str} {N1 N2 : List Str} {Z1 Z2 : List Nat} {x : SegV} (hl : Z1.length = N1.length) (hf : Fi Z1) (h : FoundP a N1 Z1 (some x)) : FoundP a (N1 ++ N2) (Z1 ++ Z2) (some x) := by
  obtain ⟨i, h1, h2, h3, h4⟩ := h
  have hi := (List.getElem?_eq_some_iff.1 h1).1
  have hb := hf i _ h3
  refine ⟨i, ?_, ?_, ?_, ?_⟩
  · rw [List.getElem?_append_left hi]; exact h1
  · intro j hj e
    rw [List.getElem?_append_left (by omega)] at e
    exact h2 j hj e
  · rw [List.getElem?_append_left (by omega)]; exact h3
  · rw [List.drop_append_of_le_length (by omega), List.take_append_of_le_length (by rw [List.length_drop]; omega)]; exact h4

mutual
theorem find_at (a : Str) : ∀ s : SegV, FoundP a s.names s.sizes (s.find a)
  | .mk n ms ks => by
    have hk := findL_at a ks
    have hzl := SegV.sizesL_len ks
    rw [SegV.find, SegV.names, SegV.sizes]
    split
    · rename_i e
      subst e
      refine ⟨0, rfl, fun j hj => by omega, ?_, ?_⟩
      · simp only [List.getElem?_cons_zero, SegV.names, List.length_cons, Option.some.injEq]; omega
      · simp [SegV.names]
    · rename_i e
      exact FoundP.right (N1 := [n]) (Z1 := [1 + (SegV.sizesL ks).length]) rfl (by simpa using fun h => e h.symm) hk
theorem findL_at (a : Str) : ∀ l : List SegV, FoundP a (SegV.namesL l) (SegV.sizesL l) (SegV.findL a l)
  | [] => by simp [SegV.findL, SegV.namesL, FoundP]
  | s :: r => by
    have hs := find_at a s
    have hr := findL_at a r
    rw [SegV.findL, SegV.namesL, SegV.sizesL]
    cases hx : SegV.find a s with
    | none =>
      rw [hx] at hs
      exact FoundP.right (SegV.sizes_len s) hs hr
    | some x =>
      rw [hx] at hs
      exact FoundP.left (SegV.sizes_len s) (sizes_fi s) hs
end

theorem atI_none : ∀ (l : List Str) (a : Str) (k : Int), ¬ a ∈ l → atI l a k = -1
  | [], _, _, _ => rfl
  | x :: r, a, k, h => by
    simp only [List.mem_cons, not_or] at h
    rw [atI, if_neg (fun e => h.1 e.symm)]
    exact atI_none r a _ h.2
theorem atI_first : ∀ (l : List Str) (a : Str) (k : Int) (i : Nat), l[i]? = some a → (∀ j : Nat, j < i → l[j]? ≠ some a) → atI l a k = k + i
  | [], a, k, i, h, _ => by simp at h
  | x :: r, a, k, 0, h, _ => by
    simp only [List.getElem?_cons_zero, Option.some.injEq] at h
    simp [atI, h]
  | x :: r, a, k, i + 1, h, hf => by
    have h0 : ¬ x = a := fun e => hf 0 (by omega) (by simp [e])
    rw [atI, if_neg h0, atI_first r a (k + 1) i (by simpa using h) (fun j hj e => hf (j + 1) (by omega) (by simpa using e))]
    omega

/-- The program's. -/
def abI (s : SegV) (a b : Str) : Bool :=
  decide (0 ≤ atI s.names a 0) && decide (0 ≤ atI s.names b 0) &&
  (decide (atI s.names a 0 ≤ atI s.names b 0 ∧ atI s.names b 0 ≤ atI s.names a 0 + ((s.sizes.getD (atI s.names a 0).toNat 0 : Nat) : Int) - 1) ||
   decide (atI s.names b 0 ≤ atI s.names a 0 ∧ atI s.names a 0 ≤ atI s.names b 0 + ((s.sizes.getD (atI s.names b 0).toNat 0 : Nat) : Int) - 1))

/-- The reference's. -/
def abS (s : SegV) (a b : Str) : Bool :=
  match s.find a, s.find b with
  | some x, some y => (x.find b).isSome || (y.find a).isSome
  | _, _ => false

theorem abI_comm (s : SegV) (a b : Str) : abI s a b = abI s b a := by
  unfold abI
  generalize atI s.names a 0 = i
  generalize atI s.names b 0 = j
  rw [Bool.or_comm, Bool.and_comm (decide (0 ≤ i))]

theorem find_mem (s : SegV) (a : Str) : (s.find a).isSome = true ↔ a ∈ s.names := by
  have h := find_at a s
  cases hx : s.find a with
  | none => rw [hx] at h; simpa [FoundP] using h
  | some x =>
    rw [hx] at h
    obtain ⟨i, h1, _⟩ := h
    simpa using List.mem_of_getElem? h1

/-- No two names are alike, but that the root's may be another's. -/
theorem dup_root {n : Str} {T : List Str} (h : T.Nodup) {i j : Nat} {a : Str} (hi : (n :: T)[i]? = some a) (hj : (n :: T)[j]? = some a) (hij : i < j) : i = 0 := by
  rcases Nat.eq_zero_or_pos i with h0 | h0
  · exact h0
  exfalso
  obtain ⟨i, rfl⟩ : ∃ k, i = k + 1 := ⟨i - 1, by omega⟩
  obtain ⟨j, rfl⟩ : ∃ k, j = k + 1 := ⟨j - 1, by omega⟩
  rw [List.getElem?_cons_succ] at hi hj
  obtain ⟨h1, e1⟩ := List.getElem?_eq_some_iff.1 hi
  obtain ⟨h2, e2⟩ := List.getElem?_eq_some_iff.1 hj
  exact List.pairwise_iff_getElem.1 h i j h1 h2 (by omega) (e1.trans e2.symm)

theorem in_slice {N : List Str} {i m : Nat} {b : Str} : b ∈ (N.drop i).take m ↔ ∃ p : Nat, i ≤ p ∧ p < i + m ∧ N[p]? = some b := by
  constructor
  · intro h
    obtain ⟨q, hq⟩ := List.mem_iff_getElem?.1 h
    rw [List.getElem?_take] at hq
    split at hq
    · rw [List.getElem?_drop] at hq
      exact ⟨i + q, by omega, by omega, hq⟩
    · simp at hq
  · rintro ⟨p, h1, h2, h3⟩
    refine List.mem_iff_getElem?.2 ⟨p - i, ?_⟩
    rw [List.getElem?_take, if_pos (by omega), List.getElem?_drop, show i + (p - i) = p by omega]
    exact h3

theorem ab_same (n : Str) (ms : List Str) (ks : List SegV) (h : (SegV.namesL ks).Nodup) (a b : Str) : abI (.mk n ms ks) a b = abS (.mk n ms ks) a b := by
  have hA := find_at a (.mk n ms ks)
  have hB := find_at b (.mk n ms ks)
  have hN : (SegV.mk n ms ks).names = n :: SegV.namesL ks := by rw [SegV.names]
  have hZ0 : (SegV.mk n ms ks).sizes[0]? = some (SegV.mk n ms ks).names.length := by
    have := SegV.sizesL_len ks
    rw [SegV.sizes, SegV.names]; simp only [List.getElem?_cons_zero, List.length_cons, Option.some.injEq]; omega
  unfold abS abI
  cases hx : SegV.find a (.mk n ms ks) with
  | none =>
    rw [hx] at hA
    rw [atI_none _ _ _ hA]
    simp
  | some x =>
    cases hy : SegV.find b (.mk n ms ks) with
    | none =>
      rw [hy] at hB
      rw [atI_none _ _ _ hB]
      simp
    | some y =>
      rw [hx] at hA
      rw [hy] at hB
      obtain ⟨i, a1, a2, a3, a4⟩ := hA
      obtain ⟨j, b1, b2, b3, b4⟩ := hB
      have eI := atI_first _ a 0 i a1 a2
      have eJ := atI_first _ b 0 j b1 b2
      rw [Int.zero_add] at eI eJ
      have hil := (List.getElem?_eq_some_iff.1 a1).1
      have hjl := (List.getElem?_eq_some_iff.1 b1).1
      have hxm : (x.find b).isSome = true ↔ ∃ p : Nat, i ≤ p ∧ p < i + x.names.length ∧ (SegV.mk n ms ks).names[p]? = some b := by rw [find_mem]; rw [← in_slice, ← a4]
      have hym : (y.find a).isSome = true ↔ ∃ p : Nat, j ≤ p ∧ p < j + y.names.length ∧ (SegV.mk n ms ks).names[p]? = some a := by rw [find_mem]; rw [← in_slice, ← b4]
      have gI : (SegV.mk n ms ks).sizes.getD i 0 = x.names.length := by rw [List.getD_eq_getElem?_getD, a3]; rfl
      have gJ : (SegV.mk n ms ks).sizes.getD j 0 = y.names.length := by rw [List.getD_eq_getElem?_getD, b3]; rfl
      rw [eI, eJ, Int.toNat_natCast, Int.toNat_natCast, gI, gJ]
      have d1 : decide ((0 : Int) ≤ (i : Int)) = true := decide_eq_true (by omega)
      have d2 : decide ((0 : Int) ≤ (j : Int)) = true := decide_eq_true (by omega)
      rw [d1, d2, Bool.true_and, Bool.true_and]
      rw [hN] at a1 b1 hxm hym hZ0 hil hjl
      rw [Bool.eq_iff_iff, Bool.or_eq_true, Bool.or_eq_true, decide_eq_true_eq, decide_eq_true_eq, hxm, hym]
      constructor
      · rintro (c | c)
        · exact .inl ⟨j, by omega, by omega, b1⟩
        · exact .inr ⟨i, by omega, by omega, a1⟩
      · rintro (⟨p, p1, p2, p3⟩ | ⟨p, p1, p2, p3⟩)
        · rcases Nat.lt_trichotomy j p with c | c | c
          · have := dup_root h b1 p3 c
            subst this
            rw [b3] at hZ0
            obtain e := Option.some.inj hZ0
            right; omega
          · left; omega
          · exact absurd p3 (by rw [← hN]; exact b2 p c)
        · rcases Nat.lt_trichotomy i p with c | c | c
          · have := dup_root h a1 p3 c
            subst this
            rw [a3] at hZ0
            obtain e := Option.some.inj hZ0
            left; omega
          · right; omega
          · exact absurd p3 (by rw [← hN]; exact a2 p c)

end Go.Proofs.YtinhdeocgchncaaFw
