/- Trees of segments that are right: both ways tell the same. -/
import Derived.Test.YtiilnlihimdnlaaGreatDoorS5
namespace Go.Proofs.YtiilnlihimdnlaaGreatDoorFw
open Go Go.RowKit
set_option linter.unusedVariables false
set_option linter.unusedSimpArgs false
def TreeQ : Nat → SegV → Prop
  | 0, _ => False
  | d + 1, .mk n ms ks => NameP n ∧ ms.length ≤ 6 ∧ (∀ m ∈ ms, NameP m) ∧ ∀ k ∈ ks, TreeQ d k
theorem names_pos : ∀ s : SegV, 1 ≤ s.names.length
  | .mk n ms ks => by simp [SegV.names]
theorem namesL_ge : ∀ l : List SegV, l.length ≤ (SegV.namesL l).length
  | [] => by simp [SegV.namesL]
  | s :: r => by
    have := namesL_ge r
    have := names_pos s
    simp only [SegV.namesL, List.length_append, List.length_cons]; omega
theorem namesL_mem : ∀ (l : List SegV) (s : SegV), s ∈ l → s.names.length ≤ (SegV.namesL l).length
  | x :: r, s, h => by
    simp only [SegV.namesL, List.length_append]
    rcases List.mem_cons.1 h with e | e
    · subst e; omega
    · have := namesL_mem r s e; omega
theorem treeP_iff : ∀ (d : Nat) (s : SegV), s.names.length ≤ 12 → (TreeP d s ↔ TreeQ d s)
  | 0, _, _ => Iff.rfl
  | d + 1, .mk n ms ks, h => by
    have h1 : (SegV.namesL ks).length ≤ 11 := by simp only [SegV.names, List.length_cons] at h; omega
    have h2 := namesL_ge ks
    have hk : ∀ k ∈ ks, (TreeP d k ↔ TreeQ d k) := fun k hk => treeP_iff d k (by have := namesL_mem ks k hk; omega)
    constructor
    · rintro ⟨a1, a2, a3, a4, a5⟩
      exact ⟨a1, a2, a4, fun k hm => (hk k hm).1 (a5 k hm)⟩
    · rintro ⟨a1, a2, a4, a5⟩
      exact ⟨a1, a2, by omega, a4, fun k hm => (hk k hm).2 (a5 k hm)⟩
theorem addM_bad (r : Seen) (l : List Str) (h : r.bad = true) : (addM r l).bad = true := by
  induction l generalizing r with
  | nil => exact h
  | cons m t ih => exact ih (stepM r m) (by simp [stepM, h])
theorem addM_iff : ∀ (l : List Str) (r : Seen), r.bad = false → r.mods.Nodup → ((addM r l).bad = false ↔ (∀ m ∈ l, NameP m) ∧ (r.mods ++ l).Nodup)
  | [], r, h, hn => by simp [addM, h, hn]
  | m :: t, r, h, hn => by
    have e : addM r (m :: t) = addM (stepM r m) t := rfl
    rw [e]
    by_cases c : ¬ NameP m ∨ m ∈ r.mods
    · have hb : (stepM r m).bad = true := by simp only [stepM, h, Bool.false_or]; exact decide_eq_true c
      rw [addM_bad _ _ hb]
      constructor
      · intro h2; cases h2
      · rintro ⟨h2, h3⟩
        exfalso
        rcases c with c | c
        · exact c (h2 m (by simp))
        · rw [List.nodup_append] at h3
          exact h3.2.2 m c m (by simp) rfl
    · have hb : (stepM r m).bad = false := by simp only [stepM, h, Bool.false_or]; exact decide_eq_false c
      have hm : (stepM r m).mods = r.mods ++ [m] := rfl
      have c1 : NameP m := Classical.byContradiction fun h2 => c (.inl h2)
      have c2 : ¬ m ∈ r.mods := fun h2 => c (.inr h2)
      have hn2 : (r.mods ++ [m]).Nodup := by
        rw [List.nodup_append]
        refine ⟨hn, by simp, fun a ha b hb2 => ?_⟩
        rw [List.mem_singleton.1 hb2]
        intro h2; rw [h2] at ha; exact c2 ha
      rw [addM_iff t _ hb (by rw [hm]; exact hn2), hm, List.append_assoc]
      simp only [List.singleton_append]
      constructor
      · rintro ⟨h2, h3⟩
        refine ⟨fun x hx => ?_, h3⟩
        rcases List.mem_cons.1 hx with h4 | h4
        · rw [h4]; exact c1
        · exact h2 x h4
      · rintro ⟨h2, h3⟩
        exact ⟨fun x hx => h2 x (by simp [hx]), h3⟩
theorem walkV_bad (s : SegV) (d : Int) (r : Seen) (h : r.bad = true) : (walkV s d r).bad = true := by
  obtain ⟨n, ms, ks⟩ := s
  unfold walkV
  rw [if_pos (.inl h)]; rfl
theorem walkL_bad (l : List SegV) (d : Int) (r : Seen) (h : r.bad = true) : (walkL l d r).bad = true := by
  induction l generalizing r with
  | nil => exact h
  | cons s t ih => exact ih _ (walkV_bad s d r h)
theorem nodup_left {a b c : List Str} (h : (a ++ (b ++ c)).Nodup) : (a ++ b).Nodup := by
  rw [← List.append_assoc, List.nodup_append] at h
  exact h.1
mutual
theorem walkV_iff : ∀ (s : SegV) (d : Nat) (r : Seen), r.bad = false → r.names.Nodup → r.mods.Nodup →
    ((walkV s (5 - (d : Int)) r).bad = false ↔ TreeQ d s ∧ (r.names ++ s.names).Nodup ∧ (r.mods ++ s.mods).Nodup) ∧
    ((walkV s (5 - (d : Int)) r).bad = false → (walkV s (5 - (d : Int)) r).names = r.names ++ s.names ∧ (walkV s (5 - (d : Int)) r).mods = r.mods ++ s.mods)
  | .mk n ms ks, d, r, hb, hn, hm => by
    unfold walkV
    by_cases hst : StopP r n ms (5 - (d : Int))
    · rw [if_pos hst]
      refine ⟨⟨fun h => ?_, ?_⟩, fun h => ?_⟩
      · cases h
      · rintro ⟨h1, h2, h3⟩
        exfalso
        cases d with
        | zero => exact h1
        | succ d =>
          obtain ⟨a1, a2, a3, a4⟩ := h1
          rcases hst with c | c | c | c | c
          · rw [hb] at c; cases c
          · omega
          · exact c a1
          · simp only [SegV.names] at h2
            rw [List.nodup_append] at h2
            exact h2.2.2 n c n (by simp) rfl
          · omega
      · cases h
    · rw [if_neg hst]
      have c2 : ¬ 4 < (5 - (d : Int)) := fun h => hst (.inr (.inl h))
      have c3 : NameP n := Classical.byContradiction fun h => hst (.inr (.inr (.inl h)))
      have c4 : ¬ n ∈ r.names := fun h => hst (.inr (.inr (.inr (.inl h))))
      have c5 : ms.length ≤ 6 := Nat.le_of_not_lt fun h => hst (.inr (.inr (.inr (.inr h))))
      obtain ⟨d', rfl⟩ : ∃ d', d = d' + 1 := ⟨d - 1, by omega⟩
      have hd : (5 - ((d' + 1 : Nat) : Int)) + 1 = 5 - (d' : Int) := by omega
      rw [hd]
      have hA := addM_iff ms ⟨r.names ++ [n], r.mods, r.bad⟩ hb hm
      have hL := addM_len ⟨r.names ++ [n], r.mods, r.bad⟩ ms
      generalize addM ⟨r.names ++ [n], r.mods, r.bad⟩ ms = r1 at *
      simp only at hA hL
      have hn1 : (r.names ++ [n]).Nodup := by
        rw [List.nodup_append]
        refine ⟨hn, by simp, fun a ha b hb2 => ?_⟩
        rw [List.mem_singleton.1 hb2]
        intro h2; rw [h2] at ha; exact c4 ha
      cases hb1 : r1.bad with
      | true =>
        rw [walkL_bad _ _ _ hb1]
        refine ⟨⟨fun h => ?_, ?_⟩, fun h => ?_⟩
        · cases h
        · rintro ⟨h1, h2, h3⟩
          exfalso
          have := hA.2 ⟨h1.2.2.1, nodup_left h3⟩
          rw [hb1] at this; cases this
        · cases h
      | false =>
        obtain ⟨b1, b2⟩ := hA.1 hb1
        obtain ⟨i1, i2⟩ := walkL_iff ks d' r1 hb1 (by rw [hL.1]; exact hn1) (by rw [hL.2]; exact b2)
        rw [hL.1, hL.2, List.append_assoc, List.append_assoc] at i1 i2
        refine ⟨?_, fun h => i2 h⟩
        rw [i1]
        constructor
        · rintro ⟨h1, h2, h3⟩
          exact ⟨⟨c3, c5, b1, h1⟩, h2, h3⟩
        · rintro ⟨h1, h2, h3⟩
          exact ⟨h1.2.2.2, h2, h3⟩
theorem walkL_iff : ∀ (l : List SegV) (d : Nat) (r : Seen), r.bad = false → r.names.Nodup → r.mods.Nodup →
    ((walkL l (5 - (d : Int)) r).bad = false ↔ (∀ k ∈ l, TreeQ d k) ∧ (r.names ++ SegV.namesL l).Nodup ∧ (r.mods ++ SegV.modsL l).Nodup) ∧
    ((walkL l (5 - (d : Int)) r).bad = false → (walkL l (5 - (d : Int)) r).names = r.names ++ SegV.namesL l ∧ (walkL l (5 - (d : Int)) r).mods = r.mods ++ SegV.modsL l)
  | [], d, r, hb, hn, hm => by simp [walkL, SegV.namesL, SegV.modsL, hb, hn, hm]
  | s :: t, d, r, hb, hn, hm => by
    obtain ⟨i1, i2⟩ := walkV_iff s d r hb hn hm
    simp only [walkL, SegV.namesL, SegV.modsL]
    generalize walkV s (5 - (d : Int)) r = r1 at *
    cases hb1 : r1.bad with
    | true =>
      rw [walkL_bad _ _ _ hb1]
      refine ⟨⟨fun h => ?_, ?_⟩, fun h => ?_⟩
      · cases h
      · rintro ⟨h1, h2, h3⟩
        exfalso
        have := i1.2 ⟨h1 s (by simp), nodup_left h2, nodup_left h3⟩
        rw [hb1] at this; cases this
      · cases h
    | false =>
      obtain ⟨b1, b2, b3⟩ := i1.1 hb1
      obtain ⟨e1, e2⟩ := i2 hb1
      obtain ⟨j1, j2⟩ := walkL_iff t d r1 hb1 (by rw [e1]; exact b2) (by rw [e2]; exact b3)
      rw [e1, e2, List.append_assoc, List.append_assoc] at j1 j2
      refine ⟨?_, fun h => j2 h⟩
      rw [j1]
      constructor
      · rintro ⟨h1, h2, h3⟩
        refine ⟨fun k hk => ?_, h2, h3⟩
        rcases List.mem_cons.1 hk with h4 | h4
        · rw [h4]; exact b1
        · exact h1 k h4
      · rintro ⟨h1, h2, h3⟩
        exact ⟨fun k hk => h1 k (by simp [hk]), h2, h3⟩
end
theorem segOk_same (s : SegV) : ((walkV s 1 ⟨[], [], false⟩).bad = false ∧ (walkV s 1 ⟨[], [], false⟩).names.length ≤ 12) ↔ SegOkP s := by
  obtain ⟨i1, i2⟩ := walkV_iff s 4 ⟨[], [], false⟩ rfl (by simp) (by simp)
  simp only [show (5 : Int) - ((4 : Nat) : Int) = 1 from rfl, List.nil_append] at i1 i2
  unfold SegOkP
  constructor
  · rintro ⟨h1, h2⟩
    rw [(i2 h1).1] at h2
    obtain ⟨b1, b2, b3⟩ := i1.1 h1
    exact ⟨(treeP_iff 4 s h2).2 b1, h2, b2, b3⟩
  · rintro ⟨h1, h2, h3, h4⟩
    have := i1.2 ⟨(treeP_iff 4 s h2).1 h1, h3, h4⟩
    exact ⟨this, by rw [(i2 this).1]; exact h2⟩
end Go.Proofs.YtiilnlihimdnlaaGreatDoorFw
