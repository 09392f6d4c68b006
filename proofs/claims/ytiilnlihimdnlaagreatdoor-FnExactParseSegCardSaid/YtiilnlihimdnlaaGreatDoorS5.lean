/- Trees of segments that are right: the reference's walk. -/
import Derived.Test.YtiilnlihimdnlaaGreatDoorS4
import Derived.Test.YtiilnlihimdnlaaGreatDoorFwD
namespace Go.Proofs.YtiilnlihimdnlaaGreatDoorFw
open Go Go.RowKit
set_option linter.unusedVariables false
set_option linter.unusedSimpArgs false
set_option maxRecDepth 4000
set_option pp.deepTerms.threshold 6
set_option pp.deepTerms false
structure Seen where
  names : List Str
  mods : List Str
  bad : Bool
def Seen.fail (r : Seen) : Seen := ⟨r.names, r.mods, true⟩
open Classical in
noncomputable def stepM (r : Seen) (m : Str) : Seen := ⟨r.names, r.mods ++ [m], r.bad || decide (¬ NameP m ∨ m ∈ r.mods)⟩
noncomputable def addM (r : Seen) (l : List Str) : Seen := l.foldl stepM r
def StopP (r : Seen) (n : Str) (ms : List Str) (deep : Int) : Prop := r.bad = true ∨ 4 < deep ∨ ¬ NameP n ∨ n ∈ r.names ∨ 6 < ms.length
open Classical in
noncomputable instance (r : Seen) (n : Str) (ms : List Str) (deep : Int) : Decidable (StopP r n ms deep) := inferInstance
mutual
noncomputable def walkV : SegV → Int → Seen → Seen
  | .mk n ms ks, d, r => if StopP r n ms d then r.fail else walkL ks (d + 1) (addM ⟨r.names ++ [n], r.mods, r.bad⟩ ms)
noncomputable def walkL : List SegV → Int → Seen → Seen
  | [], _, r => r
  | s :: t, d, r => walkL t d (walkV s d r)
end
theorem addM_snoc (r : Seen) {l : List Str} {i : Nat} (h : i < l.length) : addM r (l.take (i + 1)) = stepM (addM r (l.take i)) l[i] := by
  unfold addM; rw [take_snoc h, List.foldl_append]; rfl
theorem walkL_snoc (d : Int) : ∀ (l : List SegV) (r : Seen) (i : Nat) (h : i < l.length), walkL (l.take (i + 1)) d r = walkV l[i] d (walkL (l.take i) d r)
  | s :: t, r, 0, h => by simp [walkL]
  | s :: t, r, i + 1, h => by
    simp only [List.take_succ_cons, walkL, List.getElem_cons_succ]
    exact walkL_snoc d t _ i (by simpa using h)
theorem addM_len (r : Seen) (l : List Str) : (addM r l).names = r.names ∧ (addM r l).mods = r.mods ++ l := by
  induction l generalizing r with
  | nil => exact ⟨rfl, by simp [addM]⟩
  | cons m t ih =>
    have := ih (stepM r m)
    exact ⟨this.1, by have h2 := this.2; simp only [addM, List.foldl_cons] at *; rw [h2]; simp [stepM]⟩
mutual
theorem walkV_len : ∀ (s : SegV) (d : Int) (r : Seen), (walkV s d r).names.length ≤ r.names.length + s.names.length ∧ (walkV s d r).mods.length ≤ r.mods.length + s.mods.length
  | .mk n ms ks, d, r => by
    unfold walkV
    split
    · simp only [Seen.fail]; omega
    · rename_i hst
      have h1 := walkL_len ks (d + 1) (addM ⟨r.names ++ [n], r.mods, r.bad⟩ ms)
      have h2 := addM_len ⟨r.names ++ [n], r.mods, r.bad⟩ ms
      rw [h2.1, h2.2] at h1
      simp only [List.length_append, List.length_cons, List.length_nil, SegV.names, SegV.mods] at *
      omega
theorem walkL_len : ∀ (l : List SegV) (d : Int) (r : Seen), (walkL l d r).names.length ≤ r.names.length + (SegV.namesL l).length ∧ (walkL l d r).mods.length ≤ r.mods.length + (SegV.modsL l).length
  | [], d, r => by simp [walkL, SegV.namesL, SegV.modsL]
  | s :: t, d, r => by
    have h1 := walkL_len t d (walkV s d r)
    have h2 := walkV_len s d r
    simp only [walkL, SegV.namesL, SegV.modsL, List.length_append]
    omega
end
end Go.Proofs.YtiilnlihimdnlaaGreatDoorFw
