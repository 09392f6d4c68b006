/- Drawn trees, laid: no two that lie over each other touch, all begins where what leads to it ends. No program in sight. -/
import Derived.Test.YtinhdeocgchncaaX3
namespace Go.Proofs.YtinhdeocgchncaaFw
open Go Go.RowKit
set_option linter.unusedVariables false
set_option linter.unusedSimpArgs false

structure LieP (a p : Int) (x : SpanV) : Prop where
  lo : a ≤ x.a
  le : x.a ≤ x.b
  hi : x.b ≤ a + 2 * p
  ev : Int.tmod x.a 2 = 0

/-! what lies over each other -/
mutual
def SegV.sizes : SegV → List Nat
  | .mk n ms ks => (1 + (SegV.sizesL ks).length) :: SegV.sizesL ks
def SegV.sizesL : List SegV → List Nat
  | [] => []
  | s :: r => s.sizes ++ SegV.sizesL r
end
mutual
theorem SegV.sizes_len : ∀ s : SegV, s.sizes.length = s.names.length
  | .mk n ms ks => by simp only [SegV.sizes, SegV.names, List.length_cons, SegV.sizesL_len ks]
theorem SegV.sizesL_len : ∀ l : List SegV, (SegV.sizesL l).length = (SegV.namesL l).length
  | [] => rfl
  | s :: r => by simp only [SegV.sizesL, SegV.namesL, List.length_append, SegV.sizes_len s, SegV.sizesL_len r]
end

def Ap (l : List SpanV) (z : List Nat) : Prop := ∀ (k i : Nat) (x y : SpanV) (m : Nat), l[k]? = some x → l[i]? = some y → z[k]? = some m → k < i → i < k + m → x.b ≤ y.a
def Fi (z : List Nat) : Prop := ∀ (k m : Nat), z[k]? = some m → k + m ≤ z.length

theorem Fi.app {a b : List Nat} (h1 : Fi a) (h2 : Fi b) : Fi (a ++ b) := by
  intro k m h
  rw [List.length_append]
  by_cases c : k < a.length
  · rw [List.getElem?_append_left c] at h
    have := h1 k m h; omega
  · rw [List.getElem?_append_right (by omega)] at h
    have := h2 _ m h; omega
theorem Ap.app {l1 l2 : List SpanV} {z1 z2 : List Nat} (hl : l1.length = z1.length) (f : Fi z1) (h1 : Ap l1 z1) (h2 : Ap l2 z2) : Ap (l1 ++ l2) (z1 ++ z2) := by
  intro k i x y m hx hy hm hki him
  by_cases c : k < l1.length
  · rw [List.getElem?_append_left c] at hx
    rw [List.getElem?_append_left (by omega)] at hm
    have := f k m hm
    rw [List.getElem?_append_left (by omega)] at hy
    exact h1 k i x y m hx hy hm hki him
  · rw [List.getElem?_append_right (by omega)] at hx hy hm
    rw [← hl] at hm
    exact h2 _ _ x y m hx hy hm (by omega) (by omega)

mutual
theorem sizes_fi : ∀ s : SegV, Fi s.sizes
  | .mk n ms ks => by
    have hk := sizesL_fi ks
    intro k m h
    cases k with
    | zero =>
      simp only [SegV.sizes, List.getElem?_cons_zero, Option.some.injEq] at h
      simp only [SegV.sizes, List.length_cons]; omega
    | succ k =>
      simp only [SegV.sizes, List.getElem?_cons_succ] at h
      have := hk k m h
      simp only [SegV.sizes, List.length_cons]; omega
theorem sizesL_fi : ∀ l : List SegV, Fi (SegV.sizesL l)
  | [] => by intro k m h; simp [SegV.sizesL] at h
  | s :: r => by rw [SegV.sizesL]; exact (sizes_fi s).app (sizesL_fi r)
end

/-! the span of a name -/
def FirstP (l : List SpanV) (x : SpanV) : Prop := ∃ i : Nat, l[i]? = some x ∧ ∀ j y, j < i → l[j]? = some y → y.n ≠ x.n
/-! the last address -/
def lastB (l : List SpanV) : Int := l.foldl (fun m x => if m < x.b then x.b else m) 0
/-- All of it, of a drawn tree. -/
structure LaidP (s : SegV) (ns : List Str) (ws : List Int) : Prop where
  lay : LayP s ns ws 64
  lie : ∀ x ∈ s.lay ns ws 64, LieP 64 (s.peak ns ws) x
  ap : Ap (s.lay ns ws 64) s.sizes
  last : lastB (s.lay ns ws 64) = 64 + 2 * s.peak ns ws
  pk : 0 ≤ s.peak ns ws ∧ s.peak ns ws ≤ 7200
  pf : s.peak ns ws ≤ s.flat ns ws
  fst : ∀ x ∈ s.lay ns ws 64, FirstP (s.lay ns ws 64) x

end Go.Proofs.YtinhdeocgchncaaFw
