/- What comes in: instructions. -/
import Derived.Test.YtkhobcmkbldmiaaR0
import Derived.Test.YtkhobcmkbldmiaaC2
namespace Go.Proofs.YtkhobcmkbldmiaaFw
open Go Go.RowKit
set_option linter.unusedVariables false
set_option linter.unusedSimpArgs false

theorem int_of {xs : List AV} (h : TyV tab 3 xs) : ∃ n : Int, xs = [.int .i64 n] := by
  obtain ⟨n, hn, _⟩ := h.int_inv tab_3 rfl
  exact ⟨n, hn⟩

theorem opd_of {xs : List AV} (h : TyV tab 44 xs) : ∃ a b c : Int, xs = [.int .i64 a, .int .i64 b, .int .i64 c] := by
  obtain ⟨parts, rfl, h1, h2⟩ := h.struct_inv tab_44 rfl
  match parts, h1 with
  | [p0, p1, p2], _ =>
    obtain ⟨a, rfl⟩ := int_of (h2 0 _ _ p0 rfl rfl)
    obtain ⟨b, rfl⟩ := int_of (h2 1 _ _ p1 rfl rfl)
    obtain ⟨c, rfl⟩ := int_of (h2 2 _ _ p2 rfl rfl)
    exact ⟨a, b, c, rfl⟩

theorem ins_of {xs : List AV} (h : TyV tab 46 xs) : ∃ op sm sr sx dm dr dx n : Int, .agg xs = insA op sm sr sx dm dr dx n := by
  obtain ⟨parts, rfl, h1, h2⟩ := h.struct_inv tab_46 rfl
  match parts, h1 with
  | [p0, p1, p2, p3], _ =>
    obtain ⟨a, rfl⟩ := int_of (h2 0 _ _ p0 rfl rfl)
    obtain ⟨b, c, d, rfl⟩ := opd_of (h2 1 _ _ p1 rfl rfl)
    obtain ⟨e, f, g, rfl⟩ := opd_of (h2 2 _ _ p2 rfl rfl)
    obtain ⟨k, rfl⟩ := int_of (h2 3 _ _ p3 rfl rfl)
    exact ⟨a, b, c, d, e, f, g, k, rfl⟩

end Go.Proofs.YtkhobcmkbldmiaaFw
