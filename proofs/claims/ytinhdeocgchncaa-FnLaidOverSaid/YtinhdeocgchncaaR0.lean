/- What comes in: texts, numbers, trees of segments. -/
import Derived.Test.YtinhdeocgchncaaA2
import Derived.Test.YtinhdeocgchncaaTD
import Derived.Test.YtinhdeocgchncaaFwD
import Derived.Test.YtinhdeocgchncaaRows
import Derived.OpenShut
import Derived.ChangeOld
namespace Go.Proofs.YtinhdeocgchncaaFw
open Go Go.RowKit
set_option linter.unusedVariables false

theorem tabWhole_ok : tabWhole tabDL = true := by kernel_rfl
theorem tabData_ok' : tabData tabDL = true := by kernel_rfl

theorem strs_of : ∀ es : List AV, (∀ x ∈ es, ∃ s : Str, x = .str s ∧ s.length ≤ reachBytes) → ∃ l : List Str, es = strs l ∧ ∀ s ∈ l, s.length ≤ reachBytes
  | [], _ => ⟨[], rfl, fun s h => by simp at h⟩
  | x :: r, h => by
    obtain ⟨s, rfl, hs⟩ := h x (by simp)
    obtain ⟨l, rfl, hl⟩ := strs_of r (fun y hy => h y (by simp [hy]))
    refine ⟨s :: l, rfl, ?_⟩
    intro y hy
    rcases List.mem_cons.1 hy with e | e
    · rw [e]; exact hs
    · exact hl y e

theorem texts_of {xs : List AV} (h : TyV tabD 24 xs) : ∃ l : List Str, xs = [.row .bo 1 (strs l)] ∧ l.length * 16 ≤ reachBytes ∧ ∀ s ∈ l, s.length ≤ reachBytes := by
  obtain ⟨es, rfl, h1, h2, h3⟩ := h.slice_inv tabd_24 rfl tabd_9
  obtain ⟨l, rfl, hl⟩ := strs_of es (fun x hx => by
    obtain ⟨s, hs, hb⟩ := (h3 x hx).str_inv tabd_9 rfl
    exact ⟨s, by have := h2 x hx; rw [this, hs]; rfl, hb⟩)
  exact ⟨l, rfl, by simpa [strs] using h1, hl⟩

theorem segs_of : ∀ es : List AV, (∀ x ∈ es, ∃ s : SegV, x = segA .bo s ∧ s.fit) → ∃ l : List SegV, es = segsA .bo l ∧ SegV.fitL l
  | [], _ => ⟨[], rfl, trivial⟩
  | x :: r, h => by
    obtain ⟨s, rfl, hs⟩ := h x (by simp)
    obtain ⟨l, rfl, hl⟩ := segs_of r (fun y hy => h y (by simp [hy]))
    exact ⟨s :: l, rfl, hs, hl⟩

theorem reach_le : reachBytes ≤ 140737488355328 := by decide

theorem nums_of : ∀ es : List AV, (∀ x ∈ es, ∃ n : Int, x = .int .i64 n ∧ inB .i64 n) → ∃ l : List Int, es = nums l ∧ ∀ n ∈ l, inB .i64 n
  | [], _ => ⟨[], rfl, fun n h => by simp at h⟩
  | x :: r, h => by
    obtain ⟨n, rfl, hn⟩ := h x (by simp)
    obtain ⟨l, rfl, hl⟩ := nums_of r (fun y hy => h y (by simp [hy]))
    refine ⟨n :: l, rfl, fun y hy => ?_⟩
    rcases List.mem_cons.1 hy with e | e
    · rw [e]; exact hn
    · exact hl y e

theorem ints_of {xs : List AV} (h : TyV tabD 28 xs) : ∃ l : List Int, xs = [.row .bo 1 (nums l)] ∧ l.length * 8 ≤ reachBytes ∧ ∀ n ∈ l, inB .i64 n := by
  obtain ⟨es, rfl, h1, h2, h3⟩ := h.slice_inv tabd_28 rfl tabd_3
  obtain ⟨l, rfl, hl⟩ := nums_of es (fun x hx => by
    obtain ⟨n, hn, hb⟩ := (h3 x hx).int_inv tabd_3 rfl
    exact ⟨n, by have := h2 x hx; rw [this, hn]; rfl, hb⟩)
  exact ⟨l, rfl, by simpa [nums] using h1, hl⟩

end Go.Proofs.YtinhdeocgchncaaFw

namespace Go.Proofs.Ytinhdeocgchncaa
open Go.ChangeShapes Go.WideShapes Go.ChangeAt Go.RowKit Go.Proofs.YtinhdeocgchncaaFw
theorem own : ownKnob Try.prog.godebug = none := by kernel_rfl
theorem laidOut : laidOutB Try.prog = true := by kernel_rfl
end Go.Proofs.Ytinhdeocgchncaa
