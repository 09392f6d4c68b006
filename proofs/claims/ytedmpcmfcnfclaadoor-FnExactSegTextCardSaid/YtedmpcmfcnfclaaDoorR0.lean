/- What comes in: texts, numbers, trees of segments. -/
import Derived.Test.YtedmpcmfcnfclaaDoorA2
import Derived.Test.YtedmpcmfcnfclaaDoorTD
import Derived.Test.YtedmpcmfcnfclaaDoorFwD
import Derived.Test.YtedmpcmfcnfclaaDoorRows
import Derived.OpenShut
import Derived.ChangeOld
namespace Go.Proofs.YtedmpcmfcnfclaaDoorFw
open Go Go.RowKit
set_option linter.unusedVariables false

theorem tabWhole_ok : tabWhole tabDL = true := by kernel_rfl
theorem tabData_ok' : tabData tabDL = true := by kernel_rfl

theorem strs_of : ∀ es : List AV, (∀ x ∈ es, ∃ s : Str, x = .str s ∧ s.length ≤ reachBytes) → ∃ l : List Str, es = strs l ∧ ∀ s ∈ l, s.length ≤ reachBytes
  | [], _ => ⟨[], rfl, fun s h => by simp at h⟩
  | x :: r, h => by
    obtain ⟨s, rfl, hs⟩ := h x (by simp)
    obtain ⟨l, rfl, hl⟩ := strs_of r (fun y hy => h y (by simp [hy]))
    refine ⟨s :: l, rfl, ?_⟩
    intro y hy
    rcases List.mem_cons.1 hy with e | e
    · rw [e]; exact hs
    · exact hl y e

theorem texts_of {xs : List AV} (h : TyV tabD 22 xs) : ∃ l : List Str, xs = [.row .bo 1 (strs l)] ∧ l.length * 16 ≤ reachBytes ∧ ∀ s ∈ l, s.length ≤ reachBytes := by
  obtain ⟨es, rfl, h1, h2, h3⟩ := h.slice_inv tabd_22 rfl tabd_9
  obtain ⟨l, rfl, hl⟩ := strs_of es (fun x hx => by
    obtain ⟨s, hs, hb⟩ := (h3 x hx).str_inv tabd_9 rfl
    exact ⟨s, by have := h2 x hx; rw [this, hs]; rfl, hb⟩)
  exact ⟨l, rfl, by simpa [strs] using h1, hl⟩

theorem segs_of : ∀ es : List AV, (∀ x ∈ es, ∃ s : SegV, x = segA .bo s ∧ s.fit) → ∃ l : List SegV, es = segsA .bo l ∧ SegV.fitL l
  | [], _ => ⟨[], rfl, trivial⟩
  | x :: r, h => by
    obtain ⟨s, rfl, hs⟩ := h x (by simp)
    obtain ⟨l, rfl, hl⟩ := segs_of r (fun y hy => h y (by simp [hy]))
    exact ⟨s :: l, rfl, hs, hl⟩

theorem reach_le : reachBytes ≤ 140737488355328 := by decide

theorem seg_of : ∀ (n : Nat) (xs : List AV), SizeOf.sizeOf xs < n → TyV tabD 25 xs → ∃ s : SegV, .agg xs = segA .bo s ∧ s.fit := by
  intro n
  induction n with
  | zero => intro xs h; omega
  | succ n ih =>
    intro xs hn h
    obtain ⟨parts, rfl, h1, h2⟩ := h.struct_inv tabd_25 rfl
    match parts, h1 with
    | [p0, p1, p2], _ =>
      obtain ⟨s, rfl, hs⟩ := (h2 0 _ _ p0 rfl rfl).str_inv tabd_9 rfl
      obtain ⟨l, rfl, hl1, hl2⟩ := texts_of (h2 1 _ _ p1 rfl rfl)
      obtain ⟨es, rfl, k1, k2, k3⟩ := (h2 2 _ _ p2 rfl rfl).slice_inv tabd_23 rfl tabd_25
      obtain ⟨ks, rfl, hks⟩ := segs_of es (fun x hx => by
        have hx2 := k2 x hx
        have hsz : SizeOf.sizeOf x.cells < n := by
          have h3 := List.sizeOf_lt_of_mem hx
          rw [hx2] at h3
          simp only [mkE, isAggK, if_true, AV.agg.sizeOf_spec] at h3
          simp only [List.flatten_cons, List.flatten_nil, List.cons_append, List.nil_append, List.cons.sizeOf_spec, AV.row.sizeOf_spec] at hn
          omega
        obtain ⟨s', hs', hf⟩ := ih x.cells hsz (k3 x hx)
        exact ⟨s', by rw [hx2]; exact hs', hf⟩)
      have hr := reach_le
      have k1' : ks.length * 64 ≤ reachBytes := by simpa [segsA_len] using k1
      exact ⟨.mk s l ks, by rw [segA_mk]; rfl, by omega, by omega, fun y hy => by have := hl2 y hy; omega, by omega, hks⟩

theorem nums_of : ∀ es : List AV, (∀ x ∈ es, ∃ n : Int, x = .int .i64 n ∧ inB .i64 n) → ∃ l : List Int, es = nums l ∧ ∀ n ∈ l, inB .i64 n
  | [], _ => ⟨[], rfl, fun n h => by simp at h⟩
  | x :: r, h => by
    obtain ⟨n, rfl, hn⟩ := h x (by simp)
    obtain ⟨l, rfl, hl⟩ := nums_of r (fun y hy => h y (by simp [hy]))
    refine ⟨n :: l, rfl, fun y hy => ?_⟩
    rcases List.mem_cons.1 hy with e | e
    · rw [e]; exact hn
    · exact hl y e

end Go.Proofs.YtedmpcmfcnfclaaDoorFw

namespace Go.Proofs.YtedmpcmfcnfclaaDoor
open Go.ChangeShapes Go.WideShapes Go.ChangeAt Go.RowKit Go.Proofs.YtedmpcmfcnfclaaDoorFw
theorem own : ownKnob Tryd.prog.godebug = none := by kernel_rfl
theorem laidOut : laidOutB Tryd.prog = true := by kernel_rfl
end Go.Proofs.YtedmpcmfcnfclaaDoor
