/- The program's table lies where it is told, in what is laid. -/
import Derived.Test.YtgjeemfggfhibaaGreatDoorFwE
import Derived.Test.YtgjeemfggfhibaaGreatDoorTab
import Derived.Test.YtgjeemfggfhibaaGreatDoorRows
import Derived.Lib.LaidTab
import Derived.Test.YtgjeemfggfhibaaGreatDoorLA
import Derived.Test.YtgjeemfggfhibaaGreatDoorTD
import Derived.Test.YtgjeemfggfhibaaGreatDoorFwD
import Derived.OpenShut
import Derived.ChangeOld
set_option linter.unusedVariables false
namespace Go.Proofs.YtgjeemfggfhibaaGreatDoorFw
open Go Go.RowKit
theorem var_heap {P : Program} {W : World} {n : String} {g : Nat} {cs : Array Value} (hg : P.globalNamed n = some g) (h : W.var? P n = some cs) : ∃ t ro, W.heap[g]? = some (.cells cs t ro) := by
  unfold World.var? at h
  rw [hg] at h
  simp only [Option.bind_some] at h
  split at h
  · rename_i c t ro hh
    obtain rfl := Option.some.inj h
    exact ⟨t, ro, hh⟩
  · cases h
theorem lbIn_ok {W : World} {n0 : String} {d0 : DataW Unit} {rest : List (String × DataW Unit)} (hL : laidMet Tryz.prog ((n0, d0) :: ("math/bits.deBruijn64tab", Go.Proofs.YtgjeemfggfhibaaGreatDoor.Rows.laid_math_bits_deBruijn64tab) :: rest) W) : LbIn W := by
  intro b c hb
  unfold lbTab at hb
  split at hb
  · rename_i h5
    subst h5
    obtain ⟨ps, ⟨g0, t0, cs0, f0, p0, q0, _, _, _, _, ⟨g1, t1, cs1, f1, p1, q1, hg1, ht1, hv1, hd1, _, e1⟩, e0⟩, _, hrows⟩ := hL
    have hg : Tryz.prog.globalNamed "math/bits.deBruijn64tab" = some 5 := by kernel_rfl
    obtain rfl := Option.some.inj (hg.symm.trans hg1)
    have hty : (Tryz.prog.globals[5]?).map (·.type) = some 193 := by kernel_rfl
    obtain rfl := Option.some.inj (hty.symm.trans ht1)
    have hc := Lib.cells_of_tab (zs := [0, 1, 56, 2, 57, 49, 28, 3, 61, 58, 42, 50, 38, 29, 17, 4, 62, 47, 59, 36, 45, 43, 51, 22, 53, 39, 33, 30, 24, 18, 12, 5, 63, 55, 48, 27, 60, 41, 37, 16, 46, 35, 44, 21, 52, 32, 23, 11, 54, 26, 40, 15, 34, 20, 31, 10, 25, 14, 19, 9, 13, 8, 7, 6])
      (k := .u8) (e := 5) (n := 64) (by kernel_rfl) (by kernel_rfl) (by kernel_rfl) (by kernel_rfl) hd1
    have hcc : cs1 = c := by
      apply Array.toList_inj.1
      rw [hc, ← Option.some.inj hb]
    subst hcc
    obtain ⟨t, ro, hh⟩ := var_heap hg hv1
    have hsz : 0 < cs1.size := by
      rw [← Array.length_toList, hc]; simp
    have hm : MemPlace.cell 5 0 ∈ ps := by
      rw [e0, e1]
      refine List.mem_append_right _ (List.mem_append_left _ (List.mem_append_left _ ?_))
      unfold MemPlace.row
      exact List.mem_map.2 ⟨0, List.mem_range.2 hsz, rfl⟩
    obtain ⟨⟨c2, t2, hh2⟩, _⟩ := hrows 5 0 hm
    rw [hh] at hh2
    obtain ⟨rfl, rfl, rfl⟩ : cs1 = c2 ∧ t = t2 ∧ ro = (0, 0) := by simpa using hh2
    exact ⟨t, hh⟩
  · cases hb
end Go.Proofs.YtgjeemfggfhibaaGreatDoorFw
namespace Go.Proofs.YtgjeemfggfhibaaGreatDoorFw
open Go Go.RowKit
theorem tabWhole_ok : tabWhole tabDL = true := by kernel_rfl
theorem tabData_ok' : tabData tabDL = true := by kernel_rfl
theorem reach_le : reachBytes ≤ 140737488355328 := by decide
theorem nums_of : ∀ es : List AV, (∀ x ∈ es, ∃ n : Int, x = .int .i64 n ∧ inB .i64 n) → ∃ l : List Int, es = nums l ∧ ∀ n ∈ l, inB .i64 n
  | [], _ => ⟨[], rfl, fun n h => by simp at h⟩
  | x :: r, h => by
    obtain ⟨n, rfl, hn⟩ := h x (by simp)
    obtain ⟨l, rfl, hl⟩ := nums_of r (fun y hy => h y (by simp [hy]))
    refine ⟨n :: l, rfl, fun y hy => ?_⟩
    rcases List.mem_cons.1 hy with e | e
    · rw [e]; exact hn
    · exact hl y e
theorem ints_of {xs : List AV} (h : TyV tabD 22 xs) : ∃ l : List Int, xs = [.row .bo 1 (nums l)] ∧ l.length * 8 ≤ reachBytes ∧ ∀ n ∈ l, inB .i64 n := by
  obtain ⟨es, rfl, h1, h2, h3⟩ := h.slice_inv tabd_22 rfl tabd_3
  obtain ⟨l, rfl, hl⟩ := nums_of es (fun x hx => by
    obtain ⟨n, hn, hb⟩ := (h3 x hx).int_inv tabd_3 rfl
    exact ⟨n, by have := h2 x hx; rw [this, hn]; rfl, hb⟩)
  exact ⟨l, rfl, by simpa [nums] using h1, hl⟩
end Go.Proofs.YtgjeemfggfhibaaGreatDoorFw
namespace Go.Proofs.YtgjeemfggfhibaaGreatDoor
open Go.ChangeShapes Go.WideShapes Go.ChangeAt Go.RowKit Go.Proofs.YtgjeemfggfhibaaGreatDoorFw
theorem own : ownKnob Tryz.prog.godebug = none := by kernel_rfl
theorem laidOut : laidOutB Tryz.prog = true := by kernel_rfl
end Go.Proofs.YtgjeemfggfhibaaGreatDoor
