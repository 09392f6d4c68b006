/- What comes in: the bytes of a draw, read-only for ever. -/
import Derived.Test.YtinhdeocgchncaaR0
import Derived.Test.YtinhdeocgchncaaX1
namespace Go.Proofs.YtinhdeocgchncaaFw
open Go Go.RowKit
set_option linter.unusedVariables false
set_option linter.unusedSimpArgs false

theorem bys_of : ∀ es : List AV, (∀ x ∈ es, ∃ n : Int, x = .int .u8 n ∧ inB .u8 n) → ∃ l : List Int, es = bys l
  | [], _ => ⟨[], rfl⟩
  | x :: r, h => by
    obtain ⟨n, rfl, hn⟩ := h x (by simp)
    obtain ⟨l, rfl⟩ := bys_of r (fun y hy => h y (by simp [hy]))
    exact ⟨n :: l, rfl⟩

theorem bytes_of {xs : List AV} (h : TyV tabD 22 xs) : ∃ l : List Int, xs = [.row .bo 1 (bys l)] ∧ l.length ≤ reachBytes := by
  obtain ⟨es, rfl, h1, h2, h3⟩ := h.slice_inv tabd_22 rfl tabd_5
  obtain ⟨l, rfl⟩ := bys_of es (fun x hx => by
    obtain ⟨n, hn, hb⟩ := (h3 x hx).int_inv tabd_5 rfl
    exact ⟨n, by have := h2 x hx; rw [this, hn]; rfl, hb⟩)
  exact ⟨l, rfl, by simpa [bys] using h1⟩

/-- What there is at the call is there for ever. -/
def g1 (w : World) : Gh where
  loc := fun _ _ => none
  own := fun _ => none
  perm := fun b => b < w.heap.size
  bor := fun _ => False
  st := false

theorem bys_cell {l : List Int} {i : Nat} {x : AV} (h : (bys l)[i]? = some x) : ∃ n : Int, x = .int .u8 n := by
  simp only [bys, List.getElem?_map, Option.map_eq_some_iff] at h
  obtain ⟨n, _, rfl⟩ := h
  exact ⟨n, rfl⟩

theorem cell_ro {w : World} {l : List Int} {v : Value} (h : Cell (g0 w) w .bo (.row .bo 1 (bys l)) v) : Cell (g1 w) w .bo (.row .ro 1 (bys l)) v := by
  have hb := @bys_cell l
  generalize bys l = es at h hb
  cases h with
  | emp _ _ _ a c hm => exact .emp _ _ _ a c (by simp)
  | rd _ _ _ _ a c us hp hm hs hl hw hc ht =>
    have hm2 : a.block < w.heap.size := by
      rcases hm with hm | hm
      · exact hm.elim
      · exact hm
    refine .rd _ _ _ _ a c us (by simp) hm2 hs hl hw hc ?_
    intro i k x y h1 h2
    have h3 := ht i k x y h1 h2
    obtain ⟨n, rfl⟩ := hb h1
    cases k with
    | zero =>
      simp only [AV.cells, List.getElem?_cons_zero, Option.some.injEq] at h2
      subst h2
      generalize us (i * 1 + 0) = u at h3
      cases h3
      exact .int _ _ _
    | succ k => simp [AV.cells] at h2

theorem val_ro {w : World} {l : List Int} {v : Value} (h : Val (g0 w) w (.row .bo 1 (bys l)) v) : Val (g1 w) w (.row .ro 1 (bys l)) v := by
  generalize hx : AV.row .bo 1 (bys l) = x at h
  cases h with
  | cell _ _ h => subst hx; exact .cell _ _ (cell_ro h)
  | _ => cases hx

theorem FnA.rowB {P : Program} {f : FuncId} {l : List Int} (h : FnA P f false [.row .ro 1 (bys l)] [] (fun r os ros => r = .bool true ∧ os = [] ∧ ros = [])) {vs : Array Value} {W : World} (hl : vs.size = 1)
    (hv : ∀ (k : Nat) (x : AV) (u : Value), [AV.row .bo 1 (bys l)][k]? = some x → vs[k]? = some u → Val (g0 W) W x u) : Calls P f vs W fun e W' => e = .returned (.bool true) ∧ Below W.heap.size W W' := by
  refine (h.calls vs W (g1 W) rfl hl (fun k x u hx hu => by
    match k with
    | 0 =>
      simp only [List.getElem?_cons_zero, Option.some.injEq] at hx
      subst hx
      exact val_ro (hv 0 _ u rfl hu)
    | k + 1 => simp at hx) (fun b p hb => by simp [g1] at hb) (fun b hb => by
    rcases hb with hb | hb
    · exact hb
    · exact hb.elim) (fun i sz es hi => by simp at hi)).mono ?_
  rintro e W' ⟨v, r, os', ros, g', rfl, ⟨rfl, _, _⟩, hk, _, _, _, _, _, _, _, hval⟩
  obtain rfl := hval.bool_inv
  exact ⟨rfl, hk.os, hk.tape, hk.output, hk.size, fun k hk' => (hk.old k hk' rfl).1⟩

end Go.Proofs.YtinhdeocgchncaaFw
