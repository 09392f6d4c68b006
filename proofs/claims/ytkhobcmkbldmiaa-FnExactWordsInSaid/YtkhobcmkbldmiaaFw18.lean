/- Slices made; what is assigned. -/
import Derived.Test.YtkhobcmkbldmiaaFw17
namespace Go.Proofs.YtkhobcmkbldmiaaFw
open Go Go.RowKit
set_option linter.unusedVariables false

def sMake (T : Tab) (s : St) (d id : Nat) (t : TypeId) (x y : AV) : Option (Prop × St) :=
  match elemOf' T t, x, y with
  | some ei, .int _ l, .int _ c =>
    if s.fits (some d) = true ∧ 16 ≤ id ∧ 0 < ei.sz ∧ (isAggK ei.k = true ∨ ei.sz = 1) ∧ ei.z.all cell1 = true then
      some (0 ≤ l ∧ l ≤ c ∧ c * ei.by_ ≤ 140737488355328 ∧ c ≤ 281474976710656, s.newO d id ei.sz (List.replicate l.toNat (mkE ei.k ei.z)) (.hd id []))
    else none
  | _, _, _ => none

theorem get_madeCells {z : Array Value} {n i k : Nat} (hk : k < z.size) (hn : i * z.size + k < n) {u : Value} (hu : z[k]? = some u) : (madeCells z n)[i * z.size + k]? = some u := by
  have h1 : (i * z.size + k) % z.size = k := by rw [Nat.mul_comm, Nat.mul_add_mod, Nat.mod_eq_of_lt hk]
  simp only [madeCells, Array.getElem?_map, Array.getElem?_range, hn, if_true, Option.map_some, h1]
  rw [getElem!_pos z k hk]
  rw [Array.getElem?_eq_getElem hk] at hu
  exact hu

theorem sMake_ok {P : Program} {T : Tab} (hT : TabOk P T) {s s' : St} {d id : Nat} {t : TypeId} {x y : AV} {c : Prop} (h : sMake T s d id t x y = some (c, s')) (hc : c)
    {a : Act} {w : World} {g : Gh} (hs : Sim s a w g) {v u : Value} (hv : Val g w x v) (hu : Val g w y u) :
    ∃ r w' g', (Instr.makeSlice t v u).run P w = .ok r w' ∧ Sim s' (a.put (some d) r) w' g' ∧ Keep g w g' w' := by
  unfold sMake at h
  split at h
  · rename_i ei kl l kc n hei
    obtain ⟨e, he1, he0, he2⟩ := elemOf'_ok hT hei
    split at h
    · rename_i hcond
      obtain ⟨hd, hid, hpos, hk, hall⟩ := hcond
      simp only [Option.some.injEq, Prod.mk.injEq] at h
      obtain ⟨rfl, rfl⟩ := h
      obtain ⟨h0, hlc, hby, hmx⟩ := hc
      obtain rfl := hv.int_inv
      obtain rfl := hu.int_inv
      obtain ⟨i, z, hi, hs1, hb1, hz, hz1, hz2, hz3⟩ := he2.info
      have hrun := run_make (P := P) w t e i z he1 hi hz kl kc l n h0 hlc (by rw [hb1, Int.mul_comm]; omega) (by omega)
      have hme := mkE_cells (k := ei.k) hz2 hk (fun c hc => cell1_cells (List.all_eq_true.1 hall c hc))
      have hrep : ∀ (j : Nat) (x : AV), (List.replicate l.toNat (mkE ei.k ei.z))[j]? = some x → j < l.toNat ∧ x = mkE ei.k ei.z := by
        intro j x hx
        rw [List.getElem?_replicate] at hx
        split at hx
        · rename_i hj; exact ⟨hj, (Option.some.inj hx).symm⟩
        · simp at hx
      obtain ⟨g', h1, h2, h3, h4, h5, h6⟩ := hs.newO (w' := w.alloc (.cells (madeCells z.cells (n.toNat * i.size)) e)) d id ei.sz hid (List.replicate l.toNat (mkE ei.k ei.z)) n.toNat (madeCells z.cells (n.toNat * i.size)) e hd rfl ⟨rfl, rfl, rfl⟩
        (by simp; omega) (by unfold maxLen; omega) (by rw [size_madeCells, hs1]) (by
          intro j x hx
          obtain ⟨hj, rfl⟩ := hrep j x hx
          rw [AV.width, hme, hz2]) (by
          intro j k x y hx hy
          obtain ⟨hj, rfl⟩ := hrep j x hx
          rw [hme] at hy
          obtain ⟨u, hu, hzo⟩ := hz3 k y hy
          refine ⟨u, ?_, hzo.flat⟩
          have hks : k < z.cells.size := by rw [hz1, ← hz2]; exact lt_of_get hy
          have := get_madeCells (i := j) (n := n.toNat * i.size) hks (by
            rw [hz1, hs1]
            calc j * ei.sz + k < j * ei.sz + ei.sz := by omega
              _ = (j + 1) * ei.sz := by rw [Nat.add_mul, Nat.one_mul]
              _ ≤ n.toNat * ei.sz := Nat.mul_le_mul_right _ (by omega)) hu
          rw [hz1] at this
          exact this) (x := .hd id []) (v := .slice (some ⟨w.heap.size, 0, none⟩) l.toNat n.toNat) (by
          intro g' hl
          rw [List.length_replicate] at hl
          exact .hd id [] _ _ _ hl)
      exact ⟨_, _, g', hrun, h1, h2⟩
    · simp at h
  · simp at h

/-! ### an object told under another number, told no more, read-only from now on -/
def renF (id id' : Nat) : Nat → Path → Option (Nat × Path) := fun j q => if j = id then some (id', q) else if j = id' then none else some (j, q)

def St.ren (s : St) (id id' : Nat) : Option St :=
  match lookO s.objs id with
  | some (sz, es) =>
    if id ≠ id' ∧ lookO s.objs id' = none ∧ 16 ≤ id ∧ 16 ≤ id' then some { s with slots := mapS (renF id id') s.slots, objs := setO (dropO s.objs id) id' sz es } else none
  | none => none

theorem Sim.ren {s s' : St} {id id' : Nat} (h : s.ren id id' = some s') {a : Act} {w : World} {g : Gh} (hs : Sim s a w g) : ∃ g', Sim s' a w g' ∧ Keep g w g' w := by
  unfold St.ren at h
  split at h
  · rename_i sz es hl
    split at h
    · rename_i hc
      obtain rfl := Option.some.inj h
      refine ⟨gMove g id [] id' [], ?_, gMove_keep g id [] id' [] w (.inr hc.2.2.1) (.inr hc.2.2.2)⟩
      refine hs.turn (gMove_rd g id [] id' [] w) ?_ (hs.h.rename id id' sz es hl hc.2.1)
      intro j q j' q' hf
      simp only [renF] at hf
      split at hf
      · rename_i e
        subst e
        simp only [Option.some.injEq, Prod.mk.injEq] at hf
        obtain ⟨rfl, rfl⟩ := hf
        have := gMove_loc_to g j [] id' [] q
        simpa using this
      · rename_i h1
        split at hf
        · simp at hf
        · rename_i h2
          simp only [Option.some.injEq, Prod.mk.injEq] at hf
          obtain ⟨rfl, rfl⟩ := hf
          exact gMove_loc_else (fun r e => absurd e h2) (fun r e => absurd e h1)
    · simp at h
  · simp at h

def keepS (vs : List Nat) : List (Nat × AV) → List (Nat × AV)
  | [] => []
  | (t, x) :: r => if vs.contains t then (t, x) :: keepS vs r else keepS vs r

theorem lookS_keepS (vs : List Nat) : ∀ (l : List (Nat × AV)) (t : Nat), lookS (keepS vs l) t = if vs.contains t then lookS l t else none
  | [], t => by simp [keepS, lookS]
  | (u, x) :: r, t => by
    have ih := lookS_keepS vs r t
    simp only [keepS]
    by_cases hu : vs.contains u = true
    · simp only [hu, if_true, lookS]
      by_cases h : u = t
      · subst h; rw [if_pos rfl, if_pos hu, if_pos rfl]
      · simp [h, ih]
    · simp only [hu, if_false, lookS, Bool.false_eq_true]
      by_cases h : u = t
      · subst h
        rw [ih]
        simp only [hu, if_false, Bool.false_eq_true]
      · simp [h, ih]

def St.only (s : St) (vs : List Nat) : St := { s with slots := keepS vs s.slots }

theorem Sim.only {s : St} {a : Act} {w : World} {g : Gh} (h : Sim s a w g) (vs : List Nat) : Sim (s.only vs) a w g where
  nt := h.nt
  defers := h.defers
  slot := fun t x hx => by
    simp only [St.only, lookS_keepS] at hx
    split at hx
    · exact h.slot t x hx
    · simp at hx
  h := h.h
  st := h.st

end Go.Proofs.YtkhobcmkbldmiaaFw
