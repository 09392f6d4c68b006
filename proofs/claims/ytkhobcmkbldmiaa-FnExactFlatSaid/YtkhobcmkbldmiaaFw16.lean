/- Variables in memory, rows made and written out. -/
import Derived.Test.YtkhobcmkbldmiaaFw15
namespace Go.Proofs.YtkhobcmkbldmiaaFw
open Go Go.RowKit
set_option linter.unusedVariables false

/-- The elements of a variable of a type, out of its cells; where cell k of it stands. -/
def mkObj (k : TK) (sz : Nat) (cs : List AV) : Option (Nat × List AV) :=
  match k with
  | .struct _ => some (sz, [.agg cs])
  | _ => some (1, cs)

def posOf (k : TK) (j : Nat) : Nat × Nat :=
  match k with
  | .struct _ => (0, j)
  | _ => (j, 0)

theorem run_newVar {P : Program} {t : TypeId} {v : Value} {w : World} : (do pure (.pointer (some (← newVar t v))) : Sem Value).run P w = .ok (.pointer (some ⟨w.heap.size, 0, none⟩)) (w.alloc (.cells v.cells t)) := by
  simp [newVar, newRow]

/-- A variable is made. -/
theorem Sim.newVar {s : St} {a : Act} {w : World} {g : Gh} (h : Sim s a w g) {d id sz n : Nat} {es cs : List AV} {k : TK} {u : Value} {t : TypeId} (hid : 16 ≤ id) (hmk : mkObj k n cs = some (sz, es))
    (hd : s.fits (some d) = true) (hn : u.cells.size = n) (hcl : cs.length = n) (hm : n ≤ 16777216)
    (hc : ∀ (j : Nat) (c : AV), cs[j]? = some c → ∃ z, u.cells[j]? = some z ∧ Flat g w c z ∧ c.cells = [c]) :
    ∃ g', Sim (s.newO d id sz es (.ptr id [] sz 0 0)) (a.put (some d) (.pointer (some ⟨w.heap.size, 0, none⟩))) (w.alloc (.cells u.cells t)) g' ∧ Keep g w g' (w.alloc (.cells u.cells t)) ∧
      (∃ c, g'.loc id [] = some (w.heap.size, c, es.length)) ∧ (∀ j q, j ≠ id → g'.loc j q = g.loc j q) ∧ RdKeep g w g' (w.alloc (.cells u.cells t)) ∧
      (∀ j z, u.cells[j]? = some z → (w.alloc (.cells u.cells t)).cell? ⟨w.heap.size, (posOf k j).1 * sz + (posOf k j).2, none⟩ = some z) := by
  have hcells : ∀ j z, u.cells[j]? = some z → (w.alloc (.cells u.cells t)).cell? ⟨w.heap.size, j, none⟩ = some z := by
    intro j z hz; rw [World.cell?_alloc_new]; exact hz
  have struct : ∀ (hs : sz = n) (he : es = [.agg cs]), _ := fun hs he => by
    subst hs; subst he
    exact h.newO (w' := w.alloc (.cells u.cells t)) d id sz hid [.agg cs] 1 u.cells t hd rfl ⟨rfl, rfl, rfl⟩ (by simp) (by decide) (by simpa using hn) (by
      intro i x hx
      cases i with
      | zero => simp at hx; subst hx; exact hcl
      | succ i => simp at hx) (by
      intro i k x y hx hy
      cases i with
      | zero =>
        simp at hx; subst hx
        obtain ⟨z, hz, hf, _⟩ := hc k y hy
        exact ⟨z, by simpa using hz, hf⟩
      | succ i => simp at hx) (x := .ptr id [] sz 0 0) (v := .pointer (some ⟨w.heap.size, 0, none⟩)) (by
      intro g' hl
      have := Val.ptr (g := g') (w := w.alloc (.cells u.cells t)) id [] sz 0 0 w.heap.size 1 _ hl
      simpa using this)
  have flat : ∀ (hs : sz = 1) (he : es = cs), _ := fun hs he => by
    subst hs; subst he
    exact h.newO (w' := w.alloc (.cells u.cells t)) d id 1 hid es n u.cells t hd rfl ⟨rfl, rfl, rfl⟩ (by omega) (by unfold maxLen; omega) (by omega) (by
      intro i x hx
      obtain ⟨z, _, _, hc1⟩ := hc i x hx
      simp [AV.width, hc1]) (by
      intro i k x y hx hy
      obtain ⟨z, hz, hf, hc1⟩ := hc i x hx
      rw [hc1] at hy
      cases k with
      | zero => simp at hy; subst hy; exact ⟨z, by simpa using hz, hf⟩
      | succ k => simp at hy) (x := .ptr id [] 1 0 0) (v := .pointer (some ⟨w.heap.size, 0, none⟩)) (by
      intro g' hl
      have := Val.ptr (g := g') (w := w.alloc (.cells u.cells t)) id [] 1 0 0 w.heap.size n _ hl
      simpa using this)
  cases k with
  | struct fs =>
    simp only [mkObj, Option.some.injEq, Prod.mk.injEq] at hmk
    obtain ⟨rfl, rfl⟩ := hmk
    obtain ⟨g', h1, h2, h3, h4, h5, h6⟩ := struct rfl rfl
    exact ⟨g', h1, h2, ⟨_, h3⟩, h4, h5, fun j z hz => by simpa [posOf] using hcells j z hz⟩
  | _ =>
    simp only [mkObj, Option.some.injEq, Prod.mk.injEq] at hmk
    obtain ⟨rfl, rfl⟩ := hmk
    obtain ⟨g', h1, h2, h3, h4, h5, h6⟩ := flat rfl rfl
    exact ⟨g', h1, h2, ⟨_, h3⟩, h4, h5, fun j z hz => by simpa [posOf] using hcells j z hz⟩

def cell1 : AV → Bool
  | .agg _ => false
  | _ => true

theorem cell1_cells {c : AV} (h : cell1 c = true) : c.cells = [c] := by cases c <;> simp [cell1] at h <;> rfl

def sAlloc (T : Tab) (s : St) (d id : Nat) (t : TypeId) : Option St :=
  match T t with
  | some ti =>
    match mkObj ti.k ti.sz ti.z with
    | some (sz, es) => if s.fits (some d) = true ∧ ti.z.all cell1 = true ∧ ti.sz ≤ 16777216 ∧ 16 ≤ id then some (s.newO d id sz es (.ptr id [] sz 0 0)) else none
    | none => none
  | none => none

theorem sAlloc_ok {P : Program} {T : Tab} (hT : TabOk P T) {s s' : St} {d id : Nat} {t : TypeId} (h : sAlloc T s d id t = some s') {a : Act} {w : World} {g : Gh} (hs : Sim s a w g) :
    ∃ r w' g', (Instr.alloc t true (.tuple #[])).run P w = .ok r w' ∧ Sim s' (a.put (some d) r) w' g' ∧ Keep g w g' w' := by
  unfold sAlloc at h
  split at h
  · rename_i ti hti
    split at h
    · rename_i sz es hmk
      split at h
      · rename_i hcond
        obtain rfl := Option.some.inj h
        obtain ⟨z, hz1, hz2, hz3, hz4⟩ := run_zeroValue (hT t ti hti)
        obtain ⟨g', h1, h2, _⟩ := hs.newVar (d := d) (id := id) (t := t) (u := z) hcond.2.2.2 hmk hcond.1 hz1 hz2 hcond.2.2.1 (by
          intro j c hc
          obtain ⟨u, hu, hzo⟩ := hz3 j c hc
          exact ⟨u, hu, hzo.flat, cell1_cells (List.all_eq_true.1 hcond.2.1 c (List.mem_of_getElem? hc))⟩)
        refine ⟨_, _, g', ?_, h1, h2⟩
        simp only [Instr.alloc, Sem.run_bind, hz4, Result.andThen_ok, newVar, newRow, run_newObj, Sem.run_pure, World.alloc_eq]
      · simp at h
    · simp at h
  · simp at h

def sBox (T : Tab) (s : St) (d id : Nat) (t : TypeId) (y : AV) : Option St :=
  match T t with
  | some ti =>
    if isDead y = false then
      match cellsOf 0 ti.z y.cells with
      | some (cs, ps) =>
        match mkObj ti.k ti.sz cs with
        | some (sz, es) =>
          if s.fits (some d) = true ∧ ti.sz ≤ 16777216 ∧ 16 ≤ id then
            (s.newO d id sz es (.ptr id [] sz 0 0)).plugL id [] (ps.map fun p => ((posOf ti.k p.1).1, (posOf ti.k p.1).2, p.2))
          else none
        | none => none
      | none => none
    else none
  | none => none

theorem sBox_ok {P : Program} {T : Tab} (hT : TabOk P T) {s s' : St} {d id : Nat} {t : TypeId} {y : AV} (h : sBox T s d id t y = some s') {a : Act} {w : World} {g : Gh} (hs : Sim s a w g) {u : Value} (hu : Val g w y u) :
    ∃ r w' g', (Instr.box t u).run P w = .ok r w' ∧ Sim s' (a.put (some d) r) w' g' ∧ Keep g w g' w' := by
  unfold sBox at h
  split at h
  · rename_i ti hti
    split at h
    · rename_i hd
      split at h
      · rename_i cs ps hcs
        split at h
        · rename_i sz es hmk
          split at h
          · rename_i hcond
            obtain ⟨_, _, _, _, _, _, _, hzl, _⟩ := (hT t ti hti).info
            obtain ⟨hsz, hcells⟩ := hu.cells (fun e => by rw [e] at hd; simp [isDead] at hd)
            have hvv : ∀ (j : Nat) (c : AV) (u' : Value), y.cells[j]? = some c → u.cells.toList[j]? = some u' → Val g w c u' := fun j c u' h1 h2 => hcells j c u' h1 (by simpa using h2)
            obtain ⟨k1, k2, k3⟩ := cellsOf_ok (g := g) (w := w) _ _ _ _ _ hcs u.cells.toList (by simpa using hsz) hvv
            obtain ⟨_, o2⟩ := cellsOf_one (g := g) (w := w) _ _ _ _ _ hcs u.cells.toList (by simpa using hsz) hvv
            obtain ⟨g', h1, h2, ⟨cc, h3⟩, h4, h5, h6⟩ := hs.newVar (d := d) (id := id) (t := t) (u := u) hcond.2.2 hmk hcond.1 (by omega) (by omega) hcond.2.1 (by
              intro j c hc
              obtain ⟨z, hz, hf, hc1⟩ := k2 j c hc
              exact ⟨z, by simpa using hz, hf, hc1⟩)
            obtain ⟨g2, b1, b2⟩ := Sim.plugL _ _ s' g' sz es h1 h (by simp [St.node, St.newO, lookO_setO, navG]) h3 (by
              intro i' k' tid hm hne _
              rw [List.mem_map] at hm
              obtain ⟨p, hp, e⟩ := hm
              simp only [Prod.mk.injEq] at e
              obtain ⟨rfl, rfl, rfl⟩ := e
              obtain ⟨j, u', e1, e2, e3⟩ := k3 p.1 p.2 hp
              refine ⟨u', ?_, e3.hd_loc (h4 _ _ hne)⟩
              rw [Nat.zero_add] at e1
              rw [e1]
              exact h6 j u' (by simpa using e2))
            refine ⟨_, _, g2, ?_, b1, h2.trans b2⟩
            simp only [Instr.box]
            exact run_newVar
          · simp at h
        · simp at h
      · simp at h
    · simp at h
  · simp at h

def mkEl (k : TK) (cs : List AV) : AV :=
  match k with
  | .struct _ => .agg cs
  | _ => cs.getD 0 .dead

end Go.Proofs.YtkhobcmkbldmiaaFw
