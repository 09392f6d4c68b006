/- Stores into own trees; trees that are put into others, taken out, frozen. -/
import Derived.Test.YtkhobcmkbldmiaaFw2
namespace Go.Proofs.YtkhobcmkbldmiaaFw
open Go Go.RowKit

theorem at_inj {sz i k i' k' : Nat} (hk : k < sz) (hk' : k' < sz) (h : i * sz + k = i' * sz + k') : i = i' ∧ k = k' := by
  have h1 : (i * sz + k) % sz = k := by rw [Nat.mul_comm, Nat.mul_add_mod, Nat.mod_eq_of_lt hk]
  have h2 : (i' * sz + k') % sz = k' := by rw [Nat.mul_comm, Nat.mul_add_mod, Nat.mod_eq_of_lt hk']
  have hkk : k = k' := by rw [← h1, ← h2, h]
  subst hkk
  exact ⟨Nat.eq_of_mul_eq_mul_right (by omega : 0 < sz) (by omega), rfl⟩

/-- Elements of which one cell is turned. -/
theorem set_cells {es : List AV} {i k : Nat} {x y y0 : AV} (hx : es[i]? = some x) (hy0 : x.cells[k]? = some y0) (hy : y.cells = [y]) :
    ∀ (i' k' : Nat) (x' y' : AV), (es.set i (x.setC k y))[i']? = some x' → x'.cells[k']? = some y' →
      ∃ x0 z0, es[i']? = some x0 ∧ x0.cells[k']? = some z0 ∧ ((i' = i ∧ k' = k ∧ y' = y) ∨ (¬ (i' = i ∧ k' = k) ∧ y' = z0)) := by
  intro i' k' x' y' hx' hy'
  by_cases hi : i' = i
  · subst hi
    rw [List.getElem?_set_self (lt_of_get hx)] at hx'
    obtain rfl := Option.some.inj hx'
    rw [setC_cells _ _ _ hy (lt_of_get hy0)] at hy'
    by_cases hkk : k' = k
    · subst hkk
      rw [if_pos rfl] at hy'
      exact ⟨x, _, hx, hy0, .inl ⟨rfl, rfl, (Option.some.inj hy').symm⟩⟩
    · rw [if_neg hkk] at hy'
      exact ⟨x, y', hx, hy', .inr ⟨fun h => hkk h.2, rfl⟩⟩
  · rw [List.getElem?_set_ne (by omega)] at hx'
    exact ⟨x', y', hx', hy', .inr ⟨fun h => hi h.1, rfl⟩⟩

theorem set_width {es : List AV} {i k sz : Nat} {x y : AV} (hx : es[i]? = some x) (hy : y.cells = [y]) (hw : ∀ (j : Nat) (z : AV), es[j]? = some z → z.width = sz) :
    ∀ (j : Nat) (z : AV), (es.set i (x.setC k y))[j]? = some z → z.width = sz := by
  intro j z hz
  by_cases hi : j = i
  · subst hi
    rw [List.getElem?_set_self (lt_of_get hx)] at hz
    obtain rfl := Option.some.inj hz
    rw [setC_width _ _ _ hy]
    exact hw _ _ hx
  · rw [List.getElem?_set_ne (by omega)] at hz
    exact hw _ _ hz

/-- What a node of an own tree is. -/
theorem Cell.node {g : Gh} {w : World} {id : Nat} {q : Path} {sz : Nat} {es : List AV} {v : Value} (h : Cell g w (.at id q) (.row .own sz es) v) {i : Nat} {x : AV} (hx : es[i]? = some x) :
    ∃ (b c : Nat) (cur : Array Value) (e : TypeId) (us : Nat → Value), v = .slice (some ⟨b, 0, none⟩) es.length c ∧ g.loc id q = some (b, c, es.length) ∧ g.own b = some (id, q) ∧ w.heap[b]? = some (.cells cur e (0, 0)) ∧ es.length ≤ c ∧ c ≤ maxLen ∧ cur.size = c * sz ∧
      (∀ (i : Nat) (x : AV), es[i]? = some x → x.width = sz) ∧
      (∀ (i k : Nat) (x y : AV), es[i]? = some x → x.cells[k]? = some y → cur[i * sz + k]? = some (us (i * sz + k))) ∧
      (∀ (i k : Nat) (x y : AV), es[i]? = some x → x.cells[k]? = some y → Cell g w (.at id (q ++ [(i, k)])) y (us (i * sz + k))) := by
  cases h with
  | rd _ _ _ _ a c us hp hm => exact hm.elim
  | emp _ _ _ a c hm => exact absurd rfl hm
  | ownNil => simp at hx
  | own _ _ _ _ b c cur e us hl ho hb hn' hm hz hw hc ht => exact ⟨b, c, cur, e, us, rfl, hl, ho, hb, hn', hm, hz, hw, hc, ht⟩

def gKill (g : Gh) (id : Nat) (p : Path) : Gh :=
  { g with loc := fun j q => if j = id then (match stripP p q with | some _ => none | none => g.loc j q) else g.loc j q }

theorem gKill_at (g : Gh) (id : Nat) (p r : Path) : (gKill g id p).loc id (p ++ r) = none := by simp [gKill, stripP_app]

theorem gKill_else {g : Gh} {id : Nat} {p : Path} {j : Nat} {q : Path} (h : ∀ r, j = id → q ≠ p ++ r) : (gKill g id p).loc j q = g.loc j q := by
  simp only [gKill]
  split
  · rename_i e
    cases hs : stripP p q with
    | none => rfl
    | some r => exact absurd (stripP_some hs) (h r e)
  · rfl

/-- Nothing of its own is in the cell. -/
def solid : AV → Bool
  | .row .own _ _ => false
  | _ => true

/-- What stood below a place is told no more, if a slice of nothing is put there. -/
def gSt (b : Bool) (g : Gh) (id : Nat) (p : Path) : Gh := { g with loc := fun j q => if b = true then g.loc j q else (gKill g id p).loc j q }

theorem gSt_else {b : Bool} {g : Gh} {id : Nat} {p : Path} {j : Nat} {q : Path} (h : ∀ r, j = id → q ≠ p ++ r) : (gSt b g id p).loc j q = g.loc j q := by
  cases b
  · exact gKill_else h
  · rfl

theorem Flat.cellSt {g g' : Gh} {w w' : World} {y : AV} {u : Value} (hr : RdKeep g w g' w') (h : Flat g w y u) {id : Nat} {p : Path} (hg : g'.loc id p = (gSt (solid y) g id p).loc id p) : Cell g' w' (.at id p) y u := by
  rcases h with ⟨sz, rfl, rfl⟩ | h
  · refine .ownNil _ _ _ ?_
    rw [hg]
    have := gKill_at g id p []
    rw [List.append_nil] at this
    exact this
  · exact (h.still hr (fun _ _ => by simp)).anywhere _ (by simp)

theorem snoc_ne (q r : Path) (ik : Nat × Nat) : q ≠ q ++ [ik] ++ r := by
  intro e
  have := congrArg List.length e
  simp at this

theorem snoc_inj {q r s : Path} {a b : Nat × Nat} (h : q ++ [a] ++ r = q ++ [b] ++ s) : a = b := by simp at h; exact h.1

theorem cells_setCell {w : World} {b o : Nat} {cur : Array Value} {e : TypeId} (hb : w.heap[b]? = some (.cells cur e (0, 0))) (u : Value) :
    (w.setCell ⟨b, o, none⟩ u).heap[b]? = some (.cells (cur.setIfInBounds o u) e (0, 0)) := by
  simp [World.setCell, Array.getElem?_modify, hb]

theorem heap_setCell_ne {w : World} {a : Addr} {u : Value} {k : Nat} (h : k ≠ a.block) : (w.setCell a u).heap[k]? = w.heap[k]? := Below.heap_setCell w a u k h

theorem cell_of_block {w : World} {b o : Nat} {cur : Array Value} {e : TypeId} (hb : w.heap[b]? = some (.cells cur e (0, 0))) : w.cell? ⟨b, o, none⟩ = cur[o]? := by
  simp [World.cell?, hb]

theorem frozen_of_block {w : World} {b o : Nat} {cur : Array Value} {e : TypeId} (hb : w.heap[b]? = some (.cells cur e (0, 0))) : w.frozen? ⟨b, o, none⟩ = false := by
  simp [World.frozen?, hb]

theorem setCell_os (w : World) (a : Addr) (u : Value) : (w.setCell a u).os = w.os ∧ (w.setCell a u).tape = w.tape ∧ (w.setCell a u).output = w.output := ⟨rfl, rfl, rfl⟩

/-- A store of what has no tree of its own into a cell of an own object. -/
theorem HSim.store {objs : List Obj} {w : World} {g : Gh} (h : HSim objs w g) {id : Nat} {q : Path} {rsz : Nat} {res : List AV} {sz : Nat} {es : List AV}
    (hl : lookO objs id = some (rsz, res)) (hn : navG res rsz q = some (sz, es)) {i k : Nat} {x y0 : AV} (hx : es[i]? = some x) (hy0 : x.cells[k]? = some y0)
    {y : AV} {u : Value} (hy : y.cells = [y]) (hf : Flat g w y u) :
    ∃ b c cur e, g.loc id q = some (b, c, es.length) ∧ g.own b = some (id, q) ∧ w.heap[b]? = some (.cells cur e (0, 0)) ∧ i * sz + k < cur.size ∧
      HSim (setO objs id rsz (navSet res q (es.set i (x.setC k y)))) (w.setCell ⟨b, i * sz + k, none⟩ u) (gSt (solid y) g id (q ++ [(i, k)])) ∧
      RdKeep g w (gSt (solid y) g id (q ++ [(i, k)])) (w.setCell ⟨b, i * sz + k, none⟩ u) := by
  obtain ⟨rv, hroot⟩ := h.obj id rsz res hl
  obtain ⟨v', hnode⟩ := Cell.nav q [] rsz res rv sz es hroot hn
  obtain ⟨b, c, cur, e, us, rfl, hloc, hown, hb, hlc, hcm, hcz, hw, hc, ht⟩ := hnode.node hx
  simp only [List.nil_append] at hloc hown ht
  have hlt : i * sz + k < cur.size := by
    have := hc i k x y0 hx hy0
    rcases Nat.lt_or_ge (i * sz + k) cur.size with h' | h'
    · exact h'
    · simp [Array.getElem?_eq_none h'] at this
  have hwx := hw i x hx
  have hsep := h.sep b _ hown
  have hr : RdKeep g w (gSt (solid y) g id (q ++ [(i, k)])) (w.setCell ⟨b, i * sz + k, none⟩ u) := by
    refine ⟨fun b' hb' => ⟨hb', heap_setCell_ne ?_⟩, fun b' hb' => ⟨.inr hb', heap_setCell_ne ?_⟩⟩
    · intro e; simp only at e; subst e; exact hsep.1 hb'
    · intro e; simp only at e; subst e; exact hsep.2.1 hb'
  refine ⟨b, c, cur, e, hloc, hown, hb, hlt, ⟨?_, ?_, ?_⟩, hr⟩
  · intro j sz' es' hj
    rw [lookO_setO] at hj
    split at hj
    · rename_i hji
      obtain ⟨rfl, rfl⟩ := Prod.mk.inj (Option.some.inj hj)
      subst hji
      refine ⟨rv, Cell.upd hr q [] rsz res rv sz es _ hroot hn ?_ ?_ ?_⟩
      · intro v' hv'
        obtain ⟨b2, c2, cur2, e2, us2, rfl, hloc2, hown2, hb2, hlc2, hcm2, hcz2, hw2, hc2, ht2⟩ := hv'.node hx
        simp only [List.nil_append] at hloc2 hown2 ht2 ⊢
        have hbc := hloc2.symm.trans hloc; simp only [Option.some.injEq, Prod.mk.injEq] at hbc; obtain ⟨rfl, rfl, _⟩ := hbc
        have hcur : cur2 = cur := by
          have := hb2.symm.trans hb
          simp only [Option.some.injEq, Go.Obj.cells.injEq] at this
          exact this.1
        subst hcur
        have hlen : (es.set i (x.setC k y)).length = es.length := List.length_set
        rw [← hlen]
        refine .own _ _ _ _ b2 c2 (cur2.setIfInBounds (i * sz + k) u) e (fun j => if j = i * sz + k then u else us2 j) ?_ hown2 (cells_setCell hb u) (by rw [hlen]; exact hlc2) hcm2 (by simpa using hcz2) ?_ ?_ ?_
        · rw [gSt_else (fun r _ => snoc_ne q r (i, k)), hlen]; exact hloc2
        · exact set_width hx hy hw2
        · intro i' k' x' y' hx' hy'
          obtain ⟨x0, z0, h1, h2, h3⟩ := set_cells hx hy0 hy i' k' x' y' hx' hy'
          by_cases he : i' * sz + k' = i * sz + k
          · rw [he]; simp [hlt]
          · rw [Array.getElem?_setIfInBounds_ne (fun e => he e.symm), hc2 i' k' x0 z0 h1 h2]; simp [he]
        · intro i' k' x' y' hx' hy'
          obtain ⟨x0, z0, h1, h2, h3⟩ := set_cells hx hy0 hy i' k' x' y' hx' hy'
          rcases h3 with ⟨rfl, rfl, rfl⟩ | ⟨hne, rfl⟩
          · simp only [if_true]
            exact hf.cellSt hr rfl
          · have hk' : k' < sz := by rw [← hw2 i' x0 h1]; exact lt_of_get h2
            have hk : k < sz := by rw [← hwx]; exact lt_of_get hy0
            have hne' : i' * sz + k' ≠ i * sz + k := fun e => hne (at_inj hk' hk e)
            simp only [if_neg hne']
            refine (ht2 i' k' x0 _ h1 h2).stay hr ?_ ?_
            · intro b' r hb'
              refine ⟨heap_setCell_ne ?_, hb'⟩
              intro e; simp only at e; subst e
              rw [hown2] at hb'
              exact snoc_ne q r (i', k') (Prod.mk.inj (Option.some.inj hb')).2
            · intro r
              exact gSt_else (fun s _ e => hne (Prod.mk.inj (snoc_inj e)))
      · intro b' q' hb' hq'
        refine ⟨heap_setCell_ne ?_, hb'⟩
        intro e; simp only at e; subst e
        rw [hown] at hb'
        have := (Prod.mk.inj (Option.some.inj hb')).2
        exact hq' [] (by simp [← this])
      · intro q' hq'
        exact gSt_else (fun r _ e => hq' ([(i, k)] ++ r) (by simpa using e))
    · rename_i hji
      obtain ⟨v, hv⟩ := h.obj j sz' es' hj
      refine ⟨v, hv.stay hr ?_ ?_⟩
      · intro b' r hb'
        refine ⟨heap_setCell_ne ?_, hb'⟩
        intro e; simp only at e; subst e
        rw [hown] at hb'
        exact hji (Prod.mk.inj (Option.some.inj hb')).1
      · intro r; exact gSt_else (fun _ e => absurd e.symm hji)
  · intro b' p hb'
    have := h.sep b' p hb'
    exact ⟨this.1, this.2.1, by simpa [World.setCell] using this.2.2⟩
  · intro b' hb'
    have := h.rdlt b' hb'
    simpa [World.setCell] using this

/-- An object is put into a cell of another one, in which its head stands. -/
theorem HSim.plug {objs : List Obj} {w : World} {g : Gh} (h : HSim objs w g) {id : Nat} {q : Path} {rsz : Nat} {res : List AV} {sz : Nat} {es : List AV}
    (hl : lookO objs id = some (rsz, res)) (hn : navG res rsz q = some (sz, es)) {i k : Nat} {x : AV} (hx : es[i]? = some x) (hy0 : x.cells[k]? = some .dead)
    {tid tsz : Nat} {tes : List AV} (ht : lookO objs tid = some (tsz, tes)) (hne : tid ≠ id)
    {b c l : Nat} (hloc : g.loc id q = some (b, c, l)) {u : Value} (hu : w.cell? ⟨b, i * sz + k, none⟩ = some u)
    (hhead : ∀ v, Cell g w (.at tid []) (.row .own tsz tes) v → u = v) :
    HSim (setO (dropO objs tid) id rsz (navSet res q (es.set i (x.setC k (.row .own tsz tes))))) w (gMove g tid [] id (q ++ [(i, k)])) := by
  obtain ⟨rv, hroot⟩ := h.obj id rsz res hl
  obtain ⟨tv, htree⟩ := h.obj tid tsz tes ht
  obtain rfl := hhead _ htree
  have hr := gMove_rd g tid [] id (q ++ [(i, k)]) w
  refine ⟨?_, gMove_sep h.sep, h.rdlt⟩
  intro j sz' es' hj
  rw [lookO_setO] at hj
  split at hj
  · rename_i hji
    obtain ⟨rfl, rfl⟩ := Prod.mk.inj (Option.some.inj hj)
    subst hji
    refine ⟨rv, Cell.upd hr q [] rsz res rv sz es _ hroot hn ?_ ?_ ?_⟩
    · intro v' hv'
      obtain ⟨b2, c2, cur2, e2, us2, rfl, hloc2, hown2, hb2, hlc2, hcm2, hcz2, hw2, hc2, ht2⟩ := hv'.node hx
      simp only [List.nil_append] at hloc2 hown2 ht2 ⊢
      have hbc := hloc2.symm.trans hloc; simp only [Option.some.injEq, Prod.mk.injEq] at hbc; obtain ⟨rfl, rfl, _⟩ := hbc
      have hus : us2 (i * sz + k) = u := by
        have h1 := hc2 i k x .dead hx hy0
        rw [cell_of_block hb2, h1] at hu
        exact Option.some.inj hu
      have hlen : (es.set i (x.setC k (.row .own tsz tes))).length = es.length := List.length_set
      rw [← hlen]
      refine .own _ _ _ _ b2 c2 cur2 e2 us2 ?_ (gMove_own_else hown2 (fun _ e => absurd e.symm hne)) hb2 (by rw [hlen]; exact hlc2) hcm2 hcz2 ?_ ?_ ?_
      · rw [gMove_loc_else (fun r _ => snoc_ne q r (i, k)) (fun _ e => absurd e.symm hne), hlen]; exact hloc2
      · exact set_width hx rfl hw2
      · intro i' k' x' y' hx' hy'
        obtain ⟨x0, z0, h1, h2, h3⟩ := set_cells hx hy0 rfl i' k' x' y' hx' hy'
        exact hc2 i' k' x0 z0 h1 h2
      · intro i' k' x' y' hx' hy'
        obtain ⟨x0, z0, h1, h2, h3⟩ := set_cells hx hy0 rfl i' k' x' y' hx' hy'
        rcases h3 with ⟨rfl, rfl, rfl⟩ | ⟨hne2, rfl⟩
        · rw [hus]
          exact (htree.move hr tid [] id (q ++ [(i', k')]) rfl (fun b r hb => ⟨rfl, gMove_own_to id _ hb⟩) (fun r => gMove_loc_to g tid [] id _ r))
        · refine (ht2 i' k' x0 _ h1 h2).stay hr ?_ ?_
          · intro b' r hb'
            exact ⟨rfl, gMove_own_else hb' (fun _ e => absurd e.symm hne)⟩
          · intro r
            exact gMove_loc_else (fun s _ e => hne2 (Prod.mk.inj (snoc_inj e))) (fun _ e => absurd e.symm hne)
    · intro b' q' hb' hq'
      exact ⟨rfl, gMove_own_else hb' (fun _ e => absurd e.symm hne)⟩
    · intro q' hq'
      exact gMove_loc_else (fun r _ e => hq' ([(i, k)] ++ r) (by simpa using e)) (fun _ e => absurd e.symm hne)
  · rename_i hji
    rw [lookO_dropO] at hj
    split at hj
    · simp at hj
    · rename_i hji2
      obtain ⟨v, hv⟩ := h.obj j sz' es' hj
      exact ⟨v, hv.stay hr (fun b r hb => ⟨rfl, gMove_own_else hb (fun _ e => absurd e.symm hji2)⟩)
        (fun r => gMove_loc_else (fun _ e => absurd e.symm hji) (fun _ e => absurd e.symm hji2))⟩

/-- A tree is taken out of an object and is one of its own. -/
theorem HSim.detach {objs : List Obj} {w : World} {g : Gh} (h : HSim objs w g) {id : Nat} {q : Path} {rsz : Nat} {res : List AV} {sz : Nat} {es : List AV}
    (hl : lookO objs id = some (rsz, res)) (hn : navG res rsz q = some (sz, es)) {i k : Nat} {x : AV} {tsz : Nat} {tes : List AV} (hx : es[i]? = some x) (hy0 : x.cells[k]? = some (.row .own tsz tes))
    {tid : Nat} (hf : lookO objs tid = none) :
    HSim (setO (setO objs id rsz (navSet res q (es.set i (x.setC k .dead)))) tid tsz tes) w (gMove g id (q ++ [(i, k)]) tid []) := by
  have hne : tid ≠ id := fun e => by rw [e, hl] at hf; simp at hf
  obtain ⟨rv, hroot⟩ := h.obj id rsz res hl
  have hr := gMove_rd g id (q ++ [(i, k)]) tid [] w
  obtain ⟨v', hnode⟩ := Cell.nav q [] rsz res rv sz es hroot hn
  obtain ⟨b, c, cur, e, us, rfl, hloc, hown, hb, hlc, hcm, hcz, hw, hc, htt⟩ := hnode.node hx
  simp only [List.nil_append] at hloc hown htt
  refine ⟨?_, gMove_sep h.sep, h.rdlt⟩
  intro j sz' es' hj
  rw [lookO_setO] at hj
  split at hj
  · rename_i hji
    obtain ⟨rfl, rfl⟩ := Prod.mk.inj (Option.some.inj hj)
    subst hji
    exact ⟨_, (htt i k x _ hx hy0).move hr id (q ++ [(i, k)]) tid [] rfl (fun b r hb => ⟨rfl, gMove_own_to tid [] hb⟩) (fun r => gMove_loc_to g id _ tid [] r)⟩
  · rename_i hji
    rw [lookO_setO] at hj
    split at hj
    · rename_i hji2
      obtain ⟨rfl, rfl⟩ := Prod.mk.inj (Option.some.inj hj)
      subst hji2
      refine ⟨rv, Cell.upd hr q [] rsz res rv sz es _ hroot hn ?_ ?_ ?_⟩
      · intro v' hv'
        obtain ⟨b2, c2, cur2, e2, us2, rfl, hloc2, hown2, hb2, hlc2, hcm2, hcz2, hw2, hc2, ht2⟩ := hv'.node hx
        simp only [List.nil_append] at hloc2 hown2 ht2 ⊢
        have hlen : (es.set i (x.setC k .dead)).length = es.length := List.length_set
        rw [← hlen]
        refine .own _ _ _ _ b2 c2 cur2 e2 us2 ?_ (gMove_own_else hown2 (fun r _ => snoc_ne q r (i, k))) hb2 (by rw [hlen]; exact hlc2) hcm2 hcz2 ?_ ?_ ?_
        · rw [gMove_loc_else (fun _ e => absurd e.symm hne) (fun r _ => snoc_ne q r (i, k)), hlen]; exact hloc2
        · exact set_width hx rfl hw2
        · intro i' k' x' y' hx' hy'
          obtain ⟨x0, z0, h1, h2, h3⟩ := set_cells hx hy0 rfl i' k' x' y' hx' hy'
          exact hc2 i' k' x0 z0 h1 h2
        · intro i' k' x' y' hx' hy'
          obtain ⟨x0, z0, h1, h2, h3⟩ := set_cells hx hy0 rfl i' k' x' y' hx' hy'
          rcases h3 with ⟨rfl, rfl, rfl⟩ | ⟨hne2, rfl⟩
          · exact .dead _ _ (ht2 i' k' x0 _ h1 h2).one
          · have hne3 : ∀ r s : Path, q ++ [(i', k')] ++ r ≠ q ++ [(i, k)] ++ s := fun r s e => hne2 (Prod.mk.inj (snoc_inj e))
            exact (ht2 i' k' x0 _ h1 h2).stay hr (fun b' r hb' => ⟨rfl, gMove_own_else hb' (fun s _ => hne3 r s)⟩) (fun r => gMove_loc_else (fun _ e => absurd e.symm hne) (fun s _ => hne3 r s))
      · intro b' q' hb' hq'
        exact ⟨rfl, gMove_own_else hb' (fun r _ e => hq' ([(i, k)] ++ r) (by simpa using e))⟩
      · intro q' hq'
        exact gMove_loc_else (fun _ e => absurd e.symm hne) (fun r _ e => hq' ([(i, k)] ++ r) (by simpa using e))
    · rename_i hji2
      obtain ⟨v, hv⟩ := h.obj j sz' es' hj
      exact ⟨v, hv.stay hr (fun b r hb => ⟨rfl, gMove_own_else hb (fun _ e => absurd e.symm hji2)⟩)
        (fun r => gMove_loc_else (fun _ e => absurd e.symm hji) (fun _ e => absurd e.symm hji2))⟩

end Go.Proofs.YtkhobcmkbldmiaaFw
