/- The own objects: new ones, stores, moves, frozen and lent ones. -/
import Derived.Test.YtkhobcmkbldmiaaFw1
namespace Go.Proofs.YtkhobcmkbldmiaaFw
open Go Go.RowKit

def dropO : List Obj → Nat → List Obj
  | [], _ => []
  | o :: r, i => if o.id = i then dropO r i else o :: dropO r i

def setO (l : List Obj) (id sz : Nat) (es : List AV) : List Obj := ⟨id, sz, es⟩ :: dropO l id

theorem lookO_dropO (l : List Obj) (i j : Nat) : lookO (dropO l i) j = if i = j then none else lookO l j := by
  induction l with
  | nil => simp [dropO, lookO]
  | cons o r ih =>
    simp only [dropO]
    split
    · rename_i h
      rw [ih]
      split
      · rfl
      · rename_i h2; simp only [lookO]; rw [if_neg (by omega)]
    · rename_i h
      simp only [lookO]
      rw [ih]
      by_cases h1 : o.id = j
      · rw [if_pos h1, if_neg (by omega), if_pos h1]
      · rw [if_neg h1, if_neg h1]

theorem lookO_setO (l : List Obj) (id sz : Nat) (es : List AV) (j : Nat) : lookO (setO l id sz es) j = if id = j then some (sz, es) else lookO l j := by
  simp only [setO, lookO, lookO_dropO]
  by_cases h : id = j
  · rw [if_pos h, if_pos h]
  · rw [if_neg h, if_neg h, if_neg h]

/-- What is behind a beginning of a path. -/
def stripP : Path → Path → Option Path
  | [], q => some q
  | a :: p, b :: q => if a = b then stripP p q else none
  | _ :: _, [] => none

theorem stripP_app (p r : Path) : stripP p (p ++ r) = some r := by
  induction p with
  | nil => rfl
  | cons a p ih => simp [stripP, ih]

theorem stripP_some : ∀ {p q r : Path}, stripP p q = some r → q = p ++ r
  | [], q, r, h => by simp [stripP] at h; simp [h]
  | a :: p, b :: q, r, h => by
    simp only [stripP] at h
    split at h
    · rename_i e; subst e; rw [stripP_some h]; rfl
    · simp at h
  | _ :: _, [], r, h => by simp [stripP] at h

theorem stripP_none {p q : Path} (h : stripP p q = none) (r : Path) : q ≠ p ++ r := by
  intro e; rw [e, stripP_app] at h; simp at h

/-- What only is read, wherever it stands. -/
theorem Cell.anywhere {g : Gh} {w : World} {x : AV} {v : Value} (h : Cell g w .bo x v) (p : Pl) (hp0 : p ≠ .ro) : Cell g w p x v := by
  cases h with
  | int => exact .int _ _ _
  | bool => exact .bool _ _
  | str => exact .str _ _
  | nilI => exact .nilI _
  | dead _ _ h1 => exact .dead _ _ h1
  | emp _ m sz a c hm => exact .emp _ _ _ _ _ hm
  | rd _ m sz es a c us hp hm hs hl hw hc ht => exact .rd _ _ _ _ _ _ us (fun _ => hp0) hm hs hl hw hc ht

theorem Cell.lent {g : Gh} {w : World} {x : AV} {v : Value} (h : Cell g w .ro x v) : Cell g w .bo x v := by
  cases h with
  | int => exact .int _ _ _
  | bool => exact .bool _ _
  | str => exact .str _ _
  | nilI => exact .nilI _
  | dead _ _ h1 => exact .dead _ _ h1
  | emp _ m sz a c hm => exact .emp _ _ _ _ _ hm
  | rd _ m sz es a c us hp hm hs hl hw hc ht => exact .rd _ _ _ _ _ _ us (fun _ => by simp) hm hs hl hw hc ht

/-- A cell without a tree of its own: what is only read, or a slice of nothing. -/
def Flat (g : Gh) (w : World) (y : AV) (u : Value) : Prop :=
  (∃ sz, y = .row .own sz [] ∧ u = .slice none 0 0) ∨ Cell g w .bo y u

theorem Flat.still {g g' : Gh} {w w' : World} (hr : RdKeep g w g' w') {y : AV} {u : Value} (h : Flat g w y u) : Flat g' w' y u := by
  rcases h with h | h
  · exact .inl h
  · exact .inr (h.still hr (fun _ _ => by simp))

theorem Flat.cell {g : Gh} {w : World} {y : AV} {u : Value} (h : Flat g w y u) {id : Nat} {q : Path} (hl : g.loc id q = none) : Cell g w (.at id q) y u := by
  rcases h with ⟨sz, rfl, rfl⟩ | h
  · exact .ownNil _ _ _ hl
  · exact h.anywhere _ (by simp)

def gNew (g : Gh) (id b c n : Nat) : Gh :=
  { g with
    loc := fun j q => if j = id then (match q with | [] => some (b, c, n) | _ => none) else g.loc j q
    own := fun b' => if b' = b then some (id, []) else g.own b' }

/-- A new object. -/
theorem HSim.new {objs : List Obj} {w w' : World} {g : Gh} (h : HSim objs w g) (id sz : Nat) (es : List AV) (b c : Nat) (cur : Array Value) (e : TypeId)
    (hb : b = w.heap.size) (hw' : w'.heap = w.heap.push (.cells cur e (0, 0)))
    (hn : es.length ≤ c) (hm : c ≤ maxLen) (hz : cur.size = c * sz)
    (hwd : ∀ (i : Nat) (x : AV), es[i]? = some x → x.width = sz)
    (hc : ∀ (i k : Nat) (x y : AV), es[i]? = some x → x.cells[k]? = some y → ∃ u, cur[i * sz + k]? = some u ∧ Flat g w y u) :
    HSim (setO objs id sz es) w' (gNew g id b c es.length) ∧ RdKeep g w (gNew g id b c es.length) w' ∧
    (∀ j q, j ≠ id → (gNew g id b c es.length).loc j q = g.loc j q) ∧ (gNew g id b c es.length).loc id [] = some (b, c, es.length) ∧
    (∀ k, k < w.heap.size → w'.heap[k]? = w.heap[k]?) ∧ w'.heap[b]? = some (.cells cur e (0, 0)) ∧ w'.heap.size = w.heap.size + 1 := by
  subst hb
  have hold : ∀ k, k < w.heap.size → w'.heap[k]? = w.heap[k]? := fun k hk => by rw [hw', Array.getElem?_push, if_neg (by omega)]
  have hat : w'.heap[w.heap.size]? = some (.cells cur e (0, 0)) := by rw [hw']; simp
  have hsize : w'.heap.size = w.heap.size + 1 := by rw [hw']; simp
  have hr : RdKeep g w (gNew g id w.heap.size c es.length) w' := ⟨fun b hb => ⟨hb, hold b (h.rdlt b (.inl hb))⟩, fun b hb => ⟨.inr hb, hold b (h.rdlt b (.inr hb))⟩⟩
  have hloc : ∀ j q, j ≠ id → (gNew g id w.heap.size c es.length).loc j q = g.loc j q := fun j q hj => by simp [gNew, hj]
  refine ⟨⟨?_, ?_, ?_⟩, hr, hloc, by simp [gNew], hold, hat, hsize⟩
  · intro j sz' es' hj
    rw [lookO_setO] at hj
    split at hj
    · rename_i hji
      obtain ⟨rfl, rfl⟩ := Prod.mk.inj (Option.some.inj hj)
      subst hji
      refine ⟨_, .own _ _ _ _ w.heap.size c cur e (fun j => cur.getD j undef) (by simp [gNew]) (by simp [gNew]) hat hn hm hz hwd ?_ ?_⟩
      · intro i k x y hx hy
        obtain ⟨u, hu, _⟩ := hc i k x y hx hy
        simp [Array.getD_eq_getD_getElem?, hu]
      · intro i k x y hx hy
        obtain ⟨u, hu, hf⟩ := hc i k x y hx hy
        have : cur.getD (i * sz + k) undef = u := by simp [Array.getD_eq_getD_getElem?, hu]
        rw [this]
        exact (hf.still hr).cell (by simp [gNew])
    · rename_i hji
      obtain ⟨v, hv⟩ := h.obj j sz' es' hj
      refine ⟨v, hv.stay hr ?_ ?_⟩
      · intro b r hb
        have hlt := (h.sep b _ hb).2.2
        exact ⟨hold b hlt, by simp only [gNew]; rw [if_neg (by omega)]; exact hb⟩
      · intro r; exact hloc _ _ (fun e => hji e.symm)
  · intro b p hb
    simp only [gNew] at hb ⊢
    split at hb
    · rename_i hbb
      subst hbb
      exact ⟨fun hp => by have := h.rdlt _ (.inl hp); omega, fun hp => by have := h.rdlt _ (.inr hp); omega, by omega⟩
    · obtain ⟨h1, h2, h3⟩ := h.sep b p hb
      exact ⟨h1, h2, by omega⟩
  · intro b hb
    have := h.rdlt b hb
    omega

theorem HSim.drop {objs : List Obj} {w : World} {g : Gh} (h : HSim objs w g) (id : Nat) : HSim (dropO objs id) w g where
  obj := fun j sz es hj => by
    rw [lookO_dropO] at hj
    split at hj
    · simp at hj
    · exact h.obj j sz es hj
  sep := h.sep
  rdlt := h.rdlt

/-- The subtree at (id, p) is told to stand at (id', p'). -/
def gMove (g : Gh) (id : Nat) (p : Path) (id' : Nat) (p' : Path) : Gh :=
  { g with
    loc := fun j q =>
      match (if j = id' then stripP p' q else none) with
      | some r => g.loc id (p ++ r)
      | none => if j = id then (match stripP p q with | some _ => none | none => g.loc j q) else g.loc j q
    own := fun b =>
      match g.own b with
      | some (j, q) => if j = id then (match stripP p q with | some r => some (id', p' ++ r) | none => some (j, q)) else some (j, q)
      | none => none }

theorem gMove_loc_to (g : Gh) (id : Nat) (p : Path) (id' : Nat) (p' r : Path) : (gMove g id p id' p').loc id' (p' ++ r) = g.loc id (p ++ r) := by
  simp [gMove, stripP_app]

theorem gMove_own_to {g : Gh} {id : Nat} {p : Path} (id' : Nat) (p' : Path) {b : Nat} {r : Path} (h : g.own b = some (id, p ++ r)) : (gMove g id p id' p').own b = some (id', p' ++ r) := by
  simp [gMove, h, stripP_app]

theorem gMove_loc_else {g : Gh} {id : Nat} {p : Path} {id' : Nat} {p' : Path} {j : Nat} {q : Path} (h1 : ∀ r, j = id' → q ≠ p' ++ r) (h2 : ∀ r, j = id → q ≠ p ++ r) :
    (gMove g id p id' p').loc j q = g.loc j q := by
  have e1 : (if j = id' then stripP p' q else none) = none := by
    split
    · rename_i h
      cases hs : stripP p' q with
      | none => rfl
      | some r => exact absurd (stripP_some hs) (h1 r h)
    · rfl
  simp only [gMove, e1]
  split
  · rename_i h
    cases hs : stripP p q with
    | none => rfl
    | some r => exact absurd (stripP_some hs) (h2 r h)
  · rfl

theorem gMove_own_else {g : Gh} {id : Nat} {p : Path} {id' : Nat} {p' : Path} {b j : Nat} {q : Path} (h : g.own b = some (j, q)) (h2 : ∀ r, j = id → q ≠ p ++ r) :
    (gMove g id p id' p').own b = some (j, q) := by
  simp only [gMove, h]
  split
  · rename_i e
    cases hs : stripP p q with
    | none => rfl
    | some r => exact absurd (stripP_some hs) (h2 r e)
  · rfl

theorem gMove_sep {g : Gh} {id : Nat} {p : Path} {id' : Nat} {p' : Path} {w : World} (h : ∀ b p, g.own b = some p → ¬ g.perm b ∧ ¬ g.bor b ∧ b < w.heap.size) :
    ∀ b q, (gMove g id p id' p').own b = some q → ¬ (gMove g id p id' p').perm b ∧ ¬ (gMove g id p id' p').bor b ∧ b < w.heap.size := by
  intro b q hb
  cases ho : g.own b with
  | none => simp [gMove, ho] at hb
  | some jq => exact h b jq ho

theorem gMove_rd (g : Gh) (id : Nat) (p : Path) (id' : Nat) (p' : Path) (w : World) : RdKeep g w (gMove g id p id' p') w :=
  ⟨fun _ hb => ⟨hb, rfl⟩, fun _ hb => ⟨.inr hb, rfl⟩⟩

theorem gMove_keep (g : Gh) (id : Nat) (p : Path) (id' : Nat) (p' : Path) (w : World) (h1 : (p ≠ [] ∧ g.st = false) ∨ 16 ≤ id) (h2 : (p' ≠ [] ∧ g.st = false) ∨ 16 ≤ id') : Keep g w (gMove g id p id' p') w :=
  ⟨rfl, rfl, rfl, Nat.le_refl _, fun b _ ho => ⟨rfl, by simp [gMove, ho]⟩, fun _ h => h, fun _ _ h => .inl h, fun _ => Iff.rfl, fun j q hj hq => gMove_loc_else
    (fun r e1 e2 => by
      rcases h2 with h2 | h2
      · rcases hq with hq | hq
        · subst hq; simp at e2; exact h2.1 e2.1
        · rw [h2.2] at hq; simp at hq
      · omega)
    (fun r e1 e2 => by
      rcases h1 with h1 | h1
      · rcases hq with hq | hq
        · subst hq; simp at e2; exact h1.1 e2.1
        · rw [h1.2] at hq; simp at hq
      · omega), rfl⟩

/-- An object under another number. -/
theorem HSim.rename {objs : List Obj} {w : World} {g : Gh} (h : HSim objs w g) (id id' sz : Nat) (es : List AV) (hl : lookO objs id = some (sz, es)) (hf : lookO objs id' = none) :
    HSim (setO (dropO objs id) id' sz es) w (gMove g id [] id' []) where
  obj := fun j sz' es' hj => by
    rw [lookO_setO] at hj
    have hne : id ≠ id' := fun e => by rw [e, hf] at hl; simp at hl
    split at hj
    · rename_i hji
      obtain ⟨rfl, rfl⟩ := Prod.mk.inj (Option.some.inj hj)
      subst hji
      obtain ⟨v, hv⟩ := h.obj id sz es hl
      exact ⟨v, hv.move (gMove_rd g id [] id' [] w) id [] id' [] rfl (fun b r hb => ⟨rfl, gMove_own_to id' [] hb⟩) (fun r => gMove_loc_to g id [] id' [] r)⟩
    · rename_i hji
      rw [lookO_dropO] at hj
      split at hj
      · simp at hj
      · rename_i hji2
        obtain ⟨v, hv⟩ := h.obj j sz' es' hj
        exact ⟨v, hv.stay (gMove_rd g id [] id' [] w) (fun b r hb => ⟨rfl, gMove_own_else hb (fun _ e => absurd e.symm hji2)⟩)
          (fun r => gMove_loc_else (fun _ e => absurd e.symm hji) (fun _ e => absurd e.symm hji2))⟩
  sep := gMove_sep h.sep
  rdlt := h.rdlt

end Go.Proofs.YtkhobcmkbldmiaaFw
