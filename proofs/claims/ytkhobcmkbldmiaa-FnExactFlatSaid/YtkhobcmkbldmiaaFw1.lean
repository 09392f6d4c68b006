/- Ways into own trees: what stands at a path, what it is turned to. -/
import Derived.Test.YtkhobcmkbldmiaaFw0
namespace Go.Proofs.YtkhobcmkbldmiaaFw
open Go Go.RowKit

/-- The own row at a path. -/
def navG : List AV → Nat → Path → Option (Nat × List AV)
  | es, sz, [] => some (sz, es)
  | es, _, (i, k) :: q =>
    match es[i]? with
    | some x =>
      match x.cells[k]? with
      | some (.row .own sz' es') => navG es' sz' q
      | _ => none
    | none => none

/-- The tree with other elements at a path. -/
def navSet : List AV → Path → List AV → List AV
  | _, [], new => new
  | es, (i, k) :: q, new =>
    match es[i]? with
    | some x =>
      match x.cells[k]? with
      | some (.row .own sz' es') => es.set i (x.setC k (.row .own sz' (navSet es' q new)))
      | _ => es
    | none => es

theorem setC_width (x : AV) (k : Nat) (c : AV) (hc : c.cells = [c]) : (x.setC k c).width = x.width := by
  have h1 : c.cells.length = 1 := by rw [hc]; rfl
  cases x <;> first | exact h1 | simp [AV.setC, AV.width, AV.cells]

theorem setC_cells (x : AV) (k : Nat) (c : AV) (hc : c.cells = [c]) (hk : k < x.width) (j : Nat) :
    (x.setC k c).cells[j]? = if j = k then some c else x.cells[j]? := by
  cases x with
  | agg cs =>
    simp only [AV.setC, AV.cells, AV.width] at hk ⊢
    by_cases hj : j = k
    · subst hj; simp [List.getElem?_set_self hk]
    · rw [if_neg hj, List.getElem?_set_ne (by omega)]
  | _ =>
    simp only [AV.width, AV.cells, List.length_singleton] at hk
    obtain rfl : k = 0 := by omega
    show c.cells[j]? = _
    rw [hc]
    cases j <;> simp [AV.cells]

theorem row_cells (m : Md) (sz : Nat) (es : List AV) : (AV.row m sz es).cells = [AV.row m sz es] := rfl

theorem lt_of_get {α : Type} {l : List α} {i : Nat} {x : α} (h : l[i]? = some x) : i < l.length := by
  rcases Nat.lt_or_ge i l.length with h' | h'
  · exact h'
  · simp [List.getElem?_eq_none h'] at h

theorem Cell.nav {g : Gh} {w : World} {id : Nat} : ∀ (q p : Path) (sz : Nat) (es : List AV) (v : Value) (sz' : Nat) (es' : List AV),
    Cell g w (.at id p) (.row .own sz es) v → navG es sz q = some (sz', es') → ∃ v', Cell g w (.at id (p ++ q)) (.row .own sz' es') v' := by
  intro q
  induction q with
  | nil =>
    intro p sz es v sz' es' h hn
    simp only [navG, Option.some.injEq, Prod.mk.injEq] at hn
    obtain ⟨rfl, rfl⟩ := hn
    exact ⟨v, by simpa using h⟩
  | cons ik q ih =>
    intro p sz es v sz' es' h hn
    obtain ⟨i, k⟩ := ik
    simp only [navG] at hn
    cases hx : es[i]? with
    | none => simp [hx] at hn
    | some x =>
      cases hy : x.cells[k]? with
      | none => simp [hx, hy] at hn
      | some y =>
        simp only [hx, hy] at hn
        split at hn
        · rename_i sz2 es2 he
          obtain rfl := Option.some.inj he
          cases h with
          | rd _ _ _ _ a c us hp hm => exact hm.elim
          | emp _ _ _ a c hm => exact absurd rfl hm
          | ownNil => simp at hx
          | own _ _ _ _ b c cur e us hl ho hb hn' hm hz hw hc ht =>
            have := ih (p ++ [(i, k)]) _ _ _ _ _ (ht i k x _ hx hy) hn
            simpa using this
        · simp at hn

theorem Cell.upd {g g' : Gh} {w w' : World} (hr : RdKeep g w g' w') {id : Nat} : ∀ (q p : Path) (sz : Nat) (es : List AV) (v : Value) (sz' : Nat) (es' new : List AV),
    Cell g w (.at id p) (.row .own sz es) v → navG es sz q = some (sz', es') →
    (∀ v', Cell g w (.at id (p ++ q)) (.row .own sz' es') v' → Cell g' w' (.at id (p ++ q)) (.row .own sz' new) v') →
    (∀ b q', g.own b = some (id, q') → (∀ r, q' ≠ p ++ q ++ r) → w'.heap[b]? = w.heap[b]? ∧ g'.own b = some (id, q')) →
    (∀ q', (∀ r, q' ≠ p ++ q ++ r) → g'.loc id q' = g.loc id q') →
    Cell g' w' (.at id p) (.row .own sz (navSet es q new)) v := by
  intro q
  induction q with
  | nil =>
    intro p sz es v sz' es' new h hn hN _ _
    simp only [navG, Option.some.injEq, Prod.mk.injEq] at hn
    obtain ⟨rfl, rfl⟩ := hn
    simp only [List.append_nil] at hN
    exact hN v h
  | cons ik q ih =>
    intro p sz es v sz' es' new h hn hN hF hL
    obtain ⟨i, k⟩ := ik
    simp only [navG] at hn
    cases hx : es[i]? with
    | none => simp [hx] at hn
    | some x =>
      cases hy : x.cells[k]? with
      | none => simp [hx, hy] at hn
      | some y =>
        simp only [hx, hy] at hn
        split at hn
        · rename_i sz2 es2 he
          obtain rfl := Option.some.inj he
          cases h with
          | rd _ _ _ _ a c us hp hm => exact hm.elim
          | emp _ _ _ a c hm => exact absurd rfl hm
          | ownNil => simp at hx
          | own _ _ _ _ b c cur e us hl ho hb hn' hm hz hw hc ht =>
            have hsub := ih (p ++ [(i, k)]) sz2 es2 _ sz' es' new (ht i k x _ hx hy) hn (by simpa using hN) (by simpa using hF) (by simpa using hL)
            have hk : k < x.width := lt_of_get hy
            have hself : ∀ r : Path, p ≠ p ++ (i, k) :: q ++ r := by
              intro r e
              have := congrArg List.length e
              simp at this
            have h0 := hF b p ho hself
            simp only [navSet, hx, hy]
            have hlen : (es.set i (x.setC k (.row .own sz2 (navSet es2 q new)))).length = es.length := List.length_set
            rw [← hlen]
            have hcells : ∀ i' k' x' y', (es.set i (x.setC k (.row .own sz2 (navSet es2 q new))))[i']? = some x' → x'.cells[k']? = some y' →
                ∃ x0 y0, es[i']? = some x0 ∧ x0.cells[k']? = some y0 ∧ ((i' = i ∧ k' = k ∧ y' = .row .own sz2 (navSet es2 q new)) ∨ (¬ (i' = i ∧ k' = k) ∧ y' = y0)) := by
              intro i' k' x' y' hx' hy'
              by_cases hi : i' = i
              · subst hi
                rw [List.getElem?_set_self (lt_of_get hx)] at hx'
                obtain rfl := Option.some.inj hx'
                rw [setC_cells _ _ _ (row_cells _ _ _) hk] at hy'
                by_cases hkk : k' = k
                · subst hkk
                  rw [if_pos rfl] at hy'
                  exact ⟨x, _, hx, hy, .inl ⟨rfl, rfl, (Option.some.inj hy').symm⟩⟩
                · rw [if_neg hkk] at hy'
                  exact ⟨x, y', hx, hy', .inr ⟨fun h => hkk h.2, rfl⟩⟩
              · rw [List.getElem?_set_ne (by omega)] at hx'
                exact ⟨x', y', hx', hy', .inr ⟨fun h => hi h.1, rfl⟩⟩
            refine .own _ _ _ _ b c cur e us ?_ h0.2 (by rw [h0.1]; exact hb) (by rw [hlen]; exact hn') hm hz ?_ ?_ ?_
            · rw [hL p hself, hlen]; exact hl
            · intro i' x' hx'
              by_cases hi : i' = i
              · subst hi
                rw [List.getElem?_set_self (lt_of_get hx)] at hx'
                obtain rfl := Option.some.inj hx'
                rw [setC_width _ _ _ (row_cells _ _ _)]
                exact hw _ _ hx
              · rw [List.getElem?_set_ne (by omega)] at hx'
                exact hw _ _ hx'
            · intro i' k' x' y' hx' hy'
              obtain ⟨x0, y0, h1, h2, _⟩ := hcells i' k' x' y' hx' hy'
              exact hc i' k' x0 y0 h1 h2
            · intro i' k' x' y' hx' hy'
              obtain ⟨x0, y0, h1, h2, h3⟩ := hcells i' k' x' y' hx' hy'
              rcases h3 with ⟨rfl, rfl, rfl⟩ | ⟨hne, rfl⟩
              · rw [hx] at h1; obtain rfl := Option.some.inj h1
                rw [hy] at h2; obtain rfl := Option.some.inj h2
                exact hsub
              · have hne' : ∀ r s : Path, p ++ [(i', k')] ++ r ≠ p ++ (i, k) :: q ++ s := by
                  intro r s e
                  simp at e
                  exact hne ⟨e.1.1, e.1.2⟩
                exact (ht i' k' x0 _ h1 h2).stay hr (fun b' r hb' => hF b' _ hb' (hne' r)) (fun r => hL _ (hne' r))
        · simp at hn

end Go.Proofs.YtkhobcmkbldmiaaFw
