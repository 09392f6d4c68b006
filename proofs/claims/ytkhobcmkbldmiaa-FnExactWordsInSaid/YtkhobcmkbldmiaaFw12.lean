/- Stores. -/
import Derived.Test.YtkhobcmkbldmiaaFw11
namespace Go.Proofs.YtkhobcmkbldmiaaFw
open Go Go.RowKit
set_option linter.unusedVariables false

/-- Forget what is told below a place. -/
def killP (id : Nat) (p : Path) : Nat → Path → Option (Nat × Path) := fun j r =>
  if j = id then (match stripP p r with | some _ => none | none => some (j, r)) else some (j, r)

def St.store1 (s : St) (id : Nat) (q : Path) (i k : Nat) (c : AV) : Option St :=
  if s.st = true ∧ id < 16 ∧ solid c = false then none
  else
  match lookO s.objs id with
  | some (rsz, res) =>
    match navG res rsz q with
    | some (sz, es) =>
      match es[i]? with
      | some x =>
        match x.cells[k]? with
        | some _ => some { s with slots := mapS (killP id (q ++ [(i, k)])) s.slots, objs := setO s.objs id rsz (navSet res q (es.set i (x.setC k c))) }
        | none => none
      | none => none
    | none => none
  | none => none

theorem navG_set : ∀ (q : Path) (res : List AV) (rsz sz : Nat) (es new : List AV), navG res rsz q = some (sz, es) → navG (navSet res q new) rsz q = some (sz, new) := by
  intro q
  induction q with
  | nil => intro res rsz sz es new h; simp only [navG, Option.some.injEq, Prod.mk.injEq] at h; obtain ⟨rfl, rfl⟩ := h; rfl
  | cons ik q ih =>
    obtain ⟨i, k⟩ := ik
    intro res rsz sz es new h
    simp only [navG] at h
    cases hx : res[i]? with
    | none => simp [hx] at h
    | some x =>
      cases hy : x.cells[k]? with
      | none => simp [hx, hy] at h
      | some y =>
        simp only [hx, hy] at h
        split at h
        · rename_i sz2 es2 he
          obtain rfl := Option.some.inj he
          simp only [navSet, hx, hy, navG]
          rw [List.getElem?_set_self (lt_of_get hx)]
          simp only [setC_cells _ _ _ (row_cells _ _ _) (lt_of_get hy), if_true]
          exact ih _ _ _ _ _ h
        · simp at h

theorem Sim.store1 {s s' : St} {a : Act} {w : World} {g : Gh} (h : Sim s a w g) {id : Nat} {q : Path} {i k sz : Nat} {es : List AV} {x c : AV} (hp : s.store1 id q i k c = some s')
    (hn : s.node id q = some (sz, es)) (hx : es[i]? = some x) {u : Value} (hf : Flat g w c u) (hc : c.cells = [c]) {b cp l : Nat} (hloc : g.loc id q = some (b, cp, l)) :
    Sim s' a (w.setCell ⟨b, i * sz + k, none⟩ u) (gSt (solid c) g id (q ++ [(i, k)])) ∧ Keep g w (gSt (solid c) g id (q ++ [(i, k)])) (w.setCell ⟨b, i * sz + k, none⟩ u) ∧
      RdKeep g w (gSt (solid c) g id (q ++ [(i, k)])) (w.setCell ⟨b, i * sz + k, none⟩ u) ∧ (∃ es', s'.node id q = some (sz, es') ∧ es'[i]? = some (x.setC k c)) ∧
      (∀ t, t ≠ id → lookO s'.objs t = lookO s.objs t) ∧ g.own b = some (id, q) ∧ k < x.width := by
  unfold St.store1 at hp
  split at hp
  · simp at hp
  rename_i hst0
  split at hp
  · rename_i rsz res hl
    have hn' : navG res rsz q = some (sz, es) := by
      obtain ⟨rsz', res', h1, h2⟩ := St.node_some hn
      rw [hl] at h1
      simp only [Option.some.injEq, Prod.mk.injEq] at h1
      obtain ⟨rfl, rfl⟩ := h1
      exact h2
    rw [hn'] at hp
    simp only at hp
    rw [hx] at hp
    simp only at hp
    split at hp
    · rename_i y0 hy0
      obtain rfl := Option.some.inj hp
      obtain ⟨b', c', cur, e, hloc', hown, hb, hlt, hH, hr⟩ := h.h.store hl hn' hx hy0 hc hf
      rw [hloc] at hloc'
      simp only [Option.some.injEq, Prod.mk.injEq] at hloc'
      obtain ⟨rfl, rfl, rfl⟩ := hloc'
      refine ⟨h.turn hr ?_ hH, ?_, hr, ?_, ?_, hown, lt_of_get hy0⟩
      · intro j r j' r' hf
        simp only [killP] at hf
        split at hf
        · rename_i e
          split at hf
          · simp at hf
          · rename_i hs
            simp only [Option.some.injEq, Prod.mk.injEq] at hf
            obtain ⟨rfl, rfl⟩ := hf
            exact gSt_else (fun r _ => stripP_none hs r)
        · rename_i hne
          simp only [Option.some.injEq, Prod.mk.injEq] at hf
          obtain ⟨rfl, rfl⟩ := hf
          exact gSt_else (fun _ e => absurd e hne)
      · refine ⟨rfl, rfl, rfl, by simp [World.setCell], ?_, fun _ h => h, fun _ _ h => .inl h, fun _ => Iff.rfl, ?_, rfl⟩
        intro b1 _ ho
        refine ⟨heap_setCell_ne ?_, ho⟩
        intro e; simp only at e; subst e
        rw [hown] at ho; simp at ho
        intro j r hj hq
        cases hsol : solid c with
        | true => rfl
        | false =>
          refine gKill_root g id _ ?_ j r hj hq
          cases hgs : g.st with
          | false => exact .inl ⟨by simp, rfl⟩
          | true =>
            refine .inr ?_
            rcases Nat.lt_or_ge id 16 with h16 | h16
            · exact absurd ⟨h.st.trans hgs, h16, hsol⟩ hst0
            · exact h16
      · simp only [St.node, lookO_setO, if_true]
        refine ⟨_, navG_set q res rsz sz es _ hn', ?_⟩
        rw [List.getElem?_set_self (lt_of_get hx)]
      · intro t ht
        simp only [lookO_setO]
        rw [if_neg (fun e => ht e.symm)]
    · simp at hp
  · simp at hp

def St.storeL (s : St) (id : Nat) (q : Path) (i : Nat) : Nat → List AV → Option St
  | _, [] => some s
  | k, c :: cs =>
    match s.store1 id q i k c with
    | some s' => s'.storeL id q i (k + 1) cs
    | none => none

theorem setCells_other (a : Addr) (hs : a.spot = none) : ∀ (us : List Value) (w : World) (j : Nat) (p : Addr), (∀ i, i < us.length → a.add (j + i) ≠ p) → (setCells w a us j).cell? p = w.cell? p
  | [], w, j, p, _ => rfl
  | u :: r, w, j, p, h => by
    simp only [setCells]
    rw [setCells_other a hs r _ (j + 1) p (fun i hi => by have := h (i + 1) (by simpa using hi); rwa [show j + (i + 1) = j + 1 + i by omega] at this)]
    exact World.cell?_setCell_other w _ _ _ (by have := h 0 (by simp); simpa using this)

theorem add_inj {a : Addr} (hs : a.spot = none) {m n : Nat} (h : a.add m = a.add n) : m = n := by
  obtain ⟨b, o, s⟩ := a
  simp only at hs
  subst hs
  rw [add_lit, add_lit] at h
  simp only [Addr.mk.injEq] at h
  omega

theorem setCells_at (a : Addr) (hs : a.spot = none) : ∀ (us : List Value) (w : World) (j : Nat), (∀ i, i < us.length → (w.cell? (a.add (j + i))).isSome = true) →
    ∀ (i : Nat) (u : Value), us[i]? = some u → (setCells w a us j).cell? (a.add (j + i)) = some u
  | [], w, j, _, i, u, h => by simp at h
  | v :: r, w, j, hc, i, u, h => by
    simp only [setCells]
    cases i with
    | zero =>
      simp at h; subst h
      rw [setCells_other a hs r _ (j + 1) _ (fun i hi e => by have := add_inj hs e; omega)]
      obtain ⟨x, hx⟩ := Option.isSome_iff_exists.1 (hc 0 (by simp))
      exact World.cell?_setCell_same w _ _ hx
    | succ i =>
      have := setCells_at a hs r (w.setCell (a.add j) v) (j + 1) (fun i hi => by
        rw [cell?_setCell_isSome]
        have := hc (i + 1) (by simpa using hi)
        rwa [show j + (i + 1) = j + 1 + i by omega] at this) i u (by simpa using h)
      rwa [show j + (i + 1) = j + 1 + i by omega]

theorem Sim.storeL {a : Act} {id : Nat} {q : Path} {i : Nat} {b cp l : Nat} {sz : Nat} : ∀ (cs : List AV) (us : List Value) (k j : Nat) (s s' : St) (w : World) (g : Gh) (es : List AV) (x : AV), Sim s a w g → s.storeL id q i k cs = some s' →
    us.length = cs.length → s.node id q = some (sz, es) → es[i]? = some x → g.loc id q = some (b, cp, l) → g.own b = some (id, q) →
    (∀ (m : Nat) (c : AV), cs[m]? = some c → ∃ u, us[m]? = some u ∧ Flat g w c u ∧ c.cells = [c]) → k + cs.length ≤ x.width → 
    ∀ o, i * sz + k = o + j →
    ∃ g', Sim s' a (setCells w ⟨b, o, none⟩ us j) g' ∧ Keep g w g' (setCells w ⟨b, o, none⟩ us j) ∧ g'.loc id q = some (b, cp, l) ∧ (∃ es', s'.node id q = some (sz, es')) ∧
      (∀ t, t ≠ id → lookO s'.objs t = lookO s.objs t) ∧ (∀ t r, t ≠ id → g'.loc t r = g.loc t r)
  | [], us, k, j, s, s', w, g, es, x, h, hp, hl, hn, hx, hloc, hown, hf, hk, o, ho => by
    simp only [St.storeL, Option.some.injEq] at hp; subst hp
    cases us with
    | nil => exact ⟨g, h, Keep.refl g w, hloc, ⟨es, hn⟩, fun _ _ => rfl, fun _ _ _ => rfl⟩
    | cons u r => simp at hl
  | c :: cs, us, k, j, s, s', w, g, es, x, h, hp, hl, hn, hx, hloc, hown, hf, hk, o, ho => by
    cases us with
    | nil => simp at hl
    | cons u us =>
      simp only [St.storeL] at hp
      split at hp
      · rename_i s1 h1
        obtain ⟨u', hu', hfl, hcc⟩ := hf 0 c rfl
        simp only [List.getElem?_cons_zero, Option.some.injEq] at hu'
        subst hu'
        obtain ⟨hs1, hk1, hr1, ⟨es1, hn1, hx1⟩, ho1, _, hkw⟩ := h.store1 h1 hn hx hfl hcc hloc
        have hloc1 : (gSt (solid c) g id (q ++ [(i, k)])).loc id q = some (b, cp, l) := by rw [gSt_else (fun r _ => snoc_ne q r (i, k))]; exact hloc
        have hwid : (x.setC k c).width = x.width := setC_width _ _ _ hcc
        obtain ⟨g', a1, a2, a3, a4, a5, a6⟩ := Sim.storeL cs us (k + 1) (j + 1) s1 s' _ _ es1 _ hs1 hp (by simpa using hl) hn1 hx1 hloc1 hown
          (fun m c' hc' => by
            obtain ⟨u', h2, h3, h4⟩ := hf (m + 1) c' (by simpa using hc')
            exact ⟨u', by simpa using h2, h3.still hr1, h4⟩) (by rw [hwid]; simp at hk; omega) o (by omega)
        have e : (⟨b, o, none⟩ : Addr).add j = ⟨b, i * sz + k, none⟩ := by rw [add_lit, ho]
        simp only [setCells, e]
        exact ⟨g', a1, hk1.trans a2, a3, a4, fun t ht => (a5 t ht).trans (ho1 t ht), fun t r ht => (a6 t r ht).trans (gSt_else (fun _ e => absurd e ht))⟩
      · simp at hp

def sStore (T : Tab) (s : St) (t : TypeId) (x y : AV) : Option St :=
  match T t, x with
  | some ti, .ptr id q sz i k =>
    match s.node id q with
    | some (sz', es) =>
      if sz' = sz ∧ isDead y = false then
        match es[i]?, cellsOf k ti.z y.cells with
        | some e, some (cs, ps) =>
          if k + cs.length ≤ e.width then
            match s.storeL id q i k cs with
            | some s' => s'.plugL id q (ps.map fun p => (i, p.1, p.2))
            | none => none
          else none
        | _, _ => none
      else none
    | none => none
  | _, _ => none

theorem cellOf_one {g : Gh} {w : World} {z y c : AV} {t : Option Nat} (h : cellOf z y = some (c, t)) {u : Value} (hv : Val g w y u) : u.oneCell' = true := by
  unfold cellOf at h
  split at h <;> (try (simp at h; done))
  all_goals cases hv <;> first | rfl | (rename_i hh; cases hh <;> rfl)

theorem cellsOf_one {g : Gh} {w : World} : ∀ (zs ys : List AV) (k : Nat) (cs : List AV) (ps : List (Nat × Nat)), cellsOf k zs ys = some (cs, ps) →
    ∀ us : List Value, us.length = ys.length → (∀ (j : Nat) (c : AV) (u : Value), ys[j]? = some c → us[j]? = some u → Val g w c u) → (∀ u ∈ us, u.oneCell' = true) ∧ zs.length = ys.length
  | [], [], k, cs, ps, h, us, hl, hv => by
    cases us with
    | nil => exact ⟨fun u h => by simp at h, rfl⟩
    | cons u r => simp at hl
  | [], _ :: _, k, cs, ps, h, us, hl, hv => by simp [cellsOf] at h
  | _ :: _, [], k, cs, ps, h, us, hl, hv => by simp [cellsOf] at h
  | z :: zs, y :: ys, k, cs, ps, h, us, hl, hv => by
    cases us with
    | nil => simp at hl
    | cons u us =>
      simp only [cellsOf] at h
      split at h
      · rename_i c t cs' ps' h1 h2
        obtain ⟨i1, i2⟩ := cellsOf_one (g := g) (w := w) zs ys (k + 1) cs' ps' h2 us (by simpa using hl) (fun j c u hc hu => hv (j + 1) c u (by simpa using hc) (by simpa using hu))
        refine ⟨?_, by simp [i2]⟩
        intro u' hu'
        rcases List.mem_cons.1 hu' with rfl | hu'
        · exact cellOf_one (g := g) (w := w) h1 (hv 0 y _ rfl rfl)
        · exact i1 u' hu'
      · simp at h

theorem sStore_ok {P : Program} {T : Tab} (hT : TabOk P T) {s s' : St} {t : TypeId} {x y : AV} (h : sStore T s t x y = some s') {a : Act} {w : World} {g : Gh} (hs : Sim s a w g) {v u : Value} (hv : Val g w x v) (hu : Val g w y u) :
    ∃ w' g', (Instr.storeAt t v u).run P w = .ok () w' ∧ Sim s' a w' g' ∧ Keep g w g' w' := by
  unfold sStore at h
  split at h
  · rename_i ti id q sz i k hti
    split at h
    · rename_i sz' es hn
      split at h
      · rename_i hcond
        obtain ⟨rfl, hd⟩ := hcond
        split at h
        · rename_i e cs ps he hcs
          split at h
          · rename_i hlen
            split at h
            · rename_i s1 h1
              obtain ⟨b, c, n, hloc, rfl⟩ := hv.ptr_inv
              obtain ⟨v', hnode⟩ := hs.node hn
              obtain ⟨b', c', cur, ee, us, rfl, hloc', hown, hb, hlc, hcm, hcz, hw, hc, ht⟩ := hnode.node he
              rw [hloc] at hloc'
              simp only [Option.some.injEq, Prod.mk.injEq] at hloc'
              obtain ⟨rfl, rfl, rfl⟩ := hloc'
              obtain ⟨hsz, hcells⟩ := hu.cells (fun e => by rw [e] at hd; simp [isDead] at hd)
              have hvv : ∀ (j : Nat) (c : AV) (u' : Value), y.cells[j]? = some c → u.cells.toList[j]? = some u' → Val g w c u' := fun j c u' h1 h2 => hcells j c u' h1 (by simpa using h2)
              obtain ⟨k1, k2, k3⟩ := cellsOf_ok (g := g) (w := w) _ _ _ _ _ hcs u.cells.toList (by simpa using hsz) hvv
              obtain ⟨o1, o2⟩ := cellsOf_one (g := g) (w := w) _ _ _ _ _ hcs u.cells.toList (by simpa using hsz) hvv
              obtain ⟨_, zz, _, z2, _, _⟩ := (hT t ti hti).info
              have hzl : ti.z.length = ti.sz := by obtain ⟨_, _, _, _, _, _, _, h7, _⟩ := (hT t ti hti).info; exact h7
              obtain ⟨g1, a1, a2, a3, ⟨es', a4⟩, a5, a6⟩ := Sim.storeL cs u.cells.toList k 0 s s1 w g es e hs h1 (by simp [k1, hsz]) hn he hloc hown k2 hlen (i * sz' + k) rfl
              have hcell0 : ∀ j, j < u.cells.toList.length → (w.cell? ((⟨b, i * sz' + k, none⟩ : Addr).add (0 + j))).isSome = true ∧ w.frozen? ((⟨b, i * sz' + k, none⟩ : Addr).add (0 + j)) = false := by
                intro j hj
                simp only [Array.length_toList] at hj
                have hlt2 : k + j < e.cells.length := by have : e.width = e.cells.length := rfl; omega
                rw [Nat.zero_add, add_lit, cell_of_block hb, frozen_of_block hb, Nat.add_assoc, hc i (k + j) e _ he (List.getElem?_eq_getElem hlt2)]
                exact ⟨rfl, rfl⟩
              have hrun : (Instr.storeAt t (.pointer (some ⟨b, i * sz' + k, none⟩)) u).run P w = .ok () (setCells w ⟨b, i * sz' + k, none⟩ u.cells.toList 0) := by
                have : u.cells.size = ti.sz := by omega
                simp only [Instr.storeAt, Instr.sureAddr, storeVar, Sem.run_bind, Sem.run_pure, Result.andThen_ok, run_sizeOf' (hT t ti hti), this, ne_eq, not_true_eq_false, if_false]
                exact run_storeCells' _ _ 0 w o1 hcell0
              obtain ⟨g2, b1, b2⟩ := Sim.plugL _ s1 s' g1 sz' es' a1 h a4 a3 (by
                intro i' k' tid hm hne _
                rw [List.mem_map] at hm
                obtain ⟨p, hp, e⟩ := hm
                simp only [Prod.mk.injEq] at e
                obtain ⟨rfl, rfl, rfl⟩ := e
                obtain ⟨j, u', e1, e2, e3⟩ := k3 p.1 p.2 hp
                refine ⟨u', ?_, e3.hd_loc (a6 _ _ hne)⟩
                have := setCells_at ⟨b, i * sz' + k, none⟩ rfl u.cells.toList w 0 (fun j hj => (hcell0 j hj).1) j u' e2
                rwa [Nat.zero_add, add_lit, Nat.add_assoc, ← e1] at this)
              exact ⟨_, g2, hrun, b1, a2.trans b2⟩
            · simp at h
          · simp at h
        · simp at h
      · simp at h
    · simp at h
  · simp at h

end Go.Proofs.YtkhobcmkbldmiaaFw
