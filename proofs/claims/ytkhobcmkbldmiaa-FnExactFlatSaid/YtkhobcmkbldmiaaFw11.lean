/- New objects, and trees put into cells. -/
import Derived.Test.YtkhobcmkbldmiaaFw10
namespace Go.Proofs.YtkhobcmkbldmiaaFw
open Go Go.RowKit
set_option linter.unusedVariables false

/-- Forget what is told of an object. -/
def killF (id : Nat) : Nat → Path → Option (Nat × Path) := fun j q => if j = id then none else some (j, q)

def St.newO (s : St) (d id sz : Nat) (es : List AV) (x : AV) : St :=
  { s with slots := putS (mapS (killF id) s.slots) d x, objs := setO s.objs id sz es }

theorem Keep.of_new {w w' : World} {g g' : Gh} (hs : ∀ b, g.canRd b → b < w.heap.size) (hos : w'.os = w.os ∧ w'.tape = w.tape ∧ w'.output = w.output) (hsz : w.heap.size ≤ w'.heap.size)
    (hold : ∀ k, k < w.heap.size → g.own k = none → w'.heap[k]? = w.heap[k]?) (hown : ∀ k, k < w.heap.size → g.own k = none → g'.own k = none) (hp : g'.perm = g.perm) (hb : g'.bor = g.bor) (hrt : ∀ id q, id < 16 → g'.loc id q = g.loc id q) (hst : g'.st = g.st) : Keep g w g' w' :=
  ⟨hos.1, hos.2.1, hos.2.2, hsz, fun b h1 h2 => ⟨hold b h1 h2, hown b h1 h2⟩, fun b h => by rw [hp]; exact h, fun b _ h => .inl (by rw [hp] at h; exact h), fun b => by rw [hb], fun id q hi _ => hrt id q hi, hst⟩

/-- A step that makes an object. -/
theorem Sim.newO {s : St} {a : Act} {w w' : World} {g : Gh} (h : Sim s a w g) (d id sz : Nat) (hid : 16 ≤ id) (es : List AV) (c : Nat) (cur : Array Value) (e : TypeId)
    (hd : s.fits (some d) = true) (hw' : w'.heap = w.heap.push (.cells cur e (0, 0))) (hos : w'.os = w.os ∧ w'.tape = w.tape ∧ w'.output = w.output)
    (hn : es.length ≤ c) (hm : c ≤ maxLen) (hz : cur.size = c * sz)
    (hwd : ∀ (i : Nat) (x : AV), es[i]? = some x → x.width = sz)
    (hc : ∀ (i k : Nat) (x y : AV), es[i]? = some x → x.cells[k]? = some y → ∃ u, cur[i * sz + k]? = some u ∧ Flat g w y u)
    {x : AV} {v : Value} (hv : ∀ g', g'.loc id [] = some (w.heap.size, c, es.length) → Val g' w' x v) :
    ∃ g', Sim (s.newO d id sz es x) (a.put (some d) v) w' g' ∧ Keep g w g' w' ∧ g'.loc id [] = some (w.heap.size, c, es.length) ∧
      (∀ j q, j ≠ id → g'.loc j q = g.loc j q) ∧ RdKeep g w g' w' ∧ w'.heap[w.heap.size]? = some (.cells cur e (0, 0)) := by
  obtain ⟨h1, h2, h3, h4, h5, h6, h7⟩ := h.h.new id sz es w.heap.size c cur e rfl hw' hn hm hz hwd hc
  refine ⟨_, ?_, ?_, h4, h3, h2, h6⟩
  · have ht := h.turn h2 (f := killF id) (fun j q j' q' hf => by
      simp only [killF] at hf
      split at hf
      · simp at hf
      · rename_i hne
        simp only [Option.some.injEq, Prod.mk.injEq] at hf
        obtain ⟨rfl, rfl⟩ := hf
        exact h3 _ _ hne) h1
    exact ht.put (d := some d) hd (hv _ h4)
  · exact Keep.of_new h.h.rdlt hos (by omega) (fun k hk _ => h5 k hk) (fun k hk ho => by simp only [gNew]; rw [if_neg (by omega)]; exact ho) rfl rfl (fun j q hj => h3 j q (by omega)) rfl

/-- A slice of nothing, told as an object. -/
theorem HSim.newNil {objs : List Obj} {w : World} {g : Gh} (h : HSim objs w g) (id sz : Nat) : HSim (setO objs id sz []) w (gKill g id []) where
  obj := fun j sz' es' hj => by
    rw [lookO_setO] at hj
    have hr : RdKeep g w (gKill g id []) w := ⟨fun b hb => ⟨hb, rfl⟩, fun b hb => ⟨.inr hb, rfl⟩⟩
    split at hj
    · rename_i hji
      obtain ⟨rfl, rfl⟩ := Prod.mk.inj (Option.some.inj hj)
      subst hji
      exact ⟨_, .ownNil _ _ _ (gKill_at g id [] [])⟩
    · rename_i hji
      obtain ⟨v, hv⟩ := h.obj j sz' es' hj
      exact ⟨v, hv.stay hr (fun b r hb => ⟨rfl, hb⟩) (fun r => gKill_else (fun _ e => absurd e.symm hji))⟩
  sep := h.sep
  rdlt := h.rdlt

theorem gKill_root (g : Gh) (id : Nat) (p : Path) (h : (p ≠ [] ∧ g.st = false) ∨ 16 ≤ id) (j : Nat) (q : Path) (hj : j < 16) (hq : q = [] ∨ g.st = true) : (gKill g id p).loc j q = g.loc j q :=
  gKill_else (fun r e1 e2 => by
    rcases h with h | h
    · rcases hq with hq | hq
      · subst hq; simp at e2; exact h.1 e2.1
      · rw [h.2] at hq; simp at hq
    · omega)

theorem gKill_keep (g : Gh) (id : Nat) (p : Path) (w : World) (h : (p ≠ [] ∧ g.st = false) ∨ 16 ≤ id) : Keep g w (gKill g id p) w :=
  ⟨rfl, rfl, rfl, Nat.le_refl _, fun b _ ho => ⟨rfl, ho⟩, fun _ h => h, fun _ _ h => .inl h, fun _ => Iff.rfl, gKill_root g id p h, rfl⟩

theorem Sim.newNil {s : St} {a : Act} {w : World} {g : Gh} (h : Sim s a w g) (d id sz : Nat) (hid : 16 ≤ id) (hd : s.fits (some d) = true) :
    ∃ g', Sim (s.newO d id sz [] (.hd id [])) (a.put (some d) (.slice none 0 0)) w g' ∧ Keep g w g' w := by
  refine ⟨gKill g id [], ?_, gKill_keep g id [] w (.inr hid)⟩
  have hr : RdKeep g w (gKill g id []) w := ⟨fun b hb => ⟨hb, rfl⟩, fun b hb => ⟨.inr hb, rfl⟩⟩
  have ht := h.turn hr (f := killF id) (fun j q j' q' hf => by
    simp only [killF] at hf
    split at hf
    · simp at hf
    · rename_i hne
      simp only [Option.some.injEq, Prod.mk.injEq] at hf
      obtain ⟨rfl, rfl⟩ := hf
      exact gKill_else (fun _ e => absurd e hne)) (h.h.newNil id sz)
  exact ht.put (d := some d) hd (.hdNil _ _ (gKill_at g id [] []))

/-! ### a tree is put into a cell -/
/-- Where views of an object are found when it stands in a cell of another. -/
def plugF (tid id : Nat) (p : Path) : Nat → Path → Option (Nat × Path) := fun j r =>
  if j = tid then some (id, p ++ r)
  else if j = id then (match stripP p r with | some _ => none | none => some (j, r))
  else some (j, r)

def St.plug1 (s : St) (id : Nat) (q : Path) (i k tid : Nat) : Option St :=
  if tid = id ∨ tid < 16 ∨ (s.st = true ∧ id < 16) then none
  else
    match lookO s.objs id, lookO s.objs tid with
    | some (rsz, res), some (tsz, tes) =>
      match navG res rsz q with
      | some (sz, es) =>
        match es[i]? with
        | some x =>
          match x.cells[k]? with
          | some .dead =>
            some { s with slots := mapS (plugF tid id (q ++ [(i, k)])) s.slots, objs := setO (dropO s.objs tid) id rsz (navSet res q (es.set i (x.setC k (.row .own tsz tes)))) }
          | _ => none
        | none => none
      | none => none
    | _, _ => none

theorem Sim.plug1 {s s' : St} {a : Act} {w : World} {g : Gh} (h : Sim s a w g) {id : Nat} {q : Path} {i k tid sz : Nat} {es : List AV} (hp : s.plug1 id q i k tid = some s')
    (hn : s.node id q = some (sz, es)) {b c l : Nat} (hloc : g.loc id q = some (b, c, l)) {u : Value} (hu : w.cell? ⟨b, i * sz + k, none⟩ = some u) (hv : Val g w (.hd tid []) u) :
    Sim s' a w (gMove g tid [] id (q ++ [(i, k)])) ∧ (∃ es', s'.node id q = some (sz, es')) ∧ (∀ t, t ≠ id → (lookO s'.objs t).isSome = true → t ≠ tid ∧ (lookO s.objs t).isSome = true) := by
  unfold St.plug1 at hp
  split at hp
  · simp at hp
  · rename_i hne0
    have hne : tid ≠ id := fun e => hne0 (.inl e)
    split at hp
    · rename_i rsz res tsz tes hl ht
      have hn' : navG res rsz q = some (sz, es) := by
        obtain ⟨rsz', res', h1, h2⟩ := St.node_some hn
        rw [hl] at h1
        simp only [Option.some.injEq, Prod.mk.injEq] at h1
        obtain ⟨rfl, rfl⟩ := h1
        exact h2
      rw [hn'] at hp
      simp only at hp
      split at hp
      · rename_i x hx
        split at hp
        · rename_i hy
          obtain rfl := Option.some.inj hp
          have hH := h.h.plug hl hn' hx hy ht hne hloc hu (fun v hcell => hcell.hd hv)
          refine ⟨h.turn (gMove_rd g tid [] id (q ++ [(i, k)]) w) ?_ hH, ?_, ?_⟩
          · intro j r j' r' hf
            simp only [plugF] at hf
            split at hf
            · rename_i e
              subst e
              simp only [Option.some.injEq, Prod.mk.injEq] at hf
              obtain ⟨rfl, rfl⟩ := hf
              exact gMove_loc_to g _ [] _ _ r
            · rename_i hne1
              split at hf
              · rename_i e
                split at hf
                · simp at hf
                · rename_i hs
                  simp only [Option.some.injEq, Prod.mk.injEq] at hf
                  obtain ⟨rfl, rfl⟩ := hf
                  exact gMove_loc_else (fun r _ => stripP_none hs r) (fun _ e => absurd e hne1)
              · rename_i hne2
                simp only [Option.some.injEq, Prod.mk.injEq] at hf
                obtain ⟨rfl, rfl⟩ := hf
                exact gMove_loc_else (fun _ e => absurd e hne2) (fun _ e => absurd e hne1)
          · simp only [St.node, lookO_setO, if_true]
            have : ∀ (q : Path) (res : List AV) (rsz sz : Nat) (es new : List AV), navG res rsz q = some (sz, es) → navG (navSet res q new) rsz q = some (sz, new) := by
              intro q
              induction q with
              | nil => intro res rsz sz es new h; simp only [navG, Option.some.injEq, Prod.mk.injEq] at h; obtain ⟨rfl, rfl⟩ := h; rfl
              | cons ik q ih =>
                obtain ⟨i, k⟩ := ik
                intro res rsz sz es new h
                simp only [navG] at h
                cases hx : res[i]? with
                | none => simp [hx] at h
                | some x =>
                  cases hy : x.cells[k]? with
                  | none => simp [hx, hy] at h
                  | some y =>
                    simp only [hx, hy] at h
                    split at h
                    · rename_i sz2 es2 he
                      obtain rfl := Option.some.inj he
                      simp only [navSet, hx, hy, navG]
                      rw [List.getElem?_set_self (lt_of_get hx)]
                      simp only [setC_cells _ _ _ (row_cells _ _ _) (lt_of_get hy), if_true]
                      exact ih _ _ _ _ _ h
                    · simp at h
            exact ⟨_, this q res rsz sz es _ hn'⟩
          · intro t ht1 ht2
            simp only [lookO_setO, lookO_dropO] at ht2
            rw [if_neg (fun e => ht1 e.symm)] at ht2
            split at ht2
            · simp at ht2
            · rename_i e; exact ⟨fun e' => e e'.symm, ht2⟩
        · simp at hp
      · simp at hp
    · simp at hp

theorem St.plug1_some {s s' : St} {id : Nat} {q : Path} {i k tid : Nat} (hp : s.plug1 id q i k tid = some s') : tid ≠ id ∧ (lookO s.objs tid).isSome = true ∧ 16 ≤ tid ∧ (s.st = false ∨ 16 ≤ id) ∧ s'.st = s.st := by
  unfold St.plug1 at hp
  split at hp
  · simp at hp
  · rename_i hne
    split at hp
    · rename_i rsz res tsz tes hl ht
      refine ⟨fun e => hne (.inl e), by rw [ht]; rfl, by omega, ?_, ?_⟩
      · cases hst : s.st with
        | false => exact .inl rfl
        | true =>
          refine .inr ?_
          rcases Nat.lt_or_ge id 16 with h | h
          · exact absurd (.inr (.inr ⟨hst, h⟩)) hne
          · exact h
      · split at hp
        · split at hp
          · split at hp
            · obtain rfl := Option.some.inj hp; rfl
            · simp at hp
          · simp at hp
        · simp at hp
    · simp at hp

/-- Trees are put into cells of a node, one by one: (element, cell, object). -/
def St.plugL (s : St) (id : Nat) (q : Path) : List (Nat × Nat × Nat) → Option St
  | [] => some s
  | (i, k, tid) :: r =>
    match s.plug1 id q i k tid with
    | some s' => s'.plugL id q r
    | none => none

theorem Val.hd_loc {g g' : Gh} {w w' : World} {id : Nat} {q : Path} {v : Value} (h : Val g w (.hd id q) v) (hl : g'.loc id q = g.loc id q) : Val g' w' (.hd id q) v := by
  rcases h.hd_inv with ⟨b, c, n, h1, rfl⟩ | ⟨h1, rfl⟩
  · exact .hd _ _ b c n (hl.trans h1)
  · exact .hdNil _ _ (hl.trans h1)

theorem Sim.plugL {a : Act} {w : World} {id : Nat} {q : Path} {b c l : Nat} : ∀ (ps : List (Nat × Nat × Nat)) (s s' : St) (g : Gh) (sz : Nat) (es : List AV), Sim s a w g → s.plugL id q ps = some s' →
    s.node id q = some (sz, es) → g.loc id q = some (b, c, l) →
    (∀ i k tid, (i, k, tid) ∈ ps → tid ≠ id → (lookO s.objs tid).isSome = true → ∃ u, w.cell? ⟨b, i * sz + k, none⟩ = some u ∧ Val g w (.hd tid []) u) →
    ∃ g', Sim s' a w g' ∧ Keep g w g' w
  | [], s, s', g, sz, es, h, hp, _, _, _ => by
    simp only [St.plugL, Option.some.injEq] at hp; subst hp
    exact ⟨g, h, Keep.refl g w⟩
  | (i, k, tid) :: r, s, s', g, sz, es, h, hp, hn, hloc, hf => by
    simp only [St.plugL] at hp
    split at hp
    · rename_i s1 h1
      obtain ⟨hne, hsome, h16, hst, hst2⟩ := St.plug1_some h1
      obtain ⟨u, hu, hv⟩ := hf i k tid (by simp) hne hsome
      obtain ⟨hs1, ⟨es1, hn1⟩, hobjs⟩ := h.plug1 h1 hn hloc hu hv
      have hloc1 : (gMove g tid [] id (q ++ [(i, k)])).loc id q = some (b, c, l) := by
        rw [gMove_loc_else (fun r _ => snoc_ne q r (i, k)) (fun _ e => absurd e.symm hne)]; exact hloc
      obtain ⟨g', h', k'⟩ := Sim.plugL r s1 s' _ sz es1 hs1 hp hn1 hloc1 (fun i' k' tid' hm ht1 ht2 => by
        obtain ⟨e1, e2⟩ := hobjs tid' ht1 ht2
        obtain ⟨u', hu', hv'⟩ := hf i' k' tid' (by simp [hm]) ht1 e2
        exact ⟨u', hu', hv'.hd_loc (gMove_loc_else (fun _ e => absurd e ht1) (fun _ e => absurd e e1))⟩)
      exact ⟨g', h', (gMove_keep g tid [] id _ w (.inr h16) (hst.imp (fun e => ⟨by simp, h.st.symm.trans e⟩) fun e => e)).trans k'⟩
    · simp at hp

/-! ### a value's cells as cells of memory -/
/-- What a cell becomes when y is stored where the type's zero is z; the object that is to be put there. -/
def cellOf (z y : AV) : Option (AV × Option Nat) :=
  match y with
  | .nilS => match z with | .row .own sz [] => some (.row .own sz [], none) | _ => none
  | .hd tid [] => some (.dead, some tid)
  | .int k n => some (.int k n, none)
  | .bool b => some (.bool b, none)
  | .str s => some (.str s, none)
  | .nilI => some (.nilI, none)
  | .row .ro sz es => some (.row .ro sz es, none)
  | .row .bo sz es => some (.row .bo sz es, none)
  | _ => none

theorem cellOf_flat {g : Gh} {w : World} {z y c : AV} {t : Option Nat} (h : cellOf z y = some (c, t)) {u : Value} (hv : Val g w y u) :
    Flat g w c u ∧ c.cells = [c] ∧ ∀ tid, t = some tid → Val g w (.hd tid []) u := by
  unfold cellOf at h
  split at h
  · split at h
    · simp only [Option.some.injEq, Prod.mk.injEq] at h; obtain ⟨rfl, rfl⟩ := h
      cases hv with
      | cell _ _ hh => cases hh
      | nilS => exact ⟨.inl ⟨_, rfl, rfl⟩, rfl, fun _ h => by simp at h⟩
    · simp at h
  · simp only [Option.some.injEq, Prod.mk.injEq] at h; obtain ⟨rfl, rfl⟩ := h
    exact ⟨.inr (.dead _ _ (by rcases hv.hd_inv with ⟨b, c, n, _, rfl⟩ | ⟨_, rfl⟩ <;> rfl)), rfl, fun tid h => by simp at h; subst h; exact hv⟩
  · simp only [Option.some.injEq, Prod.mk.injEq] at h; obtain ⟨rfl, rfl⟩ := h
    obtain rfl := hv.int_inv
    exact ⟨.inr (.int _ _ _), rfl, fun _ h => by simp at h⟩
  · simp only [Option.some.injEq, Prod.mk.injEq] at h; obtain ⟨rfl, rfl⟩ := h
    obtain rfl := hv.bool_inv
    exact ⟨.inr (.bool _ _), rfl, fun _ h => by simp at h⟩
  · simp only [Option.some.injEq, Prod.mk.injEq] at h; obtain ⟨rfl, rfl⟩ := h
    obtain rfl := hv.str_inv
    exact ⟨.inr (.str _ _), rfl, fun _ h => by simp at h⟩
  · simp only [Option.some.injEq, Prod.mk.injEq] at h; obtain ⟨rfl, rfl⟩ := h
    cases hv with
    | cell _ _ hh => exact ⟨.inr hh, rfl, fun _ h => by simp at h⟩
  · simp only [Option.some.injEq, Prod.mk.injEq] at h; obtain ⟨rfl, rfl⟩ := h
    cases hv with
    | cell _ _ hh => exact ⟨.inr hh, rfl, fun _ h => by simp at h⟩
  · simp only [Option.some.injEq, Prod.mk.injEq] at h; obtain ⟨rfl, rfl⟩ := h
    cases hv with
    | cell _ _ hh => exact ⟨.inr hh, rfl, fun _ h => by simp at h⟩
  · simp at h

/-- The cells of a value, and the objects that go into them: (cell, object). -/
def cellsOf : Nat → List AV → List AV → Option (List AV × List (Nat × Nat))
  | _, [], [] => some ([], [])
  | k, z :: zs, y :: ys =>
    match cellOf z y, cellsOf (k + 1) zs ys with
    | some (c, t), some (cs, ps) => some (c :: cs, (match t with | some tid => [(k, tid)] | none => []) ++ ps)
    | _, _ => none
  | _, _, _ => none

theorem cellsOf_ok {g : Gh} {w : World} : ∀ (zs ys : List AV) (k : Nat) (cs : List AV) (ps : List (Nat × Nat)), cellsOf k zs ys = some (cs, ps) →
    ∀ us : List Value, us.length = ys.length → (∀ (j : Nat) (c : AV) (u : Value), ys[j]? = some c → us[j]? = some u → Val g w c u) →
    cs.length = ys.length ∧ (∀ (j : Nat) (c : AV), cs[j]? = some c → ∃ u, us[j]? = some u ∧ Flat g w c u ∧ c.cells = [c]) ∧
    (∀ j tid, (j, tid) ∈ ps → ∃ i u, j = k + i ∧ us[i]? = some u ∧ Val g w (.hd tid []) u)
  | [], [], k, cs, ps, h, us, hl, hv => by
    simp only [cellsOf, Option.some.injEq, Prod.mk.injEq] at h
    obtain ⟨rfl, rfl⟩ := h
    exact ⟨rfl, fun j c hc => by simp at hc, fun j tid h => by simp at h⟩
  | [], _ :: _, k, cs, ps, h, us, hl, hv => by simp [cellsOf] at h
  | _ :: _, [], k, cs, ps, h, us, hl, hv => by simp [cellsOf] at h
  | z :: zs, y :: ys, k, cs, ps, h, us, hl, hv => by
    cases us with
    | nil => simp at hl
    | cons u us =>
      simp only [cellsOf] at h
      split at h
      · rename_i c t cs' ps' h1 h2
        simp only [Option.some.injEq, Prod.mk.injEq] at h
        obtain ⟨rfl, rfl⟩ := h
        obtain ⟨hf, hc1, ht⟩ := cellOf_flat (g := g) (w := w) h1 (hv 0 y u rfl rfl)
        obtain ⟨i1, i2, i3⟩ := cellsOf_ok (g := g) (w := w) zs ys (k + 1) cs' ps' h2 us (by simpa using hl) (fun j c u hc hu => hv (j + 1) c u (by simpa using hc) (by simpa using hu))
        refine ⟨by simp [i1], ?_, ?_⟩
        · intro j c' hc'
          cases j with
          | zero => simp at hc'; subst hc'; exact ⟨u, rfl, hf, hc1⟩
          | succ j => obtain ⟨u', h3, h4⟩ := i2 j c' (by simpa using hc'); exact ⟨u', by simpa using h3, h4⟩
        · intro j tid hm
          rw [List.mem_append] at hm
          rcases hm with hm | hm
          · cases t with
            | none => simp at hm
            | some t' =>
              simp only [List.mem_singleton, Prod.mk.injEq] at hm
              obtain ⟨rfl, rfl⟩ := hm
              exact ⟨0, u, rfl, rfl, ht _ rfl⟩
          · obtain ⟨i, u', e, h3, h4⟩ := i3 j tid hm
            exact ⟨i + 1, u', by omega, by simpa using h3, h4⟩
      · simp at h

end Go.Proofs.YtkhobcmkbldmiaaFw
