import Derived.Test.YtiilnlihimdnlaaGreatDoorFwA
import Derived.Great.BuildSlice
import Derived.Laws.MakeOwn
set_option linter.unusedVariables false
set_option linter.unusedSimpArgs false
/- New objects, and trees put into cells. -/
namespace Go.Proofs.YtiilnlihimdnlaaGreatDoorFw
open Go Go.RowKit
set_option linter.unusedVariables false
def killF (id : Nat) : Nat → Path → Option (Nat × Path) := fun j q => if j = id then none else some (j, q)
def St.newO (s : St) (d id sz : Nat) (es : List AV) (x : AV) : St :=
 { s with slots := putS (mapS (killF id) s.slots) d x, objs := setO s.objs id sz es }
theorem Keep.of_new {w w' : World} {g g' : Gh} (hs : ∀ b, g.canRd b → b < w.heap.size) (hos : w'.os = w.os ∧ w'.tape = w.tape ∧ w'.output = w.output) (hsz : w.heap.size ≤ w'.heap.size)
 (hold : ∀ k, k < w.heap.size → g.own k = none → w'.heap[k]? = w.heap[k]?) (hown : ∀ k, k < w.heap.size → g.own k = none → g'.own k = none) (hp : g'.perm = g.perm) (hb : g'.bor = g.bor) (hrt : ∀ id q, id < 16 → g'.loc id q = g.loc id q) (hst : g'.st = g.st) : Keep g w g' w' :=
 ⟨hos.1, hos.2.1, hos.2.2, hsz, fun b h1 h2 => ⟨hold b h1 h2, hown b h1 h2⟩, fun b h => by rw [hp]; exact h, fun b _ h => .inl (by rw [hp] at h; exact h), fun b => by rw [hb], fun id q hi _ => hrt id q hi, hst⟩
theorem Sim.newO {s : St} {a : Act} {w w' : World} {g : Gh} (h : Sim s a w g) (d id sz : Nat) (hid : 16 ≤ id) (es : List AV) (c : Nat) (cur : Array Value) (e : TypeId)
 (hd : s.fits (some d) = true) (hw' : w'.heap = w.heap.push (.cells cur e (0, 0))) (hos : w'.os = w.os ∧ w'.tape = w.tape ∧ w'.output = w.output)
 (hn : es.length ≤ c) (hm : c ≤ maxLen) (hz : cur.size = c * sz)
 (hwd : ∀ (i : Nat) (x : AV), es[i]? = some x → x.width = sz)
 (hc : ∀ (i k : Nat) (x y : AV), es[i]? = some x → x.cells[k]? = some y → ∃ u, cur[i * sz + k]? = some u ∧ Flat g w y u)
 {x : AV} {v : Value} (hv : ∀ g', g'.loc id [] = some (w.heap.size, c, es.length) → Val g' w' x v) :
 ∃ g', Sim (s.newO d id sz es x) (a.put (some d) v) w' g' ∧ Keep g w g' w' ∧ g'.loc id [] = some (w.heap.size, c, es.length) ∧
  (∀ j q, j ≠ id → g'.loc j q = g.loc j q) ∧ RdKeep g w g' w' ∧ w'.heap[w.heap.size]? = some (.cells cur e (0, 0)) := by
 obtain ⟨h1, h2, h3, h4, h5, h6, h7⟩ := h.h.new id sz es w.heap.size c cur e rfl hw' hn hm hz hwd hc
 refine ⟨_, ?_, ?_, h4, h3, h2, h6⟩
 ·have ht := h.turn h2 (f := killF id) (fun j q j' q' hf => by
   simp only [killF] at hf
   split at hf
   ·simp at hf
   ·rename_i hne
    simp only [Option.some.injEq, Prod.mk.injEq] at hf
    obtain ⟨rfl, rfl⟩ := hf
    exact h3 _ _ hne) h1
  exact ht.put (d := some d) hd (hv _ h4)
 ·exact Keep.of_new h.h.rdlt hos (by omega) (fun k hk _ => h5 k hk) (fun k hk ho => by simp only [gNew]; rw [if_neg (by omega)]; exact ho) rfl rfl (fun j q hj => h3 j q (by omega)) rfl
theorem HSim.newNil {objs : List Obj} {w : World} {g : Gh} (h : HSim objs w g) (id sz : Nat) : HSim (setO objs id sz []) w (gKill g id []) where
 obj := fun j sz' es' hj => by
  rw [lookO_setO] at hj
  have hr : RdKeep g w (gKill g id []) w := ⟨fun b hb => ⟨hb, rfl⟩, fun b hb => ⟨.inr hb, rfl⟩⟩
  split at hj
  ·rename_i hji
   obtain ⟨rfl, rfl⟩ := Prod.mk.inj (Option.some.inj hj)
   subst hji
   exact ⟨_, .ownNil _ _ _ (gKill_at g id [] [])⟩
  ·rename_i hji
   obtain ⟨v, hv⟩ := h.obj j sz' es' hj
   exact ⟨v, hv.stay hr (fun b r hb => ⟨rfl, hb⟩) (fun r => gKill_else (fun _ e => absurd e.symm hji))⟩
 sep := h.sep
 rdlt := ⟨h.rdlt.lt, h.rdlt.gl, h.rdlt.ge⟩
theorem gKill_root (g : Gh) (id : Nat) (p : Path) (h : (p ≠ [] ∧ g.st = false) ∨ 16 ≤ id) (j : Nat) (q : Path) (hj : j < 16) (hq : q = [] ∨ g.st = true) : (gKill g id p).loc j q = g.loc j q :=
 gKill_else (fun r e1 e2 => by
  rcases h with h | h
  ·rcases hq with hq | hq
   ·subst hq; simp at e2; exact h.1 e2.1
   ·rw [h.2] at hq; simp at hq
  ·omega)
theorem gKill_keep (g : Gh) (id : Nat) (p : Path) (w : World) (h : (p ≠ [] ∧ g.st = false) ∨ 16 ≤ id) : Keep g w (gKill g id p) w :=
 ⟨rfl, rfl, rfl, Nat.le_refl _, fun b _ ho => ⟨rfl, ho⟩, fun _ h => h, fun _ _ h => .inl h, fun _ => Iff.rfl, gKill_root g id p h, rfl⟩
theorem Sim.newNil {s : St} {a : Act} {w : World} {g : Gh} (h : Sim s a w g) (d id sz : Nat) (hid : 16 ≤ id) (hd : s.fits (some d) = true) :
 ∃ g', Sim (s.newO d id sz [] (.hd id [])) (a.put (some d) (.slice none 0 0)) w g' ∧ Keep g w g' w := by
 refine ⟨gKill g id [], ?_, gKill_keep g id [] w (.inr hid)⟩
 have hr : RdKeep g w (gKill g id []) w := ⟨fun b hb => ⟨hb, rfl⟩, fun b hb => ⟨.inr hb, rfl⟩⟩
 have ht := h.turn hr (f := killF id) (fun j q j' q' hf => by
  simp only [killF] at hf
  split at hf
  ·simp at hf
  ·rename_i hne
   simp only [Option.some.injEq, Prod.mk.injEq] at hf
   obtain ⟨rfl, rfl⟩ := hf
   exact gKill_else (fun _ e => absurd e hne)) (h.h.newNil id sz)
 exact ht.put (d := some d) hd (.hdNil _ _ (gKill_at g id [] []))
/-! ### a tree is put into a cell -/
def plugF (tid id : Nat) (p : Path) : Nat → Path → Option (Nat × Path) := fun j r =>
 if j = tid then some (id, p ++ r)
 else if j = id then (match stripP p r with | some _ => none | none => some (j, r))
 else some (j, r)
def St.plug1 (s : St) (id : Nat) (q : Path) (i k tid : Nat) : Option St :=
 if tid = id ∨ tid < 16 ∨ (s.st = true ∧ id < 16) then none
 else
  match lookO s.objs id, lookO s.objs tid with
  | some (rsz, res), some (tsz, tes) =>
   match navG res rsz q with
   | some (sz, es) =>
    match es[i]? with
    | some x =>
     match x.cells[k]? with
     | some .dead =>
      some { s with slots := mapS (plugF tid id (q ++ [(i, k)])) s.slots, objs := setO (dropO s.objs tid) id rsz (navSet res q (es.set i (x.setC k (.row .own tsz tes)))) }
     | _ => none
    | none => none
   | none => none
  | _, _ => none
theorem Sim.plug1 {s s' : St} {a : Act} {w : World} {g : Gh} (h : Sim s a w g) {id : Nat} {q : Path} {i k tid sz : Nat} {es : List AV} (hp : s.plug1 id q i k tid = some s')
 (hn : s.node id q = some (sz, es)) {b c l : Nat} (hloc : g.loc id q = some (b, c, l)) {u : Value} (hu : w.cell? ⟨b, i * sz + k, none⟩ = some u) (hv : Val g w (.hd tid []) u) :
 Sim s' a w (gMove g tid [] id (q ++ [(i, k)])) ∧ (∃ es', s'.node id q = some (sz, es')) ∧ (∀ t, t ≠ id → (lookO s'.objs t).isSome = true → t ≠ tid ∧ (lookO s.objs t).isSome = true) := by
 unfold St.plug1 at hp
 split at hp
 ·simp at hp
 ·rename_i hne0
  have hne : tid ≠ id := fun e => hne0 (.inl e)
  split at hp
  ·rename_i rsz res tsz tes hl ht
   have hn' : navG res rsz q = some (sz, es) := by
    obtain ⟨rsz', res', h1, h2⟩ := St.node_some hn
    rw [hl] at h1
    simp only [Option.some.injEq, Prod.mk.injEq] at h1
    obtain ⟨rfl, rfl⟩ := h1
    exact h2
   rw [hn'] at hp
   simp only at hp
   split at hp
   ·rename_i x hx
    split at hp
    ·rename_i hy
     obtain rfl := Option.some.inj hp
     have hH := h.h.plug hl hn' hx hy ht hne hloc hu (fun v hcell => hcell.hd hv)
     refine ⟨h.turn (gMove_rd g tid [] id (q ++ [(i, k)]) w) ?_ hH, ?_, ?_⟩
     ·intro j r j' r' hf
      simp only [plugF] at hf
      split at hf
      ·rename_i e
       subst e
       simp only [Option.some.injEq, Prod.mk.injEq] at hf
       obtain ⟨rfl, rfl⟩ := hf
       exact gMove_loc_to g _ [] _ _ r
      ·rename_i hne1
       split at hf
       ·rename_i e
        split at hf
        ·simp at hf
        ·rename_i hs
         simp only [Option.some.injEq, Prod.mk.injEq] at hf
         obtain ⟨rfl, rfl⟩ := hf
         exact gMove_loc_else (fun r _ => stripP_none hs r) (fun _ e => absurd e hne1)
       ·rename_i hne2
        simp only [Option.some.injEq, Prod.mk.injEq] at hf
        obtain ⟨rfl, rfl⟩ := hf
        exact gMove_loc_else (fun _ e => absurd e hne2) (fun _ e => absurd e hne1)
     ·simp only [St.node, lookO_setO, if_true]
      have : ∀ (q : Path) (res : List AV) (rsz sz : Nat) (es new : List AV), navG res rsz q = some (sz, es) → navG (navSet res q new) rsz q = some (sz, new) := by
       intro q
       induction q with
       | nil => intro res rsz sz es new h; simp only [navG, Option.some.injEq, Prod.mk.injEq] at h; obtain ⟨rfl, rfl⟩ := h; rfl
       | cons ik q ih =>
        obtain ⟨i, k⟩ := ik
        intro res rsz sz es new h
        simp only [navG] at h
        cases hx : res[i]? with
        | none => simp [hx] at h
        | some x =>
         cases hy : x.cells[k]? with
         | none => simp [hx, hy] at h
         | some y =>
          simp only [hx, hy] at h
          split at h
          ·rename_i sz2 es2 he
           obtain rfl := Option.some.inj he
           simp only [navSet, hx, hy, navG]
           rw [List.getElem?_set_self (lt_of_get hx)]
           simp only [setC_cells _ _ _ (row_cells _ _ _) (lt_of_get hy), if_true]
           exact ih _ _ _ _ _ h
          ·simp at h
      exact ⟨_, this q res rsz sz es _ hn'⟩
     ·intro t ht1 ht2
      simp only [lookO_setO, lookO_dropO] at ht2
      rw [if_neg (fun e => ht1 e.symm)] at ht2
      split at ht2
      ·simp at ht2
      ·rename_i e; exact ⟨fun e' => e e'.symm, ht2⟩
    ·simp at hp
   ·simp at hp
  ·simp at hp
theorem St.plug1_some {s s' : St} {id : Nat} {q : Path} {i k tid : Nat} (hp : s.plug1 id q i k tid = some s') : tid ≠ id ∧ (lookO s.objs tid).isSome = true ∧ 16 ≤ tid ∧ (s.st = false ∨ 16 ≤ id) ∧ s'.st = s.st := by
 unfold St.plug1 at hp
 split at hp
 ·simp at hp
 ·rename_i hne
  split at hp
  ·rename_i rsz res tsz tes hl ht
   refine ⟨fun e => hne (.inl e), by rw [ht]; rfl, by omega, ?_, ?_⟩
   ·cases hst : s.st with
    | false => exact .inl rfl
    | true =>
     refine .inr ?_
     rcases Nat.lt_or_ge id 16 with h | h
     ·exact absurd (.inr (.inr ⟨hst, h⟩)) hne
     ·exact h
   ·split at hp
    ·split at hp
     ·split at hp
      ·obtain rfl := Option.some.inj hp; rfl
      ·simp at hp
     ·simp at hp
    ·simp at hp
  ·simp at hp
def St.plugL (s : St) (id : Nat) (q : Path) : List (Nat × Nat × Nat) → Option St
 | [] => some s
 | (i, k, tid) :: r =>
  match s.plug1 id q i k tid with
  | some s' => s'.plugL id q r
  | none => none
theorem Val.hd_loc {g g' : Gh} {w w' : World} {id : Nat} {q : Path} {v : Value} (h : Val g w (.hd id q) v) (hl : g'.loc id q = g.loc id q) : Val g' w' (.hd id q) v := by
 rcases h.hd_inv with ⟨b, c, n, h1, rfl⟩ | ⟨h1, rfl⟩
 ·exact .hd _ _ b c n (hl.trans h1)
 ·exact .hdNil _ _ (hl.trans h1)
theorem Sim.plugL {a : Act} {w : World} {id : Nat} {q : Path} {b c l : Nat} : ∀ (ps : List (Nat × Nat × Nat)) (s s' : St) (g : Gh) (sz : Nat) (es : List AV), Sim s a w g → s.plugL id q ps = some s' →
 s.node id q = some (sz, es) → g.loc id q = some (b, c, l) →
 (∀ i k tid, (i, k, tid) ∈ ps → tid ≠ id → (lookO s.objs tid).isSome = true → ∃ u, w.cell? ⟨b, i * sz + k, none⟩ = some u ∧ Val g w (.hd tid []) u) →
 ∃ g', Sim s' a w g' ∧ Keep g w g' w
 | [], s, s', g, sz, es, h, hp, _, _, _ => by
  simp only [St.plugL, Option.some.injEq] at hp; subst hp
  exact ⟨g, h, Keep.refl g w⟩
 | (i, k, tid) :: r, s, s', g, sz, es, h, hp, hn, hloc, hf => by
  simp only [St.plugL] at hp
  split at hp
  ·rename_i s1 h1
   obtain ⟨hne, hsome, h16, hst, hst2⟩ := St.plug1_some h1
   obtain ⟨u, hu, hv⟩ := hf i k tid (by simp) hne hsome
   obtain ⟨hs1, ⟨es1, hn1⟩, hobjs⟩ := h.plug1 h1 hn hloc hu hv
   have hloc1 : (gMove g tid [] id (q ++ [(i, k)])).loc id q = some (b, c, l) := by
    rw [gMove_loc_else (fun r _ => snoc_ne q r (i, k)) (fun _ e => absurd e.symm hne)]; exact hloc
   obtain ⟨g', h', k'⟩ := Sim.plugL r s1 s' _ sz es1 hs1 hp hn1 hloc1 (fun i' k' tid' hm ht1 ht2 => by
    obtain ⟨e1, e2⟩ := hobjs tid' ht1 ht2
    obtain ⟨u', hu', hv'⟩ := hf i' k' tid' (by simp [hm]) ht1 e2
    exact ⟨u', hu', hv'.hd_loc (gMove_loc_else (fun _ e => absurd e ht1) (fun _ e => absurd e e1))⟩)
   exact ⟨g', h', (gMove_keep g tid [] id _ w (.inr h16) (hst.imp (fun e => ⟨by simp, h.st.symm.trans e⟩) fun e => e)).trans k'⟩
  ·simp at hp
/-! ### a value's cells as cells of memory -/
def cellOf (z y : AV) : Option (AV × Option Nat) :=
 match y with
 | .nilS => match z with | .row .own sz [] => some (.row .own sz [], none) | _ => none
 | .hd tid [] => some (.dead, some tid)
 | .int k n => some (.int k n, none)
 | .bool b => some (.bool b, none)
 | .str s => some (.str s, none)
 | .nilI => some (.nilI, none)
 | .row .ro sz es => some (.row .ro sz es, none)
 | .row .bo sz es => some (.row .bo sz es, none)
 | _ => none
theorem cellOf_flat {g : Gh} {w : World} {z y c : AV} {t : Option Nat} (h : cellOf z y = some (c, t)) {u : Value} (hv : Val g w y u) :
 Flat g w c u ∧ c.cells = [c] ∧ ∀ tid, t = some tid → Val g w (.hd tid []) u := by
 unfold cellOf at h
 split at h
 ·split at h
  ·simp only [Option.some.injEq, Prod.mk.injEq] at h; obtain ⟨rfl, rfl⟩ := h
   cases hv with
   | cell _ _ hh => cases hh
   | nilS => exact ⟨.inl ⟨_, rfl, rfl⟩, rfl, fun _ h => by simp at h⟩
  ·simp at h
 ·simp only [Option.some.injEq, Prod.mk.injEq] at h; obtain ⟨rfl, rfl⟩ := h
  exact ⟨.inr (.dead _ _ (by rcases hv.hd_inv with ⟨b, c, n, _, rfl⟩ | ⟨_, rfl⟩ <;> rfl)), rfl, fun tid h => by simp at h; subst h; exact hv⟩
 ·simp only [Option.some.injEq, Prod.mk.injEq] at h; obtain ⟨rfl, rfl⟩ := h
  obtain rfl := hv.int_inv
  exact ⟨.inr (.int _ _ _), rfl, fun _ h => by simp at h⟩
 ·simp only [Option.some.injEq, Prod.mk.injEq] at h; obtain ⟨rfl, rfl⟩ := h
  obtain rfl := hv.bool_inv
  exact ⟨.inr (.bool _ _), rfl, fun _ h => by simp at h⟩
 ·simp only [Option.some.injEq, Prod.mk.injEq] at h; obtain ⟨rfl, rfl⟩ := h
  obtain rfl := hv.str_inv
  exact ⟨.inr (.str _ _), rfl, fun _ h => by simp at h⟩
 ·simp only [Option.some.injEq, Prod.mk.injEq] at h; obtain ⟨rfl, rfl⟩ := h
  cases hv with
  | cell _ _ hh => exact ⟨.inr hh, rfl, fun _ h => by simp at h⟩
 ·simp only [Option.some.injEq, Prod.mk.injEq] at h; obtain ⟨rfl, rfl⟩ := h
  cases hv with
  | cell _ _ hh => exact ⟨.inr hh, rfl, fun _ h => by simp at h⟩
 ·simp only [Option.some.injEq, Prod.mk.injEq] at h; obtain ⟨rfl, rfl⟩ := h
  cases hv with
  | cell _ _ hh => exact ⟨.inr hh, rfl, fun _ h => by simp at h⟩
 ·simp at h
def cellsOf : Nat → List AV → List AV → Option (List AV × List (Nat × Nat))
 | _, [], [] => some ([], [])
 | k, z :: zs, y :: ys =>
  match cellOf z y, cellsOf (k + 1) zs ys with
  | some (c, t), some (cs, ps) => some (c :: cs, (match t with | some tid => [(k, tid)] | none => []) ++ ps)
  | _, _ => none
 | _, _, _ => none
theorem cellsOf_ok {g : Gh} {w : World} : ∀ (zs ys : List AV) (k : Nat) (cs : List AV) (ps : List (Nat × Nat)), cellsOf k zs ys = some (cs, ps) →
 ∀ us : List Value, us.length = ys.length → (∀ (j : Nat) (c : AV) (u : Value), ys[j]? = some c → us[j]? = some u → Val g w c u) →
 cs.length = ys.length ∧ (∀ (j : Nat) (c : AV), cs[j]? = some c → ∃ u, us[j]? = some u ∧ Flat g w c u ∧ c.cells = [c]) ∧
 (∀ j tid, (j, tid) ∈ ps → ∃ i u, j = k + i ∧ us[i]? = some u ∧ Val g w (.hd tid []) u)
 | [], [], k, cs, ps, h, us, hl, hv => by
  simp only [cellsOf, Option.some.injEq, Prod.mk.injEq] at h
  obtain ⟨rfl, rfl⟩ := h
  exact ⟨rfl, fun j c hc => by simp at hc, fun j tid h => by simp at h⟩
 | [], _ :: _, k, cs, ps, h, us, hl, hv => by simp [cellsOf] at h
 | _ :: _, [], k, cs, ps, h, us, hl, hv => by simp [cellsOf] at h
 | z :: zs, y :: ys, k, cs, ps, h, us, hl, hv => by
  cases us with
  | nil => simp at hl
  | cons u us =>
   simp only [cellsOf] at h
   split at h
   ·rename_i c t cs' ps' h1 h2
    simp only [Option.some.injEq, Prod.mk.injEq] at h
    obtain ⟨rfl, rfl⟩ := h
    obtain ⟨hf, hc1, ht⟩ := cellOf_flat (g := g) (w := w) h1 (hv 0 y u rfl rfl)
    obtain ⟨i1, i2, i3⟩ := cellsOf_ok (g := g) (w := w) zs ys (k + 1) cs' ps' h2 us (by simpa using hl) (fun j c u hc hu => hv (j + 1) c u (by simpa using hc) (by simpa using hu))
    refine ⟨by simp [i1], ?_, ?_⟩
    ·intro j c' hc'
     cases j with
     | zero => simp at hc'; subst hc'; exact ⟨u, rfl, hf, hc1⟩
     | succ j => obtain ⟨u', h3, h4⟩ := i2 j c' (by simpa using hc'); exact ⟨u', by simpa using h3, h4⟩
    ·intro j tid hm
     rw [List.mem_append] at hm
     rcases hm with hm | hm
     ·cases t with
      | none => simp at hm
      | some t' =>
       simp only [List.mem_singleton, Prod.mk.injEq] at hm
       obtain ⟨rfl, rfl⟩ := hm
       exact ⟨0, u, rfl, rfl, ht _ rfl⟩
     ·obtain ⟨i, u', e, h3, h4⟩ := i3 j tid hm
      exact ⟨i + 1, u', by omega, by simpa using h3, h4⟩
   ·simp at h
end Go.Proofs.YtiilnlihimdnlaaGreatDoorFw
/- Stores. -/
namespace Go.Proofs.YtiilnlihimdnlaaGreatDoorFw
open Go Go.RowKit
set_option linter.unusedVariables false
def killP (id : Nat) (p : Path) : Nat → Path → Option (Nat × Path) := fun j r =>
 if j = id then (match stripP p r with | some _ => none | none => some (j, r)) else some (j, r)
def St.store1 (s : St) (id : Nat) (q : Path) (i k : Nat) (c : AV) : Option St :=
 if s.st = true ∧ id < 16 ∧ solid c = false then none
 else
 match lookO s.objs id with
 | some (rsz, res) =>
  match navG res rsz q with
  | some (sz, es) =>
   match es[i]? with
   | some x =>
    match x.cells[k]? with
    | some _ => some { s with slots := mapS (killP id (q ++ [(i, k)])) s.slots, objs := setO s.objs id rsz (navSet res q (es.set i (x.setC k c))) }
    | none => none
   | none => none
  | none => none
 | none => none
theorem navG_set : ∀ (q : Path) (res : List AV) (rsz sz : Nat) (es new : List AV), navG res rsz q = some (sz, es) → navG (navSet res q new) rsz q = some (sz, new) := by
 intro q
 induction q with
 | nil => intro res rsz sz es new h; simp only [navG, Option.some.injEq, Prod.mk.injEq] at h; obtain ⟨rfl, rfl⟩ := h; rfl
 | cons ik q ih =>
  obtain ⟨i, k⟩ := ik
  intro res rsz sz es new h
  simp only [navG] at h
  cases hx : res[i]? with
  | none => simp [hx] at h
  | some x =>
   cases hy : x.cells[k]? with
   | none => simp [hx, hy] at h
   | some y =>
    simp only [hx, hy] at h
    split at h
    ·rename_i sz2 es2 he
     obtain rfl := Option.some.inj he
     simp only [navSet, hx, hy, navG]
     rw [List.getElem?_set_self (lt_of_get hx)]
     simp only [setC_cells _ _ _ (row_cells _ _ _) (lt_of_get hy), if_true]
     exact ih _ _ _ _ _ h
    ·simp at h
theorem Sim.store1 {s s' : St} {a : Act} {w : World} {g : Gh} (h : Sim s a w g) {id : Nat} {q : Path} {i k sz : Nat} {es : List AV} {x c : AV} (hp : s.store1 id q i k c = some s')
 (hn : s.node id q = some (sz, es)) (hx : es[i]? = some x) {u : Value} (hf : Flat g w c u) (hc : c.cells = [c]) {b cp l : Nat} (hloc : g.loc id q = some (b, cp, l)) :
 Sim s' a (w.setCell ⟨b, i * sz + k, none⟩ u) (gSt (solid c) g id (q ++ [(i, k)])) ∧ Keep g w (gSt (solid c) g id (q ++ [(i, k)])) (w.setCell ⟨b, i * sz + k, none⟩ u) ∧
  RdKeep g w (gSt (solid c) g id (q ++ [(i, k)])) (w.setCell ⟨b, i * sz + k, none⟩ u) ∧ (∃ es', s'.node id q = some (sz, es') ∧ es'[i]? = some (x.setC k c)) ∧
  (∀ t, t ≠ id → lookO s'.objs t = lookO s.objs t) ∧ g.own b = some (id, q) ∧ k < x.width := by
 unfold St.store1 at hp
 split at hp
 ·simp at hp
 rename_i hst0
 split at hp
 ·rename_i rsz res hl
  have hn' : navG res rsz q = some (sz, es) := by
   obtain ⟨rsz', res', h1, h2⟩ := St.node_some hn
   rw [hl] at h1
   simp only [Option.some.injEq, Prod.mk.injEq] at h1
   obtain ⟨rfl, rfl⟩ := h1
   exact h2
  rw [hn'] at hp
  simp only at hp
  rw [hx] at hp
  simp only at hp
  split at hp
  ·rename_i y0 hy0
   obtain rfl := Option.some.inj hp
   obtain ⟨b', c', cur, e, hloc', hown, hb, hlt, hH, hr⟩ := h.h.store hl hn' hx hy0 hc hf
   rw [hloc] at hloc'
   simp only [Option.some.injEq, Prod.mk.injEq] at hloc'
   obtain ⟨rfl, rfl, rfl⟩ := hloc'
   refine ⟨h.turn hr ?_ hH, ?_, hr, ?_, ?_, hown, lt_of_get hy0⟩
   ·intro j r j' r' hf
    simp only [killP] at hf
    split at hf
    ·rename_i e
     split at hf
     ·simp at hf
     ·rename_i hs
      simp only [Option.some.injEq, Prod.mk.injEq] at hf
      obtain ⟨rfl, rfl⟩ := hf
      exact gSt_else (fun r _ => stripP_none hs r)
    ·rename_i hne
     simp only [Option.some.injEq, Prod.mk.injEq] at hf
     obtain ⟨rfl, rfl⟩ := hf
     exact gSt_else (fun _ e => absurd e hne)
   ·refine ⟨rfl, rfl, rfl, by simp [World.setCell], ?_, fun _ h => h, fun _ _ h => .inl h, fun _ => Iff.rfl, ?_, rfl⟩
    intro b1 _ ho
    refine ⟨heap_setCell_ne ?_, ho⟩
    intro e; simp only at e; subst e
    rw [hown] at ho; simp at ho
    intro j r hj hq
    cases hsol : solid c with
    | true => rfl
    | false =>
     refine gKill_root g id _ ?_ j r hj hq
     cases hgs : g.st with
     | false => exact .inl ⟨by simp, rfl⟩
     | true =>
      refine .inr ?_
      rcases Nat.lt_or_ge id 16 with h16 | h16
      ·exact absurd ⟨h.st.trans hgs, h16, hsol⟩ hst0
      ·exact h16
   ·simp only [St.node, lookO_setO, if_true]
    refine ⟨_, navG_set q res rsz sz es _ hn', ?_⟩
    rw [List.getElem?_set_self (lt_of_get hx)]
   ·intro t ht
    simp only [lookO_setO]
    rw [if_neg (fun e => ht e.symm)]
  ·simp at hp
 ·simp at hp
def St.storeL (s : St) (id : Nat) (q : Path) (i : Nat) : Nat → List AV → Option St
 | _, [] => some s
 | k, c :: cs =>
  match s.store1 id q i k c with
  | some s' => s'.storeL id q i (k + 1) cs
  | none => none
theorem setCells_other (a : Addr) (hs : a.spot = none) : ∀ (us : List Value) (w : World) (j : Nat) (p : Addr), (∀ i, i < us.length → a.add (j + i) ≠ p) → (setCells w a us j).cell? p = w.cell? p
 | [], w, j, p, _ => rfl
 | u :: r, w, j, p, h => by
  simp only [setCells]
  rw [setCells_other a hs r _ (j + 1) p (fun i hi => by have := h (i + 1) (by simpa using hi); rwa [show j + (i + 1) = j + 1 + i by omega] at this)]
  exact World.cell?_setCell_other w _ _ _ (by have := h 0 (by simp); simpa using this)
theorem add_inj {a : Addr} (hs : a.spot = none) {m n : Nat} (h : a.add m = a.add n) : m = n := by
 obtain ⟨b, o, s⟩ := a
 simp only at hs
 subst hs
 rw [add_lit, add_lit] at h
 simp only [Addr.mk.injEq] at h
 omega
theorem setCells_at (a : Addr) (hs : a.spot = none) : ∀ (us : List Value) (w : World) (j : Nat), (∀ i, i < us.length → (w.cell? (a.add (j + i))).isSome = true) →
 ∀ (i : Nat) (u : Value), us[i]? = some u → (setCells w a us j).cell? (a.add (j + i)) = some u
 | [], w, j, _, i, u, h => by simp at h
 | v :: r, w, j, hc, i, u, h => by
  simp only [setCells]
  cases i with
  | zero =>
   simp at h; subst h
   rw [setCells_other a hs r _ (j + 1) _ (fun i hi e => by have := add_inj hs e; omega)]
   obtain ⟨x, hx⟩ := Option.isSome_iff_exists.1 (hc 0 (by simp))
   exact World.cell?_setCell_same w _ _ hx
  | succ i =>
   have := setCells_at a hs r (w.setCell (a.add j) v) (j + 1) (fun i hi => by
    rw [cell?_setCell_isSome]
    have := hc (i + 1) (by simpa using hi)
    rwa [show j + (i + 1) = j + 1 + i by omega] at this) i u (by simpa using h)
   rwa [show j + (i + 1) = j + 1 + i by omega]
theorem Sim.storeL {a : Act} {id : Nat} {q : Path} {i : Nat} {b cp l : Nat} {sz : Nat} : ∀ (cs : List AV) (us : List Value) (k j : Nat) (s s' : St) (w : World) (g : Gh) (es : List AV) (x : AV), Sim s a w g → s.storeL id q i k cs = some s' →
 us.length = cs.length → s.node id q = some (sz, es) → es[i]? = some x → g.loc id q = some (b, cp, l) → g.own b = some (id, q) →
 (∀ (m : Nat) (c : AV), cs[m]? = some c → ∃ u, us[m]? = some u ∧ Flat g w c u ∧ c.cells = [c]) → k + cs.length ≤ x.width → 
 ∀ o, i * sz + k = o + j →
 ∃ g', Sim s' a (setCells w ⟨b, o, none⟩ us j) g' ∧ Keep g w g' (setCells w ⟨b, o, none⟩ us j) ∧ g'.loc id q = some (b, cp, l) ∧ (∃ es', s'.node id q = some (sz, es')) ∧
  (∀ t, t ≠ id → lookO s'.objs t = lookO s.objs t) ∧ (∀ t r, t ≠ id → g'.loc t r = g.loc t r)
 | [], us, k, j, s, s', w, g, es, x, h, hp, hl, hn, hx, hloc, hown, hf, hk, o, ho => by
  simp only [St.storeL, Option.some.injEq] at hp; subst hp
  cases us with
  | nil => exact ⟨g, h, Keep.refl g w, hloc, ⟨es, hn⟩, fun _ _ => rfl, fun _ _ _ => rfl⟩
  | cons u r => simp at hl
 | c :: cs, us, k, j, s, s', w, g, es, x, h, hp, hl, hn, hx, hloc, hown, hf, hk, o, ho => by
  cases us with
  | nil => simp at hl
  | cons u us =>
   simp only [St.storeL] at hp
   split at hp
   ·rename_i s1 h1
    obtain ⟨u', hu', hfl, hcc⟩ := hf 0 c rfl
    simp only [List.getElem?_cons_zero, Option.some.injEq] at hu'
    subst hu'
    obtain ⟨hs1, hk1, hr1, ⟨es1, hn1, hx1⟩, ho1, _, hkw⟩ := h.store1 h1 hn hx hfl hcc hloc
    have hloc1 : (gSt (solid c) g id (q ++ [(i, k)])).loc id q = some (b, cp, l) := by rw [gSt_else (fun r _ => snoc_ne q r (i, k))]; exact hloc
    have hwid : (x.setC k c).width = x.width := setC_width _ _ _ hcc
    obtain ⟨g', a1, a2, a3, a4, a5, a6⟩ := Sim.storeL cs us (k + 1) (j + 1) s1 s' _ _ es1 _ hs1 hp (by simpa using hl) hn1 hx1 hloc1 hown
     (fun m c' hc' => by
       obtain ⟨u', h2, h3, h4⟩ := hf (m + 1) c' (by simpa using hc')
       exact ⟨u', by simpa using h2, h3.still hr1, h4⟩) (by rw [hwid]; simp at hk; omega) o (by omega)
    have e : (⟨b, o, none⟩ : Addr).add j = ⟨b, i * sz + k, none⟩ := by rw [add_lit, ho]
    simp only [setCells, e]
    exact ⟨g', a1, hk1.trans a2, a3, a4, fun t ht => (a5 t ht).trans (ho1 t ht), fun t r ht => (a6 t r ht).trans (gSt_else (fun _ e => absurd e ht))⟩
   ·simp at hp
def sStore (T : Tab) (s : St) (t : TypeId) (x y : AV) : Option St :=
 match T t, x with
 | some ti, .ptr id q sz i k =>
  match s.node id q with
  | some (sz', es) =>
   if sz' = sz ∧ isDead y = false then
    match es[i]?, cellsOf k ti.z y.cells with
    | some e, some (cs, ps) =>
     if k + cs.length ≤ e.width then
      match s.storeL id q i k cs with
      | some s' => s'.plugL id q (ps.map fun p => (i, p.1, p.2))
      | none => none
     else none
    | _, _ => none
   else none
  | none => none
 | _, _ => none
theorem cellOf_one {g : Gh} {w : World} {z y c : AV} {t : Option Nat} (h : cellOf z y = some (c, t)) {u : Value} (hv : Val g w y u) : u.oneCell' = true := by
 unfold cellOf at h
 split at h <;> (try (simp at h; done))
 all_goals cases hv <;> first | rfl | (rename_i hh; cases hh <;> rfl)
theorem cellsOf_one {g : Gh} {w : World} : ∀ (zs ys : List AV) (k : Nat) (cs : List AV) (ps : List (Nat × Nat)), cellsOf k zs ys = some (cs, ps) →
 ∀ us : List Value, us.length = ys.length → (∀ (j : Nat) (c : AV) (u : Value), ys[j]? = some c → us[j]? = some u → Val g w c u) → (∀ u ∈ us, u.oneCell' = true) ∧ zs.length = ys.length
 | [], [], k, cs, ps, h, us, hl, hv => by
  cases us with
  | nil => exact ⟨fun u h => by simp at h, rfl⟩
  | cons u r => simp at hl
 | [], _ :: _, k, cs, ps, h, us, hl, hv => by simp [cellsOf] at h
 | _ :: _, [], k, cs, ps, h, us, hl, hv => by simp [cellsOf] at h
 | z :: zs, y :: ys, k, cs, ps, h, us, hl, hv => by
  cases us with
  | nil => simp at hl
  | cons u us =>
   simp only [cellsOf] at h
   split at h
   ·rename_i c t cs' ps' h1 h2
    obtain ⟨i1, i2⟩ := cellsOf_one (g := g) (w := w) zs ys (k + 1) cs' ps' h2 us (by simpa using hl) (fun j c u hc hu => hv (j + 1) c u (by simpa using hc) (by simpa using hu))
    refine ⟨?_, by simp [i2]⟩
    intro u' hu'
    rcases List.mem_cons.1 hu' with rfl | hu'
    ·exact cellOf_one (g := g) (w := w) h1 (hv 0 y _ rfl rfl)
    ·exact i1 u' hu'
   ·simp at h
theorem sStore_ok {P : Program} {T : Tab} (hT : TabOk P T) {s s' : St} {t : TypeId} {x y : AV} (h : sStore T s t x y = some s') {a : Act} {w : World} {g : Gh} (hs : Sim s a w g) {v u : Value} (hv : Val g w x v) (hu : Val g w y u) :
 ∃ w' g', (Instr.storeAt t v u).run P w = .ok () w' ∧ Sim s' a w' g' ∧ Keep g w g' w' := by
 unfold sStore at h
 split at h
 ·rename_i ti id q sz i k hti
  split at h
  ·rename_i sz' es hn
   split at h
   ·rename_i hcond
    obtain ⟨rfl, hd⟩ := hcond
    split at h
    ·rename_i e cs ps he hcs
     split at h
     ·rename_i hlen
      split at h
      ·rename_i s1 h1
       obtain ⟨b, c, n, hloc, rfl⟩ := hv.ptr_inv
       obtain ⟨v', hnode⟩ := hs.node hn
       obtain ⟨b', c', cur, ee, us, rfl, hloc', hown, hb, hlc, hcm, hcz, hw, hc, ht⟩ := hnode.node he
       rw [hloc] at hloc'
       simp only [Option.some.injEq, Prod.mk.injEq] at hloc'
       obtain ⟨rfl, rfl, rfl⟩ := hloc'
       obtain ⟨hsz, hcells⟩ := hu.cells (fun e => by rw [e] at hd; simp [isDead] at hd)
       have hvv : ∀ (j : Nat) (c : AV) (u' : Value), y.cells[j]? = some c → u.cells.toList[j]? = some u' → Val g w c u' := fun j c u' h1 h2 => hcells j c u' h1 (by simpa using h2)
       obtain ⟨k1, k2, k3⟩ := cellsOf_ok (g := g) (w := w) _ _ _ _ _ hcs u.cells.toList (by simpa using hsz) hvv
       obtain ⟨o1, o2⟩ := cellsOf_one (g := g) (w := w) _ _ _ _ _ hcs u.cells.toList (by simpa using hsz) hvv
       obtain ⟨_, zz, _, z2, _, _⟩ := (hT t ti hti).info
       have hzl : ti.z.length = ti.sz := by obtain ⟨_, _, _, _, _, _, _, h7, _⟩ := (hT t ti hti).info; exact h7
       obtain ⟨g1, a1, a2, a3, ⟨es', a4⟩, a5, a6⟩ := Sim.storeL cs u.cells.toList k 0 s s1 w g es e hs h1 (by simp [k1, hsz]) hn he hloc hown k2 hlen (i * sz' + k) rfl
       have hcell0 : ∀ j, j < u.cells.toList.length → (w.cell? ((⟨b, i * sz' + k, none⟩ : Addr).add (0 + j))).isSome = true ∧ w.frozen? ((⟨b, i * sz' + k, none⟩ : Addr).add (0 + j)) = false := by
        intro j hj
        simp only [Array.length_toList] at hj
        have hlt2 : k + j < e.cells.length := by have : e.width = e.cells.length := rfl; omega
        rw [Nat.zero_add, add_lit, cell_of_block hb, frozen_of_block hb, Nat.add_assoc, hc i (k + j) e _ he (List.getElem?_eq_getElem hlt2)]
        exact ⟨rfl, rfl⟩
       have hrun : (Instr.storeAt t (.pointer (some ⟨b, i * sz' + k, none⟩)) u).run P w = .ok () (setCells w ⟨b, i * sz' + k, none⟩ u.cells.toList 0) := by
        have : u.cells.size = ti.sz := by omega
        simp only [Instr.storeAt, Instr.sureAddr, storeVar, Sem.run_bind, Sem.run_pure, Result.andThen_ok, run_sizeOf' (hT t ti hti), this, ne_eq, not_true_eq_false, if_false]
        exact run_storeCells' _ _ 0 w o1 hcell0
       obtain ⟨g2, b1, b2⟩ := Sim.plugL _ s1 s' g1 sz' es' a1 h a4 a3 (by
        intro i' k' tid hm hne _
        rw [List.mem_map] at hm
        obtain ⟨p, hp, e⟩ := hm
        simp only [Prod.mk.injEq] at e
        obtain ⟨rfl, rfl, rfl⟩ := e
        obtain ⟨j, u', e1, e2, e3⟩ := k3 p.1 p.2 hp
        refine ⟨u', ?_, e3.hd_loc (a6 _ _ hne)⟩
        have := setCells_at ⟨b, i * sz' + k, none⟩ rfl u.cells.toList w 0 (fun j hj => (hcell0 j hj).1) j u' e2
        rwa [Nat.zero_add, add_lit, Nat.add_assoc, ← e1] at this)
       exact ⟨_, g2, hrun, b1, a2.trans b2⟩
      ·simp at h
     ·simp at h
    ·simp at h
   ·simp at h
  ·simp at h
 ·simp at h
end Go.Proofs.YtiilnlihimdnlaaGreatDoorFw
/- A row that is gathered out of elements of others: appends, cuts, orders. -/
namespace Go.Proofs.YtiilnlihimdnlaaGreatDoorFw
open Go Go.RowKit
set_option linter.unusedVariables false
def gGather (g : Gh) (nid b c n : Nat) (f : Nat → Option (Nat × Nat)) (inv : Nat → Nat → Option Nat) (gone : Nat → Bool) : Gh :=
 { g with
  loc := fun j q =>
   if j = nid then
    match q with
    | [] => some (b, c, n)
    | (i, k) :: r => match f i with | some (j', i') => g.loc j' ((i', k) :: r) | none => none
   else g.loc j q
  own := fun b' =>
   if b' = b then some (nid, [])
   else
    match g.own b' with
    | some (j, (i', k) :: r) => if gone j then (match inv j i' with | some i => some (nid, (i, k) :: r) | none => none) else some (j, (i', k) :: r)
    | some (j, []) => if gone j then none else some (j, [])
    | none => none }
theorem HSim.gather {objs objs' : List Obj} {w w' : World} {g : Gh} (h : HSim objs w g) (nid sz : Nat) (es : List AV) (b c : Nat) (cur : Array Value) (e : TypeId)
 (f : Nat → Option (Nat × Nat)) (inv : Nat → Nat → Option Nat) (gone : Nat → Bool)
 (hb : w'.heap[b]? = some (.cells cur e (0, 0))) (hz : cur.size = c * sz) (hn : es.length ≤ c) (hm : c ≤ maxLen)
 (hwd : ∀ (i : Nat) (x : AV), es[i]? = some x → x.width = sz)
 (hheap : ∀ b', b' < w.heap.size → b' ≠ b → w'.heap[b']? = w.heap[b']?) (hsize : w.heap.size ≤ w'.heap.size) (hbs : b < w'.heap.size)
 (hos : w'.os = w.os ∧ w'.tape = w.tape ∧ w'.output = w.output) (hnid : 16 ≤ nid)
 (hfree : w.heap.size ≤ b ∨ ∃ tid, g.own b = some (tid, []) ∧ gone tid = true)
 (hf : ∀ i j i', f i = some (j, i') → gone j = true ∧ inv j i' = some i)
 (hel : ∀ (i k : Nat) (x y : AV), es[i]? = some x → x.cells[k]? = some y → ∃ u, cur[i * sz + k]? = some u ∧
   ((f i = none ∧ Flat g w y u) ∨ ∃ j i', f i = some (j, i') ∧ Cell g w (.at j [(i', k)]) y u))
 (hobj : ∀ j, lookO objs' j = if j = nid then some (sz, es) else if gone j then none else lookO objs j) :
 HSim objs' w' (gGather g nid b c es.length f inv gone) ∧ RdKeep g w (gGather g nid b c es.length f inv gone) w' ∧ Keep g w (gGather g nid b c es.length f inv gone) w' ∧
  (∀ j q, j ≠ nid → (gGather g nid b c es.length f inv gone).loc j q = g.loc j q) ∧ (gGather g nid b c es.length f inv gone).loc nid [] = some (b, c, es.length) := by
 have hbnr : ¬ g.perm b ∧ ¬ g.bor b := by
  rcases hfree with hfr | ⟨tid, ho, _⟩
  ·exact ⟨fun hp => by have := h.rdlt b (.inl hp); omega, fun hp => by have := h.rdlt b (.inr hp); omega⟩
  ·exact ⟨(h.sep b _ ho).1, (h.sep b _ ho).2.1⟩
 have hr : RdKeep g w (gGather g nid b c es.length f inv gone) w' :=
  ⟨fun b' hb' => ⟨hb', hheap b' (h.rdlt b' (.inl hb')) (fun e => hbnr.1 (e ▸ hb'))⟩, fun b' hb' => ⟨.inr hb', hheap b' (h.rdlt b' (.inr hb')) (fun e => hbnr.2 (e ▸ hb'))⟩⟩
 have hloc : ∀ j q, j ≠ nid → (gGather g nid b c es.length f inv gone).loc j q = g.loc j q := fun j q hj => by simp [gGather, hj]
 have hnb : ∀ b' j i' k r, g.own b' = some (j, (i', k) :: r) → b' ≠ b := by
  intro b' j i' k r ho e
  subst e
  rcases hfree with hfr | ⟨tid, ho', _⟩
  ·have := (h.sep b' _ ho).2.2; omega
  ·rw [ho] at ho'; simp at ho'
 have hnb2 : ∀ b' j q, g.own b' = some (j, q) → gone j = false → b' ≠ b := by
  intro b' j q ho hg e
  subst e
  rcases hfree with hfr | ⟨tid, ho', hgt⟩
  ·have := (h.sep b' _ ho).2.2; omega
  ·rw [ho] at ho'
   simp only [Option.some.injEq, Prod.mk.injEq] at ho'
   rw [ho'.1, hgt] at hg
   simp at hg
 refine ⟨⟨?_, ?_, ?_⟩, hr, ?_, hloc, by simp [gGather]⟩
 ·intro j sz' es' hj
  rw [hobj] at hj
  split at hj
  ·rename_i hji
   obtain ⟨rfl, rfl⟩ := Prod.mk.inj (Option.some.inj hj)
   subst hji
   refine ⟨_, .own _ _ _ _ b c cur e (fun j => cur.getD j undef) (by simp [gGather]) (by simp [gGather]) hb hn hm hz hwd ?_ ?_⟩
   ·intro i k x y hx hy
    obtain ⟨u, hu, _⟩ := hel i k x y hx hy
    simp [Array.getD_eq_getD_getElem?, hu]
   ·intro i k x y hx hy
    obtain ⟨u, hu, hcase⟩ := hel i k x y hx hy
    have : cur.getD (i * sz + k) undef = u := by simp [Array.getD_eq_getD_getElem?, hu]
    rw [this]
    rcases hcase with ⟨hfi, hfl⟩ | ⟨j', i', hfi, hcell⟩
    ·exact (hfl.still hr).cell (by simp [gGather, hfi])
    ·obtain ⟨hg1, hg2⟩ := hf i j' i' hfi
     refine hcell.move hr j' [(i', k)] j [(i, k)] rfl ?_ ?_
     ·intro b' r hb'
      have hne := hnb b' j' i' k r (by simpa using hb')
      refine ⟨hheap b' (h.sep b' _ hb').2.2 hne, ?_⟩
      have hb2 : g.own b' = some (j', (i', k) :: r) := by simpa using hb'
      simp only [gGather, if_neg hne, hb2, hg1, if_true, hg2]
      rfl
     ·intro r
      simp [gGather, hfi]
  ·rename_i hji
   split at hj
   ·simp at hj
   ·rename_i hgj
    simp only [Bool.not_eq_true] at hgj
    obtain ⟨v, hv⟩ := h.obj j sz' es' hj
    refine ⟨v, hv.stay hr ?_ (fun r => hloc _ _ hji)⟩
    intro b' r hb'
    have hne := hnb2 b' j _ hb' hgj
    refine ⟨hheap b' (h.sep b' _ hb').2.2 hne, ?_⟩
    simp only [gGather, if_neg hne, hb']
    split
    ·rename_i hh
     simp only [Option.some.injEq, Prod.mk.injEq] at hh
     rw [← hh.1, hgj]; simp [hh.2]
    ·rename_i hh
     simp only [Option.some.injEq, Prod.mk.injEq] at hh
     rw [← hh.1, hgj]; simp [hh.2]
    ·rename_i hh; simp at hh
 ·intro b' p hb'
  simp only [gGather] at hb' ⊢
  split at hb'
  ·rename_i e'; subst e'; exact ⟨hbnr.1, hbnr.2, hbs⟩
  ·cases ho : g.own b' with
   | none => rw [ho] at hb'; simp at hb'
   | some jq => have := h.sep b' jq ho; exact ⟨this.1, this.2.1, by omega⟩
 ·refine h.rdlt.move ?_ fun b' hb' => ?_
  ·first | assumption | exact hr
  have := h.rdlt b' hb'
  omega
 ·refine ⟨hos.1, hos.2.1, hos.2.2, hsize, ?_, fun _ h => h, fun _ _ h => .inl h, fun _ => Iff.rfl, fun j q hj _ => hloc j q (by omega), rfl⟩
  intro b' hlt ho
  have hne : b' ≠ b := by
   intro e; subst e
   rcases hfree with hfr | ⟨tid, ho', _⟩
   ·omega
   ·rw [ho] at ho'; simp at ho'
  exact ⟨hheap b' hlt hne, by simp only [gGather, if_neg hne, ho]⟩
theorem run_append_any {P : Program} {t t2 ty e : TypeId} {ei : TI} {d2 : TypeDesc} (ht : P.underlying t = some (.slice e)) (he : TIOk P e ei) (ht2 : P.underlying t2 = some d2) (hd2 : ∀ k, d2 ≠ .int k)
 {w : World} {n cap : Nat} {base : Option Addr} {cur : Array Value} {e' : TypeId} {b : Nat}
 (hbase : (base = none ∧ n = 0 ∧ cap = 0) ∨ (base = some ⟨b, 0, none⟩ ∧ w.heap[b]? = some (.cells cur e' (0, 0)) ∧ cur.size = cap * ei.sz ∧ n ≤ cap ∧ cap ≤ maxLen))
 {v2 : Value} {m : Nat} {news : List Value} (hlen : (Builtin.lenOf v2).run P w = .ok m w)
 (hf1 : (Builtin.firstCells ei.sz m v2).run P w = .ok news.toArray w) (hf2 : (Builtin.firstCells ei.sz m v2).run P w.drew = .ok news.toArray w.drew)
 (hl : news.length = m * ei.sz) (h1 : ∀ u ∈ news, u.oneCell' = true) (h63 : n + m ≤ maxLen) (hbytes : (n + m) * ei.by_ ≤ 140737488355328) :
 (base = none ∧ m = 0 ∧ (Builtin.append_ #[t, t2] ty #[.slice base n cap, v2]).run P w = .ok (.slice none 0 0) w) ∨
 ∃ b' c' cur' e'' w', (Builtin.append_ #[t, t2] ty #[.slice base n cap, v2]).run P w = .ok (.slice (some ⟨b', 0, none⟩) (n + m) c') w' ∧
  w'.heap[b']? = some (.cells cur' e'' (0, 0)) ∧ cur'.size = c' * ei.sz ∧ n + m ≤ c' ∧ c' ≤ maxLen ∧
  cur'.toList.take ((n + m) * ei.sz) = (if base = none then [] else cur.toList.take (n * ei.sz)) ++ news ∧
  (∀ k, k < w.heap.size → k ≠ b' → w'.heap[k]? = w.heap[k]?) ∧ w.heap.size ≤ w'.heap.size ∧ b' < w'.heap.size ∧
  (w'.os = w.os ∧ w'.tape = w.tape ∧ w'.output = w.output) ∧ (w.heap.size ≤ b' ∨ base = some ⟨b', 0, none⟩) := by
 obtain ⟨i, z, hi, hs, hby, hz, hzs, hzl, _⟩ := he.info
 have hsz : i.size = ei.sz := hs
 have hb0 : i.bytes = ei.by_ := hby
 have hsmall : n + m ≤ 9223372036854775807 := by simpa [maxLen] using h63
 rcases hbase with ⟨rfl, rfl, rfl⟩ | ⟨rfl, hb, hcs, hnc, hcm⟩
 ·by_cases hm : m = 0
  ·subst hm
   left
   refine ⟨rfl, rfl, ?_⟩
   simp [Builtin.append_, run_underlying ht, run_underlying ht2, sizeOf, typeInfo, hi, hsz, hlen, hf1]
  ·right
   have h63' : ¬ (9223372036854775807 < (m : Int)) := by omega
   have hge := grownCap_ge w m 0 e
   have hcm := grownCap_le_maxLen w m 0 e (by simpa using h63)
   have h48' : ¬ (281474976710656 < Builtin.nextslicecap m 0 * i.bytes) := by
    rw [nextslicecap_zero (by omega), hb0]; simp only [Nat.zero_add] at hbytes; omega
   refine ⟨w.heap.size, grownCap w m 0 e, news.toArray ++ Builtin.zeroCells z.cells (grownCap w m 0 e - m), e, w.drew.alloc (.cells (news.toArray ++ Builtin.zeroCells z.cells (grownCap w m 0 e - m)) e), ?_, ?_, ?_, by simpa using hge, hcm, ?_, ?_, ?_, ?_, ⟨rfl, rfl, rfl⟩, .inl (Nat.le_refl _)⟩
   ·simp [Builtin.append_, run_underlying ht, run_underlying ht2, sizeOf, typeInfo, zeroValue, hi, hz, hsz, hlen, hf2, hm, h63', h48', Question.forced, run_firstCells_none, newRow, grownCap]
   ·exact heap_alloc_new w.drew _
   ·simp only [Array.size_append, List.size_toArray, size_zeroCells, hzs, hl, ← Nat.add_mul]
    congr 1; omega
   ·simp only [Array.toList_append, if_true, List.nil_append, Nat.zero_add]
    rw [← hl]; exact List.take_left
   ·intro k hk _; exact Below.heap_alloc w.drew _ k hk
   ·simp
   ·simp
 ·right
  by_cases hroom : n + m ≤ cap
  ·have hfit : n * ei.sz + 0 + news.length ≤ cur.size := by rw [hl, hcs, Nat.add_zero, ← Nat.add_mul]; exact Nat.mul_le_mul_right _ hroom
   have hst := run_storeCells_at P b (n * ei.sz) e' news 0 cur w hb hfit h1
   simp only [Nat.add_zero] at hst hfit
   refine ⟨b, cap, _, e', w.setRow b (cur.toList.take (n * ei.sz) ++ news ++ cur.toList.drop (n * ei.sz + news.length)).toArray, ?_, setRow_heap w b cur _ e' _ hb, ?_, hroom, hcm, ?_, ?_, ?_, ?_, ⟨rfl, rfl, rfl⟩, .inr rfl⟩
   ·simp [Builtin.append_, run_underlying ht, run_underlying ht2, sizeOf, typeInfo, hi, hsz, hlen, hf1, hroom, Addr.add_lit, hst]
   ·simp only [List.size_toArray, List.length_append, List.length_take, List.length_drop, Array.length_toList]
    omega
   ·simp only [reduceCtorEq, if_false]
    have : (cur.toList.take (n * ei.sz) ++ news).length = (n + m) * ei.sz := by
     rw [List.length_append, List.length_take, hl, Nat.add_mul]; simp; omega
    rw [← this]; exact List.take_left
   ·intro k hk hne; exact setRow_other w b k _ hne
   ·simp
   ·simpa using (Array.getElem?_eq_some_iff.1 hb).1
  ·have hge := grownCap_ge w (n + m) cap e
   have hcm' := grownCap_le_maxLen w (n + m) cap e h63
   have holds : ∀ j v, (cur.toList.take (n * ei.sz))[j]? = some v → w.cell? ((⟨b, 0, none⟩ : Addr).add j) = some v := by
    intro j v hj
    rw [List.getElem?_take] at hj
    split at hj
    ·exact cell?_own hb (by simpa using hj)
    ·simp at hj
   have hlo : (cur.toList.take (n * ei.sz)).length = n * ei.sz := by
    rw [List.length_take, Array.length_toList, hcs]
    exact Nat.min_eq_left (Nat.mul_le_mul_right _ hnc)
   have h63' : ¬ (9223372036854775807 < ((n : Int) + (m : Int))) := by omega
   have h48' : ¬ (281474976710656 < Builtin.nextslicecap (n + m) cap * i.bytes) := by
    have := growslice_fits (need := n + m) (old := cap) (bytes := ei.by_) (by omega) hbytes
    rw [hb0]; omega
   have hfo := run_firstCells_some (P := P) w.drew ei.sz n ⟨b, 0, none⟩ n cap _ hlo (by simpa using holds)
   refine ⟨w.heap.size, grownCap w (n + m) cap e, (cur.toList.take (n * ei.sz)).toArray ++ news.toArray ++ Builtin.zeroCells z.cells (grownCap w (n + m) cap e - (n + m)), e,
    w.drew.alloc (.cells ((cur.toList.take (n * ei.sz)).toArray ++ news.toArray ++ Builtin.zeroCells z.cells (grownCap w (n + m) cap e - (n + m))) e), ?_, ?_, ?_, hge, hcm', ?_, ?_, ?_, ?_, ⟨rfl, rfl, rfl⟩, .inl (Nat.le_refl _)⟩
   ·simp only [Builtin.append_]
    simp [run_underlying ht, run_underlying ht2, sizeOf, typeInfo, zeroValue, hi, hz, hsz, hlen, hf2, hroom, h63', h48', Question.forced, hfo, newRow, grownCap]
    congr 2
    apply Array.ext'
    simp [List.append_assoc]
   ·exact heap_alloc_new w.drew _
   ·simp only [Array.size_append, List.size_toArray, size_zeroCells, hzs, hlo, hl, ← Nat.add_mul]
    congr 1; omega
   ·simp only [Array.toList_append, reduceCtorEq, if_false]
    have : ((cur.toList.take (n * ei.sz)) ++ news).length = (n + m) * ei.sz := by rw [List.length_append, hlo, hl, Nat.add_mul]
    rw [← this]; exact List.take_left
   ·intro k hk _; exact Below.heap_alloc w.drew _ k hk
   ·simp
   ·simp
end Go.Proofs.YtiilnlihimdnlaaGreatDoorFw
/- Appends, rows and variables made. -/
namespace Go.Proofs.YtiilnlihimdnlaaGreatDoorFw
open Go Go.RowKit
set_option linter.unusedVariables false
def byteT (T : Tab) (t : TypeId) : Bool :=
 match T t with
 | some { k := .slice e, .. } => match T e with | some { k := .int .u8, sz := 1, .. } => true | _ => false
 | _ => false
def flatC : AV → Bool
 | .row .own _ _ => false
 | .agg cs => flatCs cs
 | _ => true
where flatCs : List AV → Bool
 | [] => true
 | .row .own _ _ :: _ => false
 | _ :: r => flatCs r
def flatL : List AV → Bool
 | [] => true
 | x :: r => flatC x && flatL r
def srcOf (T : Tab) (s : St) (ei : TI) (t2 : TypeId) (y : AV) : Option (List AV × Option Nat) :=
 match y with
 | .row _ sz es => if sz = ei.sz ∧ sliceT T t2 = true then some (es, none) else none
 | .nilS => if sliceT T t2 = true then some ([], none) else none
 | .str u => match ei.k with | .int .u8 => if ei.sz = 1 ∧ strT T t2 = true then some (u.map fun b => .int .u8 b.toNat, none) else none | _ => none
 | .hd id [] =>
  match s.node id [] with
  | some (sz, es) => if sz = ei.sz ∧ sliceT T t2 = true then some (es, some id) else none
  | none => none
 | .hd id q =>
  match s.node id q with
  | some (sz, es) => if sz = ei.sz ∧ sliceT T t2 = true ∧ flatL es = true then some (es, none) else none
  | none => none
 | .ref id q sz off n =>
  match s.node id q with
  | some (sz', es) => if sz = ei.sz ∧ sz' = sz ∧ sliceT T t2 = true ∧ flatL es = true ∧ off + n ≤ es.length then some ((es.drop off).take n, none) else none
  | none => none
 | _ => none
theorem news_list {sz m : Nat} {us : Nat → Value} {es : List AV} (hm : es.length = m) (hw : ∀ (i : Nat) (x : AV), es[i]? = some x → x.width = sz) (j : Nat) (hj : j < m * sz) :
 ∃ i k x y, j = i * sz + k ∧ es[i]? = some x ∧ x.cells[k]? = some y := by
 have hsz : 0 < sz := by
  rcases Nat.eq_zero_or_pos sz with h | h
  ·subst h; simp at hj
  ·exact h
 have hi : j / sz < es.length := by rw [hm]; exact (Nat.div_lt_iff_lt_mul hsz).2 hj
 have hk : j % sz < sz := Nat.mod_lt _ hsz
 have hx := List.getElem?_eq_getElem hi
 have hwid := hw _ _ hx
 exact ⟨j / sz, j % sz, _, _, by rw [Nat.mul_comm]; exact (Nat.div_add_mod j sz).symm, hx, List.getElem?_eq_getElem (by have : (es[j / sz]).cells.length = sz := hwid; omega)⟩
structure SrcOk (P : Program) (g : Gh) (w : World) (sz : Nat) (v : Value) (es : List AV) (tid : Option Nat) (news : List Value) : Prop where
 len : (Builtin.lenOf v).run P w = .ok es.length w
 f1 : (Builtin.firstCells sz es.length v).run P w = .ok news.toArray w
 f2 : (Builtin.firstCells sz es.length v).run P w.drew = .ok news.toArray w.drew
 nl : news.length = es.length * sz
 one : ∀ u ∈ news, u.oneCell' = true
 wd : ∀ (i : Nat) (x : AV), es[i]? = some x → x.width = sz
 cell : ∀ (i k : Nat) (x y : AV), es[i]? = some x → x.cells[k]? = some y → ∃ u, news[i * sz + k]? = some u ∧
  (match tid with | none => Flat g w y u | some id => Cell g w (.at id [(i, k)]) y u)
theorem SrcOk.of_cells {P : Program} {g : Gh} {w : World} {sz : Nat} {es : List AV} {tid : Option Nat} {a : Addr} {c : Nat} {us : Nat → Value}
 (hw : ∀ (i : Nat) (x : AV), es[i]? = some x → x.width = sz)
 (hc : ∀ (i k : Nat) (x y : AV), es[i]? = some x → x.cells[k]? = some y → w.cell? (a.add (i * sz + k)) = some (us (i * sz + k)))
 (ho : ∀ (i k : Nat) (x y : AV), es[i]? = some x → x.cells[k]? = some y → (us (i * sz + k)).oneCell' = true)
 (ht : ∀ (i k : Nat) (x y : AV), es[i]? = some x → x.cells[k]? = some y → (match tid with | none => Flat g w y (us (i * sz + k)) | some id => Cell g w (.at id [(i, k)]) y (us (i * sz + k)))) :
 SrcOk P g w sz (.slice (some a) es.length c) es tid ((List.range (es.length * sz)).map us) := by
 have hget : ∀ j v, ((List.range (es.length * sz)).map us)[j]? = some v → j < es.length * sz ∧ v = us j := by
  intro j v hv
  rw [List.getElem?_map] at hv
  cases hj : (List.range (es.length * sz))[j]? with
  | none => simp [hj] at hv
  | some j' =>
   have hlt := lt_of_get hj
   simp only [List.length_range] at hlt
   rw [List.getElem?_range hlt] at hv
   exact ⟨hlt, (Option.some.inj hv).symm⟩
 have hl : ((List.range (es.length * sz)).map us).length = es.length * sz := by simp
 have hcells : ∀ j v, ((List.range (es.length * sz)).map us)[j]? = some v → w.cell? (a.add j) = some v := by
  intro j v hv
  obtain ⟨hlt, rfl⟩ := hget j v hv
  obtain ⟨i, k, x, y, rfl, hx, hy⟩ := news_list (us := us) rfl hw j hlt
  exact hc i k x y hx hy
 refine ⟨by simp [Builtin.lenOf], run_firstCells_some w sz es.length a es.length c _ hl hcells, run_firstCells_some w.drew sz es.length a es.length c _ hl (by simpa using hcells), hl, ?_, hw, ?_⟩
 ·intro u hu
  rw [List.mem_map] at hu
  obtain ⟨j, hj, rfl⟩ := hu
  rw [List.mem_range] at hj
  obtain ⟨i, k, x, y, rfl, hx, hy⟩ := news_list (us := us) rfl hw j hj
  exact ho i k x y hx hy
 ·intro i k x y hx hy
  have hlt : i * sz + k < es.length * sz := by
   have h1 := lt_of_get hx
   have h2 : k < sz := by rw [← hw i x hx]; exact lt_of_get hy
   calc i * sz + k < i * sz + sz := by omega
    _ = (i + 1) * sz := by rw [Nat.add_mul, Nat.one_mul]
    _ ≤ es.length * sz := Nat.mul_le_mul_right _ (by omega)
  exact ⟨us (i * sz + k), by rw [List.getElem?_map, List.getElem?_range hlt]; rfl, ht i k x y hx hy⟩
theorem SrcOk.nothing {P : Program} {g : Gh} {w : World} {sz : Nat} {a : Option Addr} {c : Nat} {tid : Option Nat} : SrcOk P g w sz (.slice a 0 c) [] tid [] := by
 refine ⟨by simp [Builtin.lenOf], ?_, ?_, by simp, by simp, by simp, by simp⟩ <;> cases a <;> simp [Builtin.firstCells, loadCells, loadCellsFrom]
theorem Cell.flat {g : Gh} {w : World} {id : Nat} {q : Path} {y : AV} {u : Value} (h : Cell g w (.at id q) y u) (hf : ∀ sz es, y ≠ .row .own sz es) : Flat g w y u := by
 refine .inr ?_
 cases h with
 | int => exact .int _ _ _
 | bool => exact .bool _ _
 | str => exact .str _ _
 | nilI => exact .nilI _
 | ifc _ c t v h => exact .ifc _ _ _ _ h
 | dead _ _ h1 => exact .dead _ _ h1
 | emp _ m sz a c hm => exact .emp _ _ _ _ _ hm
 | rd _ m sz es a c us hp hm hs hl hw hc ht => exact .rd _ _ _ _ _ _ us (by simp) hm hs hl hw hc ht
 | ownNil => exact absurd rfl (hf _ _)
 | own => exact absurd rfl (hf _ _)
theorem flatC_cells {x : AV} (h : flatC x = true) {k : Nat} {y : AV} (hy : x.cells[k]? = some y) : ∀ sz es, y ≠ .row .own sz es := by
 intro sz es e
 subst e
 cases x with
 | agg cs =>
  simp only [flatC] at h
  simp only [AV.cells] at hy
  induction cs generalizing k with
  | nil => simp at hy
  | cons c r ih =>
   cases k with
   | zero => simp at hy; subst hy; simp [flatC.flatCs] at h
   | succ k =>
    refine ih (k := k) ?_ (by simpa using hy)
    cases c with
    | row m _ _ => cases m <;> simp_all [flatC.flatCs]
    | _ => simpa [flatC.flatCs] using h
 | row m sz' es' => cases k <;> simp [AV.cells] at hy; obtain ⟨rfl, rfl, rfl⟩ := hy; simp [flatC] at h
 | _ => cases k <;> simp [AV.cells] at hy
theorem flatL_get {l : List AV} (h : flatL l = true) {i : Nat} {x : AV} (hx : l[i]? = some x) : flatC x = true := by
 induction l generalizing i with
 | nil => simp at hx
 | cons y r ih =>
  simp only [flatL, Bool.and_eq_true] at h
  cases i with
  | zero => simp at hx; rw [← hx]; exact h.1
  | succ i => exact ih h.2 (by simpa using hx)
theorem srcOf_ok {P : Program} {T : Tab} (hT : TabOk P T) {s : St} {ei : TI} {t2 : TypeId} {y : AV} {es : List AV} {tid : Option Nat} (h : srcOf T s ei t2 y = some (es, tid))
 {a : Act} {w : World} {g : Gh} (hs : Sim s a w g) {v : Value} (hv : Val g w y v) :
 (∃ news, SrcOk P g w ei.sz v es tid news) ∧ (∃ d2, P.underlying t2 = some d2 ∧ ∀ k, d2 ≠ .int k) ∧ (∀ id, tid = some id → lookO s.objs id = some (ei.sz, es) ∧ y = .hd id []) := by
 have hsl : sliceT T t2 = true → ∃ d2, P.underlying t2 = some d2 ∧ ∀ k, d2 ≠ .int k := fun h => by
  obtain ⟨e, he⟩ := sliceT_ok hT h; exact ⟨_, he, fun k => by simp⟩
 have hown : ∀ id q sz es0, s.node id q = some (sz, es0) → flatL es0 = true → ∀ (off n : Nat), off + n ≤ es0.length → ∀ (ad : Addr) (c : Nat), (∀ b cap len, g.loc id q = some (b, cap, len) → ad = ⟨b, off * sz, none⟩ ∨ n = 0) → (es0 ≠ [] → (g.loc id q).isSome = true) →
  ∃ news, SrcOk P g w sz (.slice (some ad) n c) ((es0.drop off).take n) none news := by
  intro id q sz es0 hn hfl off n hle ad c had hsome
  obtain ⟨v', hnode⟩ := hs.node hn
  by_cases hn0 : n = 0
  ·subst hn0; exact ⟨_, by simpa using SrcOk.nothing⟩
  ·have hlt : 0 < es0.length := by omega
   obtain ⟨b', c', cur, ee, us, rfl, hloc', hown, hb, hlc, hcm, hcz, hw, hc, ht⟩ := hnode.node (List.getElem?_eq_getElem hlt)
   rcases had b' c' _ hloc' with rfl | h0
   ·have hlen : ((es0.drop off).take n).length = n := by simp; omega
    have hget : ∀ (i : Nat) (x : AV), ((es0.drop off).take n)[i]? = some x → es0[off + i]? = some x := by
     intro i x hx
     rw [List.getElem?_take] at hx
     split at hx
     ·rwa [List.getElem?_drop] at hx
     ·simp at hx
    have hadd : ∀ i k : Nat, (off + i) * sz + k = off * sz + (i * sz + k) := fun i k => by rw [Nat.add_mul]; omega
    have := SrcOk.of_cells (P := P) (g := g) (w := w) (sz := sz) (es := (es0.drop off).take n) (tid := none) (a := ⟨b', off * sz, none⟩) (c := c) (us := fun j => us (off * sz + j)) (fun i x hx => hw _ x (hget i x hx))
     (fun i k x y hx hy => by rw [add_lit, cell_of_block hb, ← hadd]; exact hc _ k x y (hget i x hx) hy)
     (fun i k x y hx hy => by have := (ht _ k x y (hget i x hx) hy).one; rwa [hadd] at this)
     (fun i k x y hx hy => by have := (ht _ k x y (hget i x hx) hy).flat (flatC_cells (flatL_get hfl (hget i x hx)) hy); rwa [hadd] at this)
    rw [hlen] at this
    exact ⟨_, this⟩
   ·exact absurd h0 hn0
 unfold srcOf at h
 split at h
 ·rename_i m sz es0
  split at h
  ·rename_i hcond
   obtain ⟨rfl, hst⟩ := hcond
   simp only [Option.some.injEq, Prod.mk.injEq] at h
   obtain ⟨rfl, rfl⟩ := h
   refine ⟨?_, hsl hst, fun id e => by simp at e⟩
   rcases hv.row_inv with ⟨ad, c, rfl, rfl, _⟩ | ⟨ad, c, us, rfl, hm, hsp, hl, hw, hc, ht⟩
   ·exact ⟨_, SrcOk.nothing⟩
   ·refine ⟨_, SrcOk.of_cells hw hc (fun i k x y hx hy => (ht i k x y hx hy).one) (fun i k x y hx hy => .inr ?_)⟩
    have := ht i k x y hx hy
    cases m with
    | bo => exact this
    | own => exact Cell.lent this
    | ro => exact Cell.lent this
  ·simp at h
 ·split at h
  ·rename_i hst
   simp only [Option.some.injEq, Prod.mk.injEq] at h
   obtain ⟨rfl, rfl⟩ := h
   refine ⟨?_, hsl hst, fun id e => by simp at e⟩
   cases hv with
   | cell _ _ hh => cases hh
   | nilS => exact ⟨_, SrcOk.nothing⟩
  ·simp at h
 ·rename_i u
  split at h
  ·rename_i hk
   split at h
   ·rename_i hcond
    simp only [Option.some.injEq, Prod.mk.injEq] at h
    obtain ⟨rfl, rfl⟩ := h
    obtain rfl := hv.str_inv
    refine ⟨⟨u.map fun b => .int .u8 b.toNat, ?_⟩, ⟨_, strT_ok hT hcond.2, fun k => by simp⟩, fun id e => by simp at e⟩
    have hfc : ∀ w : World, (Builtin.firstCells ei.sz u.length (.string ⟨⟨u⟩⟩)).run P w = .ok (u.map fun b => Value.int .u8 b.toNat).toArray w := by
     intro w
     simp only [Builtin.firstCells, Sem.run_pure, bytes_extract, List.drop_zero, Nat.sub_zero, List.take_length]
     congr 1
     apply Array.ext'; simp
    refine ⟨by simp [Builtin.lenOf, bytes_size], by simpa using hfc w, by simpa using hfc w.drew, by simp [hcond.1], ?_, ?_, ?_⟩
    ·intro x hx; rw [List.mem_map] at hx; obtain ⟨b, _, rfl⟩ := hx; rfl
    ·intro i x hx; obtain ⟨b, _, rfl⟩ := List.mem_map.1 (List.mem_of_getElem? hx); rw [hcond.1]; rfl
    ·intro i k x y hx hy
     rw [List.getElem?_map] at hx
     cases hb : u[i]? with
     | none => simp [hb] at hx
     | some b =>
      rw [hb] at hx
      obtain rfl := Option.some.inj hx
      cases k with
      | zero =>
       simp [AV.cells] at hy; subst hy
       exact ⟨.int .u8 b.toNat, by simp [hcond.1, hb], .inr (.int _ _ _)⟩
      | succ k => simp [AV.cells] at hy
   ·simp at h
  ·simp at h
 ·rename_i id
  split at h
  ·rename_i sz es0 hn
   split at h
   ·rename_i hcond
    obtain ⟨rfl, hst⟩ := hcond
    simp only [Option.some.injEq, Prod.mk.injEq] at h
    obtain ⟨rfl, rfl⟩ := h
    have hlook : lookO s.objs id = some (ei.sz, es0) := by
     obtain ⟨rsz, res, h1, h2⟩ := St.node_some hn
     simp only [navG, Option.some.injEq, Prod.mk.injEq] at h2
     obtain ⟨rfl, rfl⟩ := h2; exact h1
    refine ⟨?_, hsl hst, fun id' e => by obtain rfl := Option.some.inj e; exact ⟨hlook, rfl⟩⟩
    obtain ⟨v', hnode⟩ := hs.node hn
    obtain rfl := hnode.hd hv
    cases es0 with
    | nil =>
     obtain ⟨ad, c, rfl⟩ := hnode.len
     exact ⟨_, SrcOk.nothing⟩
    | cons x r =>
     obtain ⟨b', c', cur, ee, us, rfl, hloc', hown', hb, hlc, hcm, hcz, hw, hc, ht⟩ := hnode.node (i := 0) rfl
     refine ⟨_, SrcOk.of_cells hw (fun i k x y hx hy => ?_) (fun i k x y hx hy => (ht i k x y hx hy).one) (fun i k x y hx hy => by simpa using ht i k x y hx hy)⟩
     rw [add_lit, Nat.zero_add, cell_of_block hb]; exact hc i k x y hx hy
   ·simp at h
  ·simp at h
 ·rename_i id q _
  split at h
  ·rename_i sz es0 hn
   split at h
   ·rename_i hcond
    obtain ⟨rfl, hst, hfl⟩ := hcond
    simp only [Option.some.injEq, Prod.mk.injEq] at h
    obtain ⟨rfl, rfl⟩ := h
    refine ⟨?_, hsl hst, fun id' e => by simp at e⟩
    obtain ⟨v', hnode⟩ := hs.node hn
    obtain rfl := hnode.hd hv
    obtain ⟨ad, c, rfl⟩ := hnode.len
    rcases hv.hd_inv with ⟨b, cc, n, hl, he⟩ | ⟨hl, he⟩
    ·simp only [Value.slice.injEq] at he
     obtain ⟨rfl, rfl, rfl⟩ := he
     have := hown id q _ es0 hn hfl 0 es0.length (by omega) ⟨b, 0, none⟩ c (fun b' cap len hb' => by rw [hl] at hb'; simp only [Option.some.injEq, Prod.mk.injEq] at hb'; left; rw [hb'.1]; simp) (fun _ => by rw [hl]; rfl)
     simpa using this
    ·simp only [Value.slice.injEq] at he
     obtain ⟨rfl, he2, rfl⟩ := he
     have : es0 = [] := List.eq_nil_of_length_eq_zero he2
     subst this
     exact ⟨_, SrcOk.nothing⟩
   ·simp at h
  ·simp at h
 ·rename_i id q sz off n
  split at h
  ·rename_i sz' es0 hn
   split at h
   ·rename_i hcond
    obtain ⟨rfl, rfl, hst, hfl, hle⟩ := hcond
    simp only [Option.some.injEq, Prod.mk.injEq] at h
    obtain ⟨rfl, rfl⟩ := h
    refine ⟨?_, hsl hst, fun id' e => by simp at e⟩
    rcases hv.ref_inv with ⟨b, cap, len', c', ad, hl, h3, h4, h5, rfl⟩ | ⟨hl, rfl, rfl, rfl⟩
    ·exact hown id q _ es0 hn hfl off n hle ad c' (fun b' cap' len hb' => by
      rw [hl] at hb'; simp only [Option.some.injEq, Prod.mk.injEq] at hb'
      rcases Nat.eq_zero_or_pos n with h0 | h0
      ·exact .inr h0
      ·left; rw [h5 (.inl (by omega)), hb'.1]) (fun _ => by rw [hl]; rfl)
    ·exact ⟨_, by simpa using SrcOk.nothing⟩
   ·simp at h
  ·simp at h
 ·simp at h
end Go.Proofs.YtiilnlihimdnlaaGreatDoorFw
/- Appends. -/
namespace Go.Proofs.YtiilnlihimdnlaaGreatDoorFw
open Go Go.RowKit
set_option linter.unusedVariables false
def goneB (nid : Nat) (t1 t2 : Option Nat) (j : Nat) : Bool := decide (j = nid) || decide (t1 = some j) || decide (t2 = some j)
def killG (nid : Nat) (t1 t2 : Option Nat) : Nat → Path → Option (Nat × Path) := fun j q => if goneB nid t1 t2 j then none else some (j, q)
def dropOpt (l : List Obj) : Option Nat → List Obj
 | some i => dropO l i
 | none => l
theorem lookO_dropOpt (l : List Obj) (t : Option Nat) (j : Nat) : lookO (dropOpt l t) j = if t = some j then none else lookO l j := by
 cases t with
 | none => simp [dropOpt]
 | some i => simp only [dropOpt, lookO_dropO, Option.some.injEq]
def baseOf (s : St) (ei : TI) (x : AV) : Option (Option Nat × List AV) :=
 match x with
 | .nilS => some (none, [])
 | .hd id [] =>
  match lookO s.objs id with
  | some (sz, es) => if sz = ei.sz then some (some id, es) else none
  | none => none
 | _ => none
def sAppend (T : Tab) (s : St) (d nid : Nat) (t1 t2 : TypeId) (x y : AV) : Option (Prop × St) :=
 match elemOf' T t1 with
 | none => none
 | some ei =>
  match baseOf s ei x, srcOf T s ei t2 y with
  | some (tid, es1), some (es2, tid2) =>
   if s.fits (some d) = true ∧ (tid = none ∨ tid ≠ tid2) ∧ 16 ≤ nid then
    some ((es1.length + es2.length) * ei.by_ ≤ 140737488355328 ∧ es1.length + es2.length ≤ maxLen,
     { s with slots := putS (mapS (killG nid tid tid2) s.slots) d (.hd nid []), objs := setO (dropOpt (dropOpt s.objs tid) tid2) nid ei.sz (es1 ++ es2) })
   else none
  | _, _ => none
theorem Sim.regard {s : St} {a : Act} {w w' : World} {g g' : Gh} (h : Sim s a w g) (hr : RdKeep g w g' w') {gone : Nat → Bool} {f : Nat → Path → Option (Nat × Path)} (hf : ∀ j q, f j q = if gone j then none else some (j, q))
 (hl : ∀ j q, gone j = false → g'.loc j q = g.loc j q) {objs : List Obj} (ho : HSim objs w' g') {d : Nat} (hd : s.fits (some d) = true) {x : AV} {v : Value} (hv : Val g' w' x v) (hst : g'.st = g.st := by rfl) :
 Sim { s with slots := putS (mapS f s.slots) d x, objs := objs } (a.put (some d) v) w' g' := by
 have ht := h.turn hr (f := f) (fun j q j' q' hf' => by
  rw [hf] at hf'
  split at hf'
  ·simp at hf'
  ·rename_i hg
   simp only [Option.some.injEq, Prod.mk.injEq] at hf'
   obtain ⟨rfl, rfl⟩ := hf'
   exact hl _ _ (by simpa using hg)) ho hst
 exact ht.put (d := some d) hd hv
theorem goneB_false {nid : Nat} {t1 t2 : Option Nat} {j : Nat} (h : goneB nid t1 t2 j = false) : j ≠ nid ∧ t1 ≠ some j ∧ t2 ≠ some j := by
 simpa [goneB, Bool.or_eq_false_iff, and_assoc] using h
theorem h_objs {s : St} {a : Act} {w : World} {g : Gh} (hs : Sim s a w g) (t1 t2 : Option Nat) (nid sz : Nat) : HSim (setO (dropOpt (dropOpt s.objs t1) t2) nid sz []) w (gKill g nid []) := by
 have h1 : HSim (dropOpt (dropOpt s.objs t1) t2) w g := by
  cases t1 <;> cases t2 <;> simp only [dropOpt]
  ·exact hs.h
  ·exact hs.h.drop _
  ·exact hs.h.drop _
  ·exact (hs.h.drop _).drop _
 exact h1.newNil nid sz
theorem sAppend_ok {P : Program} {T : Tab} (hT : TabOk P T) {s s' : St} {d nid : Nat} {t1 t2 ty : TypeId} {x y : AV} {c : Prop} (h : sAppend T s d nid t1 t2 x y = some (c, s')) (hc : c)
 {a : Act} {w : World} {g : Gh} (hs : Sim s a w g) {v u : Value} (hv : Val g w x v) (hu : Val g w y u) :
 ∃ r w' g', (Builtin.append_ #[t1, t2] ty #[v, u]).run P w = .ok r w' ∧ Sim s' (a.put (some d) r) w' g' ∧ Keep g w g' w' := by
 unfold sAppend at h
 split at h
 ·simp at h
 ·rename_i ei hei
  obtain ⟨e, he1, _, he2⟩ := elemOf'_ok hT hei
  split at h
  ·rename_i tid es1 es2 tid2 hb hsrc
   split at h
   ·rename_i hcond
    obtain ⟨hd, htt, hnid⟩ := hcond
    simp only [Option.some.injEq, Prod.mk.injEq] at h
    obtain ⟨rfl, rfl⟩ := h
    obtain ⟨hc1, hc2⟩ := hc
    obtain ⟨⟨news, hsrcOk⟩, ⟨d2, hd2, hd2'⟩, htid2⟩ := srcOf_ok (P := P) hT hsrc hs hu
    have hu0 : ∃ u2, u = u2 := ⟨u, rfl⟩
    -- the first operand
    have hbase : ∃ (base : Option Addr) (cap b : Nat) (cur : Array Value) (e' : TypeId), v = .slice base es1.length cap ∧
     ((base = none ∧ es1.length = 0 ∧ cap = 0) ∨ (base = some ⟨b, 0, none⟩ ∧ w.heap[b]? = some (.cells cur e' (0, 0)) ∧ cur.size = cap * ei.sz ∧ es1.length ≤ cap ∧ cap ≤ maxLen)) ∧
     (base ≠ none → ∃ t, tid = some t ∧ g.own b = some (t, [])) ∧
     (∀ (i k : Nat) (x y : AV), es1[i]? = some x → x.cells[k]? = some y → ∃ t z, tid = some t ∧ base ≠ none ∧ cur[i * ei.sz + k]? = some z ∧ Cell g w (.at t [(i, k)]) y z) ∧
     (∀ (i : Nat) (x : AV), es1[i]? = some x → x.width = ei.sz) ∧ (∀ t, tid = some t → lookO s.objs t = some (ei.sz, es1)) := by
     unfold baseOf at hb
     split at hb
     ·simp only [Option.some.injEq, Prod.mk.injEq] at hb
      obtain ⟨rfl, rfl⟩ := hb
      cases hv with
      | cell _ _ hh => cases hh
      | nilS => exact ⟨none, 0, 0, #[], 0, rfl, .inl ⟨rfl, rfl, rfl⟩, fun h => absurd rfl h, fun i k x y hx => by simp at hx, fun i x hx => by simp at hx, fun t ht => by simp at ht⟩
     ·rename_i id
      split at hb
      ·rename_i sz es hlook
       split at hb
       ·rename_i hsz
        subst hsz
        simp only [Option.some.injEq, Prod.mk.injEq] at hb
        obtain ⟨rfl, rfl⟩ := hb
        obtain ⟨v', hcell⟩ := hs.h.obj id _ _ hlook
        obtain rfl := hcell.hd hv
        cases hcell with
        | rd _ _ _ _ a c us hp hm => exact hm.elim
        | emp _ _ _ a c hm => exact absurd rfl hm
        | ownNil _ _ _ hl => exact ⟨none, 0, 0, #[], 0, rfl, .inl ⟨rfl, rfl, rfl⟩, fun h => absurd rfl h, fun i k x y hx => by simp at hx, fun i x hx => by simp at hx, fun t ht => by obtain rfl := Option.some.inj ht; exact hlook⟩
        | own _ _ _ _ b c cur e' us hl ho hbb hn hm hz hw hcc ht =>
         refine ⟨_, c, b, cur, e', rfl, .inr ⟨rfl, hbb, hz, hn, hm⟩, fun _ => ⟨_, rfl, ho⟩, ?_, hw, fun t ht => by obtain rfl := Option.some.inj ht; exact hlook⟩
         intro i k x y hx hy
         exact ⟨_, _, rfl, by simp, hcc i k x y hx hy, by simpa using ht i k x y hx hy⟩
       ·simp at hb
      ·simp at hb
     ·simp at hb
    obtain ⟨base, cap, b, cur, e', rfl, hbs, hbown, hbel, hbw, hblook⟩ := hbase
    rcases run_append_any (P := P) (t := t1) (t2 := t2) (ty := ty) he1 he2 hd2 hd2' hbs hsrcOk.len hsrcOk.f1 hsrcOk.f2 hsrcOk.nl hsrcOk.one hc2 hc1 with ⟨rfl, hm0, hrun⟩ | ⟨b', c', cur', e'', w', hrun, hb', hcz', hn', hm', htake, hheap, hsize, hblt, hos, hwhere⟩
    ·-- nothing onto nothing
     have hes2 : es2 = [] := List.eq_nil_of_length_eq_zero hm0
     have hes1 : es1 = [] := by
      rcases hbs with ⟨_, h0, _⟩ | ⟨h0, _⟩
      ·exact List.eq_nil_of_length_eq_zero h0
      ·simp at h0
     subst hes1; subst hes2
     have hr : RdKeep g w (gKill g nid []) w := ⟨fun b hb => ⟨hb, rfl⟩, fun b hb => ⟨.inr hb, rfl⟩⟩
     have hH := h_objs hs tid tid2 nid ei.sz
     refine ⟨_, w, gKill g nid [], hrun, ?_, gKill_keep g nid [] w (.inr hnid)⟩
     exact hs.regard hr (gone := goneB nid tid tid2) (fun j q => rfl) (fun j q hj => gKill_else (fun _ e => absurd e (goneB_false hj).1)) hH hd (.hdNil _ _ (gKill_at g nid [] []))
    ·have hlen : (es1 ++ es2).length = es1.length + es2.length := List.length_append
     have hcur' : ∀ (j : Nat) (z : Value), (if base = none then ([] : List Value) else cur.toList.take (es1.length * ei.sz))[j]? = some z → cur'[j]? = some z := by
      intro j z hz
      have h1 : (cur'.toList.take ((es1.length + es2.length) * ei.sz))[j]? = some z := by rw [htake, List.getElem?_append_left (lt_of_get hz)]; exact hz
      rw [List.getElem?_take] at h1
      split at h1
      ·simpa using h1
      ·simp at h1
     have hollen : (if base = none then ([] : List Value) else cur.toList.take (es1.length * ei.sz)).length = es1.length * ei.sz := by
      rcases hbs with ⟨rfl, h0, _⟩ | ⟨h0, _, h2, h3, _⟩
      ·rw [if_pos rfl, h0]; simp
      ·rw [h0]
       simp only [reduceCtorEq, if_false, List.length_take, Array.length_toList, h2]
       exact Nat.min_eq_left (Nat.mul_le_mul_right _ h3)
     have hcur2 : ∀ (j : Nat) (z : Value), news[j]? = some z → cur'[es1.length * ei.sz + j]? = some z := by
      intro j z hz
      have h1 : (cur'.toList.take ((es1.length + es2.length) * ei.sz))[es1.length * ei.sz + j]? = some z := by
       rw [htake, List.getElem?_append_right (by rw [hollen]; omega), hollen, Nat.add_sub_cancel_left]; exact hz
      rw [List.getElem?_take] at h1
      split at h1
      ·simpa using h1
      ·simp at h1
     have key := hs.h.gather (w' := w') (objs' := setO (dropOpt (dropOpt s.objs tid) tid2) nid ei.sz (es1 ++ es2)) nid ei.sz (es1 ++ es2) b' c' cur' e''
      (fun i => if i < es1.length then tid.map (fun t => (t, i)) else tid2.map (fun t => (t, i - es1.length)))
      (fun j i' => if tid = some j then (if i' < es1.length then some i' else none) else if tid2 = some j then some (es1.length + i') else none)
      (goneB nid tid tid2) hb' hcz' (by rw [hlen]; exact hn') hm'
      (by
        intro i x hx
        by_cases hi : i < es1.length
        ·rw [List.getElem?_append_left hi] at hx; exact hbw i x hx
        ·rw [List.getElem?_append_right (by omega)] at hx; exact hsrcOk.wd _ x hx)
      hheap hsize hblt hos hnid
      (by
        rcases hwhere with h1 | h1
        ·exact .inl h1
        ·obtain ⟨t, ht, hown⟩ := hbown (by rw [h1]; simp)
         rcases hbs with ⟨h2, _⟩ | ⟨h2, _⟩
         ·rw [h2] at h1; simp at h1
         ·rw [h2] at h1
          simp only [Option.some.injEq, Addr.mk.injEq, and_true] at h1
          exact .inr ⟨t, by rw [← h1]; exact hown, by simp [goneB, ht]⟩)
      (by
        intro i j i' hf
        split at hf
        ·rename_i hi
         cases ht : tid with
         | none => simp [ht] at hf
         | some t =>
          rw [ht] at hf
          simp only [Option.map_some, Option.some.injEq, Prod.mk.injEq] at hf
          obtain ⟨rfl, rfl⟩ := hf
          exact ⟨by simp [goneB], by simp [hi]⟩
        ·rename_i hi
         cases ht2 : tid2 with
         | none => simp [ht2] at hf
         | some t2' =>
          rw [ht2] at hf
          simp only [Option.map_some, Option.some.injEq, Prod.mk.injEq] at hf
          obtain ⟨rfl, rfl⟩ := hf
          refine ⟨by simp [goneB], ?_⟩
          have hne : tid ≠ some t2' := by
           rcases htt with h0 | h0
           ·rw [h0]; simp
           ·intro e; exact h0 (e.trans ht2.symm)
          rw [if_neg hne, if_pos rfl]
          congr 1; omega)
      (by
        intro i k x y hx hy
        by_cases hi : i < es1.length
        ·rw [List.getElem?_append_left hi] at hx
         obtain ⟨t, z, ht, hbn, hz, hcell⟩ := hbel i k x y hx hy
         refine ⟨z, hcur' _ z ?_, .inr ⟨t, i, by simp [hi, ht], hcell⟩⟩
         rw [if_neg hbn, List.getElem?_take, if_pos]
         ·simpa using hz
         ·have h2 : k < ei.sz := by rw [← hbw i x hx]; exact lt_of_get hy
          calc i * ei.sz + k < i * ei.sz + ei.sz := by omega
           _ = (i + 1) * ei.sz := by rw [Nat.add_mul, Nat.one_mul]
           _ ≤ es1.length * ei.sz := Nat.mul_le_mul_right _ (by omega)
        ·rw [List.getElem?_append_right (by omega)] at hx
         obtain ⟨z, hz, hcase⟩ := hsrcOk.cell _ k x y hx hy
         have hidx : es1.length * ei.sz + ((i - es1.length) * ei.sz + k) = i * ei.sz + k := by
          rw [← Nat.add_assoc, ← Nat.add_mul]; congr 2; omega
         refine ⟨z, by rw [← hidx]; exact hcur2 _ z hz, ?_⟩
         cases ht2 : tid2 with
         | none => rw [ht2] at hcase; exact .inl ⟨by simp [hi], hcase⟩
         | some t2' => rw [ht2] at hcase; exact .inr ⟨t2', i - es1.length, by simp [hi], hcase⟩)
      (by
        intro j
        simp only [lookO_setO, lookO_dropOpt]
        by_cases h1 : j = nid
        ·rw [if_pos h1.symm, if_pos h1]
        ·rw [if_neg (fun e => h1 e.symm), if_neg h1]
         by_cases h2 : tid2 = some j
         ·simp [h2, goneB]
         ·by_cases h3 : tid = some j
          ·simp [h2, h3, goneB]
          ·simp [h2, h3, goneB, h1])
     obtain ⟨k1, k2, k3, k4, k5⟩ := key
     refine ⟨_, w', _, hrun, ?_, k3⟩
     refine hs.regard k2 (gone := goneB nid tid tid2) (fun j q => rfl) (fun j q hj => k4 j q (goneB_false hj).1) k1 hd ?_
     have hn2 : es1.length + es2.length = (es1 ++ es2).length := hlen.symm
     generalize hq : es1.length + es2.length = q at hn2 ⊢
     subst hn2
     exact .hd nid [] b' c' _ k5
   ·simp at h
  ·simp at h
end Go.Proofs.YtiilnlihimdnlaaGreatDoorFw
/- Variables in memory, rows made and written out. -/
namespace Go.Proofs.YtiilnlihimdnlaaGreatDoorFw
open Go Go.RowKit
set_option linter.unusedVariables false
def mkObj (k : TK) (sz : Nat) (cs : List AV) : Option (Nat × List AV) :=
 match k with
 | .struct _ => some (sz, [.agg cs])
 | _ => some (1, cs)
def posOf (k : TK) (j : Nat) : Nat × Nat :=
 match k with
 | .struct _ => (0, j)
 | _ => (j, 0)
theorem run_newVar {P : Program} {t : TypeId} {v : Value} {w : World} : (do pure (.pointer (some (← newVar t v))) : Sem Value).run P w = .ok (.pointer (some ⟨w.heap.size, 0, none⟩)) (w.alloc (.cells v.cells t)) := by
 simp [newVar, newRow]
theorem Sim.newVar {s : St} {a : Act} {w : World} {g : Gh} (h : Sim s a w g) {d id sz n : Nat} {es cs : List AV} {k : TK} {u : Value} {t : TypeId} (hid : 16 ≤ id) (hmk : mkObj k n cs = some (sz, es))
 (hd : s.fits (some d) = true) (hn : u.cells.size = n) (hcl : cs.length = n) (hm : n ≤ 16777216)
 (hc : ∀ (j : Nat) (c : AV), cs[j]? = some c → ∃ z, u.cells[j]? = some z ∧ Flat g w c z ∧ c.cells = [c]) :
 ∃ g', Sim (s.newO d id sz es (.ptr id [] sz 0 0)) (a.put (some d) (.pointer (some ⟨w.heap.size, 0, none⟩))) (w.alloc (.cells u.cells t)) g' ∧ Keep g w g' (w.alloc (.cells u.cells t)) ∧
  (∃ c, g'.loc id [] = some (w.heap.size, c, es.length)) ∧ (∀ j q, j ≠ id → g'.loc j q = g.loc j q) ∧ RdKeep g w g' (w.alloc (.cells u.cells t)) ∧
  (∀ j z, u.cells[j]? = some z → (w.alloc (.cells u.cells t)).cell? ⟨w.heap.size, (posOf k j).1 * sz + (posOf k j).2, none⟩ = some z) := by
 have hcells : ∀ j z, u.cells[j]? = some z → (w.alloc (.cells u.cells t)).cell? ⟨w.heap.size, j, none⟩ = some z := by
  intro j z hz; rw [World.cell?_alloc_new]; exact hz
 have struct : ∀ (hs : sz = n) (he : es = [.agg cs]), _ := fun hs he => by
  subst hs; subst he
  exact h.newO (w' := w.alloc (.cells u.cells t)) d id sz hid [.agg cs] 1 u.cells t hd rfl ⟨rfl, rfl, rfl⟩ (by simp) (by decide) (by simpa using hn) (by
   intro i x hx
   cases i with
   | zero => simp at hx; subst hx; exact hcl
   | succ i => simp at hx) (by
   intro i k x y hx hy
   cases i with
   | zero =>
    simp at hx; subst hx
    obtain ⟨z, hz, hf, _⟩ := hc k y hy
    exact ⟨z, by simpa using hz, hf⟩
   | succ i => simp at hx) (x := .ptr id [] sz 0 0) (v := .pointer (some ⟨w.heap.size, 0, none⟩)) (by
   intro g' hl
   have := Val.ptr (g := g') (w := w.alloc (.cells u.cells t)) id [] sz 0 0 w.heap.size 1 _ hl
   simpa using this)
 have flat : ∀ (hs : sz = 1) (he : es = cs), _ := fun hs he => by
  subst hs; subst he
  exact h.newO (w' := w.alloc (.cells u.cells t)) d id 1 hid es n u.cells t hd rfl ⟨rfl, rfl, rfl⟩ (by omega) (by unfold maxLen; omega) (by omega) (by
   intro i x hx
   obtain ⟨z, _, _, hc1⟩ := hc i x hx
   simp [AV.width, hc1]) (by
   intro i k x y hx hy
   obtain ⟨z, hz, hf, hc1⟩ := hc i x hx
   rw [hc1] at hy
   cases k with
   | zero => simp at hy; subst hy; exact ⟨z, by simpa using hz, hf⟩
   | succ k => simp at hy) (x := .ptr id [] 1 0 0) (v := .pointer (some ⟨w.heap.size, 0, none⟩)) (by
   intro g' hl
   have := Val.ptr (g := g') (w := w.alloc (.cells u.cells t)) id [] 1 0 0 w.heap.size n _ hl
   simpa using this)
 cases k with
 | struct fs =>
  simp only [mkObj, Option.some.injEq, Prod.mk.injEq] at hmk
  obtain ⟨rfl, rfl⟩ := hmk
  obtain ⟨g', h1, h2, h3, h4, h5, h6⟩ := struct rfl rfl
  exact ⟨g', h1, h2, ⟨_, h3⟩, h4, h5, fun j z hz => by simpa [posOf] using hcells j z hz⟩
 | _ =>
  simp only [mkObj, Option.some.injEq, Prod.mk.injEq] at hmk
  obtain ⟨rfl, rfl⟩ := hmk
  obtain ⟨g', h1, h2, h3, h4, h5, h6⟩ := flat rfl rfl
  exact ⟨g', h1, h2, ⟨_, h3⟩, h4, h5, fun j z hz => by simpa [posOf] using hcells j z hz⟩
def cell1 : AV → Bool
 | .agg _ => false
 | _ => true
theorem cell1_cells {c : AV} (h : cell1 c = true) : c.cells = [c] := by cases c <;> simp [cell1] at h <;> rfl
def sAlloc (T : Tab) (s : St) (d id : Nat) (t : TypeId) : Option St :=
 match T t with
 | some ti =>
  match mkObj ti.k ti.sz ti.z with
  | some (sz, es) => if s.fits (some d) = true ∧ ti.z.all cell1 = true ∧ ti.sz ≤ 16777216 ∧ 16 ≤ id then some (s.newO d id sz es (.ptr id [] sz 0 0)) else none
  | none => none
 | none => none
theorem sAlloc_ok {P : Program} {T : Tab} (hT : TabOk P T) {s s' : St} {d id : Nat} {t : TypeId} (h : sAlloc T s d id t = some s') {a : Act} {w : World} {g : Gh} (hs : Sim s a w g) :
 ∃ r w' g', (Instr.alloc t true (.tuple #[])).run P w = .ok r w' ∧ Sim s' (a.put (some d) r) w' g' ∧ Keep g w g' w' := by
 unfold sAlloc at h
 split at h
 ·rename_i ti hti
  split at h
  ·rename_i sz es hmk
   split at h
   ·rename_i hcond
    obtain rfl := Option.some.inj h
    obtain ⟨z, hz1, hz2, hz3, hz4⟩ := run_zeroValue (hT t ti hti)
    obtain ⟨g', h1, h2, _⟩ := hs.newVar (d := d) (id := id) (t := t) (u := z) hcond.2.2.2 hmk hcond.1 hz1 hz2 hcond.2.2.1 (by
     intro j c hc
     obtain ⟨u, hu, hzo⟩ := hz3 j c hc
     exact ⟨u, hu, hzo.flat, cell1_cells (List.all_eq_true.1 hcond.2.1 c (List.mem_of_getElem? hc))⟩)
    refine ⟨_, _, g', ?_, h1, h2⟩
    simp only [Instr.alloc, Sem.run_bind, hz4, Result.andThen_ok, newVar, newRow, run_newObj, Sem.run_pure, World.alloc_eq]
   ·simp at h
  ·simp at h
 ·simp at h
def sBox (T : Tab) (s : St) (d id : Nat) (t : TypeId) (y : AV) : Option St :=
 match T t with
 | some ti =>
  if isDead y = false then
   match cellsOf 0 ti.z y.cells with
   | some (cs, ps) =>
    match mkObj ti.k ti.sz cs with
    | some (sz, es) =>
     if s.fits (some d) = true ∧ ti.sz ≤ 16777216 ∧ 16 ≤ id then
      (s.newO d id sz es (.ptr id [] sz 0 0)).plugL id [] (ps.map fun p => ((posOf ti.k p.1).1, (posOf ti.k p.1).2, p.2))
     else none
    | none => none
   | none => none
  else none
 | none => none
theorem sBox_ok {P : Program} {T : Tab} (hT : TabOk P T) {s s' : St} {d id : Nat} {t : TypeId} {y : AV} (h : sBox T s d id t y = some s') {a : Act} {w : World} {g : Gh} (hs : Sim s a w g) {u : Value} (hu : Val g w y u) :
 ∃ r w' g', (Instr.box t u).run P w = .ok r w' ∧ Sim s' (a.put (some d) r) w' g' ∧ Keep g w g' w' := by
 unfold sBox at h
 split at h
 ·rename_i ti hti
  split at h
  ·rename_i hd
   split at h
   ·rename_i cs ps hcs
    split at h
    ·rename_i sz es hmk
     split at h
     ·rename_i hcond
      obtain ⟨_, _, _, _, _, _, _, hzl, _⟩ := (hT t ti hti).info
      obtain ⟨hsz, hcells⟩ := hu.cells (fun e => by rw [e] at hd; simp [isDead] at hd)
      have hvv : ∀ (j : Nat) (c : AV) (u' : Value), y.cells[j]? = some c → u.cells.toList[j]? = some u' → Val g w c u' := fun j c u' h1 h2 => hcells j c u' h1 (by simpa using h2)
      obtain ⟨k1, k2, k3⟩ := cellsOf_ok (g := g) (w := w) _ _ _ _ _ hcs u.cells.toList (by simpa using hsz) hvv
      obtain ⟨_, o2⟩ := cellsOf_one (g := g) (w := w) _ _ _ _ _ hcs u.cells.toList (by simpa using hsz) hvv
      obtain ⟨g', h1, h2, ⟨cc, h3⟩, h4, h5, h6⟩ := hs.newVar (d := d) (id := id) (t := t) (u := u) hcond.2.2 hmk hcond.1 (by omega) (by omega) hcond.2.1 (by
       intro j c hc
       obtain ⟨z, hz, hf, hc1⟩ := k2 j c hc
       exact ⟨z, by simpa using hz, hf, hc1⟩)
      obtain ⟨g2, b1, b2⟩ := Sim.plugL _ _ s' g' sz es h1 h (by simp [St.node, St.newO, lookO_setO, navG]) h3 (by
       intro i' k' tid hm hne _
       rw [List.mem_map] at hm
       obtain ⟨p, hp, e⟩ := hm
       simp only [Prod.mk.injEq] at e
       obtain ⟨rfl, rfl, rfl⟩ := e
       obtain ⟨j, u', e1, e2, e3⟩ := k3 p.1 p.2 hp
       refine ⟨u', ?_, e3.hd_loc (h4 _ _ hne)⟩
       rw [Nat.zero_add] at e1
       rw [e1]
       exact h6 j u' (by simpa using e2))
      refine ⟨_, _, g2, ?_, b1, h2.trans b2⟩
      simp only [Instr.box]
      exact run_newVar
     ·simp at h
    ·simp at h
   ·simp at h
  ·simp at h
 ·simp at h
def mkEl (k : TK) (cs : List AV) : AV :=
 match k with
 | .struct _ => .agg cs
 | _ => cs.getD 0 .dead
end Go.Proofs.YtiilnlihimdnlaaGreatDoorFw
/- Slices out of their elements; slices made. -/
namespace Go.Proofs.YtiilnlihimdnlaaGreatDoorFw
open Go Go.RowKit
set_option linter.unusedVariables false
def mkE (k : TK) (cs : List AV) : AV := if isAggK k then .agg cs else cs.getD 0 .dead
def elsOf (zs : List AV) (k : TK) : Nat → List AV → Option (List AV × List (Nat × Nat × Nat))
 | _, [] => some ([], [])
 | j, y :: r =>
  if isDead y = true then none
  else
   match cellsOf 0 zs y.cells, elsOf zs k (j + 1) r with
   | some (cs, ps), some (es, qs) => some (mkE k cs :: es, ps.map (fun p => (j, p.1, p.2)) ++ qs)
   | _, _ => none
def seqFrom : Nat → List (Nat × AV) → Bool
 | _, [] => true
 | n, (i, _) :: r => i == n && seqFrom (n + 1) r
theorem seqFrom_eq : ∀ (l : List (Nat × AV)) (n : Nat), seqFrom n l = true → l.map (·.1) = List.range' n l.length
 | [], _, _ => rfl
 | (i, x) :: r, n, h => by
  simp only [seqFrom, Bool.and_eq_true, beq_iff_eq] at h
  simp only [List.map_cons, List.length_cons, List.range'_succ]
  rw [seqFrom_eq r (n + 1) h.2, h.1]
theorem mkE_cells {k : TK} {cs : List AV} {sz : Nat} (hl : cs.length = sz) (hk : isAggK k = true ∨ sz = 1) (h1 : ∀ c ∈ cs, c.cells = [c]) : (mkE k cs).cells = cs := by
 unfold mkE
 split
 ·rfl
 ·rename_i hna
  rcases hk with hk | hk
  ·exact absurd hk hna
  ·subst hk
   match cs, hl with
   | [c], _ => exact h1 c (by simp)
theorem elsOf_ok {g : Gh} {w : World} {zs : List AV} {k : TK} {sz : Nat} (hzs : zs.length = sz) (hk : isAggK k = true ∨ sz = 1) : ∀ (ys : List AV) (j : Nat) (es : List AV) (qs : List (Nat × Nat × Nat)), elsOf zs k j ys = some (es, qs) →
 ∀ us : List Value, us.length = ys.length → (∀ (i : Nat) (c : AV) (u : Value), ys[i]? = some c → us[i]? = some u → Val g w c u) →
 es.length = ys.length ∧ (∀ u ∈ us, u.cells.size = sz) ∧ (∀ (i : Nat) (x : AV), es[i]? = some x → x.width = sz) ∧
 (∀ (i k : Nat) (x c : AV), es[i]? = some x → x.cells[k]? = some c → ∃ u z, us[i]? = some u ∧ u.cells[k]? = some z ∧ Flat g w c z) ∧
 (∀ i k tid, (i, k, tid) ∈ qs → ∃ i' u z, i = j + i' ∧ us[i']? = some u ∧ u.cells[k]? = some z ∧ k < sz ∧ Val g w (.hd tid []) z)
 | [], j, es, qs, h, us, hl, hv => by
  simp only [elsOf, Option.some.injEq, Prod.mk.injEq] at h
  obtain ⟨rfl, rfl⟩ := h
  have : us = [] := List.eq_nil_of_length_eq_zero (by simpa using hl)
  subst this
  exact ⟨rfl, fun u hu => by simp at hu, fun i x hx => by simp at hx, fun i k x c hx => by simp at hx, fun i k tid h => by simp at h⟩
 | y :: ys, j, es, qs, h, us, hl, hv => by
  cases us with
  | nil => simp at hl
  | cons u us =>
   simp only [elsOf] at h
   split at h
   ·simp at h
   ·rename_i hd
    split at h
    ·rename_i cs ps es' qs' h1 h2
     simp only [Option.some.injEq, Prod.mk.injEq] at h
     obtain ⟨rfl, rfl⟩ := h
     have hvy := hv 0 y u rfl rfl
     obtain ⟨hsz, hcells⟩ := hvy.cells (fun e => by rw [e] at hd; simp [isDead] at hd)
     have hvv : ∀ (j : Nat) (c : AV) (u' : Value), y.cells[j]? = some c → u.cells.toList[j]? = some u' → Val g w c u' := fun j c u' h1 h2 => hcells j c u' h1 (by simpa using h2)
     obtain ⟨k1, k2, k3⟩ := cellsOf_ok (g := g) (w := w) _ _ _ _ _ h1 u.cells.toList (by simpa using hsz) hvv
     obtain ⟨o1, o2⟩ := cellsOf_one (g := g) (w := w) _ _ _ _ _ h1 u.cells.toList (by simpa using hsz) hvv
     obtain ⟨i1, i2, i3, i4, i5⟩ := elsOf_ok (g := g) (w := w) hzs hk ys (j + 1) es' qs' h2 us (by simpa using hl) (fun i c u hc hu => hv (i + 1) c u (by simpa using hc) (by simpa using hu))
     have hcl : cs.length = sz := by
      have e1 := o1
      omega
     have hme := mkE_cells (k := k) hcl hk (fun c hc => by
      obtain ⟨n, hn⟩ := List.mem_iff_getElem?.1 hc
      obtain ⟨_, _, _, h⟩ := k2 n c hn
      exact h)
     refine ⟨by simp [i1], ?_, ?_, ?_, ?_⟩
     ·intro u' hu'
      rw [List.mem_cons] at hu'
      rcases hu' with rfl | hu'
      ·omega
      ·exact i2 u' hu'
     ·intro i x hx
      cases i with
      | zero => simp at hx; subst hx; rw [AV.width, hme]; exact hcl
      | succ i => exact i3 i x (by simpa using hx)
     ·intro i k' x c hx hc
      cases i with
      | zero =>
       simp at hx; subst hx
       rw [hme] at hc
       obtain ⟨z, hz, hf, _⟩ := k2 k' c hc
       exact ⟨u, z, rfl, by simpa using hz, hf⟩
      | succ i =>
       obtain ⟨u', z, e1, e2, e3⟩ := i4 i k' x c (by simpa using hx) hc
       exact ⟨u', z, by simpa using e1, e2, e3⟩
     ·intro i k' tid hm
      rw [List.mem_append, List.mem_map] at hm
      rcases hm with ⟨p, hp, e⟩ | hm
      ·simp only [Prod.mk.injEq] at e
       obtain ⟨rfl, rfl, rfl⟩ := e
       obtain ⟨i', z, e1, e2, e3⟩ := k3 p.1 p.2 hp
       refine ⟨0, u, z, rfl, rfl, ?_, ?_, e3⟩
       ·rw [e1, Nat.zero_add]; simpa using e2
       ·have := lt_of_get e2
        simp at this
        omega
      ·obtain ⟨i', u', z, e1, e2, e3⟩ := i5 i k' tid hm
       exact ⟨i' + 1, u', z, by omega, by simpa using e2, e3⟩
    ·simp at h
theorem flat_len {sz : Nat} : ∀ (us : List Value), (∀ u ∈ us, u.cells.size = sz) → (us.flatMap fun v => v.cells.toList).length = us.length * sz
 | [], _ => by simp
 | u :: us, h => by
  have := flat_len us (fun x hx => h x (by simp [hx]))
  have h0 := h u (by simp)
  simp only [List.flatMap_cons, List.length_append, Array.length_toList, this, h0, List.length_cons, Nat.add_mul, Nat.one_mul]
  omega
theorem run_build0 {P : Program} {t e : TypeId} (he1 : P.underlying t = some (.slice e)) {ei : TI} (he2 : TIOk P e ei) {w : World} :
 (Instr.buildSlice t 0 #[]).run P w = .ok (.slice (some ⟨w.heap.size, 0, none⟩) 0 0) (w.alloc (.cells #[] e)) := by
 simp [Instr.buildSlice, run_underlying he1, run_sizeOf' he2, Instr.fill, newRow, Array.range_zero']
def sBuildSl (T : Tab) (s : St) (d id : Nat) (t : TypeId) (len : Nat) (parts : List (Nat × Operand)) : Option St :=
 match elemOf' T t, evL s parts with
 | some ei, some ps =>
  if seqFrom 0 ps = true ∧ ps.length = len ∧ s.fits (some d) = true ∧ 16 ≤ id ∧ 0 < ei.sz ∧ len * ei.sz ≤ 16777216 ∧ (isAggK ei.k = true ∨ ei.sz = 1) then
   match elsOf ei.z ei.k 0 (ps.map (·.2)) with
   | some (es, qs) => (s.newO d id ei.sz es (.hd id [])).plugL id [] qs
   | none => none
  else none
 | _, _ => none
theorem sBuildSl_ok {P : Program} {T : Tab} (hT : TabOk P T) {s s' : St} {d id : Nat} {t : TypeId} {len : Nat} {parts : Array (Nat × Operand)} (h : sBuildSl T s d id t len parts.toList = some s') {a : Act} {w : World} {g : Gh} (hs : Sim s a w g) :
 ∃ r w' g', (Instr.buildSlice t len (parts.map fun (i, x) => (i, a.eval x))).run P w = .ok r w' ∧ Sim s' (a.put (some d) r) w' g' ∧ Keep g w g' w' := by
 unfold sBuildSl at h
 split at h
 ·rename_i ei ps hei hps
  obtain ⟨e, he1, he0, he2⟩ := elemOf'_ok hT hei
  split at h
  ·rename_i hcond
   obtain ⟨hseq, hlen, hd, hid, hpos, hsmall, hk⟩ := hcond
   split at h
   ·rename_i es qs hes
    obtain ⟨i, z, hi, hs1, _, hz, hz1, hz2, _⟩ := he2.info
    obtain ⟨hv1, hv2⟩ := evL_val hs parts.toList ps hps
    have hvs : ∃ us : List Value, us = parts.toList.map (fun p => a.eval p.2) := ⟨_, rfl⟩
    obtain ⟨us, hus⟩ := hvs
    have hul : us.length = ps.length := by
     have := congrArg List.length hv1
     simp at this
     rw [hus, List.length_map]; omega
    have hparts : (parts.map fun (i, x) => (i, a.eval x)).toList = (us.zipIdx 0).map fun x => (x.2, x.1) := by
     rw [Array.toList_map, hus]
     have e1 : parts.toList.map (·.1) = List.range' 0 parts.toList.length := by
      have := seqFrom_eq ps 0 hseq
      rw [← hv1] at this
      simp only [List.map_map] at this
      rw [show ps.length = parts.toList.length by rw [← hul, hus, List.length_map]] at this
      exact this
     apply List.ext_getElem?
     intro j
     simp only [List.getElem?_map, List.getElem?_zipIdx, Nat.zero_add]
     cases hj : parts.toList[j]? with
     | none => rfl
     | some p =>
      have h3 : (parts.toList.map (·.1))[j]? = some p.1 := by rw [List.getElem?_map, hj]; rfl
      rw [e1, List.getElem?_range' (lt_of_get hj)] at h3
      simp at h3
      simp [h3]
    have hvv : ∀ (j : Nat) (c : AV) (u : Value), (ps.map (·.2))[j]? = some c → us[j]? = some u → Val g w c u := by
     intro j c u hc hu
     rw [List.getElem?_map] at hc
     rw [hus, List.getElem?_map] at hu
     cases hpj : ps[j]? with
     | none => simp [hpj] at hc
     | some p =>
      cases hqj : parts.toList[j]? with
      | none => simp [hqj] at hu
      | some q =>
       rw [hpj] at hc; rw [hqj] at hu
       simp only [Option.map_some, Option.some.injEq] at hc hu
       subst hc; subst hu
       exact hv2 j p (q.1, a.eval q.2) hpj (by rw [List.getElem?_map, hqj]; rfl)
    obtain ⟨i1, i2, i3, i4, i5⟩ := elsOf_ok (g := g) (w := w) hz2 hk _ _ _ _ hes us (by simpa using hul) hvv
    have hfl := fun k => Go.Great.flat_get hpos us i2 k
    have hflen : (us.flatMap fun v => v.cells.toList).length = us.length * ei.sz := by
     exact flat_len us i2
    have hul2 : us.length = len := by omega
    have hesl : es.length = len := by rw [i1]; simp; omega
    have hrun : (Instr.buildSlice t len (parts.map fun (i, x) => (i, a.eval x))).run P w = .ok (.slice (some ⟨w.heap.size, 0, none⟩) len len) (w.alloc (.cells (us.flatMap fun v => v.cells.toList).toArray e)) := by
     by_cases hl0 : len = 0
     ·have : us = [] := List.eq_nil_of_length_eq_zero (by omega)
      have hp0 : (parts.map fun (i, x) => (i, a.eval x)).toList = [] := by rw [hparts, this]; rfl
      subst hl0
      have hp1 : (parts.map fun (i, x) => (i, a.eval x)) = #[] := Array.toList_inj.1 hp0
      rw [hp1, this]
      exact run_build0 he1 he2
     ·refine run_buildSlice w t e len _ _ i z he1 hi hz (by rw [hs1]; omega) (by rw [hs1]; exact Nat.pos_iff_ne_zero.1 (Nat.mul_pos (by omega) hpos)) ?_
      rw [hparts, hs1]
      exact Go.Great.fill_whole hpos us _ i2 (by simp [hul2])
    have hmul : ∀ i k, k < ei.sz → (i * ei.sz + k) / ei.sz = i ∧ (i * ei.sz + k) % ei.sz = k := by
     intro i k hk
     constructor
     ·rw [Nat.mul_comm, Nat.mul_add_div hpos, Nat.div_eq_of_lt hk, Nat.add_zero]
     ·rw [Nat.mul_comm, Nat.mul_add_mod, Nat.mod_eq_of_lt hk]
    obtain ⟨g', h1, h2, h3, h4, h5, h6⟩ := hs.newO (w' := w.alloc (.cells (us.flatMap fun v => v.cells.toList).toArray e)) d id ei.sz hid es len (us.flatMap fun v => v.cells.toList).toArray e hd rfl ⟨rfl, rfl, rfl⟩ (by omega)
     (by unfold maxLen; have := Nat.le_mul_of_pos_right len hpos; omega) (by simp only [List.size_toArray]; rw [hflen, hul2]) i3 (by
       intro i k x y hx hy
       obtain ⟨u, z, e1, e2, e3⟩ := i4 i k x y hx hy
       have hks : k < ei.sz := by rw [← i3 i x hx]; exact lt_of_get hy
       refine ⟨z, ?_, e3⟩
       have := hfl (i * ei.sz + k)
       rw [(hmul i k hks).1, (hmul i k hks).2, e1] at this
       simpa [e2] using this) (x := .hd id []) (v := .slice (some ⟨w.heap.size, 0, none⟩) len len) (by
       intro g' hl
       exact .hd id [] _ _ _ (by rw [hl, hesl]))
    obtain ⟨g2, b1, b2⟩ := Sim.plugL (id := id) (q := []) (b := w.heap.size) (c := len) (l := es.length) qs _ s' g' ei.sz es h1 h (by simp [St.node, St.newO, lookO_setO, navG]) h3 (by
     intro i' k' tid hm hne _
     obtain ⟨i2', u, z, e1, e2, e3, e4, e5⟩ := i5 i' k' tid hm
     rw [Nat.zero_add] at e1
     subst e1
     refine ⟨z, ?_, e5.hd_loc (h4 _ _ hne)⟩
     have := hfl (i' * ei.sz + k')
     rw [(hmul i' k' e4).1, (hmul i' k' e4).2, e2] at this
     rw [World.cell?_alloc_new]
     simpa [e3] using this)
    exact ⟨_, _, g2, hrun, b1, h2.trans b2⟩
   ·simp at h
  ·simp at h
 ·simp at h
end Go.Proofs.YtiilnlihimdnlaaGreatDoorFw
/- Slices made; what is assigned. -/
namespace Go.Proofs.YtiilnlihimdnlaaGreatDoorFw
open Go Go.RowKit
set_option linter.unusedVariables false
def sMake (T : Tab) (s : St) (d id : Nat) (t : TypeId) (x y : AV) : Option (Prop × St) :=
 match elemOf' T t, x, y with
 | some ei, .int _ l, .int _ c =>
  if s.fits (some d) = true ∧ 16 ≤ id ∧ 0 < ei.sz ∧ (isAggK ei.k = true ∨ ei.sz = 1) ∧ ei.z.all cell1 = true then
   some (0 ≤ l ∧ l ≤ c ∧ c * ei.by_ ≤ 140737488355328 ∧ c ≤ 281474976710656, s.newO d id ei.sz (List.replicate l.toNat (mkE ei.k ei.z)) (.hd id []))
  else none
 | _, _, _ => none
theorem get_madeCells {z : Array Value} {n i k : Nat} (hk : k < z.size) (hn : i * z.size + k < n) {u : Value} (hu : z[k]? = some u) : (madeCells z n)[i * z.size + k]? = some u := by
 have h1 : (i * z.size + k) % z.size = k := by rw [Nat.mul_comm, Nat.mul_add_mod, Nat.mod_eq_of_lt hk]
 simp only [madeCells, Array.getElem?_map, Array.getElem?_range, hn, if_true, Option.map_some, h1]
 rw [getElem!_pos z k hk]
 rw [Array.getElem?_eq_getElem hk] at hu
 exact hu
theorem sMake_ok {P : Program} {T : Tab} (hT : TabOk P T) {s s' : St} {d id : Nat} {t : TypeId} {x y : AV} {c : Prop} (h : sMake T s d id t x y = some (c, s')) (hc : c)
 {a : Act} {w : World} {g : Gh} (hs : Sim s a w g) {v u : Value} (hv : Val g w x v) (hu : Val g w y u) :
 ∃ r w' g', (Instr.makeSlice t v u).run P w = .ok r w' ∧ Sim s' (a.put (some d) r) w' g' ∧ Keep g w g' w' := by
 unfold sMake at h
 split at h
 ·rename_i ei kl l kc n hei
  obtain ⟨e, he1, he0, he2⟩ := elemOf'_ok hT hei
  split at h
  ·rename_i hcond
   obtain ⟨hd, hid, hpos, hk, hall⟩ := hcond
   simp only [Option.some.injEq, Prod.mk.injEq] at h
   obtain ⟨rfl, rfl⟩ := h
   obtain ⟨h0, hlc, hby, hmx⟩ := hc
   obtain rfl := hv.int_inv
   obtain rfl := hu.int_inv
   obtain ⟨i, z, hi, hs1, hb1, hz, hz1, hz2, hz3⟩ := he2.info
   have hrun := run_make (P := P) w t e i z he1 hi hz kl kc l n h0 hlc (by rw [hb1, Int.mul_comm]; omega) (by omega)
   have hme := mkE_cells (k := ei.k) hz2 hk (fun c hc => cell1_cells (List.all_eq_true.1 hall c hc))
   have hrep : ∀ (j : Nat) (x : AV), (List.replicate l.toNat (mkE ei.k ei.z))[j]? = some x → j < l.toNat ∧ x = mkE ei.k ei.z := by
    intro j x hx
    rw [List.getElem?_replicate] at hx
    split at hx
    ·rename_i hj; exact ⟨hj, (Option.some.inj hx).symm⟩
    ·simp at hx
   obtain ⟨g', h1, h2, h3, h4, h5, h6⟩ := hs.newO (w' := w.alloc (.cells (madeCells z.cells (n.toNat * i.size)) e)) d id ei.sz hid (List.replicate l.toNat (mkE ei.k ei.z)) n.toNat (madeCells z.cells (n.toNat * i.size)) e hd rfl ⟨rfl, rfl, rfl⟩
    (by simp; omega) (by unfold maxLen; omega) (by rw [size_madeCells, hs1]) (by
      intro j x hx
      obtain ⟨hj, rfl⟩ := hrep j x hx
      rw [AV.width, hme, hz2]) (by
      intro j k x y hx hy
      obtain ⟨hj, rfl⟩ := hrep j x hx
      rw [hme] at hy
      obtain ⟨u, hu, hzo⟩ := hz3 k y hy
      refine ⟨u, ?_, hzo.flat⟩
      have hks : k < z.cells.size := by rw [hz1, ← hz2]; exact lt_of_get hy
      have := get_madeCells (i := j) (n := n.toNat * i.size) hks (by
       rw [hz1, hs1]
       calc j * ei.sz + k < j * ei.sz + ei.sz := by omega
        _ = (j + 1) * ei.sz := by rw [Nat.add_mul, Nat.one_mul]
        _ ≤ n.toNat * ei.sz := Nat.mul_le_mul_right _ (by omega)) hu
      rw [hz1] at this
      exact this) (x := .hd id []) (v := .slice (some ⟨w.heap.size, 0, none⟩) l.toNat n.toNat) (by
      intro g' hl
      rw [List.length_replicate] at hl
      exact .hd id [] _ _ _ hl)
   exact ⟨_, _, g', hrun, h1, h2⟩
  ·simp at h
 ·simp at h
/-! ### an object told under another number, told no more, read-only from now on -/
def renF (id id' : Nat) : Nat → Path → Option (Nat × Path) := fun j q => if j = id then some (id', q) else if j = id' then none else some (j, q)
def St.ren (s : St) (id id' : Nat) : Option St :=
 match lookO s.objs id with
 | some (sz, es) =>
  if id ≠ id' ∧ lookO s.objs id' = none ∧ 16 ≤ id ∧ 16 ≤ id' then some { s with slots := mapS (renF id id') s.slots, objs := setO (dropO s.objs id) id' sz es } else none
 | none => none
theorem Sim.ren {s s' : St} {id id' : Nat} (h : s.ren id id' = some s') {a : Act} {w : World} {g : Gh} (hs : Sim s a w g) : ∃ g', Sim s' a w g' ∧ Keep g w g' w := by
 unfold St.ren at h
 split at h
 ·rename_i sz es hl
  split at h
  ·rename_i hc
   obtain rfl := Option.some.inj h
   refine ⟨gMove g id [] id' [], ?_, gMove_keep g id [] id' [] w (.inr hc.2.2.1) (.inr hc.2.2.2)⟩
   refine hs.turn (gMove_rd g id [] id' [] w) ?_ (hs.h.rename id id' sz es hl hc.2.1)
   intro j q j' q' hf
   simp only [renF] at hf
   split at hf
   ·rename_i e
    subst e
    simp only [Option.some.injEq, Prod.mk.injEq] at hf
    obtain ⟨rfl, rfl⟩ := hf
    have := gMove_loc_to g j [] id' [] q
    simpa using this
   ·rename_i h1
    split at hf
    ·simp at hf
    ·rename_i h2
     simp only [Option.some.injEq, Prod.mk.injEq] at hf
     obtain ⟨rfl, rfl⟩ := hf
     exact gMove_loc_else (fun r e => absurd e h2) (fun r e => absurd e h1)
  ·simp at h
 ·simp at h
end Go.Proofs.YtiilnlihimdnlaaGreatDoorFw
/- An object that is never written again. -/
namespace Go.Proofs.YtiilnlihimdnlaaGreatDoorFw
open Go Go.RowKit
set_option linter.unusedVariables false
mutual
def frzV (id rsz : Nat) (res : List AV) : AV → AV
 | .hd i q => if i = id then (match navG res rsz q with | some (sz, es) => .row .ro sz (frzL es) | none => .dead) else .hd i q
 | .ref i q sz off n => if i = id then .dead else .ref i q sz off n
 | .ptr i q sz j k => if i = id then .dead else .ptr i q sz j k
 | .agg cs => .agg (frzVL id rsz res cs)
 | .tup cs => .tup (frzVL id rsz res cs)
 | .fn g cs => .fn g (frzVL id rsz res cs)
 | .int k n => .int k n
 | .bool b => .bool b
 | .str s => .str s
 | .nilI => .nilI
 | .ifc c => .ifc c
 | .nilP => .nilP
 | .nilS => .nilS
 | .row m sz es => .row m sz es
 | .rp m cs => .rp m cs
 | .vp cs => .vp (frzVL id rsz res cs)
 | .dead => .dead
def frzVL (id rsz : Nat) (res : List AV) : List AV → List AV
 | [] => []
 | x :: r => frzV id rsz res x :: frzVL id rsz res r
end
theorem frzVL_eq (id rsz : Nat) (res : List AV) (l : List AV) : frzVL id rsz res l = l.map (frzV id rsz res) := by
 induction l with
 | nil => rfl
 | cons x r ih => simp [frzVL, ih]
def frzS (id rsz : Nat) (res : List AV) : List (Nat × AV) → List (Nat × AV)
 | [] => []
 | (t, x) :: r => (t, frzV id rsz res x) :: frzS id rsz res r
theorem lookS_frzS (id rsz : Nat) (res : List AV) (l : List (Nat × AV)) (t : Nat) : lookS (frzS id rsz res l) t = (lookS l t).map (frzV id rsz res) := by
 induction l with
 | nil => rfl
 | cons p r ih =>
  obtain ⟨u, x⟩ := p
  simp only [frzS, lookS]
  split
  ·rfl
  ·exact ih
def gFrz (g : Gh) (id : Nat) : Gh :=
 { g with
  own := fun b => match g.own b with | some (j, q) => if j = id then none else some (j, q) | none => none
  perm := fun b => g.perm b ∨ ∃ q, g.own b = some (id, q) }
theorem gFrz_rd (g : Gh) (id : Nat) (w : World) : RdKeep g w (gFrz g id) w := ⟨fun _ h => ⟨.inl h, rfl⟩, fun _ h => ⟨.inr h, rfl⟩⟩
theorem gFrz_keep {g : Gh} {id : Nat} {w : World} : Keep g w (gFrz g id) w :=
 ⟨rfl, rfl, rfl, Nat.le_refl _, fun b _ ho => ⟨rfl, by simp [gFrz, ho]⟩, fun _ h => .inl h, fun b _ h => by
  rcases h with h | ⟨q, h⟩
  ·exact .inl h
  ·exact .inr (by rw [h]; rfl), fun _ => Iff.rfl, fun _ _ _ _ => rfl, rfl⟩
theorem HSim.freeze {objs : List Obj} {w : World} {g : Gh} (h : HSim objs w g) (id : Nat) : HSim (dropO objs id) w (gFrz g id) where
 obj := fun j sz es hj => by
  rw [lookO_dropO] at hj
  split at hj
  ·simp at hj
  ·rename_i hne
   obtain ⟨v, hv⟩ := h.obj j sz es hj
   exact ⟨v, hv.stay (gFrz_rd g id w) (fun b r hb => ⟨rfl, by simp only [gFrz, hb]; rw [if_neg (fun e => hne e.symm)]⟩) (fun r => rfl)⟩
 sep := fun b p hb => by
  simp only [gFrz] at hb
  cases ho : g.own b with
  | none => rw [ho] at hb; simp at hb
  | some jq =>
   obtain ⟨j, q⟩ := jq
   rw [ho] at hb
   simp only at hb
   split at hb
   ·simp at hb
   ·rename_i hne
    have := h.sep b _ ho
    refine ⟨?_, this.2.1, this.2.2⟩
    rintro (hp | ⟨q', hp⟩)
    ·exact this.1 hp
    ·rw [ho] at hp
     simp only [Option.some.injEq, Prod.mk.injEq] at hp
     exact hne hp.1
 rdlt := h.rdlt.move (gFrz_rd g id w) fun b hb => by
  rcases hb with (hb | ⟨q, hb⟩) | hb
  ·exact h.rdlt b (.inl hb)
  ·exact (h.sep b _ hb).2.2
  ·exact h.rdlt b (.inr hb)
theorem noBoL_nav : ∀ (q : Path) (res : List AV) (rsz sz : Nat) (es : List AV), noBoL res = true → navG res rsz q = some (sz, es) → noBoL es = true
 | [], res, rsz, sz, es, h, hn => by
  simp only [navG, Option.some.injEq, Prod.mk.injEq] at hn
  obtain ⟨rfl, rfl⟩ := hn
  exact h
 | (i, k) :: q, res, rsz, sz, es, h, hn => by
  simp only [navG] at hn
  cases hx : res[i]? with
  | none => simp [hx] at hn
  | some x =>
   cases hy : x.cells[k]? with
   | none => simp [hx, hy] at hn
   | some y =>
    simp only [hx, hy] at hn
    have hb := noBo_cells (noBoL_get h hx) hy
    split at hn
    ·rename_i sz2 es2 he
     obtain rfl := Option.some.inj he
     exact noBoL_nav q es2 sz2 sz es (by simpa [noBo] using hb) hn
    ·simp at hn
theorem Val.freeze {s : St} {a : Act} {w : World} {g : Gh} (hs : Sim s a w g) {id rsz : Nat} {res : List AV} (hl : lookO s.objs id = some (rsz, res)) (hb : noBoL res = true) {x : AV} {v : Value} (h : Val g w x v) :
 Val (gFrz g id) w (frzV id rsz res x) v := by
 have hr := gFrz_rd g id w
 have hd : ∀ (q : Path) (v : Value), Val g w (.hd id q) v → Val (gFrz g id) w (frzV id rsz res (.hd id q)) v := by
  intro q v hv
  simp only [frzV, if_true]
  split
  ·rename_i sz es hn
   obtain ⟨v0, hc0⟩ := hs.h.obj id rsz res hl
   obtain ⟨v', hc⟩ := Cell.nav q [] rsz res v0 sz es hc0 hn
   simp only [List.nil_append] at hc
   obtain rfl := hc.hd hv
   have := hc.toFrz hr (by simpa [noBo] using noBoL_nav q res rsz sz es hb hn) ⟨_, _, rfl⟩ (fun i q' e b r ho => by
    obtain ⟨rfl, rfl⟩ := Pl.at.inj e
    exact ⟨.inr ⟨_, ho⟩, rfl⟩)
   exact Cell.lookRo (m := .ro) this
  ·exact .dead _
 induction h with
 | cell x v h =>
  have h' := h.still hr (fun _ _ => by simp)
  cases h <;> exact .cell _ _ h'
 | nilS => exact .nilS
 | nilP => exact .nilP
 | agg cs vs hl' h ih =>
  simp only [frzV, frzVL_eq]
  refine .agg _ _ (by simpa using hl') ?_
  intro k c u hc hu
  obtain ⟨y, hy, rfl⟩ := get_map hc
  exact ih k y u hy hu
 | tup cs vs hl' h ih =>
  simp only [frzV, frzVL_eq]
  refine .tup _ _ (by simpa using hl') ?_
  intro k c u hc hu
  obtain ⟨y, hy, rfl⟩ := get_map hc
  exact ih k y u hy hu
 | fn f' cs vs hl' h ih =>
  simp only [frzV, frzVL_eq]
  refine .fn _ _ _ (by simpa using hl') ?_
  intro k c u hc hu
  obtain ⟨y, hy, rfl⟩ := get_map hc
  exact ih k y u hy hu
 | hd i q b c n h1 =>
  by_cases e : i = id
  ·subst e; exact hd q _ (.hd i q b c n h1)
  ·simp only [frzV, if_neg e]; exact .hd _ _ b c n h1
 | hdNil i q h1 =>
  by_cases e : i = id
  ·subst e; exact hd q _ (.hdNil i q h1)
  ·simp only [frzV, if_neg e]; exact .hdNil _ _ h1
 | ref i q sz off n b cap len c a h1 hc hn ha =>
  by_cases e : i = id
  ·simp only [frzV, if_pos e]; exact .dead _
  ·simp only [frzV, if_neg e]; exact .ref _ _ _ _ _ b cap len c a h1 hc hn ha
 | refNil i q sz h1 =>
  by_cases e : i = id
  ·simp only [frzV, if_pos e]; exact .dead _
  ·simp only [frzV, if_neg e]; exact .refNil _ _ _ h1
 | ptr i q sz j k b cap len h1 =>
  by_cases e : i = id
  ·simp only [frzV, if_pos e]; exact .dead _
  ·simp only [frzV, if_neg e]; exact .ptr _ _ _ _ _ b cap len h1
 | rp m cs a us hm hs' hc ht =>
  exact .rp _ _ _ us (hr.rd hm).1 hs' (fun k y hy => hc k y hy) (fun k y hy => (ht k y hy).still hr (by intro id q; cases m <;> simp [Md.pl]))
 | vp cs a us hm hs' hc ht ih =>
  simp only [frzV, frzVL_eq]
  refine .vp _ _ us (hr.perm _ hm).1 hs' ?_ ?_
  ·intro k y hy
   obtain ⟨z, hz, rfl⟩ := get_map hy
   exact hc k z hz
  ·intro k y hy
   obtain ⟨z, hz, rfl⟩ := get_map hy
   exact ih k z hz
 | dead v => exact .dead _
def St.freeze (s : St) (id : Nat) : Option (Prop × St) :=
 match lookO s.objs id with
 | some (rsz, res) => some (noBoL res = true, { s with slots := frzS id rsz res s.slots, objs := dropO s.objs id })
 | none => none
theorem Sim.freeze {s s' : St} {id : Nat} {c : Prop} (h : s.freeze id = some (c, s')) (hc : c) {a : Act} {w : World} {g : Gh} (hs : Sim s a w g) : ∃ g', Sim s' a w g' ∧ Keep g w g' w := by
 unfold St.freeze at h
 split at h
 ·rename_i rsz res hl
  simp only [Option.some.injEq, Prod.mk.injEq] at h
  obtain ⟨rfl, rfl⟩ := h
  refine ⟨gFrz g id, ⟨hs.nt, hs.defers, ?_, hs.h.freeze id, hs.st⟩, gFrz_keep⟩
  intro t x hx
  simp only [lookS_frzS] at hx
  cases hy : lookS s.slots t with
  | none => simp [hy] at hx
  | some y =>
   rw [hy] at hx
   simp only [Option.map_some, Option.some.injEq] at hx
   subst hx
   obtain ⟨v, hv, hval⟩ := hs.slot t y hy
   exact ⟨v, hv, hval.freeze hs hl hc⟩
 ·simp at h
end Go.Proofs.YtiilnlihimdnlaaGreatDoorFw
/- Calls: what a function makes of its arguments and of the objects that are handed to it. -/
namespace Go.Proofs.YtiilnlihimdnlaaGreatDoorFw
open Go Go.RowKit
set_option linter.unusedVariables false
def PermKeep (g : Gh) (w : World) (g' : Gh) (w' : World) : Prop := ∀ b, g.perm b → g'.perm b ∧ w'.heap[b]? = w.heap[b]?
theorem Cell.stillRo {g g' : Gh} {w w' : World} (hr : PermKeep g w g' w') {p : Pl} {x : AV} {v : Value} (h : Cell g w p x v) : p = .ro → Cell g' w' .ro x v := by
 induction h with
 | int p k n => intro _; exact .int _ _ _
 | bool p b => intro _; exact .bool _ _
 | str p s => intro _; exact .str _ _
 | nilI p => intro _; exact .nilI _
 | ifc p c t v h => intro _; exact .ifc _ _ _ _ h
 | dead p v h1 => intro _; exact .dead _ _ h1
 | emp p m sz a c hm => intro _; exact .emp _ _ _ _ _ hm
 | rd p m sz es a c us hp hm hs hl hw hc ht ih =>
  intro he
  cases m with
  | own => exact hm.elim
  | bo => exact absurd he (hp rfl)
  | ro => exact .rd _ _ _ _ _ _ us (by simp) (hr _ hm).1 hs hl hw (fun i k x y hx hy => (cell?_heap (by rw [add_block]; exact (hr _ hm).2)).trans (hc i k x y hx hy)) (fun i k x y hx hy => ih i k x y hx hy rfl)
 | ownNil => intro he; simp at he
 | own => intro he; simp at he
theorem Cell.moveN {g g' : Gh} {w w' : World} (hr : PermKeep g w g' w') {p : Pl} {x : AV} {v : Value} (h : Cell g w p x v) : noBo x = true →
 ((∀ id q, p ≠ .at id q) → Cell g' w' p x v) ∧
 ∀ (id : Nat) (q : Path) (id' : Nat) (q' : Path), p = .at id q →
 (∀ b r, g.own b = some (id, q ++ r) → w'.heap[b]? = w.heap[b]? ∧ g'.own b = some (id', q' ++ r)) →
 (∀ r, g'.loc id' (q' ++ r) = g.loc id (q ++ r)) → Cell g' w' (.at id' q') x v := by
 induction h with
 | int p k n => intros; exact ⟨fun _ => .int _ _ _, fun _ _ _ _ _ _ _ => .int _ _ _⟩
 | bool p b => intros; exact ⟨fun _ => .bool _ _, fun _ _ _ _ _ _ _ => .bool _ _⟩
 | str p s => intros; exact ⟨fun _ => .str _ _, fun _ _ _ _ _ _ _ => .str _ _⟩
 | nilI p => intros; exact ⟨fun _ => .nilI _, fun _ _ _ _ _ _ _ => .nilI _⟩
 | ifc p c t v h => intros; exact ⟨fun _ => .ifc _ _ _ _ h, fun _ _ _ _ _ _ _ => .ifc _ _ _ _ h⟩
 | dead p v h1 => intros; exact ⟨fun _ => .dead _ _ h1, fun _ _ _ _ _ _ _ => .dead _ _ h1⟩
 | emp p m sz a c hm => intros; exact ⟨fun _ => .emp _ _ _ _ _ hm, fun _ _ _ _ _ _ _ => .emp _ _ _ _ _ hm⟩
 | rd p m sz es a c us hp hm hs hl hw hc ht ih =>
  intro hb
  cases m with
  | own => exact hm.elim
  | bo =>
   cases es with
   | nil => exact ⟨fun _ => .emp _ _ _ _ _ (by simp), fun _ _ _ _ _ _ _ => .emp _ _ _ _ _ (by simp)⟩
   | cons x r => simp [noBo] at hb
  | ro =>
   have hm' := hr _ hm
   have key : ∀ p', (Md.ro = .bo → p' ≠ .ro) → Cell g' w' p' (.row .ro sz es) (.slice (some a) es.length c) := fun p' hp' =>
    .rd _ _ _ _ _ _ us hp' hm'.1 hs hl hw (fun i k x y hx hy => (cell?_heap (by rw [add_block]; exact hm'.2)).trans (hc i k x y hx hy)) (fun i k x y hx hy => (ht i k x y hx hy).stillRo hr rfl)
   exact ⟨fun _ => key p hp, fun _ _ _ _ _ _ _ => key _ (by simp)⟩
 | ownNil id q sz hl =>
  intro hb
  refine ⟨fun h => absurd rfl (h _ _), ?_⟩
  intro id1 q1 id' q' he _ h2
  obtain ⟨rfl, rfl⟩ := Pl.at.inj he
  exact .ownNil _ _ _ (by have := h2 []; simp only [List.append_nil] at this; rw [this]; exact hl)
 | own id q sz es b c cur e us hl ho hb hn hm hz hw hc ht ih =>
  intro hnb
  simp only [noBo] at hnb
  refine ⟨fun h => absurd rfl (h _ _), ?_⟩
  intro id1 q1 id' q' he h1 h2
  obtain ⟨rfl, rfl⟩ := Pl.at.inj he
  have h0 := h1 b [] (by simpa using ho)
  refine .own _ _ _ _ b c cur e us ?_ (by simpa using h0.2) (by rw [h0.1]; exact hb) hn hm hz hw hc ?_
  ·have := h2 []; simp only [List.append_nil] at this; rw [this]; exact hl
  ·intro i k x y hx hy
   refine (ih i k x y hx hy (noBo_cells (noBoL_get hnb hx) hy)).2 id (q ++ [(i, k)]) id' (q' ++ [(i, k)]) rfl ?_ ?_
   ·intro b' r hb'
    have := h1 b' ((i, k) :: r) (by simpa using hb')
    simpa using this
   ·intro r
    have := h2 ((i, k) :: r)
    simpa using this
def okRef (n m id : Nat) : Bool := decide (id < n) || (decide (100 ≤ id) && decide (id < 100 + m))
mutual
def cleanR (n m : Nat) : AV → Bool
 | .hd id _ => okRef n m id
 | .ref id _ _ _ _ => okRef n m id
 | .ptr id _ _ _ _ => okRef n m id
 | .agg cs => cleanRL n m cs
 | .tup cs => cleanRL n m cs
 | .fn _ cs => cleanRL n m cs
 | .row k sz es => noBo (.row k sz es)
 | .rp k _ => decide (k = .ro)
 | .vp _ => false
 | _ => true
def cleanRL (n m : Nat) : List AV → Bool
 | [] => true
 | x :: r => cleanR n m x && cleanRL n m r
end
theorem cleanRL_get {n m : Nat} {l : List AV} (h : cleanRL n m l = true) {i : Nat} {x : AV} (hx : l[i]? = some x) : cleanR n m x = true := by
 induction l generalizing i with
 | nil => simp at hx
 | cons y r ih =>
  simp only [cleanRL, Bool.and_eq_true] at h
  cases i with
  | zero => simp at hx; rw [← hx]; exact h.1
  | succ i => exact ih h.2 (by simpa using hx)
theorem Val.backTo {g g' : Gh} {w w' : World} (hr : PermKeep g w g' w') {n m : Nat} {f : Nat → Path → Option (Nat × Path)}
 (hf : ∀ id q, okRef n m id = true → ∃ id', f id q = some (id', q) ∧ g'.loc id' q = g.loc id q) {x : AV} {v : Value} (h : Val g w x v) : cleanR n m x = true → Val g' w' (mapRef f x) v := by
 induction h with
 | cell x v h =>
  intro hb
  cases h with
  | int => exact .cell _ _ (.int _ _ _)
  | bool => exact .cell _ _ (.bool _ _)
  | str => exact .cell _ _ (.str _ _)
  | nilI => exact .cell _ _ (.nilI _)
  | ifc _ c t v h => exact .cell _ _ (.ifc _ _ _ _ h)
  | dead _ _ h1 => exact .dead _
  | emp _ k sz a c hm => exact .cell _ _ (.emp _ _ _ _ _ hm)
  | rd _ k sz es a c us hp hm hs hl hw hc ht =>
   have h := Cell.rd .bo k sz es a c us hp hm hs hl hw hc ht
   exact .cell _ _ ((h.moveN hr (by simpa only [cleanR] using hb)).1 (by simp))
 | nilS => intro _; exact .nilS
 | nilP => intro _; exact .nilP
 | agg cs vs hl h ih =>
  intro hb
  exact .agg _ _ (by rw [mapRefL_length]; exact hl) (mapRefL_agg (P := fun c u => Val g' w' c u) fun k c u hc hu => ih k c u hc hu (cleanRL_get (by simpa [cleanR] using hb) hc))
 | tup cs vs hl h ih =>
  intro hb
  exact .tup _ _ (by rw [mapRefL_length]; exact hl) (mapRefL_agg (P := fun c u => Val g' w' c u) fun k c u hc hu => ih k c u hc hu (cleanRL_get (by simpa [cleanR] using hb) hc))
 | fn f' cs vs hl h ih =>
  intro hb
  exact .fn _ _ _ (by rw [mapRefL_length]; exact hl) (mapRefL_agg (P := fun c u => Val g' w' c u) fun k c u hc hu => ih k c u hc hu (cleanRL_get (by simpa [cleanR] using hb) hc))
 | hd id q b c n' hl =>
  intro hb
  obtain ⟨id', h1, h2⟩ := hf id q (by simpa [cleanR] using hb)
  simp only [mapRef, h1]
  exact .hd _ _ b c n' (h2.trans hl)
 | hdNil id q hl =>
  intro hb
  obtain ⟨id', h1, h2⟩ := hf id q (by simpa [cleanR] using hb)
  simp only [mapRef, h1]
  exact .hdNil _ _ (h2.trans hl)
 | ref id q sz off n' b cap len c a hl hc hn ha =>
  intro hb
  obtain ⟨id', h1, h2⟩ := hf id q (by simpa [cleanR] using hb)
  simp only [mapRef, h1]
  exact .ref _ _ _ _ _ b cap len c a (h2.trans hl) hc hn ha
 | refNil id q sz hl =>
  intro hb
  obtain ⟨id', h1, h2⟩ := hf id q (by simpa [cleanR] using hb)
  simp only [mapRef, h1]
  exact .refNil _ _ _ (h2.trans hl)
 | ptr id q sz i k b cap len hl =>
  intro hb
  obtain ⟨id', h1, h2⟩ := hf id q (by simpa [cleanR] using hb)
  simp only [mapRef, h1]
  exact .ptr _ _ _ _ _ b cap len (h2.trans hl)
 | rp k cs a us hm hs hc ht =>
  intro hb
  simp only [cleanR, decide_eq_true_eq] at hb
  subst hb
  have hm' := hr _ hm
  exact .rp _ _ _ us hm'.1 hs (fun k y hy => (cell?_heap (by rw [add_block]; exact hm'.2)).trans (hc k y hy)) (fun k y hy => (ht k y hy).stillRo hr rfl)
 | vp cs a us hm hs hc ht ih => intro hb; simp [cleanR] at hb
 | dead v => intro _; exact .dead _
def CallsA (P : Program) (f : FuncId) (st : Bool) (xs : List AV) (os : List (Nat × List AV)) (R : AV → List (Nat × List AV) → List (Nat × List AV) → Prop) : Prop :=
 ∀ (vs : Array Value) (w : World) (g : Gh), g.st = st → vs.size = xs.length → (∀ (k : Nat) (x : AV) (u : Value), xs[k]? = some x → vs[k]? = some u → Val g w x u) →
  (∀ b p, g.own b = some p → ¬ g.perm b ∧ ¬ g.bor b ∧ b < w.heap.size) → RdOk g w →
  (∀ i sz es, os[i]? = some (sz, es) → ∃ v, Cell g w (.at i []) (.row .own sz es) v) →
  Calls P f vs w fun e w' => ∃ v r os' ros g', e = .returned v ∧ R r os' ros ∧ Keep g w g' w' ∧ os'.length = os.length ∧ ros.length ≤ 64 ∧
   (∀ b p, g'.own b = some p → ¬ g'.perm b ∧ ¬ g'.bor b ∧ b < w'.heap.size) ∧ RdOk g' w' ∧
   (∀ i sz es, os'[i]? = some (sz, es) → noBoL es = true ∧ ∃ v, Cell g' w' (.at i []) (.row .own sz es) v) ∧
   (∀ i sz es, ros[i]? = some (sz, es) → noBoL es = true ∧ ∃ v, Cell g' w' (.at (100 + i) []) (.row .own sz es) v) ∧
   cleanR os.length ros.length r = true ∧ Val g' w' r v
end Go.Proofs.YtiilnlihimdnlaaGreatDoorFw
