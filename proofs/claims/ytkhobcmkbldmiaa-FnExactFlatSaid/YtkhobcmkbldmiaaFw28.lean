/- Further operations; regions by computing. -/
import Derived.Test.YtkhobcmkbldmiaaFw27
import Derived.Laws.BytesArg
namespace Go.Proofs.YtkhobcmkbldmiaaFw
open Go Go.RowKit
set_option linter.unusedVariables false

theorem Cell.int_inv {g : Gh} {w : World} {p : Pl} {k : IntKind} {n : Int} {u : Value} (h : Cell g w p (.int k n) u) : u = .int k n := by cases h; rfl

def isU8 : AV → Bool
  | .int .u8 _ => true
  | _ => false
def u8Of : AV → UInt8
  | .int _ n => UInt8.ofNat n.toNat
  | _ => 0
def allU8 : List AV → Bool
  | [] => true
  | x :: r => isU8 x && allU8 r
def u8L : List AV → List UInt8
  | [] => []
  | x :: r => u8Of x :: u8L r
def numOf : AV → Int
  | .int _ n => n
  | _ => 0

theorem u8L_eq (l : List AV) : u8L l = l.map u8Of := by induction l <;> simp [u8L, *]

theorem allU8_get : ∀ {l : List AV}, allU8 l = true → ∀ {i : Nat} {x : AV}, l[i]? = some x → ∃ n, x = .int .u8 n
  | [], _, i, x, h => by simp at h
  | y :: r, hl, i, x, h => by
    simp only [allU8, Bool.and_eq_true] at hl
    cases i with
    | zero =>
      simp at h; subst h
      have := hl.1
      unfold isU8 at this
      split at this
      · exact ⟨_, rfl⟩
      · simp at this
    | succ i => exact allU8_get hl.2 (by simpa using h)

/-- 'string(b)' of bytes. -/
def vBytes (T : Tab) (s : St) (src dst : TypeId) (x : AV) : Option AV :=
  if byteT T src = true ∧ strT T dst = true then
    match x with
    | .hd id q =>
      match s.node id q with
      | some (sz, es) => if sz = 1 ∧ allU8 es = true then some (.str (u8L es)) else none
      | none => none
    | .row m sz es => if sz = 1 ∧ allU8 es = true then some (.str (u8L es)) else none
    | .nilS => some (.str [])
    | _ => none
  else none

theorem byteT_ok {P : Program} {T : Tab} (hT : TabOk P T) {t : TypeId} (h : byteT T t = true) : ∃ e, P.underlying t = some (.slice e) ∧ P.underlying e = some (.int .u8) := by
  unfold byteT at h
  split at h
  · rename_i e sz by_ z he
    split at h
    · rename_i by2 z2 he2
      exact ⟨e, (hT t _ he).kind, (hT e _ he2).kind⟩
    · simp at h
  · simp at h

theorem vBytes_cells {P : Program} {w : World} {src dst e : TypeId} (hs : P.underlying src = some (.slice e)) (he : P.underlying e = some (.int .u8)) (hd : P.underlying dst = some .string) {a : Addr} {c : Nat} {es : List AV} (hsp : a.spot = none)
    (hu : allU8 es = true) (hc : ∀ i, i < es.length → w.cell? (a.add i) = some (.int .u8 (numOf (es.getD i .dead)))) : (convert src dst (.slice (some a) es.length c)).run P w = .ok (.string ⟨⟨u8L es⟩⟩) w := by
  obtain ⟨b, o, sp⟩ := a
  simp only at hsp
  subst hsp
  have h := run_convert_bytes_arg (P := P) w src e hs he b o es.length c (es.map numOf) (by simp) (by
    intro i hi
    have := hc i hi
    rw [add_lit] at this
    rw [this]
    congr 2
    simp [List.getD_eq_getElem?_getD, List.getElem?_map, List.getElem?_eq_getElem hi]) dst hd
  rw [h]
  congr 2
  unfold strOfNums
  congr 2
  rw [u8L_eq, List.map_map]
  apply List.map_congr_left
  intro x hx
  obtain ⟨i, hi⟩ := List.mem_iff_getElem?.1 hx
  obtain ⟨n, rfl⟩ := allU8_get hu hi
  rfl

theorem vBytes_ok {P : Program} {T : Tab} (hT : TabOk P T) {s : St} {src dst : TypeId} {x y : AV} (h : vBytes T s src dst x = some y) {a : Act} {w : World} {g : Gh} (hs : Sim s a w g) {v : Value} (hv : Val g w x v) :
    ∃ r, (convert src dst v).run P w = .ok r w ∧ Val g w y r := by
  unfold vBytes at h
  split at h
  · rename_i hb
    obtain ⟨e, h1, h2⟩ := byteT_ok hT hb.1
    have h3 := strT_ok hT hb.2
    split at h
    · rename_i id q
      split at h
      · rename_i sz es hn
        split at h
        · rename_i hc
          obtain ⟨rfl, hu⟩ := hc
          obtain rfl := Option.some.inj h
          obtain ⟨v', hnode⟩ := hs.node hn
          obtain rfl := hnode.hd hv
          cases hes : es with
          | nil =>
            subst hes
            obtain ⟨ad, c, rfl⟩ := hnode.len
            refine ⟨.string ⟨⟨[]⟩⟩, ?_, Val.mkStr _ _ _⟩
            cases ad with
            | none => rw [run_convert_bytes_nil w src e h1 h2 _ _ dst h3]; rfl
            | some ad =>
              rcases hv.hd_inv with ⟨b, c', n, hl, he⟩ | ⟨hl, he⟩
              · simp only [Value.slice.injEq, Option.some.injEq] at he
                obtain ⟨rfl, rfl, rfl⟩ := he
                exact vBytes_cells (es := []) h1 h2 h3 rfl rfl (fun i hi => by simp at hi)
              · simp at he
          | cons x0 r0 =>
            rw [← hes]
            have hx : es[0]? = some x0 := by rw [hes]; rfl
            obtain ⟨b, c, cur, ee, us, rfl, hl, ho, hbk, hlc, hcm, hz, hw, hcc, ht⟩ := hnode.node hx
            refine ⟨_, vBytes_cells h1 h2 h3 rfl hu ?_, Val.mkStr _ _ _⟩
            intro i hi
            obtain ⟨n, hn'⟩ := allU8_get hu (List.getElem?_eq_getElem hi)
            have hget := List.getElem?_eq_getElem hi
            have hc0 := hcc i 0 _ _ hget (show es[i].cells[0]? = some es[i] by rw [hn']; rfl)
            have ht0 := ht i 0 _ _ hget (show es[i].cells[0]? = some es[i] by rw [hn']; rfl)
            simp only [Nat.mul_one, Nat.add_zero] at hc0 ht0
            rw [cell?_own hbk hc0]
            rw [hn'] at ht0
            simp only [List.getD_eq_getElem?_getD, hget, Option.getD_some, hn', numOf]
            exact congrArg some ht0.int_inv
        · simp at h
      · simp at h
    · rename_i m sz es
      split at h
      · rename_i hc
        obtain ⟨rfl, hu⟩ := hc
        obtain rfl := Option.some.inj h
        rcases hv.row_inv with ⟨ad, c, rfl, rfl, _⟩ | ⟨ad, c, us, rfl, hm, hsp, hl, hw, hcc, ht⟩
        · refine ⟨.string ⟨⟨[]⟩⟩, ?_, Val.mkStr _ _ _⟩
          cases ad with
          | none => rw [run_convert_bytes_nil w src e h1 h2 _ _ dst h3]; rfl
          | some ad =>
            rw [run_convert_bytes_string w src dst e _ _ _ h1 h2 h3]
            have hl : (loadCells ad 0).run P w = .ok (([] : List Int).map (Value.int .u8)).toArray w := by simpa using run_loadCells_list (P := P) w ad [] (fun j v hj => by simp at hj)
            rw [run_bytesToString w ad 0 c [] hl]
            rfl
        · refine ⟨_, vBytes_cells h1 h2 h3 hsp hu ?_, Val.mkStr _ _ _⟩
          intro i hi
          obtain ⟨n, hn'⟩ := allU8_get hu (List.getElem?_eq_getElem hi)
          have hget := List.getElem?_eq_getElem hi
          have hc0 := hcc i 0 _ _ hget (show es[i].cells[0]? = some es[i] by rw [hn']; rfl)
          have ht0 := ht i 0 _ _ hget (show es[i].cells[0]? = some es[i] by rw [hn']; rfl)
          simp only [Nat.mul_one, Nat.add_zero] at hc0 ht0
          rw [hc0]
          rw [hn'] at ht0
          simp only [List.getD_eq_getElem?_getD, hget, Option.getD_some, hn', numOf]
          exact congrArg some ht0.int_inv
      · simp at h
    · obtain rfl := Option.some.inj h
      cases hv with
      | cell _ _ hh => cases hh
      | nilS =>
        refine ⟨.string ⟨⟨[]⟩⟩, ?_, Val.mkStr _ _ _⟩
        rw [run_convert_bytes_nil w src e h1 h2 _ _ dst h3]; rfl
    · simp at h
  · simp at h

/-- A variable that is never written again: its values are told, views among them. -/
def gPerm (g : Gh) (b : Nat) : Gh := { g with perm := fun b' => g.perm b' ∨ b' = b }

theorem vbox_ok {P : Program} {s : St} {t : TypeId} {y : AV} {d : Nat} (hd : s.fits (some d) = true) (hy : isDead y = false) {a : Act} {w : World} {g : Gh} (hs : Sim s a w g) {u : Value} (hu : Val g w y u) :
    ∃ r w' g', (Instr.box t u).run P w = .ok r w' ∧ Sim (s.put (some d) (.vp y.cells)) (a.put (some d) r) w' g' ∧ Keep g w g' w' := by
  have hne : y ≠ .dead := by rintro rfl; simp [isDead] at hy
  obtain ⟨hsz, hcell⟩ := hu.cells hne
  have hbox : (Instr.box t u).run P w = .ok (.pointer (some ⟨w.heap.size, 0, none⟩)) (w.alloc (.cells u.cells t)) := by
    unfold Instr.box
    exact run_newVar
  have hheap : (w.alloc (.cells u.cells t)).heap = w.heap.push (.cells u.cells t (0, 0)) := rfl
  have hold : ∀ k, k < w.heap.size → (w.alloc (.cells u.cells t)).heap[k]? = w.heap[k]? := fun k hk => by
    rw [hheap, Array.getElem?_push, if_neg (by omega)]
  have hown : g.own w.heap.size = none := by
    cases h : g.own w.heap.size with
    | none => rfl
    | some p => have := (hs.h.sep _ _ h).2.2; omega
  have hr : RdKeep g w (gPerm g w.heap.size) (w.alloc (.cells u.cells t)) :=
    ⟨fun b hb => ⟨.inl hb, hold b (hs.h.rdlt b (.inl hb))⟩, fun b hb => ⟨.inr hb, hold b (hs.h.rdlt b (.inr hb))⟩⟩
  have hsize : (w.alloc (.cells u.cells t)).heap.size = w.heap.size + 1 := by rw [hheap]; simp
  have hat : (w.alloc (.cells u.cells t)).heap[w.heap.size]? = some (.cells u.cells t (0, 0)) := by rw [hheap]; simp
  refine ⟨_, _, gPerm g w.heap.size, hbox, ?_, ?_⟩
  · have hH : HSim s.objs (w.alloc (.cells u.cells t)) (gPerm g w.heap.size) := by
      refine ⟨?_, ?_, ?_⟩
      · intro id sz es hl
        obtain ⟨v, hv⟩ := hs.h.obj id sz es hl
        exact ⟨v, hv.stay hr (fun b r hb => ⟨hold b (hs.h.sep b _ hb).2.2, hb⟩) (fun _ => rfl)⟩
      · intro b p hb
        have h3 := hs.h.sep b p hb
        refine ⟨?_, h3.2.1, by omega⟩
        rintro (h4 | h4)
        · exact h3.1 h4
        · subst h4; have : g.own w.heap.size = some p := hb; rw [hown] at this; simp at this
      · intro b hb
        rcases hb with (hb | hb) | hb
        · have := hs.h.rdlt b (.inl hb); omega
        · omega
        · have := hs.h.rdlt b (.inr hb); omega
    refine (hs.turnSame hr (fun _ _ => rfl) hH).put (d := some d) hd ?_
    refine .vp _ _ (fun k => u.cells.getD k undef) (.inr rfl) rfl ?_ ?_
    · intro k z hz
      have hlt : k < u.cells.size := by rw [hsz]; exact lt_of_get hz
      rw [add_lit, Nat.zero_add, cell_of_block hat]
      simp [Array.getD_eq_getD_getElem?, Array.getElem?_eq_getElem hlt]
    · intro k z hz
      have hlt : k < u.cells.size := by rw [hsz]; exact lt_of_get hz
      have h5 := hcell k z u.cells[k] hz (Array.getElem?_eq_getElem hlt)
      simp only [Array.getD_eq_getD_getElem?, Array.getElem?_eq_getElem hlt, Option.getD_some]
      exact h5.same hr (fun _ _ => rfl)
  · exact ⟨rfl, rfl, rfl, by omega, fun b hb ho => ⟨hold b hb, ho⟩, fun _ h => .inl h, fun b hb h => by
      rcases h with h | h
      · exact .inl h
      · omega, fun _ => Iff.rfl, fun _ _ _ _ => rfl, rfl⟩

/-- An operation that calls no function of the program's: the former ones and these. -/
def bop (T : Tab) (o : Oper) (s : St) : Option (Prop × St) :=
  match o.op with
  | .pick c x y =>
    if s.fits o.dst = true then
      match s.ev c with
      | some (.bool true) => (s.ev x).map fun z => (True, s.put o.dst z)
      | some (.bool false) => (s.ev y).map fun z => (True, s.put o.dst z)
      | _ => none
    else none
  | .convert t u x =>
    match T t with
    | some { k := .slice _, .. } => if s.fits o.dst = true then (match s.ev x with | some z => (vBytes T s t u z).map fun y => (True, s.put o.dst y) | none => none) else none
    | _ => aop T o s
  | .box _ x =>
    match aop T o s with
    | some r => some r
    | none =>
      match s.ev x with
      | some y => if s.fits o.dst = true ∧ o.dst.isSome = true ∧ isDead y = false then some (True, s.put o.dst (.vp y.cells)) else none
      | none => none
  | _ => aop T o s

theorem bop_ok {P : Program} {T : Tab} (hT : TabOk P T) {o : Oper} {s s' : St} {p : Prop} (h : bop T o s = some (p, s')) (hp : p) : StepOk P o s s' := by
  unfold bop at h
  split at h
  · rename_i c x y hop
    split at h
    · rename_i hd
      split at h
      · rename_i hc
        simp only [Option.map_eq_some_iff, Prod.mk.injEq] at h
        obtain ⟨z, hz, rfl, rfl⟩ := h
        intro a w g hs
        have hv := (hs.ev hc).bool_inv
        exact ⟨_, _, w, g, by unfold execOp; simp only [hop, hv, asBool, pure_bind, if_true, Sem.run_pure], .inl ⟨_, rfl, rfl⟩, hs.put hd (hs.ev hz), Keep.refl g w⟩
      · rename_i hc
        simp only [Option.map_eq_some_iff, Prod.mk.injEq] at h
        obtain ⟨z, hz, rfl, rfl⟩ := h
        intro a w g hs
        have hv := (hs.ev hc).bool_inv
        exact ⟨_, _, w, g, by unfold execOp; simp only [hop, hv, asBool, pure_bind, if_false, Bool.false_eq_true, Sem.run_pure], .inl ⟨_, rfl, rfl⟩, hs.put hd (hs.ev hz), Keep.refl g w⟩
      · simp at h
    · simp at h
  · rename_i t u x hop
    split at h
    · split at h
      · rename_i hd
        split at h
        · rename_i z hz
          simp only [Option.map_eq_some_iff, Prod.mk.injEq] at h
          obtain ⟨y, hy, rfl, rfl⟩ := h
          intro a w g hs
          obtain ⟨r, hr, hval⟩ := vBytes_ok (P := P) hT hy hs (hs.ev hz)
          exact ⟨_, _, w, g, exec_v (by unfold execOp; simp only [hop]) hr, .inl ⟨_, rfl, rfl⟩, hs.put hd hval, Keep.refl g w⟩
        · simp at h
      · simp at h
    · exact aop_ok hT h hp
  · rename_i t x hop
    split at h
    · rename_i r hr
      obtain rfl := Option.some.inj h
      exact aop_ok hT hr hp
    · split at h
      · rename_i y hy
        split at h
        · rename_i hc
          simp only [Option.some.injEq, Prod.mk.injEq] at h
          obtain ⟨rfl, rfl⟩ := h
          obtain ⟨hf, hdd, hdead⟩ := hc
          obtain ⟨d, hdst⟩ := Option.isSome_iff_exists.1 hdd
          intro a w g hs
          rw [hdst] at hf
          obtain ⟨r, w', g', hr, h1, h2⟩ := vbox_ok (P := P) (t := t) hf hdead hs (hs.ev hy)
          exact ⟨_, _, w', g', exec_v (by unfold execOp; simp only [hop]) hr, .inl ⟨_, rfl, rfl⟩, by rw [hdst]; exact h1, h2⟩
        · simp at h
      · simp at h
  · exact aop_ok hT h hp

/-! ### a tree is taken out ahead of an operation that moves it -/
def detF (id : Nat) (p : Path) (tid : Nat) : Nat → Path → Option (Nat × Path) := fun j r =>
  if j = tid then none
  else if j = id then (match stripP p r with | some r' => some (tid, r') | none => some (j, r))
  else some (j, r)

def St.detach (s : St) (id : Nat) (q : Path) (i k tid : Nat) : Option St :=
  if tid < 16 ∨ (s.st = true ∧ id < 16) then none
  else
    match lookO s.objs id, lookO s.objs tid with
    | some (rsz, res), none =>
      match navG res rsz q with
      | some (sz, es) =>
        match es[i]? with
        | some x =>
          match x.cells[k]? with
          | some (.row .own tsz tes) =>
            some { s with slots := mapS (detF id (q ++ [(i, k)]) tid) s.slots, objs := setO (setO s.objs id rsz (navSet res q (es.set i (x.setC k .dead)))) tid tsz tes }
          | _ => none
        | none => none
      | none => none
    | _, _ => none

def GhostSt (s s' : St) : Prop := ∀ a w g, Sim s a w g → ∃ g', Sim s' a w g' ∧ Keep g w g' w

theorem GhostSt.refl (s : St) : GhostSt s s := fun a w g hs => ⟨g, hs, Keep.refl g w⟩
theorem GhostSt.trans {s s1 s2 : St} (h : GhostSt s s1) (k : GhostSt s1 s2) : GhostSt s s2 := by
  intro a w g hs
  obtain ⟨g1, hs1, hk1⟩ := h a w g hs
  obtain ⟨g2, hs2, hk2⟩ := k a w g1 hs1
  exact ⟨g2, hs2, hk1.trans hk2⟩

theorem detach_ok {s s' : St} {id : Nat} {q : Path} {i k tid : Nat} (h : s.detach id q i k tid = some s') : GhostSt s s' := by
  intro a w g hs
  unfold St.detach at h
  split at h
  · simp at h
  rename_i hc
  split at h
  · rename_i rsz res hl ht
    split at h
    · rename_i sz es hn
      split at h
      · rename_i x hx
        split at h
        · rename_i tsz tes hy
          obtain rfl := Option.some.inj h
          have hH := hs.h.detach hl hn hx hy ht
          refine ⟨gMove g id (q ++ [(i, k)]) tid [], hs.turn (gMove_rd g id (q ++ [(i, k)]) tid [] w) ?_ hH, gMove_keep g id _ tid [] w ?_ (.inr (by omega))⟩
          · intro j r j' r' hf
            simp only [detF] at hf
            split at hf
            · simp at hf
            · rename_i hne1
              split at hf
              · rename_i e
                subst e
                split at hf
                · rename_i r0 hs0
                  simp only [Option.some.injEq, Prod.mk.injEq] at hf
                  obtain ⟨rfl, rfl⟩ := hf
                  rw [stripP_some hs0]
                  exact gMove_loc_to g _ _ _ [] r0
                · rename_i hs0
                  simp only [Option.some.injEq, Prod.mk.injEq] at hf
                  obtain ⟨rfl, rfl⟩ := hf
                  exact gMove_loc_else (fun _ e => absurd e hne1) (fun r _ => stripP_none hs0 r)
              · rename_i hne2
                simp only [Option.some.injEq, Prod.mk.injEq] at hf
                obtain ⟨rfl, rfl⟩ := hf
                exact gMove_loc_else (fun _ e => absurd e hne1) (fun _ e => absurd e hne2)
          · cases hst : g.st with
            | false => exact .inl ⟨by simp, rfl⟩
            | true =>
              refine .inr ?_
              rcases Nat.lt_or_ge id 16 with h16 | h16
              · exact absurd (.inr ⟨hs.st.trans hst, h16⟩) hc
              · exact h16
        · simp at h
      · simp at h
    · simp at h
  · simp at h

/-- The rows inside objects that a value views: object, way, element, cell. -/
def lastP : Path → Option (Path × Nat × Nat)
  | [] => none
  | [(i, k)] => some ([], i, k)
  | x :: r => (lastP r).map fun p => (x :: p.1, p.2)

def viewsOf : List AV → List (Nat × Path × Nat × Nat)
  | [] => []
  | .hd id q :: r => (match lastP q with | some p => (id, p) :: viewsOf r | none => viewsOf r)
  | _ :: r => viewsOf r

def preD (s : St) : List (Nat × Path × Nat × Nat) → Nat → Option St
  | [], _ => some s
  | (id, q, i, k) :: r, n =>
    match s.detach id q i k n with
    | some s' => preD s' r (n + 1)
    | none => none

theorem preD_ok : ∀ {l : List (Nat × Path × Nat × Nat)} {s s' : St} {n : Nat}, preD s l n = some s' → GhostSt s s'
  | [], s, s', n, h => by simp only [preD, Option.some.injEq] at h; subst h; exact GhostSt.refl _
  | (id, q, i, k) :: r, s, s', n, h => by
    simp only [preD] at h
    split at h
    · rename_i s1 h1; exact (detach_ok h1).trans (preD_ok h)
    · simp at h

def evCells (s : St) : List (Nat × Operand) → List AV
  | [] => []
  | (_, x) :: r => (match s.ev x with | some y => y.cells | none => []) ++ evCells s r

/-- What an operation moves. -/
def movesOf (s : St) (o : Oper) : List (Nat × Path × Nat × Nat) × Nat :=
  match o.op with
  | .store _ _ y => (match s.ev y with | some v => (viewsOf v.cells, 20) | none => ([], 20))
  | .buildSlice _ _ ps => (viewsOf (evCells s ps.toList), 20)
  | .call c =>
    (match c.callee with
     | .builtin .append => (match c.args.toList with | x :: _ => (match s.ev x with | some v => (viewsOf v.cells, idOf o.dst + 200) | none => ([], 20)) | [] => ([], 20))
     | _ => ([], 20))
  | _ => ([], 20)

def cop (T : Tab) (o : Oper) (s : St) : Option (Prop × St) :=
  match movesOf s o with
  | ([], _) => bop T o s
  | (l, n) => match preD s l n with | some s1 => bop T o s1 | none => none

theorem cop_ok {P : Program} {T : Tab} (hT : TabOk P T) {o : Oper} {s s' : St} {p : Prop} (h : cop T o s = some (p, s')) (hp : p) : StepOk P o s s' := by
  unfold cop at h
  split at h
  · exact bop_ok hT h hp
  · split at h
    · rename_i s1 h1
      intro a w g hs
      obtain ⟨g1, hs1, hk1⟩ := preD_ok h1 a w g hs
      obtain ⟨r, a', w', g', k1, k2, k3, k4⟩ := bop_ok hT h hp a w g1 hs1
      exact ⟨r, a', w', g', k1, k2, k3, hk1.trans k4⟩
    · simp at h

/-- Is it a call of a function of the program's? -/
def isCallF (o : Oper) : Bool :=
  match o.op with
  | .call c => (match c.callee with | .builtin _ => false | _ => true)
  | _ => false

/-- What operations do, up to the next call of a function of the program's. -/
def goA (T : Tab) (all : Array Oper) : List Oper → St → (List Oper → St → Prop) → Prop
  | [], s, J => J [] s
  | o :: os, s, J =>
    match wantA all s o with
    | some true =>
      if isCallF o = true then J (o :: os) s
      else
        match cop T o s with
        | some (p, s') => p ∧ goA T all os s' J
        | none => False
    | some false => s.fits o.dst = true ∧ goA T all os (s.put o.dst .dead) J
    | none => J (o :: os) s

theorem goA_ok {P : Program} {T : Tab} (hT : TabOk P T) {all : Array Oper} {K : St → Prop} : ∀ {os : List Oper} {s : St}, goA T all os s (fun os' s' => RunsL P all os' s' K) → RunsL P all os s K
  | [], s, h => h
  | o :: os, s, h => by
    simp only [goA] at h
    split at h
    · rename_i hw
      split at h
      · exact h
      · split at h
        · rename_i p s' hb
          exact RunsL.step hw (cop_ok hT hb h.1) (goA_ok hT h.2)
        · exact h.elim
    · rename_i hw
      exact RunsL.skip hw h.1 (goA_ok hT h.2)
    · exact h

theorem RunsL.go {P : Program} {T : Tab} (hT : TabOk P T) {all : Array Oper} {os : List Oper} {s : St} {K : St → Prop} (h : ∀ J : List Oper → St → Prop, (∀ os' s', RunsL P all os' s' K → J os' s') → goA T all os s J) : RunsL P all os s K :=
  goA_ok hT (h _ fun _ _ h => h)

theorem RunsA.sr {P : Program} {T : Tab} (hT : TabOk P T) {id : Nat} {all : Array Oper} {y : Code} {s : St} {Q : AE → St → Prop}
    (h : ∀ J : List Oper → St → Prop, (∀ os' s', RunsL P all os' s' (fun s2 => RunsA P y s2 Q) → J os' s') → goA T all all.toList s J) : RunsA P (.seq (.region id all false) y) s Q :=
  RunsA.seq fun K hK => RunsA.region (K := K) (RunsL.go hT fun J hJ => h J fun os' s' hr => hJ os' s' (fun a w g hs Q' hQ => hr a w g hs Q' fun a' w' g' s2 h1 h2 h3 => hQ a' w' g' s2 h1 h2 (hK _ h3))) fun _ h => h

theorem RunsA.rg {P : Program} {T : Tab} (hT : TabOk P T) {id : Nat} {all : Array Oper} {s : St} {Q : AE → St → Prop}
    (h : ∀ J : List Oper → St → Prop, (∀ os' s', RunsL P all os' s' (Q .normal) → J os' s') → goA T all all.toList s J) : RunsA P (.region id all false) s Q :=
  RunsA.region (K := Q .normal) (RunsL.go hT h) fun _ h => h

end Go.Proofs.YtkhobcmkbldmiaaFw
