/- One operation on the abstract state. -/
import Derived.Test.YtkhobcmkbldmiaaFw22
namespace Go.Proofs.YtkhobcmkbldmiaaFw
open Go Go.RowKit
set_option linter.unusedVariables false

def idOf : Option Nat → Nat
  | some d => (d + 1) * 256
  | none => 128

theorem idOf_le (d : Option Nat) : 16 ≤ idOf d := by cases d <;> simp [idOf]; omega

def tiFields (T : Tab) (t : TypeId) : Bool :=
  match T t with
  | some ti => (match ti.k with | .struct fs => fieldsTold T fs | _ => true)
  | none => false

/-- What is assigned: an empty slice becomes an object of its own. -/
def sAssign (T : Tab) (s : St) (d : Option Nat) (t : TypeId) (y : AV) : St :=
  match y, d with
  | .nilS, some d =>
    (match elemOf' T t with
     | some ei => s.newO d (idOf (some d)) ei.sz [] (.hd (idOf (some d)) [])
     | none => s.put (some d) .nilS)
  | y, d => s.put d y

theorem sAssign_ok {T : Tab} {s : St} {d : Option Nat} {t : TypeId} {y : AV} (hd : s.fits d = true) {a : Act} {w : World} {g : Gh} (hs : Sim s a w g) {v : Value} (hv : Val g w y v) :
    ∃ g', Sim (sAssign T s d t y) (a.put d v) w g' ∧ Keep g w g' w := by
  unfold sAssign
  split
  · rename_i d
    have : v = .slice none 0 0 := by
      cases hv with
      | cell _ _ h => cases h
      | nilS => rfl
    subst this
    split
    · rename_i ei _
      exact hs.newNil d _ ei.sz (idOf_le _) hd
    · exact ⟨g, hs.put hd hv, Keep.refl g w⟩
  · exact ⟨g, hs.put hd hv, Keep.refl g w⟩

def mx (x y : AV) : Option AV :=
  match x, y with
  | .int k a, .int _ b => some (.int k (if b > a then b else a))
  | _, _ => none

def mn (x y : AV) : Option AV :=
  match x, y with
  | .int k a, .int _ b => some (.int k (if b < a then b else a))
  | _, _ => none

/-- A call of what the language has built in. -/
def aBuiltin (T : Tab) (o : Oper) (b : Builtin) (c : Call) (s : St) : Option (Prop × St) :=
  match b, c.args.toList, c.argTypes.toList with
  | .len, [x], [t] => (match s.ev x with | some x => (vLenB T s t x).map fun y => (True, s.put o.dst y) | none => none)
  | .append, [x, y], [t1, t2] =>
    (match s.ev x, s.ev y, o.dst with
     | some x, some y, some d => sAppend T s d (match x with | .hd i [] => i | _ => idOf o.dst) t1 t2 x y
     | _, _, _ => none)
  | .max, [x, y], _ => (match s.ev x, s.ev y with | some x, some y => (mx x y).map fun z => (True, s.put o.dst z) | _, _ => none)
  | .min, [x, y], _ => (match s.ev x, s.ev y with | some x, some y => (mn x y).map fun z => (True, s.put o.dst z) | _, _ => none)
  | _, _, _ => none

def evO (s : St) : Option Operand → Option (Option AV)
  | none => some none
  | some x => (s.ev x).map some

/-- An operation that calls no function of the program's. -/
def aop (T : Tab) (o : Oper) (s : St) : Option (Prop × St) :=
  if s.fits o.dst = false then none
  else
    match o.op with
    | .move x => (s.ev x).map fun y => (True, s.put o.dst y)
    | .assign x => (s.ev x).map fun y => (True, sAssign T s o.dst o.type y)
    | .alloc t => (match o.dst with | some d => (sAlloc T s d (idOf (some d)) t).map fun s' => (True, s') | none => none)
    | .box t x => (match o.dst, s.ev x with | some d, some y => (sBox T s d (idOf (some d)) t y).map fun s' => (True, s') | _, _ => none)
    | .build t ps => if tiFields T t = true then (vBuild T s t ps.toList).map fun y => (True, s.put o.dst y) else none
    | .buildSlice t n ps => (match o.dst with | some d => (sBuildSl T s d (idOf (some d)) t n ps.toList).map fun s' => (True, s') | none => none)
    | .load t x => (match s.ev x with | some x => (vLoad T s t x).map fun y => (True, s.put o.dst y) | none => none)
    | .store t x y => (match o.dst, s.ev x, s.ev y with | none, some x, some y => (sStore T s t x y).map fun s' => (True, s') | _, _, _ => none)
    | .nilCheck x => (match s.ev x with | some x => (vNilCheck x).map fun y => (True, s.put o.dst y) | none => none)
    | .binOp op t x y _ => (match s.ev x, s.ev y with | some x, some y => (abin T t op x y).map fun p => (p.1, s.put o.dst p.2) | _, _ => none)
    | .unOp op _ x => (match s.ev x with | some x => (vUn op x).map fun y => (True, s.put o.dst y) | none => none)
    | .convert t u x => (match s.ev x with | some x => (vConv T t u x).map fun y => (True, s.put o.dst y) | none => none)
    | .makeSlice t x y => (match o.dst, s.ev x, s.ev y with | some d, some x, some y => sMake T s d (idOf (some d)) t x y | _, _, _ => none)
    | .slice t x lo hi none => (match s.ev x, evO s lo, evO s hi with | some x, some lo, some hi => (vSlice T s t x lo hi).map fun p => (p.1, s.put o.dst p.2) | _, _, _ => none)
    | .fieldAddr t x f => (match s.ev x with | some x => (vFieldAddr T t x f).map fun y => (True, s.put o.dst y) | none => none)
    | .field t x f => (match s.ev x with | some x => (vField T t x f).map fun y => (True, s.put o.dst y) | none => none)
    | .indexAddr t x i => (match s.ev x, s.ev i with | some x, some i => (vIndexAddr T s t x i).map fun p => (p.1, s.put o.dst p.2) | _, _ => none)
    | .index t x i => (match s.ev x, s.ev i with | some x, some i => (vIndex T t x i).map fun p => (p.1, s.put o.dst p.2) | _, _ => none)
    | .extract x i => (match s.ev x with | some x => (vExtract x i).map fun y => (True, s.put o.dst y) | none => none)
    | .call c => (match c.callee with | .builtin b => aBuiltin T o b c s | _ => none)
    | _ => none

theorem exec_v {P : Program} {ρ : Operand → Value} {o : Oper} {m : Sem Value} {w w' : World} {r : Value} (h : execOp ρ o = (do let v ← m; pure (.value v))) (hr : m.run P w = .ok r w') : (execOp ρ o).run P w = .ok (.value r) w' := by
  rw [h]; simp only [Sem.run_bind, hr, Result.andThen_ok, Sem.run_pure]

theorem exec_u {P : Program} {ρ : Operand → Value} {o : Oper} {m : Sem Unit} {w w' : World} (h : execOp ρ o = (do m; pure .skip)) (hr : m.run P w = .ok () w') : (execOp ρ o).run P w = .ok .skip w' := by
  rw [h]; simp only [Sem.run_bind, hr, Result.andThen_ok, Sem.run_pure]

theorem vNilCheck_ok {x y : AV} (h : vNilCheck x = some y) {g : Gh} {w : World} {v : Value} (hv : Val g w x v) : y = x ∧ ((∃ a, v = .pointer (some a)) ∨ ∃ f vs, v = .func (.func f) #[] vs) := by
  unfold vNilCheck at h
  split at h
  · obtain rfl := Option.some.inj h
    obtain ⟨b, c, n, _, rfl⟩ := hv.ptr_inv
    exact ⟨rfl, .inl ⟨_, rfl⟩⟩
  · obtain rfl := Option.some.inj h
    obtain ⟨a, us, rfl, _⟩ := hv.rp_inv
    exact ⟨rfl, .inl ⟨_, rfl⟩⟩
  · obtain rfl := Option.some.inj h
    obtain ⟨a, us, rfl, _⟩ := hv.vp_inv
    exact ⟨rfl, .inl ⟨_, rfl⟩⟩
  · obtain rfl := Option.some.inj h
    obtain ⟨vs, rfl, _⟩ := hv.fn_inv
    exact ⟨rfl, .inr ⟨_, _, rfl⟩⟩
  · simp at h

theorem evO_ok {s : St} {a : Act} {w : World} {g : Gh} (hs : Sim s a w g) {x : Option Operand} {y : Option AV} (h : evO s x = some y) : (y = none ∧ x.map a.eval = none) ∨ ∃ z u, y = some z ∧ x.map a.eval = some u ∧ Val g w z u := by
  cases x with
  | none => simp only [evO, Option.some.injEq] at h; exact .inl ⟨h.symm, rfl⟩
  | some x =>
    simp only [evO, Option.map_eq_some_iff] at h
    obtain ⟨z, hz, rfl⟩ := h
    exact .inr ⟨z, _, rfl, rfl, hs.ev hz⟩

theorem mx_ok {P : Program} {x y z : AV} (h : mx x y = some z) {g : Gh} {w : World} {v u : Value} (hv : Val g w x v) (hu : Val g w y u) (ts : Array TypeId) (t : TypeId) : ∃ r, (Builtin.max_ ts t #[v, u]).run P w = .ok r w ∧ Val g w z r := by
  unfold mx at h
  split at h
  · obtain rfl := Option.some.inj h
    obtain rfl := hv.int_inv
    obtain rfl := hu.int_inv
    exact ⟨_, by simp [Builtin.max_, Builtin.max2], Val.mkInt _ _ _ _⟩
  · simp at h

theorem mn_ok {P : Program} {x y z : AV} (h : mn x y = some z) {g : Gh} {w : World} {v u : Value} (hv : Val g w x v) (hu : Val g w y u) (ts : Array TypeId) (t : TypeId) : ∃ r, (Builtin.min_ ts t #[v, u]).run P w = .ok r w ∧ Val g w z r := by
  unfold mn at h
  split at h
  · obtain rfl := Option.some.inj h
    obtain rfl := hv.int_inv
    obtain rfl := hu.int_inv
    exact ⟨_, by simp [Builtin.min_, Builtin.min2], Val.mkInt _ _ _ _⟩
  · simp at h

theorem aBuiltin_ok {P : Program} {T : Tab} (hT : TabOk P T) {o : Oper} {b : Builtin} {c : Call} {s s' : St} {p : Prop} (hop : o.op = .call c) (hcal : c.callee = .builtin b) (hd : s.fits o.dst = true)
    (h : aBuiltin T o b c s = some (p, s')) (hp : p) : StepOk P o s s' := by
  intro a w g hs
  have hexec : ∀ (m : Sem Value), (builtin b c.argTypes o.type (c.args.map fun | .const _ => true | _ => false) (c.args.map a.eval)) = (do let v ← m; pure (.value v)) → execOp a.eval o = (do let v ← m; pure (.value v)) := by
    intro m hm
    unfold execOp
    simp only [hop, resolve, hcal]
    simp only [pure_bind, invoke]
    exact hm
  unfold aBuiltin at h
  split at h
  · rename_i x t hx ht
    split at h
    · rename_i x' hx'
      simp only [Option.map_eq_some_iff, Prod.mk.injEq] at h
      obtain ⟨y, hy, rfl, rfl⟩ := h
      obtain ⟨r, hr, hval⟩ := vLenB_ok (P := P) (ty := o.type) hT hy hs (hs.ev hx')
      have e1 : c.args.map a.eval = #[a.eval x] := by apply Array.toList_inj.1; rw [Array.toList_map, hx]; rfl
      have e2 : c.argTypes = #[t] := by apply Array.toList_inj.1; rw [ht]
      refine ⟨_, _, w, g, exec_v (hexec (Builtin.len_ #[t] o.type #[a.eval x]) (by simp only [builtin, e1, e2])) hr, .inl ⟨_, rfl, rfl⟩, hs.put hd hval, Keep.refl g w⟩
    · simp at h
  · rename_i x y t1 t2 hx ht
    split at h
    · rename_i x' y' d hx' hy' hdd
      have e1 : c.args.map a.eval = #[a.eval x, a.eval y] := by apply Array.toList_inj.1; rw [Array.toList_map, hx]; rfl
      have e2 : c.argTypes = #[t1, t2] := by apply Array.toList_inj.1; rw [ht]
      obtain ⟨r, w', g', hr, hsim, hk⟩ := sAppend_ok (P := P) (ty := o.type) hT h hp hs (hs.ev hx') (hs.ev hy')
      refine ⟨_, _, w', g', exec_v (hexec (Builtin.append_ #[t1, t2] o.type #[a.eval x, a.eval y]) (by simp only [builtin, e1, e2])) hr, .inl ⟨_, rfl, rfl⟩, by rw [hdd]; exact hsim, hk⟩
    · simp at h
  · rename_i x y hx
    split at h
    · rename_i x' y' hx' hy'
      simp only [Option.map_eq_some_iff, Prod.mk.injEq] at h
      obtain ⟨z, hz, rfl, rfl⟩ := h
      have e1 : c.args.map a.eval = #[a.eval x, a.eval y] := by apply Array.toList_inj.1; rw [Array.toList_map, hx]; rfl
      obtain ⟨r, hr, hval⟩ := mx_ok (P := P) hz (hs.ev hx') (hs.ev hy') c.argTypes o.type
      exact ⟨_, _, w, g, exec_v (hexec (Builtin.max_ c.argTypes o.type #[a.eval x, a.eval y]) (by simp only [builtin, e1])) hr, .inl ⟨_, rfl, rfl⟩, hs.put hd hval, Keep.refl g w⟩
    · simp at h
  · rename_i x y hx
    split at h
    · rename_i x' y' hx' hy'
      simp only [Option.map_eq_some_iff, Prod.mk.injEq] at h
      obtain ⟨z, hz, rfl, rfl⟩ := h
      have e1 : c.args.map a.eval = #[a.eval x, a.eval y] := by apply Array.toList_inj.1; rw [Array.toList_map, hx]; rfl
      obtain ⟨r, hr, hval⟩ := mn_ok (P := P) hz (hs.ev hx') (hs.ev hy') c.argTypes o.type
      exact ⟨_, _, w, g, exec_v (hexec (Builtin.min_ c.argTypes o.type #[a.eval x, a.eval y]) (by simp only [builtin, e1])) hr, .inl ⟨_, rfl, rfl⟩, hs.put hd hval, Keep.refl g w⟩
    · simp at h
  · simp at h

end Go.Proofs.YtkhobcmkbldmiaaFw
