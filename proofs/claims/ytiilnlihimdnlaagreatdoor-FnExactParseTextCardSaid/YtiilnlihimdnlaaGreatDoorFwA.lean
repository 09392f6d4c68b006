import Derived.WalkKit
set_option linter.unusedVariables false
set_option linter.unusedSimpArgs false
/- A calculus over abstract values: what a value, a row of memory and an object of the call's own read as. Generic: no program in sight. -/
namespace Go.Proofs.YtiilnlihimdnlaaGreatDoorFw
open Go Go.RowKit
inductive Md where
 | own | ro | bo
 deriving DecidableEq
inductive AV where
 | int (k : IntKind) (n : Int)
 | bool (b : Bool)
 | str (s : List UInt8)
 | nilI
 | ifc (c : Option (TypeId × IntKind × Int))
 | nilP
 | nilS
 | row (m : Md) (sz : Nat) (es : List AV)
 | agg (cs : List AV)
 | tup (vs : List AV)
 | fn (f : FuncId) (caps : List AV)
 | hd (id : Nat) (q : List (Nat × Nat))
 | ref (id : Nat) (q : List (Nat × Nat)) (sz off n : Nat)
 | ptr (id : Nat) (q : List (Nat × Nat)) (sz i k : Nat)
 | rp (m : Md) (cs : List AV)
 | vp (cs : List AV)
 | dead
def AV.cells : AV → List AV
 | .agg cs => cs
 | x => [x]
def AV.width (x : AV) : Nat := x.cells.length
def AV.setC (x : AV) (k : Nat) (c : AV) : AV :=
 match x with
 | .agg cs => .agg (cs.set k c)
 | _ => c
abbrev Path := List (Nat × Nat)
structure Gh where
 loc : Nat → Path → Option (Nat × Nat × Nat)
 own : Nat → Option (Nat × Path)
 perm : Nat → Prop
 bor : Nat → Prop
 st : Bool
def Gh.rd (g : Gh) : Md → Nat → Prop
 | .own, _ => False
 | .ro, b => g.perm b
 | .bo, b => g.perm b ∨ g.bor b
def Gh.canRd (g : Gh) (b : Nat) : Prop := g.perm b ∨ g.bor b
inductive Pl where
 | at (id : Nat) (q : Path)
 | ro | bo
def Md.pl : Md → Pl
 | .bo => .bo
 | _ => .ro
inductive Cell (g : Gh) (w : World) : Pl → AV → Value → Prop where
 | int (p : Pl) (k : IntKind) (n : Int) : Cell g w p (.int k n) (.int k n)
 | bool (p : Pl) (b : Bool) : Cell g w p (.bool b) (.bool b)
 | str (p : Pl) (s : List UInt8) : Cell g w p (.str s) (.string ⟨⟨s⟩⟩)
 | nilI (p : Pl) : Cell g w p .nilI .nilIface
 | ifc (p : Pl) (c : Option (TypeId × IntKind × Int)) (t : TypeId) (v : Value) (h : ∀ t' k n, c = some (t', k, n) → t = t' ∧ v = .int k n) : Cell g w p (.ifc c) (.iface t v)
 | dead (p : Pl) (v : Value) (h1 : v.oneCell' = true) : Cell g w p .dead v
 | emp (p : Pl) (m : Md) (sz : Nat) (a : Option Addr) (c : Nat) (hm : m ≠ .own) : Cell g w p (.row m sz []) (.slice a 0 c)
 | rd (p : Pl) (m : Md) (sz : Nat) (es : List AV) (a : Addr) (c : Nat) (us : Nat → Value)
  (hp : m = .bo → p ≠ .ro) (hm : g.rd m a.block) (hs : a.spot = none) (hl : es.length ≤ c)
  (hw : ∀ (i : Nat) (x : AV), es[i]? = some x → x.width = sz)
  (hc : ∀ (i k : Nat) (x y : AV), es[i]? = some x → x.cells[k]? = some y → w.cell? (a.add (i * sz + k)) = some (us (i * sz + k)))
  (ht : ∀ (i k : Nat) (x y : AV), es[i]? = some x → x.cells[k]? = some y → Cell g w m.pl y (us (i * sz + k))) :
  Cell g w p (.row m sz es) (.slice (some a) es.length c)
 | ownNil (id : Nat) (q : Path) (sz : Nat) (hl : g.loc id q = none) : Cell g w (.at id q) (.row .own sz []) (.slice none 0 0)
 | own (id : Nat) (q : Path) (sz : Nat) (es : List AV) (b c : Nat) (cur : Array Value) (e : TypeId) (us : Nat → Value)
  (hl : g.loc id q = some (b, c, es.length)) (ho : g.own b = some (id, q)) (hb : w.heap[b]? = some (.cells cur e (0, 0)))
  (hn : es.length ≤ c) (hm : c ≤ maxLen) (hz : cur.size = c * sz)
  (hw : ∀ (i : Nat) (x : AV), es[i]? = some x → x.width = sz)
  (hc : ∀ (i k : Nat) (x y : AV), es[i]? = some x → x.cells[k]? = some y → cur[i * sz + k]? = some (us (i * sz + k)))
  (ht : ∀ (i k : Nat) (x y : AV), es[i]? = some x → x.cells[k]? = some y → Cell g w (.at id (q ++ [(i, k)])) y (us (i * sz + k))) :
  Cell g w (.at id q) (.row .own sz es) (.slice (some ⟨b, 0, none⟩) es.length c)
inductive Val (g : Gh) (w : World) : AV → Value → Prop where
 | cell (x : AV) (v : Value) (h : Cell g w .bo x v) : Val g w x v
 | nilS : Val g w .nilS (.slice none 0 0)
 | nilP : Val g w .nilP (.pointer none)
 | agg (cs : List AV) (vs : Array Value) (hl : vs.size = cs.length)
  (h : ∀ (k : Nat) (c : AV) (u : Value), cs[k]? = some c → vs[k]? = some u → Val g w c u) : Val g w (.agg cs) (.agg vs)
 | tup (cs : List AV) (vs : Array Value) (hl : vs.size = cs.length)
  (h : ∀ (k : Nat) (c : AV) (u : Value), cs[k]? = some c → vs[k]? = some u → Val g w c u) : Val g w (.tup cs) (.tuple vs)
 | fn (f : FuncId) (cs : List AV) (vs : Array Value) (hl : vs.size = cs.length)
  (h : ∀ (k : Nat) (c : AV) (u : Value), cs[k]? = some c → vs[k]? = some u → Val g w c u) : Val g w (.fn f cs) (.func (.func f) #[] vs)
 | hd (id : Nat) (q : Path) (b c n : Nat) (hl : g.loc id q = some (b, c, n)) : Val g w (.hd id q) (.slice (some ⟨b, 0, none⟩) n c)
 | hdNil (id : Nat) (q : Path) (hl : g.loc id q = none) : Val g w (.hd id q) (.slice none 0 0)
 | ref (id : Nat) (q : Path) (sz off n b cap len c : Nat) (a : Addr) (hl : g.loc id q = some (b, cap, len))
  (hc : off + c = cap) (hn : n ≤ c) (ha : 0 < c ∨ off = 0 → a = ⟨b, off * sz, none⟩) : Val g w (.ref id q sz off n) (.slice (some a) n c)
 | refNil (id : Nat) (q : Path) (sz : Nat) (hl : g.loc id q = none) : Val g w (.ref id q sz 0 0) (.slice none 0 0)
 | ptr (id : Nat) (q : Path) (sz i k b cap len : Nat) (hl : g.loc id q = some (b, cap, len)) : Val g w (.ptr id q sz i k) (.pointer (some ⟨b, i * sz + k, none⟩))
 | rp (m : Md) (cs : List AV) (a : Addr) (us : Nat → Value) (hm : g.rd m a.block) (hs : a.spot = none)
  (hc : ∀ (k : Nat) (y : AV), cs[k]? = some y → w.cell? (a.add k) = some (us k))
  (ht : ∀ (k : Nat) (y : AV), cs[k]? = some y → Cell g w m.pl y (us k)) : Val g w (.rp m cs) (.pointer (some a))
 | vp (cs : List AV) (a : Addr) (us : Nat → Value) (hm : g.perm a.block) (hs : a.spot = none)
  (hc : ∀ (k : Nat) (y : AV), cs[k]? = some y → w.cell? (a.add k) = some (us k))
  (ht : ∀ (k : Nat) (y : AV), cs[k]? = some y → Val g w y (us k)) : Val g w (.vp cs) (.pointer (some a))
 | dead (v : Value) : Val g w .dead v
structure Obj where
 id : Nat
 sz : Nat
 es : List AV
structure St where
 nt : Nat
 slots : List (Nat × AV)
 objs : List Obj
 st : Bool
def lookS : List (Nat × AV) → Nat → Option AV
 | [], _ => none
 | (t, x) :: r, u => if t = u then some x else lookS r u
def lookO : List Obj → Nat → Option (Nat × List AV)
 | [], _ => none
 | o :: r, i => if o.id = i then some (o.sz, o.es) else lookO r i
def lbTab : Nat → Option (Array Value) := fun b => if b = 7 then some (([0, 1, 56, 2, 57, 49, 28, 3, 61, 58, 42, 50, 38, 29, 17, 4, 62, 47, 59, 36, 45, 43, 51, 22, 53, 39, 33, 30, 24, 18, 12, 5, 63, 55, 48, 27, 60, 41, 37, 16, 46, 35, 44, 21, 52, 32, 23, 11, 54, 26, 40, 15, 34, 20, 31, 10, 25, 14, 19, 9, 13, 8, 7, 6] : List Int).map fun n => Value.int .u8 n).toArray else none
def lbErr : Nat → Bool := fun b => b == 3 || b == 4
structure RdOk (g : Gh) (w : World) : Prop where
 lt : ∀ b, g.canRd b → b < w.heap.size
 gl : ∀ b c, lbTab b = some c → g.perm b ∧ ∃ e, w.heap[b]? = some (.cells c e (0, 0))
 ge : ∀ b, lbErr b = true → g.perm b ∧ ∃ t p e, w.heap[b]? = some (.cells #[.iface t p] e (0, 0))
instance (g : Gh) (w : World) : CoeFun (RdOk g w) (fun _ => ∀ b, g.canRd b → b < w.heap.size) := ⟨RdOk.lt⟩
structure HSim (objs : List Obj) (w : World) (g : Gh) : Prop where
 obj : ∀ id sz es, lookO objs id = some (sz, es) → ∃ v, Cell g w (.at id []) (.row .own sz es) v
 sep : ∀ b p, g.own b = some p → ¬ g.perm b ∧ ¬ g.bor b ∧ b < w.heap.size
 rdlt : RdOk g w
structure Sim (s : St) (a : Act) (w : World) (g : Gh) : Prop where
 nt : a.tmps.size = s.nt
 defers : a.defers = []
 slot : ∀ t x, lookS s.slots t = some x → ∃ v, a.tmps[t]? = some v ∧ Val g w x v
 h : HSim s.objs w g
 st : s.st = g.st
structure Keep (g : Gh) (w : World) (g' : Gh) (w' : World) : Prop where
 os : w'.os = w.os
 tape : w'.tape = w.tape
 output : w'.output = w.output
 size : w.heap.size ≤ w'.heap.size
 old : ∀ b, b < w.heap.size → g.own b = none → w'.heap[b]? = w.heap[b]? ∧ g'.own b = none
 perm : ∀ b, g.perm b → g'.perm b
 permo : ∀ b, b < w.heap.size → g'.perm b → g.perm b ∨ (g.own b).isSome
 bor : ∀ b, g'.bor b ↔ g.bor b
 root : ∀ id q, id < 16 → (q = [] ∨ g.st = true) → g'.loc id q = g.loc id q
 st : g'.st = g.st
theorem Keep.refl (g : Gh) (w : World) : Keep g w g w :=
 ⟨rfl, rfl, rfl, Nat.le_refl _, fun _ _ h => ⟨rfl, h⟩, fun _ h => h, fun _ _ h => .inl h, fun _ => Iff.rfl, fun _ _ _ _ => rfl, rfl⟩
theorem Keep.trans {g g1 g2 : Gh} {w w1 w2 : World} (h : Keep g w g1 w1) (k : Keep g1 w1 g2 w2) : Keep g w g2 w2 where
 os := k.os.trans h.os
 tape := k.tape.trans h.tape
 output := k.output.trans h.output
 size := Nat.le_trans h.size k.size
 old := fun b hb ho => by
  obtain ⟨h1, h2⟩ := h.old b hb ho
  obtain ⟨k1, k2⟩ := k.old b (Nat.lt_of_lt_of_le hb h.size) h2
  exact ⟨k1.trans h1, k2⟩
 perm := fun b hp => k.perm b (h.perm b hp)
 permo := fun b hb hp => by
  rcases k.permo b (Nat.lt_of_lt_of_le hb h.size) hp with h1 | h1
  ·exact h.permo b hb h1
  ·cases ho : g.own b with
   | none => rw [(h.old b hb ho).2] at h1; simp at h1
   | some p => exact .inr rfl
 bor := fun b => (k.bor b).trans (h.bor b)
 root := fun id q hi hq => (k.root id q hi (by rw [h.st]; exact hq)).trans (h.root id q hi hq)
 st := k.st.trans h.st
structure RdKeep (g : Gh) (w : World) (g' : Gh) (w' : World) : Prop where
 perm : ∀ b, g.perm b → g'.perm b ∧ w'.heap[b]? = w.heap[b]?
 bor : ∀ b, g.bor b → (g'.perm b ∨ g'.bor b) ∧ w'.heap[b]? = w.heap[b]?
theorem RdKeep.rd {g g' : Gh} {w w' : World} (h : RdKeep g w g' w') {m : Md} {b : Nat} (hm : g.rd m b) : g'.rd m b ∧ w'.heap[b]? = w.heap[b]? := by
 cases m with
 | own => exact hm.elim
 | ro => exact h.perm b hm
 | bo =>
  rcases hm with hm | hm
  ·exact ⟨.inl (h.perm b hm).1, (h.perm b hm).2⟩
  ·exact h.bor b hm
theorem RdOk.move {g g' : Gh} {w w' : World} (h : RdOk g w) (hr : RdKeep g w g' w') (hl : ∀ b, g'.canRd b → b < w'.heap.size) : RdOk g' w' :=
 ⟨hl, fun b c hb => by
  obtain ⟨hp, e, hh⟩ := h.gl b c hb
  exact ⟨(hr.perm b hp).1, e, by rw [(hr.perm b hp).2]; exact hh⟩,
  fun b hb => by
   obtain ⟨hp, t, p, e, hh⟩ := h.ge b hb
   exact ⟨(hr.perm b hp).1, t, p, e, by rw [(hr.perm b hp).2]; exact hh⟩⟩
theorem cell?_heap {w w' : World} {a : Addr} (h : w'.heap[a.block]? = w.heap[a.block]?) : w'.cell? a = w.cell? a := by simp [World.cell?, h]
theorem add_block (a : Addr) (n : Nat) : (a.add n).block = a.block := by unfold Addr.add; split <;> rfl
theorem Cell.still {g g' : Gh} {w w' : World} (hr : RdKeep g w g' w') {p : Pl} {x : AV} {v : Value} (h : Cell g w p x v) : (∀ id q, p ≠ .at id q) → Cell g' w' p x v := by
 induction h with
 | int p k n => intro _; exact .int _ _ _
 | bool p b => intro _; exact .bool _ _
 | str p s => intro _; exact .str _ _
 | nilI p => intro _; exact .nilI _
 | ifc p c t v h => intro _; exact .ifc _ _ _ _ h
 | dead p v h1 => intro _; exact .dead _ _ h1
 | emp p m sz a c hm => intro _; exact .emp _ _ _ _ _ hm
 | rd p m sz es a c us hp hm hs hl hw hc ht ih =>
  intro _
  exact .rd _ _ _ _ _ _ us hp (hr.rd hm).1 hs hl hw (fun i k x y hx hy => (cell?_heap (by rw [add_block]; exact (hr.rd hm).2)).trans (hc i k x y hx hy)) (fun i k x y hx hy => ih i k x y hx hy (by intro id q; cases m <;> simp [Md.pl]))
 | ownNil => intro h; exact absurd rfl (h _ _)
 | own => intro h; exact absurd rfl (h _ _)
theorem Cell.one {g : Gh} {w : World} {p : Pl} {x : AV} {v : Value} (h : Cell g w p x v) : v.oneCell' = true := by
 cases h <;> first | rfl | assumption
theorem Cell.move {g g' : Gh} {w w' : World} (hr : RdKeep g w g' w') {p : Pl} {x : AV} {v : Value} (h : Cell g w p x v) :
 ∀ (id : Nat) (q : Path) (id' : Nat) (q' : Path), p = .at id q →
 (∀ b r, g.own b = some (id, q ++ r) → w'.heap[b]? = w.heap[b]? ∧ g'.own b = some (id', q' ++ r)) →
 (∀ r, g'.loc id' (q' ++ r) = g.loc id (q ++ r)) → Cell g' w' (.at id' q') x v := by
 induction h with
 | int p k n => intros; exact .int _ _ _
 | bool p b => intros; exact .bool _ _
 | str p s => intros; exact .str _ _
 | nilI p => intros; exact .nilI _
 | ifc p c t v h => intros; exact .ifc _ _ _ _ h
 | dead p v h1 => intros; exact .dead _ _ h1
 | emp p m sz a c hm => intros; exact .emp _ _ _ _ _ hm
 | rd p m sz es a c us hp hm hs hl hw hc ht ih =>
  intro id q id' q' _ _ _
  exact .rd _ _ _ _ _ _ us (fun _ => by simp) (hr.rd hm).1 hs hl hw (fun i k x y hx hy => (cell?_heap (by rw [add_block]; exact (hr.rd hm).2)).trans (hc i k x y hx hy)) (fun i k x y hx hy => (ht i k x y hx hy).still hr (by intro id q; cases m <;> simp [Md.pl]))
 | ownNil id q sz hl =>
  intro id1 q1 id' q' he _ h2
  obtain ⟨rfl, rfl⟩ := Pl.at.inj he
  exact .ownNil _ _ _ (by have := h2 []; simp only [List.append_nil] at this; rw [this]; exact hl)
 | own id q sz es b c cur e us hl ho hb hn hm hz hw hc ht ih =>
  intro id1 q1 id' q' he h1 h2
  obtain ⟨rfl, rfl⟩ := Pl.at.inj he
  have h0 := h1 b [] (by simpa using ho)
  refine .own _ _ _ _ b c cur e us ?_ (by simpa using h0.2) (by rw [h0.1]; exact hb) hn hm hz hw hc ?_
  ·have := h2 []; simp only [List.append_nil] at this; rw [this]; exact hl
  ·intro i k x y hx hy
   refine ih i k x y hx hy id (q ++ [(i, k)]) id' (q' ++ [(i, k)]) rfl ?_ ?_
   ·intro b' r hb'
    have := h1 b' ((i, k) :: r) (by simpa using hb')
    simpa using this
   ·intro r
    have := h2 ((i, k) :: r)
    simpa using this
theorem Cell.stay {g g' : Gh} {w w' : World} (hr : RdKeep g w g' w') {id : Nat} {q : Path} {x : AV} {v : Value} (h : Cell g w (.at id q) x v)
 (h1 : ∀ b r, g.own b = some (id, q ++ r) → w'.heap[b]? = w.heap[b]? ∧ g'.own b = some (id, q ++ r))
 (h2 : ∀ r, g'.loc id (q ++ r) = g.loc id (q ++ r)) : Cell g' w' (.at id q) x v :=
 h.move hr id q id q rfl h1 h2
end Go.Proofs.YtiilnlihimdnlaaGreatDoorFw
/- Ways into own trees: what stands at a path, what it is turned to. -/
namespace Go.Proofs.YtiilnlihimdnlaaGreatDoorFw
open Go Go.RowKit
def navG : List AV → Nat → Path → Option (Nat × List AV)
 | es, sz, [] => some (sz, es)
 | es, _, (i, k) :: q =>
  match es[i]? with
  | some x =>
   match x.cells[k]? with
   | some (.row .own sz' es') => navG es' sz' q
   | _ => none
  | none => none
def navSet : List AV → Path → List AV → List AV
 | _, [], new => new
 | es, (i, k) :: q, new =>
  match es[i]? with
  | some x =>
   match x.cells[k]? with
   | some (.row .own sz' es') => es.set i (x.setC k (.row .own sz' (navSet es' q new)))
   | _ => es
  | none => es
theorem setC_width (x : AV) (k : Nat) (c : AV) (hc : c.cells = [c]) : (x.setC k c).width = x.width := by
 have h1 : c.cells.length = 1 := by rw [hc]; rfl
 cases x <;> first | exact h1 | simp [AV.setC, AV.width, AV.cells]
theorem setC_cells (x : AV) (k : Nat) (c : AV) (hc : c.cells = [c]) (hk : k < x.width) (j : Nat) :
 (x.setC k c).cells[j]? = if j = k then some c else x.cells[j]? := by
 cases x with
 | agg cs =>
  simp only [AV.setC, AV.cells, AV.width] at hk ⊢
  by_cases hj : j = k
  ·subst hj; simp [List.getElem?_set_self hk]
  ·rw [if_neg hj, List.getElem?_set_ne (by omega)]
 | _ =>
  simp only [AV.width, AV.cells, List.length_singleton] at hk
  obtain rfl : k = 0 := by omega
  show c.cells[j]? = _
  rw [hc]
  cases j <;> simp [AV.cells]
theorem row_cells (m : Md) (sz : Nat) (es : List AV) : (AV.row m sz es).cells = [AV.row m sz es] := rfl
theorem lt_of_get {α : Type} {l : List α} {i : Nat} {x : α} (h : l[i]? = some x) : i < l.length := by
 rcases Nat.lt_or_ge i l.length with h' | h'
 ·exact h'
 ·simp [List.getElem?_eq_none h'] at h
theorem Cell.nav {g : Gh} {w : World} {id : Nat} : ∀ (q p : Path) (sz : Nat) (es : List AV) (v : Value) (sz' : Nat) (es' : List AV),
 Cell g w (.at id p) (.row .own sz es) v → navG es sz q = some (sz', es') → ∃ v', Cell g w (.at id (p ++ q)) (.row .own sz' es') v' := by
 intro q
 induction q with
 | nil =>
  intro p sz es v sz' es' h hn
  simp only [navG, Option.some.injEq, Prod.mk.injEq] at hn
  obtain ⟨rfl, rfl⟩ := hn
  exact ⟨v, by simpa using h⟩
 | cons ik q ih =>
  intro p sz es v sz' es' h hn
  obtain ⟨i, k⟩ := ik
  simp only [navG] at hn
  cases hx : es[i]? with
  | none => simp [hx] at hn
  | some x =>
   cases hy : x.cells[k]? with
   | none => simp [hx, hy] at hn
   | some y =>
    simp only [hx, hy] at hn
    split at hn
    ·rename_i sz2 es2 he
     obtain rfl := Option.some.inj he
     cases h with
     | rd _ _ _ _ a c us hp hm => exact hm.elim
     | emp _ _ _ a c hm => exact absurd rfl hm
     | ownNil => simp at hx
     | own _ _ _ _ b c cur e us hl ho hb hn' hm hz hw hc ht =>
      have := ih (p ++ [(i, k)]) _ _ _ _ _ (ht i k x _ hx hy) hn
      simpa using this
    ·simp at hn
theorem Cell.upd {g g' : Gh} {w w' : World} (hr : RdKeep g w g' w') {id : Nat} : ∀ (q p : Path) (sz : Nat) (es : List AV) (v : Value) (sz' : Nat) (es' new : List AV),
 Cell g w (.at id p) (.row .own sz es) v → navG es sz q = some (sz', es') →
 (∀ v', Cell g w (.at id (p ++ q)) (.row .own sz' es') v' → Cell g' w' (.at id (p ++ q)) (.row .own sz' new) v') →
 (∀ b q', g.own b = some (id, q') → (∀ r, q' ≠ p ++ q ++ r) → w'.heap[b]? = w.heap[b]? ∧ g'.own b = some (id, q')) →
 (∀ q', (∀ r, q' ≠ p ++ q ++ r) → g'.loc id q' = g.loc id q') →
 Cell g' w' (.at id p) (.row .own sz (navSet es q new)) v := by
 intro q
 induction q with
 | nil =>
  intro p sz es v sz' es' new h hn hN _ _
  simp only [navG, Option.some.injEq, Prod.mk.injEq] at hn
  obtain ⟨rfl, rfl⟩ := hn
  simp only [List.append_nil] at hN
  exact hN v h
 | cons ik q ih =>
  intro p sz es v sz' es' new h hn hN hF hL
  obtain ⟨i, k⟩ := ik
  simp only [navG] at hn
  cases hx : es[i]? with
  | none => simp [hx] at hn
  | some x =>
   cases hy : x.cells[k]? with
   | none => simp [hx, hy] at hn
   | some y =>
    simp only [hx, hy] at hn
    split at hn
    ·rename_i sz2 es2 he
     obtain rfl := Option.some.inj he
     cases h with
     | rd _ _ _ _ a c us hp hm => exact hm.elim
     | emp _ _ _ a c hm => exact absurd rfl hm
     | ownNil => simp at hx
     | own _ _ _ _ b c cur e us hl ho hb hn' hm hz hw hc ht =>
      have hsub := ih (p ++ [(i, k)]) sz2 es2 _ sz' es' new (ht i k x _ hx hy) hn (by simpa using hN) (by simpa using hF) (by simpa using hL)
      have hk : k < x.width := lt_of_get hy
      have hself : ∀ r : Path, p ≠ p ++ (i, k) :: q ++ r := by
       intro r e
       have := congrArg List.length e
       simp at this
      have h0 := hF b p ho hself
      simp only [navSet, hx, hy]
      have hlen : (es.set i (x.setC k (.row .own sz2 (navSet es2 q new)))).length = es.length := List.length_set
      rw [← hlen]
      have hcells : ∀ i' k' x' y', (es.set i (x.setC k (.row .own sz2 (navSet es2 q new))))[i']? = some x' → x'.cells[k']? = some y' →
       ∃ x0 y0, es[i']? = some x0 ∧ x0.cells[k']? = some y0 ∧ ((i' = i ∧ k' = k ∧ y' = .row .own sz2 (navSet es2 q new)) ∨ (¬ (i' = i ∧ k' = k) ∧ y' = y0)) := by
       intro i' k' x' y' hx' hy'
       by_cases hi : i' = i
       ·subst hi
        rw [List.getElem?_set_self (lt_of_get hx)] at hx'
        obtain rfl := Option.some.inj hx'
        rw [setC_cells _ _ _ (row_cells _ _ _) hk] at hy'
        by_cases hkk : k' = k
        ·subst hkk
         rw [if_pos rfl] at hy'
         exact ⟨x, _, hx, hy, .inl ⟨rfl, rfl, (Option.some.inj hy').symm⟩⟩
        ·rw [if_neg hkk] at hy'
         exact ⟨x, y', hx, hy', .inr ⟨fun h => hkk h.2, rfl⟩⟩
       ·rw [List.getElem?_set_ne (by omega)] at hx'
        exact ⟨x', y', hx', hy', .inr ⟨fun h => hi h.1, rfl⟩⟩
      refine .own _ _ _ _ b c cur e us ?_ h0.2 (by rw [h0.1]; exact hb) (by rw [hlen]; exact hn') hm hz ?_ ?_ ?_
      ·rw [hL p hself, hlen]; exact hl
      ·intro i' x' hx'
       by_cases hi : i' = i
       ·subst hi
        rw [List.getElem?_set_self (lt_of_get hx)] at hx'
        obtain rfl := Option.some.inj hx'
        rw [setC_width _ _ _ (row_cells _ _ _)]
        exact hw _ _ hx
       ·rw [List.getElem?_set_ne (by omega)] at hx'
        exact hw _ _ hx'
      ·intro i' k' x' y' hx' hy'
       obtain ⟨x0, y0, h1, h2, _⟩ := hcells i' k' x' y' hx' hy'
       exact hc i' k' x0 y0 h1 h2
      ·intro i' k' x' y' hx' hy'
       obtain ⟨x0, y0, h1, h2, h3⟩ := hcells i' k' x' y' hx' hy'
       rcases h3 with ⟨rfl, rfl, rfl⟩ | ⟨hne, rfl⟩
       ·rw [hx] at h1; obtain rfl := Option.some.inj h1
        rw [hy] at h2; obtain rfl := Option.some.inj h2
        exact hsub
       ·have hne' : ∀ r s : Path, p ++ [(i', k')] ++ r ≠ p ++ (i, k) :: q ++ s := by
         intro r s e
         simp at e
         exact hne ⟨e.1.1, e.1.2⟩
        exact (ht i' k' x0 _ h1 h2).stay hr (fun b' r hb' => hF b' _ hb' (hne' r)) (fun r => hL _ (hne' r))
    ·simp at hn
end Go.Proofs.YtiilnlihimdnlaaGreatDoorFw
/- The own objects: new ones, stores, moves, frozen and lent ones. -/
namespace Go.Proofs.YtiilnlihimdnlaaGreatDoorFw
open Go Go.RowKit
def dropO : List Obj → Nat → List Obj
 | [], _ => []
 | o :: r, i => if o.id = i then dropO r i else o :: dropO r i
def setO (l : List Obj) (id sz : Nat) (es : List AV) : List Obj := ⟨id, sz, es⟩ :: dropO l id
theorem lookO_dropO (l : List Obj) (i j : Nat) : lookO (dropO l i) j = if i = j then none else lookO l j := by
 induction l with
 | nil => simp [dropO, lookO]
 | cons o r ih =>
  simp only [dropO]
  split
  ·rename_i h
   rw [ih]
   split
   ·rfl
   ·rename_i h2; simp only [lookO]; rw [if_neg (by omega)]
  ·rename_i h
   simp only [lookO]
   rw [ih]
   by_cases h1 : o.id = j
   ·rw [if_pos h1, if_neg (by omega), if_pos h1]
   ·rw [if_neg h1, if_neg h1]
theorem lookO_setO (l : List Obj) (id sz : Nat) (es : List AV) (j : Nat) : lookO (setO l id sz es) j = if id = j then some (sz, es) else lookO l j := by
 simp only [setO, lookO, lookO_dropO]
 by_cases h : id = j
 ·rw [if_pos h, if_pos h]
 ·rw [if_neg h, if_neg h, if_neg h]
def stripP : Path → Path → Option Path
 | [], q => some q
 | a :: p, b :: q => if a = b then stripP p q else none
 | _ :: _, [] => none
theorem stripP_app (p r : Path) : stripP p (p ++ r) = some r := by
 induction p with
 | nil => rfl
 | cons a p ih => simp [stripP, ih]
theorem stripP_some : ∀ {p q r : Path}, stripP p q = some r → q = p ++ r
 | [], q, r, h => by simp [stripP] at h; simp [h]
 | a :: p, b :: q, r, h => by
  simp only [stripP] at h
  split at h
  ·rename_i e; subst e; rw [stripP_some h]; rfl
  ·simp at h
 | _ :: _, [], r, h => by simp [stripP] at h
theorem stripP_none {p q : Path} (h : stripP p q = none) (r : Path) : q ≠ p ++ r := by
 intro e; rw [e, stripP_app] at h; simp at h
theorem Cell.anywhere {g : Gh} {w : World} {x : AV} {v : Value} (h : Cell g w .bo x v) (p : Pl) (hp0 : p ≠ .ro) : Cell g w p x v := by
 cases h with
 | int => exact .int _ _ _
 | bool => exact .bool _ _
 | str => exact .str _ _
 | nilI => exact .nilI _
 | ifc _ c t v h => exact .ifc _ _ _ _ h
 | dead _ _ h1 => exact .dead _ _ h1
 | emp _ m sz a c hm => exact .emp _ _ _ _ _ hm
 | rd _ m sz es a c us hp hm hs hl hw hc ht => exact .rd _ _ _ _ _ _ us (fun _ => hp0) hm hs hl hw hc ht
theorem Cell.lent {g : Gh} {w : World} {x : AV} {v : Value} (h : Cell g w .ro x v) : Cell g w .bo x v := by
 cases h with
 | int => exact .int _ _ _
 | bool => exact .bool _ _
 | str => exact .str _ _
 | nilI => exact .nilI _
 | ifc _ c t v h => exact .ifc _ _ _ _ h
 | dead _ _ h1 => exact .dead _ _ h1
 | emp _ m sz a c hm => exact .emp _ _ _ _ _ hm
 | rd _ m sz es a c us hp hm hs hl hw hc ht => exact .rd _ _ _ _ _ _ us (fun _ => by simp) hm hs hl hw hc ht
def Flat (g : Gh) (w : World) (y : AV) (u : Value) : Prop :=
 (∃ sz, y = .row .own sz [] ∧ u = .slice none 0 0) ∨ Cell g w .bo y u
theorem Flat.still {g g' : Gh} {w w' : World} (hr : RdKeep g w g' w') {y : AV} {u : Value} (h : Flat g w y u) : Flat g' w' y u := by
 rcases h with h | h
 ·exact .inl h
 ·exact .inr (h.still hr (fun _ _ => by simp))
theorem Flat.cell {g : Gh} {w : World} {y : AV} {u : Value} (h : Flat g w y u) {id : Nat} {q : Path} (hl : g.loc id q = none) : Cell g w (.at id q) y u := by
 rcases h with ⟨sz, rfl, rfl⟩ | h
 ·exact .ownNil _ _ _ hl
 ·exact h.anywhere _ (by simp)
def gNew (g : Gh) (id b c n : Nat) : Gh :=
 { g with
  loc := fun j q => if j = id then (match q with | [] => some (b, c, n) | _ => none) else g.loc j q
  own := fun b' => if b' = b then some (id, []) else g.own b' }
theorem HSim.new {objs : List Obj} {w w' : World} {g : Gh} (h : HSim objs w g) (id sz : Nat) (es : List AV) (b c : Nat) (cur : Array Value) (e : TypeId)
 (hb : b = w.heap.size) (hw' : w'.heap = w.heap.push (.cells cur e (0, 0)))
 (hn : es.length ≤ c) (hm : c ≤ maxLen) (hz : cur.size = c * sz)
 (hwd : ∀ (i : Nat) (x : AV), es[i]? = some x → x.width = sz)
 (hc : ∀ (i k : Nat) (x y : AV), es[i]? = some x → x.cells[k]? = some y → ∃ u, cur[i * sz + k]? = some u ∧ Flat g w y u) :
 HSim (setO objs id sz es) w' (gNew g id b c es.length) ∧ RdKeep g w (gNew g id b c es.length) w' ∧
 (∀ j q, j ≠ id → (gNew g id b c es.length).loc j q = g.loc j q) ∧ (gNew g id b c es.length).loc id [] = some (b, c, es.length) ∧
 (∀ k, k < w.heap.size → w'.heap[k]? = w.heap[k]?) ∧ w'.heap[b]? = some (.cells cur e (0, 0)) ∧ w'.heap.size = w.heap.size + 1 := by
 subst hb
 have hold : ∀ k, k < w.heap.size → w'.heap[k]? = w.heap[k]? := fun k hk => by rw [hw', Array.getElem?_push, if_neg (by omega)]
 have hat : w'.heap[w.heap.size]? = some (.cells cur e (0, 0)) := by rw [hw']; simp
 have hsize : w'.heap.size = w.heap.size + 1 := by rw [hw']; simp
 have hr : RdKeep g w (gNew g id w.heap.size c es.length) w' := ⟨fun b hb => ⟨hb, hold b (h.rdlt b (.inl hb))⟩, fun b hb => ⟨.inr hb, hold b (h.rdlt b (.inr hb))⟩⟩
 have hloc : ∀ j q, j ≠ id → (gNew g id w.heap.size c es.length).loc j q = g.loc j q := fun j q hj => by simp [gNew, hj]
 refine ⟨⟨?_, ?_, ?_⟩, hr, hloc, by simp [gNew], hold, hat, hsize⟩
 ·intro j sz' es' hj
  rw [lookO_setO] at hj
  split at hj
  ·rename_i hji
   obtain ⟨rfl, rfl⟩ := Prod.mk.inj (Option.some.inj hj)
   subst hji
   refine ⟨_, .own _ _ _ _ w.heap.size c cur e (fun j => cur.getD j undef) (by simp [gNew]) (by simp [gNew]) hat hn hm hz hwd ?_ ?_⟩
   ·intro i k x y hx hy
    obtain ⟨u, hu, _⟩ := hc i k x y hx hy
    simp [Array.getD_eq_getD_getElem?, hu]
   ·intro i k x y hx hy
    obtain ⟨u, hu, hf⟩ := hc i k x y hx hy
    have : cur.getD (i * sz + k) undef = u := by simp [Array.getD_eq_getD_getElem?, hu]
    rw [this]
    exact (hf.still hr).cell (by simp [gNew])
  ·rename_i hji
   obtain ⟨v, hv⟩ := h.obj j sz' es' hj
   refine ⟨v, hv.stay hr ?_ ?_⟩
   ·intro b r hb
    have hlt := (h.sep b _ hb).2.2
    exact ⟨hold b hlt, by simp only [gNew]; rw [if_neg (by omega)]; exact hb⟩
   ·intro r; exact hloc _ _ (fun e => hji e.symm)
 ·intro b p hb
  simp only [gNew] at hb ⊢
  split at hb
  ·rename_i hbb
   subst hbb
   exact ⟨fun hp => by have := h.rdlt _ (.inl hp); omega, fun hp => by have := h.rdlt _ (.inr hp); omega, by omega⟩
  ·obtain ⟨h1, h2, h3⟩ := h.sep b p hb
   exact ⟨h1, h2, by omega⟩
 ·refine h.rdlt.move hr fun b hb => ?_
  have := h.rdlt b hb
  omega
theorem HSim.drop {objs : List Obj} {w : World} {g : Gh} (h : HSim objs w g) (id : Nat) : HSim (dropO objs id) w g where
 obj := fun j sz es hj => by
  rw [lookO_dropO] at hj
  split at hj
  ·simp at hj
  ·exact h.obj j sz es hj
 sep := h.sep
 rdlt := h.rdlt
def gMove (g : Gh) (id : Nat) (p : Path) (id' : Nat) (p' : Path) : Gh :=
 { g with
  loc := fun j q =>
   match (if j = id' then stripP p' q else none) with
   | some r => g.loc id (p ++ r)
   | none => if j = id then (match stripP p q with | some _ => none | none => g.loc j q) else g.loc j q
  own := fun b =>
   match g.own b with
   | some (j, q) => if j = id then (match stripP p q with | some r => some (id', p' ++ r) | none => some (j, q)) else some (j, q)
   | none => none }
theorem gMove_loc_to (g : Gh) (id : Nat) (p : Path) (id' : Nat) (p' r : Path) : (gMove g id p id' p').loc id' (p' ++ r) = g.loc id (p ++ r) := by
 simp [gMove, stripP_app]
theorem gMove_own_to {g : Gh} {id : Nat} {p : Path} (id' : Nat) (p' : Path) {b : Nat} {r : Path} (h : g.own b = some (id, p ++ r)) : (gMove g id p id' p').own b = some (id', p' ++ r) := by
 simp [gMove, h, stripP_app]
theorem gMove_loc_else {g : Gh} {id : Nat} {p : Path} {id' : Nat} {p' : Path} {j : Nat} {q : Path} (h1 : ∀ r, j = id' → q ≠ p' ++ r) (h2 : ∀ r, j = id → q ≠ p ++ r) :
 (gMove g id p id' p').loc j q = g.loc j q := by
 have e1 : (if j = id' then stripP p' q else none) = none := by
  split
  ·rename_i h
   cases hs : stripP p' q with
   | none => rfl
   | some r => exact absurd (stripP_some hs) (h1 r h)
  ·rfl
 simp only [gMove, e1]
 split
 ·rename_i h
  cases hs : stripP p q with
  | none => rfl
  | some r => exact absurd (stripP_some hs) (h2 r h)
 ·rfl
theorem gMove_own_else {g : Gh} {id : Nat} {p : Path} {id' : Nat} {p' : Path} {b j : Nat} {q : Path} (h : g.own b = some (j, q)) (h2 : ∀ r, j = id → q ≠ p ++ r) :
 (gMove g id p id' p').own b = some (j, q) := by
 simp only [gMove, h]
 split
 ·rename_i e
  cases hs : stripP p q with
  | none => rfl
  | some r => exact absurd (stripP_some hs) (h2 r e)
 ·rfl
theorem gMove_sep {g : Gh} {id : Nat} {p : Path} {id' : Nat} {p' : Path} {w : World} (h : ∀ b p, g.own b = some p → ¬ g.perm b ∧ ¬ g.bor b ∧ b < w.heap.size) :
 ∀ b q, (gMove g id p id' p').own b = some q → ¬ (gMove g id p id' p').perm b ∧ ¬ (gMove g id p id' p').bor b ∧ b < w.heap.size := by
 intro b q hb
 cases ho : g.own b with
 | none => simp [gMove, ho] at hb
 | some jq => exact h b jq ho
theorem gMove_rd (g : Gh) (id : Nat) (p : Path) (id' : Nat) (p' : Path) (w : World) : RdKeep g w (gMove g id p id' p') w :=
 ⟨fun _ hb => ⟨hb, rfl⟩, fun _ hb => ⟨.inr hb, rfl⟩⟩
theorem gMove_keep (g : Gh) (id : Nat) (p : Path) (id' : Nat) (p' : Path) (w : World) (h1 : (p ≠ [] ∧ g.st = false) ∨ 16 ≤ id) (h2 : (p' ≠ [] ∧ g.st = false) ∨ 16 ≤ id') : Keep g w (gMove g id p id' p') w :=
 ⟨rfl, rfl, rfl, Nat.le_refl _, fun b _ ho => ⟨rfl, by simp [gMove, ho]⟩, fun _ h => h, fun _ _ h => .inl h, fun _ => Iff.rfl, fun j q hj hq => gMove_loc_else
  (fun r e1 e2 => by
    rcases h2 with h2 | h2
    ·rcases hq with hq | hq
     ·subst hq; simp at e2; exact h2.1 e2.1
     ·rw [h2.2] at hq; simp at hq
    ·omega)
  (fun r e1 e2 => by
    rcases h1 with h1 | h1
    ·rcases hq with hq | hq
     ·subst hq; simp at e2; exact h1.1 e2.1
     ·rw [h1.2] at hq; simp at hq
    ·omega), rfl⟩
theorem HSim.rename {objs : List Obj} {w : World} {g : Gh} (h : HSim objs w g) (id id' sz : Nat) (es : List AV) (hl : lookO objs id = some (sz, es)) (hf : lookO objs id' = none) :
 HSim (setO (dropO objs id) id' sz es) w (gMove g id [] id' []) where
 obj := fun j sz' es' hj => by
  rw [lookO_setO] at hj
  have hne : id ≠ id' := fun e => by rw [e, hf] at hl; simp at hl
  split at hj
  ·rename_i hji
   obtain ⟨rfl, rfl⟩ := Prod.mk.inj (Option.some.inj hj)
   subst hji
   obtain ⟨v, hv⟩ := h.obj id sz es hl
   exact ⟨v, hv.move (gMove_rd g id [] id' [] w) id [] id' [] rfl (fun b r hb => ⟨rfl, gMove_own_to id' [] hb⟩) (fun r => gMove_loc_to g id [] id' [] r)⟩
  ·rename_i hji
   rw [lookO_dropO] at hj
   split at hj
   ·simp at hj
   ·rename_i hji2
    obtain ⟨v, hv⟩ := h.obj j sz' es' hj
    exact ⟨v, hv.stay (gMove_rd g id [] id' [] w) (fun b r hb => ⟨rfl, gMove_own_else hb (fun _ e => absurd e.symm hji2)⟩)
     (fun r => gMove_loc_else (fun _ e => absurd e.symm hji) (fun _ e => absurd e.symm hji2))⟩
 sep := gMove_sep h.sep
 rdlt := ⟨h.rdlt.lt, h.rdlt.gl, h.rdlt.ge⟩
end Go.Proofs.YtiilnlihimdnlaaGreatDoorFw
/- Stores into own trees; trees that are put into others, taken out, frozen. -/
namespace Go.Proofs.YtiilnlihimdnlaaGreatDoorFw
open Go Go.RowKit
theorem at_inj {sz i k i' k' : Nat} (hk : k < sz) (hk' : k' < sz) (h : i * sz + k = i' * sz + k') : i = i' ∧ k = k' := by
 have h1 : (i * sz + k) % sz = k := by rw [Nat.mul_comm, Nat.mul_add_mod, Nat.mod_eq_of_lt hk]
 have h2 : (i' * sz + k') % sz = k' := by rw [Nat.mul_comm, Nat.mul_add_mod, Nat.mod_eq_of_lt hk']
 have hkk : k = k' := by rw [← h1, ← h2, h]
 subst hkk
 exact ⟨Nat.eq_of_mul_eq_mul_right (by omega : 0 < sz) (by omega), rfl⟩
theorem set_cells {es : List AV} {i k : Nat} {x y y0 : AV} (hx : es[i]? = some x) (hy0 : x.cells[k]? = some y0) (hy : y.cells = [y]) :
 ∀ (i' k' : Nat) (x' y' : AV), (es.set i (x.setC k y))[i']? = some x' → x'.cells[k']? = some y' →
  ∃ x0 z0, es[i']? = some x0 ∧ x0.cells[k']? = some z0 ∧ ((i' = i ∧ k' = k ∧ y' = y) ∨ (¬ (i' = i ∧ k' = k) ∧ y' = z0)) := by
 intro i' k' x' y' hx' hy'
 by_cases hi : i' = i
 ·subst hi
  rw [List.getElem?_set_self (lt_of_get hx)] at hx'
  obtain rfl := Option.some.inj hx'
  rw [setC_cells _ _ _ hy (lt_of_get hy0)] at hy'
  by_cases hkk : k' = k
  ·subst hkk
   rw [if_pos rfl] at hy'
   exact ⟨x, _, hx, hy0, .inl ⟨rfl, rfl, (Option.some.inj hy').symm⟩⟩
  ·rw [if_neg hkk] at hy'
   exact ⟨x, y', hx, hy', .inr ⟨fun h => hkk h.2, rfl⟩⟩
 ·rw [List.getElem?_set_ne (by omega)] at hx'
  exact ⟨x', y', hx', hy', .inr ⟨fun h => hi h.1, rfl⟩⟩
theorem set_width {es : List AV} {i k sz : Nat} {x y : AV} (hx : es[i]? = some x) (hy : y.cells = [y]) (hw : ∀ (j : Nat) (z : AV), es[j]? = some z → z.width = sz) :
 ∀ (j : Nat) (z : AV), (es.set i (x.setC k y))[j]? = some z → z.width = sz := by
 intro j z hz
 by_cases hi : j = i
 ·subst hi
  rw [List.getElem?_set_self (lt_of_get hx)] at hz
  obtain rfl := Option.some.inj hz
  rw [setC_width _ _ _ hy]
  exact hw _ _ hx
 ·rw [List.getElem?_set_ne (by omega)] at hz
  exact hw _ _ hz
theorem Cell.node {g : Gh} {w : World} {id : Nat} {q : Path} {sz : Nat} {es : List AV} {v : Value} (h : Cell g w (.at id q) (.row .own sz es) v) {i : Nat} {x : AV} (hx : es[i]? = some x) :
 ∃ (b c : Nat) (cur : Array Value) (e : TypeId) (us : Nat → Value), v = .slice (some ⟨b, 0, none⟩) es.length c ∧ g.loc id q = some (b, c, es.length) ∧ g.own b = some (id, q) ∧ w.heap[b]? = some (.cells cur e (0, 0)) ∧ es.length ≤ c ∧ c ≤ maxLen ∧ cur.size = c * sz ∧
  (∀ (i : Nat) (x : AV), es[i]? = some x → x.width = sz) ∧
  (∀ (i k : Nat) (x y : AV), es[i]? = some x → x.cells[k]? = some y → cur[i * sz + k]? = some (us (i * sz + k))) ∧
  (∀ (i k : Nat) (x y : AV), es[i]? = some x → x.cells[k]? = some y → Cell g w (.at id (q ++ [(i, k)])) y (us (i * sz + k))) := by
 cases h with
 | rd _ _ _ _ a c us hp hm => exact hm.elim
 | emp _ _ _ a c hm => exact absurd rfl hm
 | ownNil => simp at hx
 | own _ _ _ _ b c cur e us hl ho hb hn' hm hz hw hc ht => exact ⟨b, c, cur, e, us, rfl, hl, ho, hb, hn', hm, hz, hw, hc, ht⟩
def gKill (g : Gh) (id : Nat) (p : Path) : Gh :=
 { g with loc := fun j q => if j = id then (match stripP p q with | some _ => none | none => g.loc j q) else g.loc j q }
theorem gKill_at (g : Gh) (id : Nat) (p r : Path) : (gKill g id p).loc id (p ++ r) = none := by simp [gKill, stripP_app]
theorem gKill_else {g : Gh} {id : Nat} {p : Path} {j : Nat} {q : Path} (h : ∀ r, j = id → q ≠ p ++ r) : (gKill g id p).loc j q = g.loc j q := by
 simp only [gKill]
 split
 ·rename_i e
  cases hs : stripP p q with
  | none => rfl
  | some r => exact absurd (stripP_some hs) (h r e)
 ·rfl
def solid : AV → Bool
 | .row .own _ _ => false
 | _ => true
def gSt (b : Bool) (g : Gh) (id : Nat) (p : Path) : Gh := { g with loc := fun j q => if b = true then g.loc j q else (gKill g id p).loc j q }
theorem gSt_else {b : Bool} {g : Gh} {id : Nat} {p : Path} {j : Nat} {q : Path} (h : ∀ r, j = id → q ≠ p ++ r) : (gSt b g id p).loc j q = g.loc j q := by
 cases b
 ·exact gKill_else h
 ·rfl
theorem Flat.cellSt {g g' : Gh} {w w' : World} {y : AV} {u : Value} (hr : RdKeep g w g' w') (h : Flat g w y u) {id : Nat} {p : Path} (hg : g'.loc id p = (gSt (solid y) g id p).loc id p) : Cell g' w' (.at id p) y u := by
 rcases h with ⟨sz, rfl, rfl⟩ | h
 ·refine .ownNil _ _ _ ?_
  rw [hg]
  have := gKill_at g id p []
  rw [List.append_nil] at this
  exact this
 ·exact (h.still hr (fun _ _ => by simp)).anywhere _ (by simp)
theorem snoc_ne (q r : Path) (ik : Nat × Nat) : q ≠ q ++ [ik] ++ r := by
 intro e
 have := congrArg List.length e
 simp at this
theorem snoc_inj {q r s : Path} {a b : Nat × Nat} (h : q ++ [a] ++ r = q ++ [b] ++ s) : a = b := by simp at h; exact h.1
theorem cells_setCell {w : World} {b o : Nat} {cur : Array Value} {e : TypeId} (hb : w.heap[b]? = some (.cells cur e (0, 0))) (u : Value) :
 (w.setCell ⟨b, o, none⟩ u).heap[b]? = some (.cells (cur.setIfInBounds o u) e (0, 0)) := by
 simp [World.setCell, Array.getElem?_modify, hb]
theorem heap_setCell_ne {w : World} {a : Addr} {u : Value} {k : Nat} (h : k ≠ a.block) : (w.setCell a u).heap[k]? = w.heap[k]? := Below.heap_setCell w a u k h
theorem cell_of_block {w : World} {b o : Nat} {cur : Array Value} {e : TypeId} (hb : w.heap[b]? = some (.cells cur e (0, 0))) : w.cell? ⟨b, o, none⟩ = cur[o]? := by
 simp [World.cell?, hb]
theorem frozen_of_block {w : World} {b o : Nat} {cur : Array Value} {e : TypeId} (hb : w.heap[b]? = some (.cells cur e (0, 0))) : w.frozen? ⟨b, o, none⟩ = false := by
 simp [World.frozen?, hb]
theorem HSim.store {objs : List Obj} {w : World} {g : Gh} (h : HSim objs w g) {id : Nat} {q : Path} {rsz : Nat} {res : List AV} {sz : Nat} {es : List AV}
 (hl : lookO objs id = some (rsz, res)) (hn : navG res rsz q = some (sz, es)) {i k : Nat} {x y0 : AV} (hx : es[i]? = some x) (hy0 : x.cells[k]? = some y0)
 {y : AV} {u : Value} (hy : y.cells = [y]) (hf : Flat g w y u) :
 ∃ b c cur e, g.loc id q = some (b, c, es.length) ∧ g.own b = some (id, q) ∧ w.heap[b]? = some (.cells cur e (0, 0)) ∧ i * sz + k < cur.size ∧
  HSim (setO objs id rsz (navSet res q (es.set i (x.setC k y)))) (w.setCell ⟨b, i * sz + k, none⟩ u) (gSt (solid y) g id (q ++ [(i, k)])) ∧
  RdKeep g w (gSt (solid y) g id (q ++ [(i, k)])) (w.setCell ⟨b, i * sz + k, none⟩ u) := by
 obtain ⟨rv, hroot⟩ := h.obj id rsz res hl
 obtain ⟨v', hnode⟩ := Cell.nav q [] rsz res rv sz es hroot hn
 obtain ⟨b, c, cur, e, us, rfl, hloc, hown, hb, hlc, hcm, hcz, hw, hc, ht⟩ := hnode.node hx
 simp only [List.nil_append] at hloc hown ht
 have hlt : i * sz + k < cur.size := by
  have := hc i k x y0 hx hy0
  rcases Nat.lt_or_ge (i * sz + k) cur.size with h' | h'
  ·exact h'
  ·simp [Array.getElem?_eq_none h'] at this
 have hwx := hw i x hx
 have hsep := h.sep b _ hown
 have hr : RdKeep g w (gSt (solid y) g id (q ++ [(i, k)])) (w.setCell ⟨b, i * sz + k, none⟩ u) := by
  refine ⟨fun b' hb' => ⟨hb', heap_setCell_ne ?_⟩, fun b' hb' => ⟨.inr hb', heap_setCell_ne ?_⟩⟩
  ·intro e; simp only at e; subst e; exact hsep.1 hb'
  ·intro e; simp only at e; subst e; exact hsep.2.1 hb'
 refine ⟨b, c, cur, e, hloc, hown, hb, hlt, ⟨?_, ?_, ?_⟩, hr⟩
 ·intro j sz' es' hj
  rw [lookO_setO] at hj
  split at hj
  ·rename_i hji
   obtain ⟨rfl, rfl⟩ := Prod.mk.inj (Option.some.inj hj)
   subst hji
   refine ⟨rv, Cell.upd hr q [] rsz res rv sz es _ hroot hn ?_ ?_ ?_⟩
   ·intro v' hv'
    obtain ⟨b2, c2, cur2, e2, us2, rfl, hloc2, hown2, hb2, hlc2, hcm2, hcz2, hw2, hc2, ht2⟩ := hv'.node hx
    simp only [List.nil_append] at hloc2 hown2 ht2 ⊢
    have hbc := hloc2.symm.trans hloc; simp only [Option.some.injEq, Prod.mk.injEq] at hbc; obtain ⟨rfl, rfl, _⟩ := hbc
    have hcur : cur2 = cur := by
     have := hb2.symm.trans hb
     simp only [Option.some.injEq, Go.Obj.cells.injEq] at this
     exact this.1
    subst hcur
    have hlen : (es.set i (x.setC k y)).length = es.length := List.length_set
    rw [← hlen]
    refine .own _ _ _ _ b2 c2 (cur2.setIfInBounds (i * sz + k) u) e (fun j => if j = i * sz + k then u else us2 j) ?_ hown2 (cells_setCell hb u) (by rw [hlen]; exact hlc2) hcm2 (by simpa using hcz2) ?_ ?_ ?_
    ·rw [gSt_else (fun r _ => snoc_ne q r (i, k)), hlen]; exact hloc2
    ·exact set_width hx hy hw2
    ·intro i' k' x' y' hx' hy'
     obtain ⟨x0, z0, h1, h2, h3⟩ := set_cells hx hy0 hy i' k' x' y' hx' hy'
     by_cases he : i' * sz + k' = i * sz + k
     ·rw [he]; simp [hlt]
     ·rw [Array.getElem?_setIfInBounds_ne (fun e => he e.symm), hc2 i' k' x0 z0 h1 h2]; simp [he]
    ·intro i' k' x' y' hx' hy'
     obtain ⟨x0, z0, h1, h2, h3⟩ := set_cells hx hy0 hy i' k' x' y' hx' hy'
     rcases h3 with ⟨rfl, rfl, rfl⟩ | ⟨hne, rfl⟩
     ·simp only [if_true]
      exact hf.cellSt hr rfl
     ·have hk' : k' < sz := by rw [← hw2 i' x0 h1]; exact lt_of_get h2
      have hk : k < sz := by rw [← hwx]; exact lt_of_get hy0
      have hne' : i' * sz + k' ≠ i * sz + k := fun e => hne (at_inj hk' hk e)
      simp only [if_neg hne']
      refine (ht2 i' k' x0 _ h1 h2).stay hr ?_ ?_
      ·intro b' r hb'
       refine ⟨heap_setCell_ne ?_, hb'⟩
       intro e; simp only at e; subst e
       rw [hown2] at hb'
       exact snoc_ne q r (i', k') (Prod.mk.inj (Option.some.inj hb')).2
      ·intro r
       exact gSt_else (fun s _ e => hne (Prod.mk.inj (snoc_inj e)))
   ·intro b' q' hb' hq'
    refine ⟨heap_setCell_ne ?_, hb'⟩
    intro e; simp only at e; subst e
    rw [hown] at hb'
    have := (Prod.mk.inj (Option.some.inj hb')).2
    exact hq' [] (by simp [← this])
   ·intro q' hq'
    exact gSt_else (fun r _ e => hq' ([(i, k)] ++ r) (by simpa using e))
  ·rename_i hji
   obtain ⟨v, hv⟩ := h.obj j sz' es' hj
   refine ⟨v, hv.stay hr ?_ ?_⟩
   ·intro b' r hb'
    refine ⟨heap_setCell_ne ?_, hb'⟩
    intro e; simp only at e; subst e
    rw [hown] at hb'
    exact hji (Prod.mk.inj (Option.some.inj hb')).1
   ·intro r; exact gSt_else (fun _ e => absurd e.symm hji)
 ·intro b' p hb'
  have := h.sep b' p hb'
  exact ⟨this.1, this.2.1, by simpa [World.setCell] using this.2.2⟩
 ·refine h.rdlt.move ?_ fun b' hb' => ?_
  ·first | assumption | exact hr
  have := h.rdlt b' hb'
  simpa [World.setCell] using this
theorem HSim.plug {objs : List Obj} {w : World} {g : Gh} (h : HSim objs w g) {id : Nat} {q : Path} {rsz : Nat} {res : List AV} {sz : Nat} {es : List AV}
 (hl : lookO objs id = some (rsz, res)) (hn : navG res rsz q = some (sz, es)) {i k : Nat} {x : AV} (hx : es[i]? = some x) (hy0 : x.cells[k]? = some .dead)
 {tid tsz : Nat} {tes : List AV} (ht : lookO objs tid = some (tsz, tes)) (hne : tid ≠ id)
 {b c l : Nat} (hloc : g.loc id q = some (b, c, l)) {u : Value} (hu : w.cell? ⟨b, i * sz + k, none⟩ = some u)
 (hhead : ∀ v, Cell g w (.at tid []) (.row .own tsz tes) v → u = v) :
 HSim (setO (dropO objs tid) id rsz (navSet res q (es.set i (x.setC k (.row .own tsz tes))))) w (gMove g tid [] id (q ++ [(i, k)])) := by
 obtain ⟨rv, hroot⟩ := h.obj id rsz res hl
 obtain ⟨tv, htree⟩ := h.obj tid tsz tes ht
 obtain rfl := hhead _ htree
 have hr := gMove_rd g tid [] id (q ++ [(i, k)]) w
 refine ⟨?_, gMove_sep h.sep, ⟨h.rdlt.lt, h.rdlt.gl, h.rdlt.ge⟩⟩
 intro j sz' es' hj
 rw [lookO_setO] at hj
 split at hj
 ·rename_i hji
  obtain ⟨rfl, rfl⟩ := Prod.mk.inj (Option.some.inj hj)
  subst hji
  refine ⟨rv, Cell.upd hr q [] rsz res rv sz es _ hroot hn ?_ ?_ ?_⟩
  ·intro v' hv'
   obtain ⟨b2, c2, cur2, e2, us2, rfl, hloc2, hown2, hb2, hlc2, hcm2, hcz2, hw2, hc2, ht2⟩ := hv'.node hx
   simp only [List.nil_append] at hloc2 hown2 ht2 ⊢
   have hbc := hloc2.symm.trans hloc; simp only [Option.some.injEq, Prod.mk.injEq] at hbc; obtain ⟨rfl, rfl, _⟩ := hbc
   have hus : us2 (i * sz + k) = u := by
    have h1 := hc2 i k x .dead hx hy0
    rw [cell_of_block hb2, h1] at hu
    exact Option.some.inj hu
   have hlen : (es.set i (x.setC k (.row .own tsz tes))).length = es.length := List.length_set
   rw [← hlen]
   refine .own _ _ _ _ b2 c2 cur2 e2 us2 ?_ (gMove_own_else hown2 (fun _ e => absurd e.symm hne)) hb2 (by rw [hlen]; exact hlc2) hcm2 hcz2 ?_ ?_ ?_
   ·rw [gMove_loc_else (fun r _ => snoc_ne q r (i, k)) (fun _ e => absurd e.symm hne), hlen]; exact hloc2
   ·exact set_width hx rfl hw2
   ·intro i' k' x' y' hx' hy'
    obtain ⟨x0, z0, h1, h2, h3⟩ := set_cells hx hy0 rfl i' k' x' y' hx' hy'
    exact hc2 i' k' x0 z0 h1 h2
   ·intro i' k' x' y' hx' hy'
    obtain ⟨x0, z0, h1, h2, h3⟩ := set_cells hx hy0 rfl i' k' x' y' hx' hy'
    rcases h3 with ⟨rfl, rfl, rfl⟩ | ⟨hne2, rfl⟩
    ·rw [hus]
     exact (htree.move hr tid [] id (q ++ [(i', k')]) rfl (fun b r hb => ⟨rfl, gMove_own_to id _ hb⟩) (fun r => gMove_loc_to g tid [] id _ r))
    ·refine (ht2 i' k' x0 _ h1 h2).stay hr ?_ ?_
     ·intro b' r hb'
      exact ⟨rfl, gMove_own_else hb' (fun _ e => absurd e.symm hne)⟩
     ·intro r
      exact gMove_loc_else (fun s _ e => hne2 (Prod.mk.inj (snoc_inj e))) (fun _ e => absurd e.symm hne)
  ·intro b' q' hb' hq'
   exact ⟨rfl, gMove_own_else hb' (fun _ e => absurd e.symm hne)⟩
  ·intro q' hq'
   exact gMove_loc_else (fun r _ e => hq' ([(i, k)] ++ r) (by simpa using e)) (fun _ e => absurd e.symm hne)
 ·rename_i hji
  rw [lookO_dropO] at hj
  split at hj
  ·simp at hj
  ·rename_i hji2
   obtain ⟨v, hv⟩ := h.obj j sz' es' hj
   exact ⟨v, hv.stay hr (fun b r hb => ⟨rfl, gMove_own_else hb (fun _ e => absurd e.symm hji2)⟩)
    (fun r => gMove_loc_else (fun _ e => absurd e.symm hji) (fun _ e => absurd e.symm hji2))⟩
theorem HSim.detach {objs : List Obj} {w : World} {g : Gh} (h : HSim objs w g) {id : Nat} {q : Path} {rsz : Nat} {res : List AV} {sz : Nat} {es : List AV}
 (hl : lookO objs id = some (rsz, res)) (hn : navG res rsz q = some (sz, es)) {i k : Nat} {x : AV} {tsz : Nat} {tes : List AV} (hx : es[i]? = some x) (hy0 : x.cells[k]? = some (.row .own tsz tes))
 {tid : Nat} (hf : lookO objs tid = none) :
 HSim (setO (setO objs id rsz (navSet res q (es.set i (x.setC k .dead)))) tid tsz tes) w (gMove g id (q ++ [(i, k)]) tid []) := by
 have hne : tid ≠ id := fun e => by rw [e, hl] at hf; simp at hf
 obtain ⟨rv, hroot⟩ := h.obj id rsz res hl
 have hr := gMove_rd g id (q ++ [(i, k)]) tid [] w
 obtain ⟨v', hnode⟩ := Cell.nav q [] rsz res rv sz es hroot hn
 obtain ⟨b, c, cur, e, us, rfl, hloc, hown, hb, hlc, hcm, hcz, hw, hc, htt⟩ := hnode.node hx
 simp only [List.nil_append] at hloc hown htt
 refine ⟨?_, gMove_sep h.sep, ⟨h.rdlt.lt, h.rdlt.gl, h.rdlt.ge⟩⟩
 intro j sz' es' hj
 rw [lookO_setO] at hj
 split at hj
 ·rename_i hji
  obtain ⟨rfl, rfl⟩ := Prod.mk.inj (Option.some.inj hj)
  subst hji
  exact ⟨_, (htt i k x _ hx hy0).move hr id (q ++ [(i, k)]) tid [] rfl (fun b r hb => ⟨rfl, gMove_own_to tid [] hb⟩) (fun r => gMove_loc_to g id _ tid [] r)⟩
 ·rename_i hji
  rw [lookO_setO] at hj
  split at hj
  ·rename_i hji2
   obtain ⟨rfl, rfl⟩ := Prod.mk.inj (Option.some.inj hj)
   subst hji2
   refine ⟨rv, Cell.upd hr q [] rsz res rv sz es _ hroot hn ?_ ?_ ?_⟩
   ·intro v' hv'
    obtain ⟨b2, c2, cur2, e2, us2, rfl, hloc2, hown2, hb2, hlc2, hcm2, hcz2, hw2, hc2, ht2⟩ := hv'.node hx
    simp only [List.nil_append] at hloc2 hown2 ht2 ⊢
    have hlen : (es.set i (x.setC k .dead)).length = es.length := List.length_set
    rw [← hlen]
    refine .own _ _ _ _ b2 c2 cur2 e2 us2 ?_ (gMove_own_else hown2 (fun r _ => snoc_ne q r (i, k))) hb2 (by rw [hlen]; exact hlc2) hcm2 hcz2 ?_ ?_ ?_
    ·rw [gMove_loc_else (fun _ e => absurd e.symm hne) (fun r _ => snoc_ne q r (i, k)), hlen]; exact hloc2
    ·exact set_width hx rfl hw2
    ·intro i' k' x' y' hx' hy'
     obtain ⟨x0, z0, h1, h2, h3⟩ := set_cells hx hy0 rfl i' k' x' y' hx' hy'
     exact hc2 i' k' x0 z0 h1 h2
    ·intro i' k' x' y' hx' hy'
     obtain ⟨x0, z0, h1, h2, h3⟩ := set_cells hx hy0 rfl i' k' x' y' hx' hy'
     rcases h3 with ⟨rfl, rfl, rfl⟩ | ⟨hne2, rfl⟩
     ·exact .dead _ _ (ht2 i' k' x0 _ h1 h2).one
     ·have hne3 : ∀ r s : Path, q ++ [(i', k')] ++ r ≠ q ++ [(i, k)] ++ s := fun r s e => hne2 (Prod.mk.inj (snoc_inj e))
      exact (ht2 i' k' x0 _ h1 h2).stay hr (fun b' r hb' => ⟨rfl, gMove_own_else hb' (fun s _ => hne3 r s)⟩) (fun r => gMove_loc_else (fun _ e => absurd e.symm hne) (fun s _ => hne3 r s))
   ·intro b' q' hb' hq'
    exact ⟨rfl, gMove_own_else hb' (fun r _ e => hq' ([(i, k)] ++ r) (by simpa using e))⟩
   ·intro q' hq'
    exact gMove_loc_else (fun _ e => absurd e.symm hne) (fun r _ e => hq' ([(i, k)] ++ r) (by simpa using e))
  ·rename_i hji2
   obtain ⟨v, hv⟩ := h.obj j sz' es' hj
   exact ⟨v, hv.stay hr (fun b r hb => ⟨rfl, gMove_own_else hb (fun _ e => absurd e.symm hji2)⟩)
    (fun r => gMove_loc_else (fun _ e => absurd e.symm hji) (fun _ e => absurd e.symm hji2))⟩
end Go.Proofs.YtiilnlihimdnlaaGreatDoorFw
/- Slots: what they hold under changes of the memory; frozen and lent values. -/
namespace Go.Proofs.YtiilnlihimdnlaaGreatDoorFw
open Go Go.RowKit
mutual
def mapRef (f : Nat → Path → Option (Nat × Path)) : AV → AV
 | .hd id q => match f id q with | some (i, p) => .hd i p | none => .dead
 | .ref id q sz off n => match f id q with | some (i, p) => .ref i p sz off n | none => .dead
 | .ptr id q sz i k => match f id q with | some (j, p) => .ptr j p sz i k | none => .dead
 | .agg cs => .agg (mapRefL f cs)
 | .tup cs => .tup (mapRefL f cs)
 | .fn g cs => .fn g (mapRefL f cs)
 | .int k n => .int k n
 | .bool b => .bool b
 | .str s => .str s
 | .nilI => .nilI
 | .ifc c => .ifc c
 | .nilP => .nilP
 | .nilS => .nilS
 | .row m sz es => .row m sz es
 | .rp m cs => .rp m cs
 | .vp cs => .vp (mapRefL f cs)
 | .dead => .dead
def mapRefL (f : Nat → Path → Option (Nat × Path)) : List AV → List AV
 | [] => []
 | x :: r => mapRef f x :: mapRefL f r
end
theorem mapRefL_get (f : Nat → Path → Option (Nat × Path)) (l : List AV) (k : Nat) : (mapRefL f l)[k]? = (l[k]?).map (mapRef f) := by
 induction l generalizing k with
 | nil => simp [mapRefL]
 | cons x r ih => cases k <;> simp [mapRefL, ih]
theorem mapRefL_length (f : Nat → Path → Option (Nat × Path)) (l : List AV) : (mapRefL f l).length = l.length := by
 induction l with
 | nil => rfl
 | cons x r ih => simp [mapRefL, ih]
theorem mapRefL_agg {P : AV → Value → Prop} {f : Nat → Path → Option (Nat × Path)} {cs : List AV} {vs : Array Value}
 (ih : ∀ (k : Nat) (c : AV) (u : Value), cs[k]? = some c → vs[k]? = some u → P (mapRef f c) u) :
 ∀ (k : Nat) (c : AV) (u : Value), (mapRefL f cs)[k]? = some c → vs[k]? = some u → P c u := by
 intro k c u hc hu
 rw [mapRefL_get] at hc
 cases h : cs[k]? with
 | none => simp [h] at hc
 | some y =>
  rw [h] at hc
  simp only [Option.map_some, Option.some.injEq] at hc
  subst hc
  exact ih k y u h hu
theorem Val.map {g g' : Gh} {w w' : World} (hr : RdKeep g w g' w') {f : Nat → Path → Option (Nat × Path)}
 (hf : ∀ id q id' q', f id q = some (id', q') → g'.loc id' q' = g.loc id q) {x : AV} {v : Value} (h : Val g w x v) : Val g' w' (mapRef f x) v := by
 induction h with
 | cell x v h =>
  have h' := h.still hr (fun _ _ => by simp)
  cases h <;> exact .cell _ _ h'
 | nilS => exact .nilS
 | nilP => exact .nilP
 | agg cs vs hl h ih => exact .agg _ _ (by rw [mapRefL_length]; exact hl) (mapRefL_agg ih)
 | tup cs vs hl h ih => exact .tup _ _ (by rw [mapRefL_length]; exact hl) (mapRefL_agg ih)
 | fn f' cs vs hl h ih => exact .fn _ _ _ (by rw [mapRefL_length]; exact hl) (mapRefL_agg ih)
 | hd id q b c n hl =>
  simp only [mapRef]
  cases hq : f id q with
  | none => exact .dead _
  | some ip => exact .hd _ _ b c n (by rw [hf _ _ _ _ hq]; exact hl)
 | hdNil id q hl =>
  simp only [mapRef]
  cases hq : f id q with
  | none => exact .dead _
  | some ip => exact .hdNil _ _ (by rw [hf _ _ _ _ hq]; exact hl)
 | ref id q sz off n b cap len c a hl hc hn ha =>
  simp only [mapRef]
  cases hq : f id q with
  | none => exact .dead _
  | some ip => exact .ref _ _ _ _ _ b cap len c a (by rw [hf _ _ _ _ hq]; exact hl) hc hn ha
 | refNil id q sz hl =>
  simp only [mapRef]
  cases hq : f id q with
  | none => exact .dead _
  | some ip => exact .refNil _ _ _ (by rw [hf _ _ _ _ hq]; exact hl)
 | ptr id q sz i k b cap len hl =>
  simp only [mapRef]
  cases hq : f id q with
  | none => exact .dead _
  | some ip => exact .ptr _ _ _ _ _ b cap len (by rw [hf _ _ _ _ hq]; exact hl)
 | rp m cs a us hm hs hc ht =>
  exact .rp _ _ _ us (hr.rd hm).1 hs (fun k y hy => (cell?_heap (by rw [add_block]; exact (hr.rd hm).2)).trans (hc k y hy)) (fun k y hy => (ht k y hy).still hr (by intro id q; cases m <;> simp [Md.pl]))
 | vp cs a us hm hs hc ht ih =>
  refine .vp _ _ us (hr.perm _ hm).1 hs ?_ ?_
  ·intro k y hy
   rw [mapRefL_get] at hy
   cases h : cs[k]? with
   | none => simp [h] at hy
   | some z => exact (cell?_heap (by rw [add_block]; exact (hr.perm _ hm).2)).trans (hc k z h)
  ·intro k y hy
   rw [mapRefL_get] at hy
   cases h : cs[k]? with
   | none => simp [h] at hy
   | some z =>
    rw [h] at hy
    simp only [Option.map_some, Option.some.injEq] at hy
    subst hy
    exact ih k z h
 | dead v => exact .dead _
theorem Val.same {g g' : Gh} {w w' : World} (hr : RdKeep g w g' w') (hl : ∀ id q, g'.loc id q = g.loc id q) {x : AV} {v : Value} (h : Val g w x v) : Val g' w' x v := by
 induction h with
 | cell x v h => exact .cell _ _ (h.still hr (fun _ _ => by simp))
 | nilS => exact .nilS
 | nilP => exact .nilP
 | agg cs vs hl' h ih => exact .agg _ _ hl' ih
 | tup cs vs hl' h ih => exact .tup _ _ hl' ih
 | fn f' cs vs hl' h ih => exact .fn _ _ _ hl' ih
 | hd id q b c n h1 => exact .hd _ _ b c n (by rw [hl]; exact h1)
 | hdNil id q h1 => exact .hdNil _ _ (by rw [hl]; exact h1)
 | ref id q sz off n b cap len c a h1 hc hn ha => exact .ref _ _ _ _ _ b cap len c a (by rw [hl]; exact h1) hc hn ha
 | refNil id q sz h1 => exact .refNil _ _ _ (by rw [hl]; exact h1)
 | ptr id q sz i k b cap len h1 => exact .ptr _ _ _ _ _ b cap len (by rw [hl]; exact h1)
 | rp m cs a us hm hs hc ht =>
  exact .rp _ _ _ us (hr.rd hm).1 hs (fun k y hy => (cell?_heap (by rw [add_block]; exact (hr.rd hm).2)).trans (hc k y hy)) (fun k y hy => (ht k y hy).still hr (by intro id q; cases m <;> simp [Md.pl]))
 | vp cs a us hm hs hc ht ih =>
  exact .vp _ _ us (hr.perm _ hm).1 hs (fun k y hy => (cell?_heap (by rw [add_block]; exact (hr.perm _ hm).2)).trans (hc k y hy)) ih
 | dead v => exact .dead _
/-! ### slots -/
def putS : List (Nat × AV) → Nat → AV → List (Nat × AV)
 | [], t, x => [(t, x)]
 | (u, y) :: r, t, x => if u = t then (t, x) :: r else (u, y) :: putS r t x
theorem lookS_putS (l : List (Nat × AV)) (t : Nat) (x : AV) (u : Nat) : lookS (putS l t x) u = if t = u then some x else lookS l u := by
 induction l with
 | nil => simp [putS, lookS]
 | cons p r ih =>
  obtain ⟨t', y⟩ := p
  simp only [putS]
  split
  ·rename_i h
   subst h
   simp only [lookS]
   split <;> rfl
  ·rename_i h
   simp only [lookS, ih]
   by_cases h1 : t' = u
   ·rw [if_pos h1, if_neg (by omega), if_pos h1]
   ·rw [if_neg h1, if_neg h1]
def mapS (f : Nat → Path → Option (Nat × Path)) : List (Nat × AV) → List (Nat × AV)
 | [] => []
 | (t, x) :: r => (t, mapRef f x) :: mapS f r
theorem lookS_mapS (f : Nat → Path → Option (Nat × Path)) (l : List (Nat × AV)) (t : Nat) : lookS (mapS f l) t = (lookS l t).map (mapRef f) := by
 induction l with
 | nil => rfl
 | cons p r ih =>
  obtain ⟨u, x⟩ := p
  simp only [mapS, lookS]
  split
  ·rfl
  ·exact ih
def St.put (s : St) (d : Option Nat) (x : AV) : St :=
 match d with
 | some d => { s with slots := putS s.slots d x }
 | none => s
def St.fits (s : St) (d : Option Nat) : Bool :=
 match d with
 | some d => decide (d < s.nt)
 | none => true
theorem act_put_get {a : Act} {d t : Nat} {v : Value} : (a.put (some d) v).tmps[t]? = if d = t then (if d < a.tmps.size then some v else none) else a.tmps[t]? := by
 simp only [Act.put, Array.getElem?_setIfInBounds]
theorem act_put_size {a : Act} {d : Option Nat} {v : Value} : (a.put d v).tmps.size = a.tmps.size := by cases d <;> simp [Act.put]
theorem act_put_defers {a : Act} {d : Option Nat} {v : Value} : (a.put d v).defers = a.defers := by cases d <;> simp [Act.put]
theorem Sim.put {s : St} {a : Act} {w : World} {g : Gh} (h : Sim s a w g) {d : Option Nat} (hd : s.fits d = true) {x : AV} {v : Value} (hv : Val g w x v) : Sim (s.put d x) (a.put d v) w g := by
 cases d with
 | none => exact h
 | some d =>
  simp only [St.fits, decide_eq_true_eq] at hd
  refine ⟨by rw [act_put_size]; exact h.nt, by rw [act_put_defers]; exact h.defers, ?_, h.h, h.st⟩
  intro t y hy
  simp only [St.put, lookS_putS] at hy
  rw [act_put_get]
  split at hy
  ·rename_i e
   obtain rfl := Option.some.inj hy
   exact ⟨v, by rw [if_pos e, if_pos (by rw [h.nt]; exact hd)], hv⟩
  ·rename_i e
   obtain ⟨u, hu, hval⟩ := h.slot t y hy
   exact ⟨u, by rw [if_neg e]; exact hu, hval⟩
theorem Sim.turn {s : St} {a : Act} {w w' : World} {g g' : Gh} (h : Sim s a w g) (hr : RdKeep g w g' w') {f : Nat → Path → Option (Nat × Path)}
 (hf : ∀ id q id' q', f id q = some (id', q') → g'.loc id' q' = g.loc id q) {objs : List Obj} (ho : HSim objs w' g') (hst : g'.st = g.st := by rfl) :
 Sim { s with slots := mapS f s.slots, objs := objs } a w' g' := by
 refine ⟨h.nt, h.defers, ?_, ho, h.st.trans hst.symm⟩
 intro t x hx
 simp only [lookS_mapS] at hx
 cases hy : lookS s.slots t with
 | none => simp [hy] at hx
 | some y =>
  rw [hy] at hx
  simp only [Option.map_some, Option.some.injEq] at hx
  subst hx
  obtain ⟨v, hv, hval⟩ := h.slot t y hy
  exact ⟨v, hv, hval.map hr hf⟩
theorem Sim.turnSame {s : St} {a : Act} {w w' : World} {g g' : Gh} (h : Sim s a w g) (hr : RdKeep g w g' w') (hl : ∀ id q, g'.loc id q = g.loc id q) {objs : List Obj} (ho : HSim objs w' g') (hst : g'.st = g.st := by rfl) :
 Sim { s with objs := objs } a w' g' :=
 ⟨h.nt, h.defers, fun t x hx => let ⟨v, hv, hval⟩ := h.slot t x hx; ⟨v, hv, hval.same hr hl⟩, ho, h.st.trans hst.symm⟩
/-! ### frozen and lent -/
mutual
def frz : AV → AV
 | .row .own sz es => .row .ro sz (frzL es)
 | .row m sz es => .row m sz es
 | .agg cs => .agg (frzL cs)
 | .tup cs => .tup cs
 | .fn g cs => .fn g cs
 | .hd id q => .hd id q
 | .ref id q sz off n => .ref id q sz off n
 | .ptr id q sz i k => .ptr id q sz i k
 | .int k n => .int k n
 | .bool b => .bool b
 | .str s => .str s
 | .nilI => .nilI
 | .ifc c => .ifc c
 | .nilP => .nilP
 | .nilS => .nilS
 | .rp m cs => .rp m cs
 | .vp cs => .vp cs
 | .dead => .dead
def frzL : List AV → List AV
 | [] => []
 | x :: r => frz x :: frzL r
end
mutual
def brw : AV → AV
 | .row _ sz es => .row .bo sz (brwL es)
 | .agg cs => .agg (brwL cs)
 | .tup cs => .tup cs
 | .fn g cs => .fn g cs
 | .hd id q => .hd id q
 | .ref id q sz off n => .ref id q sz off n
 | .ptr id q sz i k => .ptr id q sz i k
 | .int k n => .int k n
 | .bool b => .bool b
 | .str s => .str s
 | .nilI => .nilI
 | .ifc c => .ifc c
 | .nilP => .nilP
 | .nilS => .nilS
 | .rp m cs => .rp m cs
 | .vp cs => .vp cs
 | .dead => .dead
def brwL : List AV → List AV
 | [] => []
 | x :: r => brw x :: brwL r
end
mutual
def noBo : AV → Bool
 | .row .bo _ [] => true
 | .row .bo _ (_ :: _) => false
 | .row .own _ es => noBoL es
 | .row .ro _ _ => true
 | .agg cs => noBoL cs
 | .tup cs => noBoL cs
 | .fn _ _ => false
 | .hd _ _ => false
 | .ref _ _ _ _ _ => false
 | .ptr _ _ _ _ _ => false
 | .int _ _ => true
 | .bool _ => true
 | .str _ => true
 | .nilI => true
 | .ifc _ => true
 | .nilP => true
 | .nilS => true
 | .rp _ _ => false
 | .vp _ => false
 | .dead => true
def noBoL : List AV → Bool
 | [] => true
 | x :: r => noBo x && noBoL r
end
theorem noBoL_get {l : List AV} (h : noBoL l = true) {i : Nat} {x : AV} (hx : l[i]? = some x) : noBo x = true := by
 induction l generalizing i with
 | nil => simp at hx
 | cons y r ih =>
  simp only [noBoL, Bool.and_eq_true] at h
  cases i with
  | zero => simp at hx; rw [← hx]; exact h.1
  | succ i => exact ih h.2 (by simpa using hx)
theorem noBo_cells {x : AV} (h : noBo x = true) {k : Nat} {y : AV} (hy : x.cells[k]? = some y) : noBo y = true := by
 cases x with
 | agg cs => simp only [noBo] at h; exact noBoL_get h hy
 | _ => cases k <;> simp [AV.cells] at hy; rw [← hy]; exact h
theorem frzL_eq (l : List AV) : frzL l = l.map frz := by
 induction l with
 | nil => rfl
 | cons x r ih => simp [frzL, ih]
theorem brwL_eq (l : List AV) : brwL l = l.map brw := by
 induction l with
 | nil => rfl
 | cons x r ih => simp [brwL, ih]
theorem frz_cells (x : AV) : (frz x).cells = frzL x.cells := by
 cases x with
 | row m sz es => cases m <;> rfl
 | _ => rfl
theorem brw_cells (x : AV) : (brw x).cells = brwL x.cells := by cases x <;> rfl
theorem frz_width (x : AV) : (frz x).width = x.width := by simp [AV.width, frz_cells, frzL_eq]
theorem brw_width (x : AV) : (brw x).width = x.width := by simp [AV.width, brw_cells, brwL_eq]
theorem get_map {f : AV → AV} {l : List AV} {i : Nat} {x : AV} (h : (l.map f)[i]? = some x) : ∃ y, l[i]? = some y ∧ x = f y := by
 rw [List.getElem?_map] at h
 cases hy : l[i]? with
 | none => simp [hy] at h
 | some y => rw [hy] at h; exact ⟨y, rfl, (Option.some.inj h).symm⟩
theorem get_map2 {f : AV → AV} (hf : ∀ x, (f x).cells = x.cells.map f) {l : List AV} {i k : Nat} {x y : AV} (hx : (l.map f)[i]? = some x) (hy : x.cells[k]? = some y) :
 ∃ x0 y0, l[i]? = some x0 ∧ x0.cells[k]? = some y0 ∧ y = f y0 := by
 obtain ⟨x0, h0, rfl⟩ := get_map hx
 rw [hf] at hy
 obtain ⟨y0, h1, rfl⟩ := get_map hy
 exact ⟨x0, y0, h0, h1, rfl⟩
theorem frz_cells' (x : AV) : (frz x).cells = x.cells.map frz := by rw [frz_cells, frzL_eq]
theorem brw_cells' (x : AV) : (brw x).cells = x.cells.map brw := by rw [brw_cells, brwL_eq]
theorem cell?_own {w : World} {b o : Nat} {cur : Array Value} {e : TypeId} (hb : w.heap[b]? = some (.cells cur e (0, 0))) {u : Value} (h : cur[o]? = some u) : w.cell? ((⟨b, 0, none⟩ : Addr).add o) = some u := by
 have : ((⟨b, 0, none⟩ : Addr).add o) = ⟨b, o, none⟩ := by unfold Addr.add; split <;> simp_all
 rw [this, cell_of_block hb, h]
theorem Cell.toFrz {g g' : Gh} {w w' : World} (hr : RdKeep g w g' w') {p : Pl} {x : AV} {v : Value} (h : Cell g w p x v) :
 noBo x = true → (∃ id q, p = .at id q) → (∀ id q, p = .at id q → ∀ b r, g.own b = some (id, q ++ r) → g'.perm b ∧ w'.heap[b]? = w.heap[b]?) → Cell g' w' .ro (frz x) v := by
 induction h with
 | int p k n => intros; exact .int _ _ _
 | bool p b => intros; exact .bool _ _
 | str p s => intros; exact .str _ _
 | nilI p => intros; exact .nilI _
 | ifc p c t v h => intros; exact .ifc _ _ _ _ h
 | dead p v h1 => intros; exact .dead _ _ h1
 | emp p m sz a c hm => intros; cases m <;> first | exact absurd rfl hm | exact .emp _ _ _ _ _ (by simp)
 | rd p m sz es a c us hp hm hs hl hw hc ht ih =>
  intro hb _ _
  cases m with
  | own => exact hm.elim
  | bo =>
   cases es with
   | nil => exact .emp _ _ _ _ _ (by simp)
   | cons x r => simp [noBo] at hb
  | ro =>
  exact .rd _ _ _ _ _ _ us (by simp) (hr.rd hm).1 hs hl hw (fun i k x y hx hy => (cell?_heap (by rw [add_block]; exact (hr.rd hm).2)).trans (hc i k x y hx hy)) (fun i k x y hx hy => (ht i k x y hx hy).still hr (by intro id q; simp [Md.pl]))
 | ownNil => intros; exact .emp _ _ _ _ _ (by simp)
 | own id q sz es b c cur e us hl ho hb hn hm hz hw hc ht ih =>
  intro hb1 _ h1
  have h0 := h1 id q rfl b [] (by simpa using ho)
  simp only [noBo] at hb1
  simp only [frz, frzL_eq]
  have hlen : (es.map frz).length = es.length := by simp
  rw [← hlen]
  refine .rd _ _ _ _ _ _ us (by simp) h0.1 rfl (by simpa using hn) ?_ ?_ ?_
  ·intro i x hx
   obtain ⟨y, hy, rfl⟩ := get_map hx
   rw [frz_width]; exact hw i y hy
  ·intro i k x y hx hy
   obtain ⟨x0, y0, h2, h3, rfl⟩ := get_map2 frz_cells' hx hy
   exact (cell?_own (by rw [h0.2]; exact hb) (hc i k x0 y0 h2 h3))
  ·intro i k x y hx hy
   obtain ⟨x0, y0, h2, h3, rfl⟩ := get_map2 frz_cells' hx hy
   refine ih i k x0 y0 h2 h3 (noBo_cells (noBoL_get hb1 h2) h3) ⟨_, _, rfl⟩ ?_
   intro id' q' e b' r hb'
   obtain ⟨rfl, rfl⟩ := Pl.at.inj e
   exact h1 _ _ rfl b' ((i, k) :: r) (by simpa using hb')
theorem Cell.toBrw {g g' : Gh} {w w' : World} (hr : RdKeep g w g' w') {p : Pl} {x : AV} {v : Value} (h : Cell g w p x v) :
 (∀ id q, p = .at id q → ∀ b r, g.own b = some (id, q ++ r) → g'.canRd b ∧ w'.heap[b]? = w.heap[b]?) → Cell g' w' .bo (brw x) v := by
 induction h with
 | int p k n => intros; exact .int _ _ _
 | bool p b => intros; exact .bool _ _
 | str p s => intros; exact .str _ _
 | nilI p => intros; exact .nilI _
 | ifc p c t v h => intros; exact .ifc _ _ _ _ h
 | dead p v h1 => intros; exact .dead _ _ h1
 | emp p m sz a c hm => intros; exact .emp _ _ _ _ _ (by simp)
 | rd p m sz es a c us hp hm hs hl hw hc ht ih =>
  intro _
  simp only [brw, brwL_eq]
  have hlen : (es.map brw).length = es.length := by simp
  rw [← hlen]
  have hcan : g'.canRd a.block ∧ w'.heap[a.block]? = w.heap[a.block]? := by
   cases m with
   | own => exact hm.elim
   | ro => exact ⟨.inl (hr.perm _ hm).1, (hr.perm _ hm).2⟩
   | bo => exact ⟨(hr.rd hm).1, (hr.rd hm).2⟩
  refine .rd _ _ _ _ _ _ us (by simp) hcan.1 hs (by simpa using hl) ?_ ?_ ?_
  ·intro i x hx
   obtain ⟨y, hy, rfl⟩ := get_map hx
   rw [brw_width]; exact hw i y hy
  ·intro i k x y hx hy
   obtain ⟨x0, y0, h2, h3, rfl⟩ := get_map2 brw_cells' hx hy
   exact (cell?_heap (by rw [add_block]; exact hcan.2)).trans (hc i k x0 y0 h2 h3)
  ·intro i k x y hx hy
   obtain ⟨x0, y0, h2, h3, rfl⟩ := get_map2 brw_cells' hx hy
   exact ih i k x0 y0 h2 h3 (fun id q e => by cases m <;> simp [Md.pl] at e)
 | ownNil => intros; exact .emp _ _ _ _ _ (by simp)
 | own id q sz es b c cur e us hl ho hb hn hm hz hw hc ht ih =>
  intro h1
  have h0 := h1 id q rfl b [] (by simpa using ho)
  simp only [brw, brwL_eq]
  have hlen : (es.map brw).length = es.length := by simp
  rw [← hlen]
  refine .rd _ _ _ _ _ _ us (by simp) h0.1 rfl (by simpa using hn) ?_ ?_ ?_
  ·intro i x hx
   obtain ⟨y, hy, rfl⟩ := get_map hx
   rw [brw_width]; exact hw i y hy
  ·intro i k x y hx hy
   obtain ⟨x0, y0, h2, h3, rfl⟩ := get_map2 brw_cells' hx hy
   exact (cell?_own (by rw [h0.2]; exact hb) (hc i k x0 y0 h2 h3))
  ·intro i k x y hx hy
   obtain ⟨x0, y0, h2, h3, rfl⟩ := get_map2 brw_cells' hx hy
   refine ih i k x0 y0 h2 h3 ?_
   intro id' q' e b' r hb'
   obtain ⟨rfl, rfl⟩ := Pl.at.inj e
   exact h1 _ _ rfl b' ((i, k) :: r) (by simpa using hb')
end Go.Proofs.YtiilnlihimdnlaaGreatDoorFw
/- Types, operands, reading: the first operations over the abstract state. -/
namespace Go.Proofs.YtiilnlihimdnlaaGreatDoorFw
open Go Go.RowKit
inductive TK where
 | int (k : IntKind)
 | bool
 | str
 | slice (e : TypeId)
 | struct (fs : List (Nat × TypeId))
 | arr (n : Nat) (e : TypeId)
 | other
structure TI where
 k : TK
 sz : Nat
 by_ : Nat
 z : List AV
abbrev Tab := TypeId → Option TI
def TKOk (P : Program) (t : TypeId) : TK → Prop
 | .int k => P.underlying t = some (.int k)
 | .bool => P.underlying t = some .bool
 | .str => P.underlying t = some .string
 | .slice e => P.underlying t = some (.slice e)
 | .struct fs => ∃ fields : Array Field, P.underlying t = some (.struct fields) ∧ fields.toList.map (fun f => (f.offset, f.type)) = fs
 | .arr n e => P.underlying t = some (.array n e)
 | .other => ∃ d, P.underlying t = some d ∧ (∀ fs, d ≠ .struct fs) ∧ (∀ n e, d ≠ .array n e)
def ZOk : AV → Value → Prop
 | .int k n, .int k' n' => k = k' ∧ n = n'
 | .bool b, .bool b' => b = b'
 | .str s, .string s' => s' = ⟨⟨s⟩⟩
 | .row .own _ [], .slice none 0 0 => True
 | .nilI, .nilIface => True
 | .dead, u => u.oneCell' = true
 | _, _ => False
structure TIOk (P : Program) (t : TypeId) (ti : TI) : Prop where
 info : ∃ i z, P.info? t = some i ∧ i.size = ti.sz ∧ i.bytes = ti.by_ ∧ i.zero = some z ∧ z.cells.size = ti.sz ∧ ti.z.length = ti.sz ∧
  ∀ (k : Nat) (y : AV), ti.z[k]? = some y → ∃ u, z.cells[k]? = some u ∧ ZOk y u
 kind : TKOk P t ti.k
def TabOk (P : Program) (T : Tab) : Prop := ∀ t ti, T t = some ti → TIOk P t ti
theorem ZOk.flat {g : Gh} {w : World} {y : AV} {u : Value} (h : ZOk y u) : Flat g w y u := by
 cases y with
 | int k n => cases u <;> simp [ZOk] at h; obtain ⟨rfl, rfl⟩ := h; exact .inr (.int _ _ _)
 | bool b => cases u <;> simp [ZOk] at h; subst h; exact .inr (.bool _ _)
 | str s => cases u <;> simp [ZOk] at h; subst h; exact .inr (.str _ _)
 | nilI => cases u <;> simp [ZOk] at h; exact .inr (.nilI _)
 | ifc c => cases u <;> simp [ZOk] at h
 | dead => exact .inr (.dead _ _ (by simpa [ZOk] using h))
 | row m sz es =>
  cases m <;> cases es <;> cases u <;> try (simp [ZOk] at h; done)
  rename_i a l c
  cases a <;> cases l <;> cases c <;> try (simp [ZOk] at h; done)
  exact .inl ⟨sz, rfl, rfl⟩
 | _ => cases u <;> simp [ZOk] at h
def constA : Value → Option AV
 | .int k n => some (.int k n)
 | .bool b => some (.bool b)
 | .string s => some (.str s.data.toList)
 | .slice none 0 0 => some .nilS
 | .pointer none => some .nilP
 | .nilIface => some .nilI
 | _ => none
def St.ev (s : St) : Operand → Option AV
 | .tmp t => lookS s.slots t
 | .const v => constA v
 | .func f => some (.fn f [])
 | .global _ => none
theorem constA_val {g : Gh} {w : World} {v : Value} {x : AV} (h : constA v = some x) : Val g w x v := by
 unfold constA at h
 split at h <;> first | (simp at h; done) | (obtain rfl := Option.some.inj h)
 ·exact .cell _ _ (.int _ _ _)
 ·exact .cell _ _ (.bool _ _)
 ·exact .cell _ _ (.str _ _)
 ·exact .nilS
 ·exact .nilP
 ·exact .cell _ _ (.nilI _)
theorem Sim.ev {s : St} {a : Act} {w : World} {g : Gh} (h : Sim s a w g) {x : Operand} {y : AV} (hx : s.ev x = some y) : Val g w y (a.eval x) := by
 cases x with
 | tmp t =>
  obtain ⟨v, hv, hval⟩ := h.slot t y hx
  have : a.eval (.tmp t) = v := by simp [Act.eval, Array.getD_eq_getD_getElem?, hv]
  rw [this]; exact hval
 | const v => exact constA_val hx
 | func f =>
  obtain rfl := Option.some.inj hx
  exact .fn _ _ _ rfl (fun k c u hc _ => by simp at hc)
 | global g' => simp [St.ev] at hx
def StepOk (P : Program) (o : Oper) (s s' : St) : Prop :=
 ∀ a w g, Sim s a w g → ∃ r a' w' g', (execOp a.eval o).run P w = .ok r w' ∧
  ((∃ v, r = .value v ∧ a' = a.put o.dst v) ∨ (r = .skip ∧ a' = a.put o.dst undef)) ∧ Sim s' a' w' g' ∧ Keep g w g' w'
theorem StepOk.pure {P : Program} {o : Oper} {s : St} {x : AV} (hd : s.fits o.dst = true)
 (h : ∀ a w g, Sim s a w g → ∃ v, (execOp a.eval o).run P w = .ok (.value v) w ∧ Val g w x v) : StepOk P o s (s.put o.dst x) := by
 intro a w g hs
 obtain ⟨v, hv, hx⟩ := h a w g hs
 exact ⟨_, _, _, g, hv, .inl ⟨v, rfl, rfl⟩, hs.put hd hx, Keep.refl g w⟩
def lookA (id : Nat) (q : Path) : AV → AV
 | .row .own _ _ => .hd id q
 | x => x
theorem Cell.look {g : Gh} {w : World} {id : Nat} {q : Path} {y : AV} {u : Value} (h : Cell g w (.at id q) y u) : Val g w (lookA id q y) u := by
 cases h with
 | int => exact .cell _ _ (.int _ _ _)
 | bool => exact .cell _ _ (.bool _ _)
 | str => exact .cell _ _ (.str _ _)
 | nilI => exact .cell _ _ (.nilI _)
 | ifc _ c t v h => exact .cell _ _ (.ifc _ _ _ _ h)
 | dead => exact .dead _
 | emp _ m sz a c hm => cases m <;> first | exact absurd rfl hm | exact .cell _ _ (.emp _ _ _ _ _ (by simp))
 | rd _ m sz es a c us hp hm hs hl hw hc ht => cases m <;> first | exact hm.elim | exact .cell _ _ (.rd _ _ _ _ _ _ us (by simp) hm hs hl hw hc ht)
 | ownNil _ _ _ hl => exact .hdNil _ _ hl
 | own _ _ _ es b c cur e us hl ho hb hn hm hz hw hc ht => exact .hd _ _ b c _ hl
theorem Cell.lookRo {g : Gh} {w : World} {m : Md} {y : AV} {u : Value} (h : Cell g w m.pl y u) : Val g w y u := by
 cases m with
 | bo => exact .cell _ _ h
 | own => exact .cell _ _ (Cell.lent h)
 | ro => exact .cell _ _ (Cell.lent h)
/-! ### the memory behind places -/
theorem add_lit (b o n : Nat) : (⟨b, o, none⟩ : Addr).add n = ⟨b, o + n, none⟩ := Addr.add_lit b o n
def isAggK : TK → Bool
 | .struct _ | .arr _ _ => true
 | _ => false
theorem run_isAgg {P : Program} {t : TypeId} {k : TK} (h : TKOk P t k) (w : World) : (isAgg t).run P w = .ok (isAggK k) w := by
 cases k with
 | int k => simp [isAgg, run_underlying h, isAggK]
 | bool => simp [isAgg, run_underlying h, isAggK]
 | str => simp [isAgg, run_underlying h, isAggK]
 | slice e => simp [isAgg, run_underlying h, isAggK]
 | struct fs => obtain ⟨fields, h, _⟩ := h; simp [isAgg, run_underlying h, isAggK]
 | arr n e => simp [isAgg, run_underlying h, isAggK]
 | other =>
  obtain ⟨d, h, h1, h2⟩ := h
  simp only [isAgg, Sem.run_bind, run_underlying h, Result.andThen_ok, isAggK]
  rfl
theorem run_sizeOf' {P : Program} {t : TypeId} {ti : TI} (h : TIOk P t ti) (w : World) : (sizeOf t).run P w = .ok ti.sz w := by
 obtain ⟨i, z, hi, hs, _⟩ := h.info
 simp [sizeOf, typeInfo, hi, hs]
theorem run_zeroValue {P : Program} {t : TypeId} {ti : TI} (h : TIOk P t ti) : ∃ z : Value, z.cells.size = ti.sz ∧ ti.z.length = ti.sz ∧
 (∀ (k : Nat) (y : AV), ti.z[k]? = some y → ∃ u, z.cells[k]? = some u ∧ ZOk y u) ∧ ∀ w, (zeroValue t).run P w = .ok z w := by
 obtain ⟨i, z, hi, hs, _, hz, h1, h2, h3⟩ := h.info
 exact ⟨z, h1, h2, h3, fun w => by simp [zeroValue, typeInfo, hi, hz]⟩
theorem run_loadVar {P : Program} {t : TypeId} {ti : TI} (h : TIOk P t ti) {w : World} {a : Addr} {us : List Value} (hl : us.length = ti.sz) (h1 : isAggK ti.k = false → ti.sz = 1)
 (hc : ∀ (k : Nat) (u : Value), us[k]? = some u → w.cell? (a.add k) = some u) :
 (loadVar t a).run P w = .ok (if isAggK ti.k then .agg us.toArray else us.getD 0 undef) w := by
 unfold loadVar
 simp only [Sem.run_bind, run_isAgg h.kind, Result.andThen_ok]
 cases hk : isAggK ti.k with
 | true =>
  simp only [if_true, Sem.run_bind, run_sizeOf' h, Result.andThen_ok]
  rw [← hl, run_loadCells_list w a us hc]
  rfl
 | false =>
  have hs := h1 hk
  cases us with
  | nil => simp at hl; omega
  | cons u r =>
   have := hc 0 u rfl
   simp only [Addr.add_zero'] at this
   simp [run_load, this]
def setCells (w : World) (a : Addr) : List Value → Nat → World
 | [], _ => w
 | v :: r, i => setCells (w.setCell (a.add i) v) a r (i + 1)
theorem cell?_setCell_isSome (w : World) (a b : Addr) (v : Value) : ((w.setCell a v).cell? b).isSome = (w.cell? b).isSome := by
 by_cases h : a = b
 ·subst h
  cases hc : w.cell? a with
  | none =>
   cases hc2 : (w.setCell a v).cell? a with
   | none => rfl
   | some u =>
    exfalso
    unfold World.cell? at hc hc2
    simp only [World.setCell, Array.getElem?_modify, if_true] at hc2
    cases hh : w.heap[a.block]? with
    | none => simp [hh] at hc2
    | some x =>
     rw [hh] at hc hc2
     cases x <;> simp at hc hc2
     split at hc2
     ·rename_i c e f hs
      have := hc hc2.1
      rw [Array.getElem?_eq_none this] at hc2
      simp at hc2
     ·rename_i c e f hs
      cases hsp : a.spot with
      | some _ => simp [hsp] at hs
      | none =>
       have := hc hsp
       rw [Array.getElem?_eq_none (by simpa using this)] at hc2
       simp at hc2
  | some u => rw [World.cell?_setCell_same w a v hc]; rfl
 ·rw [World.cell?_setCell_other w a b v h]
theorem run_storeCells' {P : Program} (a : Addr) : ∀ (vs : List Value) (i : Nat) (w : World), (∀ v ∈ vs, v.oneCell' = true) →
 (∀ k, k < vs.length → (w.cell? (a.add (i + k))).isSome = true ∧ w.frozen? (a.add (i + k)) = false) →
 (storeCells a vs i).run P w = .ok () (setCells w a vs i)
 | [], i, w, _, _ => rfl
 | v :: r, i, w, h1, h2 => by
  have h0 := h2 0 (by simp)
  simp only [Nat.add_zero] at h0
  obtain ⟨u, hu⟩ := Option.isSome_iff_exists.1 h0.1
  simp only [storeCells, Sem.run_bind]
  rw [run_store P w _ _ _ (h1 v (by simp)), hu]
  simp only [h0.2, Bool.false_eq_true, if_false, Result.andThen_ok, setCells]
  refine run_storeCells' a r (i + 1) _ (fun x hx => h1 x (by simp [hx])) ?_
  intro k hk
  have := h2 (k + 1) (by simpa using hk)
  rw [show i + (k + 1) = i + 1 + k by omega] at this
  exact ⟨by rw [cell?_setCell_isSome]; exact this.1, by rw [World.frozen?_setCell]; exact this.2⟩
end Go.Proofs.YtiilnlihimdnlaaGreatDoorFw
/- Operations that only compute. -/
namespace Go.Proofs.YtiilnlihimdnlaaGreatDoorFw
open Go Go.RowKit
theorem bytes_toList (s : List UInt8) : (ByteArray.mk ⟨s⟩).toList = s := by
 have h : ∀ (n i : Nat) (acc : List UInt8), s.length - i = n → i ≤ s.length → ByteArray.toList.loop (ByteArray.mk ⟨s⟩) i acc = acc.reverse ++ s.drop i := by
  intro n
  induction n with
  | zero =>
   intro i acc h1 h2
   unfold ByteArray.toList.loop
   have : ¬ i < (ByteArray.mk ⟨s⟩).size := by simp [ByteArray.size]; omega
   rw [if_neg this, List.drop_of_length_le (by omega), List.append_nil]
  | succ n ih =>
   intro i acc h1 h2
   unfold ByteArray.toList.loop
   have hlt : i < s.length := by omega
   have : i < (ByteArray.mk ⟨s⟩).size := by simpa [ByteArray.size] using hlt
   rw [if_pos this, ih (i + 1) _ (by omega) (by omega), List.drop_eq_getElem_cons hlt]
   simp [ByteArray.get!, hlt]
 have := h (s.length - 0) 0 [] rfl (Nat.zero_le _)
 simpa [ByteArray.toList] using this
theorem bytes_size (s : List UInt8) : (ByteArray.mk ⟨s⟩).size = s.length := rfl
theorem bytes_append (s t : List UInt8) : (ByteArray.mk ⟨s⟩) ++ (ByteArray.mk ⟨t⟩) = ByteArray.mk ⟨s ++ t⟩ := by
 apply ByteArray.ext
 simp [ByteArray.data_append]
theorem bytes_extract (s : List UInt8) (l h : Nat) : (ByteArray.mk ⟨s⟩).extract l h = ByteArray.mk ⟨(s.drop l).take (h - l)⟩ := by
 apply ByteArray.ext
 rw [ByteArray.data_extract]
 apply Array.ext'
 simp
/-! ### numbers, texts -/
def isBoolT (T : Tab) (t : TypeId) : Bool :=
 match T t with
 | some { k := .bool, .. } => true
 | _ => false
def abin (T : Tab) (t : TypeId) (op : BinOp) : AV → AV → Option (Prop × AV)
 | .int k a, .int k' b =>
  match op with
  | .shl => some (0 ≤ b ∧ b ≤ k.bits, .int k (k.wrap (a * 2 ^ b.toNat)))
  | .shr => some (0 ≤ b ∧ b ≤ k.bits, .int k (a / 2 ^ b.toNat))
  | .add => if k = k' then some (True, .int k (k.wrap (a + b))) else none
  | .sub => if k = k' then some (True, .int k (k.wrap (a - b))) else none
  | .mul => if k = k' then some (True, .int k (k.wrap (a * b))) else none
  | .quo => if k = k' then some (b ≠ 0, .int k (k.wrap (Int.tdiv a b))) else none
  | .rem => if k = k' then some (b ≠ 0, .int k (Int.tmod a b)) else none
  | .and => if k = k' then some (True, .int k (bits .and k a b)) else none
  | .or => if k = k' then some (True, .int k (bits .or k a b)) else none
  | .xor => if k = k' then some (True, .int k (bits .xor k a b)) else none
  | .andNot => if k = k' then some (True, .int k (bits .andNot k a b)) else none
  | .eql => if k = k' then some (True, .bool (a == b)) else none
  | .neq => if k = k' then some (True, .bool (a != b)) else none
  | .lss => if k = k' then some (True, .bool (decide (a < b))) else none
  | .leq => if k = k' then some (True, .bool (decide (a ≤ b))) else none
  | .gtr => if k = k' then some (True, .bool (decide (b < a))) else none
  | .geq => if k = k' then some (True, .bool (decide (b ≤ a))) else none
 | .bool a, .bool b =>
  match op with
  | .eql => if isBoolT T t then some (True, .bool (a == b)) else none
  | .neq => if isBoolT T t then some (True, .bool (a != b)) else none
  | _ => none
 | .str a, .str b =>
  match op with
  | .eql => some (True, .bool (a == b))
  | .neq => some (True, .bool (a != b))
  | .lss => some (True, .bool (Op.bytesLess a b))
  | .geq => some (True, .bool (!Op.bytesLess a b))
  | .add => some (a.length + b.length ≤ 9223372036854775807, .str (a ++ b))
  | _ => none
 | _, _ => none
theorem Val.int_inv {g : Gh} {w : World} {k : IntKind} {n : Int} {v : Value} (h : Val g w (.int k n) v) : v = .int k n := by
 cases h with
 | cell _ _ h => cases h; rfl
theorem Val.bool_inv {g : Gh} {w : World} {b : Bool} {v : Value} (h : Val g w (.bool b) v) : v = .bool b := by
 cases h with
 | cell _ _ h => cases h; rfl
theorem Val.str_inv {g : Gh} {w : World} {s : List UInt8} {v : Value} (h : Val g w (.str s) v) : v = .string ⟨⟨s⟩⟩ := by
 cases h with
 | cell _ _ h => cases h; rfl
theorem Val.mkInt (g : Gh) (w : World) (k : IntKind) (n : Int) : Val g w (.int k n) (.int k n) := .cell _ _ (.int _ _ _)
theorem Val.mkBool (g : Gh) (w : World) (b : Bool) : Val g w (.bool b) (.bool b) := .cell _ _ (.bool _ _)
theorem Val.mkStr (g : Gh) (w : World) (s : List UInt8) : Val g w (.str s) (.string ⟨⟨s⟩⟩) := .cell _ _ (.str _ _)
theorem run_equal_bool {P : Program} {t : TypeId} (h : P.underlying t = some .bool) (a b : Bool) (w : World) : (Op.equal t (.bool a) (.bool b)).run P w = .ok (a == b) w := by
 have h' : ∀ d, (Op.equalIn (d + 1) t (.bool a) (.bool b)).run P w = .ok (a == b) w := fun d => by simp [Op.equalIn, run_underlying h]
 exact h' 9999
theorem isBoolT_ok {P : Program} {T : Tab} (hT : TabOk P T) {t : TypeId} (h : isBoolT T t = true) : P.underlying t = some .bool := by
 unfold isBoolT at h
 split at h
 ·rename_i sz by_ z he
  exact (hT t _ he).kind
 ·simp at h
theorem abin_ok {P : Program} {T : Tab} (hT : TabOk P T) {g : Gh} {w : World} {op : BinOp} {x y z : AV} {c : Prop} {t : TypeId} (h : abin T t op x y = some (c, z)) (hc : c) {v u : Value} (hv : Val g w x v) (hu : Val g w y u)
 (X Y : Operand) : ∃ r, (do eqGuard op t X Y v u; binOp op t v u : Sem Value).run P w = .ok r w ∧ Val g w z r := by
 unfold abin at h
 split at h
 ·rename_i k a k' b
  obtain rfl := hv.int_inv
  obtain rfl := hu.int_inv
  rw [eqGuard_at_int]
  simp only [pure_bind]
  by_cases hk : k = k'
  ·subst hk
   cases op <;> simp only [if_true, Option.some.injEq, Prod.mk.injEq] at h <;> obtain ⟨rfl, rfl⟩ := h
   case shl => exact ⟨_, by rw [binOp_shl, shift_shl _ _ _ _ hc.1 hc.2]; rfl, Val.mkInt _ _ _ _⟩
   case shr => exact ⟨_, by rw [binOp_shr, shift_shr _ _ _ _ hc.1 hc.2]; rfl, Val.mkInt _ _ _ _⟩
   case quo => exact ⟨_, by simp only [binOp_quo, Op.intDiv, if_neg hc, Sem.run_pure], Val.mkInt _ _ _ _⟩
   case rem => exact ⟨_, by simp only [binOp_rem, Op.intDiv, if_neg hc, Sem.run_pure], Val.mkInt _ _ _ _⟩
   case add => exact ⟨_, by simp only [binOp_add, Op.intArith, Sem.run_pure], Val.mkInt _ _ _ _⟩
   case sub => exact ⟨_, by simp only [binOp_sub, Op.intArith, Sem.run_pure], Val.mkInt _ _ _ _⟩
   case mul => exact ⟨_, by simp only [binOp_mul, Op.intArith, Sem.run_pure], Val.mkInt _ _ _ _⟩
   case and => exact ⟨_, by simp only [binOp_and, intBits_and, Sem.run_pure], Val.mkInt _ _ _ _⟩
   case or => exact ⟨_, by simp only [binOp_or, intBits_or, Sem.run_pure], Val.mkInt _ _ _ _⟩
   case xor => exact ⟨_, by simp only [binOp_xor, intBits_xor, Sem.run_pure], Val.mkInt _ _ _ _⟩
   case andNot => exact ⟨_, by simp only [binOp_andNot, intBits_andNot, Sem.run_pure], Val.mkInt _ _ _ _⟩
   case eql => exact ⟨_, by simp only [binOp_eql, Sem.run_pure], Val.mkBool _ _ _⟩
   case neq => exact ⟨_, by simp only [binOp_neq, Sem.run_pure], Val.mkBool _ _ _⟩
   case lss => exact ⟨_, by simp only [binOp_lss, Sem.run_pure], Val.mkBool _ _ _⟩
   case leq => exact ⟨_, by simp only [binOp_leq, Sem.run_pure], Val.mkBool _ _ _⟩
   case gtr => exact ⟨_, by simp only [binOp_gtr, Sem.run_pure], Val.mkBool _ _ _⟩
   case geq => exact ⟨_, by simp only [binOp_geq, Sem.run_pure], Val.mkBool _ _ _⟩
  ·cases op <;> simp only [if_neg hk, Option.some.injEq, Prod.mk.injEq, reduceCtorEq] at h <;> obtain ⟨rfl, rfl⟩ := h
   case shl => exact ⟨_, by rw [binOp_shl, shift_shl _ _ _ _ hc.1 hc.2]; rfl, Val.mkInt _ _ _ _⟩
   case shr => exact ⟨_, by rw [binOp_shr, shift_shr _ _ _ _ hc.1 hc.2]; rfl, Val.mkInt _ _ _ _⟩
 ·rename_i a b
  obtain rfl := hv.bool_inv
  obtain rfl := hu.bool_inv
  rw [eqGuard_at_bool]
  simp only [pure_bind]
  cases op <;> simp only [reduceCtorEq] at h
  case eql =>
   split at h
   ·rename_i hb
    simp only [Option.some.injEq, Prod.mk.injEq] at h; obtain ⟨rfl, rfl⟩ := h
    exact ⟨.bool (a == b), by simp only [binOp, Sem.run_bind, run_equal_bool (isBoolT_ok hT hb), Result.andThen_ok, Sem.run_pure], Val.mkBool _ _ _⟩
   ·simp at h
  case neq =>
   split at h
   ·rename_i hb
    simp only [Option.some.injEq, Prod.mk.injEq] at h; obtain ⟨rfl, rfl⟩ := h
    exact ⟨.bool (a != b), by simp only [binOp, Sem.run_bind, run_equal_bool (isBoolT_ok hT hb), Result.andThen_ok, Sem.run_pure]; rfl, Val.mkBool _ _ _⟩
   ·simp at h
 ·rename_i a b
  obtain rfl := hv.str_inv
  obtain rfl := hu.str_inv
  rw [eqGuard_at_string]
  simp only [pure_bind]
  cases op <;> simp only [Option.some.injEq, Prod.mk.injEq, reduceCtorEq] at h <;> obtain ⟨rfl, rfl⟩ := h
  case add =>
   refine ⟨.string ⟨⟨a ++ b⟩⟩, ?_, Val.mkStr _ _ _⟩
   have hn : ¬ (((ByteArray.mk ⟨a⟩).size + (ByteArray.mk ⟨b⟩).size : Nat) : Int) > IntKind.i64.max := by
    rw [bytes_size, bytes_size, IntKind.max_i64]; omega
   simp only [binOp, Op.stringOp, if_neg hn, bytes_append, Sem.run_pure]
  case eql => exact ⟨.bool (a == b), by simp only [binOp, Op.stringOp, bytes_toList, Sem.run_pure], Val.mkBool _ _ _⟩
  case neq => exact ⟨.bool (a != b), by simp only [binOp, Op.stringOp, bytes_toList, Sem.run_pure]; rfl, Val.mkBool _ _ _⟩
  case lss => exact ⟨_, by simp only [binOp, Op.stringOp, bytes_toList, Sem.run_pure], Val.mkBool _ _ _⟩
  case geq => exact ⟨_, by simp only [binOp, Op.stringOp, bytes_toList, Sem.run_pure], Val.mkBool _ _ _⟩
 ·simp at h
end Go.Proofs.YtiilnlihimdnlaaGreatDoorFw
/- Operations that read: places, elements, fields, lengths, cuts. -/
namespace Go.Proofs.YtiilnlihimdnlaaGreatDoorFw
open Go Go.RowKit
theorem Val.agg_inv {g : Gh} {w : World} {cs : List AV} {v : Value} (h : Val g w (.agg cs) v) :
 ∃ vs : Array Value, v = .agg vs ∧ vs.size = cs.length ∧ ∀ (k : Nat) (c : AV) (u : Value), cs[k]? = some c → vs[k]? = some u → Val g w c u := by
 cases h with
 | cell _ _ h => cases h
 | agg _ vs hl h => exact ⟨vs, rfl, hl, h⟩
theorem Val.tup_inv {g : Gh} {w : World} {cs : List AV} {v : Value} (h : Val g w (.tup cs) v) :
 ∃ vs : Array Value, v = .tuple vs ∧ vs.size = cs.length ∧ ∀ (k : Nat) (c : AV) (u : Value), cs[k]? = some c → vs[k]? = some u → Val g w c u := by
 cases h with
 | cell _ _ h => cases h
 | tup _ vs hl h => exact ⟨vs, rfl, hl, h⟩
theorem Val.hd_inv {g : Gh} {w : World} {id : Nat} {q : Path} {v : Value} (h : Val g w (.hd id q) v) :
 (∃ b c n, g.loc id q = some (b, c, n) ∧ v = .slice (some ⟨b, 0, none⟩) n c) ∨ (g.loc id q = none ∧ v = .slice none 0 0) := by
 cases h with
 | cell _ _ h => cases h
 | hd _ _ b c n hl => exact .inl ⟨b, c, n, hl, rfl⟩
 | hdNil _ _ hl => exact .inr ⟨hl, rfl⟩
theorem Val.ptr_inv {g : Gh} {w : World} {id : Nat} {q : Path} {sz i k : Nat} {v : Value} (h : Val g w (.ptr id q sz i k) v) :
 ∃ b c n, g.loc id q = some (b, c, n) ∧ v = .pointer (some ⟨b, i * sz + k, none⟩) := by
 cases h with
 | cell _ _ h => cases h
 | ptr _ _ _ _ _ b c n hl => exact ⟨b, c, n, hl, rfl⟩
theorem Val.ref_inv {g : Gh} {w : World} {id : Nat} {q : Path} {sz off n : Nat} {v : Value} (h : Val g w (.ref id q sz off n) v) :
 (∃ b cap len c a, g.loc id q = some (b, cap, len) ∧ off + c = cap ∧ n ≤ c ∧ (0 < c ∨ off = 0 → a = ⟨b, off * sz, none⟩) ∧ v = .slice (some a) n c) ∨
 (g.loc id q = none ∧ v = .slice none 0 0 ∧ off = 0 ∧ n = 0) := by
 cases h with
 | cell _ _ h => cases h
 | ref _ _ _ _ _ b cap len c a hl hc hn ha => exact .inl ⟨b, cap, len, c, a, hl, hc, hn, ha, rfl⟩
 | refNil _ _ _ hl => exact .inr ⟨hl, rfl, rfl, rfl⟩
theorem Val.rp_inv {g : Gh} {w : World} {m : Md} {cs : List AV} {v : Value} (h : Val g w (.rp m cs) v) :
 ∃ (a : Addr) (us : Nat → Value), v = .pointer (some a) ∧ g.rd m a.block ∧ a.spot = none ∧ (∀ (k : Nat) (y : AV), cs[k]? = some y → w.cell? (a.add k) = some (us k)) ∧
  (∀ (k : Nat) (y : AV), cs[k]? = some y → Cell g w m.pl y (us k)) := by
 cases h with
 | cell _ _ h => cases h
 | rp _ _ a us hm hs hc ht => exact ⟨a, us, rfl, hm, hs, hc, ht⟩
theorem Val.vp_inv {g : Gh} {w : World} {cs : List AV} {v : Value} (h : Val g w (.vp cs) v) :
 ∃ (a : Addr) (us : Nat → Value), v = .pointer (some a) ∧ g.perm a.block ∧ a.spot = none ∧ (∀ (k : Nat) (y : AV), cs[k]? = some y → w.cell? (a.add k) = some (us k)) ∧
  (∀ (k : Nat) (y : AV), cs[k]? = some y → Val g w y (us k)) := by
 cases h with
 | cell _ _ h => cases h
 | vp _ a us hm hs hc ht => exact ⟨a, us, rfl, hm, hs, hc, ht⟩
theorem Val.row_inv {g : Gh} {w : World} {m : Md} {sz : Nat} {es : List AV} {v : Value} (h : Val g w (.row m sz es) v) :
 (∃ a c, v = .slice a 0 c ∧ es = [] ∧ m ≠ .own) ∨
 ∃ (a : Addr) (c : Nat) (us : Nat → Value), v = .slice (some a) es.length c ∧ g.rd m a.block ∧ a.spot = none ∧ es.length ≤ c ∧ (∀ (i : Nat) (x : AV), es[i]? = some x → x.width = sz) ∧
  (∀ (i k : Nat) (x y : AV), es[i]? = some x → x.cells[k]? = some y → w.cell? (a.add (i * sz + k)) = some (us (i * sz + k))) ∧
  (∀ (i k : Nat) (x y : AV), es[i]? = some x → x.cells[k]? = some y → Cell g w m.pl y (us (i * sz + k))) := by
 cases h with
 | cell _ _ h =>
  cases h with
  | emp _ _ _ a c hm => exact .inl ⟨a, c, rfl, rfl, hm⟩
  | rd _ _ _ _ a c us hp hm hs hl hw hc ht => exact .inr ⟨a, c, us, rfl, hm, hs, hl, hw, hc, ht⟩
/-! ### the node behind a place -/
def St.node (s : St) (id : Nat) (q : Path) : Option (Nat × List AV) :=
 match lookO s.objs id with
 | some (rsz, res) => navG res rsz q
 | none => none
theorem St.node_some {s : St} {id : Nat} {q : Path} {sz : Nat} {es : List AV} (h : s.node id q = some (sz, es)) : ∃ rsz res, lookO s.objs id = some (rsz, res) ∧ navG res rsz q = some (sz, es) := by
 unfold St.node at h
 split at h
 ·rename_i rsz res he; exact ⟨rsz, res, he, h⟩
 ·simp at h
theorem Sim.node {s : St} {a : Act} {w : World} {g : Gh} (h : Sim s a w g) {id : Nat} {q : Path} {sz : Nat} {es : List AV} (hn : s.node id q = some (sz, es)) :
 ∃ v, Cell g w (.at id q) (.row .own sz es) v := by
 obtain ⟨rsz, res, h1, h2⟩ := St.node_some hn
 obtain ⟨v, hv⟩ := h.h.obj id rsz res h1
 obtain ⟨v', hv'⟩ := Cell.nav q [] rsz res v sz es hv h2
 exact ⟨v', by simpa using hv'⟩
theorem Cell.hd {g : Gh} {w : World} {id : Nat} {q : Path} {sz : Nat} {es : List AV} {v v' : Value} (h : Cell g w (.at id q) (.row .own sz es) v) (hv : Val g w (.hd id q) v') : v' = v := by
 have := h.look
 rcases hv.hd_inv with ⟨b, c, n, hl, rfl⟩ | ⟨hl, rfl⟩ <;> rcases this.hd_inv with ⟨b', c', n', hl', rfl⟩ | ⟨hl', rfl⟩ <;> rw [hl] at hl' <;> simp at hl'
 ·obtain ⟨rfl, rfl, rfl⟩ := hl'; rfl
theorem Cell.len {g : Gh} {w : World} {id : Nat} {q : Path} {sz : Nat} {es : List AV} {v : Value} (h : Cell g w (.at id q) (.row .own sz es) v) : ∃ a c, v = .slice a es.length c := by
 cases h with
 | rd _ _ _ _ a c us hp hm => exact hm.elim
 | emp _ _ _ a c hm => exact absurd rfl hm
 | ownNil => exact ⟨none, 0, rfl⟩
 | own _ _ _ _ b c => exact ⟨_, c, rfl⟩
/-! ### load -/
def lookL (id : Nat) (q : Path) (i : Nat) : Nat → List AV → List AV
 | _, [] => []
 | k, y :: r => lookA id (q ++ [(i, k)]) y :: lookL id q i (k + 1) r
theorem lookL_get (id : Nat) (q : Path) (i : Nat) : ∀ (l : List AV) (k j : Nat), (lookL id q i k l)[j]? = (l[j]?).map (lookA id (q ++ [(i, k + j)]))
 | [], k, j => by simp [lookL]
 | y :: r, k, 0 => by simp [lookL]
 | y :: r, k, j + 1 => by
  simp only [lookL, List.getElem?_cons_succ]
  rw [lookL_get id q i r (k + 1) j, show k + 1 + j = k + (j + 1) by omega]
theorem lookL_length (id : Nat) (q : Path) (i : Nat) : ∀ (l : List AV) (k : Nat), (lookL id q i k l).length = l.length
 | [], k => rfl
 | y :: r, k => by simp [lookL, lookL_length id q i r (k + 1)]
def vLoad (T : Tab) (s : St) (t : TypeId) (x : AV) : Option AV :=
 match T t with
 | none => none
 | some ti =>
  match x with
  | .ptr id q sz i k =>
   match s.node id q with
   | some (sz', es) =>
    if sz' = sz then
     match es[i]? with
     | some e =>
      match ti.k with
      | .struct _ => if k + ti.sz ≤ e.width then some (.agg (lookL id q i k ((e.cells.drop k).take ti.sz))) else none
      | .arr _ _ => none
      | _ =>
       if ti.sz = 1 then
        match e.cells[k]? with
        | some y => some (lookA id (q ++ [(i, k)]) y)
        | none => none
       else none
     | none => none
    else none
   | none => none
  | .rp _ cs =>
   match ti.k with
   | .struct _ => if ti.sz ≤ cs.length then some (.agg (cs.take ti.sz)) else none
   | .arr _ _ => none
   | _ =>
    if ti.sz = 1 then cs[0]? else none
  | .vp cs =>
   match ti.k with
   | .struct _ => if ti.sz ≤ cs.length then some (.agg (cs.take ti.sz)) else none
   | .arr _ _ => none
   | _ =>
    if ti.sz = 1 then cs[0]? else none
  | _ => none
theorem agg_val {g : Gh} {w : World} {cs : List AV} {us : List Value} (hl : us.length = cs.length)
 (h : ∀ (k : Nat) (c : AV) (u : Value), cs[k]? = some c → us[k]? = some u → Val g w c u) : Val g w (.agg cs) (.agg us.toArray) :=
 .agg _ _ (by simpa using hl) (fun k c u hc hu => h k c u hc (by simpa using hu))
theorem run_loadVar_agg {P : Program} {t : TypeId} {ti : TI} (h : TIOk P t ti) {w : World} {a : Addr} {us : List Value} (hl : us.length = ti.sz) (hk : isAggK ti.k = true)
 (hc : ∀ (k : Nat) (u : Value), us[k]? = some u → w.cell? (a.add k) = some u) : (loadVar t a).run P w = .ok (.agg us.toArray) w := by
 have := run_loadVar h hl (by simp [hk]) hc
 simpa [hk] using this
theorem run_loadVar_one {P : Program} {t : TypeId} {ti : TI} (h : TIOk P t ti) {w : World} {a : Addr} {u : Value} (hk : isAggK ti.k = false)
 (hc : w.cell? a = some u) : (loadVar t a).run P w = .ok u w := by
 unfold loadVar
 simp [run_isAgg h.kind, hk, run_load, hc]
theorem run_loadAt {P : Program} {t : TypeId} {a : Addr} {w : World} : (Instr.loadAt t (.pointer (some a))).run P w = (loadVar t a).run P w := by
 simp [Instr.loadAt, Instr.sureAddr]
theorem vLoad_ok {P : Program} {T : Tab} (hT : TabOk P T) {s : St} {t : TypeId} {x y : AV} (h : vLoad T s t x = some y) {a : Act} {w : World} {g : Gh} (hs : Sim s a w g) {v : Value} (hv : Val g w x v) :
 ∃ r, (Instr.loadAt t v).run P w = .ok r w ∧ Val g w y r := by
 unfold vLoad at h
 split at h
 ·simp at h
 ·rename_i ti hti
  have hTI := hT t ti hti
  split at h
  ·rename_i id q sz i k
   split at h
   ·rename_i sz' es hn
    split at h
    ·rename_i hsz
     subst hsz
     split at h
     ·rename_i e he
      obtain ⟨b, c, n, hloc, rfl⟩ := hv.ptr_inv
      obtain ⟨v', hnode⟩ := hs.node hn
      obtain ⟨b', c', cur, ee, us, rfl, hloc', hown, hb, hlc, hcm, hcz, hw, hc, ht⟩ := hnode.node he
      rw [hloc] at hloc'
      simp only [Option.some.injEq, Prod.mk.injEq] at hloc'
      obtain ⟨rfl, rfl, rfl⟩ := hloc'
      rw [run_loadAt]
      have hcell : ∀ j z, e.cells[k + j]? = some z → w.cell? ((⟨b, i * sz' + k, none⟩ : Addr).add j) = some (us (i * sz' + (k + j))) := by
       intro j z hz
       rw [add_lit, cell_of_block hb, Nat.add_assoc]
       exact hc i (k + j) e z he hz
      split at h
      ·rename_i fs hk
       split at h
       ·rename_i hlen
        obtain rfl := Option.some.inj h
        have hl : ((List.range ti.sz).map fun j => us (i * sz' + (k + j))).length = ti.sz := by simp
        refine ⟨_, run_loadVar_agg hTI hl (by rw [hk]; rfl) ?_, ?_⟩
        ·intro j u hu
         rw [List.getElem?_map] at hu
         cases hj : (List.range ti.sz)[j]? with
         | none => simp [hj] at hu
         | some j' =>
          have hlt := lt_of_get hj
          simp only [List.length_range] at hlt
          rw [List.getElem?_range hlt] at hj
          obtain rfl := Option.some.inj hj
          rw [List.getElem?_range hlt] at hu
          obtain rfl := Option.some.inj hu
          have hlt2 : k + j < e.cells.length := by have : e.width = e.cells.length := rfl; omega
          exact hcell j _ (List.getElem?_eq_getElem hlt2)
        ·refine agg_val (by rw [lookL_length]; simp; have : e.width = e.cells.length := rfl; omega) ?_
         intro j z u hz hu
         rw [lookL_get] at hz
         cases hd : ((e.cells.drop k).take ti.sz)[j]? with
         | none => simp [hd] at hz
         | some z0 =>
          rw [hd] at hz
          obtain rfl := Option.some.inj hz
          rw [List.getElem?_take] at hd
          split at hd
          ·rename_i hlt
           rw [List.getElem?_drop] at hd
           rw [List.getElem?_map, List.getElem?_range hlt] at hu
           obtain rfl := Option.some.inj hu
           exact (ht i (k + j) e z0 he hd).look
          ·simp at hd
       ·simp at h
      ·simp at h
      ·rename_i hns hna
       split at h
       ·rename_i h1
        split at h
        ·rename_i z hz
         obtain rfl := Option.some.inj h
         have hk : isAggK ti.k = false := by
          cases hkk : ti.k <;> first | rfl | (exact absurd hkk (hns _)) | (exact absurd hkk (hna _ _))
         have := hcell 0 z hz
         simp only [Addr.add_zero', Nat.add_zero] at this
         exact ⟨_, run_loadVar_one hTI hk this, (ht i k e z he hz).look⟩
        ·simp at h
       ·simp at h
     ·simp at h
    ·simp at h
   ·simp at h
  ·rename_i m cs
   obtain ⟨ad, us, rfl, hm, hsp, hc, ht⟩ := hv.rp_inv
   rw [run_loadAt]
   split at h
   ·rename_i fs hk
    split at h
    ·rename_i hlen
     obtain rfl := Option.some.inj h
     have hl : ((List.range ti.sz).map us).length = ti.sz := by simp
     refine ⟨_, run_loadVar_agg hTI hl (by rw [hk]; rfl) ?_, ?_⟩
     ·intro j u hu
      rw [List.getElem?_map] at hu
      cases hj : (List.range ti.sz)[j]? with
      | none => simp [hj] at hu
      | some j' =>
       have hlt := lt_of_get hj
       simp only [List.length_range] at hlt
       rw [List.getElem?_range hlt] at hu
       obtain rfl := Option.some.inj hu
       have hlt2 : j < cs.length := by omega
       exact hc j _ (List.getElem?_eq_getElem hlt2)
     ·refine agg_val (by simp; omega) ?_
      intro j z u hz hu
      rw [List.getElem?_take] at hz
      split at hz
      ·rename_i hlt
       rw [List.getElem?_map, List.getElem?_range hlt] at hu
       obtain rfl := Option.some.inj hu
       exact (ht j z hz).lookRo
      ·simp at hz
    ·simp at h
   ·simp at h
   ·rename_i hns hna
    split at h
    ·rename_i h1
     have hk : isAggK ti.k = false := by
      cases hkk : ti.k <;> first | rfl | (exact absurd hkk (hns _)) | (exact absurd hkk (hna _ _))
     have := hc 0 y h
     simp only [Addr.add_zero'] at this
     exact ⟨_, run_loadVar_one hTI hk this, (ht 0 y h).lookRo⟩
    ·simp at h
  ·rename_i cs
   obtain ⟨ad, us, rfl, hm, hsp, hc, ht⟩ := hv.vp_inv
   rw [run_loadAt]
   split at h
   ·rename_i fs hk
    split at h
    ·rename_i hlen
     obtain rfl := Option.some.inj h
     have hl : ((List.range ti.sz).map us).length = ti.sz := by simp
     refine ⟨_, run_loadVar_agg hTI hl (by rw [hk]; rfl) ?_, ?_⟩
     ·intro j u hu
      rw [List.getElem?_map] at hu
      cases hj : (List.range ti.sz)[j]? with
      | none => simp [hj] at hu
      | some j' =>
       have hlt := lt_of_get hj
       simp only [List.length_range] at hlt
       rw [List.getElem?_range hlt] at hu
       obtain rfl := Option.some.inj hu
       have hlt2 : j < cs.length := by omega
       exact hc j _ (List.getElem?_eq_getElem hlt2)
     ·refine agg_val (by simp; omega) ?_
      intro j z u hz hu
      rw [List.getElem?_take] at hz
      split at hz
      ·rename_i hlt
       rw [List.getElem?_map, List.getElem?_range hlt] at hu
       obtain rfl := Option.some.inj hu
       exact (ht j z hz)
      ·simp at hz
    ·simp at h
   ·simp at h
   ·rename_i hns hna
    split at h
    ·rename_i h1
     have hk : isAggK ti.k = false := by
      cases hkk : ti.k <;> first | rfl | (exact absurd hkk (hns _)) | (exact absurd hkk (hna _ _))
     have := hc 0 y h
     simp only [Addr.add_zero'] at this
     exact ⟨_, run_loadVar_one hTI hk this, (ht 0 y h)⟩
    ·simp at h
  ·simp at h
end Go.Proofs.YtiilnlihimdnlaaGreatDoorFw
/- More operations that read: fields, elements, lengths, cuts, parts. -/
namespace Go.Proofs.YtiilnlihimdnlaaGreatDoorFw
open Go Go.RowKit
def fieldOf (T : Tab) (t : TypeId) (f : Nat) : Option (Nat × TI) :=
 match T t with
 | some { k := .struct fs, .. } =>
  match fs[f]? with
  | some (off, ft) =>
   match T ft with
   | some fi => some (off, fi)
   | none => none
  | none => none
 | _ => none
theorem fieldOf_ok {P : Program} {T : Tab} (hT : TabOk P T) {t : TypeId} {f off : Nat} {fi : TI} (h : fieldOf T t f = some (off, fi)) :
 ∃ (fields : Array Field) (fd : Field), P.underlying t = some (.struct fields) ∧ fields[f]? = some fd ∧ fd.offset = off ∧ TIOk P fd.type fi := by
 unfold fieldOf at h
 split at h
 ·rename_i fs sz by_ z he
  obtain ⟨fields, h1, h2⟩ := (hT t _ he).kind
  split at h
  ·rename_i off' ft hf
   split at h
   ·rename_i fi' hfi
    simp only [Option.some.injEq, Prod.mk.injEq] at h
    obtain ⟨rfl, rfl⟩ := h
    rw [← h2, List.getElem?_map] at hf
    cases hfd : fields.toList[f]? with
    | none => simp [hfd] at hf
    | some fd =>
     rw [hfd] at hf
     simp only [Option.map_some, Option.some.injEq, Prod.mk.injEq] at hf
     exact ⟨fields, fd, h1, by simpa using hfd, hf.1, by rw [hf.2]; exact hT _ _ hfi⟩
   ·simp at h
  ·simp at h
 ·simp at h
def vFieldAddr (T : Tab) (t : TypeId) (x : AV) (f : Nat) : Option AV :=
 match fieldOf T t f with
 | some (off, fi) =>
  if fi.sz = 0 then none
  else
   match x with
   | .ptr id q sz i k => some (.ptr id q sz i (k + off))
   | .rp m cs => some (.rp m (cs.drop off))
   | .vp cs => some (.vp (cs.drop off))
   | _ => none
 | none => none
theorem add_add (a : Addr) (h : a.spot = none) (m n : Nat) : (a.add m).add n = a.add (m + n) := by
 obtain ⟨b, o, s⟩ := a
 simp only at h
 subst h
 rw [add_lit, add_lit, add_lit, Nat.add_assoc]
theorem add_spot (a : Addr) (h : a.spot = none) (m : Nat) : (a.add m).spot = none := by
 unfold Addr.add; split
 ·exact h
 ·rfl
theorem Val.rp_drop {g : Gh} {w : World} {m : Md} {cs : List AV} {a : Addr} (h : Val g w (.rp m cs) (.pointer (some a))) (n : Nat) : Val g w (.rp m (cs.drop n)) (.pointer (some (a.add n))) := by
 obtain ⟨a', us, e, hm, hs, hc, ht⟩ := h.rp_inv
 obtain rfl : a = a' := by simpa using e
 refine .rp _ _ _ (fun k => us (n + k)) (by rw [add_block]; exact hm) (add_spot _ hs _) ?_ ?_
 ·intro k y hy
  rw [List.getElem?_drop] at hy
  rw [add_add _ hs]
  exact hc _ y hy
 ·intro k y hy
  rw [List.getElem?_drop] at hy
  exact ht _ y hy
theorem Val.vp_drop {g : Gh} {w : World} {cs : List AV} {a : Addr} (h : Val g w (.vp cs) (.pointer (some a))) (n : Nat) : Val g w (.vp (cs.drop n)) (.pointer (some (a.add n))) := by
 obtain ⟨a', us, e, hm, hs, hc, ht⟩ := h.vp_inv
 obtain rfl : a = a' := by simpa using e
 refine .vp _ _ (fun k => us (n + k)) (by rw [add_block]; exact hm) (add_spot _ hs _) ?_ ?_
 ·intro k y hy
  rw [List.getElem?_drop] at hy
  rw [add_add _ hs]
  exact hc _ y hy
 ·intro k y hy
  rw [List.getElem?_drop] at hy
  exact ht _ y hy
theorem vFieldAddr_ok {P : Program} {T : Tab} (hT : TabOk P T) {t : TypeId} {x y : AV} {f : Nat} (h : vFieldAddr T t x f = some y) {w : World} {g : Gh} {v : Value} (hv : Val g w x v) :
 ∃ r, (Instr.fieldAt t v f).run P w = .ok r w ∧ Val g w y r := by
 unfold vFieldAddr at h
 split at h
 ·rename_i off fi hf
  obtain ⟨fields, fd, h1, h2, rfl, h4⟩ := fieldOf_ok hT hf
  split at h
  ·simp at h
  ·rename_i hsz
   have key : ∀ ad : Addr, (Instr.fieldAt t (.pointer (some ad)) f).run P w = .ok (.pointer (some (ad.add fd.offset))) w := by
    intro ad
    simp [Instr.fieldAt, run_underlying h1, h2, Instr.sureAddr, fieldPlace, run_sizeOf' h4, hsz]
   split at h
   ·rename_i id q sz i k
    obtain rfl := Option.some.inj h
    obtain ⟨b, c, n, hl, rfl⟩ := hv.ptr_inv
    exact ⟨_, key _, by rw [add_lit, Nat.add_assoc]; exact .ptr _ _ _ _ _ b c n hl⟩
   ·rename_i m cs
    obtain rfl := Option.some.inj h
    obtain ⟨ad, us, rfl, _⟩ := hv.rp_inv
    exact ⟨_, key _, hv.rp_drop _⟩
   ·rename_i cs
    obtain rfl := Option.some.inj h
    obtain ⟨ad, us, rfl, _⟩ := hv.vp_inv
    exact ⟨_, key _, hv.vp_drop _⟩
   ·simp at h
 ·simp at h
def vField (T : Tab) (t : TypeId) (x : AV) (f : Nat) : Option AV :=
 match fieldOf T t f with
 | some (off, fi) =>
  match x with
  | .agg cs =>
   match fi.k with
   | .struct _ => if off + fi.sz ≤ cs.length then some (.agg ((cs.drop off).take fi.sz)) else none
   | .arr _ _ => none
   | _ => cs[off]?
  | _ => none
 | none => none
theorem vField_ok {P : Program} {T : Tab} (hT : TabOk P T) {t : TypeId} {x y : AV} {f : Nat} (h : vField T t x f = some y) {w : World} {g : Gh} {v : Value} (hv : Val g w x v) :
 ∃ r, (Instr.field t v f).run P w = .ok r w ∧ Val g w y r := by
 unfold vField at h
 split at h
 ·rename_i off fi hf
  obtain ⟨fields, fd, h1, h2, rfl, h4⟩ := fieldOf_ok hT hf
  split at h
  ·rename_i cs
   obtain ⟨vs, rfl, hl, hh⟩ := hv.agg_inv
   split at h
   ·rename_i fs hk
    split at h
    ·rename_i hle
     obtain rfl := Option.some.inj h
     refine ⟨.agg (vs.extract fd.offset (fd.offset + fi.sz)), ?_, ?_⟩
     ·simp [Instr.field, run_underlying h1, h2, asAgg, part, run_isAgg h4.kind, hk, isAggK, run_sizeOf' h4]
     ·refine .agg _ _ (by simp; omega) ?_
      intro k c u hc hu
      rw [List.getElem?_take] at hc
      split at hc
      ·rename_i hlt
       rw [List.getElem?_drop] at hc
       refine hh _ c u hc ?_
       have := lt_of_get hc
       rw [Array.getElem?_extract] at hu
       split at hu
       ·exact hu
       ·simp at hu
      ·simp at hc
    ·simp at h
   ·simp at h
   ·rename_i hns hna
    have hk : isAggK fi.k = false := by
     cases hkk : fi.k <;> first | rfl | (exact absurd hkk (hns _)) | (exact absurd hkk (hna _ _))
    have hlt : fd.offset < vs.size := by rw [hl]; exact lt_of_get h
    refine ⟨vs[fd.offset], ?_, hh _ y _ h (Array.getElem?_eq_getElem hlt)⟩
    simp [Instr.field, run_underlying h1, h2, asAgg, part, run_isAgg h4.kind, hk, hlt]
  ·simp at h
 ·simp at h
/-! ### elements -/
def elemOf' (T : Tab) (t : TypeId) : Option TI :=
 match T t with
 | some { k := .slice e, .. } => T e
 | _ => none
theorem elemOf'_ok {P : Program} {T : Tab} (hT : TabOk P T) {t : TypeId} {ei : TI} (h : elemOf' T t = some ei) : ∃ e, P.underlying t = some (.slice e) ∧ T e = some ei ∧ TIOk P e ei := by
 unfold elemOf' at h
 split at h
 ·rename_i e sz by_ z he
  exact ⟨e, (hT t _ he).kind, h, hT _ _ h⟩
 ·simp at h
def arrOf (T : Tab) (t : TypeId) : Option (Nat × TI) :=
 match T t with
 | some { k := .arr n e, .. } => (T e).map fun ei => (n, ei)
 | _ => none
theorem arrOf_ok {P : Program} {T : Tab} (hT : TabOk P T) {t : TypeId} {n : Nat} {ei : TI} (h : arrOf T t = some (n, ei)) : ∃ e, P.underlying t = some (.array n e) ∧ TIOk P e ei := by
 unfold arrOf at h
 split at h
 ·rename_i n' e sz by_ z he
  cases hte : T e with
  | none => simp [hte] at h
  | some ei' =>
   simp only [hte, Option.map_some, Option.some.injEq, Prod.mk.injEq] at h
   obtain ⟨rfl, rfl⟩ := h
   exact ⟨e, (hT t _ he).kind, hT _ _ hte⟩
 ·simp at h
def vIndexAddr (T : Tab) (s : St) (t : TypeId) (x i : AV) : Option (Prop × AV) :=
 match i with
 | .int _ n =>
  match x with
  | .ptr id q sz i' k =>
   match arrOf T t with
   | some (len, ei) => if ei.sz = 1 ∧ sz = 1 then some (0 ≤ n ∧ n < len, .ptr id q sz (i' + n.toNat) k) else none
   | none => none
  | _ =>
   match elemOf' T t with
   | none => none
   | some ei =>
    match x with
    | .hd id q =>
     match s.node id q with
     | some (sz, es) => if sz = ei.sz then some (0 ≤ n ∧ n < es.length, .ptr id q sz n.toNat 0) else none
     | none => none
    | .ref id q sz off len => if sz = ei.sz then some (0 ≤ n ∧ n < len, .ptr id q sz (off + n.toNat) 0) else none
    | .row m sz es =>
     if sz = ei.sz then
      match es[n.toNat]? with
      | some e => some (0 ≤ n, .rp m e.cells)
      | none => none
     else none
    | _ => none
 | _ => none
theorem run_indexAt_sl {P : Program} {t e : TypeId} {ei : TI} (h : P.underlying t = some (.slice e)) (he : TIOk P e ei) {w : World} {a : Addr} {len cap : Nat} {k : IntKind} {n : Int} (h0 : 0 ≤ n) (h1 : n < len) :
 (Instr.indexAt t (.slice (some a) len cap) (.int k n)).run P w = .ok (.pointer (some (a.add (n.toNat * ei.sz)))) w := by
 simp [Instr.indexAt, run_underlying h, asIntOf, h0, h1, run_sizeOf' he]
theorem vIndexAddr_ok {P : Program} {T : Tab} (hT : TabOk P T) {s : St} {t : TypeId} {x i y : AV} {c : Prop} (h : vIndexAddr T s t x i = some (c, y)) (hc : c)
 {a : Act} {w : World} {g : Gh} (hs : Sim s a w g) {v u : Value} (hv : Val g w x v) (hu : Val g w i u) :
 ∃ r, (Instr.indexAt t v u).run P w = .ok r w ∧ Val g w y r := by
 unfold vIndexAddr at h
 split at h
 ·rename_i kk n
  obtain rfl := hu.int_inv
  split at h
  ·rename_i id q sz i' k
   split at h
   ·rename_i len ei ha
    obtain ⟨e, h1, h2⟩ := arrOf_ok hT ha
    split at h
    ·rename_i hsz
     simp only [Option.some.injEq, Prod.mk.injEq] at h
     obtain ⟨rfl, rfl⟩ := h
     obtain ⟨b, cc, nn, hl, rfl⟩ := hv.ptr_inv
     refine ⟨.pointer (some ⟨b, (i' + n.toNat) * sz + k, none⟩), ?_, .ptr _ _ _ _ _ b cc nn hl⟩
     have e1 : (⟨b, i' * sz + k, none⟩ : Addr).add (n.toNat * ei.sz) = ⟨b, (i' + n.toNat) * sz + k, none⟩ := by
      rw [add_lit, hsz.1, hsz.2]; congr 1; omega
     rw [← e1]
     simp [Instr.indexAt, run_underlying h1, asIntOf, Instr.sureAddr, hc.1, hc.2, run_sizeOf' h2]
    ·simp at h
   ·simp at h
  ·split at h
   ·simp at h
   ·rename_i ei hei
    obtain ⟨e, h1, _, h2⟩ := elemOf'_ok hT hei
    split at h
    ·rename_i id q _
     split at h
     ·rename_i sz es hn
      split at h
      ·rename_i hsz
       simp only [Option.some.injEq, Prod.mk.injEq] at h
       obtain ⟨rfl, rfl⟩ := h
       obtain ⟨v', hnode⟩ := hs.node hn
       have hlt : n.toNat < es.length := by omega
       obtain ⟨b, c', cur, ee, us, rfl, hloc, _⟩ := hnode.node (List.getElem?_eq_getElem hlt)
       obtain rfl := hnode.hd hv
       refine ⟨_, run_indexAt_sl h1 h2 hc.1 hc.2, ?_⟩
       rw [add_lit, Nat.zero_add, hsz]
       exact .ptr _ _ _ _ 0 b c' _ hloc
      ·simp at h
     ·simp at h
    ·rename_i id q sz off len _
     split at h
     ·rename_i hsz
      simp only [Option.some.injEq, Prod.mk.injEq] at h
      obtain ⟨rfl, rfl⟩ := h
      rcases hv.ref_inv with ⟨b, cap, len', c', ad, hl, h3, h4, h5, rfl⟩ | ⟨_, _, _, rfl⟩
      ·refine ⟨_, run_indexAt_sl h1 h2 hc.1 hc.2, ?_⟩
       rw [h5 (.inl (by omega)), add_lit, hsz, ← Nat.add_mul]
       exact .ptr _ _ _ _ 0 b cap _ hl
      ·omega
     ·simp at h
    ·rename_i m sz es _
     split at h
     ·rename_i hsz
      split at h
      ·rename_i e' he'
       simp only [Option.some.injEq, Prod.mk.injEq] at h
       obtain ⟨rfl, rfl⟩ := h
       rcases hv.row_inv with ⟨_, _, _, rfl, _⟩ | ⟨ad, c', us, rfl, hm, hsp, hl, hw, hcc, ht⟩
       ·simp at he'
       ·have hlt := lt_of_get he'
        refine ⟨_, run_indexAt_sl h1 h2 hc (by omega), ?_⟩
        refine .rp _ _ _ (fun k => us (n.toNat * sz + k)) (by rw [add_block]; exact hm) (add_spot _ hsp _) ?_ ?_
        ·intro k z hz
         rw [add_add _ hsp, ← hsz]
         exact hcc _ k e' z he' hz
        ·intro k z hz
         exact ht _ k e' z he' hz
      ·simp at h
     ·simp at h
    ·simp at h
 ·simp at h
def vIndex (T : Tab) (t : TypeId) (x i : AV) : Option (Prop × AV) :=
 match x, i with
 | .str s, .int _ n =>
  match T t with
  | some { k := .str, .. } =>
   match s[n.toNat]? with
   | some b => some (0 ≤ n, .int .u8 b.toNat)
   | none => none
  | _ => none
 | _, _ => none
theorem bytes_get (s : List UInt8) (n : Nat) : (ByteArray.mk ⟨s⟩)[n]? = s[n]? := by
 by_cases h : n < s.length
 ·have h' : n < (ByteArray.mk ⟨s⟩).size := h
  rw [getElem?_pos (ByteArray.mk ⟨s⟩) n h', List.getElem?_eq_getElem h]
  rfl
 ·have h' : ¬ n < (ByteArray.mk ⟨s⟩).size := h
  rw [getElem?_neg (ByteArray.mk ⟨s⟩) n h', List.getElem?_eq_none (by omega)]
theorem vIndex_ok {P : Program} {T : Tab} (hT : TabOk P T) {t : TypeId} {x i y : AV} {c : Prop} (h : vIndex T t x i = some (c, y)) (hc : c)
 {w : World} {g : Gh} {v u : Value} (hv : Val g w x v) (hu : Val g w i u) : ∃ r, (Instr.index t v u).run P w = .ok r w ∧ Val g w y r := by
 unfold vIndex at h
 split at h
 ·rename_i s k n
  split at h
  ·rename_i sz by_ z he
   have h1 : P.underlying t = some .string := (hT t _ he).kind
   split at h
   ·rename_i b hb
    simp only [Option.some.injEq, Prod.mk.injEq] at h
    obtain ⟨rfl, rfl⟩ := h
    obtain rfl := hv.str_inv
    obtain rfl := hu.int_inv
    refine ⟨.int .u8 b.toNat, ?_, Val.mkInt _ _ _ _⟩
    simp [Instr.index, run_underlying h1, asIntOf, hc, bytes_get, hb]
   ·simp at h
  ·simp at h
 ·simp at h
/-! ### lengths -/
def vLen (s : St) (x : AV) : Option AV :=
 match x with
 | .hd id q => (s.node id q).map fun p => .int .i64 (p.2.length : Nat)
 | .ref _ _ _ _ n => some (.int .i64 (n : Nat))
 | .row _ _ es => some (.int .i64 (es.length : Nat))
 | .str s => some (.int .i64 (s.length : Nat))
 | .nilS => some (.int .i64 0)
 | _ => none
end Go.Proofs.YtiilnlihimdnlaaGreatDoorFw
/- More operations that read or compute: lengths, cuts, parts, conversions. -/
namespace Go.Proofs.YtiilnlihimdnlaaGreatDoorFw
open Go Go.RowKit
set_option linter.unusedVariables false
def sliceT (T : Tab) (t : TypeId) : Bool :=
 match T t with
 | some { k := .slice _, .. } => true
 | _ => false
def strT (T : Tab) (t : TypeId) : Bool :=
 match T t with
 | some { k := .str, .. } => true
 | _ => false
theorem sliceT_ok {P : Program} {T : Tab} (hT : TabOk P T) {t : TypeId} (h : sliceT T t = true) : ∃ e, P.underlying t = some (.slice e) := by
 unfold sliceT at h
 split at h
 ·rename_i e sz by_ z he; exact ⟨e, (hT t _ he).kind⟩
 ·simp at h
theorem strT_ok {P : Program} {T : Tab} (hT : TabOk P T) {t : TypeId} (h : strT T t = true) : P.underlying t = some .string := by
 unfold strT at h
 split at h
 ·rename_i sz by_ z he; exact (hT t _ he).kind
 ·simp at h
def vLenB (T : Tab) (s : St) (t : TypeId) (x : AV) : Option AV :=
 match x with
 | .str l => if strT T t then some (.int .i64 (l.length : Nat)) else none
 | _ => if sliceT T t then vLen s x else none
theorem vLenB_ok {P : Program} {T : Tab} (hT : TabOk P T) {s : St} {t ty : TypeId} {x y : AV} (h : vLenB T s t x = some y) {a : Act} {w : World} {g : Gh} (hs : Sim s a w g) {v : Value} (hv : Val g w x v) :
 ∃ r, (Builtin.len_ #[t] ty #[v]).run P w = .ok r w ∧ Val g w y r := by
 unfold vLenB at h
 split at h
 ·rename_i l
  split at h
  ·rename_i hst
   obtain rfl := Option.some.inj h
   obtain rfl := hv.str_inv
   exact ⟨_, by simp [Builtin.len_, run_underlying (strT_ok hT hst), goInt, bytes_size], Val.mkInt _ _ _ _⟩
  ·simp at h
 ·split at h
  ·rename_i hsl
   obtain ⟨e, h1⟩ := sliceT_ok hT hsl
   have key : ∀ a n c, (Builtin.len_ #[t] ty #[.slice a n c]).run P w = .ok (.int .i64 (n : Nat)) w := by
    intro a n c; simp [Builtin.len_, run_underlying h1, goInt]
   unfold vLen at h
   split at h
   ·rename_i id q _
    cases hn : s.node id q with
    | none => simp [hn] at h
    | some p =>
     obtain ⟨sz, es⟩ := p
     rw [hn] at h
     obtain rfl := Option.some.inj h
     obtain ⟨v', hnode⟩ := hs.node hn
     obtain rfl := hnode.hd hv
     obtain ⟨ad, c, rfl⟩ := hnode.len
     exact ⟨_, key _ _ _, Val.mkInt _ _ _ _⟩
   ·rename_i id q sz off n _
    obtain rfl := Option.some.inj h
    rcases hv.ref_inv with ⟨b, cap, len', c', ad, hl, h3, h4, h5, rfl⟩ | ⟨_, rfl, _, rfl⟩
    ·exact ⟨_, key _ _ _, Val.mkInt _ _ _ _⟩
    ·exact ⟨_, key _ _ _, Val.mkInt _ _ _ _⟩
   ·rename_i m sz es _
    obtain rfl := Option.some.inj h
    rcases hv.row_inv with ⟨_, _, rfl, rfl, _⟩ | ⟨ad, c', us, rfl, _⟩
    ·exact ⟨_, key _ _ _, Val.mkInt _ _ _ _⟩
    ·exact ⟨_, key _ _ _, Val.mkInt _ _ _ _⟩
   ·rename_i l hne; exact (hne l rfl).elim
   ·obtain rfl := Option.some.inj h
    cases hv with
    | cell _ _ hh => cases hh
    | nilS => exact ⟨_, key _ _ _, Val.mkInt _ _ _ _⟩
   ·simp at h
  ·simp at h
/-! ### cuts -/
def bndA : Option AV → Option (Option (IntKind × Int))
 | none => some none
 | some (.int k n) => some (some (k, n))
 | _ => none
def bnd0 : Option (IntKind × Int) → Int → Int
 | some (_, n), _ => n
 | none, d => d
def vSlice (T : Tab) (s : St) (t : TypeId) (x : AV) (lo hi : Option AV) : Option (Prop × AV) :=
 match bndA lo, bndA hi with
 | some lo, some hi =>
  match x with
  | .str u =>
   if strT T t then
    some (0 ≤ bnd0 lo 0 ∧ bnd0 lo 0 ≤ bnd0 hi (u.length : Nat) ∧ bnd0 hi (u.length : Nat) ≤ (u.length : Nat), .str ((u.drop (bnd0 lo 0).toNat).take ((bnd0 hi (u.length : Nat)).toNat - (bnd0 lo 0).toNat)))
   else none
  | _ =>
   match elemOf' T t with
   | none => none
   | some ei =>
    match x with
    | .row m sz es =>
     if sz = ei.sz then
      some (m ≠ .own ∧ 0 ≤ bnd0 lo 0 ∧ bnd0 lo 0 ≤ bnd0 hi (es.length : Nat) ∧ bnd0 hi (es.length : Nat) ≤ (es.length : Nat), .row m sz ((es.drop (bnd0 lo 0).toNat).take ((bnd0 hi (es.length : Nat)).toNat - (bnd0 lo 0).toNat)))
     else none
    | .hd id q =>
     match s.node id q with
     | some (sz, es) =>
      if sz = ei.sz then
       some (0 ≤ bnd0 lo 0 ∧ bnd0 lo 0 ≤ bnd0 hi (es.length : Nat) ∧ bnd0 hi (es.length : Nat) ≤ (es.length : Nat), .ref id q sz (bnd0 lo 0).toNat ((bnd0 hi (es.length : Nat)).toNat - (bnd0 lo 0).toNat))
      else none
     | none => none
    | .ref id q sz off n =>
     if sz = ei.sz then
      some (0 ≤ bnd0 lo 0 ∧ bnd0 lo 0 ≤ bnd0 hi (n : Nat) ∧ bnd0 hi (n : Nat) ≤ (n : Nat), .ref id q sz (off + (bnd0 lo 0).toNat) ((bnd0 hi (n : Nat)).toNat - (bnd0 lo 0).toNat))
     else none
    | _ => none
 | _, _ => none
def bndV (l : Option (IntKind × Int)) : Option Value := l.map fun p => .int p.1 p.2
theorem bndA_val {g : Gh} {w : World} {x : Option AV} {l : Option (IntKind × Int)} (h : bndA x = some l) {v : Option Value} (hv : (x = none ∧ v = none) ∨ ∃ y u, x = some y ∧ v = some u ∧ Val g w y u) : v = bndV l := by
 rcases hv with ⟨rfl, rfl⟩ | ⟨y, u, rfl, rfl, hu⟩
 ·simp only [bndA, Option.some.injEq] at h; subst h; rfl
 ·unfold bndA at h
  split at h
  ·rename_i he; cases he
  ·rename_i k n he
   obtain rfl := Option.some.inj he
   obtain rfl := Option.some.inj h
   obtain rfl := hu.int_inv
   rfl
  ·simp at h
theorem run_sliceBounds' {P : Program} {w : World} (isS : Bool) {len cap : Nat} {lo hi : Option (IntKind × Int)}
 (h0 : 0 ≤ bnd0 lo 0) (h01 : bnd0 lo 0 ≤ bnd0 hi (len : Nat)) (h02 : bnd0 hi (len : Nat) ≤ (len : Nat)) (hlc : len ≤ cap) :
 (Instr.sliceBounds isS len cap (bndV lo) (bndV hi) none).run P w = .ok ((bnd0 lo 0).toNat, (bnd0 hi (len : Nat)).toNat, cap) w := by
 cases lo with
 | none =>
  cases hi with
  | none => simp [Instr.sliceBounds, bndV, bnd0]
  | some p =>
   simp only [bnd0] at h0 h01 h02 ⊢
   simp only [Instr.sliceBounds, bndV, Option.map_none, Option.map_some, Sem.run_bind, Sem.run_pure, Result.andThen_ok]
   rw [run_sliceBound w p.1 p.2 cap _ h01 (by omega)]
   simp
 | some q =>
  cases hi with
  | none =>
   simp only [bnd0] at h0 h01 h02 ⊢
   simp only [Instr.sliceBounds, bndV, Option.map_none, Option.map_some, Sem.run_bind, Sem.run_pure, Result.andThen_ok, Option.isSome_none, Bool.false_eq_true, if_false]
   rw [run_sliceBound w q.1 q.2 len _ h0 (by omega)]
   simp
  | some p =>
   simp only [bnd0] at h0 h01 h02 ⊢
   simp only [Instr.sliceBounds, bndV, Option.map_some, Sem.run_bind, Sem.run_pure, Result.andThen_ok, Option.isSome_none, Bool.false_eq_true, if_false]
   rw [run_sliceBound w p.1 p.2 cap _ (by omega) (by omega)]
   simp only [Result.andThen_ok]
   rw [run_sliceBound w q.1 q.2 p.2.toNat _ h0 (by omega)]
   simp
theorem run_slice_sl {P : Program} {t e : TypeId} {ei : TI} (h : P.underlying t = some (.slice e)) (he : TIOk P e ei) {w : World} {a : Option Addr} {len cap : Nat} {lo hi : Option (IntKind × Int)}
 (h0 : 0 ≤ bnd0 lo 0) (h01 : bnd0 lo 0 ≤ bnd0 hi (len : Nat)) (h02 : bnd0 hi (len : Nat) ≤ (len : Nat)) (hlc : len ≤ cap) :
 (Instr.sliceAt t (.slice a len cap) (bndV lo) (bndV hi) none).run P w =
   .ok (.slice (if cap = (bnd0 lo 0).toNat then a else a.map (·.add ((bnd0 lo 0).toNat * ei.sz))) ((bnd0 hi (len : Nat)).toNat - (bnd0 lo 0).toNat) (cap - (bnd0 lo 0).toNat)) w := by
 simp [Instr.sliceAt, run_underlying h, Instr.slice, run_sliceBounds' true h0 h01 h02 hlc, run_sizeOf' he]
theorem run_slice_str {P : Program} {t : TypeId} (h : P.underlying t = some .string) {w : World} {u : List UInt8} {lo hi : Option (IntKind × Int)}
 (h0 : 0 ≤ bnd0 lo 0) (h01 : bnd0 lo 0 ≤ bnd0 hi (u.length : Nat)) (h02 : bnd0 hi (u.length : Nat) ≤ (u.length : Nat)) :
 (Instr.sliceAt t (.string ⟨⟨u⟩⟩) (bndV lo) (bndV hi) none).run P w = .ok (.string ⟨⟨(u.drop (bnd0 lo 0).toNat).take ((bnd0 hi (u.length : Nat)).toNat - (bnd0 lo 0).toNat)⟩⟩) w := by
 have hb := run_sliceBounds' (P := P) (w := w) false (len := u.length) (cap := u.length) h0 h01 h02 (Nat.le_refl _)
 simp [Instr.sliceAt, run_underlying h, Instr.slice, bytes_size, hb, bytes_extract]
theorem vSlice_ok {P : Program} {T : Tab} (hT : TabOk P T) {s : St} {t : TypeId} {x y : AV} {lo hi : Option AV} {c : Prop} (h : vSlice T s t x lo hi = some (c, y)) (hc : c)
 {a : Act} {w : World} {g : Gh} (hs : Sim s a w g) {v : Value} (hv : Val g w x v) {lv hiv : Option Value}
 (hlo : (lo = none ∧ lv = none) ∨ ∃ y u, lo = some y ∧ lv = some u ∧ Val g w y u) (hhi : (hi = none ∧ hiv = none) ∨ ∃ y u, hi = some y ∧ hiv = some u ∧ Val g w y u) :
 ∃ r, (Instr.sliceAt t v lv hiv none).run P w = .ok r w ∧ Val g w y r := by
 unfold vSlice at h
 split at h
 ·rename_i lo' hi' hl' hh'
  obtain rfl := bndA_val hl' hlo
  obtain rfl := bndA_val hh' hhi
  split at h
  ·rename_i u
   split at h
   ·rename_i hst
    simp only [Option.some.injEq, Prod.mk.injEq] at h
    obtain ⟨rfl, rfl⟩ := h
    obtain rfl := hv.str_inv
    exact ⟨_, run_slice_str (strT_ok hT hst) hc.1 hc.2.1 hc.2.2, Val.mkStr _ _ _⟩
   ·simp at h
  ·split at h
   ·simp at h
   ·rename_i ei hei
    obtain ⟨e, h1, _, h2⟩ := elemOf'_ok hT hei
    split at h
    ·rename_i m sz es _
     split at h
     ·rename_i hsz
      simp only [Option.some.injEq, Prod.mk.injEq] at h
      obtain ⟨rfl, rfl⟩ := h
      obtain ⟨hm0, hc1, hc2, hc3⟩ := hc
      rcases hv.row_inv with ⟨ad, cp, rfl, rfl, _⟩ | ⟨ad, cp, us, rfl, hm, hsp, hl, hw, hcc, ht⟩
      ·refine ⟨_, run_slice_sl h1 h2 (by simpa using hc1) (by simpa using hc2) (by simpa using hc3) (Nat.zero_le _), ?_⟩
       simp only [List.drop_nil, List.take_nil]
       have e0 : (bnd0 hi' ((0 : Nat) : Int)).toNat - (bnd0 lo' 0).toNat = 0 := by simp only [List.length_nil] at hc3; omega
       rw [e0]
       exact .cell _ _ (.emp _ _ _ _ _ hm0)
      ·refine ⟨_, run_slice_sl h1 h2 hc1 hc2 hc3 hl, ?_⟩
       generalize hn1 : (bnd0 lo' 0).toNat = l at *
       generalize hn2 : (bnd0 hi' (es.length : Nat)).toNat = hh at *
       have hll : hh ≤ es.length := by omega
       have hlh : l ≤ hh := by omega
       have hlen : ((es.drop l).take (hh - l)).length = hh - l := by simp; omega
       by_cases he : cp = l
       ·have e0 : hh - l = 0 := by omega
        rw [e0]
        simp only [List.take_zero]
        exact .cell _ _ (.emp _ _ _ _ _ hm0)
       ·rw [if_neg he]
        have hget : ∀ (i : Nat) (x : AV), ((es.drop l).take (hh - l))[i]? = some x → es[l + i]? = some x := by
         intro i x hx
         rw [List.getElem?_take] at hx
         split at hx
         ·rwa [List.getElem?_drop] at hx
         ·simp at hx
        have hadd : ∀ i k : Nat, (l + i) * sz + k = l * ei.sz + (i * sz + k) := by
         intro i k; rw [← hsz, Nat.add_mul]; omega
        have key := Cell.rd (g := g) (w := w) .bo m sz ((es.drop l).take (hh - l)) (ad.add (l * ei.sz)) (cp - l) (fun j => us (l * ei.sz + j)) (by simp) (by rw [add_block]; exact hm) (add_spot _ hsp _) (by rw [hlen]; omega)
         (fun i x hx => hw _ x (hget i x hx))
         (fun i k x y hx hy => by rw [add_add _ hsp, ← hadd]; exact hcc _ k x y (hget i x hx) hy)
         (fun i k x y hx hy => by have := ht _ k x y (hget i x hx) hy; rw [hadd] at this; exact this)
        rw [hlen] at key
        exact .cell _ _ key
     ·simp at h
    ·rename_i id q _
     split at h
     ·rename_i sz es hn
      split at h
      ·rename_i hsz
       simp only [Option.some.injEq, Prod.mk.injEq] at h
       obtain ⟨rfl, rfl⟩ := h
       obtain ⟨hc1, hc2, hc3⟩ := hc
       obtain ⟨v', hnode⟩ := hs.node hn
       obtain rfl := hnode.hd hv
       obtain ⟨ad, cp, rfl⟩ := hnode.len
       rcases hv.hd_inv with ⟨b, c, n, hl, he⟩ | ⟨hl, he⟩
       ·simp only [Value.slice.injEq] at he
        obtain ⟨rfl, rfl, rfl⟩ := he
        have hle : es.length ≤ cp := by
         cases hnode with
         | rd _ _ _ _ a c us hp hm => exact hm.elim
         | emp _ _ _ a c hm => exact Nat.zero_le _
         | own _ _ _ _ b c cur e us hl ho hb hn' => exact hn'
        refine ⟨_, run_slice_sl h1 h2 hc1 hc2 hc3 hle, ?_⟩
        generalize hn1 : (bnd0 lo' 0).toNat = l at *
        generalize hn2 : (bnd0 hi' (es.length : Nat)).toNat = hh at *
        have : (if cp = l then some (⟨b, 0, none⟩ : Addr) else (some (⟨b, 0, none⟩ : Addr)).map (·.add (l * ei.sz))) = some (if cp = l then ⟨b, 0, none⟩ else ⟨b, l * ei.sz, none⟩) := by
         split
         ·rfl
         ·simp [add_lit]
        rw [this]
        refine .ref _ _ _ _ _ b cp _ (cp - l) _ hl (by omega) (by omega) ?_
        intro h'
        by_cases he : cp = l
        ·rw [if_pos he]
         have : l = 0 := by omega
         simp [this]
        ·rw [if_neg he, hsz]
       ·simp only [Value.slice.injEq] at he
        obtain ⟨rfl, hes, rfl⟩ := he
        have hl0 : (bnd0 lo' 0).toNat = 0 := by omega
        have hh0 : (bnd0 hi' (es.length : Nat)).toNat = 0 := by omega
        refine ⟨_, run_slice_sl h1 h2 hc1 hc2 hc3 (by omega), ?_⟩
        rw [hl0, hh0]
        simp only [Nat.sub_self, if_true]
        exact .refNil _ _ _ hl
      ·simp at h
     ·simp at h
    ·rename_i id q sz off n _
     split at h
     ·rename_i hsz
      simp only [Option.some.injEq, Prod.mk.injEq] at h
      obtain ⟨rfl, rfl⟩ := h
      obtain ⟨hc1, hc2, hc3⟩ := hc
      rcases hv.ref_inv with ⟨b, cap, len', c', ad, hl, h3, h4, h5, rfl⟩ | ⟨hl, rfl, rfl, rfl⟩
      ·refine ⟨_, run_slice_sl h1 h2 hc1 hc2 hc3 h4, ?_⟩
       generalize hn1 : (bnd0 lo' 0).toNat = l at *
       generalize hn2 : (bnd0 hi' (n : Nat)).toNat = hh at *
       have : (if c' = l then some ad else (some ad).map (·.add (l * ei.sz))) = some (if c' = l then ad else ad.add (l * ei.sz)) := by split <;> rfl
       rw [this]
       refine .ref _ _ _ _ _ b cap _ (c' - l) _ hl (by omega) (by omega) ?_
       intro h'
       by_cases he : c' = l
       ·rw [if_pos he]
        have h00 : off + l = 0 := by omega
        have : off = 0 := by omega
        subst this
        rw [h5 (.inr rfl)]
        have : l = 0 := by omega
        simp [this]
       ·rw [if_neg he]
        have hc0 : 0 < c' ∨ off = 0 := by omega
        rw [h5 hc0, add_lit, hsz, ← Nat.add_mul]
      ·have hl0 : (bnd0 lo' 0).toNat = 0 := by omega
       have hh0 : (bnd0 hi' ((0 : Nat) : Int)).toNat = 0 := by omega
       refine ⟨_, run_slice_sl h1 h2 hc1 hc2 hc3 (Nat.le_refl _), ?_⟩
       rw [hl0, hh0]
       simp only [Nat.sub_self, if_true]
       exact .refNil _ _ _ hl
     ·simp at h
    ·simp at h
 ·simp at h
end Go.Proofs.YtiilnlihimdnlaaGreatDoorFw
/- The last operations that leave the memory alone: signs, conversions, parts, values built. -/
namespace Go.Proofs.YtiilnlihimdnlaaGreatDoorFw
open Go Go.RowKit
set_option linter.unusedVariables false
def vUn (op : UnOp) (x : AV) : Option AV :=
 match op, x with
 | .neg, .int k n => some (.int k (k.wrap (0 - n)))
 | .not, .bool b => some (.bool (!b))
 | .xor, .int k n => if k.signed then some (.int k (bits .xor k (-1) n)) else none
 | _, _ => none
theorem vUn_ok {P : Program} {op : UnOp} {x y : AV} (h : vUn op x = some y) {w : World} {g : Gh} {v : Value} (hv : Val g w x v) : ∃ r, (Op.unary op v).run P w = .ok r w ∧ Val g w y r := by
 unfold vUn at h
 split at h
 ·obtain rfl := Option.some.inj h; obtain rfl := hv.int_inv
  exact ⟨_, by simp [Op.unary, Op.intArith], Val.mkInt _ _ _ _⟩
 ·obtain rfl := Option.some.inj h; obtain rfl := hv.bool_inv
  exact ⟨_, by simp [Op.unary], Val.mkBool _ _ _⟩
 ·split at h
  ·rename_i hk
   obtain rfl := Option.some.inj h; obtain rfl := hv.int_inv
   exact ⟨_, by simp [Op.unary, hk, intBits_xor], Val.mkInt _ _ _ _⟩
  ·simp at h
 ·simp at h
def vConv (T : Tab) (src dst : TypeId) (x : AV) : Option AV :=
 match T src, T dst with
 | some _, some { k := .int k, .. } =>
  match x with
  | .int _ n => some (.int k (k.wrap n))
  | _ => none
 | some _, some { k := .str, .. } =>
  match x with
  | .str l => some (.str l)
  | _ => none
 | _, _ => none
theorem TKOk.some {P : Program} {t : TypeId} {k : TK} (h : TKOk P t k) : ∃ d, P.underlying t = some d := by
 cases k with
 | struct fs => obtain ⟨f, h, _⟩ := h; exact ⟨_, h⟩
 | other => obtain ⟨d, h, _⟩ := h; exact ⟨d, h⟩
 | _ => exact ⟨_, h⟩
theorem vConv_ok {P : Program} {T : Tab} (hT : TabOk P T) {src dst : TypeId} {x y : AV} (h : vConv T src dst x = some y) {w : World} {g : Gh} {v : Value} (hv : Val g w x v) : ∃ r, (convert src dst v).run P w = .ok r w ∧ Val g w y r := by
 unfold vConv at h
 split at h
 ·rename_i si k sz by_ z hs hd
  obtain ⟨d, hd1⟩ := (hT _ _ hs).kind.some
  have hd2 : P.underlying dst = some (.int k) := (hT _ _ hd).kind
  split at h
  ·rename_i k' n
   obtain rfl := Option.some.inj h; obtain rfl := hv.int_inv
   exact ⟨_, by simp [convert, run_underlying hd1, run_underlying hd2, Conv.intToInt], Val.mkInt _ _ _ _⟩
  ·simp at h
 ·rename_i si sz by_ z hs hd
  obtain ⟨d, hd1⟩ := (hT _ _ hs).kind.some
  have hd2 : P.underlying dst = some .string := (hT _ _ hd).kind
  split at h
  ·rename_i l
   obtain rfl := Option.some.inj h; obtain rfl := hv.str_inv
   refine ⟨.string ⟨⟨l⟩⟩, ?_, Val.mkStr _ _ _⟩
   simp [convert, run_underlying hd1, run_underlying hd2]
  ·simp at h
 ·simp at h
def vExtract (x : AV) (i : Nat) : Option AV :=
 match x with
 | .tup cs => cs[i]?
 | _ => none
theorem vExtract_ok {P : Program} {x y : AV} {i : Nat} (h : vExtract x i = some y) {w : World} {g : Gh} {v : Value} (hv : Val g w x v) : ∃ r, (Instr.extract v i).run P w = .ok r w ∧ Val g w y r := by
 unfold vExtract at h
 split at h
 ·rename_i cs
  obtain ⟨vs, rfl, hl, hh⟩ := hv.tup_inv
  have hlt : i < vs.size := by rw [hl]; exact lt_of_get h
  exact ⟨vs[i], by simp [Instr.extract, hlt], hh i y _ h (Array.getElem?_eq_getElem hlt)⟩
 ·simp at h
def vNilCheck (x : AV) : Option AV :=
 match x with
 | .ptr id q sz i k => some (.ptr id q sz i k)
 | .rp m cs => some (.rp m cs)
 | .vp cs => some (.vp cs)
 | .fn f cs => some (.fn f cs)
 | _ => none
theorem Val.fn_inv {g : Gh} {w : World} {f : FuncId} {cs : List AV} {v : Value} (h : Val g w (.fn f cs) v) :
 ∃ vs : Array Value, v = .func (.func f) #[] vs ∧ vs.size = cs.length ∧ ∀ (k : Nat) (c : AV) (u : Value), cs[k]? = some c → vs[k]? = some u → Val g w c u := by
 cases h with
 | cell _ _ h => cases h
 | fn _ _ vs hl h => exact ⟨vs, rfl, hl, h⟩
/-! ### cells of a value -/
theorem Val.cells {g : Gh} {w : World} {x : AV} {v : Value} (h : Val g w x v) (hd : x ≠ .dead) :
 v.cells.size = x.cells.length ∧ ∀ (k : Nat) (c : AV) (u : Value), x.cells[k]? = some c → v.cells[k]? = some u → Val g w c u := by
 have one : ∀ {x : AV} {v : Value}, x.cells = [x] → v.cells = #[v] → Val g w x v → v.cells.size = x.cells.length ∧ ∀ (k : Nat) (c : AV) (u : Value), x.cells[k]? = some c → v.cells[k]? = some u → Val g w c u := by
  intro x v hx hv h
  refine ⟨by rw [hx, hv]; rfl, ?_⟩
  intro k c u hc hu
  rw [hx] at hc; rw [hv] at hu
  cases k with
  | zero => simp at hc hu; rw [← hc, ← hu]; exact h
  | succ k => simp at hc
 cases h with
 | cell _ _ h => cases h <;> first | exact absurd rfl hd | exact one rfl rfl (.cell _ _ (by constructor <;> assumption))
 | nilS => exact one rfl rfl .nilS
 | nilP => exact one rfl rfl .nilP
 | agg cs vs hl h => exact ⟨hl, h⟩
 | tup cs vs hl h => exact one rfl rfl (.tup _ _ hl h)
 | fn f cs vs hl h => exact one rfl rfl (.fn _ _ _ hl h)
 | hd id q b c n hl => exact one rfl rfl (.hd _ _ _ _ _ hl)
 | hdNil id q hl => exact one rfl rfl (.hdNil _ _ hl)
 | ref id q sz off n b cap len c a hl hc hn ha => exact one rfl rfl (.ref _ _ _ _ _ _ _ _ _ _ hl hc hn ha)
 | refNil id q sz hl => exact one rfl rfl (.refNil _ _ _ hl)
 | ptr id q sz i k b cap len hl => exact one rfl rfl (.ptr _ _ _ _ _ _ _ _ hl)
 | rp m cs a us hm hs hc ht => exact one rfl rfl (.rp _ _ _ us hm hs hc ht)
 | vp cs a us hm hs hc ht => exact one rfl rfl (.vp _ _ us hm hs hc ht)
 | dead v => exact absurd rfl hd
/-! ### a struct's value out of its parts -/
def slotZ : AV → AV
 | .row .own _ [] => .nilS
 | x => x
theorem ZOk.val {g : Gh} {w : World} {y : AV} {u : Value} (h : ZOk y u) : Val g w (slotZ y) u := by
 cases y with
 | int k n => cases u <;> simp [ZOk] at h; obtain ⟨rfl, rfl⟩ := h; exact Val.mkInt _ _ _ _
 | bool b => cases u <;> simp [ZOk] at h; subst h; exact Val.mkBool _ _ _
 | str s => cases u <;> simp [ZOk] at h; subst h; exact Val.mkStr _ _ _
 | nilI => cases u <;> simp [ZOk] at h; exact .cell _ _ (.nilI _)
 | ifc c => cases u <;> simp [ZOk] at h
 | dead => exact .dead _
 | row m sz es =>
  cases m <;> cases es <;> cases u <;> try (simp [ZOk] at h; done)
  rename_i a l c
  cases a <;> cases l <;> cases c <;> try (simp [ZOk] at h; done)
  exact .nilS
 | _ => cases u <;> simp [ZOk] at h
def setR : List AV → Nat → List AV → List AV
 | cs, _, [] => cs
 | cs, off, y :: r => setR (cs.set off y) (off + 1) r
def isDead : AV → Bool
 | .dead => true
 | _ => false
def fillA (T : Tab) (t : TypeId) : List AV → List (Nat × AV) → Option (List AV)
 | cs, [] => some cs
 | cs, (f, x) :: r =>
  match fieldOf T t f with
  | some (off, fi) => if isDead x = false ∧ x.cells.length = fi.sz ∧ off + fi.sz ≤ cs.length then fillA T t (setR cs off x.cells) r else none
  | none => none
def evL (s : St) : List (Nat × Operand) → Option (List (Nat × AV))
 | [] => some []
 | (f, x) :: r =>
  match s.ev x, evL s r with
  | some y, some l => some ((f, y) :: l)
  | _, _ => none
def vBuild (T : Tab) (s : St) (t : TypeId) (parts : List (Nat × Operand)) : Option AV :=
 match T t with
 | some ti =>
  match ti.k, evL s parts with
  | .struct _, some ps => (fillA T t (ti.z.map slotZ) ps).map .agg
  | _, _ => none
 | none => none
theorem setR_val {g : Gh} {w : World} : ∀ (ys : List AV) (us : List Value) (cs : List AV) (vs : Array Value) (off j0 : Nat),
 us.length = ys.length → (∀ (k : Nat) (c : AV) (u : Value), ys[k]? = some c → us[k]? = some u → Val g w c u) →
 vs.size = cs.length → (∀ (k : Nat) (c : AV) (u : Value), cs[k]? = some c → vs[k]? = some u → Val g w c u) →
 let vs' := (us.zipIdx j0).foldl (fun cs (p : Value × Nat) => cs.setIfInBounds (off + p.2) p.1) vs
 vs'.size = (setR cs (off + j0) ys).length ∧ ∀ (k : Nat) (c : AV) (u : Value), (setR cs (off + j0) ys)[k]? = some c → vs'[k]? = some u → Val g w c u
 | [], us, cs, vs, off, j0, hl, _, hs, h => by
  cases us with
  | nil => exact ⟨hs, h⟩
  | cons u r => simp at hl
 | y :: ys, us, cs, vs, off, j0, hl, hv, hs, h => by
  cases us with
  | nil => simp at hl
  | cons u us =>
   simp only [List.zipIdx_cons, List.foldl_cons, setR]
   have := setR_val ys us (cs.set (off + j0) y) (vs.setIfInBounds (off + j0) u) off (j0 + 1) (by simpa using hl) (fun k c u hc hu => hv (k + 1) c u (by simpa using hc) (by simpa using hu)) (by simpa using hs) ?_
   ·rw [← Nat.add_assoc] at this
    exact this
   ·intro k c u' hc hu'
    by_cases hk : off + j0 = k
    ·subst hk
     rw [Array.getElem?_setIfInBounds_self] at hu'
     split at hu'
     ·obtain rfl := Option.some.inj hu'
      rw [List.getElem?_set_self (by omega)] at hc
      obtain rfl := Option.some.inj hc
      exact hv 0 _ _ rfl rfl
     ·simp at hu'
    ·rw [List.getElem?_set_ne hk] at hc
     rw [Array.getElem?_setIfInBounds_ne hk] at hu'
     exact h k c u' hc hu'
theorem run_fill {P : Program} {T : Tab} (hT : TabOk P T) {t : TypeId} {fields : Array Field} (ht : P.underlying t = some (.struct fields)) {g : Gh} {w : World} {pl : Nat → Option (Nat × Nat)}
 (hpl : ∀ (f off : Nat) (fi : TI), fieldOf T t f = some (off, fi) → pl f = some (off, fi.sz)) :
 ∀ (ps : List (Nat × AV)) (vs : List (Nat × Value)) (cs : List AV) (zs : Array Value) (out : List AV),
 fillA T t cs ps = some out → vs.map (·.1) = ps.map (·.1) → (∀ (j : Nat) (p : Nat × AV) (u : Nat × Value), ps[j]? = some p → vs[j]? = some u → Val g w p.2 u.2) →
 zs.size = cs.length → (∀ (k : Nat) (c : AV) (u : Value), cs[k]? = some c → zs[k]? = some u → Val g w c u) →
 ∃ zs', Instr.fill pl zs vs = some zs' ∧ zs'.size = out.length ∧ ∀ (k : Nat) (c : AV) (u : Value), out[k]? = some c → zs'[k]? = some u → Val g w c u
 | [], vs, cs, zs, out, h, hm, _, hz, hc => by
  cases vs with
  | nil => simp only [fillA, Option.some.injEq] at h; subst h; exact ⟨zs, rfl, hz, hc⟩
  | cons v r => simp at hm
 | (f, x) :: r, vs, cs, zs, out, h, hm, hv, hz, hc => by
  cases vs with
  | nil => simp at hm
  | cons p vs =>
   obtain ⟨f', v⟩ := p
   simp only [List.map_cons, List.cons.injEq] at hm
   obtain ⟨rfl, hm⟩ := hm
   simp only [fillA] at h
   split at h
   ·rename_i off fi hf
    split at h
    ·rename_i hcond
     obtain ⟨h1, h2, h3⟩ := hcond
     have hvx : Val g w x v := hv 0 _ _ rfl rfl
     obtain ⟨hsz, hcells⟩ := hvx.cells (fun e => by rw [e] at h1; simp [isDead] at h1)
     have hset := setR_val (g := g) (w := w) x.cells v.cells.toList cs zs off 0 (by simpa using hsz) (fun k c u hc hu => hcells k c u hc (by simpa using hu)) hz hc
     simp only [Nat.add_zero] at hset
     have e1 : v.cells.zipIdx.foldl (fun cs (p : Value × Nat) => cs.setIfInBounds (off + p.2) p.1) zs = (v.cells.toList.zipIdx 0).foldl (fun cs (p : Value × Nat) => cs.setIfInBounds (off + p.2) p.1) zs := by
      rw [← Array.foldl_toList]; simp
     obtain ⟨zs', hz1, hz2, hz3⟩ := run_fill hT ht hpl r vs _ _ out h hm (fun j p u hp hu => hv (j + 1) p u (by simpa using hp) (by simpa using hu)) hset.1 hset.2
     refine ⟨zs', ?_, hz2, hz3⟩
     simp only [Instr.fill, hpl f' off fi hf]
     rw [if_neg]
     ·rw [← hz1]; exact congrArg (fun z => Instr.fill pl z vs) e1
     ·simp only [Bool.or_eq_true, decide_eq_true_eq, not_or]
      have : v.cells.size = fi.sz := by omega
      exact ⟨by simpa using this, by omega⟩
    ·simp at h
   ·simp at h
theorem mapM_sizes {P : Program} {T : Tab} (hT : TabOk P T) (w : World) : ∀ (l : List Field), (∀ f ∈ l, (T f.type).isSome = true) →
 ∃ ps : List (Nat × Nat), (l.mapM fun f => (do pure (f.offset, ← sizeOf f.type) : Sem (Nat × Nat))).run P w = .ok ps w ∧ ps.length = l.length ∧
  ∀ (j : Nat) (f : Field) (fi : TI), l[j]? = some f → T f.type = some fi → ps[j]? = some (f.offset, fi.sz)
 | [], _ => ⟨[], rfl, rfl, fun j f fi h => by simp at h⟩
 | f :: r, h => by
  obtain ⟨ps, h1, h2, h3⟩ := mapM_sizes hT w r (fun x hx => h x (by simp [hx]))
  obtain ⟨fi, hfi⟩ := Option.isSome_iff_exists.1 (h f (by simp))
  refine ⟨(f.offset, fi.sz) :: ps, ?_, by simp [h2], ?_⟩
  ·simp only [List.mapM_cons, Sem.run_bind, run_sizeOf' (hT _ _ hfi), Result.andThen_ok, Sem.run_pure, h1]
  ·intro j f' fi' hj hf'
   cases j with
   | zero =>
    simp only [List.getElem?_cons_zero, Option.some.injEq] at hj
    subst hj
    rw [hfi] at hf'
    obtain rfl := Option.some.inj hf'
    rfl
   | succ j => exact h3 j f' fi' (by simpa using hj) hf'
theorem evL_val {s : St} {a : Act} {w : World} {g : Gh} (hs : Sim s a w g) : ∀ (ps : List (Nat × Operand)) (l : List (Nat × AV)), evL s ps = some l →
 (ps.map fun p => (p.1, a.eval p.2)).map (·.1) = l.map (·.1) ∧ ∀ (j : Nat) (p : Nat × AV) (u : Nat × Value), l[j]? = some p → (ps.map fun p => (p.1, a.eval p.2))[j]? = some u → Val g w p.2 u.2
 | [], l, h => by
  simp only [evL, Option.some.injEq] at h; subst h
  exact ⟨rfl, fun j p u hp => by simp at hp⟩
 | (f, x) :: r, l, h => by
  simp only [evL] at h
  split at h
  ·rename_i y l' hy hl'
   obtain rfl := Option.some.inj h
   obtain ⟨h1, h2⟩ := evL_val hs r l' hl'
   refine ⟨by simpa using h1, ?_⟩
   intro j p u hp hu
   cases j with
   | zero =>
    simp only [List.getElem?_cons_zero, Option.some.injEq] at hp
    simp only [List.map_cons, List.getElem?_cons_zero, Option.some.injEq] at hu
    subst hp; subst hu
    exact hs.ev hy
   | succ j => exact h2 j p u (by simpa using hp) (by simpa using hu)
  ·simp at h
def fieldsTold (T : Tab) (fs : List (Nat × TypeId)) : Bool := fs.all fun p => (T p.2).isSome
theorem vBuild_ok {P : Program} {T : Tab} (hT : TabOk P T) {s : St} {t : TypeId} {parts : Array (Nat × Operand)} {y : AV} (h : vBuild T s t parts.toList = some y)
 (hf : ∀ ti fs, T t = some ti → ti.k = .struct fs → fieldsTold T fs = true) {a : Act} {w : World} {g : Gh} (hs : Sim s a w g) :
 ∃ r, (Instr.build t (parts.map fun (i, x) => (i, a.eval x))).run P w = .ok r w ∧ Val g w y r := by
 unfold vBuild at h
 split at h
 ·rename_i ti hti
  split at h
  ·rename_i fs ps hk hps
   cases hfill : fillA T t (ti.z.map slotZ) ps with
   | none => simp [hfill] at h
   | some out =>
    rw [hfill] at h
    obtain rfl := Option.some.inj h
    obtain ⟨z, hz1, hz2, hz3, hz4⟩ := run_zeroValue (hT t ti hti)
    have hkind := (hT t ti hti).kind
    rw [hk] at hkind
    obtain ⟨fields, hu, hfs⟩ := hkind
    have htold := hf ti fs hti hk
    obtain ⟨pl, hp1, hp2, hp3⟩ := mapM_sizes hT w fields.toList (by
     intro f hfm
     have : (f.offset, f.type) ∈ fs := by rw [← hfs]; exact List.mem_map.2 ⟨f, hfm, rfl⟩
     exact (List.all_eq_true.1 htold) _ this)
    have hmm : (fields.mapM fun f => (do pure (f.offset, ← sizeOf f.type) : Sem (Nat × Nat))).run P w = .ok pl.toArray w := by
     rw [Array.mapM_eq_mapM_toList]
     simp only [Sem.run_map, hp1, Result.andThen_ok]
    obtain ⟨hv1, hv2⟩ := evL_val hs parts.toList ps hps
    have hpl : ∀ (f off : Nat) (fi : TI), fieldOf T t f = some (off, fi) → (fun i => pl.toArray[i]?) f = some (off, fi.sz) := by
     intro f off fi hfo
     unfold fieldOf at hfo
     rw [hti] at hfo
     obtain ⟨k, sz, by_, z'⟩ := ti
     simp only at hk
     subst hk
     simp only at hfo
     split at hfo
     ·rename_i off' ft hft
      split at hfo
      ·rename_i fi' hfi'
       simp only [Option.some.injEq, Prod.mk.injEq] at hfo
       obtain ⟨rfl, rfl⟩ := hfo
       rw [← hfs, List.getElem?_map] at hft
       cases hfd : fields.toList[f]? with
       | none => simp [hfd] at hft
       | some fd =>
        rw [hfd] at hft
        simp only [Option.map_some, Option.some.injEq, Prod.mk.injEq] at hft
        have := hp3 f fd fi' hfd (by rw [hft.2]; exact hfi')
        rw [hft.1] at this
        simpa using this
      ·simp at hfo
     ·simp at hfo
    obtain ⟨zs', hr1, hr2, hr3⟩ := run_fill hT hu (g := g) (w := w) hpl ps _ (ti.z.map slotZ) z.cells out hfill hv1 hv2 (by simpa using hz1.trans hz2.symm) (by
     intro k c u hc hu'
     obtain ⟨y0, hy0, rfl⟩ := get_map hc
     obtain ⟨u0, hu0, hzo⟩ := hz3 k y0 hy0
     rw [hu'] at hu0
     obtain rfl := Option.some.inj hu0
     exact hzo.val)
    refine ⟨.agg zs', ?_, .agg _ _ hr2 hr3⟩
    have e2 : (parts.map fun (i, x) => (i, a.eval x)).toList = parts.toList.map fun p => (p.1, a.eval p.2) := by simp
    simp only [Instr.build, Sem.run_bind, hz4, Result.andThen_ok, run_underlying hu, hmm, e2]
    rw [hr1]
    rfl
  ·simp at h
 ·simp at h
end Go.Proofs.YtiilnlihimdnlaaGreatDoorFw
