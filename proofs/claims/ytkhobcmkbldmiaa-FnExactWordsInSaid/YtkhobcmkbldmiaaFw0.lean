/- A calculus over abstract values: what a value, a row of memory and an object of the call's own read as. Generic: no program in sight. -/
import Derived.WalkKit
namespace Go.Proofs.YtkhobcmkbldmiaaFw
open Go Go.RowKit

/-- Whose a row is: the call's own; read-only for ever; lent to the call. -/
inductive Md where
  | own | ro | bo
  deriving DecidableEq

/-- Abstract values. 'row m sz es': a slice's elements, each of sz cells ('agg' where the element is a struct). 'hd': an own row whole (object, path). 'ref': a view of one (cells an element, first element, how many). 'ptr': a place in an own object (object, path, cells an element, element, cell). 'rp': a pointer to cells that are only read. -/
inductive AV where
  | int (k : IntKind) (n : Int)
  | bool (b : Bool)
  | str (s : List UInt8)
  | nilI
  | nilP
  | nilS
  | row (m : Md) (sz : Nat) (es : List AV)
  | agg (cs : List AV)
  | tup (vs : List AV)
  | fn (f : FuncId) (caps : List AV)
  | hd (id : Nat) (q : List (Nat × Nat))
  | ref (id : Nat) (q : List (Nat × Nat)) (sz off n : Nat)
  | ptr (id : Nat) (q : List (Nat × Nat)) (sz i k : Nat)
  | rp (m : Md) (cs : List AV)
  | vp (cs : List AV)
  | dead

def AV.cells : AV → List AV
  | .agg cs => cs
  | x => [x]

def AV.width (x : AV) : Nat := x.cells.length

/-- Element x with cell k turned to c. -/
def AV.setC (x : AV) (k : Nat) (c : AV) : AV :=
  match x with
  | .agg cs => .agg (cs.set k c)
  | _ => c

abbrev Path := List (Nat × Nat)

/-- What stands behind the abstract state, and is in no statement: where an own row lies (block, capacity, length), whose a block is, what may be read. -/
structure Gh where
  loc : Nat → Path → Option (Nat × Nat × Nat)
  own : Nat → Option (Nat × Path)
  perm : Nat → Prop
  bor : Nat → Prop
  st : Bool

def Gh.rd (g : Gh) : Md → Nat → Prop
  | .own, _ => False
  | .ro, b => g.perm b
  | .bo, b => g.perm b ∨ g.bor b

def Gh.canRd (g : Gh) (b : Nat) : Prop := g.perm b ∨ g.bor b

/-- Where a cell stands: in an own tree; in what is read-only for ever; in what is lent, or a slot. -/
inductive Pl where
  | at (id : Nat) (q : Path)
  | ro | bo

/-- Where the elements of a row stand that is only read. -/
def Md.pl : Md → Pl
  | .bo => .bo
  | _ => .ro

/-- One cell of memory, or a value of one cell, reads as this. -/
inductive Cell (g : Gh) (w : World) : Pl → AV → Value → Prop where
  | int (p : Pl) (k : IntKind) (n : Int) : Cell g w p (.int k n) (.int k n)
  | bool (p : Pl) (b : Bool) : Cell g w p (.bool b) (.bool b)
  | str (p : Pl) (s : List UInt8) : Cell g w p (.str s) (.string ⟨⟨s⟩⟩)
  | nilI (p : Pl) : Cell g w p .nilI .nilIface
  | dead (p : Pl) (v : Value) (h1 : v.oneCell' = true) : Cell g w p .dead v
  | emp (p : Pl) (m : Md) (sz : Nat) (a : Option Addr) (c : Nat) (hm : m ≠ .own) : Cell g w p (.row m sz []) (.slice a 0 c)
  | rd (p : Pl) (m : Md) (sz : Nat) (es : List AV) (a : Addr) (c : Nat) (us : Nat → Value)
      (hp : m = .bo → p ≠ .ro) (hm : g.rd m a.block) (hs : a.spot = none) (hl : es.length ≤ c)
      (hw : ∀ (i : Nat) (x : AV), es[i]? = some x → x.width = sz)
      (hc : ∀ (i k : Nat) (x y : AV), es[i]? = some x → x.cells[k]? = some y → w.cell? (a.add (i * sz + k)) = some (us (i * sz + k)))
      (ht : ∀ (i k : Nat) (x y : AV), es[i]? = some x → x.cells[k]? = some y → Cell g w m.pl y (us (i * sz + k))) :
      Cell g w p (.row m sz es) (.slice (some a) es.length c)
  | ownNil (id : Nat) (q : Path) (sz : Nat) (hl : g.loc id q = none) : Cell g w (.at id q) (.row .own sz []) (.slice none 0 0)
  | own (id : Nat) (q : Path) (sz : Nat) (es : List AV) (b c : Nat) (cur : Array Value) (e : TypeId) (us : Nat → Value)
      (hl : g.loc id q = some (b, c, es.length)) (ho : g.own b = some (id, q)) (hb : w.heap[b]? = some (.cells cur e (0, 0)))
      (hn : es.length ≤ c) (hm : c ≤ maxLen) (hz : cur.size = c * sz)
      (hw : ∀ (i : Nat) (x : AV), es[i]? = some x → x.width = sz)
      (hc : ∀ (i k : Nat) (x y : AV), es[i]? = some x → x.cells[k]? = some y → cur[i * sz + k]? = some (us (i * sz + k)))
      (ht : ∀ (i k : Nat) (x y : AV), es[i]? = some x → x.cells[k]? = some y → Cell g w (.at id (q ++ [(i, k)])) y (us (i * sz + k))) :
      Cell g w (.at id q) (.row .own sz es) (.slice (some ⟨b, 0, none⟩) es.length c)

/-- What a slot holds. -/
inductive Val (g : Gh) (w : World) : AV → Value → Prop where
  | cell (x : AV) (v : Value) (h : Cell g w .bo x v) : Val g w x v
  | nilS : Val g w .nilS (.slice none 0 0)
  | nilP : Val g w .nilP (.pointer none)
  | agg (cs : List AV) (vs : Array Value) (hl : vs.size = cs.length)
      (h : ∀ (k : Nat) (c : AV) (u : Value), cs[k]? = some c → vs[k]? = some u → Val g w c u) : Val g w (.agg cs) (.agg vs)
  | tup (cs : List AV) (vs : Array Value) (hl : vs.size = cs.length)
      (h : ∀ (k : Nat) (c : AV) (u : Value), cs[k]? = some c → vs[k]? = some u → Val g w c u) : Val g w (.tup cs) (.tuple vs)
  | fn (f : FuncId) (cs : List AV) (vs : Array Value) (hl : vs.size = cs.length)
      (h : ∀ (k : Nat) (c : AV) (u : Value), cs[k]? = some c → vs[k]? = some u → Val g w c u) : Val g w (.fn f cs) (.func (.func f) #[] vs)
  | hd (id : Nat) (q : Path) (b c n : Nat) (hl : g.loc id q = some (b, c, n)) : Val g w (.hd id q) (.slice (some ⟨b, 0, none⟩) n c)
  | hdNil (id : Nat) (q : Path) (hl : g.loc id q = none) : Val g w (.hd id q) (.slice none 0 0)
  | ref (id : Nat) (q : Path) (sz off n b cap len c : Nat) (a : Addr) (hl : g.loc id q = some (b, cap, len))
      (hc : off + c = cap) (hn : n ≤ c) (ha : 0 < c ∨ off = 0 → a = ⟨b, off * sz, none⟩) : Val g w (.ref id q sz off n) (.slice (some a) n c)
  | refNil (id : Nat) (q : Path) (sz : Nat) (hl : g.loc id q = none) : Val g w (.ref id q sz 0 0) (.slice none 0 0)
  | ptr (id : Nat) (q : Path) (sz i k b cap len : Nat) (hl : g.loc id q = some (b, cap, len)) : Val g w (.ptr id q sz i k) (.pointer (some ⟨b, i * sz + k, none⟩))
  | rp (m : Md) (cs : List AV) (a : Addr) (us : Nat → Value) (hm : g.rd m a.block) (hs : a.spot = none)
      (hc : ∀ (k : Nat) (y : AV), cs[k]? = some y → w.cell? (a.add k) = some (us k))
      (ht : ∀ (k : Nat) (y : AV), cs[k]? = some y → Cell g w m.pl y (us k)) : Val g w (.rp m cs) (.pointer (some a))
  | vp (cs : List AV) (a : Addr) (us : Nat → Value) (hm : g.perm a.block) (hs : a.spot = none)
      (hc : ∀ (k : Nat) (y : AV), cs[k]? = some y → w.cell? (a.add k) = some (us k))
      (ht : ∀ (k : Nat) (y : AV), cs[k]? = some y → Val g w y (us k)) : Val g w (.vp cs) (.pointer (some a))
  | dead (v : Value) : Val g w .dead v

/-- An object of the call's own: an own row at its root. -/
structure Obj where
  id : Nat
  sz : Nat
  es : List AV

/-- The abstract state: how many slots there are, what is known of them, the own objects. -/
structure St where
  nt : Nat
  slots : List (Nat × AV)
  objs : List Obj
  st : Bool

def lookS : List (Nat × AV) → Nat → Option AV
  | [], _ => none
  | (t, x) :: r, u => if t = u then some x else lookS r u

def lookO : List Obj → Nat → Option (Nat × List AV)
  | [], _ => none
  | o :: r, i => if o.id = i then some (o.sz, o.es) else lookO r i

/-- The own objects lie as they are told. -/
structure HSim (objs : List Obj) (w : World) (g : Gh) : Prop where
  obj : ∀ id sz es, lookO objs id = some (sz, es) → ∃ v, Cell g w (.at id []) (.row .own sz es) v
  sep : ∀ b p, g.own b = some p → ¬ g.perm b ∧ ¬ g.bor b ∧ b < w.heap.size
  rdlt : ∀ b, g.canRd b → b < w.heap.size

structure Sim (s : St) (a : Act) (w : World) (g : Gh) : Prop where
  nt : a.tmps.size = s.nt
  defers : a.defers = []
  slot : ∀ t x, lookS s.slots t = some x → ∃ v, a.tmps[t]? = some v ∧ Val g w x v
  h : HSim s.objs w g
  st : s.st = g.st

/-- What a call leaves as it was. -/
structure Keep (g : Gh) (w : World) (g' : Gh) (w' : World) : Prop where
  os : w'.os = w.os
  tape : w'.tape = w.tape
  output : w'.output = w.output
  size : w.heap.size ≤ w'.heap.size
  old : ∀ b, b < w.heap.size → g.own b = none → w'.heap[b]? = w.heap[b]? ∧ g'.own b = none
  perm : ∀ b, g.perm b → g'.perm b
  permo : ∀ b, b < w.heap.size → g'.perm b → g.perm b ∨ (g.own b).isSome
  bor : ∀ b, g'.bor b ↔ g.bor b
  root : ∀ id q, id < 16 → (q = [] ∨ g.st = true) → g'.loc id q = g.loc id q
  st : g'.st = g.st

theorem Keep.refl (g : Gh) (w : World) : Keep g w g w :=
  ⟨rfl, rfl, rfl, Nat.le_refl _, fun _ _ h => ⟨rfl, h⟩, fun _ h => h, fun _ _ h => .inl h, fun _ => Iff.rfl, fun _ _ _ _ => rfl, rfl⟩

theorem Keep.trans {g g1 g2 : Gh} {w w1 w2 : World} (h : Keep g w g1 w1) (k : Keep g1 w1 g2 w2) : Keep g w g2 w2 where
  os := k.os.trans h.os
  tape := k.tape.trans h.tape
  output := k.output.trans h.output
  size := Nat.le_trans h.size k.size
  old := fun b hb ho => by
    obtain ⟨h1, h2⟩ := h.old b hb ho
    obtain ⟨k1, k2⟩ := k.old b (Nat.lt_of_lt_of_le hb h.size) h2
    exact ⟨k1.trans h1, k2⟩
  perm := fun b hp => k.perm b (h.perm b hp)
  permo := fun b hb hp => by
    rcases k.permo b (Nat.lt_of_lt_of_le hb h.size) hp with h1 | h1
    · exact h.permo b hb h1
    · cases ho : g.own b with
      | none => rw [(h.old b hb ho).2] at h1; simp at h1
      | some p => exact .inr rfl
  bor := fun b => (k.bor b).trans (h.bor b)
  root := fun id q hi hq => (k.root id q hi (by rw [h.st]; exact hq)).trans (h.root id q hi hq)
  st := k.st.trans h.st

/-- What may be read stays as it is. -/
structure RdKeep (g : Gh) (w : World) (g' : Gh) (w' : World) : Prop where
  perm : ∀ b, g.perm b → g'.perm b ∧ w'.heap[b]? = w.heap[b]?
  bor : ∀ b, g.bor b → (g'.perm b ∨ g'.bor b) ∧ w'.heap[b]? = w.heap[b]?

theorem RdKeep.rd {g g' : Gh} {w w' : World} (h : RdKeep g w g' w') {m : Md} {b : Nat} (hm : g.rd m b) : g'.rd m b ∧ w'.heap[b]? = w.heap[b]? := by
  cases m with
  | own => exact hm.elim
  | ro => exact h.perm b hm
  | bo =>
    rcases hm with hm | hm
    · exact ⟨.inl (h.perm b hm).1, (h.perm b hm).2⟩
    · exact h.bor b hm

theorem Keep.rdKeep {g g' : Gh} {w w' : World} (h : Keep g w g' w') (hs : ∀ b p, g.own b = some p → ¬ g.perm b ∧ ¬ g.bor b) (hl : ∀ b, g.canRd b → b < w.heap.size) : RdKeep g w g' w' where
  perm := fun b hb => ⟨h.perm b hb, (h.old b (hl b (.inl hb)) (by cases ho : g.own b with
    | none => rfl
    | some p => exact absurd hb (hs b p ho).1)).1⟩
  bor := fun b hb => ⟨.inr ((h.bor b).2 hb), (h.old b (hl b (.inr hb)) (by cases ho : g.own b with
    | none => rfl
    | some p => exact absurd hb (hs b p ho).2)).1⟩

theorem cell?_heap {w w' : World} {a : Addr} (h : w'.heap[a.block]? = w.heap[a.block]?) : w'.cell? a = w.cell? a := by simp [World.cell?, h]

theorem add_block (a : Addr) (n : Nat) : (a.add n).block = a.block := by unfold Addr.add; split <;> rfl

/-- What is only read goes on being read. -/
theorem Cell.still {g g' : Gh} {w w' : World} (hr : RdKeep g w g' w') {p : Pl} {x : AV} {v : Value} (h : Cell g w p x v) : (∀ id q, p ≠ .at id q) → Cell g' w' p x v := by
  induction h with
  | int p k n => intro _; exact .int _ _ _
  | bool p b => intro _; exact .bool _ _
  | str p s => intro _; exact .str _ _
  | nilI p => intro _; exact .nilI _
  | dead p v h1 => intro _; exact .dead _ _ h1
  | emp p m sz a c hm => intro _; exact .emp _ _ _ _ _ hm
  | rd p m sz es a c us hp hm hs hl hw hc ht ih =>
    intro _
    exact .rd _ _ _ _ _ _ us hp (hr.rd hm).1 hs hl hw (fun i k x y hx hy => (cell?_heap (by rw [add_block]; exact (hr.rd hm).2)).trans (hc i k x y hx hy)) (fun i k x y hx hy => ih i k x y hx hy (by intro id q; cases m <;> simp [Md.pl]))
  | ownNil => intro h; exact absurd rfl (h _ _)
  | own => intro h; exact absurd rfl (h _ _)

theorem Cell.one {g : Gh} {w : World} {p : Pl} {x : AV} {v : Value} (h : Cell g w p x v) : v.oneCell' = true := by
  cases h <;> first | rfl | assumption

/-- A tree is found again at another place, in another world, if its own blocks are as they were and are told so. -/
theorem Cell.move {g g' : Gh} {w w' : World} (hr : RdKeep g w g' w') {p : Pl} {x : AV} {v : Value} (h : Cell g w p x v) :
    ∀ (id : Nat) (q : Path) (id' : Nat) (q' : Path), p = .at id q →
    (∀ b r, g.own b = some (id, q ++ r) → w'.heap[b]? = w.heap[b]? ∧ g'.own b = some (id', q' ++ r)) →
    (∀ r, g'.loc id' (q' ++ r) = g.loc id (q ++ r)) → Cell g' w' (.at id' q') x v := by
  induction h with
  | int p k n => intros; exact .int _ _ _
  | bool p b => intros; exact .bool _ _
  | str p s => intros; exact .str _ _
  | nilI p => intros; exact .nilI _
  | dead p v h1 => intros; exact .dead _ _ h1
  | emp p m sz a c hm => intros; exact .emp _ _ _ _ _ hm
  | rd p m sz es a c us hp hm hs hl hw hc ht ih =>
    intro id q id' q' _ _ _
    exact .rd _ _ _ _ _ _ us (fun _ => by simp) (hr.rd hm).1 hs hl hw (fun i k x y hx hy => (cell?_heap (by rw [add_block]; exact (hr.rd hm).2)).trans (hc i k x y hx hy)) (fun i k x y hx hy => (ht i k x y hx hy).still hr (by intro id q; cases m <;> simp [Md.pl]))
  | ownNil id q sz hl =>
    intro id1 q1 id' q' he _ h2
    obtain ⟨rfl, rfl⟩ := Pl.at.inj he
    exact .ownNil _ _ _ (by have := h2 []; simp only [List.append_nil] at this; rw [this]; exact hl)
  | own id q sz es b c cur e us hl ho hb hn hm hz hw hc ht ih =>
    intro id1 q1 id' q' he h1 h2
    obtain ⟨rfl, rfl⟩ := Pl.at.inj he
    have h0 := h1 b [] (by simpa using ho)
    refine .own _ _ _ _ b c cur e us ?_ (by simpa using h0.2) (by rw [h0.1]; exact hb) hn hm hz hw hc ?_
    · have := h2 []; simp only [List.append_nil] at this; rw [this]; exact hl
    · intro i k x y hx hy
      refine ih i k x y hx hy id (q ++ [(i, k)]) id' (q' ++ [(i, k)]) rfl ?_ ?_
      · intro b' r hb'
        have := h1 b' ((i, k) :: r) (by simpa using hb')
        simpa using this
      · intro r
        have := h2 ((i, k) :: r)
        simpa using this

/-- A tree stays, if its own blocks do. -/
theorem Cell.stay {g g' : Gh} {w w' : World} (hr : RdKeep g w g' w') {id : Nat} {q : Path} {x : AV} {v : Value} (h : Cell g w (.at id q) x v)
    (h1 : ∀ b r, g.own b = some (id, q ++ r) → w'.heap[b]? = w.heap[b]? ∧ g'.own b = some (id, q ++ r))
    (h2 : ∀ r, g'.loc id (q ++ r) = g.loc id (q ++ r)) : Cell g' w' (.at id q) x v :=
  h.move hr id q id q rfl h1 h2

end Go.Proofs.YtkhobcmkbldmiaaFw
