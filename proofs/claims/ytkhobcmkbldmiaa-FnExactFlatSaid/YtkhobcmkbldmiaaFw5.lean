/- Types, operands, reading: the first operations over the abstract state. -/
import Derived.Test.YtkhobcmkbldmiaaFw4
namespace Go.Proofs.YtkhobcmkbldmiaaFw
open Go Go.RowKit

inductive TK where
  | int (k : IntKind)
  | bool
  | str
  | slice (e : TypeId)
  | struct (fs : List (Nat × TypeId))
  | arr (n : Nat) (e : TypeId)
  | other

/-- What is told of a type: its kind, its cells, its bytes, its zero value's cells. -/
structure TI where
  k : TK
  sz : Nat
  by_ : Nat
  z : List AV

abbrev Tab := TypeId → Option TI

def TKOk (P : Program) (t : TypeId) : TK → Prop
  | .int k => P.underlying t = some (.int k)
  | .bool => P.underlying t = some .bool
  | .str => P.underlying t = some .string
  | .slice e => P.underlying t = some (.slice e)
  | .struct fs => ∃ fields : Array Field, P.underlying t = some (.struct fields) ∧ fields.toList.map (fun f => (f.offset, f.type)) = fs
  | .arr n e => P.underlying t = some (.array n e)
  | .other => ∃ d, P.underlying t = some d ∧ (∀ fs, d ≠ .struct fs) ∧ (∀ n e, d ≠ .array n e)

def ZOk : AV → Value → Prop
  | .int k n, .int k' n' => k = k' ∧ n = n'
  | .bool b, .bool b' => b = b'
  | .str s, .string s' => s' = ⟨⟨s⟩⟩
  | .row .own _ [], .slice none 0 0 => True
  | .nilI, .nilIface => True
  | .dead, u => u.oneCell' = true
  | _, _ => False

structure TIOk (P : Program) (t : TypeId) (ti : TI) : Prop where
  info : ∃ i z, P.info? t = some i ∧ i.size = ti.sz ∧ i.bytes = ti.by_ ∧ i.zero = some z ∧ z.cells.size = ti.sz ∧ ti.z.length = ti.sz ∧
    ∀ (k : Nat) (y : AV), ti.z[k]? = some y → ∃ u, z.cells[k]? = some u ∧ ZOk y u
  kind : TKOk P t ti.k

def TabOk (P : Program) (T : Tab) : Prop := ∀ t ti, T t = some ti → TIOk P t ti

theorem ZOk.flat {g : Gh} {w : World} {y : AV} {u : Value} (h : ZOk y u) : Flat g w y u := by
  cases y with
  | int k n => cases u <;> simp [ZOk] at h; obtain ⟨rfl, rfl⟩ := h; exact .inr (.int _ _ _)
  | bool b => cases u <;> simp [ZOk] at h; subst h; exact .inr (.bool _ _)
  | str s => cases u <;> simp [ZOk] at h; subst h; exact .inr (.str _ _)
  | nilI => cases u <;> simp [ZOk] at h; exact .inr (.nilI _)
  | dead => exact .inr (.dead _ _ (by simpa [ZOk] using h))
  | row m sz es =>
    cases m <;> cases es <;> cases u <;> try (simp [ZOk] at h; done)
    rename_i a l c
    cases a <;> cases l <;> cases c <;> try (simp [ZOk] at h; done)
    exact .inl ⟨sz, rfl, rfl⟩
  | _ => cases u <;> simp [ZOk] at h

def constA : Value → Option AV
  | .int k n => some (.int k n)
  | .bool b => some (.bool b)
  | .string s => some (.str s.data.toList)
  | .slice none 0 0 => some .nilS
  | .pointer none => some .nilP
  | .nilIface => some .nilI
  | _ => none

def St.ev (s : St) : Operand → Option AV
  | .tmp t => lookS s.slots t
  | .const v => constA v
  | .func f => some (.fn f [])
  | .global _ => none

theorem constA_val {g : Gh} {w : World} {v : Value} {x : AV} (h : constA v = some x) : Val g w x v := by
  unfold constA at h
  split at h <;> first | (simp at h; done) | (obtain rfl := Option.some.inj h)
  · exact .cell _ _ (.int _ _ _)
  · exact .cell _ _ (.bool _ _)
  · exact .cell _ _ (.str _ _)
  · exact .nilS
  · exact .nilP
  · exact .cell _ _ (.nilI _)

theorem Sim.ev {s : St} {a : Act} {w : World} {g : Gh} (h : Sim s a w g) {x : Operand} {y : AV} (hx : s.ev x = some y) : Val g w y (a.eval x) := by
  cases x with
  | tmp t =>
    obtain ⟨v, hv, hval⟩ := h.slot t y hx
    have : a.eval (.tmp t) = v := by simp [Act.eval, Array.getD_eq_getD_getElem?, hv]
    rw [this]; exact hval
  | const v => exact constA_val hx
  | func f =>
    obtain rfl := Option.some.inj hx
    exact .fn _ _ _ rfl (fun k c u hc _ => by simp at hc)
  | global g' => simp [St.ev] at hx

/-- One step of the machine, as the abstract state has it. -/
def StepOk (P : Program) (o : Oper) (s s' : St) : Prop :=
  ∀ a w g, Sim s a w g → ∃ r a' w' g', (execOp a.eval o).run P w = .ok r w' ∧
    ((∃ v, r = .value v ∧ a' = a.put o.dst v) ∨ (r = .skip ∧ a' = a.put o.dst undef)) ∧ Sim s' a' w' g' ∧ Keep g w g' w'

/-- Of an operation that leaves the memory alone. -/
theorem StepOk.pure {P : Program} {o : Oper} {s : St} {x : AV} (hd : s.fits o.dst = true)
    (h : ∀ a w g, Sim s a w g → ∃ v, (execOp a.eval o).run P w = .ok (.value v) w ∧ Val g w x v) : StepOk P o s (s.put o.dst x) := by
  intro a w g hs
  obtain ⟨v, hv, hx⟩ := h a w g hs
  exact ⟨_, _, _, g, hv, .inl ⟨v, rfl, rfl⟩, hs.put hd hx, Keep.refl g w⟩

/-- What is read at a cell of an own object. -/
def lookA (id : Nat) (q : Path) : AV → AV
  | .row .own _ _ => .hd id q
  | x => x

theorem Cell.look {g : Gh} {w : World} {id : Nat} {q : Path} {y : AV} {u : Value} (h : Cell g w (.at id q) y u) : Val g w (lookA id q y) u := by
  cases h with
  | int => exact .cell _ _ (.int _ _ _)
  | bool => exact .cell _ _ (.bool _ _)
  | str => exact .cell _ _ (.str _ _)
  | nilI => exact .cell _ _ (.nilI _)
  | dead => exact .dead _
  | emp _ m sz a c hm => cases m <;> first | exact absurd rfl hm | exact .cell _ _ (.emp _ _ _ _ _ (by simp))
  | rd _ m sz es a c us hp hm hs hl hw hc ht => cases m <;> first | exact hm.elim | exact .cell _ _ (.rd _ _ _ _ _ _ us (by simp) hm hs hl hw hc ht)
  | ownNil _ _ _ hl => exact .hdNil _ _ hl
  | own _ _ _ es b c cur e us hl ho hb hn hm hz hw hc ht => exact .hd _ _ b c _ hl

theorem Cell.lookRo {g : Gh} {w : World} {m : Md} {y : AV} {u : Value} (h : Cell g w m.pl y u) : Val g w y u := by
  cases m with
  | bo => exact .cell _ _ h
  | own => exact .cell _ _ (Cell.lent h)
  | ro => exact .cell _ _ (Cell.lent h)

/-! ### the memory behind places -/
theorem add_lit (b o n : Nat) : (⟨b, o, none⟩ : Addr).add n = ⟨b, o + n, none⟩ := Addr.add_lit b o n

def isAggK : TK → Bool
  | .struct _ | .arr _ _ => true
  | _ => false

theorem run_isAgg {P : Program} {t : TypeId} {k : TK} (h : TKOk P t k) (w : World) : (isAgg t).run P w = .ok (isAggK k) w := by
  cases k with
  | int k => simp [isAgg, run_underlying h, isAggK]
  | bool => simp [isAgg, run_underlying h, isAggK]
  | str => simp [isAgg, run_underlying h, isAggK]
  | slice e => simp [isAgg, run_underlying h, isAggK]
  | struct fs => obtain ⟨fields, h, _⟩ := h; simp [isAgg, run_underlying h, isAggK]
  | arr n e => simp [isAgg, run_underlying h, isAggK]
  | other =>
    obtain ⟨d, h, h1, h2⟩ := h
    simp only [isAgg, Sem.run_bind, run_underlying h, Result.andThen_ok, isAggK]
    rfl

theorem run_sizeOf' {P : Program} {t : TypeId} {ti : TI} (h : TIOk P t ti) (w : World) : (sizeOf t).run P w = .ok ti.sz w := by
  obtain ⟨i, z, hi, hs, _⟩ := h.info
  simp [sizeOf, typeInfo, hi, hs]

theorem run_zeroValue {P : Program} {t : TypeId} {ti : TI} (h : TIOk P t ti) : ∃ z : Value, z.cells.size = ti.sz ∧ ti.z.length = ti.sz ∧
    (∀ (k : Nat) (y : AV), ti.z[k]? = some y → ∃ u, z.cells[k]? = some u ∧ ZOk y u) ∧ ∀ w, (zeroValue t).run P w = .ok z w := by
  obtain ⟨i, z, hi, hs, _, hz, h1, h2, h3⟩ := h.info
  exact ⟨z, h1, h2, h3, fun w => by simp [zeroValue, typeInfo, hi, hz]⟩

/-- A variable of cells that can be told is loaded. -/
theorem run_loadVar {P : Program} {t : TypeId} {ti : TI} (h : TIOk P t ti) {w : World} {a : Addr} {us : List Value} (hl : us.length = ti.sz) (h1 : isAggK ti.k = false → ti.sz = 1)
    (hc : ∀ (k : Nat) (u : Value), us[k]? = some u → w.cell? (a.add k) = some u) :
    (loadVar t a).run P w = .ok (if isAggK ti.k then .agg us.toArray else us.getD 0 undef) w := by
  unfold loadVar
  simp only [Sem.run_bind, run_isAgg h.kind, Result.andThen_ok]
  cases hk : isAggK ti.k with
  | true =>
    simp only [if_true, Sem.run_bind, run_sizeOf' h, Result.andThen_ok]
    rw [← hl, run_loadCells_list w a us hc]
    rfl
  | false =>
    have hs := h1 hk
    cases us with
    | nil => simp at hl; omega
    | cons u r =>
      have := hc 0 u rfl
      simp only [Addr.add_zero'] at this
      simp [run_load, this]

/-- Cells are stored one by one. -/
def setCells (w : World) (a : Addr) : List Value → Nat → World
  | [], _ => w
  | v :: r, i => setCells (w.setCell (a.add i) v) a r (i + 1)

theorem cell?_setCell_isSome (w : World) (a b : Addr) (v : Value) : ((w.setCell a v).cell? b).isSome = (w.cell? b).isSome := by
  by_cases h : a = b
  · subst h
    cases hc : w.cell? a with
    | none =>
      cases hc2 : (w.setCell a v).cell? a with
      | none => rfl
      | some u =>
        exfalso
        unfold World.cell? at hc hc2
        simp only [World.setCell, Array.getElem?_modify, if_true] at hc2
        cases hh : w.heap[a.block]? with
        | none => simp [hh] at hc2
        | some x =>
          rw [hh] at hc hc2
          cases x <;> simp at hc hc2
          split at hc2
          · rename_i c e f hs
            have := hc hc2.1
            rw [Array.getElem?_eq_none this] at hc2
            simp at hc2
          · rename_i c e f hs
            cases hsp : a.spot with
            | some _ => simp [hsp] at hs
            | none =>
              have := hc hsp
              rw [Array.getElem?_eq_none (by simpa using this)] at hc2
              simp at hc2
    | some u => rw [World.cell?_setCell_same w a v hc]; rfl
  · rw [World.cell?_setCell_other w a b v h]

theorem run_storeCells' {P : Program} (a : Addr) : ∀ (vs : List Value) (i : Nat) (w : World), (∀ v ∈ vs, v.oneCell' = true) →
    (∀ k, k < vs.length → (w.cell? (a.add (i + k))).isSome = true ∧ w.frozen? (a.add (i + k)) = false) →
    (storeCells a vs i).run P w = .ok () (setCells w a vs i)
  | [], i, w, _, _ => rfl
  | v :: r, i, w, h1, h2 => by
    have h0 := h2 0 (by simp)
    simp only [Nat.add_zero] at h0
    obtain ⟨u, hu⟩ := Option.isSome_iff_exists.1 h0.1
    simp only [storeCells, Sem.run_bind]
    rw [run_store P w _ _ _ (h1 v (by simp)), hu]
    simp only [h0.2, Bool.false_eq_true, if_false, Result.andThen_ok, setCells]
    refine run_storeCells' a r (i + 1) _ (fun x hx => h1 x (by simp [hx])) ?_
    intro k hk
    have := h2 (k + 1) (by simpa using hk)
    rw [show i + (k + 1) = i + 1 + k by omega] at this
    exact ⟨by rw [cell?_setCell_isSome]; exact this.1, by rw [World.frozen?_setCell]; exact this.2⟩

end Go.Proofs.YtkhobcmkbldmiaaFw
