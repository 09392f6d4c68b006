/- Appends, rows and variables made. -/
import Derived.Test.YtkhobcmkbldmiaaFw13
namespace Go.Proofs.YtkhobcmkbldmiaaFw
open Go Go.RowKit
set_option linter.unusedVariables false

/-- Is it a type of bytes? -/
def byteT (T : Tab) (t : TypeId) : Bool :=
  match T t with
  | some { k := .slice e, .. } => match T e with | some { k := .int .u8, sz := 1, .. } => true | _ => false
  | _ => false

/-- Nothing of its own is in an element. -/
def flatC : AV → Bool
  | .row .own _ _ => false
  | .agg cs => flatCs cs
  | _ => true
where flatCs : List AV → Bool
  | [] => true
  | .row .own _ _ :: _ => false
  | _ :: r => flatCs r

def flatL : List AV → Bool
  | [] => true
  | x :: r => flatC x && flatL r

/-- What is appended: the elements, and the object that is used up. -/
def srcOf (T : Tab) (s : St) (ei : TI) (t2 : TypeId) (y : AV) : Option (List AV × Option Nat) :=
  match y with
  | .row _ sz es => if sz = ei.sz ∧ sliceT T t2 = true then some (es, none) else none
  | .nilS => if sliceT T t2 = true then some ([], none) else none
  | .str u => match ei.k with | .int .u8 => if ei.sz = 1 ∧ strT T t2 = true then some (u.map fun b => .int .u8 b.toNat, none) else none | _ => none
  | .hd id [] =>
    match s.node id [] with
    | some (sz, es) => if sz = ei.sz ∧ sliceT T t2 = true then some (es, some id) else none
    | none => none
  | .hd id q =>
    match s.node id q with
    | some (sz, es) => if sz = ei.sz ∧ sliceT T t2 = true ∧ flatL es = true then some (es, none) else none
    | none => none
  | .ref id q sz off n =>
    match s.node id q with
    | some (sz', es) => if sz = ei.sz ∧ sz' = sz ∧ sliceT T t2 = true ∧ flatL es = true ∧ off + n ≤ es.length then some ((es.drop off).take n, none) else none
    | none => none
  | _ => none

/-- Values that lie one behind the other. -/
theorem news_list {sz m : Nat} {us : Nat → Value} {es : List AV} (hm : es.length = m) (hw : ∀ (i : Nat) (x : AV), es[i]? = some x → x.width = sz) (j : Nat) (hj : j < m * sz) :
    ∃ i k x y, j = i * sz + k ∧ es[i]? = some x ∧ x.cells[k]? = some y := by
  have hsz : 0 < sz := by
    rcases Nat.eq_zero_or_pos sz with h | h
    · subst h; simp at hj
    · exact h
  have hi : j / sz < es.length := by rw [hm]; exact (Nat.div_lt_iff_lt_mul hsz).2 hj
  have hk : j % sz < sz := Nat.mod_lt _ hsz
  have hx := List.getElem?_eq_getElem hi
  have hwid := hw _ _ hx
  exact ⟨j / sz, j % sz, _, _, by rw [Nat.mul_comm]; exact (Nat.div_add_mod j sz).symm, hx, List.getElem?_eq_getElem (by have : (es[j / sz]).cells.length = sz := hwid; omega)⟩

/-- What a source of an append is. -/
structure SrcOk (P : Program) (g : Gh) (w : World) (sz : Nat) (v : Value) (es : List AV) (tid : Option Nat) (news : List Value) : Prop where
  len : (Builtin.lenOf v).run P w = .ok es.length w
  f1 : (Builtin.firstCells sz es.length v).run P w = .ok news.toArray w
  f2 : (Builtin.firstCells sz es.length v).run P w.drew = .ok news.toArray w.drew
  nl : news.length = es.length * sz
  one : ∀ u ∈ news, u.oneCell' = true
  wd : ∀ (i : Nat) (x : AV), es[i]? = some x → x.width = sz
  cell : ∀ (i k : Nat) (x y : AV), es[i]? = some x → x.cells[k]? = some y → ∃ u, news[i * sz + k]? = some u ∧
    (match tid with | none => Flat g w y u | some id => Cell g w (.at id [(i, k)]) y u)

theorem SrcOk.of_cells {P : Program} {g : Gh} {w : World} {sz : Nat} {es : List AV} {tid : Option Nat} {a : Addr} {c : Nat} {us : Nat → Value}
    (hw : ∀ (i : Nat) (x : AV), es[i]? = some x → x.width = sz)
    (hc : ∀ (i k : Nat) (x y : AV), es[i]? = some x → x.cells[k]? = some y → w.cell? (a.add (i * sz + k)) = some (us (i * sz + k)))
    (ho : ∀ (i k : Nat) (x y : AV), es[i]? = some x → x.cells[k]? = some y → (us (i * sz + k)).oneCell' = true)
    (ht : ∀ (i k : Nat) (x y : AV), es[i]? = some x → x.cells[k]? = some y → (match tid with | none => Flat g w y (us (i * sz + k)) | some id => Cell g w (.at id [(i, k)]) y (us (i * sz + k)))) :
    SrcOk P g w sz (.slice (some a) es.length c) es tid ((List.range (es.length * sz)).map us) := by
  have hget : ∀ j v, ((List.range (es.length * sz)).map us)[j]? = some v → j < es.length * sz ∧ v = us j := by
    intro j v hv
    rw [List.getElem?_map] at hv
    cases hj : (List.range (es.length * sz))[j]? with
    | none => simp [hj] at hv
    | some j' =>
      have hlt := lt_of_get hj
      simp only [List.length_range] at hlt
      rw [List.getElem?_range hlt] at hv
      exact ⟨hlt, (Option.some.inj hv).symm⟩
  have hl : ((List.range (es.length * sz)).map us).length = es.length * sz := by simp
  have hcells : ∀ j v, ((List.range (es.length * sz)).map us)[j]? = some v → w.cell? (a.add j) = some v := by
    intro j v hv
    obtain ⟨hlt, rfl⟩ := hget j v hv
    obtain ⟨i, k, x, y, rfl, hx, hy⟩ := news_list (us := us) rfl hw j hlt
    exact hc i k x y hx hy
  refine ⟨by simp [Builtin.lenOf], run_firstCells_some w sz es.length a es.length c _ hl hcells, run_firstCells_some w.drew sz es.length a es.length c _ hl (by simpa using hcells), hl, ?_, hw, ?_⟩
  · intro u hu
    rw [List.mem_map] at hu
    obtain ⟨j, hj, rfl⟩ := hu
    rw [List.mem_range] at hj
    obtain ⟨i, k, x, y, rfl, hx, hy⟩ := news_list (us := us) rfl hw j hj
    exact ho i k x y hx hy
  · intro i k x y hx hy
    have hlt : i * sz + k < es.length * sz := by
      have h1 := lt_of_get hx
      have h2 : k < sz := by rw [← hw i x hx]; exact lt_of_get hy
      calc i * sz + k < i * sz + sz := by omega
        _ = (i + 1) * sz := by rw [Nat.add_mul, Nat.one_mul]
        _ ≤ es.length * sz := Nat.mul_le_mul_right _ (by omega)
    exact ⟨us (i * sz + k), by rw [List.getElem?_map, List.getElem?_range hlt]; rfl, ht i k x y hx hy⟩

theorem SrcOk.nothing {P : Program} {g : Gh} {w : World} {sz : Nat} {a : Option Addr} {c : Nat} {tid : Option Nat} : SrcOk P g w sz (.slice a 0 c) [] tid [] := by
  refine ⟨by simp [Builtin.lenOf], ?_, ?_, by simp, by simp, by simp, by simp⟩ <;> cases a <;> simp [Builtin.firstCells, loadCells, loadCellsFrom]

/-- A flat element of an own row is what is only read, or a slice of nothing. -/
theorem Cell.flat {g : Gh} {w : World} {id : Nat} {q : Path} {y : AV} {u : Value} (h : Cell g w (.at id q) y u) (hf : ∀ sz es, y ≠ .row .own sz es) : Flat g w y u := by
  refine .inr ?_
  cases h with
  | int => exact .int _ _ _
  | bool => exact .bool _ _
  | str => exact .str _ _
  | nilI => exact .nilI _
  | dead _ _ h1 => exact .dead _ _ h1
  | emp _ m sz a c hm => exact .emp _ _ _ _ _ hm
  | rd _ m sz es a c us hp hm hs hl hw hc ht => exact .rd _ _ _ _ _ _ us (by simp) hm hs hl hw hc ht
  | ownNil => exact absurd rfl (hf _ _)
  | own => exact absurd rfl (hf _ _)

theorem flatC_cells {x : AV} (h : flatC x = true) {k : Nat} {y : AV} (hy : x.cells[k]? = some y) : ∀ sz es, y ≠ .row .own sz es := by
  intro sz es e
  subst e
  cases x with
  | agg cs =>
    simp only [flatC] at h
    simp only [AV.cells] at hy
    induction cs generalizing k with
    | nil => simp at hy
    | cons c r ih =>
      cases k with
      | zero => simp at hy; subst hy; simp [flatC.flatCs] at h
      | succ k =>
        refine ih (k := k) ?_ (by simpa using hy)
        cases c with
        | row m _ _ => cases m <;> simp_all [flatC.flatCs]
        | _ => simpa [flatC.flatCs] using h
  | row m sz' es' => cases k <;> simp [AV.cells] at hy; obtain ⟨rfl, rfl, rfl⟩ := hy; simp [flatC] at h
  | _ => cases k <;> simp [AV.cells] at hy

theorem flatL_get {l : List AV} (h : flatL l = true) {i : Nat} {x : AV} (hx : l[i]? = some x) : flatC x = true := by
  induction l generalizing i with
  | nil => simp at hx
  | cons y r ih =>
    simp only [flatL, Bool.and_eq_true] at h
    cases i with
    | zero => simp at hx; rw [← hx]; exact h.1
    | succ i => exact ih h.2 (by simpa using hx)

theorem srcOf_ok {P : Program} {T : Tab} (hT : TabOk P T) {s : St} {ei : TI} {t2 : TypeId} {y : AV} {es : List AV} {tid : Option Nat} (h : srcOf T s ei t2 y = some (es, tid))
    {a : Act} {w : World} {g : Gh} (hs : Sim s a w g) {v : Value} (hv : Val g w y v) :
    (∃ news, SrcOk P g w ei.sz v es tid news) ∧ (∃ d2, P.underlying t2 = some d2 ∧ ∀ k, d2 ≠ .int k) ∧ (∀ id, tid = some id → lookO s.objs id = some (ei.sz, es) ∧ y = .hd id []) := by
  have hsl : sliceT T t2 = true → ∃ d2, P.underlying t2 = some d2 ∧ ∀ k, d2 ≠ .int k := fun h => by
    obtain ⟨e, he⟩ := sliceT_ok hT h; exact ⟨_, he, fun k => by simp⟩
  have hown : ∀ id q sz es0, s.node id q = some (sz, es0) → flatL es0 = true → ∀ (off n : Nat), off + n ≤ es0.length → ∀ (ad : Addr) (c : Nat), (∀ b cap len, g.loc id q = some (b, cap, len) → ad = ⟨b, off * sz, none⟩ ∨ n = 0) → (es0 ≠ [] → (g.loc id q).isSome = true) →
      ∃ news, SrcOk P g w sz (.slice (some ad) n c) ((es0.drop off).take n) none news := by
    intro id q sz es0 hn hfl off n hle ad c had hsome
    obtain ⟨v', hnode⟩ := hs.node hn
    by_cases hn0 : n = 0
    · subst hn0; exact ⟨_, by simpa using SrcOk.nothing⟩
    · have hlt : 0 < es0.length := by omega
      obtain ⟨b', c', cur, ee, us, rfl, hloc', hown, hb, hlc, hcm, hcz, hw, hc, ht⟩ := hnode.node (List.getElem?_eq_getElem hlt)
      rcases had b' c' _ hloc' with rfl | h0
      · have hlen : ((es0.drop off).take n).length = n := by simp; omega
        have hget : ∀ (i : Nat) (x : AV), ((es0.drop off).take n)[i]? = some x → es0[off + i]? = some x := by
          intro i x hx
          rw [List.getElem?_take] at hx
          split at hx
          · rwa [List.getElem?_drop] at hx
          · simp at hx
        have hadd : ∀ i k : Nat, (off + i) * sz + k = off * sz + (i * sz + k) := fun i k => by rw [Nat.add_mul]; omega
        have := SrcOk.of_cells (P := P) (g := g) (w := w) (sz := sz) (es := (es0.drop off).take n) (tid := none) (a := ⟨b', off * sz, none⟩) (c := c) (us := fun j => us (off * sz + j)) (fun i x hx => hw _ x (hget i x hx))
          (fun i k x y hx hy => by rw [add_lit, cell_of_block hb, ← hadd]; exact hc _ k x y (hget i x hx) hy)
          (fun i k x y hx hy => by have := (ht _ k x y (hget i x hx) hy).one; rwa [hadd] at this)
          (fun i k x y hx hy => by have := (ht _ k x y (hget i x hx) hy).flat (flatC_cells (flatL_get hfl (hget i x hx)) hy); rwa [hadd] at this)
        rw [hlen] at this
        exact ⟨_, this⟩
      · exact absurd h0 hn0
  unfold srcOf at h
  split at h
  · rename_i m sz es0
    split at h
    · rename_i hcond
      obtain ⟨rfl, hst⟩ := hcond
      simp only [Option.some.injEq, Prod.mk.injEq] at h
      obtain ⟨rfl, rfl⟩ := h
      refine ⟨?_, hsl hst, fun id e => by simp at e⟩
      rcases hv.row_inv with ⟨ad, c, rfl, rfl, _⟩ | ⟨ad, c, us, rfl, hm, hsp, hl, hw, hc, ht⟩
      · exact ⟨_, SrcOk.nothing⟩
      · refine ⟨_, SrcOk.of_cells hw hc (fun i k x y hx hy => (ht i k x y hx hy).one) (fun i k x y hx hy => .inr ?_)⟩
        have := ht i k x y hx hy
        cases m with
        | bo => exact this
        | own => exact Cell.lent this
        | ro => exact Cell.lent this
    · simp at h
  · split at h
    · rename_i hst
      simp only [Option.some.injEq, Prod.mk.injEq] at h
      obtain ⟨rfl, rfl⟩ := h
      refine ⟨?_, hsl hst, fun id e => by simp at e⟩
      cases hv with
      | cell _ _ hh => cases hh
      | nilS => exact ⟨_, SrcOk.nothing⟩
    · simp at h
  · rename_i u
    split at h
    · rename_i hk
      split at h
      · rename_i hcond
        simp only [Option.some.injEq, Prod.mk.injEq] at h
        obtain ⟨rfl, rfl⟩ := h
        obtain rfl := hv.str_inv
        refine ⟨⟨u.map fun b => .int .u8 b.toNat, ?_⟩, ⟨_, strT_ok hT hcond.2, fun k => by simp⟩, fun id e => by simp at e⟩
        have hfc : ∀ w : World, (Builtin.firstCells ei.sz u.length (.string ⟨⟨u⟩⟩)).run P w = .ok (u.map fun b => Value.int .u8 b.toNat).toArray w := by
          intro w
          simp only [Builtin.firstCells, Sem.run_pure, bytes_extract, List.drop_zero, Nat.sub_zero, List.take_length]
          congr 1
          apply Array.ext'; simp
        refine ⟨by simp [Builtin.lenOf, bytes_size], by simpa using hfc w, by simpa using hfc w.drew, by simp [hcond.1], ?_, ?_, ?_⟩
        · intro x hx; rw [List.mem_map] at hx; obtain ⟨b, _, rfl⟩ := hx; rfl
        · intro i x hx; obtain ⟨b, _, rfl⟩ := List.mem_map.1 (List.mem_of_getElem? hx); rw [hcond.1]; rfl
        · intro i k x y hx hy
          rw [List.getElem?_map] at hx
          cases hb : u[i]? with
          | none => simp [hb] at hx
          | some b =>
            rw [hb] at hx
            obtain rfl := Option.some.inj hx
            cases k with
            | zero =>
              simp [AV.cells] at hy; subst hy
              exact ⟨.int .u8 b.toNat, by simp [hcond.1, hb], .inr (.int _ _ _)⟩
            | succ k => simp [AV.cells] at hy
      · simp at h
    · simp at h
  · rename_i id
    split at h
    · rename_i sz es0 hn
      split at h
      · rename_i hcond
        obtain ⟨rfl, hst⟩ := hcond
        simp only [Option.some.injEq, Prod.mk.injEq] at h
        obtain ⟨rfl, rfl⟩ := h
        have hlook : lookO s.objs id = some (ei.sz, es0) := by
          obtain ⟨rsz, res, h1, h2⟩ := St.node_some hn
          simp only [navG, Option.some.injEq, Prod.mk.injEq] at h2
          obtain ⟨rfl, rfl⟩ := h2; exact h1
        refine ⟨?_, hsl hst, fun id' e => by obtain rfl := Option.some.inj e; exact ⟨hlook, rfl⟩⟩
        obtain ⟨v', hnode⟩ := hs.node hn
        obtain rfl := hnode.hd hv
        cases es0 with
        | nil =>
          obtain ⟨ad, c, rfl⟩ := hnode.len
          exact ⟨_, SrcOk.nothing⟩
        | cons x r =>
          obtain ⟨b', c', cur, ee, us, rfl, hloc', hown', hb, hlc, hcm, hcz, hw, hc, ht⟩ := hnode.node (i := 0) rfl
          refine ⟨_, SrcOk.of_cells hw (fun i k x y hx hy => ?_) (fun i k x y hx hy => (ht i k x y hx hy).one) (fun i k x y hx hy => by simpa using ht i k x y hx hy)⟩
          rw [add_lit, Nat.zero_add, cell_of_block hb]; exact hc i k x y hx hy
      · simp at h
    · simp at h
  · rename_i id q _
    split at h
    · rename_i sz es0 hn
      split at h
      · rename_i hcond
        obtain ⟨rfl, hst, hfl⟩ := hcond
        simp only [Option.some.injEq, Prod.mk.injEq] at h
        obtain ⟨rfl, rfl⟩ := h
        refine ⟨?_, hsl hst, fun id' e => by simp at e⟩
        obtain ⟨v', hnode⟩ := hs.node hn
        obtain rfl := hnode.hd hv
        obtain ⟨ad, c, rfl⟩ := hnode.len
        rcases hv.hd_inv with ⟨b, cc, n, hl, he⟩ | ⟨hl, he⟩
        · simp only [Value.slice.injEq] at he
          obtain ⟨rfl, rfl, rfl⟩ := he
          have := hown id q _ es0 hn hfl 0 es0.length (by omega) ⟨b, 0, none⟩ c (fun b' cap len hb' => by rw [hl] at hb'; simp only [Option.some.injEq, Prod.mk.injEq] at hb'; left; rw [hb'.1]; simp) (fun _ => by rw [hl]; rfl)
          simpa using this
        · simp only [Value.slice.injEq] at he
          obtain ⟨rfl, he2, rfl⟩ := he
          have : es0 = [] := List.eq_nil_of_length_eq_zero he2
          subst this
          exact ⟨_, SrcOk.nothing⟩
      · simp at h
    · simp at h
  · rename_i id q sz off n
    split at h
    · rename_i sz' es0 hn
      split at h
      · rename_i hcond
        obtain ⟨rfl, rfl, hst, hfl, hle⟩ := hcond
        simp only [Option.some.injEq, Prod.mk.injEq] at h
        obtain ⟨rfl, rfl⟩ := h
        refine ⟨?_, hsl hst, fun id' e => by simp at e⟩
        rcases hv.ref_inv with ⟨b, cap, len', c', ad, hl, h3, h4, h5, rfl⟩ | ⟨hl, rfl, rfl, rfl⟩
        · exact hown id q _ es0 hn hfl off n hle ad c' (fun b' cap' len hb' => by
            rw [hl] at hb'; simp only [Option.some.injEq, Prod.mk.injEq] at hb'
            rcases Nat.eq_zero_or_pos n with h0 | h0
            · exact .inr h0
            · left; rw [h5 (.inl (by omega)), hb'.1]) (fun _ => by rw [hl]; rfl)
        · exact ⟨_, by simpa using SrcOk.nothing⟩
      · simp at h
    · simp at h
  · simp at h

end Go.Proofs.YtkhobcmkbldmiaaFw
