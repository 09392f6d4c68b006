/- Slots: what they hold under changes of the memory; frozen and lent values. -/
import Derived.Test.YtkhobcmkbldmiaaFw3
namespace Go.Proofs.YtkhobcmkbldmiaaFw
open Go Go.RowKit

mutual
/-- A value whose views and places are told anew ('none': no more known). -/
def mapRef (f : Nat → Path → Option (Nat × Path)) : AV → AV
  | .hd id q => match f id q with | some (i, p) => .hd i p | none => .dead
  | .ref id q sz off n => match f id q with | some (i, p) => .ref i p sz off n | none => .dead
  | .ptr id q sz i k => match f id q with | some (j, p) => .ptr j p sz i k | none => .dead
  | .agg cs => .agg (mapRefL f cs)
  | .tup cs => .tup (mapRefL f cs)
  | .fn g cs => .fn g (mapRefL f cs)
  | .int k n => .int k n
  | .bool b => .bool b
  | .str s => .str s
  | .nilI => .nilI
  | .nilP => .nilP
  | .nilS => .nilS
  | .row m sz es => .row m sz es
  | .rp m cs => .rp m cs
  | .vp cs => .vp (mapRefL f cs)
  | .dead => .dead
def mapRefL (f : Nat → Path → Option (Nat × Path)) : List AV → List AV
  | [] => []
  | x :: r => mapRef f x :: mapRefL f r
end

theorem mapRefL_get (f : Nat → Path → Option (Nat × Path)) (l : List AV) (k : Nat) : (mapRefL f l)[k]? = (l[k]?).map (mapRef f) := by
  induction l generalizing k with
  | nil => simp [mapRefL]
  | cons x r ih => cases k <;> simp [mapRefL, ih]

theorem mapRefL_length (f : Nat → Path → Option (Nat × Path)) (l : List AV) : (mapRefL f l).length = l.length := by
  induction l with
  | nil => rfl
  | cons x r ih => simp [mapRefL, ih]

theorem mapRefL_agg {P : AV → Value → Prop} {f : Nat → Path → Option (Nat × Path)} {cs : List AV} {vs : Array Value}
    (ih : ∀ (k : Nat) (c : AV) (u : Value), cs[k]? = some c → vs[k]? = some u → P (mapRef f c) u) :
    ∀ (k : Nat) (c : AV) (u : Value), (mapRefL f cs)[k]? = some c → vs[k]? = some u → P c u := by
  intro k c u hc hu
  rw [mapRefL_get] at hc
  cases h : cs[k]? with
  | none => simp [h] at hc
  | some y =>
    rw [h] at hc
    simp only [Option.map_some, Option.some.injEq] at hc
    subst hc
    exact ih k y u h hu

theorem Val.map {g g' : Gh} {w w' : World} (hr : RdKeep g w g' w') {f : Nat → Path → Option (Nat × Path)}
    (hf : ∀ id q id' q', f id q = some (id', q') → g'.loc id' q' = g.loc id q) {x : AV} {v : Value} (h : Val g w x v) : Val g' w' (mapRef f x) v := by
  induction h with
  | cell x v h =>
    have h' := h.still hr (fun _ _ => by simp)
    cases h <;> exact .cell _ _ h'
  | nilS => exact .nilS
  | nilP => exact .nilP
  | agg cs vs hl h ih => exact .agg _ _ (by rw [mapRefL_length]; exact hl) (mapRefL_agg ih)
  | tup cs vs hl h ih => exact .tup _ _ (by rw [mapRefL_length]; exact hl) (mapRefL_agg ih)
  | fn f' cs vs hl h ih => exact .fn _ _ _ (by rw [mapRefL_length]; exact hl) (mapRefL_agg ih)
  | hd id q b c n hl =>
    simp only [mapRef]
    cases hq : f id q with
    | none => exact .dead _
    | some ip => exact .hd _ _ b c n (by rw [hf _ _ _ _ hq]; exact hl)
  | hdNil id q hl =>
    simp only [mapRef]
    cases hq : f id q with
    | none => exact .dead _
    | some ip => exact .hdNil _ _ (by rw [hf _ _ _ _ hq]; exact hl)
  | ref id q sz off n b cap len c a hl hc hn ha =>
    simp only [mapRef]
    cases hq : f id q with
    | none => exact .dead _
    | some ip => exact .ref _ _ _ _ _ b cap len c a (by rw [hf _ _ _ _ hq]; exact hl) hc hn ha
  | refNil id q sz hl =>
    simp only [mapRef]
    cases hq : f id q with
    | none => exact .dead _
    | some ip => exact .refNil _ _ _ (by rw [hf _ _ _ _ hq]; exact hl)
  | ptr id q sz i k b cap len hl =>
    simp only [mapRef]
    cases hq : f id q with
    | none => exact .dead _
    | some ip => exact .ptr _ _ _ _ _ b cap len (by rw [hf _ _ _ _ hq]; exact hl)
  | rp m cs a us hm hs hc ht =>
    exact .rp _ _ _ us (hr.rd hm).1 hs (fun k y hy => (cell?_heap (by rw [add_block]; exact (hr.rd hm).2)).trans (hc k y hy)) (fun k y hy => (ht k y hy).still hr (by intro id q; cases m <;> simp [Md.pl]))
  | vp cs a us hm hs hc ht ih =>
    refine .vp _ _ us (hr.perm _ hm).1 hs ?_ ?_
    · intro k y hy
      rw [mapRefL_get] at hy
      cases h : cs[k]? with
      | none => simp [h] at hy
      | some z => exact (cell?_heap (by rw [add_block]; exact (hr.perm _ hm).2)).trans (hc k z h)
    · intro k y hy
      rw [mapRefL_get] at hy
      cases h : cs[k]? with
      | none => simp [h] at hy
      | some z =>
        rw [h] at hy
        simp only [Option.map_some, Option.some.injEq] at hy
        subst hy
        exact ih k z h
  | dead v => exact .dead _

/-- Nothing of what slots view has turned. -/
theorem Val.same {g g' : Gh} {w w' : World} (hr : RdKeep g w g' w') (hl : ∀ id q, g'.loc id q = g.loc id q) {x : AV} {v : Value} (h : Val g w x v) : Val g' w' x v := by
  induction h with
  | cell x v h => exact .cell _ _ (h.still hr (fun _ _ => by simp))
  | nilS => exact .nilS
  | nilP => exact .nilP
  | agg cs vs hl' h ih => exact .agg _ _ hl' ih
  | tup cs vs hl' h ih => exact .tup _ _ hl' ih
  | fn f' cs vs hl' h ih => exact .fn _ _ _ hl' ih
  | hd id q b c n h1 => exact .hd _ _ b c n (by rw [hl]; exact h1)
  | hdNil id q h1 => exact .hdNil _ _ (by rw [hl]; exact h1)
  | ref id q sz off n b cap len c a h1 hc hn ha => exact .ref _ _ _ _ _ b cap len c a (by rw [hl]; exact h1) hc hn ha
  | refNil id q sz h1 => exact .refNil _ _ _ (by rw [hl]; exact h1)
  | ptr id q sz i k b cap len h1 => exact .ptr _ _ _ _ _ b cap len (by rw [hl]; exact h1)
  | rp m cs a us hm hs hc ht =>
    exact .rp _ _ _ us (hr.rd hm).1 hs (fun k y hy => (cell?_heap (by rw [add_block]; exact (hr.rd hm).2)).trans (hc k y hy)) (fun k y hy => (ht k y hy).still hr (by intro id q; cases m <;> simp [Md.pl]))
  | vp cs a us hm hs hc ht ih =>
    exact .vp _ _ us (hr.perm _ hm).1 hs (fun k y hy => (cell?_heap (by rw [add_block]; exact (hr.perm _ hm).2)).trans (hc k y hy)) ih
  | dead v => exact .dead _

/-! ### slots -/
def putS : List (Nat × AV) → Nat → AV → List (Nat × AV)
  | [], t, x => [(t, x)]
  | (u, y) :: r, t, x => if u = t then (t, x) :: r else (u, y) :: putS r t x

theorem lookS_putS (l : List (Nat × AV)) (t : Nat) (x : AV) (u : Nat) : lookS (putS l t x) u = if t = u then some x else lookS l u := by
  induction l with
  | nil => simp [putS, lookS]
  | cons p r ih =>
    obtain ⟨t', y⟩ := p
    simp only [putS]
    split
    · rename_i h
      subst h
      simp only [lookS]
      split <;> rfl
    · rename_i h
      simp only [lookS, ih]
      by_cases h1 : t' = u
      · rw [if_pos h1, if_neg (by omega), if_pos h1]
      · rw [if_neg h1, if_neg h1]

def mapS (f : Nat → Path → Option (Nat × Path)) : List (Nat × AV) → List (Nat × AV)
  | [] => []
  | (t, x) :: r => (t, mapRef f x) :: mapS f r

theorem lookS_mapS (f : Nat → Path → Option (Nat × Path)) (l : List (Nat × AV)) (t : Nat) : lookS (mapS f l) t = (lookS l t).map (mapRef f) := by
  induction l with
  | nil => rfl
  | cons p r ih =>
    obtain ⟨u, x⟩ := p
    simp only [mapS, lookS]
    split
    · rfl
    · exact ih

def St.put (s : St) (d : Option Nat) (x : AV) : St :=
  match d with
  | some d => { s with slots := putS s.slots d x }
  | none => s

def St.fits (s : St) (d : Option Nat) : Bool :=
  match d with
  | some d => decide (d < s.nt)
  | none => true

theorem act_put_get {a : Act} {d t : Nat} {v : Value} : (a.put (some d) v).tmps[t]? = if d = t then (if d < a.tmps.size then some v else none) else a.tmps[t]? := by
  simp only [Act.put, Array.getElem?_setIfInBounds]

theorem act_put_size {a : Act} {d : Option Nat} {v : Value} : (a.put d v).tmps.size = a.tmps.size := by cases d <;> simp [Act.put]

theorem act_put_defers {a : Act} {d : Option Nat} {v : Value} : (a.put d v).defers = a.defers := by cases d <;> simp [Act.put]

theorem Sim.put {s : St} {a : Act} {w : World} {g : Gh} (h : Sim s a w g) {d : Option Nat} (hd : s.fits d = true) {x : AV} {v : Value} (hv : Val g w x v) : Sim (s.put d x) (a.put d v) w g := by
  cases d with
  | none => exact h
  | some d =>
    simp only [St.fits, decide_eq_true_eq] at hd
    refine ⟨by rw [act_put_size]; exact h.nt, by rw [act_put_defers]; exact h.defers, ?_, h.h, h.st⟩
    intro t y hy
    simp only [St.put, lookS_putS] at hy
    rw [act_put_get]
    split at hy
    · rename_i e
      obtain rfl := Option.some.inj hy
      exact ⟨v, by rw [if_pos e, if_pos (by rw [h.nt]; exact hd)], hv⟩
    · rename_i e
      obtain ⟨u, hu, hval⟩ := h.slot t y hy
      exact ⟨u, by rw [if_neg e]; exact hu, hval⟩

/-- The slots under a change of the memory. -/
theorem Sim.turn {s : St} {a : Act} {w w' : World} {g g' : Gh} (h : Sim s a w g) (hr : RdKeep g w g' w') {f : Nat → Path → Option (Nat × Path)}
    (hf : ∀ id q id' q', f id q = some (id', q') → g'.loc id' q' = g.loc id q) {objs : List Obj} (ho : HSim objs w' g') (hst : g'.st = g.st := by rfl) :
    Sim { s with slots := mapS f s.slots, objs := objs } a w' g' := by
  refine ⟨h.nt, h.defers, ?_, ho, h.st.trans hst.symm⟩
  intro t x hx
  simp only [lookS_mapS] at hx
  cases hy : lookS s.slots t with
  | none => simp [hy] at hx
  | some y =>
    rw [hy] at hx
    simp only [Option.map_some, Option.some.injEq] at hx
    subst hx
    obtain ⟨v, hv, hval⟩ := h.slot t y hy
    exact ⟨v, hv, hval.map hr hf⟩

theorem Sim.turnSame {s : St} {a : Act} {w w' : World} {g g' : Gh} (h : Sim s a w g) (hr : RdKeep g w g' w') (hl : ∀ id q, g'.loc id q = g.loc id q) {objs : List Obj} (ho : HSim objs w' g') (hst : g'.st = g.st := by rfl) :
    Sim { s with objs := objs } a w' g' :=
  ⟨h.nt, h.defers, fun t x hx => let ⟨v, hv, hval⟩ := h.slot t x hx; ⟨v, hv, hval.same hr hl⟩, ho, h.st.trans hst.symm⟩

/-! ### frozen and lent -/
mutual
/-- An own tree as what is never written again. -/
def frz : AV → AV
  | .row .own sz es => .row .ro sz (frzL es)
  | .row m sz es => .row m sz es
  | .agg cs => .agg (frzL cs)
  | .tup cs => .tup cs
  | .fn g cs => .fn g cs
  | .hd id q => .hd id q
  | .ref id q sz off n => .ref id q sz off n
  | .ptr id q sz i k => .ptr id q sz i k
  | .int k n => .int k n
  | .bool b => .bool b
  | .str s => .str s
  | .nilI => .nilI
  | .nilP => .nilP
  | .nilS => .nilS
  | .rp m cs => .rp m cs
  | .vp cs => .vp cs
  | .dead => .dead
def frzL : List AV → List AV
  | [] => []
  | x :: r => frz x :: frzL r
end

mutual
/-- A tree as what is lent. -/
def brw : AV → AV
  | .row _ sz es => .row .bo sz (brwL es)
  | .agg cs => .agg (brwL cs)
  | .tup cs => .tup cs
  | .fn g cs => .fn g cs
  | .hd id q => .hd id q
  | .ref id q sz off n => .ref id q sz off n
  | .ptr id q sz i k => .ptr id q sz i k
  | .int k n => .int k n
  | .bool b => .bool b
  | .str s => .str s
  | .nilI => .nilI
  | .nilP => .nilP
  | .nilS => .nilS
  | .rp m cs => .rp m cs
  | .vp cs => .vp cs
  | .dead => .dead
def brwL : List AV → List AV
  | [] => []
  | x :: r => brw x :: brwL r
end

mutual
/-- Nothing lent is in it. -/
def noBo : AV → Bool
  | .row .bo _ [] => true
  | .row .bo _ (_ :: _) => false
  | .row .own _ es => noBoL es
  | .row .ro _ _ => true
  | .agg cs => noBoL cs
  | .tup cs => noBoL cs
  | .fn _ _ => false
  | .hd _ _ => false
  | .ref _ _ _ _ _ => false
  | .ptr _ _ _ _ _ => false
  | .int _ _ => true
  | .bool _ => true
  | .str _ => true
  | .nilI => true
  | .nilP => true
  | .nilS => true
  | .rp _ _ => false
  | .vp _ => false
  | .dead => true
def noBoL : List AV → Bool
  | [] => true
  | x :: r => noBo x && noBoL r
end

theorem noBoL_get {l : List AV} (h : noBoL l = true) {i : Nat} {x : AV} (hx : l[i]? = some x) : noBo x = true := by
  induction l generalizing i with
  | nil => simp at hx
  | cons y r ih =>
    simp only [noBoL, Bool.and_eq_true] at h
    cases i with
    | zero => simp at hx; rw [← hx]; exact h.1
    | succ i => exact ih h.2 (by simpa using hx)

theorem noBo_cells {x : AV} (h : noBo x = true) {k : Nat} {y : AV} (hy : x.cells[k]? = some y) : noBo y = true := by
  cases x with
  | agg cs => simp only [noBo] at h; exact noBoL_get h hy
  | _ => cases k <;> simp [AV.cells] at hy; rw [← hy]; exact h

theorem frzL_eq (l : List AV) : frzL l = l.map frz := by
  induction l with
  | nil => rfl
  | cons x r ih => simp [frzL, ih]

theorem brwL_eq (l : List AV) : brwL l = l.map brw := by
  induction l with
  | nil => rfl
  | cons x r ih => simp [brwL, ih]

theorem frz_cells (x : AV) : (frz x).cells = frzL x.cells := by
  cases x with
  | row m sz es => cases m <;> rfl
  | _ => rfl

theorem brw_cells (x : AV) : (brw x).cells = brwL x.cells := by cases x <;> rfl

theorem frz_width (x : AV) : (frz x).width = x.width := by simp [AV.width, frz_cells, frzL_eq]
theorem brw_width (x : AV) : (brw x).width = x.width := by simp [AV.width, brw_cells, brwL_eq]

theorem get_map {f : AV → AV} {l : List AV} {i : Nat} {x : AV} (h : (l.map f)[i]? = some x) : ∃ y, l[i]? = some y ∧ x = f y := by
  rw [List.getElem?_map] at h
  cases hy : l[i]? with
  | none => simp [hy] at h
  | some y => rw [hy] at h; exact ⟨y, rfl, (Option.some.inj h).symm⟩

/-- Two steps in: a cell of an element of a mapped row. -/
theorem get_map2 {f : AV → AV} (hf : ∀ x, (f x).cells = x.cells.map f) {l : List AV} {i k : Nat} {x y : AV} (hx : (l.map f)[i]? = some x) (hy : x.cells[k]? = some y) :
    ∃ x0 y0, l[i]? = some x0 ∧ x0.cells[k]? = some y0 ∧ y = f y0 := by
  obtain ⟨x0, h0, rfl⟩ := get_map hx
  rw [hf] at hy
  obtain ⟨y0, h1, rfl⟩ := get_map hy
  exact ⟨x0, y0, h0, h1, rfl⟩

theorem frz_cells' (x : AV) : (frz x).cells = x.cells.map frz := by rw [frz_cells, frzL_eq]
theorem brw_cells' (x : AV) : (brw x).cells = x.cells.map brw := by rw [brw_cells, brwL_eq]

theorem cell?_own {w : World} {b o : Nat} {cur : Array Value} {e : TypeId} (hb : w.heap[b]? = some (.cells cur e (0, 0))) {u : Value} (h : cur[o]? = some u) : w.cell? ((⟨b, 0, none⟩ : Addr).add o) = some u := by
  have : ((⟨b, 0, none⟩ : Addr).add o) = ⟨b, o, none⟩ := by unfold Addr.add; split <;> simp_all
  rw [this, cell_of_block hb, h]

/-- Frozen: an own tree reads on as what is never written. -/
theorem Cell.toFrz {g g' : Gh} {w w' : World} (hr : RdKeep g w g' w') {p : Pl} {x : AV} {v : Value} (h : Cell g w p x v) :
    noBo x = true → (∃ id q, p = .at id q) → (∀ id q, p = .at id q → ∀ b r, g.own b = some (id, q ++ r) → g'.perm b ∧ w'.heap[b]? = w.heap[b]?) → Cell g' w' .ro (frz x) v := by
  induction h with
  | int p k n => intros; exact .int _ _ _
  | bool p b => intros; exact .bool _ _
  | str p s => intros; exact .str _ _
  | nilI p => intros; exact .nilI _
  | dead p v h1 => intros; exact .dead _ _ h1
  | emp p m sz a c hm => intros; cases m <;> first | exact absurd rfl hm | exact .emp _ _ _ _ _ (by simp)
  | rd p m sz es a c us hp hm hs hl hw hc ht ih =>
    intro hb _ _
    cases m with
    | own => exact hm.elim
    | bo =>
      cases es with
      | nil => exact .emp _ _ _ _ _ (by simp)
      | cons x r => simp [noBo] at hb
    | ro =>
    exact .rd _ _ _ _ _ _ us (by simp) (hr.rd hm).1 hs hl hw (fun i k x y hx hy => (cell?_heap (by rw [add_block]; exact (hr.rd hm).2)).trans (hc i k x y hx hy)) (fun i k x y hx hy => (ht i k x y hx hy).still hr (by intro id q; simp [Md.pl]))
  | ownNil => intros; exact .emp _ _ _ _ _ (by simp)
  | own id q sz es b c cur e us hl ho hb hn hm hz hw hc ht ih =>
    intro hb1 _ h1
    have h0 := h1 id q rfl b [] (by simpa using ho)
    simp only [noBo] at hb1
    simp only [frz, frzL_eq]
    have hlen : (es.map frz).length = es.length := by simp
    rw [← hlen]
    refine .rd _ _ _ _ _ _ us (by simp) h0.1 rfl (by simpa using hn) ?_ ?_ ?_
    · intro i x hx
      obtain ⟨y, hy, rfl⟩ := get_map hx
      rw [frz_width]; exact hw i y hy
    · intro i k x y hx hy
      obtain ⟨x0, y0, h2, h3, rfl⟩ := get_map2 frz_cells' hx hy
      exact (cell?_own (by rw [h0.2]; exact hb) (hc i k x0 y0 h2 h3))
    · intro i k x y hx hy
      obtain ⟨x0, y0, h2, h3, rfl⟩ := get_map2 frz_cells' hx hy
      refine ih i k x0 y0 h2 h3 (noBo_cells (noBoL_get hb1 h2) h3) ⟨_, _, rfl⟩ ?_
      intro id' q' e b' r hb'
      obtain ⟨rfl, rfl⟩ := Pl.at.inj e
      exact h1 _ _ rfl b' ((i, k) :: r) (by simpa using hb')

/-- Lent: a tree as it reads for whom it is lent. -/
theorem Cell.toBrw {g g' : Gh} {w w' : World} (hr : RdKeep g w g' w') {p : Pl} {x : AV} {v : Value} (h : Cell g w p x v) :
    (∀ id q, p = .at id q → ∀ b r, g.own b = some (id, q ++ r) → g'.canRd b ∧ w'.heap[b]? = w.heap[b]?) → Cell g' w' .bo (brw x) v := by
  induction h with
  | int p k n => intros; exact .int _ _ _
  | bool p b => intros; exact .bool _ _
  | str p s => intros; exact .str _ _
  | nilI p => intros; exact .nilI _
  | dead p v h1 => intros; exact .dead _ _ h1
  | emp p m sz a c hm => intros; exact .emp _ _ _ _ _ (by simp)
  | rd p m sz es a c us hp hm hs hl hw hc ht ih =>
    intro _
    simp only [brw, brwL_eq]
    have hlen : (es.map brw).length = es.length := by simp
    rw [← hlen]
    have hcan : g'.canRd a.block ∧ w'.heap[a.block]? = w.heap[a.block]? := by
      cases m with
      | own => exact hm.elim
      | ro => exact ⟨.inl (hr.perm _ hm).1, (hr.perm _ hm).2⟩
      | bo => exact ⟨(hr.rd hm).1, (hr.rd hm).2⟩
    refine .rd _ _ _ _ _ _ us (by simp) hcan.1 hs (by simpa using hl) ?_ ?_ ?_
    · intro i x hx
      obtain ⟨y, hy, rfl⟩ := get_map hx
      rw [brw_width]; exact hw i y hy
    · intro i k x y hx hy
      obtain ⟨x0, y0, h2, h3, rfl⟩ := get_map2 brw_cells' hx hy
      exact (cell?_heap (by rw [add_block]; exact hcan.2)).trans (hc i k x0 y0 h2 h3)
    · intro i k x y hx hy
      obtain ⟨x0, y0, h2, h3, rfl⟩ := get_map2 brw_cells' hx hy
      exact ih i k x0 y0 h2 h3 (fun id q e => by cases m <;> simp [Md.pl] at e)
  | ownNil => intros; exact .emp _ _ _ _ _ (by simp)
  | own id q sz es b c cur e us hl ho hb hn hm hz hw hc ht ih =>
    intro h1
    have h0 := h1 id q rfl b [] (by simpa using ho)
    simp only [brw, brwL_eq]
    have hlen : (es.map brw).length = es.length := by simp
    rw [← hlen]
    refine .rd _ _ _ _ _ _ us (by simp) h0.1 rfl (by simpa using hn) ?_ ?_ ?_
    · intro i x hx
      obtain ⟨y, hy, rfl⟩ := get_map hx
      rw [brw_width]; exact hw i y hy
    · intro i k x y hx hy
      obtain ⟨x0, y0, h2, h3, rfl⟩ := get_map2 brw_cells' hx hy
      exact (cell?_own (by rw [h0.2]; exact hb) (hc i k x0 y0 h2 h3))
    · intro i k x y hx hy
      obtain ⟨x0, y0, h2, h3, rfl⟩ := get_map2 brw_cells' hx hy
      refine ih i k x0 y0 h2 h3 ?_
      intro id' q' e b' r hb'
      obtain ⟨rfl, rfl⟩ := Pl.at.inj e
      exact h1 _ _ rfl b' ((i, k) :: r) (by simpa using hb')

end Go.Proofs.YtkhobcmkbldmiaaFw
