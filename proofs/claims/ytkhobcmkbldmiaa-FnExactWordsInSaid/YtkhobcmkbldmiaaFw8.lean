/- More operations that read: fields, elements, lengths, cuts, parts. -/
import Derived.Test.YtkhobcmkbldmiaaFw7
namespace Go.Proofs.YtkhobcmkbldmiaaFw
open Go Go.RowKit

/-- The field of a struct type: where it begins, its type. -/
def fieldOf (T : Tab) (t : TypeId) (f : Nat) : Option (Nat × TI) :=
  match T t with
  | some { k := .struct fs, .. } =>
    match fs[f]? with
    | some (off, ft) =>
      match T ft with
      | some fi => some (off, fi)
      | none => none
    | none => none
  | _ => none

theorem fieldOf_ok {P : Program} {T : Tab} (hT : TabOk P T) {t : TypeId} {f off : Nat} {fi : TI} (h : fieldOf T t f = some (off, fi)) :
    ∃ (fields : Array Field) (fd : Field), P.underlying t = some (.struct fields) ∧ fields[f]? = some fd ∧ fd.offset = off ∧ TIOk P fd.type fi := by
  unfold fieldOf at h
  split at h
  · rename_i fs sz by_ z he
    obtain ⟨fields, h1, h2⟩ := (hT t _ he).kind
    split at h
    · rename_i off' ft hf
      split at h
      · rename_i fi' hfi
        simp only [Option.some.injEq, Prod.mk.injEq] at h
        obtain ⟨rfl, rfl⟩ := h
        rw [← h2, List.getElem?_map] at hf
        cases hfd : fields.toList[f]? with
        | none => simp [hfd] at hf
        | some fd =>
          rw [hfd] at hf
          simp only [Option.map_some, Option.some.injEq, Prod.mk.injEq] at hf
          exact ⟨fields, fd, h1, by simpa using hfd, hf.1, by rw [hf.2]; exact hT _ _ hfi⟩
      · simp at h
    · simp at h
  · simp at h

def vFieldAddr (T : Tab) (t : TypeId) (x : AV) (f : Nat) : Option AV :=
  match fieldOf T t f with
  | some (off, fi) =>
    if fi.sz = 0 then none
    else
      match x with
      | .ptr id q sz i k => some (.ptr id q sz i (k + off))
      | .rp m cs => some (.rp m (cs.drop off))
      | .vp cs => some (.vp (cs.drop off))
      | _ => none
  | none => none

theorem add_add (a : Addr) (h : a.spot = none) (m n : Nat) : (a.add m).add n = a.add (m + n) := by
  obtain ⟨b, o, s⟩ := a
  simp only at h
  subst h
  rw [add_lit, add_lit, add_lit, Nat.add_assoc]

theorem add_spot (a : Addr) (h : a.spot = none) (m : Nat) : (a.add m).spot = none := by
  unfold Addr.add; split
  · exact h
  · rfl

theorem Val.rp_drop {g : Gh} {w : World} {m : Md} {cs : List AV} {a : Addr} (h : Val g w (.rp m cs) (.pointer (some a))) (n : Nat) : Val g w (.rp m (cs.drop n)) (.pointer (some (a.add n))) := by
  obtain ⟨a', us, e, hm, hs, hc, ht⟩ := h.rp_inv
  obtain rfl : a = a' := by simpa using e
  refine .rp _ _ _ (fun k => us (n + k)) (by rw [add_block]; exact hm) (add_spot _ hs _) ?_ ?_
  · intro k y hy
    rw [List.getElem?_drop] at hy
    rw [add_add _ hs]
    exact hc _ y hy
  · intro k y hy
    rw [List.getElem?_drop] at hy
    exact ht _ y hy

theorem Val.vp_drop {g : Gh} {w : World} {cs : List AV} {a : Addr} (h : Val g w (.vp cs) (.pointer (some a))) (n : Nat) : Val g w (.vp (cs.drop n)) (.pointer (some (a.add n))) := by
  obtain ⟨a', us, e, hm, hs, hc, ht⟩ := h.vp_inv
  obtain rfl : a = a' := by simpa using e
  refine .vp _ _ (fun k => us (n + k)) (by rw [add_block]; exact hm) (add_spot _ hs _) ?_ ?_
  · intro k y hy
    rw [List.getElem?_drop] at hy
    rw [add_add _ hs]
    exact hc _ y hy
  · intro k y hy
    rw [List.getElem?_drop] at hy
    exact ht _ y hy

theorem vFieldAddr_ok {P : Program} {T : Tab} (hT : TabOk P T) {t : TypeId} {x y : AV} {f : Nat} (h : vFieldAddr T t x f = some y) {w : World} {g : Gh} {v : Value} (hv : Val g w x v) :
    ∃ r, (Instr.fieldAt t v f).run P w = .ok r w ∧ Val g w y r := by
  unfold vFieldAddr at h
  split at h
  · rename_i off fi hf
    obtain ⟨fields, fd, h1, h2, rfl, h4⟩ := fieldOf_ok hT hf
    split at h
    · simp at h
    · rename_i hsz
      have key : ∀ ad : Addr, (Instr.fieldAt t (.pointer (some ad)) f).run P w = .ok (.pointer (some (ad.add fd.offset))) w := by
        intro ad
        simp [Instr.fieldAt, run_underlying h1, h2, Instr.sureAddr, fieldPlace, run_sizeOf' h4, hsz]
      split at h
      · rename_i id q sz i k
        obtain rfl := Option.some.inj h
        obtain ⟨b, c, n, hl, rfl⟩ := hv.ptr_inv
        exact ⟨_, key _, by rw [add_lit, Nat.add_assoc]; exact .ptr _ _ _ _ _ b c n hl⟩
      · rename_i m cs
        obtain rfl := Option.some.inj h
        obtain ⟨ad, us, rfl, _⟩ := hv.rp_inv
        exact ⟨_, key _, hv.rp_drop _⟩
      · rename_i cs
        obtain rfl := Option.some.inj h
        obtain ⟨ad, us, rfl, _⟩ := hv.vp_inv
        exact ⟨_, key _, hv.vp_drop _⟩
      · simp at h
  · simp at h

def vField (T : Tab) (t : TypeId) (x : AV) (f : Nat) : Option AV :=
  match fieldOf T t f with
  | some (off, fi) =>
    match x with
    | .agg cs =>
      match fi.k with
      | .struct _ => if off + fi.sz ≤ cs.length then some (.agg ((cs.drop off).take fi.sz)) else none
      | .arr _ _ => none
      | _ => cs[off]?
    | _ => none
  | none => none

theorem vField_ok {P : Program} {T : Tab} (hT : TabOk P T) {t : TypeId} {x y : AV} {f : Nat} (h : vField T t x f = some y) {w : World} {g : Gh} {v : Value} (hv : Val g w x v) :
    ∃ r, (Instr.field t v f).run P w = .ok r w ∧ Val g w y r := by
  unfold vField at h
  split at h
  · rename_i off fi hf
    obtain ⟨fields, fd, h1, h2, rfl, h4⟩ := fieldOf_ok hT hf
    split at h
    · rename_i cs
      obtain ⟨vs, rfl, hl, hh⟩ := hv.agg_inv
      split at h
      · rename_i fs hk
        split at h
        · rename_i hle
          obtain rfl := Option.some.inj h
          refine ⟨.agg (vs.extract fd.offset (fd.offset + fi.sz)), ?_, ?_⟩
          · simp [Instr.field, run_underlying h1, h2, asAgg, part, run_isAgg h4.kind, hk, isAggK, run_sizeOf' h4]
          · refine .agg _ _ (by simp; omega) ?_
            intro k c u hc hu
            rw [List.getElem?_take] at hc
            split at hc
            · rename_i hlt
              rw [List.getElem?_drop] at hc
              refine hh _ c u hc ?_
              have := lt_of_get hc
              rw [Array.getElem?_extract] at hu
              split at hu
              · exact hu
              · simp at hu
            · simp at hc
        · simp at h
      · simp at h
      · rename_i hns hna
        have hk : isAggK fi.k = false := by
          cases hkk : fi.k <;> first | rfl | (exact absurd hkk (hns _)) | (exact absurd hkk (hna _ _))
        have hlt : fd.offset < vs.size := by rw [hl]; exact lt_of_get h
        refine ⟨vs[fd.offset], ?_, hh _ y _ h (Array.getElem?_eq_getElem hlt)⟩
        simp [Instr.field, run_underlying h1, h2, asAgg, part, run_isAgg h4.kind, hk, hlt]
    · simp at h
  · simp at h

/-! ### elements -/
/-- A slice type's element type. -/
def elemOf' (T : Tab) (t : TypeId) : Option TI :=
  match T t with
  | some { k := .slice e, .. } => T e
  | _ => none

theorem elemOf'_ok {P : Program} {T : Tab} (hT : TabOk P T) {t : TypeId} {ei : TI} (h : elemOf' T t = some ei) : ∃ e, P.underlying t = some (.slice e) ∧ T e = some ei ∧ TIOk P e ei := by
  unfold elemOf' at h
  split at h
  · rename_i e sz by_ z he
    exact ⟨e, (hT t _ he).kind, h, hT _ _ h⟩
  · simp at h

def arrOf (T : Tab) (t : TypeId) : Option (Nat × TI) :=
  match T t with
  | some { k := .arr n e, .. } => (T e).map fun ei => (n, ei)
  | _ => none

theorem arrOf_ok {P : Program} {T : Tab} (hT : TabOk P T) {t : TypeId} {n : Nat} {ei : TI} (h : arrOf T t = some (n, ei)) : ∃ e, P.underlying t = some (.array n e) ∧ TIOk P e ei := by
  unfold arrOf at h
  split at h
  · rename_i n' e sz by_ z he
    cases hte : T e with
    | none => simp [hte] at h
    | some ei' =>
      simp only [hte, Option.map_some, Option.some.injEq, Prod.mk.injEq] at h
      obtain ⟨rfl, rfl⟩ := h
      exact ⟨e, (hT t _ he).kind, hT _ _ hte⟩
  · simp at h

def vIndexAddr (T : Tab) (s : St) (t : TypeId) (x i : AV) : Option (Prop × AV) :=
  match i with
  | .int _ n =>
    match x with
    | .ptr id q sz i' k =>
      match arrOf T t with
      | some (len, ei) => if ei.sz = 1 ∧ sz = 1 then some (0 ≤ n ∧ n < len, .ptr id q sz (i' + n.toNat) k) else none
      | none => none
    | _ =>
      match elemOf' T t with
      | none => none
      | some ei =>
        match x with
        | .hd id q =>
          match s.node id q with
          | some (sz, es) => if sz = ei.sz then some (0 ≤ n ∧ n < es.length, .ptr id q sz n.toNat 0) else none
          | none => none
        | .ref id q sz off len => if sz = ei.sz then some (0 ≤ n ∧ n < len, .ptr id q sz (off + n.toNat) 0) else none
        | .row m sz es =>
          if sz = ei.sz then
            match es[n.toNat]? with
            | some e => some (0 ≤ n, .rp m e.cells)
            | none => none
          else none
        | _ => none
  | _ => none

theorem run_indexAt_sl {P : Program} {t e : TypeId} {ei : TI} (h : P.underlying t = some (.slice e)) (he : TIOk P e ei) {w : World} {a : Addr} {len cap : Nat} {k : IntKind} {n : Int} (h0 : 0 ≤ n) (h1 : n < len) :
    (Instr.indexAt t (.slice (some a) len cap) (.int k n)).run P w = .ok (.pointer (some (a.add (n.toNat * ei.sz)))) w := by
  simp [Instr.indexAt, run_underlying h, asIntOf, h0, h1, run_sizeOf' he]

theorem vIndexAddr_ok {P : Program} {T : Tab} (hT : TabOk P T) {s : St} {t : TypeId} {x i y : AV} {c : Prop} (h : vIndexAddr T s t x i = some (c, y)) (hc : c)
    {a : Act} {w : World} {g : Gh} (hs : Sim s a w g) {v u : Value} (hv : Val g w x v) (hu : Val g w i u) :
    ∃ r, (Instr.indexAt t v u).run P w = .ok r w ∧ Val g w y r := by
  unfold vIndexAddr at h
  split at h
  · rename_i kk n
    obtain rfl := hu.int_inv
    split at h
    · rename_i id q sz i' k
      split at h
      · rename_i len ei ha
        obtain ⟨e, h1, h2⟩ := arrOf_ok hT ha
        split at h
        · rename_i hsz
          simp only [Option.some.injEq, Prod.mk.injEq] at h
          obtain ⟨rfl, rfl⟩ := h
          obtain ⟨b, cc, nn, hl, rfl⟩ := hv.ptr_inv
          refine ⟨.pointer (some ⟨b, (i' + n.toNat) * sz + k, none⟩), ?_, .ptr _ _ _ _ _ b cc nn hl⟩
          have e1 : (⟨b, i' * sz + k, none⟩ : Addr).add (n.toNat * ei.sz) = ⟨b, (i' + n.toNat) * sz + k, none⟩ := by
            rw [add_lit, hsz.1, hsz.2]; congr 1; omega
          rw [← e1]
          simp [Instr.indexAt, run_underlying h1, asIntOf, Instr.sureAddr, hc.1, hc.2, run_sizeOf' h2]
        · simp at h
      · simp at h
    · split at h
      · simp at h
      · rename_i ei hei
        obtain ⟨e, h1, _, h2⟩ := elemOf'_ok hT hei
        split at h
        · rename_i id q _
          split at h
          · rename_i sz es hn
            split at h
            · rename_i hsz
              simp only [Option.some.injEq, Prod.mk.injEq] at h
              obtain ⟨rfl, rfl⟩ := h
              obtain ⟨v', hnode⟩ := hs.node hn
              have hlt : n.toNat < es.length := by omega
              obtain ⟨b, c', cur, ee, us, rfl, hloc, _⟩ := hnode.node (List.getElem?_eq_getElem hlt)
              obtain rfl := hnode.hd hv
              refine ⟨_, run_indexAt_sl h1 h2 hc.1 hc.2, ?_⟩
              rw [add_lit, Nat.zero_add, hsz]
              exact .ptr _ _ _ _ 0 b c' _ hloc
            · simp at h
          · simp at h
        · rename_i id q sz off len _
          split at h
          · rename_i hsz
            simp only [Option.some.injEq, Prod.mk.injEq] at h
            obtain ⟨rfl, rfl⟩ := h
            rcases hv.ref_inv with ⟨b, cap, len', c', ad, hl, h3, h4, h5, rfl⟩ | ⟨_, _, _, rfl⟩
            · refine ⟨_, run_indexAt_sl h1 h2 hc.1 hc.2, ?_⟩
              rw [h5 (.inl (by omega)), add_lit, hsz, ← Nat.add_mul]
              exact .ptr _ _ _ _ 0 b cap _ hl
            · omega
          · simp at h
        · rename_i m sz es _
          split at h
          · rename_i hsz
            split at h
            · rename_i e' he'
              simp only [Option.some.injEq, Prod.mk.injEq] at h
              obtain ⟨rfl, rfl⟩ := h
              rcases hv.row_inv with ⟨_, _, _, rfl, _⟩ | ⟨ad, c', us, rfl, hm, hsp, hl, hw, hcc, ht⟩
              · simp at he'
              · have hlt := lt_of_get he'
                refine ⟨_, run_indexAt_sl h1 h2 hc (by omega), ?_⟩
                refine .rp _ _ _ (fun k => us (n.toNat * sz + k)) (by rw [add_block]; exact hm) (add_spot _ hsp _) ?_ ?_
                · intro k z hz
                  rw [add_add _ hsp, ← hsz]
                  exact hcc _ k e' z he' hz
                · intro k z hz
                  exact ht _ k e' z he' hz
            · simp at h
          · simp at h
        · simp at h
  · simp at h

def vIndex (T : Tab) (t : TypeId) (x i : AV) : Option (Prop × AV) :=
  match x, i with
  | .str s, .int _ n =>
    match T t with
    | some { k := .str, .. } =>
      match s[n.toNat]? with
      | some b => some (0 ≤ n, .int .u8 b.toNat)
      | none => none
    | _ => none
  | _, _ => none

theorem bytes_get (s : List UInt8) (n : Nat) : (ByteArray.mk ⟨s⟩)[n]? = s[n]? := by
  by_cases h : n < s.length
  · have h' : n < (ByteArray.mk ⟨s⟩).size := h
    rw [getElem?_pos (ByteArray.mk ⟨s⟩) n h', List.getElem?_eq_getElem h]
    rfl
  · have h' : ¬ n < (ByteArray.mk ⟨s⟩).size := h
    rw [getElem?_neg (ByteArray.mk ⟨s⟩) n h', List.getElem?_eq_none (by omega)]

theorem vIndex_ok {P : Program} {T : Tab} (hT : TabOk P T) {t : TypeId} {x i y : AV} {c : Prop} (h : vIndex T t x i = some (c, y)) (hc : c)
    {w : World} {g : Gh} {v u : Value} (hv : Val g w x v) (hu : Val g w i u) : ∃ r, (Instr.index t v u).run P w = .ok r w ∧ Val g w y r := by
  unfold vIndex at h
  split at h
  · rename_i s k n
    split at h
    · rename_i sz by_ z he
      have h1 : P.underlying t = some .string := (hT t _ he).kind
      split at h
      · rename_i b hb
        simp only [Option.some.injEq, Prod.mk.injEq] at h
        obtain ⟨rfl, rfl⟩ := h
        obtain rfl := hv.str_inv
        obtain rfl := hu.int_inv
        refine ⟨.int .u8 b.toNat, ?_, Val.mkInt _ _ _ _⟩
        simp [Instr.index, run_underlying h1, asIntOf, hc, bytes_get, hb]
      · simp at h
    · simp at h
  · simp at h

/-! ### lengths -/
def vLen (s : St) (x : AV) : Option AV :=
  match x with
  | .hd id q => (s.node id q).map fun p => .int .i64 (p.2.length : Nat)
  | .ref _ _ _ _ n => some (.int .i64 (n : Nat))
  | .row _ _ es => some (.int .i64 (es.length : Nat))
  | .str s => some (.int .i64 (s.length : Nat))
  | .nilS => some (.int .i64 0)
  | _ => none

/-- The type of what a length is asked of. -/
def lenT (T : Tab) (t : TypeId) : Bool :=
  match T t with
  | some { k := .slice _, .. } => true
  | some { k := .str, .. } => true
  | _ => false

end Go.Proofs.YtkhobcmkbldmiaaFw
