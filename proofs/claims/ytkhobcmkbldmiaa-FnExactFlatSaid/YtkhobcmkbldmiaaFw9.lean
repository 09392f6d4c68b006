/- More operations that read or compute: lengths, cuts, parts, conversions. -/
import Derived.Test.YtkhobcmkbldmiaaFw8
namespace Go.Proofs.YtkhobcmkbldmiaaFw
open Go Go.RowKit
set_option linter.unusedVariables false

theorem lenT_ok {P : Program} {T : Tab} (hT : TabOk P T) {t : TypeId} (h : lenT T t = true) : (∃ e, P.underlying t = some (.slice e)) ∨ P.underlying t = some .string := by
  unfold lenT at h
  split at h
  · rename_i e sz by_ z he; exact .inl ⟨e, (hT t _ he).kind⟩
  · rename_i sz by_ z he; exact .inr (hT t _ he).kind
  · simp at h

def sliceT (T : Tab) (t : TypeId) : Bool :=
  match T t with
  | some { k := .slice _, .. } => true
  | _ => false

def strT (T : Tab) (t : TypeId) : Bool :=
  match T t with
  | some { k := .str, .. } => true
  | _ => false

theorem sliceT_ok {P : Program} {T : Tab} (hT : TabOk P T) {t : TypeId} (h : sliceT T t = true) : ∃ e, P.underlying t = some (.slice e) := by
  unfold sliceT at h
  split at h
  · rename_i e sz by_ z he; exact ⟨e, (hT t _ he).kind⟩
  · simp at h

theorem strT_ok {P : Program} {T : Tab} (hT : TabOk P T) {t : TypeId} (h : strT T t = true) : P.underlying t = some .string := by
  unfold strT at h
  split at h
  · rename_i sz by_ z he; exact (hT t _ he).kind
  · simp at h

def vLenB (T : Tab) (s : St) (t : TypeId) (x : AV) : Option AV :=
  match x with
  | .str l => if strT T t then some (.int .i64 (l.length : Nat)) else none
  | _ => if sliceT T t then vLen s x else none

theorem vLenB_ok {P : Program} {T : Tab} (hT : TabOk P T) {s : St} {t ty : TypeId} {x y : AV} (h : vLenB T s t x = some y) {a : Act} {w : World} {g : Gh} (hs : Sim s a w g) {v : Value} (hv : Val g w x v) :
    ∃ r, (Builtin.len_ #[t] ty #[v]).run P w = .ok r w ∧ Val g w y r := by
  unfold vLenB at h
  split at h
  · rename_i l
    split at h
    · rename_i hst
      obtain rfl := Option.some.inj h
      obtain rfl := hv.str_inv
      exact ⟨_, by simp [Builtin.len_, run_underlying (strT_ok hT hst), goInt, bytes_size], Val.mkInt _ _ _ _⟩
    · simp at h
  · split at h
    · rename_i hsl
      obtain ⟨e, h1⟩ := sliceT_ok hT hsl
      have key : ∀ a n c, (Builtin.len_ #[t] ty #[.slice a n c]).run P w = .ok (.int .i64 (n : Nat)) w := by
        intro a n c; simp [Builtin.len_, run_underlying h1, goInt]
      unfold vLen at h
      split at h
      · rename_i id q _
        cases hn : s.node id q with
        | none => simp [hn] at h
        | some p =>
          obtain ⟨sz, es⟩ := p
          rw [hn] at h
          obtain rfl := Option.some.inj h
          obtain ⟨v', hnode⟩ := hs.node hn
          obtain rfl := hnode.hd hv
          obtain ⟨ad, c, rfl⟩ := hnode.len
          exact ⟨_, key _ _ _, Val.mkInt _ _ _ _⟩
      · rename_i id q sz off n _
        obtain rfl := Option.some.inj h
        rcases hv.ref_inv with ⟨b, cap, len', c', ad, hl, h3, h4, h5, rfl⟩ | ⟨_, rfl, _, rfl⟩
        · exact ⟨_, key _ _ _, Val.mkInt _ _ _ _⟩
        · exact ⟨_, key _ _ _, Val.mkInt _ _ _ _⟩
      · rename_i m sz es _
        obtain rfl := Option.some.inj h
        rcases hv.row_inv with ⟨_, _, rfl, rfl, _⟩ | ⟨ad, c', us, rfl, _⟩
        · exact ⟨_, key _ _ _, Val.mkInt _ _ _ _⟩
        · exact ⟨_, key _ _ _, Val.mkInt _ _ _ _⟩
      · rename_i l hne; exact (hne l rfl).elim
      · obtain rfl := Option.some.inj h
        cases hv with
        | cell _ _ hh => cases hh
        | nilS => exact ⟨_, key _ _ _, Val.mkInt _ _ _ _⟩
      · simp at h
    · simp at h

/-! ### cuts -/
/-- A bound that is given, or not: a whole number. -/
def bndA : Option AV → Option (Option (IntKind × Int))
  | none => some none
  | some (.int k n) => some (some (k, n))
  | _ => none

def bnd0 : Option (IntKind × Int) → Int → Int
  | some (_, n), _ => n
  | none, d => d

def vSlice (T : Tab) (s : St) (t : TypeId) (x : AV) (lo hi : Option AV) : Option (Prop × AV) :=
  match bndA lo, bndA hi with
  | some lo, some hi =>
    match x with
    | .str u =>
      if strT T t then
        some (0 ≤ bnd0 lo 0 ∧ bnd0 lo 0 ≤ bnd0 hi (u.length : Nat) ∧ bnd0 hi (u.length : Nat) ≤ (u.length : Nat), .str ((u.drop (bnd0 lo 0).toNat).take ((bnd0 hi (u.length : Nat)).toNat - (bnd0 lo 0).toNat)))
      else none
    | _ =>
      match elemOf' T t with
      | none => none
      | some ei =>
        match x with
        | .row m sz es =>
          if sz = ei.sz then
            some (m ≠ .own ∧ 0 ≤ bnd0 lo 0 ∧ bnd0 lo 0 ≤ bnd0 hi (es.length : Nat) ∧ bnd0 hi (es.length : Nat) ≤ (es.length : Nat), .row m sz ((es.drop (bnd0 lo 0).toNat).take ((bnd0 hi (es.length : Nat)).toNat - (bnd0 lo 0).toNat)))
          else none
        | .hd id q =>
          match s.node id q with
          | some (sz, es) =>
            if sz = ei.sz then
              some (0 ≤ bnd0 lo 0 ∧ bnd0 lo 0 ≤ bnd0 hi (es.length : Nat) ∧ bnd0 hi (es.length : Nat) ≤ (es.length : Nat), .ref id q sz (bnd0 lo 0).toNat ((bnd0 hi (es.length : Nat)).toNat - (bnd0 lo 0).toNat))
            else none
          | none => none
        | .ref id q sz off n =>
          if sz = ei.sz then
            some (0 ≤ bnd0 lo 0 ∧ bnd0 lo 0 ≤ bnd0 hi (n : Nat) ∧ bnd0 hi (n : Nat) ≤ (n : Nat), .ref id q sz (off + (bnd0 lo 0).toNat) ((bnd0 hi (n : Nat)).toNat - (bnd0 lo 0).toNat))
          else none
        | _ => none
  | _, _ => none

/-- The bound as the machine has it. -/
def bndV (l : Option (IntKind × Int)) : Option Value := l.map fun p => .int p.1 p.2

theorem bndA_val {g : Gh} {w : World} {x : Option AV} {l : Option (IntKind × Int)} (h : bndA x = some l) {v : Option Value} (hv : (x = none ∧ v = none) ∨ ∃ y u, x = some y ∧ v = some u ∧ Val g w y u) : v = bndV l := by
  rcases hv with ⟨rfl, rfl⟩ | ⟨y, u, rfl, rfl, hu⟩
  · simp only [bndA, Option.some.injEq] at h; subst h; rfl
  · unfold bndA at h
    split at h
    · rename_i he; cases he
    · rename_i k n he
      obtain rfl := Option.some.inj he
      obtain rfl := Option.some.inj h
      obtain rfl := hu.int_inv
      rfl
    · simp at h

theorem run_sliceBounds' {P : Program} {w : World} (isS : Bool) {len cap : Nat} {lo hi : Option (IntKind × Int)}
    (h0 : 0 ≤ bnd0 lo 0) (h01 : bnd0 lo 0 ≤ bnd0 hi (len : Nat)) (h02 : bnd0 hi (len : Nat) ≤ (len : Nat)) (hlc : len ≤ cap) :
    (Instr.sliceBounds isS len cap (bndV lo) (bndV hi) none).run P w = .ok ((bnd0 lo 0).toNat, (bnd0 hi (len : Nat)).toNat, cap) w := by
  cases lo with
  | none =>
    cases hi with
    | none => simp [Instr.sliceBounds, bndV, bnd0]
    | some p =>
      simp only [bnd0] at h0 h01 h02 ⊢
      simp only [Instr.sliceBounds, bndV, Option.map_none, Option.map_some, Sem.run_bind, Sem.run_pure, Result.andThen_ok]
      rw [run_sliceBound w p.1 p.2 cap _ h01 (by omega)]
      simp
  | some q =>
    cases hi with
    | none =>
      simp only [bnd0] at h0 h01 h02 ⊢
      simp only [Instr.sliceBounds, bndV, Option.map_none, Option.map_some, Sem.run_bind, Sem.run_pure, Result.andThen_ok, Option.isSome_none, Bool.false_eq_true, if_false]
      rw [run_sliceBound w q.1 q.2 len _ h0 (by omega)]
      simp
    | some p =>
      simp only [bnd0] at h0 h01 h02 ⊢
      simp only [Instr.sliceBounds, bndV, Option.map_some, Sem.run_bind, Sem.run_pure, Result.andThen_ok, Option.isSome_none, Bool.false_eq_true, if_false]
      rw [run_sliceBound w p.1 p.2 cap _ (by omega) (by omega)]
      simp only [Result.andThen_ok]
      rw [run_sliceBound w q.1 q.2 p.2.toNat _ h0 (by omega)]
      simp

theorem run_slice_sl {P : Program} {t e : TypeId} {ei : TI} (h : P.underlying t = some (.slice e)) (he : TIOk P e ei) {w : World} {a : Option Addr} {len cap : Nat} {lo hi : Option (IntKind × Int)}
    (h0 : 0 ≤ bnd0 lo 0) (h01 : bnd0 lo 0 ≤ bnd0 hi (len : Nat)) (h02 : bnd0 hi (len : Nat) ≤ (len : Nat)) (hlc : len ≤ cap) :
    (Instr.sliceAt t (.slice a len cap) (bndV lo) (bndV hi) none).run P w =
      .ok (.slice (if cap = (bnd0 lo 0).toNat then a else a.map (·.add ((bnd0 lo 0).toNat * ei.sz))) ((bnd0 hi (len : Nat)).toNat - (bnd0 lo 0).toNat) (cap - (bnd0 lo 0).toNat)) w := by
  simp [Instr.sliceAt, run_underlying h, Instr.slice, run_sliceBounds' true h0 h01 h02 hlc, run_sizeOf' he]

theorem run_slice_str {P : Program} {t : TypeId} (h : P.underlying t = some .string) {w : World} {u : List UInt8} {lo hi : Option (IntKind × Int)}
    (h0 : 0 ≤ bnd0 lo 0) (h01 : bnd0 lo 0 ≤ bnd0 hi (u.length : Nat)) (h02 : bnd0 hi (u.length : Nat) ≤ (u.length : Nat)) :
    (Instr.sliceAt t (.string ⟨⟨u⟩⟩) (bndV lo) (bndV hi) none).run P w = .ok (.string ⟨⟨(u.drop (bnd0 lo 0).toNat).take ((bnd0 hi (u.length : Nat)).toNat - (bnd0 lo 0).toNat)⟩⟩) w := by
  have hb := run_sliceBounds' (P := P) (w := w) false (len := u.length) (cap := u.length) h0 h01 h02 (Nat.le_refl _)
  simp [Instr.sliceAt, run_underlying h, Instr.slice, bytes_size, hb, bytes_extract]

theorem vSlice_ok {P : Program} {T : Tab} (hT : TabOk P T) {s : St} {t : TypeId} {x y : AV} {lo hi : Option AV} {c : Prop} (h : vSlice T s t x lo hi = some (c, y)) (hc : c)
    {a : Act} {w : World} {g : Gh} (hs : Sim s a w g) {v : Value} (hv : Val g w x v) {lv hiv : Option Value}
    (hlo : (lo = none ∧ lv = none) ∨ ∃ y u, lo = some y ∧ lv = some u ∧ Val g w y u) (hhi : (hi = none ∧ hiv = none) ∨ ∃ y u, hi = some y ∧ hiv = some u ∧ Val g w y u) :
    ∃ r, (Instr.sliceAt t v lv hiv none).run P w = .ok r w ∧ Val g w y r := by
  unfold vSlice at h
  split at h
  · rename_i lo' hi' hl' hh'
    obtain rfl := bndA_val hl' hlo
    obtain rfl := bndA_val hh' hhi
    split at h
    · rename_i u
      split at h
      · rename_i hst
        simp only [Option.some.injEq, Prod.mk.injEq] at h
        obtain ⟨rfl, rfl⟩ := h
        obtain rfl := hv.str_inv
        exact ⟨_, run_slice_str (strT_ok hT hst) hc.1 hc.2.1 hc.2.2, Val.mkStr _ _ _⟩
      · simp at h
    · split at h
      · simp at h
      · rename_i ei hei
        obtain ⟨e, h1, _, h2⟩ := elemOf'_ok hT hei
        split at h
        · rename_i m sz es _
          split at h
          · rename_i hsz
            simp only [Option.some.injEq, Prod.mk.injEq] at h
            obtain ⟨rfl, rfl⟩ := h
            obtain ⟨hm0, hc1, hc2, hc3⟩ := hc
            rcases hv.row_inv with ⟨ad, cp, rfl, rfl, _⟩ | ⟨ad, cp, us, rfl, hm, hsp, hl, hw, hcc, ht⟩
            · refine ⟨_, run_slice_sl h1 h2 (by simpa using hc1) (by simpa using hc2) (by simpa using hc3) (Nat.zero_le _), ?_⟩
              simp only [List.drop_nil, List.take_nil]
              have e0 : (bnd0 hi' ((0 : Nat) : Int)).toNat - (bnd0 lo' 0).toNat = 0 := by simp only [List.length_nil] at hc3; omega
              rw [e0]
              exact .cell _ _ (.emp _ _ _ _ _ hm0)
            · refine ⟨_, run_slice_sl h1 h2 hc1 hc2 hc3 hl, ?_⟩
              generalize hn1 : (bnd0 lo' 0).toNat = l at *
              generalize hn2 : (bnd0 hi' (es.length : Nat)).toNat = hh at *
              have hll : hh ≤ es.length := by omega
              have hlh : l ≤ hh := by omega
              have hlen : ((es.drop l).take (hh - l)).length = hh - l := by simp; omega
              by_cases he : cp = l
              · have e0 : hh - l = 0 := by omega
                rw [e0]
                simp only [List.take_zero]
                exact .cell _ _ (.emp _ _ _ _ _ hm0)
              · rw [if_neg he]
                have hget : ∀ (i : Nat) (x : AV), ((es.drop l).take (hh - l))[i]? = some x → es[l + i]? = some x := by
                  intro i x hx
                  rw [List.getElem?_take] at hx
                  split at hx
                  · rwa [List.getElem?_drop] at hx
                  · simp at hx
                have hadd : ∀ i k : Nat, (l + i) * sz + k = l * ei.sz + (i * sz + k) := by
                  intro i k; rw [← hsz, Nat.add_mul]; omega
                have key := Cell.rd (g := g) (w := w) .bo m sz ((es.drop l).take (hh - l)) (ad.add (l * ei.sz)) (cp - l) (fun j => us (l * ei.sz + j)) (by simp) (by rw [add_block]; exact hm) (add_spot _ hsp _) (by rw [hlen]; omega)
                  (fun i x hx => hw _ x (hget i x hx))
                  (fun i k x y hx hy => by rw [add_add _ hsp, ← hadd]; exact hcc _ k x y (hget i x hx) hy)
                  (fun i k x y hx hy => by have := ht _ k x y (hget i x hx) hy; rw [hadd] at this; exact this)
                rw [hlen] at key
                exact .cell _ _ key
          · simp at h
        · rename_i id q _
          split at h
          · rename_i sz es hn
            split at h
            · rename_i hsz
              simp only [Option.some.injEq, Prod.mk.injEq] at h
              obtain ⟨rfl, rfl⟩ := h
              obtain ⟨hc1, hc2, hc3⟩ := hc
              obtain ⟨v', hnode⟩ := hs.node hn
              obtain rfl := hnode.hd hv
              obtain ⟨ad, cp, rfl⟩ := hnode.len
              rcases hv.hd_inv with ⟨b, c, n, hl, he⟩ | ⟨hl, he⟩
              · simp only [Value.slice.injEq] at he
                obtain ⟨rfl, rfl, rfl⟩ := he
                have hle : es.length ≤ cp := by
                  cases hnode with
                  | rd _ _ _ _ a c us hp hm => exact hm.elim
                  | emp _ _ _ a c hm => exact Nat.zero_le _
                  | own _ _ _ _ b c cur e us hl ho hb hn' => exact hn'
                refine ⟨_, run_slice_sl h1 h2 hc1 hc2 hc3 hle, ?_⟩
                generalize hn1 : (bnd0 lo' 0).toNat = l at *
                generalize hn2 : (bnd0 hi' (es.length : Nat)).toNat = hh at *
                have : (if cp = l then some (⟨b, 0, none⟩ : Addr) else (some (⟨b, 0, none⟩ : Addr)).map (·.add (l * ei.sz))) = some (if cp = l then ⟨b, 0, none⟩ else ⟨b, l * ei.sz, none⟩) := by
                  split
                  · rfl
                  · simp [add_lit]
                rw [this]
                refine .ref _ _ _ _ _ b cp _ (cp - l) _ hl (by omega) (by omega) ?_
                intro h'
                by_cases he : cp = l
                · rw [if_pos he]
                  have : l = 0 := by omega
                  simp [this]
                · rw [if_neg he, hsz]
              · simp only [Value.slice.injEq] at he
                obtain ⟨rfl, hes, rfl⟩ := he
                have hl0 : (bnd0 lo' 0).toNat = 0 := by omega
                have hh0 : (bnd0 hi' (es.length : Nat)).toNat = 0 := by omega
                refine ⟨_, run_slice_sl h1 h2 hc1 hc2 hc3 (by omega), ?_⟩
                rw [hl0, hh0]
                simp only [Nat.sub_self, if_true]
                exact .refNil _ _ _ hl
            · simp at h
          · simp at h
        · rename_i id q sz off n _
          split at h
          · rename_i hsz
            simp only [Option.some.injEq, Prod.mk.injEq] at h
            obtain ⟨rfl, rfl⟩ := h
            obtain ⟨hc1, hc2, hc3⟩ := hc
            rcases hv.ref_inv with ⟨b, cap, len', c', ad, hl, h3, h4, h5, rfl⟩ | ⟨hl, rfl, rfl, rfl⟩
            · refine ⟨_, run_slice_sl h1 h2 hc1 hc2 hc3 h4, ?_⟩
              generalize hn1 : (bnd0 lo' 0).toNat = l at *
              generalize hn2 : (bnd0 hi' (n : Nat)).toNat = hh at *
              have : (if c' = l then some ad else (some ad).map (·.add (l * ei.sz))) = some (if c' = l then ad else ad.add (l * ei.sz)) := by split <;> rfl
              rw [this]
              refine .ref _ _ _ _ _ b cap _ (c' - l) _ hl (by omega) (by omega) ?_
              intro h'
              by_cases he : c' = l
              · rw [if_pos he]
                have h00 : off + l = 0 := by omega
                have : off = 0 := by omega
                subst this
                rw [h5 (.inr rfl)]
                have : l = 0 := by omega
                simp [this]
              · rw [if_neg he]
                have hc0 : 0 < c' ∨ off = 0 := by omega
                rw [h5 hc0, add_lit, hsz, ← Nat.add_mul]
            · have hl0 : (bnd0 lo' 0).toNat = 0 := by omega
              have hh0 : (bnd0 hi' ((0 : Nat) : Int)).toNat = 0 := by omega
              refine ⟨_, run_slice_sl h1 h2 hc1 hc2 hc3 (Nat.le_refl _), ?_⟩
              rw [hl0, hh0]
              simp only [Nat.sub_self, if_true]
              exact .refNil _ _ _ hl
          · simp at h
        · simp at h
  · simp at h

end Go.Proofs.YtkhobcmkbldmiaaFw
