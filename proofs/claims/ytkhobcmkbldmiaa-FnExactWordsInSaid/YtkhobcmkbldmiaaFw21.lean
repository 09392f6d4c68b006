/- Arguments: what is lent, what is handed over. -/
import Derived.Test.YtkhobcmkbldmiaaFw20
namespace Go.Proofs.YtkhobcmkbldmiaaFw
open Go Go.RowKit
set_option linter.unusedVariables false

def posL : List Nat → Nat → Option Nat
  | [], _ => none
  | x :: r, i => if x = i then some 0 else (posL r i).map (· + 1)

theorem posL_some : ∀ {l : List Nat} {id i : Nat}, posL l id = some i → l[i]? = some id
  | [], _, _, h => by simp [posL] at h
  | x :: r, id, i, h => by
    simp only [posL] at h
    split at h
    · rename_i e; obtain rfl := Option.some.inj h; simp [e]
    · cases hp : posL r id with
      | none => simp [hp] at h
      | some j =>
        rw [hp] at h
        obtain rfl := Option.some.inj h
        simpa using posL_some hp

theorem posL_get : ∀ {l : List Nat}, l.Nodup → ∀ {id i : Nat}, l[i]? = some id → posL l id = some i
  | [], _, _, _, h => by simp at h
  | x :: r, hn, id, i, h => by
    simp only [posL]
    cases i with
    | zero => simp at h; simp [h]
    | succ i =>
      simp only [List.getElem?_cons_succ] at h
      have hm : id ∈ r := List.mem_of_getElem? h
      have hne : x ≠ id := fun e => by rw [e] at hn; exact (List.nodup_cons.1 hn).1 hm
      rw [if_neg hne, posL_get (List.nodup_cons.1 hn).2 h]
      rfl

mutual
/-- A value of the caller's as the function that is called reads it; ps are handed over. -/
def argA (s : St) (ps : List Nat) : AV → Option AV
  | .hd id q =>
    match posL ps id with
    | some i => some (.hd i q)
    | none => match s.node id q with | some (sz, es) => some (.row .bo sz (brwL es)) | none => none
  | .ref id q sz off n =>
    match posL ps id with
    | some i => some (.ref i q sz off n)
    | none => match s.node id q with | some (sz', es) => if sz' = sz ∧ off + n ≤ es.length then some (.row .bo sz (brwL ((es.drop off).take n))) else none | none => none
  | .ptr id q sz j k =>
    match posL ps id with
    | some i => some (.ptr i q sz j k)
    | none => match s.node id q with | some (sz', es) => (match es[j]? with | some x => if sz' = sz then some (.rp .bo ((brwL x.cells).drop k)) else none | none => none) | none => none
  | .agg cs => (argAL s ps cs).map .agg
  | .tup cs => (argAL s ps cs).map .tup
  | .fn f cs => (argAL s ps cs).map (.fn f)
  | .int k n => some (.int k n)
  | .bool b => some (.bool b)
  | .str u => some (.str u)
  | .nilI => some .nilI
  | .nilP => some .nilP
  | .nilS => some .nilS
  | .row m sz es => some (.row m sz es)
  | .rp m cs => some (.rp m cs)
  | .vp _ => none
  | .dead => some .dead
def argAL (s : St) (ps : List Nat) : List AV → Option (List AV)
  | [] => some []
  | x :: r =>
    match argA s ps x, argAL s ps r with
    | some y, some l => some (y :: l)
    | _, _ => none
end

theorem argAL_get (s : St) (ps : List Nat) : ∀ {l l' : List AV}, argAL s ps l = some l' → l'.length = l.length ∧ ∀ (k : Nat) (y : AV), l'[k]? = some y → ∃ x, l[k]? = some x ∧ argA s ps x = some y
  | [], l', h => by simp only [argAL, Option.some.injEq] at h; subst h; exact ⟨rfl, fun k y h => by simp at h⟩
  | x :: r, l', h => by
    simp only [argAL] at h
    split at h
    · rename_i y l1 h1 h2
      obtain rfl := Option.some.inj h
      obtain ⟨i1, i2⟩ := argAL_get s ps h2
      refine ⟨by simp [i1], ?_⟩
      intro k y' hk
      cases k with
      | zero => simp at hk; subst hk; exact ⟨x, rfl, h1⟩
      | succ k => obtain ⟨x', h3, h4⟩ := i2 k y' (by simpa using hk); exact ⟨x', by simpa using h3, h4⟩
    · simp at h

/-- How the memory reads for the function that is called. -/
structure Lends (g : Gh) (w : World) (ps : List Nat) (g0 : Gh) : Prop where
  rd : RdKeep g w g0 w
  lent : ∀ b id q, g.own b = some (id, q) → posL ps id = none → g0.canRd b
  loc : ∀ id i q, posL ps id = some i → g0.loc i q = g.loc id q

theorem Lends.row {s : St} {a : Act} {w : World} {g g0 : Gh} (hs : Sim s a w g) {ps : List Nat} (hL : Lends g w ps g0) {id : Nat} {q : Path} (hp : posL ps id = none) {sz : Nat} {es : List AV} {v : Value} (h : Cell g w (.at id q) (.row .own sz es) v) :
    Cell g0 w .bo (.row .bo sz (brwL es)) v :=
  h.toBrw hL.rd (fun i q' e b r ho => by
    obtain ⟨rfl, rfl⟩ := Pl.at.inj e
    exact ⟨hL.lent b _ _ ho hp, rfl⟩)

theorem argA_ok {s : St} {a : Act} {w : World} {g g0 : Gh} (hs : Sim s a w g) {ps : List Nat} (hL : Lends g w ps g0) {x : AV} {v : Value} (h : Val g w x v) : ∀ y, argA s ps x = some y → Val g0 w y v := by
  have hr := hL.rd
  have hdc : ∀ (id : Nat) (q : Path) (v : Value), Val g w (.hd id q) v → ∀ y, argA s ps (.hd id q) = some y → Val g0 w y v := by
    intro id q v hv y hy
    simp only [argA] at hy
    split at hy
    · rename_i i hi
      obtain rfl := Option.some.inj hy
      rcases hv.hd_inv with ⟨b, c, n, h1, rfl⟩ | ⟨h1, rfl⟩
      · exact .hd _ _ b c n ((hL.loc id i q hi).trans h1)
      · exact .hdNil _ _ ((hL.loc id i q hi).trans h1)
    · rename_i hi
      split at hy
      · rename_i sz es hn
        obtain rfl := Option.some.inj hy
        obtain ⟨v', hc⟩ := hs.node hn
        obtain rfl := hc.hd hv
        exact .cell _ _ (hL.row hs hi hc)
      · simp at hy
  have hrf : ∀ (id : Nat) (q : Path) (sz off n : Nat) (v : Value), Val g w (.ref id q sz off n) v → ∀ y, argA s ps (.ref id q sz off n) = some y → Val g0 w y v := by
    intro id q sz off n v hv y hy
    simp only [argA] at hy
    split at hy
    · rename_i i hi
      obtain rfl := Option.some.inj hy
      rcases hv.ref_inv with ⟨b, cap, len, c, ad, h1, h2, h3, h4, rfl⟩ | ⟨h1, rfl, rfl, rfl⟩
      · exact .ref _ _ _ _ _ b cap len c ad ((hL.loc id i q hi).trans h1) h2 h3 h4
      · exact .refNil _ _ _ ((hL.loc id i q hi).trans h1)
    · rename_i hi
      split at hy
      · rename_i sz' es hn
        split at hy
        · rename_i hcond
          obtain ⟨rfl, hle⟩ := hcond
          obtain rfl := Option.some.inj hy
          obtain ⟨v', hc⟩ := hs.node hn
          have hlen : (brwL ((es.drop off).take n)).length = n := by
            rw [brwL_eq, List.length_map, List.length_take, List.length_drop]; omega
          rcases hv.ref_inv with ⟨b, cap, len, c, ad, h1, h2, h3, h4, rfl⟩ | ⟨h1, rfl, rfl, rfl⟩
          · have hrow := hL.row hs hi hc
            by_cases hn0 : n = 0
            · subst hn0
              have : brwL ((es.drop off).take 0) = [] := List.eq_nil_of_length_eq_zero hlen
              rw [this]
              exact .cell _ _ (.emp _ _ _ _ _ (by simp))
            · have had := h4 (.inl (by omega))
              subst had
              cases hc with
              | rd _ _ _ _ a c us hp hm => exact hm.elim
              | emp _ _ _ a c hm => exact absurd rfl hm
              | ownNil _ _ _ hl => rw [h1] at hl; simp at hl
              | own _ _ _ _ b' c' cur e us hl ho hb hnn hm hz hw hcc ht =>
                rw [h1] at hl
                simp only [Option.some.injEq, Prod.mk.injEq] at hl
                obtain ⟨rfl, rfl, rfl⟩ := hl
                have hcan : g0.canRd b := hL.lent b _ _ ho hi
                have hget : ∀ (i : Nat) (x : AV), (brwL ((es.drop off).take n))[i]? = some x → ∃ x0, es[off + i]? = some x0 ∧ x = brw x0 := by
                  intro i x hx
                  rw [brwL_eq] at hx
                  obtain ⟨x0, hx0, rfl⟩ := get_map hx
                  rw [List.getElem?_take] at hx0
                  split at hx0
                  · rw [List.getElem?_drop] at hx0; exact ⟨x0, hx0, rfl⟩
                  · simp at hx0
                refine .cell _ _ ?_
                have key : Cell g0 w .bo (.row .bo sz' (brwL ((es.drop off).take n))) (.slice (some ⟨b, off * sz', none⟩) (brwL ((es.drop off).take n)).length c) := by
                  refine .rd _ _ _ _ _ _ (fun j => us (off * sz' + j)) (by simp) hcan rfl (by omega) ?_ ?_ ?_
                  · intro i x hx
                    obtain ⟨x0, hx0, rfl⟩ := hget i x hx
                    rw [brw_width]; exact hw _ x0 hx0
                  · intro i k x y hx hy
                    obtain ⟨x0, hx0, rfl⟩ := hget i x hx
                    rw [brw_cells'] at hy
                    obtain ⟨y0, hy0, rfl⟩ := get_map hy
                    have := hcc (off + i) k x0 y0 hx0 hy0
                    rw [Nat.add_mul, Nat.add_assoc] at this
                    have e : ((⟨b, off * sz', none⟩ : Addr).add (i * sz' + k)) = (⟨b, 0, none⟩ : Addr).add (off * sz' + (i * sz' + k)) := by rw [add_lit, add_lit]; simp
                    rw [e]
                    exact cell?_own hb this
                  · intro i k x y hx hy
                    obtain ⟨x0, hx0, rfl⟩ := hget i x hx
                    rw [brw_cells'] at hy
                    obtain ⟨y0, hy0, rfl⟩ := get_map hy
                    have := (ht (off + i) k x0 y0 hx0 hy0).toBrw hL.rd (fun i' q' e b r ho' => by
                      obtain ⟨rfl, rfl⟩ := Pl.at.inj e
                      exact ⟨hL.lent b _ _ ho' hi, rfl⟩)
                    rw [Nat.add_mul, Nat.add_assoc] at this
                    exact this
                rw [hlen] at key
                exact key
          · have : brwL ((es.drop 0).take 0) = [] := List.eq_nil_of_length_eq_zero hlen
            rw [this]
            exact .cell _ _ (.emp _ _ _ _ _ (by simp))
        · simp at hy
      · simp at hy
  induction h with
  | cell x v h =>
    intro y hy
    have h' := h.still hr (fun _ _ => by simp)
    cases h <;> (simp only [argA, Option.some.injEq] at hy; subst hy; exact .cell _ _ h')
  | nilS => intro y hy; simp only [argA, Option.some.injEq] at hy; subst hy; exact .nilS
  | nilP => intro y hy; simp only [argA, Option.some.injEq] at hy; subst hy; exact .nilP
  | agg cs vs hl h ih =>
    intro y hy
    simp only [argA, Option.map_eq_some_iff] at hy
    obtain ⟨l, hl', rfl⟩ := hy
    obtain ⟨i1, i2⟩ := argAL_get s ps hl'
    exact .agg _ _ (by omega) (fun k c u hc hu => by obtain ⟨x, h1, h2⟩ := i2 k c hc; exact ih k x u h1 hu c h2)
  | tup cs vs hl h ih =>
    intro y hy
    simp only [argA, Option.map_eq_some_iff] at hy
    obtain ⟨l, hl', rfl⟩ := hy
    obtain ⟨i1, i2⟩ := argAL_get s ps hl'
    exact .tup _ _ (by omega) (fun k c u hc hu => by obtain ⟨x, h1, h2⟩ := i2 k c hc; exact ih k x u h1 hu c h2)
  | fn f' cs vs hl h ih =>
    intro y hy
    simp only [argA, Option.map_eq_some_iff] at hy
    obtain ⟨l, hl', rfl⟩ := hy
    obtain ⟨i1, i2⟩ := argAL_get s ps hl'
    exact .fn _ _ _ (by omega) (fun k c u hc hu => by obtain ⟨x, h1, h2⟩ := i2 k c hc; exact ih k x u h1 hu c h2)
  | hd i q b c n h1 => exact hdc i q _ (.hd i q b c n h1)
  | hdNil i q h1 => exact hdc i q _ (.hdNil i q h1)
  | ref i q sz off n b cap len c a h1 hc hn ha => exact hrf i q sz off n _ (.ref i q sz off n b cap len c a h1 hc hn ha)
  | refNil i q sz h1 => exact hrf i q sz 0 0 _ (.refNil i q sz h1)
  | ptr i q sz j k b cap len h1 =>
    intro y hy
    simp only [argA] at hy
    split at hy
    · rename_i i' hi
      obtain rfl := Option.some.inj hy
      exact .ptr _ _ _ _ _ b cap len ((hL.loc i i' q hi).trans h1)
    · rename_i hi
      split at hy
      · rename_i sz' es hn
        split at hy
        · rename_i x hx
          split at hy
          · rename_i e; subst e
            obtain rfl := Option.some.inj hy
            obtain ⟨v', hc⟩ := hs.node hn
            cases hc with
            | rd _ _ _ _ a c us hp hm => exact hm.elim
            | emp _ _ _ a c hm => exact absurd rfl hm
            | ownNil _ _ _ hl => rw [h1] at hl; simp at hl
            | own _ _ _ _ b' c' cur e us hl ho hb hnn hm hz hw hcc ht =>
              rw [h1] at hl
              simp only [Option.some.injEq, Prod.mk.injEq] at hl
              obtain ⟨rfl, rfl, rfl⟩ := hl
              have hcan : g0.canRd b := hL.lent b _ _ ho hi
              have hget : ∀ (m : Nat) (y : AV), ((brwL x.cells).drop k)[m]? = some y → ∃ y0, x.cells[k + m]? = some y0 ∧ y = brw y0 := by
                intro m y hy
                rw [List.getElem?_drop, brwL_eq] at hy
                exact get_map hy
              refine .rp _ _ _ (fun m => us (j * sz' + k + m)) hcan rfl ?_ ?_
              · intro m y hy
                obtain ⟨y0, h2, rfl⟩ := hget m y hy
                have := hcc j (k + m) x y0 hx h2
                have e : ((⟨b, j * sz' + k, none⟩ : Addr).add m) = (⟨b, 0, none⟩ : Addr).add (j * sz' + (k + m)) := by rw [add_lit, add_lit]; congr 1; omega
                rw [e, cell?_own hb this]
                congr 2; omega
              · intro m y hy
                obtain ⟨y0, h2, rfl⟩ := hget m y hy
                have := (ht j (k + m) x y0 hx h2).toBrw hL.rd (fun i' q' e b r ho' => by
                  obtain ⟨rfl, rfl⟩ := Pl.at.inj e
                  exact ⟨hL.lent b _ _ ho' hi, rfl⟩)
                rw [← Nat.add_assoc] at this
                exact this
          · simp at hy
        · simp at hy
      · simp at hy
  | rp m cs a us hm hs' hc ht =>
    intro y hy
    simp only [argA, Option.some.injEq] at hy
    subst hy
    exact .rp _ _ _ us (hr.rd hm).1 hs' (fun k y hy => hc k y hy) (fun k y hy => (ht k y hy).still hr (by intro id q; cases m <;> simp [Md.pl]))
  | vp cs a us hm hs' hc ht ih => intro y hy; simp [argA] at hy
  | dead v => intro y hy; simp only [argA, Option.some.injEq] at hy; subst hy; exact .dead _

end Go.Proofs.YtkhobcmkbldmiaaFw
