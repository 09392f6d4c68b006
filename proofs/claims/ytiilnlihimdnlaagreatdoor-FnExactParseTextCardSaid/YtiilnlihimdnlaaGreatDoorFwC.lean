import Derived.Test.YtiilnlihimdnlaaGreatDoorFwB
import Derived.KernelRfl
import Derived.Laws.BytesArg
import Derived.Orders
set_option linter.unusedVariables false
set_option linter.unusedSimpArgs false
/- Arguments: what is lent, what is handed over. -/
namespace Go.Proofs.YtiilnlihimdnlaaGreatDoorFw
open Go Go.RowKit
set_option linter.unusedVariables false
def posL : List Nat → Nat → Option Nat
 | [], _ => none
 | x :: r, i => if x = i then some 0 else (posL r i).map (· + 1)
theorem posL_some : ∀ {l : List Nat} {id i : Nat}, posL l id = some i → l[i]? = some id
 | [], _, _, h => by simp [posL] at h
 | x :: r, id, i, h => by
  simp only [posL] at h
  split at h
  ·rename_i e; obtain rfl := Option.some.inj h; simp [e]
  ·cases hp : posL r id with
   | none => simp [hp] at h
   | some j =>
    rw [hp] at h
    obtain rfl := Option.some.inj h
    simpa using posL_some hp
theorem posL_get : ∀ {l : List Nat}, l.Nodup → ∀ {id i : Nat}, l[i]? = some id → posL l id = some i
 | [], _, _, _, h => by simp at h
 | x :: r, hn, id, i, h => by
  simp only [posL]
  cases i with
  | zero => simp at h; simp [h]
  | succ i =>
   simp only [List.getElem?_cons_succ] at h
   have hm : id ∈ r := List.mem_of_getElem? h
   have hne : x ≠ id := fun e => by rw [e] at hn; exact (List.nodup_cons.1 hn).1 hm
   rw [if_neg hne, posL_get (List.nodup_cons.1 hn).2 h]
   rfl
mutual
def argA (s : St) (ps : List Nat) : AV → Option AV
 | .hd id q =>
  match posL ps id with
  | some i => some (.hd i q)
  | none => match s.node id q with | some (sz, es) => some (.row .bo sz (brwL es)) | none => none
 | .ref id q sz off n =>
  match posL ps id with
  | some i => some (.ref i q sz off n)
  | none => match s.node id q with | some (sz', es) => if sz' = sz ∧ off + n ≤ es.length then some (.row .bo sz (brwL ((es.drop off).take n))) else none | none => none
 | .ptr id q sz j k =>
  match posL ps id with
  | some i => some (.ptr i q sz j k)
  | none => match s.node id q with | some (sz', es) => (match es[j]? with | some x => if sz' = sz then some (.rp .bo ((brwL x.cells).drop k)) else none | none => none) | none => none
 | .agg cs => (argAL s ps cs).map .agg
 | .tup cs => (argAL s ps cs).map .tup
 | .fn f cs => (argAL s ps cs).map (.fn f)
 | .int k n => some (.int k n)
 | .bool b => some (.bool b)
 | .str u => some (.str u)
 | .nilI => some .nilI
 | .ifc c => some (.ifc c)
 | .nilP => some .nilP
 | .nilS => some .nilS
 | .row m sz es => some (.row m sz es)
 | .rp m cs => some (.rp m cs)
 | .vp _ => none
 | .dead => some .dead
def argAL (s : St) (ps : List Nat) : List AV → Option (List AV)
 | [] => some []
 | x :: r =>
  match argA s ps x, argAL s ps r with
  | some y, some l => some (y :: l)
  | _, _ => none
end
theorem argAL_get (s : St) (ps : List Nat) : ∀ {l l' : List AV}, argAL s ps l = some l' → l'.length = l.length ∧ ∀ (k : Nat) (y : AV), l'[k]? = some y → ∃ x, l[k]? = some x ∧ argA s ps x = some y
 | [], l', h => by simp only [argAL, Option.some.injEq] at h; subst h; exact ⟨rfl, fun k y h => by simp at h⟩
 | x :: r, l', h => by
  simp only [argAL] at h
  split at h
  ·rename_i y l1 h1 h2
   obtain rfl := Option.some.inj h
   obtain ⟨i1, i2⟩ := argAL_get s ps h2
   refine ⟨by simp [i1], ?_⟩
   intro k y' hk
   cases k with
   | zero => simp at hk; subst hk; exact ⟨x, rfl, h1⟩
   | succ k => obtain ⟨x', h3, h4⟩ := i2 k y' (by simpa using hk); exact ⟨x', by simpa using h3, h4⟩
  ·simp at h
structure Lends (g : Gh) (w : World) (ps : List Nat) (g0 : Gh) : Prop where
 rd : RdKeep g w g0 w
 lent : ∀ b id q, g.own b = some (id, q) → posL ps id = none → g0.canRd b
 loc : ∀ id i q, posL ps id = some i → g0.loc i q = g.loc id q
theorem Lends.row {s : St} {a : Act} {w : World} {g g0 : Gh} (hs : Sim s a w g) {ps : List Nat} (hL : Lends g w ps g0) {id : Nat} {q : Path} (hp : posL ps id = none) {sz : Nat} {es : List AV} {v : Value} (h : Cell g w (.at id q) (.row .own sz es) v) :
 Cell g0 w .bo (.row .bo sz (brwL es)) v :=
 h.toBrw hL.rd (fun i q' e b r ho => by
  obtain ⟨rfl, rfl⟩ := Pl.at.inj e
  exact ⟨hL.lent b _ _ ho hp, rfl⟩)
theorem argA_ok {s : St} {a : Act} {w : World} {g g0 : Gh} (hs : Sim s a w g) {ps : List Nat} (hL : Lends g w ps g0) {x : AV} {v : Value} (h : Val g w x v) : ∀ y, argA s ps x = some y → Val g0 w y v := by
 have hr := hL.rd
 have hdc : ∀ (id : Nat) (q : Path) (v : Value), Val g w (.hd id q) v → ∀ y, argA s ps (.hd id q) = some y → Val g0 w y v := by
  intro id q v hv y hy
  simp only [argA] at hy
  split at hy
  ·rename_i i hi
   obtain rfl := Option.some.inj hy
   rcases hv.hd_inv with ⟨b, c, n, h1, rfl⟩ | ⟨h1, rfl⟩
   ·exact .hd _ _ b c n ((hL.loc id i q hi).trans h1)
   ·exact .hdNil _ _ ((hL.loc id i q hi).trans h1)
  ·rename_i hi
   split at hy
   ·rename_i sz es hn
    obtain rfl := Option.some.inj hy
    obtain ⟨v', hc⟩ := hs.node hn
    obtain rfl := hc.hd hv
    exact .cell _ _ (hL.row hs hi hc)
   ·simp at hy
 have hrf : ∀ (id : Nat) (q : Path) (sz off n : Nat) (v : Value), Val g w (.ref id q sz off n) v → ∀ y, argA s ps (.ref id q sz off n) = some y → Val g0 w y v := by
  intro id q sz off n v hv y hy
  simp only [argA] at hy
  split at hy
  ·rename_i i hi
   obtain rfl := Option.some.inj hy
   rcases hv.ref_inv with ⟨b, cap, len, c, ad, h1, h2, h3, h4, rfl⟩ | ⟨h1, rfl, rfl, rfl⟩
   ·exact .ref _ _ _ _ _ b cap len c ad ((hL.loc id i q hi).trans h1) h2 h3 h4
   ·exact .refNil _ _ _ ((hL.loc id i q hi).trans h1)
  ·rename_i hi
   split at hy
   ·rename_i sz' es hn
    split at hy
    ·rename_i hcond
     obtain ⟨rfl, hle⟩ := hcond
     obtain rfl := Option.some.inj hy
     obtain ⟨v', hc⟩ := hs.node hn
     have hlen : (brwL ((es.drop off).take n)).length = n := by
      rw [brwL_eq, List.length_map, List.length_take, List.length_drop]; omega
     rcases hv.ref_inv with ⟨b, cap, len, c, ad, h1, h2, h3, h4, rfl⟩ | ⟨h1, rfl, rfl, rfl⟩
     ·have hrow := hL.row hs hi hc
      by_cases hn0 : n = 0
      ·subst hn0
       have : brwL ((es.drop off).take 0) = [] := List.eq_nil_of_length_eq_zero hlen
       rw [this]
       exact .cell _ _ (.emp _ _ _ _ _ (by simp))
      ·have had := h4 (.inl (by omega))
       subst had
       cases hc with
       | rd _ _ _ _ a c us hp hm => exact hm.elim
       | emp _ _ _ a c hm => exact absurd rfl hm
       | ownNil _ _ _ hl => rw [h1] at hl; simp at hl
       | own _ _ _ _ b' c' cur e us hl ho hb hnn hm hz hw hcc ht =>
        rw [h1] at hl
        simp only [Option.some.injEq, Prod.mk.injEq] at hl
        obtain ⟨rfl, rfl, rfl⟩ := hl
        have hcan : g0.canRd b := hL.lent b _ _ ho hi
        have hget : ∀ (i : Nat) (x : AV), (brwL ((es.drop off).take n))[i]? = some x → ∃ x0, es[off + i]? = some x0 ∧ x = brw x0 := by
         intro i x hx
         rw [brwL_eq] at hx
         obtain ⟨x0, hx0, rfl⟩ := get_map hx
         rw [List.getElem?_take] at hx0
         split at hx0
         ·rw [List.getElem?_drop] at hx0; exact ⟨x0, hx0, rfl⟩
         ·simp at hx0
        refine .cell _ _ ?_
        have key : Cell g0 w .bo (.row .bo sz' (brwL ((es.drop off).take n))) (.slice (some ⟨b, off * sz', none⟩) (brwL ((es.drop off).take n)).length c) := by
         refine .rd _ _ _ _ _ _ (fun j => us (off * sz' + j)) (by simp) hcan rfl (by omega) ?_ ?_ ?_
         ·intro i x hx
          obtain ⟨x0, hx0, rfl⟩ := hget i x hx
          rw [brw_width]; exact hw _ x0 hx0
         ·intro i k x y hx hy
          obtain ⟨x0, hx0, rfl⟩ := hget i x hx
          rw [brw_cells'] at hy
          obtain ⟨y0, hy0, rfl⟩ := get_map hy
          have := hcc (off + i) k x0 y0 hx0 hy0
          rw [Nat.add_mul, Nat.add_assoc] at this
          have e : ((⟨b, off * sz', none⟩ : Addr).add (i * sz' + k)) = (⟨b, 0, none⟩ : Addr).add (off * sz' + (i * sz' + k)) := by rw [add_lit, add_lit]; simp
          rw [e]
          exact cell?_own hb this
         ·intro i k x y hx hy
          obtain ⟨x0, hx0, rfl⟩ := hget i x hx
          rw [brw_cells'] at hy
          obtain ⟨y0, hy0, rfl⟩ := get_map hy
          have := (ht (off + i) k x0 y0 hx0 hy0).toBrw hL.rd (fun i' q' e b r ho' => by
           obtain ⟨rfl, rfl⟩ := Pl.at.inj e
           exact ⟨hL.lent b _ _ ho' hi, rfl⟩)
          rw [Nat.add_mul, Nat.add_assoc] at this
          exact this
        rw [hlen] at key
        exact key
     ·have : brwL ((es.drop 0).take 0) = [] := List.eq_nil_of_length_eq_zero hlen
      rw [this]
      exact .cell _ _ (.emp _ _ _ _ _ (by simp))
    ·simp at hy
   ·simp at hy
 induction h with
 | cell x v h =>
  intro y hy
  have h' := h.still hr (fun _ _ => by simp)
  cases h <;> (simp only [argA, Option.some.injEq] at hy; subst hy; exact .cell _ _ h')
 | nilS => intro y hy; simp only [argA, Option.some.injEq] at hy; subst hy; exact .nilS
 | nilP => intro y hy; simp only [argA, Option.some.injEq] at hy; subst hy; exact .nilP
 | agg cs vs hl h ih =>
  intro y hy
  simp only [argA, Option.map_eq_some_iff] at hy
  obtain ⟨l, hl', rfl⟩ := hy
  obtain ⟨i1, i2⟩ := argAL_get s ps hl'
  exact .agg _ _ (by omega) (fun k c u hc hu => by obtain ⟨x, h1, h2⟩ := i2 k c hc; exact ih k x u h1 hu c h2)
 | tup cs vs hl h ih =>
  intro y hy
  simp only [argA, Option.map_eq_some_iff] at hy
  obtain ⟨l, hl', rfl⟩ := hy
  obtain ⟨i1, i2⟩ := argAL_get s ps hl'
  exact .tup _ _ (by omega) (fun k c u hc hu => by obtain ⟨x, h1, h2⟩ := i2 k c hc; exact ih k x u h1 hu c h2)
 | fn f' cs vs hl h ih =>
  intro y hy
  simp only [argA, Option.map_eq_some_iff] at hy
  obtain ⟨l, hl', rfl⟩ := hy
  obtain ⟨i1, i2⟩ := argAL_get s ps hl'
  exact .fn _ _ _ (by omega) (fun k c u hc hu => by obtain ⟨x, h1, h2⟩ := i2 k c hc; exact ih k x u h1 hu c h2)
 | hd i q b c n h1 => exact hdc i q _ (.hd i q b c n h1)
 | hdNil i q h1 => exact hdc i q _ (.hdNil i q h1)
 | ref i q sz off n b cap len c a h1 hc hn ha => exact hrf i q sz off n _ (.ref i q sz off n b cap len c a h1 hc hn ha)
 | refNil i q sz h1 => exact hrf i q sz 0 0 _ (.refNil i q sz h1)
 | ptr i q sz j k b cap len h1 =>
  intro y hy
  simp only [argA] at hy
  split at hy
  ·rename_i i' hi
   obtain rfl := Option.some.inj hy
   exact .ptr _ _ _ _ _ b cap len ((hL.loc i i' q hi).trans h1)
  ·rename_i hi
   split at hy
   ·rename_i sz' es hn
    split at hy
    ·rename_i x hx
     split at hy
     ·rename_i e; subst e
      obtain rfl := Option.some.inj hy
      obtain ⟨v', hc⟩ := hs.node hn
      cases hc with
      | rd _ _ _ _ a c us hp hm => exact hm.elim
      | emp _ _ _ a c hm => exact absurd rfl hm
      | ownNil _ _ _ hl => rw [h1] at hl; simp at hl
      | own _ _ _ _ b' c' cur e us hl ho hb hnn hm hz hw hcc ht =>
       rw [h1] at hl
       simp only [Option.some.injEq, Prod.mk.injEq] at hl
       obtain ⟨rfl, rfl, rfl⟩ := hl
       have hcan : g0.canRd b := hL.lent b _ _ ho hi
       have hget : ∀ (m : Nat) (y : AV), ((brwL x.cells).drop k)[m]? = some y → ∃ y0, x.cells[k + m]? = some y0 ∧ y = brw y0 := by
        intro m y hy
        rw [List.getElem?_drop, brwL_eq] at hy
        exact get_map hy
       refine .rp _ _ _ (fun m => us (j * sz' + k + m)) hcan rfl ?_ ?_
       ·intro m y hy
        obtain ⟨y0, h2, rfl⟩ := hget m y hy
        have := hcc j (k + m) x y0 hx h2
        have e : ((⟨b, j * sz' + k, none⟩ : Addr).add m) = (⟨b, 0, none⟩ : Addr).add (j * sz' + (k + m)) := by rw [add_lit, add_lit]; congr 1; omega
        rw [e, cell?_own hb this]
        congr 2; omega
       ·intro m y hy
        obtain ⟨y0, h2, rfl⟩ := hget m y hy
        have := (ht j (k + m) x y0 hx h2).toBrw hL.rd (fun i' q' e b r ho' => by
         obtain ⟨rfl, rfl⟩ := Pl.at.inj e
         exact ⟨hL.lent b _ _ ho' hi, rfl⟩)
        rw [← Nat.add_assoc] at this
        exact this
     ·simp at hy
    ·simp at hy
   ·simp at hy
 | rp m cs a us hm hs' hc ht =>
  intro y hy
  simp only [argA, Option.some.injEq] at hy
  subst hy
  exact .rp _ _ _ us (hr.rd hm).1 hs' (fun k y hy => hc k y hy) (fun k y hy => (ht k y hy).still hr (by intro id q; cases m <;> simp [Md.pl]))
 | vp cs a us hm hs' hc ht ih => intro y hy; simp [argA] at hy
 | dead v => intro y hy; simp only [argA, Option.some.injEq] at hy; subst hy; exact .dead _
end Go.Proofs.YtiilnlihimdnlaaGreatDoorFw
/- A call out of the caller's state, and back. -/
namespace Go.Proofs.YtiilnlihimdnlaaGreatDoorFw
open Go Go.RowKit
set_option linter.unusedVariables false
def passL (objs : List Obj) : List Nat → Option (List (Nat × List AV))
 | [] => some []
 | i :: r =>
  match lookO objs i, passL objs r with
  | some p, some l => some (p :: l)
  | _, _ => none
theorem passL_get {objs : List Obj} : ∀ {ps : List Nat} {os : List (Nat × List AV)}, passL objs ps = some os → os.length = ps.length ∧
 ∀ (i : Nat) (p : Nat × List AV), os[i]? = some p → ∃ id, ps[i]? = some id ∧ lookO objs id = some p
 | [], os, h => by simp only [passL, Option.some.injEq] at h; subst h; exact ⟨rfl, fun i p h => by simp at h⟩
 | x :: r, os, h => by
  simp only [passL] at h
  split at h
  ·rename_i p l h1 h2
   obtain rfl := Option.some.inj h
   obtain ⟨i1, i2⟩ := passL_get h2
   refine ⟨by simp [i1], ?_⟩
   intro i p' hi
   cases i with
   | zero => simp at hi; subst hi; exact ⟨x, rfl, h1⟩
   | succ i => obtain ⟨id, h3, h4⟩ := i2 i p' (by simpa using hi); exact ⟨id, by simpa using h3, h4⟩
  ·simp at h
def setOL : List Obj → List Nat → List (Nat × List AV) → List Obj
 | objs, i :: r, p :: l => setO (setOL objs r l) i p.1 p.2
 | objs, _, _ => objs
theorem lookO_setOL : ∀ (ps : List Nat) (os : List (Nat × List AV)) (objs : List Obj) (id : Nat), os.length = ps.length →
 lookO (setOL objs ps os) id = match posL ps id with | some i => os[i]? | none => lookO objs id
 | [], [], objs, id, _ => rfl
 | x :: r, p :: l, objs, id, h => by
  simp only [setOL, lookO_setO, posL]
  by_cases e : x = id
  ·simp [e]
  ·rw [if_neg e, if_neg e, lookO_setOL r l objs id (by simpa using h)]
   cases hp : posL r id <;> simp
def backF (st : Bool) (ps : List Nat) (rid m : Nat) : Nat → Path → Option (Nat × Path) := fun id q =>
 if rid ≤ id ∧ id < rid + m then none
 else
  match posL ps id with
  | some _ => if st = true then some (id, q) else (match q with | [] => some (id, []) | _ => none)
  | none => some (id, q)
def backR (ps : List Nat) (rid : Nat) : Nat → Path → Option (Nat × Path) := fun id q =>
 match ps[id]? with
 | some j => some (j, q)
 | none => if 100 ≤ id then some (rid + (id - 100), q) else none
def setRL : List Obj → Nat → List (Nat × List AV) → List Obj
 | objs, _, [] => objs
 | objs, rid, p :: l => setO (setRL objs (rid + 1) l) rid p.1 p.2
theorem lookO_setRL : ∀ (l : List (Nat × List AV)) (objs : List Obj) (rid id : Nat),
 lookO (setRL objs rid l) id = if rid ≤ id ∧ id < rid + l.length then l[id - rid]? else lookO objs id
 | [], objs, rid, id => by
  simp only [setRL, List.length_nil, Nat.add_zero]
  rw [if_neg (by omega)]
 | p :: l, objs, rid, id => by
  simp only [setRL, lookO_setO, lookO_setRL l]
  by_cases e : rid = id
  ·subst e
   rw [if_pos rfl, if_pos (by simp)]
   simp
  ·rw [if_neg e]
   by_cases h : rid + 1 ≤ id ∧ id < rid + 1 + l.length
   ·rw [if_pos h, if_pos (by simp only [List.length_cons]; omega)]
    have : id - rid = (id - (rid + 1)) + 1 := by omega
    rw [this, List.getElem?_cons_succ]
   ·rw [if_neg h, if_neg (by simp only [List.length_cons]; omega)]
def St.back (s : St) (st : Bool) (ps : List Nat) (os ros : List (Nat × List AV)) (d : Option Nat) (r : AV) (rid : Nat) : St :=
 ({ s with slots := mapS (backF st ps rid ros.length) s.slots, objs := setRL (setOL s.objs ps os) rid ros } : St).put d (mapRef (backR ps rid) r)
def gCall (g : Gh) (ps : List Nat) (st : Bool) : Gh where
 loc := fun i q => match ps[i]? with | some id => g.loc id q | none => none
 own := fun b => match g.own b with | some (id, q) => (posL ps id).map (fun i => (i, q)) | none => none
 perm := g.perm
 bor := fun b => g.bor b ∨ ∃ id q, g.own b = some (id, q) ∧ posL ps id = none
 st := st
def gBack (g g1 : Gh) (ps : List Nat) (rid m : Nat) : Gh where
 loc := fun id q => if rid ≤ id ∧ id < rid + m then g1.loc (100 + (id - rid)) q else match posL ps id with | some i => g1.loc i q | none => g.loc id q
 own := fun b =>
  match g1.own b with
  | some (i, q) => (match ps[i]? with | some id => some (id, q) | none => if 100 ≤ i ∧ i < 100 + m then some (rid + (i - 100), q) else none)
  | none => match g.own b with | some (id, q) => if (posL ps id).isSome ∨ (rid ≤ id ∧ id < rid + m) then none else some (id, q) | none => none
 perm := g1.perm
 bor := g.bor
 st := g.st
theorem gCall_lends {objs : List Obj} {w : World} {g : Gh} (h : HSim objs w g) (ps : List Nat) (st : Bool) : Lends g w ps (gCall g ps st) where
 rd := ⟨fun b hb => ⟨hb, rfl⟩, fun b hb => ⟨.inr (.inl hb), rfl⟩⟩
 lent := fun b id q ho hp => .inr (.inr ⟨id, q, ho, hp⟩)
 loc := fun id i q hp => by simp only [gCall, posL_some hp]
theorem gCall_own {g : Gh} {ps : List Nat} {st : Bool} {b : Nat} {p : Nat × Path} (h : (gCall g ps st).own b = some p) : ∃ id, g.own b = some (id, p.2) ∧ posL ps id = some p.1 := by
 simp only [gCall] at h
 cases ho : g.own b with
 | none => simp [ho] at h
 | some jq =>
  obtain ⟨id, q⟩ := jq
  rw [ho] at h
  simp only [Option.map_eq_some_iff] at h
  obtain ⟨i, hi, rfl⟩ := h
  exact ⟨id, rfl, hi⟩
def apartL : List Nat → Nat → Bool
 | [], _ => true
 | i :: r, rid => (decide (i < rid) || decide (rid + 64 ≤ i)) && apartL r rid
theorem apartL_ok : ∀ {ps : List Nat} {rid : Nat}, apartL ps rid = true → ∀ {id i : Nat}, posL ps id = some i → id < rid ∨ rid + 64 ≤ id
 | [], _, _, _, _, h => by simp [posL] at h
 | x :: r, rid, h, id, i, hp => by
  simp only [apartL, Bool.and_eq_true, Bool.or_eq_true, decide_eq_true_eq] at h
  simp only [posL] at hp
  split at hp
  ·rename_i e; subst e; exact h.1
  ·cases hq : posL r id with
   | none => simp [hq] at hp
   | some j => exact apartL_ok h.2 hq
def all16 : List Nat → Bool
 | [] => true
 | i :: r => decide (16 ≤ i) && all16 r
theorem all16_ok : ∀ {ps : List Nat}, all16 ps = true → ∀ {id i : Nat}, posL ps id = some i → 16 ≤ id
 | [], _, _, _, h => by simp [posL] at h
 | x :: r, h, id, i, hp => by
  simp only [all16, Bool.and_eq_true, decide_eq_true_eq] at h
  simp only [posL] at hp
  split at hp
  ·rename_i e; subst e; exact h.1
  ·cases hq : posL r id with
   | none => simp [hq] at hp
   | some j => exact all16_ok h.2 hq
theorem callA_ok {P : Program} {s : St} {a : Act} {w : World} {g : Gh} (hs : Sim s a w g) {f : FuncId} {st : Bool} {xs ys : List AV} {os : List (Nat × List AV)} {ps : List Nat} {R : AV → List (Nat × List AV) → List (Nat × List AV) → Prop}
 (hc : CallsA P f st ys os R) (hn : ps.Nodup) (hl : ps.length ≤ 16) (hp : passL s.objs ps = some os) (hy : argAL s ps xs = some ys) {vs : Array Value}
 (hvl : vs.size = xs.length) (hv : ∀ (k : Nat) (x : AV) (u : Value), xs[k]? = some x → vs[k]? = some u → Val g w x u) {d : Option Nat} (hd : s.fits d = true) {rid : Nat} (hr16 : 16 ≤ rid)
 (hrp : apartL ps rid = true) (hst : s.st = false ∨ st = true ∨ all16 ps = true) :
 Calls P f vs w fun e w' => ∃ v r os' ros g', e = .returned v ∧ R r os' ros ∧ os'.length = os.length ∧ Keep g w g' w' ∧ Sim (s.back st ps os' ros d r rid) (a.put d v) w' g' := by
 have hL := gCall_lends hs.h ps st
 obtain ⟨hyl, hyg⟩ := argAL_get s ps hy
 obtain ⟨hol, hog⟩ := passL_get hp
 have hown0 : ∀ b, g.own b = none → (gCall g ps st).own b = none := fun b hb => by simp [gCall, hb]
 have h := hc vs w (gCall g ps st) rfl (by omega) (fun k y u h1 h2 => by
  obtain ⟨x, h3, h4⟩ := hyg k y h1
  exact argA_ok hs hL (hv k x u h3 h2) y h4)
  (fun b p hb => by
    obtain ⟨id, ho, hi⟩ := gCall_own hb
    have := hs.h.sep b _ ho
    refine ⟨this.1, ?_, this.2.2⟩
    rintro (h1 | ⟨id', q', h1, h2⟩)
    ·exact this.2.1 h1
    ·rw [ho] at h1
     simp only [Option.some.injEq, Prod.mk.injEq] at h1
     rw [← h1.1, hi] at h2
     simp at h2)
  ⟨fun b hb => by
   rcases hb with hb | hb | ⟨id, q, hb, _⟩
   ·exact hs.h.rdlt b (.inl hb)
   ·exact hs.h.rdlt b (.inr hb)
   ·exact (hs.h.sep b _ hb).2.2, hs.h.rdlt.gl, hs.h.rdlt.ge⟩
  (fun i sz es hi => by
    obtain ⟨id, h1, h2⟩ := hog i _ hi
    obtain ⟨v, hv⟩ := hs.h.obj id sz es h2
    have hpi := posL_get hn h1
    exact ⟨v, hv.move hL.rd id [] i [] rfl (fun b r hb => ⟨rfl, by simp only [gCall, hb, hpi]; rfl⟩) (fun r => by simp only [gCall, h1])⟩)
 refine h.mono ?_
 rintro e w1 ⟨v, r, os', ros, g1, rfl, hR, hK, hol', hr64, hsep, hrdlt, hobj, hros, hcl, hval⟩
 have hg1 : ∀ b, b < w.heap.size → (gCall g ps st).own b = none → w1.heap[b]? = w.heap[b]? ∧ g1.own b = none := hK.old
 have hnps : ∀ b id q, g.own b = some (id, q) → posL ps id = none → (gCall g ps st).own b = none := fun b id q ho hi => by simp [gCall, ho, hi]
 have hnown : ∀ b, (g.perm b ∨ g.bor b) → g.own b = none := fun b hb => by
  cases ho : g.own b with
  | none => rfl
  | some p =>
   have := hs.h.sep b p ho
   rcases hb with hb | hb
   ·exact absurd hb this.1
   ·exact absurd hb this.2.1
 have hrd : RdKeep g w (gBack g g1 ps rid ros.length) w1 :=
  ⟨fun b hb => ⟨hK.perm b hb, (hg1 b (hs.h.rdlt b (.inl hb)) (hown0 b (hnown b (.inl hb)))).1⟩, fun b hb => ⟨.inr hb, (hg1 b (hs.h.rdlt b (.inr hb)) (hown0 b (hnown b (.inr hb)))).1⟩⟩
 have hpk : PermKeep g1 w1 (gBack g g1 ps rid ros.length) w1 := fun b hb => ⟨hb, rfl⟩
 have hroot : ∀ id i q, posL ps id = some i → (q = [] ∨ st = true) → g1.loc i q = g.loc id q := fun id i q hi hq => by
  have hlt : i < 16 := by have := lt_of_get (posL_some hi); omega
  rw [hK.root i q hlt hq]
  exact hL.loc id i q hi
 have hin : ∀ {id i : Nat}, posL ps id = some i → ¬ (rid ≤ id ∧ id < rid + ros.length) := fun hi h => by
  rcases apartL_ok hrp hi with h1 | h1 <;> omega
 have hK2 : Keep g w (gBack g g1 ps rid ros.length) w1 := by
  refine ⟨hK.os, hK.tape, hK.output, hK.size, ?_, hK.perm, ?_, fun b => Iff.rfl, ?_, rfl⟩
  ·intro b hb ho
   obtain ⟨h1, h2⟩ := hg1 b hb (hown0 b ho)
   exact ⟨h1, by simp only [gBack, h2, ho]⟩
  ·intro b hb h1
   rcases hK.permo b hb h1 with h2 | h2
   ·exact .inl h2
   ·obtain ⟨p, hp⟩ := Option.isSome_iff_exists.1 h2
    obtain ⟨id, ho, _⟩ := gCall_own hp
    exact .inr (by rw [ho]; rfl)
  ·intro id q hid hq
   simp only [gBack]
   rw [if_neg (by omega)]
   cases hi : posL ps id with
   | none => rfl
   | some i =>
    refine hroot id i q hi ?_
    rcases hq with hq | hq
    ·exact .inl hq
    ·rcases hst with h1 | h1 | h1
     ·rw [← hs.st, h1] at hq; simp at hq
     ·exact .inr h1
     ·have := all16_ok h1 hi; omega
 have hmoveR : ∀ i, i < ros.length → rid ≤ rid + i ∧ rid + i < rid + ros.length := fun i hi => by omega
 have hobjs : ∀ id sz es, lookO (setRL (setOL s.objs ps os') rid ros) id = some (sz, es) → ∃ v, Cell (gBack g g1 ps rid ros.length) w1 (.at id []) (.row .own sz es) v := by
  intro id sz es hlo
  rw [lookO_setRL] at hlo
  by_cases hR1 : rid ≤ id ∧ id < rid + ros.length
  ·rw [if_pos hR1] at hlo
   obtain ⟨hnb, v', hv'⟩ := hros (id - rid) sz es hlo
   refine ⟨v', (hv'.moveN hpk (by simpa [noBo] using hnb)).2 (100 + (id - rid)) [] id [] rfl ?_ ?_⟩
   ·intro b r hb
    refine ⟨rfl, ?_⟩
    simp only [gBack, hb]
    rw [show ps[100 + (id - rid)]? = none from List.getElem?_eq_none (by omega)]
    simp only [List.nil_append]
    rw [if_pos (by omega)]
    congr 2
    omega
   ·intro r
    simp only [gBack, if_pos hR1, List.nil_append]
  ·rw [if_neg hR1, lookO_setOL ps os' _ id (by omega)] at hlo
   cases hi : posL ps id with
   | some i =>
    rw [hi] at hlo
    obtain ⟨hnb, v', hv'⟩ := hobj i sz es hlo
    refine ⟨v', ((hv'.moveN hpk (by simpa [noBo] using hnb)).2 i [] id [] rfl ?_ ?_)⟩
    ·intro b r hb
     exact ⟨rfl, by simp only [gBack, hb, posL_some hi]⟩
    ·intro r
     simp only [gBack, if_neg hR1, hi]
   | none =>
    rw [hi] at hlo
    obtain ⟨v', hv'⟩ := hs.h.obj id sz es hlo
    refine ⟨v', hv'.stay hrd ?_ ?_⟩
    ·intro b r hb
     obtain ⟨h1, h2⟩ := hg1 b (hs.h.sep b _ hb).2.2 (hnps b _ _ hb hi)
     exact ⟨h1, by simp only [gBack, h2, hb, hi]; simp [hR1]⟩
    ·intro r
     simp only [gBack, if_neg hR1, hi]
 have hsep2 : ∀ b p, (gBack g g1 ps rid ros.length).own b = some p → ¬ (gBack g g1 ps rid ros.length).perm b ∧ ¬ (gBack g g1 ps rid ros.length).bor b ∧ b < w1.heap.size := by
  intro b p hb
  simp only [gBack] at hb ⊢
  cases h1 : g1.own b with
  | some iq =>
   have := hsep b iq h1
   exact ⟨this.1, fun h2 => this.2.1 ((hK.bor b).2 (.inl h2)), this.2.2⟩
  | none =>
   rw [h1] at hb
   simp only at hb
   cases h2 : g.own b with
   | none => rw [h2] at hb; simp at hb
   | some jq =>
    obtain ⟨id, q⟩ := jq
    rw [h2] at hb
    simp only at hb
    split at hb
    ·simp at hb
    ·rename_i hcond
     have hs2 := hs.h.sep b _ h2
     have hpn : posL ps id = none := by
      cases hpi : posL ps id with
      | none => rfl
      | some i => exact absurd (.inl (by rw [hpi]; rfl)) hcond
     refine ⟨?_, hs2.2.1, Nat.lt_of_lt_of_le hs2.2.2 hK.size⟩
     intro h3
     rcases hK.permo b hs2.2.2 h3 with h4 | h4
     ·exact hs2.1 h4
     ·rw [hnps b id q h2 hpn] at h4; simp at h4
 have hrdlt2 : ∀ b, (gBack g g1 ps rid ros.length).canRd b → b < w1.heap.size := by
  intro b hb
  rcases hb with hb | hb
  ·exact hrdlt b (.inl hb)
  ·exact Nat.lt_of_lt_of_le (hs.h.rdlt b (.inr hb)) hK.size
 have hF : ∀ id q id' q', backF st ps rid ros.length id q = some (id', q') → (gBack g g1 ps rid ros.length).loc id' q' = g.loc id q := by
  intro id q id' q' hf
  simp only [backF] at hf
  split at hf
  ·simp at hf
  ·rename_i hne
   cases hi : posL ps id with
   | some i =>
    rw [hi] at hf
    simp only at hf
    split at hf
    ·rename_i hst1
     simp only [Option.some.injEq, Prod.mk.injEq] at hf
     obtain ⟨rfl, rfl⟩ := hf
     simp only [gBack, if_neg hne, hi]
     exact hroot _ _ _ hi (.inr hst1)
    ·split at hf
     ·simp only [Option.some.injEq, Prod.mk.injEq] at hf
      obtain ⟨rfl, rfl⟩ := hf
      simp only [gBack, if_neg hne, hi]
      exact hroot _ _ _ hi (.inl rfl)
     ·simp at hf
   | none =>
    rw [hi] at hf
    simp only [Option.some.injEq, Prod.mk.injEq] at hf
    obtain ⟨rfl, rfl⟩ := hf
    simp only [gBack, if_neg hne, hi]
 have hval2 : Val (gBack g g1 ps rid ros.length) w1 (mapRef (backR ps rid) r) v := by
  refine hval.backTo hpk ?_ hcl
  intro id q hok
  simp only [okRef, Bool.or_eq_true, Bool.and_eq_true, decide_eq_true_eq] at hok
  simp only [backR]
  rcases hok with hok | ⟨hok1, hok2⟩
  ·have hlt : id < ps.length := by omega
   obtain ⟨j, hj⟩ : ∃ j, ps[id]? = some j := ⟨ps[id], List.getElem?_eq_getElem hlt⟩
   refine ⟨j, by rw [hj], ?_⟩
   have hpj := posL_get hn hj
   simp only [gBack, if_neg (hin hpj), hpj]
  ·rw [show ps[id]? = none from List.getElem?_eq_none (by omega)]
   refine ⟨rid + (id - 100), by simp only; rw [if_pos hok1], ?_⟩
   simp only [gBack]
   rw [if_pos (by omega)]
   congr 1
   omega
 have hH : HSim (setRL (setOL s.objs ps os') rid ros) w1 (gBack g g1 ps rid ros.length) := ⟨hobjs, hsep2, hs.h.rdlt.move hrd hrdlt2⟩
 refine ⟨v, r, os', ros, _, rfl, hR, hol', hK2, ?_⟩
 exact (hs.turn hrd hF hH).put (d := d) hd hval2
end Go.Proofs.YtiilnlihimdnlaaGreatDoorFw
/- One operation on the abstract state. -/
namespace Go.Proofs.YtiilnlihimdnlaaGreatDoorFw
open Go Go.RowKit
set_option linter.unusedVariables false
def idOf : Option Nat → Nat
 | some d => (d + 1) * 256
 | none => 128
theorem idOf_le (d : Option Nat) : 16 ≤ idOf d := by cases d <;> simp [idOf]; omega
def tiFields (T : Tab) (t : TypeId) : Bool :=
 match T t with
 | some ti => (match ti.k with | .struct fs => fieldsTold T fs | _ => true)
 | none => false
def sAssign (T : Tab) (s : St) (d : Option Nat) (t : TypeId) (y : AV) : St :=
 match y, d with
 | .nilS, some d =>
  (match elemOf' T t with
   | some ei => s.newO d (idOf (some d)) ei.sz [] (.hd (idOf (some d)) [])
   | none => s.put (some d) .nilS)
 | y, d => s.put d y
theorem sAssign_ok {T : Tab} {s : St} {d : Option Nat} {t : TypeId} {y : AV} (hd : s.fits d = true) {a : Act} {w : World} {g : Gh} (hs : Sim s a w g) {v : Value} (hv : Val g w y v) :
 ∃ g', Sim (sAssign T s d t y) (a.put d v) w g' ∧ Keep g w g' w := by
 unfold sAssign
 split
 ·rename_i d
  have : v = .slice none 0 0 := by
   cases hv with
   | cell _ _ h => cases h
   | nilS => rfl
  subst this
  split
  ·rename_i ei _
   exact hs.newNil d _ ei.sz (idOf_le _) hd
  ·exact ⟨g, hs.put hd hv, Keep.refl g w⟩
 ·exact ⟨g, hs.put hd hv, Keep.refl g w⟩
def mx (x y : AV) : Option AV :=
 match x, y with
 | .int k a, .int _ b => some (.int k (if b > a then b else a))
 | _, _ => none
def mn (x y : AV) : Option AV :=
 match x, y with
 | .int k a, .int _ b => some (.int k (if b < a then b else a))
 | _, _ => none
def aBuiltin (T : Tab) (o : Oper) (b : Builtin) (c : Call) (s : St) : Option (Prop × St) :=
 match b, c.args.toList, c.argTypes.toList with
 | .len, [x], [t] => (match s.ev x with | some x => (vLenB T s t x).map fun y => (True, s.put o.dst y) | none => none)
 | .append, [x, y], [t1, t2] =>
  (match s.ev x, s.ev y, o.dst with
   | some x, some y, some d => sAppend T s d (match x with | .hd i [] => i | _ => idOf o.dst) t1 t2 x y
   | _, _, _ => none)
 | .max, [x, y], _ => (match s.ev x, s.ev y with | some x, some y => (mx x y).map fun z => (True, s.put o.dst z) | _, _ => none)
 | .min, [x, y], _ => (match s.ev x, s.ev y with | some x, some y => (mn x y).map fun z => (True, s.put o.dst z) | _, _ => none)
 | _, _, _ => none
def evO (s : St) : Option Operand → Option (Option AV)
 | none => some none
 | some x => (s.ev x).map some
def aop (T : Tab) (o : Oper) (s : St) : Option (Prop × St) :=
 if s.fits o.dst = false then none
 else
  match o.op with
  | .move x => (s.ev x).map fun y => (True, s.put o.dst y)
  | .assign x => (s.ev x).map fun y => (True, sAssign T s o.dst o.type y)
  | .alloc t => (match o.dst with | some d => (sAlloc T s d (idOf (some d)) t).map fun s' => (True, s') | none => none)
  | .box t x => (match o.dst, s.ev x with | some d, some y => (sBox T s d (idOf (some d)) t y).map fun s' => (True, s') | _, _ => none)
  | .build t ps => if tiFields T t = true then (vBuild T s t ps.toList).map fun y => (True, s.put o.dst y) else none
  | .buildSlice t n ps => (match o.dst with | some d => (sBuildSl T s d (idOf (some d)) t n ps.toList).map fun s' => (True, s') | none => none)
  | .load t x => (match s.ev x with | some x => (vLoad T s t x).map fun y => (True, s.put o.dst y) | none => none)
  | .store t x y => (match o.dst, s.ev x, s.ev y with | none, some x, some y => (sStore T s t x y).map fun s' => (True, s') | _, _, _ => none)
  | .nilCheck x => (match s.ev x with | some x => (vNilCheck x).map fun y => (True, s.put o.dst y) | none => none)
  | .binOp op t x y _ => (match s.ev x, s.ev y with | some x, some y => (abin T t op x y).map fun p => (p.1, s.put o.dst p.2) | _, _ => none)
  | .unOp op _ x => (match s.ev x with | some x => (vUn op x).map fun y => (True, s.put o.dst y) | none => none)
  | .convert t u x => (match s.ev x with | some x => (vConv T t u x).map fun y => (True, s.put o.dst y) | none => none)
  | .makeSlice t x y => (match o.dst, s.ev x, s.ev y with | some d, some x, some y => sMake T s d (idOf (some d)) t x y | _, _, _ => none)
  | .slice t x lo hi none => (match s.ev x, evO s lo, evO s hi with | some x, some lo, some hi => (vSlice T s t x lo hi).map fun p => (p.1, s.put o.dst p.2) | _, _, _ => none)
  | .fieldAddr t x f => (match s.ev x with | some x => (vFieldAddr T t x f).map fun y => (True, s.put o.dst y) | none => none)
  | .field t x f => (match s.ev x with | some x => (vField T t x f).map fun y => (True, s.put o.dst y) | none => none)
  | .indexAddr t x i => (match s.ev x, s.ev i with | some x, some i => (vIndexAddr T s t x i).map fun p => (p.1, s.put o.dst p.2) | _, _ => none)
  | .index t x i => (match s.ev x, s.ev i with | some x, some i => (vIndex T t x i).map fun p => (p.1, s.put o.dst p.2) | _, _ => none)
  | .extract x i => (match s.ev x with | some x => (vExtract x i).map fun y => (True, s.put o.dst y) | none => none)
  | .call c => (match c.callee with | .builtin b => aBuiltin T o b c s | _ => none)
  | _ => none
theorem exec_v {P : Program} {ρ : Operand → Value} {o : Oper} {m : Sem Value} {w w' : World} {r : Value} (h : execOp ρ o = (do let v ← m; pure (.value v))) (hr : m.run P w = .ok r w') : (execOp ρ o).run P w = .ok (.value r) w' := by
 rw [h]; simp only [Sem.run_bind, hr, Result.andThen_ok, Sem.run_pure]
theorem exec_u {P : Program} {ρ : Operand → Value} {o : Oper} {m : Sem Unit} {w w' : World} (h : execOp ρ o = (do m; pure .skip)) (hr : m.run P w = .ok () w') : (execOp ρ o).run P w = .ok .skip w' := by
 rw [h]; simp only [Sem.run_bind, hr, Result.andThen_ok, Sem.run_pure]
theorem vNilCheck_ok {x y : AV} (h : vNilCheck x = some y) {g : Gh} {w : World} {v : Value} (hv : Val g w x v) : y = x ∧ ((∃ a, v = .pointer (some a)) ∨ ∃ f vs, v = .func (.func f) #[] vs) := by
 unfold vNilCheck at h
 split at h
 ·obtain rfl := Option.some.inj h
  obtain ⟨b, c, n, _, rfl⟩ := hv.ptr_inv
  exact ⟨rfl, .inl ⟨_, rfl⟩⟩
 ·obtain rfl := Option.some.inj h
  obtain ⟨a, us, rfl, _⟩ := hv.rp_inv
  exact ⟨rfl, .inl ⟨_, rfl⟩⟩
 ·obtain rfl := Option.some.inj h
  obtain ⟨a, us, rfl, _⟩ := hv.vp_inv
  exact ⟨rfl, .inl ⟨_, rfl⟩⟩
 ·obtain rfl := Option.some.inj h
  obtain ⟨vs, rfl, _⟩ := hv.fn_inv
  exact ⟨rfl, .inr ⟨_, _, rfl⟩⟩
 ·simp at h
theorem evO_ok {s : St} {a : Act} {w : World} {g : Gh} (hs : Sim s a w g) {x : Option Operand} {y : Option AV} (h : evO s x = some y) : (y = none ∧ x.map a.eval = none) ∨ ∃ z u, y = some z ∧ x.map a.eval = some u ∧ Val g w z u := by
 cases x with
 | none => simp only [evO, Option.some.injEq] at h; exact .inl ⟨h.symm, rfl⟩
 | some x =>
  simp only [evO, Option.map_eq_some_iff] at h
  obtain ⟨z, hz, rfl⟩ := h
  exact .inr ⟨z, _, rfl, rfl, hs.ev hz⟩
theorem mx_ok {P : Program} {x y z : AV} (h : mx x y = some z) {g : Gh} {w : World} {v u : Value} (hv : Val g w x v) (hu : Val g w y u) (ts : Array TypeId) (t : TypeId) : ∃ r, (Builtin.max_ ts t #[v, u]).run P w = .ok r w ∧ Val g w z r := by
 unfold mx at h
 split at h
 ·obtain rfl := Option.some.inj h
  obtain rfl := hv.int_inv
  obtain rfl := hu.int_inv
  exact ⟨_, by simp [Builtin.max_, Builtin.max2], Val.mkInt _ _ _ _⟩
 ·simp at h
theorem mn_ok {P : Program} {x y z : AV} (h : mn x y = some z) {g : Gh} {w : World} {v u : Value} (hv : Val g w x v) (hu : Val g w y u) (ts : Array TypeId) (t : TypeId) : ∃ r, (Builtin.min_ ts t #[v, u]).run P w = .ok r w ∧ Val g w z r := by
 unfold mn at h
 split at h
 ·obtain rfl := Option.some.inj h
  obtain rfl := hv.int_inv
  obtain rfl := hu.int_inv
  exact ⟨_, by simp [Builtin.min_, Builtin.min2], Val.mkInt _ _ _ _⟩
 ·simp at h
theorem aBuiltin_ok {P : Program} {T : Tab} (hT : TabOk P T) {o : Oper} {b : Builtin} {c : Call} {s s' : St} {p : Prop} (hop : o.op = .call c) (hcal : c.callee = .builtin b) (hd : s.fits o.dst = true)
 (h : aBuiltin T o b c s = some (p, s')) (hp : p) : StepOk P o s s' := by
 intro a w g hs
 have hexec : ∀ (m : Sem Value), (builtin b c.argTypes o.type (c.args.map fun | .const _ => true | _ => false) (c.args.map a.eval)) = (do let v ← m; pure (.value v)) → execOp a.eval o = (do let v ← m; pure (.value v)) := by
  intro m hm
  unfold execOp
  simp only [hop, resolve, hcal]
  simp only [pure_bind, invoke]
  exact hm
 unfold aBuiltin at h
 split at h
 ·rename_i x t hx ht
  split at h
  ·rename_i x' hx'
   simp only [Option.map_eq_some_iff, Prod.mk.injEq] at h
   obtain ⟨y, hy, rfl, rfl⟩ := h
   obtain ⟨r, hr, hval⟩ := vLenB_ok (P := P) (ty := o.type) hT hy hs (hs.ev hx')
   have e1 : c.args.map a.eval = #[a.eval x] := by apply Array.toList_inj.1; rw [Array.toList_map, hx]; rfl
   have e2 : c.argTypes = #[t] := by apply Array.toList_inj.1; rw [ht]
   refine ⟨_, _, w, g, exec_v (hexec (Builtin.len_ #[t] o.type #[a.eval x]) (by simp only [builtin, e1, e2])) hr, .inl ⟨_, rfl, rfl⟩, hs.put hd hval, Keep.refl g w⟩
  ·simp at h
 ·rename_i x y t1 t2 hx ht
  split at h
  ·rename_i x' y' d hx' hy' hdd
   have e1 : c.args.map a.eval = #[a.eval x, a.eval y] := by apply Array.toList_inj.1; rw [Array.toList_map, hx]; rfl
   have e2 : c.argTypes = #[t1, t2] := by apply Array.toList_inj.1; rw [ht]
   obtain ⟨r, w', g', hr, hsim, hk⟩ := sAppend_ok (P := P) (ty := o.type) hT h hp hs (hs.ev hx') (hs.ev hy')
   refine ⟨_, _, w', g', exec_v (hexec (Builtin.append_ #[t1, t2] o.type #[a.eval x, a.eval y]) (by simp only [builtin, e1, e2])) hr, .inl ⟨_, rfl, rfl⟩, by rw [hdd]; exact hsim, hk⟩
  ·simp at h
 ·rename_i x y hx
  split at h
  ·rename_i x' y' hx' hy'
   simp only [Option.map_eq_some_iff, Prod.mk.injEq] at h
   obtain ⟨z, hz, rfl, rfl⟩ := h
   have e1 : c.args.map a.eval = #[a.eval x, a.eval y] := by apply Array.toList_inj.1; rw [Array.toList_map, hx]; rfl
   obtain ⟨r, hr, hval⟩ := mx_ok (P := P) hz (hs.ev hx') (hs.ev hy') c.argTypes o.type
   exact ⟨_, _, w, g, exec_v (hexec (Builtin.max_ c.argTypes o.type #[a.eval x, a.eval y]) (by simp only [builtin, e1])) hr, .inl ⟨_, rfl, rfl⟩, hs.put hd hval, Keep.refl g w⟩
  ·simp at h
 ·rename_i x y hx
  split at h
  ·rename_i x' y' hx' hy'
   simp only [Option.map_eq_some_iff, Prod.mk.injEq] at h
   obtain ⟨z, hz, rfl, rfl⟩ := h
   have e1 : c.args.map a.eval = #[a.eval x, a.eval y] := by apply Array.toList_inj.1; rw [Array.toList_map, hx]; rfl
   obtain ⟨r, hr, hval⟩ := mn_ok (P := P) hz (hs.ev hx') (hs.ev hy') c.argTypes o.type
   exact ⟨_, _, w, g, exec_v (hexec (Builtin.min_ c.argTypes o.type #[a.eval x, a.eval y]) (by simp only [builtin, e1])) hr, .inl ⟨_, rfl, rfl⟩, hs.put hd hval, Keep.refl g w⟩
  ·simp at h
 ·simp at h
end Go.Proofs.YtiilnlihimdnlaaGreatDoorFw
/- Each operation of the machine does what the abstract state tells. -/
namespace Go.Proofs.YtiilnlihimdnlaaGreatDoorFw
open Go Go.RowKit
set_option linter.unusedVariables false
theorem aop_ok {P : Program} {T : Tab} (hT : TabOk P T) {o : Oper} {s s' : St} {p : Prop} (h : aop T o s = some (p, s')) (hp : p) : StepOk P o s s' := by
 unfold aop at h
 split at h
 ·simp at h
 rename_i hfits
 have hd : s.fits o.dst = true := by simpa using hfits
 split at h
 ·rename_i x hop -- move
  simp only [Option.map_eq_some_iff, Prod.mk.injEq] at h
  obtain ⟨y, hy, rfl, rfl⟩ := h
  exact fun a w g hs => ⟨_, _, w, g, by unfold execOp; simp only [hop, Sem.run_pure], .inl ⟨_, rfl, rfl⟩, hs.put hd (hs.ev hy), Keep.refl g w⟩
 ·rename_i x hop -- assign
  simp only [Option.map_eq_some_iff, Prod.mk.injEq] at h
  obtain ⟨y, hy, rfl, rfl⟩ := h
  intro a w g hs
  obtain ⟨g', h1, h2⟩ := sAssign_ok (T := T) (t := o.type) hd hs (hs.ev hy)
  exact ⟨_, _, w, g', by unfold execOp; simp only [hop, Sem.run_pure], .inl ⟨_, rfl, rfl⟩, h1, h2⟩
 ·rename_i t hop -- alloc
  split at h
  ·rename_i d hdd
   simp only [Option.map_eq_some_iff, Prod.mk.injEq] at h
   obtain ⟨s1, hs1, rfl, rfl⟩ := h
   intro a w g hs
   obtain ⟨r, w', g', hr, h1, h2⟩ := sAlloc_ok hT hs1 hs
   exact ⟨_, _, w', g', exec_v (by unfold execOp; simp only [hop]) hr, .inl ⟨_, rfl, rfl⟩, by rw [hdd]; exact h1, h2⟩
  ·simp at h
 ·rename_i t x hop -- box
  split at h
  ·rename_i d y hdd hy
   simp only [Option.map_eq_some_iff, Prod.mk.injEq] at h
   obtain ⟨s1, hs1, rfl, rfl⟩ := h
   intro a w g hs
   obtain ⟨r, w', g', hr, h1, h2⟩ := sBox_ok (P := P) hT hs1 hs (hs.ev hy)
   exact ⟨_, _, w', g', exec_v (by unfold execOp; simp only [hop]) hr, .inl ⟨_, rfl, rfl⟩, by rw [hdd]; exact h1, h2⟩
  ·simp at h
 ·rename_i t ps hop -- build
  split at h
  ·rename_i htf
   simp only [Option.map_eq_some_iff, Prod.mk.injEq] at h
   obtain ⟨y, hy, rfl, rfl⟩ := h
   intro a w g hs
   obtain ⟨r, hr, hval⟩ := vBuild_ok (P := P) hT hy (fun ti fs h1 h2 => by
    unfold tiFields at htf
    rw [h1] at htf
    simp only [h2] at htf
    exact htf) hs
   exact ⟨_, _, w, g, exec_v (by unfold execOp; simp only [hop]) hr, .inl ⟨_, rfl, rfl⟩, hs.put hd hval, Keep.refl g w⟩
  ·simp at h
 ·rename_i t n ps hop -- buildSlice
  split at h
  ·rename_i d hdd
   simp only [Option.map_eq_some_iff, Prod.mk.injEq] at h
   obtain ⟨s1, hs1, rfl, rfl⟩ := h
   intro a w g hs
   obtain ⟨r, w', g', hr, h1, h2⟩ := sBuildSl_ok hT hs1 hs
   exact ⟨_, _, w', g', exec_v (by unfold execOp; simp only [hop]) hr, .inl ⟨_, rfl, rfl⟩, by rw [hdd]; exact h1, h2⟩
  ·simp at h
 ·rename_i t x hop -- load
  split at h
  ·rename_i x' hx'
   simp only [Option.map_eq_some_iff, Prod.mk.injEq] at h
   obtain ⟨y, hy, rfl, rfl⟩ := h
   intro a w g hs
   obtain ⟨r, hr, hval⟩ := vLoad_ok hT hy hs (hs.ev hx')
   exact ⟨_, _, w, g, exec_v (by unfold execOp; simp only [hop]) hr, .inl ⟨_, rfl, rfl⟩, hs.put hd hval, Keep.refl g w⟩
  ·simp at h
 ·rename_i t x y hop -- store
  split at h
  ·rename_i x' y' hdd hx' hy'
   simp only [Option.map_eq_some_iff, Prod.mk.injEq] at h
   obtain ⟨s1, hs1, rfl, rfl⟩ := h
   intro a w g hs
   obtain ⟨w', g', hr, h1, h2⟩ := sStore_ok hT hs1 hs (hs.ev hx') (hs.ev hy')
   exact ⟨_, _, w', g', exec_u (by unfold execOp; simp only [hop]) hr, .inr ⟨rfl, rfl⟩, by rw [hdd]; exact h1, h2⟩
  ·simp at h
 ·rename_i x hop -- nilCheck
  split at h
  ·rename_i x' hx'
   simp only [Option.map_eq_some_iff, Prod.mk.injEq] at h
   obtain ⟨y, hy, rfl, rfl⟩ := h
   intro a w g hs
   obtain ⟨rfl, hcase⟩ := vNilCheck_ok hy (hs.ev hx')
   refine ⟨_, _, w, g, ?_, .inl ⟨a.eval x, rfl, rfl⟩, hs.put hd (hs.ev hx'), Keep.refl g w⟩
   unfold execOp
   simp only [hop]
   rcases hcase with ⟨ad, e⟩ | ⟨f, vs, e⟩ <;> rw [e] <;> rfl
  ·simp at h
 ·rename_i op t x y t2 hop -- binOp
  split at h
  ·rename_i x' y' hx' hy'
   simp only [Option.map_eq_some_iff, Prod.mk.injEq] at h
   obtain ⟨⟨q, z⟩, hz, rfl, rfl⟩ := h
   intro a w g hs
   obtain ⟨r, hr, hval⟩ := abin_ok (P := P) hT hz hp (hs.ev hx') (hs.ev hy') x y
   exact ⟨_, _, w, g, exec_v (by unfold execOp; simp only [hop]) hr, .inl ⟨_, rfl, rfl⟩, hs.put hd hval, Keep.refl g w⟩
  ·simp at h
 ·rename_i op t x hop -- unOp
  split at h
  ·rename_i x' hx'
   simp only [Option.map_eq_some_iff, Prod.mk.injEq] at h
   obtain ⟨y, hy, rfl, rfl⟩ := h
   intro a w g hs
   obtain ⟨r, hr, hval⟩ := vUn_ok (P := P) hy (hs.ev hx')
   exact ⟨_, _, w, g, exec_v (by unfold execOp; simp only [hop]) hr, .inl ⟨_, rfl, rfl⟩, hs.put hd hval, Keep.refl g w⟩
  ·simp at h
 ·rename_i t u x hop -- convert
  split at h
  ·rename_i x' hx'
   simp only [Option.map_eq_some_iff, Prod.mk.injEq] at h
   obtain ⟨y, hy, rfl, rfl⟩ := h
   intro a w g hs
   obtain ⟨r, hr, hval⟩ := vConv_ok (P := P) hT hy (hs.ev hx')
   exact ⟨_, _, w, g, exec_v (by unfold execOp; simp only [hop]) hr, .inl ⟨_, rfl, rfl⟩, hs.put hd hval, Keep.refl g w⟩
  ·simp at h
 ·rename_i t x y hop -- makeSlice
  split at h
  ·rename_i d x' y' hdd hx' hy'
   intro a w g hs
   obtain ⟨r, w', g', hr, h1, h2⟩ := sMake_ok (P := P) hT h hp hs (hs.ev hx') (hs.ev hy')
   exact ⟨_, _, w', g', exec_v (by unfold execOp; simp only [hop]) hr, .inl ⟨_, rfl, rfl⟩, by rw [hdd]; exact h1, h2⟩
  ·simp at h
 ·rename_i t x lo hi hop -- slice
  split at h
  ·rename_i x' lo' hi' hx' hlo hhi
   simp only [Option.map_eq_some_iff, Prod.mk.injEq] at h
   obtain ⟨⟨q, z⟩, hz, rfl, rfl⟩ := h
   intro a w g hs
   obtain ⟨r, hr, hval⟩ := vSlice_ok (P := P) hT hz hp hs (hs.ev hx') (evO_ok hs hlo) (evO_ok hs hhi)
   exact ⟨_, _, w, g, exec_v (by unfold execOp; simp only [hop, Option.map_none]) hr, .inl ⟨_, rfl, rfl⟩, hs.put hd hval, Keep.refl g w⟩
  ·simp at h
 ·rename_i t x f hop -- fieldAddr
  split at h
  ·rename_i x' hx'
   simp only [Option.map_eq_some_iff, Prod.mk.injEq] at h
   obtain ⟨y, hy, rfl, rfl⟩ := h
   intro a w g hs
   obtain ⟨r, hr, hval⟩ := vFieldAddr_ok (P := P) hT hy (hs.ev hx')
   exact ⟨_, _, w, g, exec_v (by unfold execOp; simp only [hop]) hr, .inl ⟨_, rfl, rfl⟩, hs.put hd hval, Keep.refl g w⟩
  ·simp at h
 ·rename_i t x f hop -- field
  split at h
  ·rename_i x' hx'
   simp only [Option.map_eq_some_iff, Prod.mk.injEq] at h
   obtain ⟨y, hy, rfl, rfl⟩ := h
   intro a w g hs
   obtain ⟨r, hr, hval⟩ := vField_ok (P := P) hT hy (hs.ev hx')
   exact ⟨_, _, w, g, exec_v (by unfold execOp; simp only [hop]) hr, .inl ⟨_, rfl, rfl⟩, hs.put hd hval, Keep.refl g w⟩
  ·simp at h
 ·rename_i t x i hop -- indexAddr
  split at h
  ·rename_i x' i' hx' hi'
   simp only [Option.map_eq_some_iff, Prod.mk.injEq] at h
   obtain ⟨⟨q, z⟩, hz, rfl, rfl⟩ := h
   intro a w g hs
   obtain ⟨r, hr, hval⟩ := vIndexAddr_ok (P := P) hT hz hp hs (hs.ev hx') (hs.ev hi')
   exact ⟨_, _, w, g, exec_v (by unfold execOp; simp only [hop]) hr, .inl ⟨_, rfl, rfl⟩, hs.put hd hval, Keep.refl g w⟩
  ·simp at h
 ·rename_i t x i hop -- index
  split at h
  ·rename_i x' i' hx' hi'
   simp only [Option.map_eq_some_iff, Prod.mk.injEq] at h
   obtain ⟨⟨q, z⟩, hz, rfl, rfl⟩ := h
   intro a w g hs
   obtain ⟨r, hr, hval⟩ := vIndex_ok (P := P) hT hz hp (hs.ev hx') (hs.ev hi')
   exact ⟨_, _, w, g, exec_v (by unfold execOp; simp only [hop]) hr, .inl ⟨_, rfl, rfl⟩, hs.put hd hval, Keep.refl g w⟩
  ·simp at h
 ·rename_i x i hop -- extract
  split at h
  ·rename_i x' hx'
   simp only [Option.map_eq_some_iff, Prod.mk.injEq] at h
   obtain ⟨y, hy, rfl, rfl⟩ := h
   intro a w g hs
   obtain ⟨r, hr, hval⟩ := vExtract_ok (P := P) hy (hs.ev hx')
   exact ⟨_, _, w, g, exec_v (by unfold execOp; simp only [hop]) hr, .inl ⟨_, rfl, rfl⟩, hs.put hd hval, Keep.refl g w⟩
  ·simp at h
 ·rename_i c hop -- call
  split at h
  ·rename_i b hcal
   exact aBuiltin_ok hT hop hcal hd h hp
  ·simp at h
 ·simp at h
end Go.Proofs.YtiilnlihimdnlaaGreatDoorFw
/- Code over the abstract state: regions, ways, blocks, loops. -/
namespace Go.Proofs.YtiilnlihimdnlaaGreatDoorFw
open Go Go.RowKit
set_option linter.unusedVariables false
inductive AE where
 | normal
 | exit (id : Nat)
 | ret
def AE.up : AE → Exit
 | .normal => .normal
 | .exit id => .exit id
 | .ret => .ret
def RunsA (P : Program) (c : Code) (s : St) (Q : AE → St → Prop) : Prop :=
 ∀ a w g, Sim s a w g → c.wp P (fun e a' w' => ∃ ae s' g', e = ae.up ∧ Q ae s' ∧ Sim s' a' w' g' ∧ Keep g w g' w') a w
theorem RunsA.mono {P : Program} {c : Code} {s : St} {Q Q' : AE → St → Prop} (h : RunsA P c s Q) (hq : ∀ e s', Q e s' → Q' e s') : RunsA P c s Q' :=
 fun a w g hs => wp_mono (h a w g hs) fun e a' w' ⟨ae, s', g', h1, h2, h3⟩ => ⟨ae, s', g', h1, hq _ _ h2, h3⟩
def SubS : List (Nat × AV) → List (Nat × AV) → Prop
 | [], _ => True
 | (t, x) :: r, l => lookS l t = some x ∧ SubS r l
theorem SubS.look : ∀ {l l' : List (Nat × AV)}, SubS l l' → ∀ {t : Nat} {x : AV}, lookS l t = some x → lookS l' t = some x
 | [], _, _, _, _, h => by simp [lookS] at h
 | (u, y) :: r, l', hs, t, x, h => by
  simp only [lookS] at h
  split at h
  ·rename_i e; subst e; rw [← h]; exact hs.1
  ·exact SubS.look hs.2 h
def SubO : List Obj → List Obj → Prop
 | [], _ => True
 | o :: r, l => lookO l o.id = some (o.sz, o.es) ∧ SubO r l
theorem SubO.look : ∀ {l l' : List Obj}, SubO l l' → ∀ {i : Nat} {p : Nat × List AV}, lookO l i = some p → lookO l' i = some p
 | [], _, _, _, _, h => by simp [lookO] at h
 | o :: r, l', hs, i, p, h => by
  simp only [lookO] at h
  split at h
  ·rename_i e; subst e; rw [← h]; exact hs.1
  ·exact SubO.look hs.2 h
theorem Sim.sub {s s' : St} {a : Act} {w : World} {g : Gh} (h : Sim s a w g) (h1 : s'.nt = s.nt) (h2 : SubS s'.slots s.slots) (h3 : SubO s'.objs s.objs) (h4 : s'.st = s.st) : Sim s' a w g where
 nt := h.nt.trans h1.symm
 defers := h.defers
 slot := fun t x hx => h.slot t x (h2.look hx)
 h := ⟨fun id sz es hl => h.h.obj id sz es (h3.look hl), h.h.sep, h.h.rdlt⟩
 st := h4.trans h.st
theorem RunsA.sub {P : Program} {c : Code} {s s' : St} {Q : AE → St → Prop} (h : RunsA P c s' Q) (h1 : s'.nt = s.nt) (h2 : SubS s'.slots s.slots) (h3 : SubO s'.objs s.objs) (h4 : s'.st = s.st) : RunsA P c s Q :=
 fun a w g hs => h a w g (hs.sub h1 h2 h3 h4)
def thenA (K : St → Prop) (Q : AE → St → Prop) : AE → St → Prop
 | .normal, s => K s
 | e, s => Q e s
theorem RunsA.seq {P : Program} {x y : Code} {s : St} {Q : AE → St → Prop} (h : ∀ K : St → Prop, (∀ s', RunsA P y s' Q → K s') → RunsA P x s (thenA K Q)) : RunsA P (.seq x y) s Q := by
 intro a w g hs
 refine wp_seq (wp_mono (h (fun s' => RunsA P y s' Q) (fun _ h => h) a w g hs) ?_)
 rintro e a' w' ⟨ae, s', g', rfl, hq, hsim, hk⟩
 cases ae with
 | normal => exact wp_mono (hq a' w' g' hsim) fun e a2 w2 ⟨ae, s2, g2, h1, h2, h3, h4⟩ => ⟨ae, s2, g2, h1, h2, h3, hk.trans h4⟩
 | exit id => exact ⟨.exit id, s', g', rfl, hq, hsim, hk⟩
 | ret => exact ⟨.ret, s', g', rfl, hq, hsim, hk⟩
theorem RunsA.skip {P : Program} {s : St} {Q : AE → St → Prop} (h : Q .normal s) : RunsA P .skip s Q :=
 fun a w g hs => wp_skip ⟨.normal, s, g, rfl, h, hs, Keep.refl g w⟩
theorem RunsA.ret {P : Program} {s : St} {Q : AE → St → Prop} (h : Q .ret s) : RunsA P .ret s Q :=
 fun a w g hs => wp_ret ⟨.ret, s, g, rfl, h, hs, Keep.refl g w⟩
theorem RunsA.exit {P : Program} {s : St} {id : Nat} {Q : AE → St → Prop} (h : Q (.exit id) s) : RunsA P (.exit id) s Q :=
 fun a w g hs => wp_exit ⟨.exit id, s, g, rfl, h, hs, Keep.refl g w⟩
theorem RunsA.cond {P : Program} {s : St} {c : Operand} {b : Bool} {x y : Code} {Q : AE → St → Prop} (hc : s.ev c = some (.bool b)) (h1 : b = true → RunsA P x s Q) (h2 : b = false → RunsA P y s Q) : RunsA P (.cond c x y) s Q := by
 intro a w g hs
 have hv := (hs.ev hc).bool_inv
 exact wp_cond_split hv (fun h => h1 h a w g hs) (fun h => h2 h a w g hs)
def inBlockA (id : Nat) (K : St → Prop) (Q : AE → St → Prop) : AE → St → Prop
 | .exit id', s => if id' = id then K s else Q (.exit id') s
 | .normal, s => K s
 | .ret, s => Q .ret s
theorem RunsA.block {P : Program} {s : St} {id : Nat} {c : Code} {Q : AE → St → Prop} (h : RunsA P c s (inBlockA id (Q .normal) Q)) : RunsA P (.block id c) s Q := by
 intro a w g hs
 refine wp_block (wp_mono (h a w g hs) ?_)
 rintro e a' w' ⟨ae, s', g', rfl, hq, hsim, hk⟩
 cases ae with
 | normal => exact ⟨.normal, s', g', rfl, hq, hsim, hk⟩
 | exit id' =>
  simp only [AE.up, Exit.inBlock]
  simp only [inBlockA] at hq
  split
  ·rename_i e; rw [if_pos e] at hq; exact ⟨.normal, s', g', rfl, hq, hsim, hk⟩
  ·rename_i e; rw [if_neg e] at hq; exact ⟨.exit id', s', g', rfl, hq, hsim, hk⟩
 | ret => exact ⟨.ret, s', g', rfl, hq, hsim, hk⟩
def LoopA (P : Program) (c : Code) (s : St) (Q : AE → St → Prop) : Prop :=
 ∀ a w g, Sim s a w g → ∀ (b : Frame) (k : List Item) (cs : List Frame),
  ∃ e a' w', (∃ ae s' g', e = ae.up ∧ Q ae s' ∧ Sim s' a' w' g' ∧ Keep g w g' w') ∧ Arrives P (lone (b.at a (.code c :: .inLoop c :: k)) cs w) b k cs e a' w'
theorem RunsA.loop {P : Program} {c : Code} {s : St} {Q : AE → St → Prop} (h : LoopA P c s Q) : RunsA P (.loop c) s Q := by
 intro a w g hs b k cs
 obtain ⟨e, a', w', h1, h2⟩ := h a w g hs b k cs
 exact ⟨e, a', w', h1, .of_steps (.one step_loop) h2⟩
theorem LoopA.round {P : Program} {c : Code} {s : St} {Q : AE → St → Prop} (h : RunsA P c s (thenA (fun s' => LoopA P c s' Q) Q)) : LoopA P c s Q := by
 intro a w g hs b k cs
 obtain ⟨e, a₁, w₁, ⟨ae, s₁, g₁, rfl, hq, hsim, hk⟩, harr⟩ := h a w g hs b (.inLoop c :: k) cs
 cases ae with
 | normal =>
  obtain ⟨e₂, a₂, w₂, ⟨ae, s2, g2, h1, h2, h3, h4⟩, harr₂⟩ := hq a₁ w₁ g₁ hsim b k cs
  exact ⟨e₂, a₂, w₂, ⟨ae, s2, g2, h1, h2, h3, hk.trans h4⟩, .of_steps (Steps.trans harr (.one step_inLoop)) harr₂⟩
 | exit id => exact ⟨_, a₁, w₁, ⟨.exit id, s₁, g₁, rfl, hq, hsim, hk⟩, .pass (x := .inLoop c) rfl (fun _ _ => .inl (by simp [AE.up])) harr⟩
 | ret => exact ⟨_, a₁, w₁, ⟨.ret, s₁, g₁, rfl, hq, hsim, hk⟩, .pass (x := .inLoop c) rfl (fun _ _ => .inl (by simp [AE.up])) harr⟩
theorem LoopA.sub {P : Program} {c : Code} {s s' : St} {Q : AE → St → Prop} (h : LoopA P c s' Q) (h1 : s'.nt = s.nt) (h2 : SubS s'.slots s.slots) (h3 : SubO s'.objs s.objs) (h4 : s'.st = s.st) : LoopA P c s Q :=
 fun a w g hs => h a w g (hs.sub h1 h2 h3 h4)
theorem LoopA.ind {P : Program} {c : Code} {Q : AE → St → Prop} {ι : Type} (S : ι → St) (μ : ι → Nat) (I : ι → Prop)
 (round : ∀ i, I i → ∀ K : St → Prop, (∀ j s', I j → μ j < μ i → (S j).nt = s'.nt → SubS (S j).slots s'.slots → SubO (S j).objs s'.objs → (S j).st = s'.st → K s') → RunsA P c (S i) (thenA K Q)) (i : ι) (hi : I i) : LoopA P c (S i) Q := by
 have key : ∀ n i, μ i = n → I i → LoopA P c (S i) Q := by
  intro n
  induction n using Nat.strongRecOn with
  | _ n ih =>
   intro i hn hi
   exact LoopA.round (round i hi _ fun j s' hj hlt h1 h2 h3 h4 => (ih (μ j) (hn ▸ hlt) j rfl hj).sub h1 h2 h3 h4)
 exact key _ i rfl hi
/-! ### regions -/
def RunsL (P : Program) (all : Array Oper) (os : List Oper) (s : St) (K : St → Prop) : Prop :=
 ∀ a w g, Sim s a w g → ∀ Q : Exit → Act → World → Prop, (∀ a' w' g' s', Sim s' a' w' g' → Keep g w g' w' → K s' → Q .normal a' w') → ∀ l : List Nat, l.map (all[·]?) = os.map some → wpOps P all Q l a w
theorem range_all (all : Array Oper) : (List.range all.size).map (all[·]?) = all.toList.map some := by
 apply List.ext_getElem?
 intro i
 simp only [List.getElem?_map]
 by_cases h : i < all.size
 ·rw [List.getElem?_range h]
  simp [h]
 ·rw [List.getElem?_eq_none (by simpa using h), List.getElem?_eq_none (by simpa using h)]
  rfl
theorem RunsA.region {P : Program} {id : Nat} {all : Array Oper} {s : St} {K : St → Prop} {Q : AE → St → Prop} (h : RunsL P all all.toList s K) (hK : ∀ s', K s' → Q .normal s') : RunsA P (.region id all false) s Q := by
 intro a w g hs
 refine wp_region (h a w g hs _ ?_ _ (range_all all))
 intro a' w' g' s' h1 h2 h3
 exact ⟨.normal, s', g', rfl, hK _ h3, h1, h2⟩
theorem RunsL.nil {P : Program} {all : Array Oper} {s : St} {K : St → Prop} (h : K s) : RunsL P all [] s K := by
 intro a w g hs Q hQ l hl
 cases l with
 | nil => exact hQ a w g s hs (Keep.refl g w) h
 | cons i l => simp at hl
def wantA (all : Array Oper) (s : St) (o : Oper) : Option Bool :=
 match o.guard with
 | none => some true
 | some (j, b) =>
  match (all[j]?).bind (·.dst) with
  | some d => (match lookS s.slots d with | some (.bool c) => some (c == b) | some (.tup []) => some false | _ => none)
  | none => none
theorem wantA_ok {all : Array Oper} {s : St} {o : Oper} {b : Bool} (h : wantA all s o = some b) {a : Act} {w : World} {g : Gh} (hs : Sim s a w g) : Region.wanted o (yielded all a.tmps) = b := by
 unfold wantA at h
 unfold Region.wanted
 split at h
 ·rename_i hg
  rw [hg]
  exact Option.some.inj h
 ·rename_i j c hg
  rw [hg]
  simp only
  split at h
  ·rename_i d hd
   split at h
   ·rename_i c' hl
    obtain rfl := Option.some.inj h
    obtain ⟨v, hv, hval⟩ := hs.slot d _ hl
    obtain rfl := hval.bool_inv
    simp only [yielded, hd, Option.bind_some, hv]
    cases c <;> cases c' <;> rfl
   ·rename_i hl
    obtain rfl := Option.some.inj h
    obtain ⟨v, hv, hval⟩ := hs.slot d _ hl
    have : v = .tuple #[] := by
     cases hval with
     | cell _ _ h => cases h
     | tup _ vs hl' _ =>
      congr 1
      exact Array.eq_empty_of_size_eq_zero (by simpa using hl')
    subst this
    simp only [yielded, hd, Option.bind_some, hv]
    cases c <;> rfl
   ·simp at h
  ·simp at h
theorem RunsL.step {P : Program} {all : Array Oper} {o : Oper} {os : List Oper} {s s' : St} {K : St → Prop} (hw : wantA all s o = some true) (ho : StepOk P o s s') (h : RunsL P all os s' K) : RunsL P all (o :: os) s K := by
 intro a w g hs Q hQ l hl
 cases l with
 | nil => simp at hl
 | cons i l =>
  simp only [List.map_cons, List.cons.injEq] at hl
  obtain ⟨hi, hl⟩ := hl
  obtain ⟨r, a1, w1, g1, hr, hcase, hsim, hk⟩ := ho a w g hs
  simp only [wpOps, hi, wantA_ok hw hs, if_true]
  refine .inl ?_
  simp only [Oper.wp, hr]
  have hrest := h a1 w1 g1 hsim Q (fun a' w' g' s' h1 h2 h3 => hQ a' w' g' s' h1 (hk.trans h2) h3) l hl
  rcases hcase with ⟨v, rfl, rfl⟩ | ⟨rfl, rfl⟩
  ·exact hrest
  ·exact hrest
theorem RunsL.skip {P : Program} {all : Array Oper} {o : Oper} {os : List Oper} {s : St} {K : St → Prop} (hw : wantA all s o = some false) (hf : s.fits o.dst = true) (h : RunsL P all os (s.put o.dst (.tup [])) K) : RunsL P all (o :: os) s K := by
 intro a w g hs Q hQ l hl
 cases l with
 | nil => simp at hl
 | cons i l =>
  simp only [List.map_cons, List.cons.injEq] at hl
  obtain ⟨hi, hl⟩ := hl
  simp only [wpOps, hi, wantA_ok hw hs, if_false, Bool.false_eq_true]
  exact h _ w g (hs.put hf (.tup [] #[] rfl (fun k c u hc => by simp at hc))) Q hQ l hl
def FnOk (P : Program) (f : FuncId) : Prop := ∃ fn, P.funcs[f]? = some fn ∧ fn.body.isNone = false ∧ (fn.name == "runtime.NumGoroutine") = false
structure FnA (P : Program) (f : FuncId) (st : Bool) (xs : List AV) (os : List (Nat × List AV)) (R : AV → List (Nat × List AV) → List (Nat × List AV) → Prop) : Prop where
 ok : FnOk P f
 calls : CallsA P f st xs os R
theorem FnA.mono {P : Program} {f : FuncId} {st : Bool} {xs : List AV} {os : List (Nat × List AV)} {R R' : AV → List (Nat × List AV) → List (Nat × List AV) → Prop} (h : FnA P f st xs os R) (hr : ∀ r os' ros, R r os' ros → R' r os' ros) : FnA P f st xs os R' :=
 ⟨h.ok, fun vs w g h0 h1 h2 h3 h4 h5 => (h.calls vs w g h0 h1 h2 h3 h4 h5).mono fun e w' ⟨v, r, os', ros, g', k1, k2, k3⟩ => ⟨v, r, os', ros, g', k1, hr _ _ _ k2, k3⟩⟩
def evAll (s : St) : List Operand → Option (List AV)
 | [] => some []
 | x :: r =>
  match s.ev x, evAll s r with
  | some y, some l => some (y :: l)
  | _, _ => none
theorem evAll_get {s : St} : ∀ {l : List Operand} {xs : List AV}, evAll s l = some xs → xs.length = l.length ∧ ∀ (k : Nat) (x : AV), xs[k]? = some x → ∃ o, l[k]? = some o ∧ s.ev o = some x
 | [], xs, h => by simp only [evAll, Option.some.injEq] at h; subst h; exact ⟨rfl, fun k x h => by simp at h⟩
 | o :: r, xs, h => by
  simp only [evAll] at h
  split at h
  ·rename_i y l h1 h2
   obtain rfl := Option.some.inj h
   obtain ⟨i1, i2⟩ := evAll_get h2
   refine ⟨by simp [i1], ?_⟩
   intro k x hk
   cases k with
   | zero => simp at hk; subst hk; exact ⟨o, rfl, h1⟩
   | succ k => obtain ⟨o', h3, h4⟩ := i2 k x (by simpa using hk); exact ⟨o', by simpa using h3, h4⟩
  ·simp at h
theorem run_callFunc {P : Program} {f : FuncId} (h : FnOk P f) (args : Array Value) (w : World) : (callFunc f args).run P w = .ok (.enter f args) w := by
 obtain ⟨fn, h1, h2, h3⟩ := h
 simp only [callFunc, Sem.run_bind, run_program, Result.andThen_ok, h1, h2, h3, Bool.false_eq_true, if_false]
 rfl
theorem RunsL.call {P : Program} {all : Array Oper} {o : Oper} {os : List Oper} {s : St} {K : St → Prop} {c : Call} {f : FuncId} {st : Bool} {xs ys : List AV} {ob : List (Nat × List AV)} {ps : List Nat} {R : AV → List (Nat × List AV) → List (Nat × List AV) → Prop} {rid : Nat}
 (hw : wantA all s o = some true) (hop : o.op = .call c) (hcal : c.callee = .value (.func f)) (hx : evAll s c.args.toList = some xs) (hp : passL s.objs ps = some ob) (hy : argAL s ps xs = some ys)
 (hc : FnA P f st ys ob R) (hfit : s.fits o.dst = true) (hr : 16 ≤ rid) (hn : ps.Nodup ∧ ps.length ≤ 16 ∧ apartL ps rid = true) (hst : s.st = false ∨ st = true ∨ all16 ps = true)
 (h : ∀ r os' ros, R r os' ros → os'.length = ob.length → RunsL P all os (s.back st ps os' ros o.dst r rid) K) : RunsL P all (o :: os) s K := by
 intro a w g hs Q hQ l hl
 cases l with
 | nil => simp at hl
 | cons i l =>
  simp only [List.map_cons, List.cons.injEq] at hl
  obtain ⟨hi, hl⟩ := hl
  obtain ⟨i1, i2⟩ := evAll_get hx
  simp only [wpOps, hi, wantA_ok hw hs, if_true]
  refine .inl ?_
  have hrun : (execOp a.eval o).run P w = .ok (.enter f (c.args.map a.eval)) w := by
   unfold execOp
   simp only [hop, resolve, hcal, Act.eval, Deferred.ofValue]
   simp only [pure_bind, invoke]
   rw [show (#[] ++ Array.map a.eval c.args ++ #[] : Array Value) = Array.map a.eval c.args by simp]
   exact run_callFunc hc.ok _ _
  simp only [Oper.wp, hrun, Oper.upon_enter]
  refine (callA_ok hs hc.calls hn.1 hn.2.1 hp hy (vs := c.args.map a.eval) (by simp [i1]) ?_ hfit hr hn.2.2 hst).mono ?_
  ·intro k x u hk hu
   obtain ⟨o', h1, h2⟩ := i2 k x hk
   have : u = a.eval o' := by
    rw [Array.getElem?_map] at hu
    have h1' : c.args[k]? = some o' := by simpa using h1
    rw [h1'] at hu
    exact (Option.some.inj hu).symm
   subst this
   exact hs.ev h2
  ·rintro e w1 ⟨v, r, os', ros, g1, rfl, hR, hlen, hk, hsim⟩
   exact h r os' ros hR hlen _ w1 g1 hsim Q (fun a' w' g' s' h1 h2 h3 => hQ a' w' g' s' h1 (hk.trans h2) h3) l hl
end Go.Proofs.YtiilnlihimdnlaaGreatDoorFw
/- A function's body, from entry to return. -/
namespace Go.Proofs.YtiilnlihimdnlaaGreatDoorFw
open Go Go.RowKit
set_option linter.unusedVariables false
/-! ### what changes nothing in the machine -/
def GhostStep (s s' : St) : Prop := ∀ a w g, Sim s a w g → ∃ g', Sim s' a w g' ∧ Keep g w g' w
theorem RunsA.ghost {P : Program} {c : Code} {s s' : St} {Q : AE → St → Prop} (hg : GhostStep s s') (h : RunsA P c s' Q) : RunsA P c s Q := by
 intro a w g hs
 obtain ⟨g1, hs1, hk1⟩ := hg a w g hs
 exact wp_mono (h a w g1 hs1) fun e a2 w2 ⟨ae, s2, g2, h1, h2, h3, h4⟩ => ⟨ae, s2, g2, h1, h2, h3, hk1.trans h4⟩
theorem RunsL.ghost {P : Program} {all : Array Oper} {os : List Oper} {s s' : St} {K : St → Prop} (hg : GhostStep s s') (h : RunsL P all os s' K) : RunsL P all os s K := by
 intro a w g hs Q hQ l hl
 obtain ⟨g1, hs1, hk1⟩ := hg a w g hs
 exact h a w g1 hs1 Q (fun a' w' g' s' h1 h2 h3 => hQ a' w' g' s' h1 (hk1.trans h2) h3) l hl
theorem GhostStep.sub {s s' : St} (h1 : s'.nt = s.nt) (h2 : SubS s'.slots s.slots) (h3 : SubO s'.objs s.objs) (h4 : s'.st = s.st) : GhostStep s s' :=
 fun a w g hs => ⟨g, hs.sub h1 h2 h3 h4, Keep.refl g w⟩
theorem GhostStep.freeze {s s' : St} {id : Nat} {c : Prop} (h : s.freeze id = some (c, s')) (hc : c) : GhostStep s s' := fun a w g hs => hs.freeze h hc
theorem GhostStep.ren {s s' : St} {id id' : Nat} (h : s.ren id id' = some s') : GhostStep s s' := fun a w g hs => hs.ren h
theorem GhostStep.trans {s s1 s2 : St} (h : GhostStep s s1) (k : GhostStep s1 s2) : GhostStep s s2 := by
 intro a w g hs
 obtain ⟨g1, hs1, hk1⟩ := h a w g hs
 obtain ⟨g2, hs2, hk2⟩ := k a w g1 hs1
 exact ⟨g2, hs2, hk1.trans hk2⟩
/-! ### entry and return -/
def zipS : Nat → List AV → List (Nat × AV)
 | _, [] => []
 | k, x :: r => (k, x) :: zipS (k + 1) r
theorem lookS_zipS : ∀ (l : List AV) (k t : Nat), lookS (zipS k l) t = if k ≤ t then l[t - k]? else none
 | [], k, t => by simp [zipS, lookS]
 | x :: r, k, t => by
  simp only [zipS, lookS, lookS_zipS r]
  by_cases h : k = t
  ·subst h; simp
  ·rw [if_neg h]
   by_cases h2 : k ≤ t
   ·rw [if_pos (by omega), if_pos h2, show t - k = (t - (k + 1)) + 1 by omega, List.getElem?_cons_succ]
   ·rw [if_neg (by omega), if_neg h2]
def zipO : Nat → List (Nat × List AV) → List Obj
 | _, [] => []
 | k, p :: r => ⟨k, p.1, p.2⟩ :: zipO (k + 1) r
theorem lookO_zipO : ∀ (l : List (Nat × List AV)) (k i : Nat), lookO (zipO k l) i = if k ≤ i then l[i - k]? else none
 | [], k, i => by simp [zipO, lookO]
 | p :: r, k, i => by
  simp only [zipO, lookO, lookO_zipO r]
  by_cases h : k = i
  ·subst h; simp
  ·rw [if_neg h]
   by_cases h2 : k ≤ i
   ·rw [if_pos (by omega), if_pos h2, show i - k = (i - (k + 1)) + 1 by omega, List.getElem?_cons_succ]
   ·rw [if_neg (by omega), if_neg h2]
def RetA (P : Program) (fn : Func) (n : Nat) (R : AV → List (Nat × List AV) → List (Nat × List AV) → Prop) (s : St) : Prop :=
 ∀ a w g, Sim s a w g → ∃ v r os' ros g', (results fn a.tmps).run P w = .ok v w ∧ R r os' ros ∧ Keep g w g' w ∧ os'.length = n ∧ ros.length ≤ 64 ∧
  (∀ b p, g'.own b = some p → ¬ g'.perm b ∧ ¬ g'.bor b ∧ b < w.heap.size) ∧ RdOk g' w ∧
  (∀ i sz es, os'[i]? = some (sz, es) → noBoL es = true ∧ ∃ v, Cell g' w (.at i []) (.row .own sz es) v) ∧
  (∀ i sz es, ros[i]? = some (sz, es) → noBoL es = true ∧ ∃ v, Cell g' w (.at (100 + i) []) (.row .own sz es) v) ∧
  cleanR n ros.length r = true ∧ Val g' w r v
def endA (K : St → Prop) : AE → St → Prop
 | .exit _, _ => False
 | _, s => K s
theorem fnA_of {P : Program} {f : FuncId} {fn : Func} {c : Code} {st : Bool} {xs : List AV} {os : List (Nat × List AV)} {R : AV → List (Nat × List AV) → List (Nat × List AV) → Prop}
 (hf : P.funcs[f]? = some fn) (hb : fn.body = some c) (hn : (fn.name == "runtime.NumGoroutine") = false) {nt : Nat} (hnt0 : fn.ntmps = nt) (hnt1 : xs.length ≤ nt)
 (h : ∀ K : St → Prop, (∀ s, RetA P fn os.length R s → K s) → RunsA P c ⟨nt, zipS 0 xs, zipO 0 os, st⟩ (endA K)) : FnA P f st xs os R := by
 subst hnt0
 have hnt := hnt1
 refine ⟨⟨fn, hf, by rw [hb]; rfl, hn⟩, ?_⟩
 intro vs w g hst hvl hv hsep hrd hob
 refine calls_of_wp hf hb ?_
 have hs : Sim ⟨fn.ntmps, zipS 0 xs, zipO 0 os, st⟩ { tmps := vs ++ Array.replicate (fn.ntmps - vs.size) undef, defers := [] } w g := by
  refine ⟨by simp; omega, rfl, ?_, ⟨?_, hsep, hrd⟩, hst.symm⟩
  ·intro t x hx
   simp only [lookS_zipS, Nat.zero_le, if_true, Nat.sub_zero] at hx
   have hlt := lt_of_get hx
   have hlt2 : t < vs.size := by omega
   refine ⟨vs[t], ?_, hv t x _ hx (Array.getElem?_eq_getElem hlt2)⟩
   rw [Array.getElem?_append_left hlt2, Array.getElem?_eq_getElem hlt2]
  ·intro id sz es hl
   simp only [lookO_zipO, Nat.zero_le, if_true, Nat.sub_zero] at hl
   exact hob id sz es hl
 refine wp_mono (h (RetA P fn os.length R) (fun s h => h) _ w g hs) ?_
 rintro e a' w' ⟨ae, s', g', rfl, hq, hsim, hk⟩
 have key : ∀ hR : RetA P fn os.length R s', bodyPost P fn (fun e w' => ∃ v r os' ros g', e = .returned v ∧ R r os' ros ∧ Keep g w g' w' ∧ os'.length = os.length ∧ ros.length ≤ 64 ∧
  (∀ b p, g'.own b = some p → ¬ g'.perm b ∧ ¬ g'.bor b ∧ b < w'.heap.size) ∧ RdOk g' w' ∧
  (∀ i sz es, os'[i]? = some (sz, es) → noBoL es = true ∧ ∃ v, Cell g' w' (.at i []) (.row .own sz es) v) ∧
  (∀ i sz es, ros[i]? = some (sz, es) → noBoL es = true ∧ ∃ v, Cell g' w' (.at (100 + i) []) (.row .own sz es) v) ∧
  cleanR os.length ros.length r = true ∧ Val g' w' r v) .ret a' w' := by
  intro hR
  obtain ⟨v, r, os', ros, g2, h1, h2, h3, h4⟩ := hR a' w' g' hsim
  exact ⟨hsim.defers, v, h1, v, r, os', ros, g2, rfl, h2, hk.trans h3, h4⟩
 cases ae with
 | normal => exact key hq
 | exit id => exact hq.elim
 | ret => exact key hq
def resA (T : Tab) (s : St) : List ResultVar → Option (List AV)
 | [] => some []
 | .tmp t :: r =>
  match lookS s.slots t, resA T s r with
  | some x, some l => some (x :: l)
  | _, _ => none
 | .cell a t :: r =>
  match lookS s.slots a with
  | some x =>
   match vLoad T s t x, resA T s r with
   | some y, some l => some (y :: l)
   | _, _ => none
  | none => none
def res1 : List AV → AV
 | [x] => x
 | l => .tup l
theorem run_loadAt_ptr {P : Program} {t : TypeId} {v : Value} {w : World} {r : Value} (h : (Instr.loadAt t v).run P w = .ok r w) : ∃ a, v = .pointer (some a) ∧ (loadVar t a).run P w = .ok r w := by
 unfold Instr.loadAt at h
 cases v <;> try (simp [Instr.sureAddr] at h; done)
 rename_i p
 cases p with
 | none => simp [Instr.sureAddr] at h
 | some a => exact ⟨a, rfl, by simpa [Instr.sureAddr] using h⟩
def resV (tmps : Array Value) : ResultVar → Sem Value
 | .tmp t => pure (tmps.getD t undef)
 | .cell a t => do loadVar t (← asAddr (tmps.getD a undef))
theorem results_eq (fn : Func) (tmps : Array Value) : results fn tmps = (do let vs ← fn.results.mapM (resV tmps); pure (if h : vs.size = 1 then vs[0] else .tuple vs)) := rfl
theorem resA_ok {P : Program} {T : Tab} (hT : TabOk P T) {s : St} {a : Act} {w : World} {g : Gh} (hs : Sim s a w g) : ∀ (l : List ResultVar) (xs : List AV), resA T s l = some xs →
 ∃ vs : List Value, vs.length = xs.length ∧ (∀ (k : Nat) (x : AV) (u : Value), xs[k]? = some x → vs[k]? = some u → Val g w x u) ∧
  (l.mapM (resV a.tmps)).run P w = .ok vs w
 | [], xs, h => by
  simp only [resA, Option.some.injEq] at h; subst h
  exact ⟨[], rfl, fun k x u h => by simp at h, rfl⟩
 | .tmp t :: r, xs, h => by
  simp only [resA] at h
  split at h
  ·rename_i x l h1 h2
   obtain rfl := Option.some.inj h
   obtain ⟨vs, hl, hv, hr⟩ := resA_ok hT hs r l h2
   obtain ⟨v, hv1, hv2⟩ := hs.slot t x h1
   refine ⟨v :: vs, by simp [hl], ?_, ?_⟩
   ·intro k y u hy hu
    cases k with
    | zero => simp at hy hu; subst hy; subst hu; exact hv2
    | succ k => exact hv k y u (by simpa using hy) (by simpa using hu)
   ·rw [List.mapM_cons]
    simp only [resV, Sem.run_bind, Sem.run_pure, Result.andThen_ok, hr, Array.getD_eq_getD_getElem?, hv1, Option.getD_some]
  ·simp at h
 | .cell b t :: r, xs, h => by
  simp only [resA] at h
  split at h
  ·rename_i x h1
   split at h
   ·rename_i y l h3 h2
    obtain rfl := Option.some.inj h
    obtain ⟨vs, hl, hv, hr⟩ := resA_ok hT hs r l h2
    obtain ⟨v, hv1, hv2⟩ := hs.slot b x h1
    obtain ⟨u, hu, hval⟩ := vLoad_ok (P := P) hT h3 hs hv2
    obtain ⟨ad, rfl, hld⟩ := run_loadAt_ptr hu
    refine ⟨u :: vs, by simp [hl], ?_, ?_⟩
    ·intro k y' u' hy hu
     cases k with
     | zero => simp at hy hu; subst hy; subst hu; exact hval
     | succ k => exact hv k y' u' (by simpa using hy) (by simpa using hu)
    ·rw [List.mapM_cons]
     simp only [Sem.run_bind, Sem.run_pure, Result.andThen_ok, hr, resV, Array.getD_eq_getD_getElem?, hv1, Option.getD_some, asAddr, hld]
   ·simp at h
  ·simp at h
def takeO (objs : List Obj) : Nat → Nat → Option (List (Nat × List AV))
 | _, 0 => some []
 | k, n + 1 =>
  match lookO objs k, takeO objs (k + 1) n with
  | some p, some l => some (p :: l)
  | _, _ => none
theorem takeO_get {objs : List Obj} : ∀ {n k : Nat} {l : List (Nat × List AV)}, takeO objs k n = some l → l.length = n ∧ ∀ i p, l[i]? = some p → lookO objs (k + i) = some p
 | 0, k, l, h => by simp only [takeO, Option.some.injEq] at h; subst h; exact ⟨rfl, fun i p h => by simp at h⟩
 | n + 1, k, l, h => by
  simp only [takeO] at h
  split at h
  ·rename_i p l' h1 h2
   obtain rfl := Option.some.inj h
   obtain ⟨i1, i2⟩ := takeO_get h2
   refine ⟨by simp [i1], ?_⟩
   intro i p' hi
   cases i with
   | zero => simp at hi; subst hi; exact h1
   | succ i => have := i2 i p' (by simpa using hi); rwa [show k + 1 + i = k + (i + 1) by omega] at this
  ·simp at h
def noBoO : List (Nat × List AV) → Bool
 | [] => true
 | p :: r => noBoL p.2 && noBoO r
theorem noBoO_get : ∀ {l : List (Nat × List AV)}, noBoO l = true → ∀ {i : Nat} {sz : Nat} {es : List AV}, l[i]? = some (sz, es) → noBoL es = true
 | [], _, i, sz, es, h => by simp at h
 | p :: r, hb, i, sz, es, h => by
  simp only [noBoO, Bool.and_eq_true] at hb
  cases i with
  | zero => simp at h; rw [h] at hb; exact hb.1
  | succ i => exact noBoO_get hb.2 (by simpa using h)
theorem RetA.mk {P : Program} {T : Tab} (hT : TabOk P T) {fn : Func} {n : Nat} {R : AV → List (Nat × List AV) → List (Nat × List AV) → Prop} {s : St} (m : Nat) {xs : List AV} {os ros : List (Nat × List AV)}
 (hr : resA T s fn.results.toList = some xs) (ho : takeO s.objs 0 n = some os) (hro : takeO s.objs 100 m = some ros) (hm : m ≤ 64)
 (hb : noBoO os = true) (hb2 : noBoO ros = true) (hcl : cleanR n m (res1 xs) = true) (hR : R (res1 xs) os ros) : RetA P fn n R s := by
 intro a w g hs
 obtain ⟨vs, hl, hv, hrun⟩ := resA_ok (P := P) hT hs _ _ hr
 obtain ⟨l1, l2⟩ := takeO_get ho
 obtain ⟨m1, m2⟩ := takeO_get hro
 have hrun2 : (results fn a.tmps).run P w = .ok (if h : vs.toArray.size = 1 then vs.toArray[0] else .tuple vs.toArray) w := by
  rw [results_eq, Array.mapM_eq_mapM_toList]
  simp only [Sem.run_bind, map_eq_pure_bind, hrun, Result.andThen_ok, Sem.run_pure]
 refine ⟨_, res1 xs, os, ros, g, hrun2, hR, Keep.refl g w, l1, by omega, hs.h.sep, hs.h.rdlt, ?_, ?_, by rw [m1]; exact hcl, ?_⟩
 ·intro i sz es hi
  exact ⟨noBoO_get hb hi, hs.h.obj i sz es (by simpa using l2 i _ hi)⟩
 ·intro i sz es hi
  exact ⟨noBoO_get hb2 hi, hs.h.obj (100 + i) sz es (m2 i _ hi)⟩
 ·clear hrun hrun2 hr hcl hR
  match xs, vs, hl, hv with
  | [x], [v], _, hv => exact hv 0 x v rfl rfl
  | [], [], _, _ => exact .tup _ _ rfl (fun k c u hc _ => by simp at hc)
  | x :: y :: l, v :: u :: l', hl, hv =>
   have : ¬ ((v :: u :: l').toArray.size = 1) := by simp
   rw [dif_neg this]
   exact .tup _ _ (by simpa using hl) (fun k c u hc hu => hv k c u hc (by simpa using hu))
end Go.Proofs.YtiilnlihimdnlaaGreatDoorFw
/- Types as the program tells them: a check by computing. -/
namespace Go.Proofs.YtiilnlihimdnlaaGreatDoorFw
open Go Go.RowKit
def zokB : AV → Value → Bool
 | .int k n, .int k' n' => decide (k = k') && decide (n = n')
 | .bool b, .bool b' => b == b'
 | .str s, .string s' => decide (s'.data.toList = s)
 | .row .own _ [], .slice none 0 0 => true
 | .nilI, .nilIface => true
 | .dead, u => u.oneCell'
 | _, _ => false
theorem zokB_ok {y : AV} {u : Value} (h : zokB y u = true) : ZOk y u := by
 unfold zokB at h
 split at h
 ·simp only [Bool.and_eq_true, decide_eq_true_eq] at h; exact h
 ·simpa [ZOk] using h
 ·rename_i s s'
  simp only [decide_eq_true_eq] at h
  show s' = ⟨⟨s⟩⟩
  rw [← h]
 ·trivial
 ·trivial
 ·simpa [ZOk] using h
 ·simp at h
def zokL : List AV → List Value → Bool
 | [], [] => true
 | y :: ys, u :: us => zokB y u && zokL ys us
 | _, _ => false
theorem zokL_ok : ∀ {ys : List AV} {us : List Value}, zokL ys us = true → ys.length = us.length ∧ ∀ (k : Nat) (y : AV), ys[k]? = some y → ∃ u, us[k]? = some u ∧ ZOk y u
 | [], [], _ => ⟨rfl, fun k y h => by simp at h⟩
 | y :: ys, u :: us, h => by
  simp only [zokL, Bool.and_eq_true] at h
  obtain ⟨h1, h2⟩ := zokL_ok h.2
  refine ⟨by simp [h1], ?_⟩
  intro k z hk
  cases k with
  | zero => simp at hk; subst hk; exact ⟨u, rfl, zokB_ok h.1⟩
  | succ k => exact h2 k z (by simpa using hk)
 | [], _ :: _, h => by simp [zokL] at h
 | _ :: _, [], h => by simp [zokL] at h
def chkK (P : Program) (t : TypeId) : TK → Bool
 | .int k => match P.underlying t with | some (.int k') => decide (k = k') | _ => false
 | .bool => match P.underlying t with | some .bool => true | _ => false
 | .str => match P.underlying t with | some .string => true | _ => false
 | .slice e => match P.underlying t with | some (.slice e') => e == e' | _ => false
 | .struct fs => match P.underlying t with | some (.struct fields) => fields.toList.map (fun f => (f.offset, f.type)) == fs | _ => false
 | .arr n e => match P.underlying t with | some (.array n' e') => n == n' && e == e' | _ => false
 | .other => match P.underlying t with | some (.struct _) => false | some (.array _ _) => false | some _ => true | none => false
theorem chkK_ok {P : Program} {t : TypeId} {k : TK} (h : chkK P t k = true) : TKOk P t k := by
 unfold chkK at h
 split at h <;> split at h <;> try (simp at h; done)
 ·rename_i k k' he; simp only [decide_eq_true_eq] at h; subst h; exact he
 ·rename_i he; exact he
 ·rename_i he; exact he
 ·rename_i e e' he; simp only [beq_iff_eq] at h; subst h; exact he
 ·rename_i fs fields he; exact ⟨fields, he, by simpa using h⟩
 ·rename_i n e n' e' he; simp only [Bool.and_eq_true, beq_iff_eq] at h; obtain ⟨rfl, rfl⟩ := h; exact he
 ·rename_i d h1 h2 he; exact ⟨d, he, fun fs e => h1 fs e, fun n e' e => h2 n e' e⟩
def chkTI (P : Program) (t : TypeId) (ti : TI) : Bool :=
 match P.info? t with
 | some i => i.size == ti.sz && i.bytes == ti.by_ && ti.z.length == ti.sz && chkK P t ti.k && (match i.zero with | some z => zokL ti.z z.cells.toList | none => false)
 | none => false
theorem chkTI_ok {P : Program} {t : TypeId} {ti : TI} (h : chkTI P t ti = true) : TIOk P t ti := by
 unfold chkTI at h
 split at h
 ·rename_i i hi
  simp only [Bool.and_eq_true, beq_iff_eq] at h
  obtain ⟨⟨⟨⟨h1, h2⟩, h3⟩, h4⟩, h5⟩ := h
  split at h5
  ·rename_i z hz
   obtain ⟨l1, l2⟩ := zokL_ok h5
   refine ⟨⟨i, z, hi, h1, h2, hz, ?_, h3, ?_⟩, chkK_ok h4⟩
   ·simp only [Array.length_toList] at l1; omega
   ·intro k y hk
    obtain ⟨u, hu, hz⟩ := l2 k y hk
    exact ⟨u, by simpa using hu, hz⟩
  ·simp at h5
 ·simp at h
def lookT : List (TypeId × TI) → Tab
 | [], _ => none
 | (t, ti) :: r, u => if t = u then some ti else lookT r u
theorem tabOk_of {P : Program} : ∀ {l : List (TypeId × TI)}, (l.all fun p => chkTI P p.1 p.2) = true → TabOk P (lookT l)
 | [], _, t, ti, h => by simp [lookT] at h
 | p :: r, hl, t, ti, h => by
  simp only [List.all_cons, Bool.and_eq_true] at hl
  simp only [lookT] at h
  split at h
  ·rename_i e; subst e; obtain rfl := Option.some.inj h; exact chkTI_ok hl.1
  ·exact tabOk_of hl.2 t ti h
end Go.Proofs.YtiilnlihimdnlaaGreatDoorFw
/- Further operations; regions by computing. -/
namespace Go.Proofs.YtiilnlihimdnlaaGreatDoorFw
open Go Go.RowKit
set_option linter.unusedVariables false
theorem Cell.int_inv {g : Gh} {w : World} {p : Pl} {k : IntKind} {n : Int} {u : Value} (h : Cell g w p (.int k n) u) : u = .int k n := by cases h; rfl
def isU8 : AV → Bool
 | .int .u8 _ => true
 | _ => false
def u8Of : AV → UInt8
 | .int _ n => UInt8.ofNat n.toNat
 | _ => 0
def allU8 : List AV → Bool
 | [] => true
 | x :: r => isU8 x && allU8 r
def u8L : List AV → List UInt8
 | [] => []
 | x :: r => u8Of x :: u8L r
def numOf : AV → Int
 | .int _ n => n
 | _ => 0
theorem u8L_eq (l : List AV) : u8L l = l.map u8Of := by induction l <;> simp [u8L, *]
theorem allU8_get : ∀ {l : List AV}, allU8 l = true → ∀ {i : Nat} {x : AV}, l[i]? = some x → ∃ n, x = .int .u8 n
 | [], _, i, x, h => by simp at h
 | y :: r, hl, i, x, h => by
  simp only [allU8, Bool.and_eq_true] at hl
  cases i with
  | zero =>
   simp at h; subst h
   have := hl.1
   unfold isU8 at this
   split at this
   ·exact ⟨_, rfl⟩
   ·simp at this
  | succ i => exact allU8_get hl.2 (by simpa using h)
def vBytes (T : Tab) (s : St) (src dst : TypeId) (x : AV) : Option AV :=
 if byteT T src = true ∧ strT T dst = true then
  match x with
  | .hd id q =>
   match s.node id q with
   | some (sz, es) => if sz = 1 ∧ allU8 es = true then some (.str (u8L es)) else none
   | none => none
  | .row m sz es => if sz = 1 ∧ allU8 es = true then some (.str (u8L es)) else none
  | .nilS => some (.str [])
  | _ => none
 else none
theorem byteT_ok {P : Program} {T : Tab} (hT : TabOk P T) {t : TypeId} (h : byteT T t = true) : ∃ e, P.underlying t = some (.slice e) ∧ P.underlying e = some (.int .u8) := by
 unfold byteT at h
 split at h
 ·rename_i e sz by_ z he
  split at h
  ·rename_i by2 z2 he2
   exact ⟨e, (hT t _ he).kind, (hT e _ he2).kind⟩
  ·simp at h
 ·simp at h
theorem vBytes_cells {P : Program} {w : World} {src dst e : TypeId} (hs : P.underlying src = some (.slice e)) (he : P.underlying e = some (.int .u8)) (hd : P.underlying dst = some .string) {a : Addr} {c : Nat} {es : List AV} (hsp : a.spot = none)
 (hu : allU8 es = true) (hc : ∀ i, i < es.length → w.cell? (a.add i) = some (.int .u8 (numOf (es.getD i .dead)))) : (convert src dst (.slice (some a) es.length c)).run P w = .ok (.string ⟨⟨u8L es⟩⟩) w := by
 obtain ⟨b, o, sp⟩ := a
 simp only at hsp
 subst hsp
 have h := run_convert_bytes_arg (P := P) w src e hs he b o es.length c (es.map numOf) (by simp) (by
  intro i hi
  have := hc i hi
  rw [add_lit] at this
  rw [this]
  congr 2
  simp [List.getD_eq_getElem?_getD, List.getElem?_map, List.getElem?_eq_getElem hi]) dst hd
 rw [h]
 congr 2
 unfold strOfNums
 congr 2
 rw [u8L_eq, List.map_map]
 apply List.map_congr_left
 intro x hx
 obtain ⟨i, hi⟩ := List.mem_iff_getElem?.1 hx
 obtain ⟨n, rfl⟩ := allU8_get hu hi
 rfl
theorem vBytes_ok {P : Program} {T : Tab} (hT : TabOk P T) {s : St} {src dst : TypeId} {x y : AV} (h : vBytes T s src dst x = some y) {a : Act} {w : World} {g : Gh} (hs : Sim s a w g) {v : Value} (hv : Val g w x v) :
 ∃ r, (convert src dst v).run P w = .ok r w ∧ Val g w y r := by
 unfold vBytes at h
 split at h
 ·rename_i hb
  obtain ⟨e, h1, h2⟩ := byteT_ok hT hb.1
  have h3 := strT_ok hT hb.2
  split at h
  ·rename_i id q
   split at h
   ·rename_i sz es hn
    split at h
    ·rename_i hc
     obtain ⟨rfl, hu⟩ := hc
     obtain rfl := Option.some.inj h
     obtain ⟨v', hnode⟩ := hs.node hn
     obtain rfl := hnode.hd hv
     cases hes : es with
     | nil =>
      subst hes
      obtain ⟨ad, c, rfl⟩ := hnode.len
      refine ⟨.string ⟨⟨[]⟩⟩, ?_, Val.mkStr _ _ _⟩
      cases ad with
      | none => rw [run_convert_bytes_nil w src e h1 h2 _ _ dst h3]; rfl
      | some ad =>
       rcases hv.hd_inv with ⟨b, c', n, hl, he⟩ | ⟨hl, he⟩
       ·simp only [Value.slice.injEq, Option.some.injEq] at he
        obtain ⟨rfl, rfl, rfl⟩ := he
        exact vBytes_cells (es := []) h1 h2 h3 rfl rfl (fun i hi => by simp at hi)
       ·simp at he
     | cons x0 r0 =>
      rw [← hes]
      have hx : es[0]? = some x0 := by rw [hes]; rfl
      obtain ⟨b, c, cur, ee, us, rfl, hl, ho, hbk, hlc, hcm, hz, hw, hcc, ht⟩ := hnode.node hx
      refine ⟨_, vBytes_cells h1 h2 h3 rfl hu ?_, Val.mkStr _ _ _⟩
      intro i hi
      obtain ⟨n, hn'⟩ := allU8_get hu (List.getElem?_eq_getElem hi)
      have hget := List.getElem?_eq_getElem hi
      have hc0 := hcc i 0 _ _ hget (show es[i].cells[0]? = some es[i] by rw [hn']; rfl)
      have ht0 := ht i 0 _ _ hget (show es[i].cells[0]? = some es[i] by rw [hn']; rfl)
      simp only [Nat.mul_one, Nat.add_zero] at hc0 ht0
      rw [cell?_own hbk hc0]
      rw [hn'] at ht0
      simp only [List.getD_eq_getElem?_getD, hget, Option.getD_some, hn', numOf]
      exact congrArg some ht0.int_inv
    ·simp at h
   ·simp at h
  ·rename_i m sz es
   split at h
   ·rename_i hc
    obtain ⟨rfl, hu⟩ := hc
    obtain rfl := Option.some.inj h
    rcases hv.row_inv with ⟨ad, c, rfl, rfl, _⟩ | ⟨ad, c, us, rfl, hm, hsp, hl, hw, hcc, ht⟩
    ·refine ⟨.string ⟨⟨[]⟩⟩, ?_, Val.mkStr _ _ _⟩
     cases ad with
     | none => rw [run_convert_bytes_nil w src e h1 h2 _ _ dst h3]; rfl
     | some ad =>
      rw [run_convert_bytes_string w src dst e _ _ _ h1 h2 h3]
      have hl : (loadCells ad 0).run P w = .ok (([] : List Int).map (Value.int .u8)).toArray w := by simpa using run_loadCells_list (P := P) w ad [] (fun j v hj => by simp at hj)
      rw [run_bytesToString w ad 0 c [] hl]
      rfl
    ·refine ⟨_, vBytes_cells h1 h2 h3 hsp hu ?_, Val.mkStr _ _ _⟩
     intro i hi
     obtain ⟨n, hn'⟩ := allU8_get hu (List.getElem?_eq_getElem hi)
     have hget := List.getElem?_eq_getElem hi
     have hc0 := hcc i 0 _ _ hget (show es[i].cells[0]? = some es[i] by rw [hn']; rfl)
     have ht0 := ht i 0 _ _ hget (show es[i].cells[0]? = some es[i] by rw [hn']; rfl)
     simp only [Nat.mul_one, Nat.add_zero] at hc0 ht0
     rw [hc0]
     rw [hn'] at ht0
     simp only [List.getD_eq_getElem?_getD, hget, Option.getD_some, hn', numOf]
     exact congrArg some ht0.int_inv
   ·simp at h
  ·obtain rfl := Option.some.inj h
   cases hv with
   | cell _ _ hh => cases hh
   | nilS =>
    refine ⟨.string ⟨⟨[]⟩⟩, ?_, Val.mkStr _ _ _⟩
    rw [run_convert_bytes_nil w src e h1 h2 _ _ dst h3]; rfl
  ·simp at h
 ·simp at h
def gPerm (g : Gh) (b : Nat) : Gh := { g with perm := fun b' => g.perm b' ∨ b' = b }
theorem vbox_ok {P : Program} {s : St} {t : TypeId} {y : AV} {d : Nat} (hd : s.fits (some d) = true) (hy : isDead y = false) {a : Act} {w : World} {g : Gh} (hs : Sim s a w g) {u : Value} (hu : Val g w y u) :
 ∃ r w' g', (Instr.box t u).run P w = .ok r w' ∧ Sim (s.put (some d) (.vp y.cells)) (a.put (some d) r) w' g' ∧ Keep g w g' w' := by
 have hne : y ≠ .dead := by rintro rfl; simp [isDead] at hy
 obtain ⟨hsz, hcell⟩ := hu.cells hne
 have hbox : (Instr.box t u).run P w = .ok (.pointer (some ⟨w.heap.size, 0, none⟩)) (w.alloc (.cells u.cells t)) := by
  unfold Instr.box
  exact run_newVar
 have hheap : (w.alloc (.cells u.cells t)).heap = w.heap.push (.cells u.cells t (0, 0)) := rfl
 have hold : ∀ k, k < w.heap.size → (w.alloc (.cells u.cells t)).heap[k]? = w.heap[k]? := fun k hk => by
  rw [hheap, Array.getElem?_push, if_neg (by omega)]
 have hown : g.own w.heap.size = none := by
  cases h : g.own w.heap.size with
  | none => rfl
  | some p => have := (hs.h.sep _ _ h).2.2; omega
 have hr : RdKeep g w (gPerm g w.heap.size) (w.alloc (.cells u.cells t)) :=
  ⟨fun b hb => ⟨.inl hb, hold b (hs.h.rdlt b (.inl hb))⟩, fun b hb => ⟨.inr hb, hold b (hs.h.rdlt b (.inr hb))⟩⟩
 have hsize : (w.alloc (.cells u.cells t)).heap.size = w.heap.size + 1 := by rw [hheap]; simp
 have hat : (w.alloc (.cells u.cells t)).heap[w.heap.size]? = some (.cells u.cells t (0, 0)) := by rw [hheap]; simp
 refine ⟨_, _, gPerm g w.heap.size, hbox, ?_, ?_⟩
 ·have hH : HSim s.objs (w.alloc (.cells u.cells t)) (gPerm g w.heap.size) := by
   refine ⟨?_, ?_, ?_⟩
   ·intro id sz es hl
    obtain ⟨v, hv⟩ := hs.h.obj id sz es hl
    exact ⟨v, hv.stay hr (fun b r hb => ⟨hold b (hs.h.sep b _ hb).2.2, hb⟩) (fun _ => rfl)⟩
   ·intro b p hb
    have h3 := hs.h.sep b p hb
    refine ⟨?_, h3.2.1, by omega⟩
    rintro (h4 | h4)
    ·exact h3.1 h4
    ·subst h4; have : g.own w.heap.size = some p := hb; rw [hown] at this; simp at this
   ·refine hs.h.rdlt.move hr fun b hb => ?_
    rcases hb with (hb | hb) | hb
    ·have := hs.h.rdlt b (.inl hb); omega
    ·omega
    ·have := hs.h.rdlt b (.inr hb); omega
  refine (hs.turnSame hr (fun _ _ => rfl) hH).put (d := some d) hd ?_
  refine .vp _ _ (fun k => u.cells.getD k undef) (.inr rfl) rfl ?_ ?_
  ·intro k z hz
   have hlt : k < u.cells.size := by rw [hsz]; exact lt_of_get hz
   rw [add_lit, Nat.zero_add, cell_of_block hat]
   simp [Array.getD_eq_getD_getElem?, Array.getElem?_eq_getElem hlt]
  ·intro k z hz
   have hlt : k < u.cells.size := by rw [hsz]; exact lt_of_get hz
   have h5 := hcell k z u.cells[k] hz (Array.getElem?_eq_getElem hlt)
   simp only [Array.getD_eq_getD_getElem?, Array.getElem?_eq_getElem hlt, Option.getD_some]
   exact h5.same hr (fun _ _ => rfl)
 ·exact ⟨rfl, rfl, rfl, by omega, fun b hb ho => ⟨hold b hb, ho⟩, fun _ h => .inl h, fun b hb h => by
   rcases h with h | h
   ·exact .inl h
   ·omega, fun _ => Iff.rfl, fun _ _ _ _ => rfl, rfl⟩
def bop (T : Tab) (o : Oper) (s : St) : Option (Prop × St) :=
 match o.op with
 | .pick c x y =>
  if s.fits o.dst = true then
   match s.ev c with
   | some (.bool true) => (s.ev x).map fun z => (True, s.put o.dst z)
   | some (.bool false) => (s.ev y).map fun z => (True, s.put o.dst z)
   | _ => none
  else none
 | .convert t u x =>
  match T t with
  | some { k := .slice _, .. } => if s.fits o.dst = true then (match s.ev x with | some z => (vBytes T s t u z).map fun y => (True, s.put o.dst y) | none => none) else none
  | _ => aop T o s
 | .box _ x =>
  match aop T o s with
  | some r => some r
  | none =>
   match s.ev x with
   | some y => if s.fits o.dst = true ∧ o.dst.isSome = true ∧ isDead y = false then some (True, s.put o.dst (.vp y.cells)) else none
   | none => none
 | _ => aop T o s
theorem bop_ok {P : Program} {T : Tab} (hT : TabOk P T) {o : Oper} {s s' : St} {p : Prop} (h : bop T o s = some (p, s')) (hp : p) : StepOk P o s s' := by
 unfold bop at h
 split at h
 ·rename_i c x y hop
  split at h
  ·rename_i hd
   split at h
   ·rename_i hc
    simp only [Option.map_eq_some_iff, Prod.mk.injEq] at h
    obtain ⟨z, hz, rfl, rfl⟩ := h
    intro a w g hs
    have hv := (hs.ev hc).bool_inv
    exact ⟨_, _, w, g, by unfold execOp; simp only [hop, hv, asBool, pure_bind, if_true, Sem.run_pure], .inl ⟨_, rfl, rfl⟩, hs.put hd (hs.ev hz), Keep.refl g w⟩
   ·rename_i hc
    simp only [Option.map_eq_some_iff, Prod.mk.injEq] at h
    obtain ⟨z, hz, rfl, rfl⟩ := h
    intro a w g hs
    have hv := (hs.ev hc).bool_inv
    exact ⟨_, _, w, g, by unfold execOp; simp only [hop, hv, asBool, pure_bind, if_false, Bool.false_eq_true, Sem.run_pure], .inl ⟨_, rfl, rfl⟩, hs.put hd (hs.ev hz), Keep.refl g w⟩
   ·simp at h
  ·simp at h
 ·rename_i t u x hop
  split at h
  ·split at h
   ·rename_i hd
    split at h
    ·rename_i z hz
     simp only [Option.map_eq_some_iff, Prod.mk.injEq] at h
     obtain ⟨y, hy, rfl, rfl⟩ := h
     intro a w g hs
     obtain ⟨r, hr, hval⟩ := vBytes_ok (P := P) hT hy hs (hs.ev hz)
     exact ⟨_, _, w, g, exec_v (by unfold execOp; simp only [hop]) hr, .inl ⟨_, rfl, rfl⟩, hs.put hd hval, Keep.refl g w⟩
    ·simp at h
   ·simp at h
  ·exact aop_ok hT h hp
 ·rename_i t x hop
  split at h
  ·rename_i r hr
   obtain rfl := Option.some.inj h
   exact aop_ok hT hr hp
  ·split at h
   ·rename_i y hy
    split at h
    ·rename_i hc
     simp only [Option.some.injEq, Prod.mk.injEq] at h
     obtain ⟨rfl, rfl⟩ := h
     obtain ⟨hf, hdd, hdead⟩ := hc
     obtain ⟨d, hdst⟩ := Option.isSome_iff_exists.1 hdd
     intro a w g hs
     rw [hdst] at hf
     obtain ⟨r, w', g', hr, h1, h2⟩ := vbox_ok (P := P) (t := t) hf hdead hs (hs.ev hy)
     exact ⟨_, _, w', g', exec_v (by unfold execOp; simp only [hop]) hr, .inl ⟨_, rfl, rfl⟩, by rw [hdst]; exact h1, h2⟩
    ·simp at h
   ·simp at h
 ·exact aop_ok hT h hp
/-! ### a tree is taken out ahead of an operation that moves it -/
def detF (id : Nat) (p : Path) (tid : Nat) : Nat → Path → Option (Nat × Path) := fun j r =>
 if j = tid then none
 else if j = id then (match stripP p r with | some r' => some (tid, r') | none => some (j, r))
 else some (j, r)
def St.detach (s : St) (id : Nat) (q : Path) (i k tid : Nat) : Option St :=
 if tid < 16 ∨ (s.st = true ∧ id < 16) then none
 else
  match lookO s.objs id, lookO s.objs tid with
  | some (rsz, res), none =>
   match navG res rsz q with
   | some (sz, es) =>
    match es[i]? with
    | some x =>
     match x.cells[k]? with
     | some (.row .own tsz tes) =>
      some { s with slots := mapS (detF id (q ++ [(i, k)]) tid) s.slots, objs := setO (setO s.objs id rsz (navSet res q (es.set i (x.setC k .dead)))) tid tsz tes }
     | _ => none
    | none => none
   | none => none
  | _, _ => none
def GhostSt (s s' : St) : Prop := ∀ a w g, Sim s a w g → ∃ g', Sim s' a w g' ∧ Keep g w g' w
theorem GhostSt.refl (s : St) : GhostSt s s := fun a w g hs => ⟨g, hs, Keep.refl g w⟩
theorem GhostSt.trans {s s1 s2 : St} (h : GhostSt s s1) (k : GhostSt s1 s2) : GhostSt s s2 := by
 intro a w g hs
 obtain ⟨g1, hs1, hk1⟩ := h a w g hs
 obtain ⟨g2, hs2, hk2⟩ := k a w g1 hs1
 exact ⟨g2, hs2, hk1.trans hk2⟩
theorem detach_ok {s s' : St} {id : Nat} {q : Path} {i k tid : Nat} (h : s.detach id q i k tid = some s') : GhostSt s s' := by
 intro a w g hs
 unfold St.detach at h
 split at h
 ·simp at h
 rename_i hc
 split at h
 ·rename_i rsz res hl ht
  split at h
  ·rename_i sz es hn
   split at h
   ·rename_i x hx
    split at h
    ·rename_i tsz tes hy
     obtain rfl := Option.some.inj h
     have hH := hs.h.detach hl hn hx hy ht
     refine ⟨gMove g id (q ++ [(i, k)]) tid [], hs.turn (gMove_rd g id (q ++ [(i, k)]) tid [] w) ?_ hH, gMove_keep g id _ tid [] w ?_ (.inr (by omega))⟩
     ·intro j r j' r' hf
      simp only [detF] at hf
      split at hf
      ·simp at hf
      ·rename_i hne1
       split at hf
       ·rename_i e
        subst e
        split at hf
        ·rename_i r0 hs0
         simp only [Option.some.injEq, Prod.mk.injEq] at hf
         obtain ⟨rfl, rfl⟩ := hf
         rw [stripP_some hs0]
         exact gMove_loc_to g _ _ _ [] r0
        ·rename_i hs0
         simp only [Option.some.injEq, Prod.mk.injEq] at hf
         obtain ⟨rfl, rfl⟩ := hf
         exact gMove_loc_else (fun _ e => absurd e hne1) (fun r _ => stripP_none hs0 r)
       ·rename_i hne2
        simp only [Option.some.injEq, Prod.mk.injEq] at hf
        obtain ⟨rfl, rfl⟩ := hf
        exact gMove_loc_else (fun _ e => absurd e hne1) (fun _ e => absurd e hne2)
     ·cases hst : g.st with
      | false => exact .inl ⟨by simp, rfl⟩
      | true =>
       refine .inr ?_
       rcases Nat.lt_or_ge id 16 with h16 | h16
       ·exact absurd (.inr ⟨hs.st.trans hst, h16⟩) hc
       ·exact h16
    ·simp at h
   ·simp at h
  ·simp at h
 ·simp at h
def lastP : Path → Option (Path × Nat × Nat)
 | [] => none
 | [(i, k)] => some ([], i, k)
 | x :: r => (lastP r).map fun p => (x :: p.1, p.2)
def viewsOf : List AV → List (Nat × Path × Nat × Nat)
 | [] => []
 | .hd id q :: r => (match lastP q with | some p => (id, p) :: viewsOf r | none => viewsOf r)
 | _ :: r => viewsOf r
def preD (s : St) : List (Nat × Path × Nat × Nat) → Nat → Option St
 | [], _ => some s
 | (id, q, i, k) :: r, n =>
  match s.detach id q i k n with
  | some s' => preD s' r (n + 1)
  | none => none
theorem preD_ok : ∀ {l : List (Nat × Path × Nat × Nat)} {s s' : St} {n : Nat}, preD s l n = some s' → GhostSt s s'
 | [], s, s', n, h => by simp only [preD, Option.some.injEq] at h; subst h; exact GhostSt.refl _
 | (id, q, i, k) :: r, s, s', n, h => by
  simp only [preD] at h
  split at h
  ·rename_i s1 h1; exact (detach_ok h1).trans (preD_ok h)
  ·simp at h
def evCells (s : St) : List (Nat × Operand) → List AV
 | [] => []
 | (_, x) :: r => (match s.ev x with | some y => y.cells | none => []) ++ evCells s r
def movesOf (s : St) (o : Oper) : List (Nat × Path × Nat × Nat) × Nat :=
 match o.op with
 | .store _ _ y => (match s.ev y with | some v => (viewsOf v.cells, 20) | none => ([], 20))
 | .buildSlice _ _ ps => (viewsOf (evCells s ps.toList), 20)
 | .call c =>
  (match c.callee with
   | .builtin .append => (match c.args.toList with | x :: _ => (match s.ev x with | some v => (viewsOf v.cells, idOf o.dst + 200) | none => ([], 20)) | [] => ([], 20))
   | _ => ([], 20))
 | _ => ([], 20)
def cop (T : Tab) (o : Oper) (s : St) : Option (Prop × St) :=
 match movesOf s o with
 | ([], _) => bop T o s
 | (l, n) => match preD s l n with | some s1 => bop T o s1 | none => none
theorem cop_ok {P : Program} {T : Tab} (hT : TabOk P T) {o : Oper} {s s' : St} {p : Prop} (h : cop T o s = some (p, s')) (hp : p) : StepOk P o s s' := by
 unfold cop at h
 split at h
 ·exact bop_ok hT h hp
 ·split at h
  ·rename_i s1 h1
   intro a w g hs
   obtain ⟨g1, hs1, hk1⟩ := preD_ok h1 a w g hs
   obtain ⟨r, a', w', g', k1, k2, k3, k4⟩ := bop_ok hT h hp a w g1 hs1
   exact ⟨r, a', w', g', k1, k2, k3, hk1.trans k4⟩
  ·simp at h
def isCallF (o : Oper) : Bool :=
 match o.op with
 | .call c => (match c.callee with | .builtin _ => false | _ => true)
 | _ => false
inductive GR where
 | stuck | go | skip
 | ask (d : Nat) (c b : Bool)
def guardA (all : Array Oper) (s : St) (o : Oper) : GR :=
 match o.guard with
 | none => .go
 | some (j, b) =>
  match (all[j]?).bind (·.dst) with
  | some d => (match lookS s.slots d with | some (.bool c) => .ask d c b | some (.tup []) => .skip | _ => .stuck)
  | none => .stuck
theorem guardA_go {all : Array Oper} {s : St} {o : Oper} (h : guardA all s o = .go) : wantA all s o = some true := by
 unfold guardA at h
 unfold wantA
 split at h
 ·rename_i hg; simp only [hg]
 ·rename_i j b hg
  split at h
  ·split at h <;> simp at h
  ·simp at h
theorem guardA_skip {all : Array Oper} {s : St} {o : Oper} (h : guardA all s o = .skip) : wantA all s o = some false := by
 unfold guardA at h
 unfold wantA
 split at h
 ·simp at h
 ·rename_i j b hg
  split at h
  ·rename_i d hd
   split at h
   ·simp at h
   ·rename_i hl; simp only [hg, hd, hl]
   ·simp at h
  ·simp at h
theorem guardA_ask {all : Array Oper} {s : St} {o : Oper} {d : Nat} {c b : Bool} (h : guardA all s o = .ask d c b) : lookS s.slots d = some (.bool c) ∧ ∃ j, o.guard = some (j, b) ∧ (all[j]?).bind (·.dst) = some d := by
 unfold guardA at h
 split at h
 ·simp at h
 ·rename_i j b' hg
  split at h
  ·rename_i d' hd
   split at h
   ·rename_i c' hl
    simp only [GR.ask.injEq] at h
    obtain ⟨rfl, rfl, rfl⟩ := h
    exact ⟨hl, j, hg, hd⟩
   ·simp at h
   ·simp at h
  ·simp at h
theorem Sim.same {s : St} {a : Act} {w : World} {g : Gh} (h : Sim s a w g) {d : Nat} {x : AV} (hd : lookS s.slots d = some x) : Sim (s.put (some d) x) a w g := by
 refine ⟨h.nt, h.defers, ?_, h.h, h.st⟩
 intro t y hy
 simp only [St.put, lookS_putS] at hy
 split at hy
 ·rename_i e; obtain rfl := Option.some.inj hy; subst e; exact h.slot _ _ hd
 ·exact h.slot _ _ hy
theorem RunsL.same {P : Program} {all : Array Oper} {os : List Oper} {s : St} {K : St → Prop} {d : Nat} {x : AV} (hd : lookS s.slots d = some x) (h : RunsL P all os (s.put (some d) x) K) : RunsL P all os s K :=
 fun a w g hs Q hQ l hl => h a w g (hs.same hd) Q hQ l hl
def goA (T : Tab) (all : Array Oper) : List Oper → St → (List Oper → St → Prop) → Prop
 | [], s, J => J [] s
 | o :: os, s, J =>
  match guardA all s o with
  | .stuck => J (o :: os) s
  | .skip => s.fits o.dst = true ∧ goA T all os (s.put o.dst (.tup [])) J
  | .go =>
   if isCallF o = true then J (o :: os) s
   else
    match cop T o s with
    | some (p, s') => p ∧ goA T all os s' J
    | none => J (o :: os) s
  | .ask d c b =>
   if c = b then
    (if isCallF o = true then J (o :: os) (s.put (some d) (.bool b))
    else
     match cop T o (s.put (some d) (.bool b)) with
     | some (p, s') => p ∧ goA T all os s' J
     | none => J (o :: os) (s.put (some d) (.bool b)))
   else s.fits o.dst = true ∧ goA T all os ((s.put (some d) (.bool (!b))).put o.dst (.tup [])) J
theorem wantA_put {all : Array Oper} {s : St} {o : Oper} {d j : Nat} {b x : Bool} (hg : o.guard = some (j, b)) (hd : (all[j]?).bind (·.dst) = some d) : wantA all (s.put (some d) (.bool x)) o = some (x == b) := by
 unfold wantA
 simp only [hg, hd, St.put, lookS_putS, if_true]
theorem goA_ok {P : Program} {T : Tab} (hT : TabOk P T) {all : Array Oper} {K : St → Prop} : ∀ {os : List Oper} {s : St}, goA T all os s (fun os' s' => RunsL P all os' s' K) → RunsL P all os s K
 | [], s, h => h
 | o :: os, s, h => by
  simp only [goA] at h
  split at h
  ·exact h
  ·rename_i hw
   exact RunsL.skip (guardA_skip hw) h.1 (goA_ok hT h.2)
  ·rename_i hw
   split at h
   ·exact h
   ·split at h
    ·rename_i p s' hb
     exact RunsL.step (guardA_go hw) (cop_ok hT hb h.1) (goA_ok hT h.2)
    ·exact h
  ·rename_i d c b hw
   obtain ⟨hl, j, hg, hd⟩ := guardA_ask hw
   split at h
   ·rename_i e
    subst e
    refine RunsL.same hl ?_
    split at h
    ·exact h
    ·split at h
     ·rename_i p s' hb
      exact RunsL.step (by rw [wantA_put hg hd]; simp) (cop_ok hT hb h.1) (goA_ok hT h.2)
     ·exact h
   ·rename_i e
    have hcb : c = !b := by cases c <;> cases b <;> simp_all
    rw [hcb] at hl
    refine RunsL.same hl ?_
    exact RunsL.skip (by rw [wantA_put hg hd]; cases b <;> rfl) h.1 (goA_ok hT h.2)
theorem RunsL.go {P : Program} {T : Tab} (hT : TabOk P T) {all : Array Oper} {os : List Oper} {s : St} {K : St → Prop} (h : ∀ J : List Oper → St → Prop, (∀ os' s', RunsL P all os' s' K → J os' s') → goA T all os s J) : RunsL P all os s K :=
 goA_ok hT (h _ fun _ _ h => h)
end Go.Proofs.YtiilnlihimdnlaaGreatDoorFw
/- Rules for the walk: what is read off a goal's form. -/
namespace Go.Proofs.YtiilnlihimdnlaaGreatDoorFw
open Go Go.RowKit
set_option linter.unusedVariables false
def thenR (P : Program) (y : Code) (Q : AE → St → Prop) : AE → St → Prop
 | .normal, s => RunsA P y s Q
 | e, s => Q e s
def blkR (id : Nat) (Q : AE → St → Prop) : AE → St → Prop
 | .exit id', s => if id' = id then Q .normal s else Q (.exit id') s
 | e, s => Q e s
theorem RunsA.sq {P : Program} {x y : Code} {s : St} {Q : AE → St → Prop} (h : RunsA P x s (thenR P y Q)) : RunsA P (.seq x y) s Q :=
 RunsA.seq fun K hK => h.mono fun e s' hq => by cases e <;> first | exact hK _ hq | exact hq
theorem RunsA.bk {P : Program} {s : St} {id : Nat} {c : Code} {Q : AE → St → Prop} (h : RunsA P c s (blkR id Q)) : RunsA P (.block id c) s Q :=
 RunsA.block (h.mono fun e s' hq => by cases e <;> exact hq)
structure At (e : AE) (s : St) (Q : AE → St → Prop) : Prop where
 out : Q e s
theorem RunsA.sk {P : Program} {s : St} {Q : AE → St → Prop} (h : At .normal s Q) : RunsA P .skip s Q := .skip h.out
theorem RunsA.rt {P : Program} {s : St} {Q : AE → St → Prop} (h : At .ret s Q) : RunsA P .ret s Q := .ret h.out
theorem RunsA.ex {P : Program} {s : St} {id : Nat} {Q : AE → St → Prop} (h : At (.exit id) s Q) : RunsA P (.exit id) s Q := .exit h.out
theorem At.n {P : Program} {y : Code} {s : St} {Q : AE → St → Prop} (h : RunsA P y s Q) : At .normal s (thenR P y Q) := ⟨h⟩
theorem At.x {P : Program} {y : Code} {s : St} {id : Nat} {Q : AE → St → Prop} (h : At (.exit id) s Q) : At (.exit id) s (thenR P y Q) := ⟨h.out⟩
theorem At.r {P : Program} {y : Code} {s : St} {Q : AE → St → Prop} (h : At .ret s Q) : At .ret s (thenR P y Q) := ⟨h.out⟩
theorem At.bn {s : St} {id : Nat} {Q : AE → St → Prop} (h : At .normal s Q) : At .normal s (blkR id Q) := ⟨h.out⟩
theorem At.br {s : St} {id : Nat} {Q : AE → St → Prop} (h : At .ret s Q) : At .ret s (blkR id Q) := ⟨h.out⟩
theorem At.bx {s : St} {id : Nat} {Q : AE → St → Prop} (h : At .normal s Q) : At (.exit id) s (blkR id Q) := ⟨by simp only [blkR, if_true]; exact h.out⟩
theorem At.by_ {s : St} {id id' : Nat} {Q : AE → St → Prop} (hne : (id' == id) = false) (h : At (.exit id') s Q) : At (.exit id') s (blkR id Q) := ⟨by simp only [blkR]; rw [if_neg (by simpa using hne)]; exact h.out⟩
theorem At.kn {s : St} {K : St → Prop} {Q : AE → St → Prop} (h : K s) : At .normal s (thenA K Q) := ⟨h⟩
theorem At.kx {s : St} {id : Nat} {K : St → Prop} {Q : AE → St → Prop} (h : At (.exit id) s Q) : At (.exit id) s (thenA K Q) := ⟨h.out⟩
theorem At.kr {s : St} {K : St → Prop} {Q : AE → St → Prop} (h : At .ret s Q) : At .ret s (thenA K Q) := ⟨h.out⟩
theorem At.er {s : St} {K : St → Prop} (h : K s) : At .ret s (endA K) := ⟨h⟩
theorem At.en {s : St} {K : St → Prop} (h : K s) : At .normal s (endA K) := ⟨h⟩
theorem RunsA.rq {P : Program} {T : Tab} (hT : TabOk P T) {id : Nat} {all : Array Oper} {s : St} {Q : AE → St → Prop}
 (h : ∀ J : List Oper → St → Prop, (∀ os' s', RunsL P all os' s' (fun s2 => At .normal s2 Q) → J os' s') → goA T all all.toList s J) : RunsA P (.region id all false) s Q :=
 RunsA.region (K := fun s2 => At .normal s2 Q) (RunsL.go hT h) fun s2 h => h.out
theorem FnA.of {P : Program} {f : FuncId} {fn : Func} {c : Code} {st : Bool} {xs : List AV} {os : List (Nat × List AV)} {R : AV → List (Nat × List AV) → List (Nat × List AV) → Prop}
 (hf : P.funcs[f]? = some fn) (hb : fn.body = some c) (hn : (fn.name == "runtime.NumGoroutine") = false) {nt : Nat} (hnt : fn.ntmps = nt) (hnt1 : xs.length ≤ nt)
 (h : RunsA P c ⟨nt, zipS 0 xs, zipO 0 os, st⟩ (endA (RetA P fn os.length R))) : FnA P f st xs os R :=
 fnA_of hf hb hn hnt hnt1 fun K hK => h.mono fun e s' hq => by cases e <;> first | exact hK _ hq | exact hq
theorem wrap_id {n : Int} (h0 : -9223372036854775808 ≤ n) (h1 : n ≤ 9223372036854775807) : IntKind.i64.wrap n = n := by
 rw [IntKind.wrap_i64]; omega
theorem natCast_nonneg (n : Nat) : ((0 : Int) ≤ (n : Int)) = True := by simp
attribute [go_sem] goA guardA wantA isCallF cop movesOf viewsOf lastP preD St.detach detF evCells bop aop aBuiltin St.fits St.ev evO evL lookS constA St.put putS sAssign elemOf' idOf St.newO mapS mapRef mapRefL killF setO dropO lookO vLenB vLen strT sliceT abin isBoolT
 St.node navG vIndexAddr vIndex arrOf vLoad lookA lookL fieldOf vFieldAddr vField vNilCheck vExtract vUn vConv vSlice bndA bnd0 sBox sAlloc sBuildSl elsOf mkE mkEl isAggK seqFrom sMake sAppend baseOf srcOf byteT
 dropOpt killG goneB cellsOf cellOf mkObj posOf isDead sStore St.storeL St.store1 St.plugL St.plug1 plugF navSet AV.setC AV.cells AV.width killP stripP solid vBytes isU8 u8Of allU8 u8L vBuild fillA setR slotZ fieldsTold
 tiFields St.back backF backR setRL setOL posL cell1 flatL flatC flatC.flatCs zipS zipO argA argAL passL evAll takeO resA res1 brw brwL mx mn
attribute [go_sem] if_true if_false Option.map_some Option.map_none Option.bind_some Option.bind_none List.map_cons List.map_nil List.getElem?_cons_zero List.getElem?_cons_succ List.getElem?_nil List.length_cons List.length_nil
 List.cons_append List.nil_append List.append_nil List.set_cons_zero List.set_cons_succ List.drop_zero List.drop_succ_cons List.take_succ_cons List.take_zero List.take_nil List.drop_nil Nat.zero_add Nat.add_zero Nat.mul_zero
 Nat.zero_mul Nat.mul_one Nat.one_mul true_and and_true false_and and_false Nat.lt_irrefl Nat.le_refl decide_true decide_false Bool.true_eq_false Bool.false_eq_true Bool.not_true Bool.not_false Bool.and_true Bool.true_and
 Bool.and_false Bool.false_and Bool.or_true Bool.true_or Bool.or_false Bool.false_or reduceCtorEq beq_self_eq_true ite_self eq_self not_false_eq_true not_true_eq_false ne_eq List.getElem?_toArray List.toList_toArray
 Option.some.injEq Option.isSome_some List.all_cons List.all_nil List.replicate_zero List.replicate_succ Int.toNat_zero Int.toNat_natCast List.contains_cons List.nodup_cons natCast_nonneg
end Go.Proofs.YtiilnlihimdnlaaGreatDoorFw
/- Regions whose order is drawn: quiet operations. -/
namespace Go.Proofs.YtiilnlihimdnlaaGreatDoorFw
open Go Go.RowKit
set_option linter.unusedVariables false
def qval (T : Tab) (s : St) (o : Oper) : Option (Prop × AV) :=
 match o.op with
 | .move x => (s.ev x).map fun y => (True, y)
 | .load t x => (match s.ev x with | some x => (vLoad T s t x).map fun y => (True, y) | none => none)
 | .nilCheck x => (match s.ev x with | some x => (vNilCheck x).map fun y => (True, y) | none => none)
 | .binOp op t x y _ => (match s.ev x, s.ev y with | some x, some y => abin T t op x y | _, _ => none)
 | .unOp op _ x => (match s.ev x with | some x => (vUn op x).map fun y => (True, y) | none => none)
 | .slice t x lo hi none => (match s.ev x, evO s lo, evO s hi with | some x, some lo, some hi => vSlice T s t x lo hi | _, _, _ => none)
 | .fieldAddr t x f => (match s.ev x with | some x => (vFieldAddr T t x f).map fun y => (True, y) | none => none)
 | .field t x f => (match s.ev x with | some x => (vField T t x f).map fun y => (True, y) | none => none)
 | .indexAddr t x i => (match s.ev x, s.ev i with | some x, some i => vIndexAddr T s t x i | _, _ => none)
 | .index t x i => (match s.ev x, s.ev i with | some x, some i => vIndex T t x i | _, _ => none)
 | .extract x i => (match s.ev x with | some x => (vExtract x i).map fun y => (True, y) | none => none)
 | .build t ps => if tiFields T t = true then (vBuild T s t ps.toList).map fun y => (True, y) else none
 | .pick c x y =>
  (match s.ev c with
   | some (.bool true) => (s.ev x).map fun z => (True, z)
   | some (.bool false) => (s.ev y).map fun z => (True, z)
   | _ => none)
 | .convert t u x =>
  (match T t with
   | some { k := .slice _, .. } => (match s.ev x with | some z => (vBytes T s t u z).map fun y => (True, y) | none => none)
   | _ => (match s.ev x with | some x => (vConv T t u x).map fun y => (True, y) | none => none))
 | .call c =>
  (match c.callee with
   | .builtin .len => (match c.args.toList, c.argTypes.toList with | [x], [t] => (match s.ev x with | some x => (vLenB T s t x).map fun y => (True, y) | none => none) | _, _ => none)
   | _ => none)
 | _ => none
theorem qval_bop {T : Tab} {s : St} {o : Oper} {p : Prop} {y : AV} (hf : s.fits o.dst = true) (h : qval T s o = some (p, y)) : bop T o s = some (p, s.put o.dst y) := by
 have hf' : ¬ s.fits o.dst = false := by simp [hf]
 unfold qval at h
 split at h
 ·rename_i x hop; simp only [Option.map_eq_some_iff, Prod.mk.injEq] at h; obtain ⟨z, hz, rfl, rfl⟩ := h; simp only [bop, aop, hop, if_neg hf', hz, Option.map_some]
 ·rename_i t x hop
  split at h
  ·rename_i x' hx; simp only [Option.map_eq_some_iff, Prod.mk.injEq] at h; obtain ⟨z, hz, rfl, rfl⟩ := h; simp only [bop, aop, hop, if_neg hf', hx, hz, Option.map_some]
  ·simp at h
 ·rename_i x hop
  split at h
  ·rename_i x' hx; simp only [Option.map_eq_some_iff, Prod.mk.injEq] at h; obtain ⟨z, hz, rfl, rfl⟩ := h; simp only [bop, aop, hop, if_neg hf', hx, hz, Option.map_some]
  ·simp at h
 ·rename_i op t x x2 t2 hop
  split at h
  ·rename_i x' y' hx hy; simp only [bop, aop, hop, if_neg hf', hx, hy, h, Option.map_some]
  ·simp at h
 ·rename_i op t x hop
  split at h
  ·rename_i x' hx; simp only [Option.map_eq_some_iff, Prod.mk.injEq] at h; obtain ⟨z, hz, rfl, rfl⟩ := h; simp only [bop, aop, hop, if_neg hf', hx, hz, Option.map_some]
  ·simp at h
 ·rename_i t x lo hi hop
  split at h
  ·rename_i x' lo' hi' hx hl hh; simp only [bop, aop, hop, if_neg hf', hx, hl, hh, h, Option.map_some]
  ·simp at h
 ·rename_i t x f hop
  split at h
  ·rename_i x' hx; simp only [Option.map_eq_some_iff, Prod.mk.injEq] at h; obtain ⟨z, hz, rfl, rfl⟩ := h; simp only [bop, aop, hop, if_neg hf', hx, hz, Option.map_some]
  ·simp at h
 ·rename_i t x f hop
  split at h
  ·rename_i x' hx; simp only [Option.map_eq_some_iff, Prod.mk.injEq] at h; obtain ⟨z, hz, rfl, rfl⟩ := h; simp only [bop, aop, hop, if_neg hf', hx, hz, Option.map_some]
  ·simp at h
 ·rename_i t x i hop
  split at h
  ·rename_i x' i' hx hi; simp only [bop, aop, hop, if_neg hf', hx, hi, h, Option.map_some]
  ·simp at h
 ·rename_i t x i hop
  split at h
  ·rename_i x' i' hx hi; simp only [bop, aop, hop, if_neg hf', hx, hi, h, Option.map_some]
  ·simp at h
 ·rename_i x i hop
  split at h
  ·rename_i x' hx; simp only [Option.map_eq_some_iff, Prod.mk.injEq] at h; obtain ⟨z, hz, rfl, rfl⟩ := h; simp only [bop, aop, hop, if_neg hf', hx, hz, Option.map_some]
  ·simp at h
 ·rename_i t ps hop
  split at h
  ·rename_i ht; simp only [Option.map_eq_some_iff, Prod.mk.injEq] at h; obtain ⟨z, hz, rfl, rfl⟩ := h; simp only [bop, aop, hop, if_neg hf', if_pos ht, hz, Option.map_some]
  ·simp at h
 ·rename_i c x y' hop
  split at h
  ·rename_i hc; simp only [Option.map_eq_some_iff, Prod.mk.injEq] at h; obtain ⟨z, hz, rfl, rfl⟩ := h; simp only [bop, hop, if_pos hf, hc, hz, Option.map_some]
  ·rename_i hc; simp only [Option.map_eq_some_iff, Prod.mk.injEq] at h; obtain ⟨z, hz, rfl, rfl⟩ := h; simp only [bop, hop, if_pos hf, hc, hz, Option.map_some]
  ·simp at h
 ·rename_i t u x hop
  split at h
  ·rename_i e sz by_ z0 ht
   split at h
   ·rename_i z' hz; simp only [Option.map_eq_some_iff, Prod.mk.injEq] at h; obtain ⟨z, hz2, rfl, rfl⟩ := h; simp only [bop, hop, ht, if_pos hf, hz, hz2, Option.map_some]
   ·simp at h
  ·rename_i hns
   split at h
   ·rename_i x' hx
    simp only [Option.map_eq_some_iff, Prod.mk.injEq] at h; obtain ⟨z, hz, rfl, rfl⟩ := h
    simp only [bop, hop]
    simp only [aop, hop, if_neg hf', hx, hz, Option.map_some]
   ·simp at h
 ·rename_i c hop
  split at h
  ·rename_i hc
   split at h
   ·rename_i x t hx ht
    split at h
    ·rename_i x' hx'; simp only [Option.map_eq_some_iff, Prod.mk.injEq] at h; obtain ⟨z, hz, rfl, rfl⟩ := h; simp only [bop, aop, aBuiltin, hop, if_neg hf', hc, hx, ht, hx', hz, Option.map_some]
    ·simp at h
   ·simp at h
  ·simp at h
 ·simp at h
theorem evL_congr {s s' : St} : ∀ {l : List (Nat × Operand)}, (∀ p ∈ l, s'.ev p.2 = s.ev p.2) → evL s' l = evL s l
 | [], _ => rfl
 | (f, x) :: r, h => by
  simp only [evL]
  rw [h (f, x) (by simp), evL_congr (fun p hp => h p (by simp [hp]))]
theorem qval_congr {T : Tab} {s s' : St} {o : Oper} (ho : s'.objs = s.objs) (h : ∀ x ∈ o.op.operands, s'.ev x = s.ev x) : qval T s' o = qval T s o := by
 have hL : ∀ t x, vLoad T s' t x = vLoad T s t x := fun t x => by unfold vLoad St.node; rw [ho]
 have hI : ∀ t x i, vIndexAddr T s' t x i = vIndexAddr T s t x i := fun t x i => by unfold vIndexAddr St.node; rw [ho]
 have hN : ∀ t x, vLenB T s' t x = vLenB T s t x := fun t x => by unfold vLenB vLen St.node; rw [ho]
 have hS : ∀ t x lo hi, vSlice T s' t x lo hi = vSlice T s t x lo hi := fun t x lo hi => by unfold vSlice St.node; rw [ho]
 have hB : ∀ t u x, vBytes T s' t u x = vBytes T s t u x := fun t u x => by unfold vBytes St.node; rw [ho]
 obtain ⟨dst, op, type, pos, after, guard⟩ := o
 cases op with
 | move x => simp only [qval, h x (by simp [Op.operands])]
 | load t x => simp only [qval, h x (by simp [Op.operands]), hL]
 | nilCheck x => simp only [qval, h x (by simp [Op.operands])]
 | binOp op t x y t2 => simp only [qval, h x (by simp [Op.operands]), h y (by simp [Op.operands])]
 | unOp op t x => simp only [qval, h x (by simp [Op.operands])]
 | slice t x lo hi mx =>
  cases mx with
  | some m => rfl
  | none =>
   have h1 : evO s' lo = evO s lo := by cases lo with
    | none => rfl
    | some y => simp only [evO, h y (by simp [Op.operands])]
   have h2 : evO s' hi = evO s hi := by cases hi with
    | none => rfl
    | some y => simp only [evO, h y (by simp [Op.operands])]
   simp only [qval, h x (by simp [Op.operands]), h1, h2, hS]
 | fieldAddr t x f => simp only [qval, h x (by simp [Op.operands])]
 | field t x f => simp only [qval, h x (by simp [Op.operands])]
 | indexAddr t x i => simp only [qval, h x (by simp [Op.operands]), h i (by simp [Op.operands]), hI]
 | index t x i => simp only [qval, h x (by simp [Op.operands]), h i (by simp [Op.operands])]
 | extract x i => simp only [qval, h x (by simp [Op.operands])]
 | build t ps =>
  have : evL s' ps.toList = evL s ps.toList := evL_congr fun p hp => h p.2 (by simp only [Op.operands, List.mem_toArray, List.mem_map]; exact ⟨p, hp, rfl⟩)
  simp only [qval, vBuild, this]
 | pick c x y => simp only [qval, h c (by simp [Op.operands]), h x (by simp [Op.operands]), h y (by simp [Op.operands])]
 | convert t u x => simp only [qval, h x (by simp [Op.operands]), hB]
 | call c =>
  simp only [qval]
  split
  ·rename_i hc
   split
   ·rename_i x t hx ht
    have : s'.ev x = s.ev x := h x (by
     simp only [Op.operands, Call.operands, hc]
     have : x ∈ c.args.toList := by rw [hx]; simp
     simpa using this)
    simp only [this, hN]
   ·rfl
  ·rfl
 | _ => rfl
theorem ev_congr {s s' : St} {o : Oper} {all : Array Oper} (h : ∀ t ∈ o.looksAt all, lookS s'.slots t = lookS s.slots t) : ∀ x ∈ o.op.operands, s'.ev x = s.ev x := by
 intro x hx
 cases x with
 | tmp t => exact h t (List.mem_append_left _ (List.mem_filterMap.2 ⟨.tmp t, by simpa using hx, rfl⟩))
 | _ => rfl
theorem wantA_congr {s s' : St} {o : Oper} {all : Array Oper} (h : ∀ t ∈ o.looksAt all, lookS s'.slots t = lookS s.slots t) : wantA all s' o = wantA all s o := by
 unfold wantA
 split
 ·rfl
 ·rename_i j b hg
  split
  ·rename_i d hd
   rw [h d (List.mem_append_right _ (by simp [hg, hd]))]
  ·rfl
def IStep (P : Program) (all : Array Oper) (o : Oper) (s s' : St) : Prop :=
 ∀ a w g, Sim s a w g → ∀ (K : Act → World → Prop) (Q : Exit → Act → World → Prop), (∀ a' w' g', Sim s' a' w' g' → Keep g w g' w' → K a' w') →
  if Region.wanted o (yielded all a.tmps) then o.wp P a w K Q else K (a.put o.dst undef) w
def QStep (P : Program) (all : Array Oper) (o : Oper) (s : St) (y : AV) : Prop :=
 ∀ s' : St, s'.nt = s.nt → s'.objs = s.objs → s'.st = s.st → (∀ t ∈ o.looksAt all, lookS s'.slots t = lookS s.slots t) → IStep P all o s' (s'.put o.dst y)
def QRuns (P : Program) (all : Array Oper) : List Oper → St → (St → Prop) → Prop
 | [], s, K => K s
 | o :: os, s, K => ∃ y, QStep P all o s y ∧ QRuns P all os (s.put o.dst y) K
theorem fits_congr {s s' : St} (h : s'.nt = s.nt) (d : Option Nat) : s'.fits d = s.fits d := by cases d <;> simp [St.fits, h]
theorem QStep.pure {P : Program} {T : Tab} (hT : TabOk P T) {all : Array Oper} {o : Oper} {s : St} {p : Prop} {y : AV} (hw : wantA all s o = some true) (hf : s.fits o.dst = true) (hv : qval T s o = some (p, y)) (hp : p) : QStep P all o s y := by
 intro s' h1 h2 h3 h4 a w g hs K Q hK
 have hw' : wantA all s' o = some true := (wantA_congr h4).trans hw
 rw [wantA_ok hw' hs]
 simp only [if_true]
 have hf' : s'.fits o.dst = true := (fits_congr h1 _).trans hf
 have hb := qval_bop hf' ((qval_congr h2 (ev_congr h4)).trans hv)
 obtain ⟨r, a1, w1, g1, hr, hcase, hsim, hk⟩ := bop_ok hT hb hp a w g hs
 simp only [Oper.wp, hr]
 rcases hcase with ⟨v, rfl, rfl⟩ | ⟨rfl, rfl⟩ <;> exact hK _ _ _ hsim hk
theorem QStep.skip {P : Program} {all : Array Oper} {o : Oper} {s : St} (hw : wantA all s o = some false) (hf : s.fits o.dst = true) : QStep P all o s (.tup []) := by
 intro s' h1 h2 h3 h4 a w g hs K Q hK
 have hw' : wantA all s' o = some false := (wantA_congr h4).trans hw
 rw [wantA_ok hw' hs]
 simp only [if_false, Bool.false_eq_true]
 exact hK _ _ _ (hs.put ((fits_congr h1 _).trans hf) (.tup [] #[] rfl (fun k c u hc => by simp at hc))) (Keep.refl g w)
def goQ (T : Tab) (all : Array Oper) : List Oper → St → (List Oper → St → Prop) → Prop
 | [], s, J => J [] s
 | o :: os, s, J =>
  match wantA all s o with
  | some true =>
   if isCallF o = true then J (o :: os) s
   else
    match qval T s o with
    | some (p, y) => s.fits o.dst = true ∧ p ∧ goQ T all os (s.put o.dst y) J
    | none => False
  | some false => s.fits o.dst = true ∧ goQ T all os (s.put o.dst (.tup [])) J
  | none => J (o :: os) s
theorem goQ_ok {P : Program} {T : Tab} (hT : TabOk P T) {all : Array Oper} {K : St → Prop} : ∀ {os : List Oper} {s : St}, goQ T all os s (fun os' s' => QRuns P all os' s' K) → QRuns P all os s K
 | [], s, h => h
 | o :: os, s, h => by
  simp only [goQ] at h
  split at h
  ·rename_i hw
   split at h
   ·exact h
   ·split at h
    ·rename_i p y hv
     exact ⟨y, QStep.pure hT hw h.1 hv h.2.1, goQ_ok hT h.2.2⟩
    ·exact h.elim
  ·rename_i hw
   exact ⟨.tup [], QStep.skip hw h.1, goQ_ok hT h.2⟩
  ·exact h
theorem QRuns.go {P : Program} {T : Tab} (hT : TabOk P T) {all : Array Oper} {os : List Oper} {s : St} {K : St → Prop} (h : ∀ J : List Oper → St → Prop, (∀ os' s', QRuns P all os' s' K → J os' s') → goQ T all os s J) : QRuns P all os s K :=
 goQ_ok hT (h _ fun _ _ h => h)
end Go.Proofs.YtiilnlihimdnlaaGreatDoorFw
/- Regions whose order is drawn: whatever the order, the same. -/
namespace Go.Proofs.YtiilnlihimdnlaaGreatDoorFw
open Go Go.RowKit
set_option linter.unusedVariables false
theorem Sim.drawn {s : St} {a : Act} {w : World} {g : Gh} (h : Sim s a w g) (n : Nat) : Sim s a { w with drawn := n } g := by
 have hr : RdKeep g w g { w with drawn := n } := ⟨fun b hb => ⟨hb, rfl⟩, fun b hb => ⟨.inr hb, rfl⟩⟩
 exact h.turnSame hr (fun _ _ => rfl) (objs := s.objs) ⟨fun id sz es hl => let ⟨v, hv⟩ := h.h.obj id sz es hl; ⟨v, hv.stay hr (fun b r hb => ⟨rfl, hb⟩) (fun _ => rfl)⟩, h.h.sep, ⟨h.h.rdlt.lt, h.h.rdlt.gl, h.h.rdlt.ge⟩⟩
theorem Keep.drawn (g : Gh) (w : World) (n : Nat) : Keep g w g { w with drawn := n } :=
 ⟨rfl, rfl, rfl, Nat.le_refl _, fun _ _ h => ⟨rfl, h⟩, fun _ h => h, fun _ _ h => .inl h, fun _ => Iff.rfl, fun _ _ _ _ => rfl, rfl⟩
theorem Sim.congr {s s' : St} {a : Act} {w : World} {g : Gh} (h : Sim s a w g) (h1 : s'.nt = s.nt) (h2 : ∀ t, lookS s'.slots t = lookS s.slots t) (h3 : s'.objs = s.objs) (h4 : s'.st = s.st) : Sim s' a w g where
 nt := h.nt.trans h1.symm
 defers := h.defers
 slot := fun t x hx => h.slot t x (by rw [← h2]; exact hx)
 h := by rw [h3]; exact h.h
 st := h4.trans h.st
theorem put_look (s : St) (d : Option Nat) (y : AV) (t : Nat) : lookS (s.put d y).slots t = if d = some t then some y else lookS s.slots t := by
 cases d with
 | none => simp [St.put]
 | some d =>
  simp only [St.put, lookS_putS, Option.some.injEq]
theorem put_nt (s : St) (d : Option Nat) (y : AV) : (s.put d y).nt = s.nt := by cases d <;> rfl
theorem put_objs (s : St) (d : Option Nat) (y : AV) : (s.put d y).objs = s.objs := by cases d <;> rfl
theorem put_st (s : St) (d : Option Nat) (y : AV) : (s.put d y).st = s.st := by cases d <;> rfl
theorem QRuns.tell {P : Program} {all : Array Oper} {K : St → Prop} : ∀ {os : List Oper} {s : St}, QRuns P all os s K →
 ∃ e : St, K e ∧ e.nt = s.nt ∧ e.objs = s.objs ∧ e.st = s.st ∧ (∀ t, (∀ (j : Nat) (o : Oper), os[j]? = some o → o.dst ≠ some t) → lookS e.slots t = lookS s.slots t) ∧
  ∀ (i : Nat) (o : Oper), os[i]? = some o → ∃ (si : St) (y : AV), QStep P all o si y ∧ si.nt = s.nt ∧ si.objs = s.objs ∧ si.st = s.st ∧
   (∀ t, (∀ (j : Nat) (o' : Oper), i ≤ j → os[j]? = some o' → o'.dst ≠ some t) → lookS e.slots t = lookS si.slots t) ∧
   (∀ d, o.dst = some d → (∀ (j : Nat) (o' : Oper), i < j → os[j]? = some o' → o'.dst ≠ some d) → lookS e.slots d = some y)
 | [], s, h => ⟨s, h, rfl, rfl, rfl, fun _ _ => rfl, fun i o hi => by simp at hi⟩
 | o0 :: os, s, h => by
  obtain ⟨y, hq, hr⟩ := h
  obtain ⟨e, h1, h2, h3, h4, h5, h6⟩ := QRuns.tell hr
  rw [put_nt] at h2
  rw [put_objs] at h3
  rw [put_st] at h4
  refine ⟨e, h1, h2, h3, h4, ?_, ?_⟩
  ·intro t ht
   rw [h5 t (fun j o hj => ht (j + 1) o (by simpa using hj)), put_look, if_neg (ht 0 o0 rfl)]
  ·intro i o hi
   cases i with
   | zero =>
    simp at hi; subst hi
    refine ⟨s, y, hq, rfl, rfl, rfl, ?_, ?_⟩
    ·intro t ht
     rw [h5 t (fun j o hj => ht (j + 1) o (Nat.zero_le _) (by simpa using hj)), put_look, if_neg (ht 0 o0 (Nat.le_refl _) rfl)]
    ·intro d hd ht
     rw [h5 d (fun j o hj => ht (j + 1) o (Nat.zero_lt_succ _) (by simpa using hj)), put_look, if_pos hd]
   | succ i =>
    obtain ⟨si, y', k1, k2, k3, k4, k5, k6⟩ := h6 i o (by simpa using hi)
    rw [put_nt] at k2
    rw [put_objs] at k3
    rw [put_st] at k4
    refine ⟨si, y', k1, k2, k3, k4, ?_, ?_⟩
    ·intro t ht
     exact k5 t (fun j o' hj ho => ht (j + 1) o' (by omega) (by simpa using ho))
    ·intro d hd ht
     exact k6 d hd (fun j o' hj ho => ht (j + 1) o' (by omega) (by simpa using ho))
def drawOk (all : Array Oper) : Bool :=
 (List.range all.size).all fun i =>
   match all[i]? with
   | none => true
   | some o =>
    (o.after.all fun e => !Region.binds .any e || decide (e.on < i)) &&
    (List.range all.size).all fun j =>
      match (all[j]?).bind (·.dst) with
      | none => true
      | some d =>
       (decide (j = i) || o.dst != some d) &&
       (!(o.looksAt all).contains d || (decide (j < i) && o.after.any fun e => Region.binds .any e && e.on == j))
theorem drawOk_spec {all : Array Oper} (h : drawOk all = true) {i : Nat} {o : Oper} (hi : all[i]? = some o) :
 (∀ e ∈ o.after, Region.binds .any e = true → e.on < i) ∧
 (∀ j o' d, all[j]? = some o' → o'.dst = some d → (j = i ∨ o.dst ≠ some d) ∧ (d ∈ o.looksAt all → j < i ∧ ∃ e ∈ o.after, Region.binds .any e = true ∧ e.on = j)) := by
 have hlt : i < all.size := by
  rcases Nat.lt_or_ge i all.size with h' | h'
  ·exact h'
  ·simp [Array.getElem?_eq_none h'] at hi
 unfold drawOk at h
 rw [List.all_eq_true] at h
 have h1 := h i (List.mem_range.2 hlt)
 simp only [hi, Bool.and_eq_true] at h1
 refine ⟨?_, ?_⟩
 ·intro e he hb
  have := h1.1
  rw [Array.all_eq_true'] at this
  have := this e he
  simpa [hb] using this
 ·intro j o' d hj hd
  have hjlt : j < all.size := by
   rcases Nat.lt_or_ge j all.size with h' | h'
   ·exact h'
   ·simp [Array.getElem?_eq_none h'] at hj
  have h2 := (List.all_eq_true.1 h1.2) j (List.mem_range.2 hjlt)
  simp only [hj, Option.bind_some, hd, Bool.and_eq_true, Bool.or_eq_true, decide_eq_true_eq, bne_iff_ne] at h2
  refine ⟨h2.1, ?_⟩
  intro hm
  rcases h2.2 with h3 | h3
  ·rw [show (o.looksAt all).contains d = true from List.contains_iff_mem.2 hm] at h3; simp at h3
  ·rw [Array.any_eq_true'] at h3
   obtain ⟨h4, e, he, h5⟩ := h3
   rw [Bool.and_eq_true] at h5
   exact ⟨h4, e, he, h5.1, by simpa using h5.2⟩
def nOff (l : Array Bool) : Nat := l.toList.countP (! ·)
theorem nOff_set {l : Array Bool} {i : Nat} (hi : i < l.size) (hf : l.getD i true = false) : nOff (l.setIfInBounds i true) + 1 = nOff l := by
 have hg : l.toList[i]? = some false := by
  simp only [Array.getElem?_toList]
  rw [Array.getElem?_eq_getElem hi]
  simp only [Array.getD_eq_getD_getElem?, Array.getElem?_eq_getElem hi, Option.getD_some] at hf
  rw [hf]
 unfold nOff
 rw [Array.toList_setIfInBounds]
 have key : ∀ (m : List Bool) (i : Nat), m[i]? = some false → (m.set i true).countP (! ·) + 1 = m.countP (! ·) := by
  intro m
  induction m with
  | nil => intro i h; simp at h
  | cons b m ih =>
   intro i h
   cases i with
   | zero => simp at h; subst h; simp
   | succ i =>
    have := ih i (by simpa using h)
    simp only [List.set_cons_succ, List.countP_cons]
    omega
 exact key _ _ hg
theorem nOff_zero {l : Array Bool} (h : nOff l = 0) {i : Nat} (hi : i < l.size) : l.getD i true = true := by
 unfold nOff at h
 rw [List.countP_eq_zero] at h
 have := h l[i] (by simp)
 simp only [Array.getD_eq_getD_getElem?, Array.getElem?_eq_getElem hi, Option.getD_some]
 simpa using this
theorem least {p : Nat → Prop} [DecidablePred p] : ∀ {n : Nat}, p n → ∃ m, p m ∧ ∀ j, j < m → ¬ p j := by
 intro n
 induction n using Nat.strongRecOn with
 | _ n ih =>
  intro hn
  by_cases h : ∃ j, j < n ∧ p j
  ·obtain ⟨j, hj, hp⟩ := h; exact ih j hj hp
  ·exact ⟨n, hn, fun j hj hp => h ⟨j, hj, hp⟩⟩
structure Upto (all : Array Oper) (listed : Array Bool) (e s : St) : Prop where
 nt : s.nt = e.nt
 objs : s.objs = e.objs
 st : s.st = e.st
 look : ∀ t, (∀ (j : Nat) (o : Oper), all[j]? = some o → o.dst = some t → listed.getD j true = true) → lookS s.slots t = lookS e.slots t
theorem draw_any {P : Program} {all : Array Oper} {e : St} {Q : Exit → Act → World → Prop} {w0 : World} {g0 : Gh} (hok : drawOk all = true)
 (hst : ∀ (i : Nat) (o : Oper), all[i]? = some o → ∃ (si : St) (y : AV), QStep P all o si y ∧ si.nt = e.nt ∧ si.objs = e.objs ∧ si.st = e.st ∧
   (∀ t, (∀ (j : Nat) (o' : Oper), i ≤ j → all[j]? = some o' → o'.dst ≠ some t) → lookS e.slots t = lookS si.slots t) ∧
   (∀ d, o.dst = some d → (∀ (j : Nat) (o' : Oper), i < j → all[j]? = some o' → o'.dst ≠ some d) → lookS e.slots d = some y))
 (hQ : ∀ a' w' g', Sim e a' w' g' → Keep g0 w0 g' w' → Q .normal a' w') :
 ∀ (fuel : Nat) (listed : Array Bool) (s : St) (a : Act) (w : World) (g : Gh), listed.size = all.size → nOff listed = fuel → Sim s a w g → Keep g0 w0 g w → Upto all listed e s →
  wpAny P .any all Q fuel listed a w := by
 intro fuel
 have hready : ∀ (listed : Array Bool) (i : Nat), i ∈ Region.ready .any all listed → ∃ o, all[i]? = some o ∧ i < all.size ∧ listed.getD i true = false ∧ ∀ e ∈ o.after, Region.binds .any e = true → listed.getD e.on false = true := by
  intro listed i hi
  simp only [Region.ready, List.mem_filter, List.mem_range, Bool.and_eq_true, Bool.not_eq_true'] at hi
  obtain ⟨h1, h2, h3⟩ := hi
  cases ho : all[i]? with
  | none => simp [ho] at h3
  | some o =>
   refine ⟨o, rfl, h1, h2, ?_⟩
   rw [ho] at h3
   simp only [Option.map_some, Option.getD_some] at h3
   rw [Array.all_eq_true'] at h3
   intro e he hb
   have := h3 e he
   simpa [hb] using this
 have hend : ∀ (listed : Array Bool) (s : St) (a : Act) (w : World) (g : Gh), listed.size = all.size → nOff listed = 0 → Sim s a w g → Keep g0 w0 g w → Upto all listed e s → Region.ready .any all listed = [] ∧ Q .normal a w := by
  intro listed s a w g hsz hn hs hk hu
  refine ⟨?_, ?_⟩
  ·rw [List.eq_nil_iff_forall_not_mem]
   intro i hi
   obtain ⟨o, h1, h2, h3, _⟩ := hready listed i hi
   rw [nOff_zero hn (by omega)] at h3
   simp at h3
  ·refine hQ a w g (hs.congr hu.nt.symm ?_ hu.objs.symm hu.st.symm) hk
   intro t
   exact (hu.look t (fun j o hj _ => by
    rcases Nat.lt_or_ge j all.size with h | h
    ·exact nOff_zero hn (by omega)
    ·simp [Array.getElem?_eq_none h] at hj)).symm
 induction fuel with
 | zero => intro listed s a w g hsz hn hs hk hu; exact hend listed s a w g hsz hn hs hk hu
 | succ fuel ih =>
  intro listed s a w g hsz hn hs hk hu
  refine ⟨?_, ?_⟩
  ·intro hnil
   exfalso
   -- the least that is not listed is ready
   have hex : ∃ i, i < all.size ∧ listed.getD i true = false := by
    by_cases h : ∃ i, i < all.size ∧ listed.getD i true = false
    ·exact h
    ·exfalso
     have : nOff listed = 0 := by
      unfold nOff
      rw [List.countP_eq_zero]
      intro b hb
      obtain ⟨i, hi⟩ := List.mem_iff_getElem?.1 hb
      simp only [Array.getElem?_toList] at hi
      have hlt : i < listed.size := by
       rcases Nat.lt_or_ge i listed.size with h' | h'
       ·exact h'
       ·simp [Array.getElem?_eq_none h'] at hi
      have h2 : listed.getD i true ≠ false := fun hc => h ⟨i, by omega, hc⟩
      simp only [Array.getD_eq_getD_getElem?, hi, Option.getD_some] at h2
      cases b <;> simp at h2 ⊢
     omega
   obtain ⟨i0, hi0⟩ := hex
   obtain ⟨m, ⟨hm1, hm2⟩, hm3⟩ := least (p := fun i => i < all.size ∧ listed.getD i true = false) hi0
   have hmem : m ∈ Region.ready .any all listed := by
    simp only [Region.ready, List.mem_filter, List.mem_range, Bool.and_eq_true, Bool.not_eq_true']
    refine ⟨hm1, hm2, ?_⟩
    have ho : all[m]? = some all[m] := Array.getElem?_eq_getElem hm1
    rw [ho]
    simp only [Option.map_some, Option.getD_some]
    rw [Array.all_eq_true']
    intro e' he
    cases hb : Region.binds .any e' with
    | false => rfl
    | true =>
     have hlt := (drawOk_spec hok ho).1 e' he hb
     have := hm3 e'.on hlt
     have hlt2 : e'.on < listed.size := by omega
     simp only [Bool.not_true, Bool.false_or]
     cases hd : listed.getD e'.on false with
     | true => rfl
     | false =>
      exfalso
      refine this ⟨by omega, ?_⟩
      simp only [Array.getD_eq_getD_getElem?, Array.getElem?_eq_getElem hlt2, Option.getD_some] at hd ⊢
      exact hd
   rw [hnil] at hmem
   simp at hmem
  ·intro i hi
   obtain ⟨o, ho, hlt, hoff, hpre⟩ := hready listed i hi
   obtain ⟨si, y, hq, k1, k2, k3, k4, k5⟩ := hst i o ho
   have hspec := drawOk_spec hok ho
   have hlook : ∀ t ∈ o.looksAt all, lookS s.slots t = lookS si.slots t := by
    intro t ht
    rw [hu.look t (fun j o' hj hd => by
     obtain ⟨_, h2⟩ := hspec.2 j o' t hj hd
     obtain ⟨_, e', he, hb, rfl⟩ := h2 ht
     have := hpre e' he hb
     rcases Nat.lt_or_ge e'.on listed.size with h' | h'
     ·simp only [Array.getD_eq_getD_getElem?, Array.getElem?_eq_getElem h', Option.getD_some] at this ⊢
      exact this
     ·simp [Array.getD_eq_getD_getElem?, Array.getElem?_eq_none h'])]
    refine k4 t (fun j o' hj hj2 hd => ?_)
    have := ((hspec.2 j o' t hj2 hd).2 ht).1
    omega
   have hstep := hq s (hu.nt.trans k1.symm) (hu.objs.trans k2.symm) (hu.st.trans k3.symm) hlook a w g hs
    (wpAny P .any all Q fuel (listed.setIfInBounds i true)) Q (fun a' w' g' hs' hk' => by
      refine ih (listed.setIfInBounds i true) (s.put o.dst y) a' w' g' (by simp [hsz]) (by have := nOff_set (by omega) hoff; omega) hs' (hk.trans hk') ?_
      refine ⟨by rw [put_nt]; exact hu.nt, by rw [put_objs]; exact hu.objs, by rw [put_st]; exact hu.st, ?_⟩
      intro t ht
      rw [put_look]
      split
      ·rename_i hd
       refine (k5 t hd (fun j o' hj hj2 hd2 => ?_)).symm
       rcases (hspec.2 j o' t hj2 hd2).1 with h1 | h1
       ·omega
       ·exact h1 hd
      ·rename_i hd
       refine hu.look t (fun j o' hj hd2 => ?_)
       have := ht j o' hj hd2
       by_cases hji : j = i
       ·subst hji; rw [ho] at hj; obtain rfl := Option.some.inj hj; exact absurd hd2 hd
       ·simp only [Array.getD_eq_getD_getElem?, Array.getElem?_setIfInBounds_ne (fun h => hji h.symm)] at this ⊢
        exact this)
   unfold wpOp
   simp only [ho]
   split at hstep
   ·rename_i hw; rw [if_pos hw]; exact .inl hstep
   ·rename_i hw; rw [if_neg hw]; exact hstep
theorem nOff_replicate (n : Nat) : nOff (Array.replicate n false) = n := by
 simp only [nOff, Array.toList_replicate]
 rw [List.countP_replicate]
 rfl
theorem RunsA.dq {P : Program} {T : Tab} (hm : P.follows .mixedOrders = true) (hT : TabOk P T) {id : Nat} {all : Array Oper} {s : St} {Q : AE → St → Prop} (hok : drawOk all = true)
 (h : ∀ J : List Oper → St → Prop, (∀ os' s', QRuns P all os' s' (fun s2 => At .normal s2 Q) → J os' s') → goQ T all all.toList s J) : RunsA P (.region id all true) s Q := by
 intro a w g hs
 have hq : QRuns P all all.toList s (fun s2 => At .normal s2 Q) := QRuns.go hT h
 obtain ⟨e, he, h1, h2, h3, h4, h5⟩ := hq.tell
 refine wp_region_any hm ?_
 refine draw_any (e := e) (w0 := w) (g0 := g) hok ?_ ?_ all.size (Array.replicate all.size false) s a _ g (by simp) (nOff_replicate _) (hs.drawn _) (Keep.drawn g w _) ⟨h1.symm, h2.symm, h3.symm, ?_⟩
 ·intro i o hi
  obtain ⟨si, y, k1, k2, k3, k4, k5, k6⟩ := h5 i o (by simpa using hi)
  exact ⟨si, y, k1, k2.trans h1.symm, k3.trans h2.symm, k4.trans h3.symm, fun t ht => k5 t (fun j o' hj ho => ht j o' hj (by simpa using ho)), fun d hd ht => k6 d hd (fun j o' hj ho => ht j o' hj (by simpa using ho))⟩
 ·intro a' w' g' hs' hk'
  exact ⟨.normal, e, g', rfl, he.out, hs', hk'⟩
 ·intro t ht
  refine (h4 t (fun j o hj hd => ?_)).symm
  have hj' : all[j]? = some o := by simpa using hj
  have := ht j o hj' hd
  have hlt : j < all.size := by
   rcases Nat.lt_or_ge j all.size with h' | h'
   ·exact h'
   ·simp [Array.getElem?_eq_none h'] at hj'
  simp [Array.getD_eq_getD_getElem?, hlt] at this
end Go.Proofs.YtiilnlihimdnlaaGreatDoorFw
/- Calls within drawn regions; small drawn regions, order by order. -/
namespace Go.Proofs.YtiilnlihimdnlaaGreatDoorFw
open Go Go.RowKit
set_option linter.unusedVariables false
theorem QRuns.nil {P : Program} {all : Array Oper} {s : St} {K : St → Prop} (h : K s) : QRuns P all [] s K := h
mutual
theorem mapRef_id {f : Nat → Path → Option (Nat × Path)} (hf : ∀ id q, f id q = some (id, q)) : ∀ x : AV, mapRef f x = x
 | .hd id q => by simp only [mapRef, hf]
 | .ref id q sz off n => by simp only [mapRef, hf]
 | .ptr id q sz i k => by simp only [mapRef, hf]
 | .agg cs => by simp only [mapRef, mapRefL_id hf cs]
 | .tup cs => by simp only [mapRef, mapRefL_id hf cs]
 | .fn g cs => by simp only [mapRef, mapRefL_id hf cs]
 | .int k n => rfl
 | .bool b => rfl
 | .str s => rfl
 | .nilI => rfl
 | .ifc _ => rfl
 | .nilP => rfl
 | .nilS => rfl
 | .row m sz es => rfl
 | .rp m cs => rfl
 | .vp cs => by simp only [mapRef, mapRefL_id hf cs]
 | .dead => rfl
theorem mapRefL_id {f : Nat → Path → Option (Nat × Path)} (hf : ∀ id q, f id q = some (id, q)) : ∀ l : List AV, mapRefL f l = l
 | [] => rfl
 | x :: r => by simp only [mapRefL, mapRef_id hf x, mapRefL_id hf r]
end
theorem mapS_id {f : Nat → Path → Option (Nat × Path)} (hf : ∀ id q, f id q = some (id, q)) : ∀ l : List (Nat × AV), mapS f l = l
 | [] => rfl
 | (t, x) :: r => by simp only [mapS, mapRef_id hf x, mapS_id hf r]
theorem back_nothing (s : St) (st : Bool) (d : Option Nat) (y : AV) (rid : Nat) : s.back st [] [] [] d y rid = s.put d (mapRef (backR [] rid) y) := by
 have h : mapS (backF st [] rid ([] : List (Nat × List AV)).length) s.slots = s.slots := mapS_id (by
  intro id q
  simp only [backF, List.length_nil, Nat.add_zero, posL]
  rw [if_neg (by omega)]) _
 unfold St.back
 rw [h]
 rfl
theorem evAll_congr {s s' : St} : ∀ {l : List Operand}, (∀ x ∈ l, s'.ev x = s.ev x) → evAll s' l = evAll s l
 | [], _ => rfl
 | x :: r, h => by
  simp only [evAll]
  rw [h x (by simp), evAll_congr (fun y hy => h y (by simp [hy]))]
mutual
theorem argA_congr {s s' : St} (ho : s'.objs = s.objs) (ps : List Nat) : ∀ x : AV, argA s' ps x = argA s ps x
 | .hd id q => by simp only [argA, St.node, ho]
 | .ref id q sz off n => by simp only [argA, St.node, ho]
 | .ptr id q sz i k => by simp only [argA, St.node, ho]
 | .agg cs => by simp only [argA, argAL_congr ho ps cs]
 | .tup cs => by simp only [argA, argAL_congr ho ps cs]
 | .fn g cs => by simp only [argA, argAL_congr ho ps cs]
 | .int k n => rfl
 | .bool b => rfl
 | .str s => rfl
 | .nilI => rfl
 | .ifc _ => rfl
 | .nilP => rfl
 | .nilS => rfl
 | .row m sz es => rfl
 | .rp m cs => rfl
 | .vp cs => rfl
 | .dead => rfl
theorem argAL_congr {s s' : St} (ho : s'.objs = s.objs) (ps : List Nat) : ∀ l : List AV, argAL s' ps l = argAL s ps l
 | [] => rfl
 | x :: r => by simp only [argAL, argA_congr ho ps x, argAL_congr ho ps r]
end
theorem QRuns.call {P : Program} {all : Array Oper} {o : Oper} {os : List Oper} {s : St} {K : St → Prop} {c : Call} {f : FuncId} {st : Bool} {xs ys : List AV} {R : AV → List (Nat × List AV) → List (Nat × List AV) → Prop} {y : AV}
 (hw : wantA all s o = some true) (hop : o.op = .call c) (hcal : c.callee = .value (.func f)) (hx : evAll s c.args.toList = some xs) (hy : argAL s [] xs = some ys)
 (hc : FnA P f st ys [] R) (hfit : s.fits o.dst = true) (hR : ∀ r os' ros, R r os' ros → r = y ∧ ros = []) (hb : mapRef (backR [] 16) y = y)
 (h : QRuns P all os (s.put o.dst y) K) : QRuns P all (o :: os) s K := by
 refine ⟨y, ?_, h⟩
 intro s' h1 h2 h3 h4 a w g hs K' Q hK
 have hw' : wantA all s' o = some true := (wantA_congr h4).trans hw
 rw [wantA_ok hw' hs]
 simp only [if_true]
 have hev := ev_congr h4
 have hx' : evAll s' c.args.toList = some xs := (evAll_congr fun x hx2 => hev x (by
  rw [hop]
  simp only [Op.operands, Call.operands, hcal, Array.mem_append]
  exact .inr (by simpa using hx2))).trans hx
 have hrun : (execOp a.eval o).run P w = .ok (.enter f (c.args.map a.eval)) w := by
  unfold execOp
  simp only [hop, resolve, hcal, Act.eval, Deferred.ofValue]
  simp only [pure_bind, invoke]
  rw [show (#[] ++ Array.map a.eval c.args ++ #[] : Array Value) = Array.map a.eval c.args by simp]
  exact run_callFunc hc.ok _ _
 obtain ⟨i1, i2⟩ := evAll_get hx'
 simp only [Oper.wp, hrun, Oper.upon_enter]
 refine (callA_ok hs hc.calls (ps := []) (os := []) List.nodup_nil (by simp) rfl ((argAL_congr h2 [] xs).trans hy) (vs := c.args.map a.eval) (by simp [i1]) ?_ ((fits_congr h1 _).trans hfit) (rid := 16) (by omega) rfl (.inr (.inr rfl))).mono ?_
 ·intro k x u hk hu
  obtain ⟨o', h5, h6⟩ := i2 k x hk
  have : u = a.eval o' := by
   rw [Array.getElem?_map] at hu
   have h1' : c.args[k]? = some o' := by simpa using h5
   rw [h1'] at hu
   exact (Option.some.inj hu).symm
  subst this
  exact hs.ev h6
 ·rintro e w1 ⟨v, r, os', ros, g1, rfl, hR', hlen, hk, hsim⟩
  obtain ⟨rfl, rfl⟩ := hR _ _ _ hR'
  obtain rfl : os' = [] := List.eq_nil_of_length_eq_zero hlen
  rw [back_nothing, hb] at hsim
  exact hK _ _ _ hsim hk
attribute [go_sem] goQ qval mapRef backR or_true true_or or_false false_or or_self and_self List.getD_cons_zero List.getD_cons_succ St.ren renF decide_eq_true_eq decide_eq_false_iff_not
end Go.Proofs.YtiilnlihimdnlaaGreatDoorFw
/- Returns of values that view objects of the call's own. -/
namespace Go.Proofs.YtiilnlihimdnlaaGreatDoorFw
open Go Go.RowKit
set_option linter.unusedVariables false
def RetV (n : Nat) (R : AV → List (Nat × List AV) → List (Nat × List AV) → Prop) (s : St) (x : AV) : Prop :=
 ∀ a w g v, Sim s a w g → Val g w x v → ∃ r os' ros g', R r os' ros ∧ Keep g w g' w ∧ os'.length = n ∧ ros.length ≤ 64 ∧
  (∀ b p, g'.own b = some p → ¬ g'.perm b ∧ ¬ g'.bor b ∧ b < w.heap.size) ∧ RdOk g' w ∧
  (∀ i sz es, os'[i]? = some (sz, es) → noBoL es = true ∧ ∃ v, Cell g' w (.at i []) (.row .own sz es) v) ∧
  (∀ i sz es, ros[i]? = some (sz, es) → noBoL es = true ∧ ∃ v, Cell g' w (.at (100 + i) []) (.row .own sz es) v) ∧
  cleanR n ros.length r = true ∧ Val g' w r v
theorem RetA.v {P : Program} {T : Tab} (hT : TabOk P T) {fn : Func} {n : Nat} {R : AV → List (Nat × List AV) → List (Nat × List AV) → Prop} {s : St} {xs : List AV}
 (hr : resA T s fn.results.toList = some xs) (h : RetV n R s (res1 xs)) : RetA P fn n R s := by
 intro a w g hs
 obtain ⟨vs, hl, hv, hrun⟩ := resA_ok (P := P) hT hs _ _ hr
 have hrun2 : (results fn a.tmps).run P w = .ok (if h : vs.toArray.size = 1 then vs.toArray[0] else .tuple vs.toArray) w := by
  rw [results_eq, Array.mapM_eq_mapM_toList]
  simp only [Sem.run_bind, map_eq_pure_bind, hrun, Result.andThen_ok, Sem.run_pure]
 have hval : Val g w (res1 xs) (if h : vs.toArray.size = 1 then vs.toArray[0] else .tuple vs.toArray) := by
  clear hrun hrun2 hr h
  match xs, vs, hl, hv with
  | [x], [v], _, hv => exact hv 0 x v rfl rfl
  | [], [], _, _ => exact .tup _ _ rfl (fun k c u hc _ => by simp at hc)
  | x :: y :: l, v :: u :: l', hl, hv =>
   have : ¬ ((v :: u :: l').toArray.size = 1) := by simp
   rw [dif_neg this]
   exact .tup _ _ (by simpa using hl) (fun k c u hc hu => hv k c u hc (by simpa using hu))
 obtain ⟨r, os', ros, g', h1⟩ := h a w g _ hs hval
 exact ⟨_, r, os', ros, g', hrun2, h1⟩
theorem RetV.det {n : Nat} {R : AV → List (Nat × List AV) → List (Nat × List AV) → Prop} {s s' : St} {x : AV} {id : Nat} {q : Path} {i k tid : Nat} (hd : s.detach id q i k tid = some s')
 (h : RetV n R s' (mapRef (detF id (q ++ [(i, k)]) tid) x)) : RetV n R s x := by
 intro a w g v hs hv
 have key : ∃ g', Sim s' a w g' ∧ Keep g w g' w ∧ Val g' w (mapRef (detF id (q ++ [(i, k)]) tid) x) v := by
  unfold St.detach at hd
  split at hd
  ·simp at hd
  rename_i hc
  split at hd
  ·rename_i rsz res hl ht
   split at hd
   ·rename_i sz es hn
    split at hd
    ·rename_i x' hx
     split at hd
     ·rename_i tsz tes hy
      obtain rfl := Option.some.inj hd
      have hH := hs.h.detach hl hn hx hy ht
      have hF : ∀ j r j' r', detF id (q ++ [(i, k)]) tid j r = some (j', r') → (gMove g id (q ++ [(i, k)]) tid []).loc j' r' = g.loc j r := by
       intro j r j' r' hf
       simp only [detF] at hf
       split at hf
       ·simp at hf
       ·rename_i hne1
        split at hf
        ·rename_i e
         subst e
         split at hf
         ·rename_i r0 hs0
          simp only [Option.some.injEq, Prod.mk.injEq] at hf
          obtain ⟨rfl, rfl⟩ := hf
          rw [stripP_some hs0]
          exact gMove_loc_to g _ _ _ [] r0
         ·rename_i hs0
          simp only [Option.some.injEq, Prod.mk.injEq] at hf
          obtain ⟨rfl, rfl⟩ := hf
          exact gMove_loc_else (fun _ e => absurd e hne1) (fun r _ => stripP_none hs0 r)
        ·rename_i hne2
         simp only [Option.some.injEq, Prod.mk.injEq] at hf
         obtain ⟨rfl, rfl⟩ := hf
         exact gMove_loc_else (fun _ e => absurd e hne1) (fun _ e => absurd e hne2)
      refine ⟨gMove g id (q ++ [(i, k)]) tid [], hs.turn (gMove_rd g id (q ++ [(i, k)]) tid [] w) hF hH, gMove_keep g id _ tid [] w ?_ (.inr (by omega)), hv.map (gMove_rd g id (q ++ [(i, k)]) tid [] w) hF⟩
      cases hst : g.st with
      | false => exact .inl ⟨by simp, rfl⟩
      | true =>
       refine .inr ?_
       rcases Nat.lt_or_ge id 16 with h16 | h16
       ·exact absurd (.inr ⟨hs.st.trans hst, h16⟩) hc
       ·exact h16
     ·simp at hd
    ·simp at hd
   ·simp at hd
  ·simp at hd
 obtain ⟨g1, h1, h2, h3⟩ := key
 obtain ⟨r, os', ros, g2, k1, k2, k3⟩ := h a w g1 v h1 h3
 exact ⟨r, os', ros, g2, k1, h2.trans k2, k3⟩
theorem RetV.ren {n : Nat} {R : AV → List (Nat × List AV) → List (Nat × List AV) → Prop} {s s' : St} {x : AV} {id id' : Nat} (hd : s.ren id id' = some s')
 (h : RetV n R s' (mapRef (renF id id') x)) : RetV n R s x := by
 intro a w g v hs hv
 have key : ∃ g', Sim s' a w g' ∧ Keep g w g' w ∧ Val g' w (mapRef (renF id id') x) v := by
  unfold St.ren at hd
  split at hd
  ·rename_i sz es hl
   split at hd
   ·rename_i hc
    obtain rfl := Option.some.inj hd
    have hF : ∀ j r j' r', renF id id' j r = some (j', r') → (gMove g id [] id' []).loc j' r' = g.loc j r := by
     intro j r j' r' hf
     simp only [renF] at hf
     split at hf
     ·rename_i e
      subst e
      simp only [Option.some.injEq, Prod.mk.injEq] at hf
      obtain ⟨rfl, rfl⟩ := hf
      exact gMove_loc_to g j [] id' [] r
     ·rename_i hne
      split at hf
      ·simp at hf
      ·rename_i hne2
       simp only [Option.some.injEq, Prod.mk.injEq] at hf
       obtain ⟨rfl, rfl⟩ := hf
       exact gMove_loc_else (fun _ e => absurd e hne2) (fun _ e => absurd e hne)
    exact ⟨gMove g id [] id' [], hs.turn (gMove_rd g id [] id' [] w) hF (hs.h.rename id id' sz es hl hc.2.1), gMove_keep g id [] id' [] w (.inr hc.2.2.1) (.inr hc.2.2.2), hv.map (gMove_rd g id [] id' [] w) hF⟩
   ·simp at hd
  ·simp at hd
 obtain ⟨g1, h1, h2, h3⟩ := key
 obtain ⟨r, os', ros, g2, k1, k2, k3⟩ := h a w g1 v h1 h3
 exact ⟨r, os', ros, g2, k1, h2.trans k2, k3⟩
theorem RetV.mk {n : Nat} {R : AV → List (Nat × List AV) → List (Nat × List AV) → Prop} {s : St} {x : AV} (m : Nat) {os ros : List (Nat × List AV)}
 (ho : takeO s.objs 0 n = some os) (hro : takeO s.objs 100 m = some ros) (hm : m ≤ 64)
 (hb : noBoO os = true) (hb2 : noBoO ros = true) (hcl : cleanR n m x = true) (hR : R x os ros) : RetV n R s x := by
 intro a w g v hs hv
 obtain ⟨l1, l2⟩ := takeO_get ho
 obtain ⟨m1, m2⟩ := takeO_get hro
 refine ⟨x, os, ros, g, hR, Keep.refl g w, l1, by omega, hs.h.sep, hs.h.rdlt, ?_, ?_, by rw [m1]; exact hcl, hv⟩
 ·intro i sz es hi
  exact ⟨noBoO_get hb hi, hs.h.obj i sz es (by simpa using l2 i _ hi)⟩
 ·intro i sz es hi
  exact ⟨noBoO_get hb2 hi, hs.h.obj (100 + i) sz es (m2 i _ hi)⟩
end Go.Proofs.YtiilnlihimdnlaaGreatDoorFw
