/- A call out of the caller's state, and back. -/
import Derived.Test.YtkhobcmkbldmiaaFw21
namespace Go.Proofs.YtkhobcmkbldmiaaFw
open Go Go.RowKit
set_option linter.unusedVariables false

def passL (objs : List Obj) : List Nat → Option (List (Nat × List AV))
  | [] => some []
  | i :: r =>
    match lookO objs i, passL objs r with
    | some p, some l => some (p :: l)
    | _, _ => none

theorem passL_get {objs : List Obj} : ∀ {ps : List Nat} {os : List (Nat × List AV)}, passL objs ps = some os → os.length = ps.length ∧
    ∀ (i : Nat) (p : Nat × List AV), os[i]? = some p → ∃ id, ps[i]? = some id ∧ lookO objs id = some p
  | [], os, h => by simp only [passL, Option.some.injEq] at h; subst h; exact ⟨rfl, fun i p h => by simp at h⟩
  | x :: r, os, h => by
    simp only [passL] at h
    split at h
    · rename_i p l h1 h2
      obtain rfl := Option.some.inj h
      obtain ⟨i1, i2⟩ := passL_get h2
      refine ⟨by simp [i1], ?_⟩
      intro i p' hi
      cases i with
      | zero => simp at hi; subst hi; exact ⟨x, rfl, h1⟩
      | succ i => obtain ⟨id, h3, h4⟩ := i2 i p' (by simpa using hi); exact ⟨id, by simpa using h3, h4⟩
    · simp at h

def setOL : List Obj → List Nat → List (Nat × List AV) → List Obj
  | objs, i :: r, p :: l => setO (setOL objs r l) i p.1 p.2
  | objs, _, _ => objs

theorem lookO_setOL : ∀ (ps : List Nat) (os : List (Nat × List AV)) (objs : List Obj) (id : Nat), os.length = ps.length →
    lookO (setOL objs ps os) id = match posL ps id with | some i => os[i]? | none => lookO objs id
  | [], [], objs, id, _ => rfl
  | x :: r, p :: l, objs, id, h => by
    simp only [setOL, lookO_setO, posL]
    by_cases e : x = id
    · simp [e]
    · rw [if_neg e, if_neg e, lookO_setOL r l objs id (by simpa using h)]
      cases hp : posL r id <;> simp

/-- What the caller's slots view of an object that was handed over: its own row, no row inside, unless no row moves. -/
def backF (st : Bool) (ps : List Nat) (rid m : Nat) : Nat → Path → Option (Nat × Path) := fun id q =>
  if rid ≤ id ∧ id < rid + m then none
  else
    match posL ps id with
    | some _ => if st = true then some (id, q) else (match q with | [] => some (id, []) | _ => none)
    | none => some (id, q)

/-- Where what the result views lies for the caller. -/
def backR (ps : List Nat) (rid : Nat) : Nat → Path → Option (Nat × Path) := fun id q =>
  match ps[id]? with
  | some j => some (j, q)
  | none => if 100 ≤ id then some (rid + (id - 100), q) else none

def setRL : List Obj → Nat → List (Nat × List AV) → List Obj
  | objs, _, [] => objs
  | objs, rid, p :: l => setO (setRL objs (rid + 1) l) rid p.1 p.2

theorem lookO_setRL : ∀ (l : List (Nat × List AV)) (objs : List Obj) (rid id : Nat),
    lookO (setRL objs rid l) id = if rid ≤ id ∧ id < rid + l.length then l[id - rid]? else lookO objs id
  | [], objs, rid, id => by
    simp only [setRL, List.length_nil, Nat.add_zero]
    rw [if_neg (by omega)]
  | p :: l, objs, rid, id => by
    simp only [setRL, lookO_setO, lookO_setRL l]
    by_cases e : rid = id
    · subst e
      rw [if_pos rfl, if_pos (by simp)]
      simp
    · rw [if_neg e]
      by_cases h : rid + 1 ≤ id ∧ id < rid + 1 + l.length
      · rw [if_pos h, if_pos (by simp only [List.length_cons]; omega)]
        have : id - rid = (id - (rid + 1)) + 1 := by omega
        rw [this, List.getElem?_cons_succ]
      · rw [if_neg h, if_neg (by simp only [List.length_cons]; omega)]

def St.back (s : St) (st : Bool) (ps : List Nat) (os ros : List (Nat × List AV)) (d : Option Nat) (r : AV) (rid : Nat) : St :=
  ({ s with slots := mapS (backF st ps rid ros.length) s.slots, objs := setRL (setOL s.objs ps os) rid ros } : St).put d (mapRef (backR ps rid) r)

def gCall (g : Gh) (ps : List Nat) (st : Bool) : Gh where
  loc := fun i q => match ps[i]? with | some id => g.loc id q | none => none
  own := fun b => match g.own b with | some (id, q) => (posL ps id).map (fun i => (i, q)) | none => none
  perm := g.perm
  bor := fun b => g.bor b ∨ ∃ id q, g.own b = some (id, q) ∧ posL ps id = none
  st := st

def gBack (g g1 : Gh) (ps : List Nat) (rid m : Nat) : Gh where
  loc := fun id q => if rid ≤ id ∧ id < rid + m then g1.loc (100 + (id - rid)) q else match posL ps id with | some i => g1.loc i q | none => g.loc id q
  own := fun b =>
    match g1.own b with
    | some (i, q) => (match ps[i]? with | some id => some (id, q) | none => if 100 ≤ i ∧ i < 100 + m then some (rid + (i - 100), q) else none)
    | none => match g.own b with | some (id, q) => if (posL ps id).isSome ∨ (rid ≤ id ∧ id < rid + m) then none else some (id, q) | none => none
  perm := g1.perm
  bor := g.bor
  st := g.st

theorem gCall_lends {objs : List Obj} {w : World} {g : Gh} (h : HSim objs w g) (ps : List Nat) (st : Bool) : Lends g w ps (gCall g ps st) where
  rd := ⟨fun b hb => ⟨hb, rfl⟩, fun b hb => ⟨.inr (.inl hb), rfl⟩⟩
  lent := fun b id q ho hp => .inr (.inr ⟨id, q, ho, hp⟩)
  loc := fun id i q hp => by simp only [gCall, posL_some hp]

theorem gCall_own {g : Gh} {ps : List Nat} {st : Bool} {b : Nat} {p : Nat × Path} (h : (gCall g ps st).own b = some p) : ∃ id, g.own b = some (id, p.2) ∧ posL ps id = some p.1 := by
  simp only [gCall] at h
  cases ho : g.own b with
  | none => simp [ho] at h
  | some jq =>
    obtain ⟨id, q⟩ := jq
    rw [ho] at h
    simp only [Option.map_eq_some_iff] at h
    obtain ⟨i, hi, rfl⟩ := h
    exact ⟨id, rfl, hi⟩

/-- Objects that are handed over, and where results go: apart. -/
def apartL : List Nat → Nat → Bool
  | [], _ => true
  | i :: r, rid => (decide (i < rid) || decide (rid + 64 ≤ i)) && apartL r rid

theorem apartL_ok : ∀ {ps : List Nat} {rid : Nat}, apartL ps rid = true → ∀ {id i : Nat}, posL ps id = some i → id < rid ∨ rid + 64 ≤ id
  | [], _, _, _, _, h => by simp [posL] at h
  | x :: r, rid, h, id, i, hp => by
    simp only [apartL, Bool.and_eq_true, Bool.or_eq_true, decide_eq_true_eq] at h
    simp only [posL] at hp
    split at hp
    · rename_i e; subst e; exact h.1
    · cases hq : posL r id with
      | none => simp [hq] at hp
      | some j => exact apartL_ok h.2 hq

def all16 : List Nat → Bool
  | [] => true
  | i :: r => decide (16 ≤ i) && all16 r

theorem all16_ok : ∀ {ps : List Nat}, all16 ps = true → ∀ {id i : Nat}, posL ps id = some i → 16 ≤ id
  | [], _, _, _, h => by simp [posL] at h
  | x :: r, h, id, i, hp => by
    simp only [all16, Bool.and_eq_true, decide_eq_true_eq] at h
    simp only [posL] at hp
    split at hp
    · rename_i e; subst e; exact h.1
    · cases hq : posL r id with
      | none => simp [hq] at hp
      | some j => exact all16_ok h.2 hq

theorem callA_ok {P : Program} {s : St} {a : Act} {w : World} {g : Gh} (hs : Sim s a w g) {f : FuncId} {st : Bool} {xs ys : List AV} {os : List (Nat × List AV)} {ps : List Nat} {R : AV → List (Nat × List AV) → List (Nat × List AV) → Prop}
    (hc : CallsA P f st ys os R) (hn : ps.Nodup) (hl : ps.length ≤ 16) (hp : passL s.objs ps = some os) (hy : argAL s ps xs = some ys) {vs : Array Value}
    (hvl : vs.size = xs.length) (hv : ∀ (k : Nat) (x : AV) (u : Value), xs[k]? = some x → vs[k]? = some u → Val g w x u) {d : Option Nat} (hd : s.fits d = true) {rid : Nat} (hr16 : 16 ≤ rid)
    (hrp : apartL ps rid = true) (hst : s.st = false ∨ st = true ∨ all16 ps = true) :
    Calls P f vs w fun e w' => ∃ v r os' ros g', e = .returned v ∧ R r os' ros ∧ os'.length = os.length ∧ Keep g w g' w' ∧ Sim (s.back st ps os' ros d r rid) (a.put d v) w' g' := by
  have hL := gCall_lends hs.h ps st
  obtain ⟨hyl, hyg⟩ := argAL_get s ps hy
  obtain ⟨hol, hog⟩ := passL_get hp
  have hown0 : ∀ b, g.own b = none → (gCall g ps st).own b = none := fun b hb => by simp [gCall, hb]
  have h := hc vs w (gCall g ps st) rfl (by omega) (fun k y u h1 h2 => by
      obtain ⟨x, h3, h4⟩ := hyg k y h1
      exact argA_ok hs hL (hv k x u h3 h2) y h4)
    (fun b p hb => by
      obtain ⟨id, ho, hi⟩ := gCall_own hb
      have := hs.h.sep b _ ho
      refine ⟨this.1, ?_, this.2.2⟩
      rintro (h1 | ⟨id', q', h1, h2⟩)
      · exact this.2.1 h1
      · rw [ho] at h1
        simp only [Option.some.injEq, Prod.mk.injEq] at h1
        rw [← h1.1, hi] at h2
        simp at h2)
    (fun b hb => by
      rcases hb with hb | hb | ⟨id, q, hb, _⟩
      · exact hs.h.rdlt b (.inl hb)
      · exact hs.h.rdlt b (.inr hb)
      · exact (hs.h.sep b _ hb).2.2)
    (fun i sz es hi => by
      obtain ⟨id, h1, h2⟩ := hog i _ hi
      obtain ⟨v, hv⟩ := hs.h.obj id sz es h2
      have hpi := posL_get hn h1
      exact ⟨v, hv.move hL.rd id [] i [] rfl (fun b r hb => ⟨rfl, by simp only [gCall, hb, hpi]; rfl⟩) (fun r => by simp only [gCall, h1])⟩)
  refine h.mono ?_
  rintro e w1 ⟨v, r, os', ros, g1, rfl, hR, hK, hol', hr64, hsep, hrdlt, hobj, hros, hcl, hval⟩
  have hg1 : ∀ b, b < w.heap.size → (gCall g ps st).own b = none → w1.heap[b]? = w.heap[b]? ∧ g1.own b = none := hK.old
  have hnps : ∀ b id q, g.own b = some (id, q) → posL ps id = none → (gCall g ps st).own b = none := fun b id q ho hi => by simp [gCall, ho, hi]
  have hnown : ∀ b, (g.perm b ∨ g.bor b) → g.own b = none := fun b hb => by
    cases ho : g.own b with
    | none => rfl
    | some p =>
      have := hs.h.sep b p ho
      rcases hb with hb | hb
      · exact absurd hb this.1
      · exact absurd hb this.2.1
  have hrd : RdKeep g w (gBack g g1 ps rid ros.length) w1 :=
    ⟨fun b hb => ⟨hK.perm b hb, (hg1 b (hs.h.rdlt b (.inl hb)) (hown0 b (hnown b (.inl hb)))).1⟩, fun b hb => ⟨.inr hb, (hg1 b (hs.h.rdlt b (.inr hb)) (hown0 b (hnown b (.inr hb)))).1⟩⟩
  have hpk : PermKeep g1 w1 (gBack g g1 ps rid ros.length) w1 := fun b hb => ⟨hb, rfl⟩
  have hroot : ∀ id i q, posL ps id = some i → (q = [] ∨ st = true) → g1.loc i q = g.loc id q := fun id i q hi hq => by
    have hlt : i < 16 := by have := lt_of_get (posL_some hi); omega
    rw [hK.root i q hlt hq]
    exact hL.loc id i q hi
  have hin : ∀ {id i : Nat}, posL ps id = some i → ¬ (rid ≤ id ∧ id < rid + ros.length) := fun hi h => by
    rcases apartL_ok hrp hi with h1 | h1 <;> omega
  have hK2 : Keep g w (gBack g g1 ps rid ros.length) w1 := by
    refine ⟨hK.os, hK.tape, hK.output, hK.size, ?_, hK.perm, ?_, fun b => Iff.rfl, ?_, rfl⟩
    · intro b hb ho
      obtain ⟨h1, h2⟩ := hg1 b hb (hown0 b ho)
      exact ⟨h1, by simp only [gBack, h2, ho]⟩
    · intro b hb h1
      rcases hK.permo b hb h1 with h2 | h2
      · exact .inl h2
      · obtain ⟨p, hp⟩ := Option.isSome_iff_exists.1 h2
        obtain ⟨id, ho, _⟩ := gCall_own hp
        exact .inr (by rw [ho]; rfl)
    · intro id q hid hq
      simp only [gBack]
      rw [if_neg (by omega)]
      cases hi : posL ps id with
      | none => rfl
      | some i =>
        refine hroot id i q hi ?_
        rcases hq with hq | hq
        · exact .inl hq
        · rcases hst with h1 | h1 | h1
          · rw [← hs.st, h1] at hq; simp at hq
          · exact .inr h1
          · have := all16_ok h1 hi; omega
  have hmoveR : ∀ i, i < ros.length → rid ≤ rid + i ∧ rid + i < rid + ros.length := fun i hi => by omega
  have hobjs : ∀ id sz es, lookO (setRL (setOL s.objs ps os') rid ros) id = some (sz, es) → ∃ v, Cell (gBack g g1 ps rid ros.length) w1 (.at id []) (.row .own sz es) v := by
    intro id sz es hlo
    rw [lookO_setRL] at hlo
    by_cases hR1 : rid ≤ id ∧ id < rid + ros.length
    · rw [if_pos hR1] at hlo
      obtain ⟨hnb, v', hv'⟩ := hros (id - rid) sz es hlo
      refine ⟨v', (hv'.moveN hpk (by simpa [noBo] using hnb)).2 (100 + (id - rid)) [] id [] rfl ?_ ?_⟩
      · intro b r hb
        refine ⟨rfl, ?_⟩
        simp only [gBack, hb]
        rw [show ps[100 + (id - rid)]? = none from List.getElem?_eq_none (by omega)]
        simp only [List.nil_append]
        rw [if_pos (by omega)]
        congr 2
        omega
      · intro r
        simp only [gBack, if_pos hR1, List.nil_append]
    · rw [if_neg hR1, lookO_setOL ps os' _ id (by omega)] at hlo
      cases hi : posL ps id with
      | some i =>
        rw [hi] at hlo
        obtain ⟨hnb, v', hv'⟩ := hobj i sz es hlo
        refine ⟨v', ((hv'.moveN hpk (by simpa [noBo] using hnb)).2 i [] id [] rfl ?_ ?_)⟩
        · intro b r hb
          exact ⟨rfl, by simp only [gBack, hb, posL_some hi]⟩
        · intro r
          simp only [gBack, if_neg hR1, hi]
      | none =>
        rw [hi] at hlo
        obtain ⟨v', hv'⟩ := hs.h.obj id sz es hlo
        refine ⟨v', hv'.stay hrd ?_ ?_⟩
        · intro b r hb
          obtain ⟨h1, h2⟩ := hg1 b (hs.h.sep b _ hb).2.2 (hnps b _ _ hb hi)
          exact ⟨h1, by simp only [gBack, h2, hb, hi]; simp [hR1]⟩
        · intro r
          simp only [gBack, if_neg hR1, hi]
  have hsep2 : ∀ b p, (gBack g g1 ps rid ros.length).own b = some p → ¬ (gBack g g1 ps rid ros.length).perm b ∧ ¬ (gBack g g1 ps rid ros.length).bor b ∧ b < w1.heap.size := by
    intro b p hb
    simp only [gBack] at hb ⊢
    cases h1 : g1.own b with
    | some iq =>
      have := hsep b iq h1
      exact ⟨this.1, fun h2 => this.2.1 ((hK.bor b).2 (.inl h2)), this.2.2⟩
    | none =>
      rw [h1] at hb
      simp only at hb
      cases h2 : g.own b with
      | none => rw [h2] at hb; simp at hb
      | some jq =>
        obtain ⟨id, q⟩ := jq
        rw [h2] at hb
        simp only at hb
        split at hb
        · simp at hb
        · rename_i hcond
          have hs2 := hs.h.sep b _ h2
          have hpn : posL ps id = none := by
            cases hpi : posL ps id with
            | none => rfl
            | some i => exact absurd (.inl (by rw [hpi]; rfl)) hcond
          refine ⟨?_, hs2.2.1, Nat.lt_of_lt_of_le hs2.2.2 hK.size⟩
          intro h3
          rcases hK.permo b hs2.2.2 h3 with h4 | h4
          · exact hs2.1 h4
          · rw [hnps b id q h2 hpn] at h4; simp at h4
  have hrdlt2 : ∀ b, (gBack g g1 ps rid ros.length).canRd b → b < w1.heap.size := by
    intro b hb
    rcases hb with hb | hb
    · exact hrdlt b (.inl hb)
    · exact Nat.lt_of_lt_of_le (hs.h.rdlt b (.inr hb)) hK.size
  have hF : ∀ id q id' q', backF st ps rid ros.length id q = some (id', q') → (gBack g g1 ps rid ros.length).loc id' q' = g.loc id q := by
    intro id q id' q' hf
    simp only [backF] at hf
    split at hf
    · simp at hf
    · rename_i hne
      cases hi : posL ps id with
      | some i =>
        rw [hi] at hf
        simp only at hf
        split at hf
        · rename_i hst1
          simp only [Option.some.injEq, Prod.mk.injEq] at hf
          obtain ⟨rfl, rfl⟩ := hf
          simp only [gBack, if_neg hne, hi]
          exact hroot _ _ _ hi (.inr hst1)
        · split at hf
          · simp only [Option.some.injEq, Prod.mk.injEq] at hf
            obtain ⟨rfl, rfl⟩ := hf
            simp only [gBack, if_neg hne, hi]
            exact hroot _ _ _ hi (.inl rfl)
          · simp at hf
      | none =>
        rw [hi] at hf
        simp only [Option.some.injEq, Prod.mk.injEq] at hf
        obtain ⟨rfl, rfl⟩ := hf
        simp only [gBack, if_neg hne, hi]
  have hval2 : Val (gBack g g1 ps rid ros.length) w1 (mapRef (backR ps rid) r) v := by
    refine hval.backTo hpk ?_ hcl
    intro id q hok
    simp only [okRef, Bool.or_eq_true, Bool.and_eq_true, decide_eq_true_eq] at hok
    simp only [backR]
    rcases hok with hok | ⟨hok1, hok2⟩
    · have hlt : id < ps.length := by omega
      obtain ⟨j, hj⟩ : ∃ j, ps[id]? = some j := ⟨ps[id], List.getElem?_eq_getElem hlt⟩
      refine ⟨j, by rw [hj], ?_⟩
      have hpj := posL_get hn hj
      simp only [gBack, if_neg (hin hpj), hpj]
    · rw [show ps[id]? = none from List.getElem?_eq_none (by omega)]
      refine ⟨rid + (id - 100), by simp only; rw [if_pos hok1], ?_⟩
      simp only [gBack]
      rw [if_pos (by omega)]
      congr 1
      omega
  have hH : HSim (setRL (setOL s.objs ps os') rid ros) w1 (gBack g g1 ps rid ros.length) := ⟨hobjs, hsep2, hrdlt2⟩
  refine ⟨v, r, os', ros, _, rfl, hR, hol', hK2, ?_⟩
  exact (hs.turn hrd hF hH).put (d := d) hd hval2

end Go.Proofs.YtkhobcmkbldmiaaFw
