/- An object that is never written again. -/
import Derived.Test.YtkhobcmkbldmiaaFw18
namespace Go.Proofs.YtkhobcmkbldmiaaFw
open Go Go.RowKit
set_option linter.unusedVariables false

mutual
/-- The row at path q of object id, whose content is (rsz, res), read as what is never written. -/
def frzV (id rsz : Nat) (res : List AV) : AV → AV
  | .hd i q => if i = id then (match navG res rsz q with | some (sz, es) => .row .ro sz (frzL es) | none => .dead) else .hd i q
  | .ref i q sz off n => if i = id then .dead else .ref i q sz off n
  | .ptr i q sz j k => if i = id then .dead else .ptr i q sz j k
  | .agg cs => .agg (frzVL id rsz res cs)
  | .tup cs => .tup (frzVL id rsz res cs)
  | .fn g cs => .fn g (frzVL id rsz res cs)
  | .int k n => .int k n
  | .bool b => .bool b
  | .str s => .str s
  | .nilI => .nilI
  | .nilP => .nilP
  | .nilS => .nilS
  | .row m sz es => .row m sz es
  | .rp m cs => .rp m cs
  | .vp cs => .vp (frzVL id rsz res cs)
  | .dead => .dead
def frzVL (id rsz : Nat) (res : List AV) : List AV → List AV
  | [] => []
  | x :: r => frzV id rsz res x :: frzVL id rsz res r
end

theorem frzVL_eq (id rsz : Nat) (res : List AV) (l : List AV) : frzVL id rsz res l = l.map (frzV id rsz res) := by
  induction l with
  | nil => rfl
  | cons x r ih => simp [frzVL, ih]

def frzS (id rsz : Nat) (res : List AV) : List (Nat × AV) → List (Nat × AV)
  | [] => []
  | (t, x) :: r => (t, frzV id rsz res x) :: frzS id rsz res r

theorem lookS_frzS (id rsz : Nat) (res : List AV) (l : List (Nat × AV)) (t : Nat) : lookS (frzS id rsz res l) t = (lookS l t).map (frzV id rsz res) := by
  induction l with
  | nil => rfl
  | cons p r ih =>
    obtain ⟨u, x⟩ := p
    simp only [frzS, lookS]
    split
    · rfl
    · exact ih

def gFrz (g : Gh) (id : Nat) : Gh :=
  { g with
    own := fun b => match g.own b with | some (j, q) => if j = id then none else some (j, q) | none => none
    perm := fun b => g.perm b ∨ ∃ q, g.own b = some (id, q) }

theorem gFrz_rd (g : Gh) (id : Nat) (w : World) : RdKeep g w (gFrz g id) w := ⟨fun _ h => ⟨.inl h, rfl⟩, fun _ h => ⟨.inr h, rfl⟩⟩

theorem gFrz_keep {g : Gh} {id : Nat} {w : World} : Keep g w (gFrz g id) w :=
  ⟨rfl, rfl, rfl, Nat.le_refl _, fun b _ ho => ⟨rfl, by simp [gFrz, ho]⟩, fun _ h => .inl h, fun b _ h => by
    rcases h with h | ⟨q, h⟩
    · exact .inl h
    · exact .inr (by rw [h]; rfl), fun _ => Iff.rfl, fun _ _ _ _ => rfl, rfl⟩

theorem HSim.freeze {objs : List Obj} {w : World} {g : Gh} (h : HSim objs w g) (id : Nat) : HSim (dropO objs id) w (gFrz g id) where
  obj := fun j sz es hj => by
    rw [lookO_dropO] at hj
    split at hj
    · simp at hj
    · rename_i hne
      obtain ⟨v, hv⟩ := h.obj j sz es hj
      exact ⟨v, hv.stay (gFrz_rd g id w) (fun b r hb => ⟨rfl, by simp only [gFrz, hb]; rw [if_neg (fun e => hne e.symm)]⟩) (fun r => rfl)⟩
  sep := fun b p hb => by
    simp only [gFrz] at hb
    cases ho : g.own b with
    | none => rw [ho] at hb; simp at hb
    | some jq =>
      obtain ⟨j, q⟩ := jq
      rw [ho] at hb
      simp only at hb
      split at hb
      · simp at hb
      · rename_i hne
        have := h.sep b _ ho
        refine ⟨?_, this.2.1, this.2.2⟩
        rintro (hp | ⟨q', hp⟩)
        · exact this.1 hp
        · rw [ho] at hp
          simp only [Option.some.injEq, Prod.mk.injEq] at hp
          exact hne hp.1
  rdlt := fun b hb => by
    rcases hb with (hb | ⟨q, hb⟩) | hb
    · exact h.rdlt b (.inl hb)
    · exact (h.sep b _ hb).2.2
    · exact h.rdlt b (.inr hb)

theorem noBoL_nav : ∀ (q : Path) (res : List AV) (rsz sz : Nat) (es : List AV), noBoL res = true → navG res rsz q = some (sz, es) → noBoL es = true
  | [], res, rsz, sz, es, h, hn => by
    simp only [navG, Option.some.injEq, Prod.mk.injEq] at hn
    obtain ⟨rfl, rfl⟩ := hn
    exact h
  | (i, k) :: q, res, rsz, sz, es, h, hn => by
    simp only [navG] at hn
    cases hx : res[i]? with
    | none => simp [hx] at hn
    | some x =>
      cases hy : x.cells[k]? with
      | none => simp [hx, hy] at hn
      | some y =>
        simp only [hx, hy] at hn
        have hb := noBo_cells (noBoL_get h hx) hy
        split at hn
        · rename_i sz2 es2 he
          obtain rfl := Option.some.inj he
          exact noBoL_nav q es2 sz2 sz es (by simpa [noBo] using hb) hn
        · simp at hn

theorem Val.freeze {s : St} {a : Act} {w : World} {g : Gh} (hs : Sim s a w g) {id rsz : Nat} {res : List AV} (hl : lookO s.objs id = some (rsz, res)) (hb : noBoL res = true) {x : AV} {v : Value} (h : Val g w x v) :
    Val (gFrz g id) w (frzV id rsz res x) v := by
  have hr := gFrz_rd g id w
  have hd : ∀ (q : Path) (v : Value), Val g w (.hd id q) v → Val (gFrz g id) w (frzV id rsz res (.hd id q)) v := by
    intro q v hv
    simp only [frzV, if_true]
    split
    · rename_i sz es hn
      obtain ⟨v0, hc0⟩ := hs.h.obj id rsz res hl
      obtain ⟨v', hc⟩ := Cell.nav q [] rsz res v0 sz es hc0 hn
      simp only [List.nil_append] at hc
      obtain rfl := hc.hd hv
      have := hc.toFrz hr (by simpa [noBo] using noBoL_nav q res rsz sz es hb hn) ⟨_, _, rfl⟩ (fun i q' e b r ho => by
        obtain ⟨rfl, rfl⟩ := Pl.at.inj e
        exact ⟨.inr ⟨_, ho⟩, rfl⟩)
      exact Cell.lookRo (m := .ro) this
    · exact .dead _
  induction h with
  | cell x v h =>
    have h' := h.still hr (fun _ _ => by simp)
    cases h <;> exact .cell _ _ h'
  | nilS => exact .nilS
  | nilP => exact .nilP
  | agg cs vs hl' h ih =>
    simp only [frzV, frzVL_eq]
    refine .agg _ _ (by simpa using hl') ?_
    intro k c u hc hu
    obtain ⟨y, hy, rfl⟩ := get_map hc
    exact ih k y u hy hu
  | tup cs vs hl' h ih =>
    simp only [frzV, frzVL_eq]
    refine .tup _ _ (by simpa using hl') ?_
    intro k c u hc hu
    obtain ⟨y, hy, rfl⟩ := get_map hc
    exact ih k y u hy hu
  | fn f' cs vs hl' h ih =>
    simp only [frzV, frzVL_eq]
    refine .fn _ _ _ (by simpa using hl') ?_
    intro k c u hc hu
    obtain ⟨y, hy, rfl⟩ := get_map hc
    exact ih k y u hy hu
  | hd i q b c n h1 =>
    by_cases e : i = id
    · subst e; exact hd q _ (.hd i q b c n h1)
    · simp only [frzV, if_neg e]; exact .hd _ _ b c n h1
  | hdNil i q h1 =>
    by_cases e : i = id
    · subst e; exact hd q _ (.hdNil i q h1)
    · simp only [frzV, if_neg e]; exact .hdNil _ _ h1
  | ref i q sz off n b cap len c a h1 hc hn ha =>
    by_cases e : i = id
    · simp only [frzV, if_pos e]; exact .dead _
    · simp only [frzV, if_neg e]; exact .ref _ _ _ _ _ b cap len c a h1 hc hn ha
  | refNil i q sz h1 =>
    by_cases e : i = id
    · simp only [frzV, if_pos e]; exact .dead _
    · simp only [frzV, if_neg e]; exact .refNil _ _ _ h1
  | ptr i q sz j k b cap len h1 =>
    by_cases e : i = id
    · simp only [frzV, if_pos e]; exact .dead _
    · simp only [frzV, if_neg e]; exact .ptr _ _ _ _ _ b cap len h1
  | rp m cs a us hm hs' hc ht =>
    exact .rp _ _ _ us (hr.rd hm).1 hs' (fun k y hy => hc k y hy) (fun k y hy => (ht k y hy).still hr (by intro id q; cases m <;> simp [Md.pl]))
  | vp cs a us hm hs' hc ht ih =>
    simp only [frzV, frzVL_eq]
    refine .vp _ _ us (hr.perm _ hm).1 hs' ?_ ?_
    · intro k y hy
      obtain ⟨z, hz, rfl⟩ := get_map hy
      exact hc k z hz
    · intro k y hy
      obtain ⟨z, hz, rfl⟩ := get_map hy
      exact ih k z hz
  | dead v => exact .dead _

/-- Object id is read-only from now on. -/
def St.freeze (s : St) (id : Nat) : Option (Prop × St) :=
  match lookO s.objs id with
  | some (rsz, res) => some (noBoL res = true, { s with slots := frzS id rsz res s.slots, objs := dropO s.objs id })
  | none => none

theorem Sim.freeze {s s' : St} {id : Nat} {c : Prop} (h : s.freeze id = some (c, s')) (hc : c) {a : Act} {w : World} {g : Gh} (hs : Sim s a w g) : ∃ g', Sim s' a w g' ∧ Keep g w g' w := by
  unfold St.freeze at h
  split at h
  · rename_i rsz res hl
    simp only [Option.some.injEq, Prod.mk.injEq] at h
    obtain ⟨rfl, rfl⟩ := h
    refine ⟨gFrz g id, ⟨hs.nt, hs.defers, ?_, hs.h.freeze id, hs.st⟩, gFrz_keep⟩
    intro t x hx
    simp only [lookS_frzS] at hx
    cases hy : lookS s.slots t with
    | none => simp [hy] at hx
    | some y =>
      rw [hy] at hx
      simp only [Option.map_some, Option.some.injEq] at hx
      subst hx
      obtain ⟨v, hv, hval⟩ := hs.slot t y hy
      exact ⟨v, hv, hval.freeze hs hl hc⟩
  · simp at h

end Go.Proofs.YtkhobcmkbldmiaaFw
