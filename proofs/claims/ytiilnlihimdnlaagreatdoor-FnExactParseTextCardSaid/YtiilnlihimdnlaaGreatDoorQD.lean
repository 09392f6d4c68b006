/- Terms out of tokens: what the two readers come to, and that it is one (pure). -/
import Derived.Test.YtiilnlihimdnlaaGreatDoorQJ
import Derived.Test.YtiilnlihimdnlaaGreatDoorQT
import Derived.Test.YtiilnlihimdnlaaGreatDoorQC
import Derived.Test.YtiilnlihimdnlaaGreatDoorFwD
set_option linter.unusedVariables false
set_option linter.unusedSimpArgs false
set_option maxRecDepth 4000
namespace Go.Proofs.YtiilnlihimdnlaaGreatDoorFw
open Go Go.RowKit
def MarkOk2 (L : List TokV) : Prop := ∀ t ∈ L, OkT t.k t.n t.s
theorem kept_long : ∀ w ∈ opW ++ regW, 2 ≤ w.length := by decide
theorem okT_mark {t : TokV} (h : OkT t.k t.n t.s) {c : UInt8} (hc : c.toNat < 97) (e : t.s = [c]) : t.k = 4 ∧ t.n = 0 := by
 rw [e] at h
 rcases h with ⟨_, _, h3⟩ | ⟨_, hn, h3 | h3 | h3 | h3⟩
 ·cases h3
 ·have := (h3.2.1.2.2 0 (by simp)).2 rfl
  simp only [List.getElem_cons_zero] at this
  omega
 ·simp at h3
 ·exact ⟨h3.1, hn⟩
 ·have := kept_long _ h3.2
  simp at this
def isT (t : TokV) (c : UInt8) : Bool := scEqL [.int .i64 t.k, .int .i64 t.n, .str t.s] [.int .i64 4, .int .i64 0, .str [c]]
theorem isM_cons' (t : TokV) (r : List TokV) (c : UInt8) : isM (t :: r) [c] = isT t c := rfl
theorem isT_eq {t : TokV} (h : OkT t.k t.n t.s) {c : UInt8} (hc : c.toNat < 97) : isT t c = (t.s == [c]) := by
 simp only [isT, scEqL, scEq]
 by_cases e : t.s = [c]
 ·obtain ⟨h1, h2⟩ := okT_mark h hc e
  simp [e, h1, h2]
 ·have e' : (t.s == [c]) = false := by simpa using e
  simp [e']
def Rel (L l : List TokV) (b : Bool) (i : Nat) (b2 : Bool) : Prop := b = b2 ∧ (b = false → l = L.drop i)
theorem nxS_le {L : List TokV} {i : Nat} (b : Bool) (hi : i ≤ L.length) : (nxS L i b).2.1 ≤ L.length := by
 unfold nxS
 split
 ·exact hi
 ·split
  ·rename_i t h
   have := (List.getElem?_eq_some_iff.1 h).1
   simp only; omega
  ·exact hi
theorem nxRel {L l : List TokV} {b : Bool} {i : Nat} {b2 : Bool} (h : Rel L l b i b2) : (nxT l b).1 = (nxS L i b2).1 ∧ Rel L (nxT l b).2.1 (nxT l b).2.2 (nxS L i b2).2.1 (nxS L i b2).2.2 := by
 obtain ⟨rfl, h2⟩ := h
 cases b with
 | true => exact ⟨rfl, rfl, fun h => by cases h⟩
 | false =>
  obtain rfl := h2 rfl
  unfold nxT nxS
  simp only [Bool.false_eq_true, if_false]
  cases e : L[i]? with
  | none =>
   have : L.drop i = [] := List.drop_eq_nil_of_le (List.getElem?_eq_none_iff.1 e)
   rw [this]
   exact ⟨rfl, rfl, fun h => by cases h⟩
  | some t =>
   rw [drop_some e]
   exact ⟨rfl, rfl, fun _ => rfl⟩
theorem nxS_mem {L : List TokV} (hL : MarkOk2 L) {i : Nat} {b : Bool} (h : (nxS L i b).2.2 = false) : OkT (nxS L i b).1.k (nxS L i b).1.n (nxS L i b).1.s := by
 unfold nxS at *
 split at h
 ·cases h
 ·rename_i hb
  rw [if_neg hb]
  split at h
  ·rename_i t e
   exact hL t (List.mem_of_getElem? e)
  ·cases h
theorem seS_eq2 {L : List TokV} (hL : MarkOk2 L) (i : Nat) (b : Bool) {c : UInt8} (hc : c.toNat < 97) : seS L i b [c] = (!b && isM (L.drop i) [c]) := by
 unfold seS
 congr 1
 cases h : L[i]? with
 | none =>
  have : L.drop i = [] := List.drop_eq_nil_of_le (List.getElem?_eq_none_iff.1 h)
  rw [this]; rfl
 | some t =>
  rw [drop_some h, isM_cons']
  exact (isT_eq (hL t (List.mem_of_getElem? h)) hc).symm
theorem seRel {L l : List TokV} (hL : MarkOk2 L) {i : Nat} (h : Rel L l false i false) {c : UInt8} (hc : c.toNat < 97) : seS L i false [c] = isM l [c] := by
 rw [seS_eq2 hL i false hc, h.2 rfl]; rfl
theorem tkRel {L l : List TokV} (hL : MarkOk2 L) {i : Nat} {b b2 : Bool} (h : Rel L l b i b2) {c : UInt8} (hc : c.toNat < 97) : Rel L (tkL l [c]) b (tkI L i b2 [c]) b2 := by
 obtain ⟨rfl, h2⟩ := h
 refine ⟨rfl, fun hb => ?_⟩
 subst hb
 have h3 := seRel hL ⟨rfl, h2⟩ hc
 obtain rfl := h2 rfl
 unfold tkL tkI
 rw [h3]
 split
 ·rw [← List.drop_one, List.drop_drop]
 ·rfl
theorem wantRel {L l : List TokV} (hL : MarkOk2 L) {i : Nat} {b b2 : Bool} (h : Rel L l b i b2) {c : UInt8} (hc : c.toNat < 97) : Rel L (tkL l [c]) (b || !isM l [c]) (tkI L i b2 [c]) (b2 || !seS L i b2 [c]) := by
 have h1 := tkRel hL h hc
 cases b with
 | true =>
  obtain ⟨rfl, _⟩ := h
  exact ⟨rfl, fun h => by cases h⟩
 | false =>
  obtain ⟨rfl, h2⟩ := h
  rw [seRel hL ⟨rfl, h2⟩ hc]
  exact ⟨rfl, fun hb => h1.2 rfl⟩
def sgn (p : UInt8 → Bool) : Option Nat := if p 43 = true then some 0 else if p 45 = true then some 1 else if p 42 = true then some 2 else if p 47 = true then some 3 else if p 38 = true then some 4 else if p 124 = true then some 5 else none
def sgnW : List UInt8 := [43, 45, 42, 47, 38, 124]
theorem sgn_at {p : UInt8 → Bool} : ∀ (i : Nat) (hi : i < 6), (∀ (j : Nat) (hj : j < 6), j < i → p (sgnW[j]'hj) = false) → p (sgnW[i]'hi) = true → sgn p = some i := by
 intro i hi h1 h2
 have a0 := h1 0 (by omega); have a1 := h1 1 (by omega); have a2 := h1 2 (by omega); have a3 := h1 3 (by omega); have a4 := h1 4 (by omega)
 simp only [sgnW, List.getElem_cons_zero, List.getElem_cons_succ] at a0 a1 a2 a3 a4
 match i, hi with
 | 0, _ => simp only [sgnW, List.getElem_cons_zero] at h2; simp [sgn, h2]
 | 1, _ => simp only [sgnW, List.getElem_cons_zero, List.getElem_cons_succ] at h2; simp [sgn, h2, a0]
 | 2, _ => simp only [sgnW, List.getElem_cons_zero, List.getElem_cons_succ] at h2; simp [sgn, h2, a0, a1]
 | 3, _ => simp only [sgnW, List.getElem_cons_zero, List.getElem_cons_succ] at h2; simp [sgn, h2, a0, a1, a2]
 | 4, _ => simp only [sgnW, List.getElem_cons_zero, List.getElem_cons_succ] at h2; simp [sgn, h2, a0, a1, a2, a3]
 | 5, _ => simp only [sgnW, List.getElem_cons_zero, List.getElem_cons_succ] at h2; simp [sgn, h2, a0, a1, a2, a3, a4]
theorem sgn_none {p : UInt8 → Bool} (h1 : ∀ (j : Nat) (hj : j < 6), p (sgnW[j]'hj) = false) : sgn p = none := by
 have a0 := h1 0 (by omega); have a1 := h1 1 (by omega); have a2 := h1 2 (by omega); have a3 := h1 3 (by omega); have a4 := h1 4 (by omega); have a5 := h1 5 (by omega)
 simp only [sgnW, List.getElem_cons_zero, List.getElem_cons_succ] at a0 a1 a2 a3 a4 a5
 simp [sgn, a0, a1, a2, a3, a4, a5]
def nothE : ExprV := .mk 0 0 [] []
def prI4 (a : ExprV) (g : TokV) (c : ExprV × List TokV × Bool) : ExprV × List TokV × Bool := match sgn (isT g) with
 | some i => (.mk (5 + (i : Nat)) 0 [] [a, c.1], tkL c.2.1 [62], c.2.2 || !isM c.2.1 [62])
 | none => (nothE, tkL c.2.1 [62], true)
def prI3 (f : List TokV → Bool → ExprV × List TokV × Bool) (a : ExprV) (g : TokV × List TokV × Bool) : ExprV × List TokV × Bool := prI4 a g.1 (f g.2.1 g.2.2)
def prI2 (f : List TokV → Bool → ExprV × List TokV × Bool) (a : ExprV × List TokV × Bool) : ExprV × List TokV × Bool := prI3 f a.1 (nxT a.2.1 a.2.2)
def prI (f : List TokV → Bool → ExprV × List TokV × Bool) (l : List TokV) (b : Bool) : ExprV × List TokV × Bool := prI2 f (f l b)
def ngI (x : ExprV × List TokV × Bool) : ExprV × List TokV × Bool := (.mk 4 0 [] [x.1], x.2.1, x.2.2)
def exI2 (f : List TokV → Bool → ExprV × List TokV × Bool) (t : TokV × List TokV × Bool) : ExprV × List TokV × Bool :=
 if t.2.2 = true then (nothE, t.2.1, true) else if t.1.k = 2 then (.mk 1 t.1.n [] [], t.2.1, false) else if t.1.k = 1 then (.mk 2 0 t.1.s [], t.2.1, false)
 else if isT t.1 46 = true then (.mk 3 0 [] [], t.2.1, false) else if isT t.1 45 = true then ngI (f t.2.1 false)
 else if isT t.1 60 = true then prI f t.2.1 false else (nothE, t.2.1, true)
def exI : Nat → List TokV → Bool → ExprV × List TokV × Bool
 | 0, l, b => (nothE, (nxT l b).2.1, true)
 | d + 1, l, b => exI2 (exI d) (nxT l b)
def prS4 (L : List TokV) (a : ExprV) (g : TokV) (c : ExprV × Nat × Bool) : ExprV × Nat × Bool := match sgn (fun c => g.s == [c]) with
 | some i => (.mk (5 + (i : Nat)) 0 [] [a, c.1], tkI L c.2.1 c.2.2 [62], c.2.2 || !seS L c.2.1 c.2.2 [62])
 | none => (nothE, tkI L c.2.1 c.2.2 [62], true)
def prS3 (L : List TokV) (f : Nat → Bool → ExprV × Nat × Bool) (a : ExprV) (g : TokV × Nat × Bool) : ExprV × Nat × Bool := prS4 L a g.1 (f g.2.1 g.2.2)
def prS2 (L : List TokV) (f : Nat → Bool → ExprV × Nat × Bool) (a : ExprV × Nat × Bool) : ExprV × Nat × Bool := prS3 L f a.1 (nxS L a.2.1 a.2.2)
def prS (L : List TokV) (f : Nat → Bool → ExprV × Nat × Bool) (i : Nat) (b : Bool) : ExprV × Nat × Bool := prS2 L f (f i b)
def ngS (x : ExprV × Nat × Bool) : ExprV × Nat × Bool := (.mk 4 0 [] [x.1], x.2.1, x.2.2)
def exS2 (L : List TokV) (f : Nat → Bool → ExprV × Nat × Bool) (t : TokV × Nat × Bool) : ExprV × Nat × Bool :=
 if t.1.k = 2 then (.mk 1 t.1.n [] [], t.2.1, t.2.2) else if t.1.k = 1 then (.mk 2 0 t.1.s [], t.2.1, t.2.2)
 else if (t.1.s == [46]) = true then (.mk 3 0 [] [], t.2.1, t.2.2) else if (t.1.s == [45]) = true then ngS (f t.2.1 t.2.2)
 else if (t.1.s == [60]) = true then prS L f t.2.1 t.2.2 else (nothE, t.2.1, true)
def exS (L : List TokV) : Nat → Nat → Bool → ExprV × Nat × Bool
 | 0, i, b => (nothE, i, true)
 | d + 1, i, b => exS2 L (exS L d) (nxS L i b)
theorem exI_true (d : Nat) (l : List TokV) : exI d l true = (nothE, l, true) := by
 cases d <;> rfl
theorem exS_true (L : List TokV) (d i : Nat) : exS L d i true = (nothE, i, true) := by
 cases d <;> rfl
theorem prI_len {f : List TokV → Bool → ExprV × List TokV × Bool} (hf : ∀ l b, (f l b).2.1.length ≤ l.length) (l : List TokV) (b : Bool) : (prI f l b).2.1.length ≤ l.length := by
 unfold prI prI2 prI3 prI4
 have h1 := hf l b
 generalize f l b = a at *
 have h2 := nxT_len a.2.1 a.2.2
 generalize nxT a.2.1 a.2.2 = g at *
 have h3 := hf g.2.1 g.2.2
 generalize f g.2.1 g.2.2 = c at *
 have h4 := tkL_len c.2.1 [62]
 split <;> simp only <;> omega
theorem exI_len : ∀ (d : Nat) (l : List TokV) (b : Bool), (exI d l b).2.1.length ≤ l.length
 | 0, l, b => nxT_len l b
 | d + 1, l, b => by
  have h := nxT_len l b
  rw [exI, exI2]
  generalize nxT l b = t at *
  have h1 := exI_len d t.2.1 false
  have h2 := prI_len (fun l b => exI_len d l b) t.2.1 false
  (repeat' split) <;> first | exact h | (simp only [ngI]; omega) | omega
theorem prS_le {L : List TokV} {f : Nat → Bool → ExprV × Nat × Bool} (hf : ∀ i b, i ≤ L.length → (f i b).2.1 ≤ L.length) (i : Nat) (b : Bool) (hi : i ≤ L.length) : (prS L f i b).2.1 ≤ L.length := by
 unfold prS prS2 prS3 prS4
 have h1 := hf i b hi
 generalize f i b = a at *
 have h2 := nxS_le a.2.2 h1
 generalize nxS L a.2.1 a.2.2 = g at *
 have h3 := hf g.2.1 g.2.2 h2
 generalize f g.2.1 g.2.2 = c at *
 have h4 := (tkI_le c.2.2 [62] h3).2
 split <;> exact h4
theorem exS_le {L : List TokV} : ∀ (d i : Nat) (b : Bool), i ≤ L.length → (exS L d i b).2.1 ≤ L.length
 | 0, i, b, hi => hi
 | d + 1, i, b, hi => by
  have h := nxS_le b hi
  rw [exS, exS2]
  generalize nxS L i b = t at *
  have h1 := exS_le d t.2.1 t.2.2 h
  have h2 := prS_le (fun i b hi => exS_le d i b hi) t.2.1 t.2.2 h
  (repeat' split) <;> first | exact h | exact h1 | exact h2
def RelV {α : Type} (L : List TokV) (p : α × List TokV × Bool) (q : α × Nat × Bool) : Prop := Rel L p.2.1 p.2.2 q.2.1 q.2.2 ∧ (p.2.2 = false → p.1 = q.1)
theorem RelV.bad {α : Type} {L : List TokV} {x y : α} {l : List TokV} {i : Nat} : RelV L (x, l, true) (y, i, true) := ⟨⟨rfl, fun h => by cases h⟩, fun h => by cases h⟩
theorem RelV.mk' {α : Type} {L l : List TokV} {b : Bool} {i : Nat} {b2 : Bool} (x : α) (h : Rel L l b i b2) : RelV L (x, l, b) (x, i, b2) := ⟨h, fun _ => rfl⟩
theorem sgn_ext {p q : UInt8 → Bool} (h : ∀ c : UInt8, c.toNat < 97 → p c = q c) (h2 : p 124 = q 124) : sgn p = sgn q := by
 unfold sgn
 rw [h 43 (by decide), h 45 (by decide), h 42 (by decide), h 47 (by decide), h 38 (by decide), h2]
theorem prRel {L : List TokV} (hL : MarkOk2 L) {f : List TokV → Bool → ExprV × List TokV × Bool} {g : Nat → Bool → ExprV × Nat × Bool} (hf : ∀ l b i b2, Rel L l b i b2 → RelV L (f l b) (g i b2))
 (hft : ∀ l, (f l true).2.2 = true) (hgt : ∀ i, (g i true).2.2 = true) (l : List TokV) (b : Bool) (i : Nat) (b2 : Bool) (h : Rel L l b i b2) : RelV L (prI f l b) (prS L g i b2) := by
 unfold prI prS prI2 prS2
 have h1 := hf l b i b2 h
 generalize f l b = a at *
 generalize g i b2 = a' at *
 obtain ⟨e2, h2⟩ := nxRel h1.1
 have hok := fun hb => nxS_mem hL (i := a'.2.1) (b := a'.2.2) hb
 have hz : a.2.2 = true → (nxT a.2.1 a.2.2).2.2 = true := fun h => by rw [h]; rfl
 generalize nxT a.2.1 a.2.2 = t at *
 generalize nxS L a'.2.1 a'.2.2 = t' at *
 unfold prI3 prS3
 have h3 := hf _ _ _ _ h2
 have ft := hft t.2.1
 have gt := hgt t'.2.1
 have hz3 : t.2.2 = true → (f t.2.1 t.2.2).2.2 = true := fun h => by rw [h]; exact ft
 generalize f t.2.1 t.2.2 = c at *
 generalize g t'.2.1 t'.2.2 = c' at *
 have h4 := wantRel hL h3.1 (c := 62) (by decide)
 unfold prI4 prS4
 cases hb : c.2.2 with
 | true =>
  have hb' : c'.2.2 = true := by rw [← h3.1.1]; exact hb
  rw [hb']
  split <;> split <;> exact RelV.bad
 | false =>
  have ht : t.2.2 = false := by
   cases e : t.2.2 with
   | false => rfl
   | true => rw [hz3 e] at hb; cases hb
  have ha : a.2.2 = false := by
   cases e : a.2.2 with
   | false => rfl
   | true => rw [hz e] at ht; cases ht
  have ht' : t'.2.2 = false := by rw [← h2.1]; exact ht
  have hs : sgn (isT t.1) = sgn (fun c => t'.1.s == [c]) := by
   rw [e2]
   have hk := hok ht'
   refine sgn_ext (fun c hc => isT_eq hk hc) ?_
   simp only [isT, scEqL, scEq]
   by_cases e : t'.1.s = [124]
   ·have h5 : t'.1.k = 4 ∧ t'.1.n = 0 := by
     rw [e] at hk
     rcases hk with ⟨_, _, h3⟩ | ⟨_, hn, h3 | h3 | h3 | h3⟩
     ·cases h3
     ·have := (h3.2.1.2.2 0 (by simp)).2 rfl
      simp only [List.getElem_cons_zero] at this
      exact absurd this (by decide)
     ·simp at h3
     ·exact ⟨h3.1, hn⟩
     ·have := kept_long _ h3.2
      simp at this
    simp [e, h5.1, h5.2]
   ·have e' : (t'.1.s == [124]) = false := by simpa using e
    simp [e']
  rw [hs, h1.2 ha, h3.2 hb]
  have hb' : c'.2.2 = false := by rw [← h3.1.1]; exact hb
  rw [hb, hb'] at h4
  rw [hb']
  split
  ·exact RelV.mk' _ h4
  ·exact RelV.bad
theorem exRel {L : List TokV} (hL : MarkOk2 L) : ∀ (d : Nat) (l : List TokV) (b : Bool) (i : Nat) (b2 : Bool), Rel L l b i b2 → RelV L (exI d l b) (exS L d i b2)
 | 0, l, b, i, b2, h => RelV.bad
 | d + 1, l, b, i, b2, h => by
  cases b with
  | true =>
   obtain ⟨rfl, _⟩ := h
   rw [exI_true, exS_true]
   exact RelV.bad
  | false =>
   obtain ⟨rfl, h2⟩ := h
   obtain ⟨e1, e2⟩ := nxRel (L := L) (l := l) (b := false) (i := i) (b2 := false) ⟨rfl, h2⟩
   have hok := fun h => nxS_mem hL (i := i) (b := false) h
   have hz : (nxS L i false).2.2 = true → (nxS L i false).1 = ⟨0, 0, []⟩ := by
    unfold nxS
    simp only [Bool.false_eq_true, if_false]
    split <;> simp
   rw [exI, exS]
   generalize nxT l false = t at *
   generalize nxS L i false = t' at *
   obtain ⟨t, l1, b1⟩ := t
   obtain ⟨t', i1, b1'⟩ := t'
   simp only at e1 e2 hok hz
   subst e1
   obtain ⟨rfl, e2⟩ := e2
   unfold exI2 exS2
   simp only
   cases b1 with
   | true =>
    rw [hz rfl]
    exact RelV.bad
   | false =>
    have hok := hok rfl
    have r1 : Rel L l1 false i1 false := ⟨rfl, e2⟩
    simp only [Bool.false_eq_true, if_false]
    rw [isT_eq hok (c := 46) (by decide), isT_eq hok (c := 45) (by decide), isT_eq hok (c := 60) (by decide)]
    by_cases c1 : t.k = 2
    ·rw [if_pos c1, if_pos c1]; exact RelV.mk' _ r1
    rw [if_neg c1, if_neg c1]
    by_cases c2 : t.k = 1
    ·rw [if_pos c2, if_pos c2]; exact RelV.mk' _ r1
    rw [if_neg c2, if_neg c2]
    by_cases c3 : (t.s == [46]) = true
    ·rw [if_pos c3, if_pos c3]; exact RelV.mk' _ r1
    rw [if_neg c3, if_neg c3]
    by_cases c4 : (t.s == [45]) = true
    ·rw [if_pos c4, if_pos c4]
     obtain ⟨q1, q2⟩ := exRel hL d l1 false i1 false r1
     exact ⟨q1, fun h => by simp only [ngI, ngS] at h ⊢; rw [q2 h]⟩
    rw [if_neg c4, if_neg c4]
    by_cases c5 : (t.s == [60]) = true
    ·rw [if_pos c5, if_pos c5]
     exact prRel hL (fun l b i b2 h => exRel hL d l b i b2 h) (fun l => by rw [exI_true]) (fun i => by rw [exS_true]) _ _ _ _ r1
    ·rw [if_neg c5, if_neg c5]
     exact RelV.bad
end Go.Proofs.YtiilnlihimdnlaaGreatDoorFw
namespace Go.Proofs.YtiilnlihimdnlaaGreatDoorFw
open Go Go.RowKit
mutual
def ExprV.cnt : ExprV → Nat
 | .mk k n s l => 3 + ExprV.cntL l
def ExprV.cntL : List ExprV → Nat
 | [] => 0
 | s :: r => s.cnt + ExprV.cntL r
end
mutual
def ExprV.mark : ExprV → Int → ExprV
 | .mk _ _ _ l, k => .mk k (k + 1) (markTxt (k + 2)) (ExprV.marks l (k + 3))
def ExprV.marks : List ExprV → Int → List ExprV
 | [], _ => []
 | s :: r, k => s.mark k :: ExprV.marks r (k + s.cnt)
end
theorem ExprV.marks_len : ∀ (l : List ExprV) (k : Int), (ExprV.marks l k).length = l.length
 | [], k => rfl
 | s :: r, k => by simp [ExprV.marks, ExprV.marks_len r]
theorem ExprV.marks_get : ∀ (l : List ExprV) (k : Int) (i : Nat) (h : i < l.length), (ExprV.marks l k)[i]? = some (l[i].mark (k + ExprV.cntL (l.take i)))
 | s :: r, k, 0, h => by simp [ExprV.marks, ExprV.cntL]
 | s :: r, k, i + 1, h => by
  simp only [ExprV.marks, List.getElem?_cons_succ]
  rw [ExprV.marks_get r _ i (by simpa using h)]
  simp only [List.getElem_cons_succ, List.take_succ_cons, ExprV.cntL]
  congr 2; omega
theorem ExprV.cntL_snoc : ∀ (l : List ExprV) (i : Nat) (h : i < l.length), ExprV.cntL (l.take (i + 1)) = ExprV.cntL (l.take i) + l[i].cnt
 | s :: r, 0, h => by simp [ExprV.cntL]
 | s :: r, i + 1, h => by
  simp only [List.take_succ_cons, ExprV.cntL, List.getElem_cons_succ]
  rw [ExprV.cntL_snoc r i (by simpa using h)]; omega
theorem ExprV.cnt_pos (s : ExprV) : 3 ≤ s.cnt := by obtain ⟨k, n, s, l⟩ := s; simp only [ExprV.cnt]; omega
theorem ExprV.cntL_len : ∀ l : List ExprV, l.length ≤ ExprV.cntL l
 | [] => by simp [ExprV.cntL]
 | s :: r => by simp only [ExprV.cntL, List.length_cons]; have := ExprV.cnt_pos s; have := ExprV.cntL_len r; omega
theorem ExprV.cntL_take (l : List ExprV) (i : Nat) : ExprV.cntL (l.take i) ≤ ExprV.cntL l := by
 induction l generalizing i with
 | nil => simp [ExprV.cntL]
 | cons s r ih =>
  cases i with
  | zero => simp [ExprV.cntL]
  | succ i => simp only [List.take_succ_cons, ExprV.cntL]; have := ih i; omega
theorem markExprS_ok : ∀ l : List ExprV, ∀ (q : Path) (rsz : Nat) (res : List AV) (k : Int), navG res rsz q = some (4, exprsA .own l) → noBoL res = true → 0 ≤ k → k + ExprV.cntL l ≤ 4611686018427387904 →
 FnA Tryz.prog 40 true [.hd 0 q, .int .i64 k] [(rsz, res)] (fun r os ros => r = .int .i64 (k + ExprV.cntL l) ∧ os = [(rsz, navSet res q (exprsA .own (ExprV.marks l k)))] ∧ ros = []) := by
 refine ExprV.indL fun l ih => ?_
 intro q rsz res k hn hb h0 h1
 refine FnA.of Tryz.func40 rfl (by decide) Tryz.ntmps40 (by simp) ?_
 have hS := Spot.of hn
 rw [← navSet_self q res rsz 4 _ hn]
 refine run_ ?_
 refine RunsA.loop ?_
 refine (LoopA.ind (fun i : Nat => ⟨42, [(0, .hd 0 q), (1, .int .i64 (k + ExprV.cntL (l.take i))), (5, .int .i64 i)], [⟨0, rsz, navSet res q (exprsA .own ((ExprV.marks l k).take i ++ l.drop i))⟩], true⟩) (fun i => l.length - i) (fun i => i ≤ l.length) ?_ 0 ?_).sub rfl ?_ ?_ rfl
 ·intro i hi K3 hK3
  have hml := ExprV.marks_len l k
  have hEl : (exprsA .own ((ExprV.marks l k).take i ++ l.drop i)).length = l.length := by rw [exprsA_len, half_len hml hi]
  repeat (first | refine RunsA.sq ?_ | refine RunsA.bk ?_ | refine RunsA.sk ?_ | refine RunsA.ex ?_ | refine RunsA.rt ?_ | refine At.n ?_ | refine At.x ?_ | refine At.r ?_ | refine At.bn ?_ | refine At.br ?_ | refine At.bx ?_ | refine At.by_ rfl ?_ | refine At.kx ?_ | refine At.kr ?_ | refine At.kn ?_ | refine At.er ?_ | refine At.en ?_ | (refine RunsA.rq tabOk fun J hJ => ?_; simp only [go_sem, ↓reduceIte, Nat.reduceAdd, Nat.reduceSub, Nat.reduceMul, Nat.reduceLT, Nat.reduceLeDiff, Nat.reduceEqDiff, Nat.reduceBEq, Int.reduceToNat, hS.get, hEl]; (try simp (disch := omega) only [wrap_id]); (repeat refine ⟨by omega, ?_⟩); refine hJ _ _ (RunsL.nil ?_); clear hJ J) | (refine RunsA.dq mixed tabOk (by kernel_rfl) fun J hJ => ?_; simp only [go_sem, ↓reduceIte, Nat.reduceAdd, Nat.reduceSub, Nat.reduceMul, Nat.reduceLT, Nat.reduceLeDiff, Nat.reduceEqDiff, Nat.reduceBEq, Int.reduceToNat, hS.get, hEl]; (try simp (disch := omega) only [wrap_id]); (repeat refine ⟨by omega, ?_⟩); refine hJ _ _ (QRuns.nil ?_); clear hJ J))
  refine RunsA.cond rfl (fun h2 => ?_) (fun h2 => ?_)
  ·simp only [decide_eq_true_eq] at h2
   have hilt : i < l.length := by omega
   have hE : (exprsA .own ((ExprV.marks l k).take i ++ l.drop i))[i]? = some (exprA .own l[i]) := by rw [exprsA_eq, List.getElem?_map, half_get hml hilt]; rfl
   have hE2 : (exprsA .own ((ExprV.marks l k).take i ++ l.drop i)).set i (exprA .own (l[i].mark (k + ExprV.cntL (l.take i)))) = exprsA .own ((ExprV.marks l k).take (i + 1) ++ l.drop (i + 1)) := by
    rw [exprsA_eq, ← List.map_set, half_set hml hilt (ExprV.marks_get l k i hilt), ← exprsA_eq]
   have hc := ExprV.cntL_snoc l i hilt
   have hmem := List.getElem_mem hilt
   have hct := ExprV.cntL_take l (i + 1)
   have hcl := ExprV.cntL_len l
   have hnb : ∀ E, noBoL E = true → noBoL (navSet res q E) = true := fun E h => noBo_navSet _ _ _ hb h
   have hnE := noBo_exprs ((ExprV.marks l k).take i ++ l.drop i)
   generalize exprsA .own ((ExprV.marks l k).take i ++ l.drop i) = E at *
   generalize l[i] = s at *
   obtain ⟨ek, en, es, el⟩ := s
   rw [exprA_mk] at hE
   simp only [ExprV.mark, exprA_mk] at hE2
   simp only [ExprV.cnt] at hc
   have hlt : i < E.length := by omega
   have hEs : ∀ x, (E.set i x)[i]? = some x := fun x => List.getElem?_set_self hlt
   repeat (first | refine RunsA.sq ?_ | refine RunsA.bk ?_ | refine RunsA.sk ?_ | refine RunsA.ex ?_ | refine RunsA.rt ?_ | refine At.n ?_ | refine At.x ?_ | refine At.r ?_ | refine At.bn ?_ | refine At.br ?_ | refine At.bx ?_ | refine At.by_ rfl ?_ | refine At.kx ?_ | refine At.kr ?_ | refine At.kn ?_ | refine At.er ?_ | refine At.en ?_ | (refine RunsA.rq tabOk fun J hJ => ?_; simp only [go_sem, ↓reduceIte, Nat.reduceAdd, Nat.reduceSub, Nat.reduceMul, Nat.reduceLT, Nat.reduceLeDiff, Nat.reduceEqDiff, Nat.reduceBEq, Int.reduceToNat, hS.get, hS.set, hE, hEs, hEl, List.length_set, List.set_set]; (try simp (disch := omega) only [wrap_id]); (repeat refine ⟨by omega, ?_⟩); refine hJ _ _ (RunsL.nil ?_); clear hJ J) | (refine RunsA.dq mixed tabOk (by kernel_rfl) fun J hJ => ?_; simp only [go_sem, ↓reduceIte, Nat.reduceAdd, Nat.reduceSub, Nat.reduceMul, Nat.reduceLT, Nat.reduceLeDiff, Nat.reduceEqDiff, Nat.reduceBEq, Int.reduceToNat, hS.get, hS.set, hE, hEs, hEl, List.length_set, List.set_set]; (try simp (disch := omega) only [wrap_id]); (repeat refine ⟨by omega, ?_⟩); refine hJ _ _ (QRuns.nil ?_); clear hJ J))
   refine rg_ ?_
   refine call_ (ps := []) (rid := 7680) rfl rfl rfl rfl rfl (markText_ok (k + ExprV.cntL (l.take i) + 1 + 1) (by omega) (by omega)) ?_
   rintro r os' ros ⟨rfl, rfl, rfl⟩ _
   refine RunsL.go tabOk fun J hJ => ?_
   simp only [go_sem, ↓reduceIte, Nat.reduceAdd, Nat.reduceSub, Nat.reduceMul, Nat.reduceLT, Nat.reduceLeDiff, Nat.reduceEqDiff, Nat.reduceBEq, Int.reduceToNat, hS.get, hS.set, hE, hEs, hEl, List.length_set, List.set_set]
   try simp (disch := omega) only [wrap_id]
   (repeat refine ⟨by omega, ?_⟩)
   refine hJ _ _ (RunsL.nil ?_); clear hJ J
   refine run_ ?_
   refine RunsA.rq tabOk fun J hJ => ?_
   simp only [go_sem, ↓reduceIte, Nat.reduceAdd, Nat.reduceSub, Nat.reduceMul, Nat.reduceLT, Nat.reduceLeDiff, Nat.reduceEqDiff, Nat.reduceBEq, Int.reduceToNat, hS.get, hEs, hEl, List.length_set]
   try simp (disch := omega) only [wrap_id]
   refine ⟨by omega, ?_⟩
   refine hJ _ _ (call_ (ps := [0]) (rid := 10496) rfl rfl rfl rfl rfl (ih ek en es el hmem (q ++ [(i, 3)]) rsz _ (k + ExprV.cntL (l.take i) + 1 + 1 + 1) (hS.inG _ i 3 _ _ _ (hEs _) rfl) (hnb _ (noBoL_set hnE (by simp only [noBo, noBoL, noBo_exprs, Bool.and_self]))) (by omega) (by omega)) ?_); clear hJ J
   rintro r os' ros ⟨rfl, rfl, rfl⟩ _
   rw [hS.inS _ i 3 _ _ _ _ (hEs _) rfl]
   simp only [AV.setC, List.set_cons_zero, List.set_cons_succ, List.set_set]
   rw [show k + (ExprV.cntL (l.take i) : Int) + 1 + 1 + 1 = k + ExprV.cntL (l.take i) + 3 by omega, show k + (ExprV.cntL (l.take i) : Int) + 1 + 1 = k + ExprV.cntL (l.take i) + 2 by omega, hE2]
   refine cg_ ?_
   refine RunsL.nil ?_
   refine run_ ?_
   have e3 : k + (ExprV.cntL (l.take i) : Int) + 3 + ExprV.cntL el = k + ExprV.cntL (l.take (i + 1)) := by omega
   rw [e3]
   exact hK3 (i + 1) _ (by omega) (by omega) rfl (by simp [SubS, lookS]) (by simp [SubO, lookO]) rfl
  ·refine run_ ?_
   simp only [decide_eq_false_iff_not] at h2
   have : i = l.length := by omega
   subst this
   have e : (ExprV.marks l k).take l.length ++ l.drop l.length = ExprV.marks l k := by rw [List.drop_length, List.append_nil, List.take_of_length_le (by omega)]
   rw [e, List.take_length]
   exact RetA.mk tabOk 0 rfl rfl rfl (by omega) (by simp only [noBoO, Bool.and_true]; exact noBo_navSet _ _ _ hb (noBo_exprs _)) rfl rfl ⟨rfl, by rw [hS.set], rfl⟩
 ·exact Nat.zero_le _
 ·simp [SubS, lookS, ExprV.cntL]
 ·simp [SubO, lookO]
end Go.Proofs.YtiilnlihimdnlaaGreatDoorFw
namespace Go.Proofs.YtiilnlihimdnlaaGreatDoorFw
open Go Go.RowKit
theorem heldExprS_ok : ∀ l : List ExprV, ∀ (k : Int), 0 ≤ k → k + ExprV.cntL l ≤ 4611686018427387904 →
 FnA Tryz.prog 42 false [.row .bo 4 (exprsA .bo (ExprV.marks l k)), .int .i64 k] [] (fun r os ros => r = .int .i64 (k + ExprV.cntL l) ∧ os = [] ∧ ros = []) := by
 refine ExprV.indL fun l ih => ?_
 intro k h0 h1
 refine FnA.of Tryz.func42 rfl (by decide) Tryz.ntmps42 (by simp) ?_
 have hml := ExprV.marks_len l k
 refine run_ ?_
 refine RunsA.loop ?_
 refine (LoopA.ind (fun i : Nat => ⟨50, [(0, .row .bo 4 (exprsA .bo (ExprV.marks l k))), (1, .int .i64 (k + ExprV.cntL (l.take i))), (5, .int .i64 i)], [], false⟩) (fun i => l.length - i) (fun i => i ≤ l.length) ?_ 0 ?_).sub rfl ?_ ?_ rfl
 ·intro i hi K3 hK3
  refine run1_ @exprsA_len ?_
  refine RunsA.cond rfl (fun h2 => ?_) (fun h2 => ?_)
  ·simp only [decide_eq_true_eq] at h2
   have hilt : i < l.length := by omega
   have hg : (exprsA .bo (ExprV.marks l k))[i]? = some (exprA .bo (l[i].mark (k + ExprV.cntL (l.take i)))) := by rw [exprsA_eq, List.getElem?_map, ExprV.marks_get l k i hilt]; rfl
   have hc := ExprV.cntL_snoc l i hilt
   have hmem := List.getElem_mem hilt
   have hct := ExprV.cntL_take l (i + 1)
   have hcl := ExprV.cntL_len l
   generalize l[i] = s at *
   obtain ⟨ek, en, es, el⟩ := s
   simp only [ExprV.mark, exprA_mk] at hg
   simp only [ExprV.cnt] at hc
   refine run1_ @hg ?_
   refine RunsA.cond rfl (fun h => ?_) (fun h => ?_)
   ·simp at h
   refine run1_ @hg ?_
   refine RunsA.cond rfl (fun h => ?_) (fun h => ?_)
   ·simp at h
   refine run1_ @hg ?_
   refine RunsA.dq mixed tabOk (by kernel_rfl) fun J hJ => ?_
   simp only [go_sem, ↓reduceIte, Nat.reduceAdd, Nat.reduceSub, Nat.reduceMul, Nat.reduceLT, Nat.reduceLeDiff, Nat.reduceEqDiff, Nat.reduceBEq, Int.reduceToNat, hg]
   try simp (disch := omega) only [wrap_id]
   (repeat refine ⟨by omega, ?_⟩)
   refine hJ _ _ (QRuns.call (y := .str (markTxt (k + ExprV.cntL (l.take i) + 1 + 1))) rfl rfl rfl rfl (by simp only [go_sem, Nat.reduceEqDiff]) (markText_ok (k + ExprV.cntL (l.take i) + 1 + 1) (by omega) (by omega)) rfl (fun r os' ros h => ⟨by exact h.1, h.2.2⟩) rfl ?_); clear hJ J
   refine QRuns.go tabOk fun J hJ => ?_
   simp only [go_sem, ↓reduceIte, Nat.reduceAdd, Nat.reduceSub, Nat.reduceMul, Nat.reduceLT, Nat.reduceLeDiff, Nat.reduceEqDiff, Nat.reduceBEq, Int.reduceToNat]
   try simp (disch := omega) only [wrap_id]
   refine hJ _ _ (QRuns.nil ?_); clear hJ J
   refine run_ ?_
   refine RunsA.cond rfl (fun h => ?_) (fun h => ?_)
   ·exfalso
    rw [show k + (ExprV.cntL (l.take i) : Int) + 1 + 1 = k + ExprV.cntL (l.take i) + 2 by omega] at h
    simp at h
   refine run_ ?_
   refine RunsA.rq tabOk fun J hJ => ?_
   simp only [go_sem, ↓reduceIte, Nat.reduceAdd, Nat.reduceSub, Nat.reduceMul, Nat.reduceLT, Nat.reduceLeDiff, Nat.reduceEqDiff, Nat.reduceBEq, Int.reduceToNat, hg]
   try simp (disch := omega) only [wrap_id]
   rw [show k + (ExprV.cntL (l.take i) : Int) + 1 + 1 + 1 = k + ExprV.cntL (l.take i) + 3 by omega]
   refine hJ _ _ (call_ (ps := []) (rid := 12032) rfl rfl rfl rfl rfl (ih ek en es el hmem (k + ExprV.cntL (l.take i) + 3) (by omega) (by omega)) ?_); clear hJ J
   rintro r os' ros ⟨rfl, rfl, rfl⟩ _
   refine cgo_ ?_
   refine RunsL.nil ?_
   refine run_ ?_
   refine RunsA.cond rfl (fun h => ?_) (fun h => ?_)
   ·exfalso; simp only [decide_eq_true_eq] at h; omega
   refine run_ ?_
   have e3 : k + (ExprV.cntL (l.take i) : Int) + 3 + ExprV.cntL el = k + ExprV.cntL (l.take (i + 1)) := by omega
   rw [e3]
   exact hK3 (i + 1) _ (by omega) (by omega) rfl (by simp [SubS, lookS]) (by simp [SubO, lookO]) rfl
  ·refine run_ ?_
   simp only [decide_eq_false_iff_not] at h2
   have : i = l.length := by omega
   subst this
   rw [List.take_length]
   exact RetA.mk tabOk 0 rfl rfl rfl (by omega) rfl rfl rfl ⟨rfl, rfl, rfl⟩
 ·exact Nat.zero_le _
 ·simp [SubS, lookS, ExprV.cntL]
 ·trivial
theorem markExpr_ok (k0 n0 : Int) (s0 : Str) (l : List ExprV) (p : Nat × Nat) (q : Path) (rsz : Nat) (res : List AV) (k : Int) (hn : navG res rsz (p :: q) = some (4, exprsA .own l)) (hb : noBoL res = true) (h0 : 0 ≤ k) (h1 : k + ExprV.cntL l ≤ 4611686018427387904) :
 FnA Tryz.prog 76 true [.agg [.int .i64 k0, .int .i64 n0, .str s0, (.hd 0 (p :: q))], .int .i64 k] [(rsz, res)] (fun r os ros => r = .int .i64 (k + ExprV.cntL l) ∧ os = [(rsz, navSet res (p :: q) (exprsA .own (ExprV.marks l k)))] ∧ ros = []) := by
 refine FnA.of Tryz.func76 rfl (by decide) Tryz.ntmps76 (by simp) ?_
 refine run_ ?_
 refine rg_ ?_
 refine call_ (ps := [0]) (rid := 2048) rfl rfl rfl rfl rfl (markExprS_ok l (p :: q) rsz res k hn hb h0 h1) ?_
 rintro r os' ros ⟨rfl, rfl, rfl⟩ _
 have hb2 : noBoL (navSet res (p :: q) (exprsA .own (ExprV.marks l k))) = true := noBo_navSet _ _ _ hb (noBo_exprs _)
 generalize navSet res (p :: q) (exprsA .own (ExprV.marks l k)) = NS at *
 refine cg_ ?_
 refine RunsL.nil ?_
 refine run_ ?_
 exact RetA.mk tabOk 0 rfl rfl rfl (by omega) (by simp only [noBoO, Bool.and_true]; exact hb2) rfl rfl ⟨rfl, rfl, rfl⟩
theorem heldExpr_ok (k0 n0 : Int) (s0 : Str) (l : List ExprV) (k : Int) (h0 : 0 ≤ k) (h1 : k + ExprV.cntL l ≤ 4611686018427387904) :
 FnA Tryz.prog 77 false [.agg [.int .i64 k0, .int .i64 n0, .str s0, .row .bo 4 (exprsA .bo (ExprV.marks l k))], .int .i64 k] [] (fun r os ros => r = .int .i64 (k + ExprV.cntL l) ∧ os = [] ∧ ros = []) := by
 refine FnA.of Tryz.func77 rfl (by decide) Tryz.ntmps77 (by simp) ?_
 refine run_ ?_
 refine rg_ ?_
 refine call_ (ps := []) (rid := 2048) rfl rfl rfl rfl rfl (heldExprS_ok l k h0 h1) ?_
 refine cro_ ?_
 refine run_ ?_
 refine RunsA.cond rfl (fun h => ?_) (fun h => ?_)
 ·exfalso; simp only [decide_eq_true_eq] at h; omega
 refine run_ ?_
 exact RetA.mk tabOk 0 rfl rfl rfl (by omega) rfl rfl rfl ⟨rfl, rfl, rfl⟩
end Go.Proofs.YtiilnlihimdnlaaGreatDoorFw
namespace Go.Proofs.YtiilnlihimdnlaaGreatDoorFw
open Go Go.RowKit
inductive LineV where
 | mk (k : Int) (s : Str) (op : Int) (sf sr sk sn : Int) (ss : Str) (sl : List ExprV) (df dr dk dn : Int) (ds : Str) (dl : List ExprV) (n : Int) (l : List ExprV)
def lineA (m : Md) : LineV → AV
 | .mk k s op sf sr sk sn ss sl df dr dk dn ds dl n l => .agg [.int .i64 k, .str s, .int .i64 op, .int .i64 sf, .int .i64 sr, .int .i64 sk, .int .i64 sn, .str ss, .row m 4 (exprsA m sl),
  .int .i64 df, .int .i64 dr, .int .i64 dk, .int .i64 dn, .str ds, .row m 4 (exprsA m dl), .int .i64 n, .row m 4 (exprsA m l)]
theorem lineA_mk (m : Md) (k : Int) (s : Str) (op : Int) (sf sr sk sn : Int) (ss : Str) (sl : List ExprV) (df dr dk dn : Int) (ds : Str) (dl : List ExprV) (n : Int) (l : List ExprV) :
 lineA m (.mk k s op sf sr sk sn ss sl df dr dk dn ds dl n l) = .agg [.int .i64 k, .str s, .int .i64 op, .int .i64 sf, .int .i64 sr, .int .i64 sk, .int .i64 sn, .str ss, .row m 4 (exprsA m sl),
  .int .i64 df, .int .i64 dr, .int .i64 dk, .int .i64 dn, .str ds, .row m 4 (exprsA m dl), .int .i64 n, .row m 4 (exprsA m l)] := rfl
def LineV.tot : LineV → Nat
 | .mk k s op sf sr sk sn ss sl df dr dk dn ds dl n l => s.length + ((ExprV.mk sk sn ss sl).tot + ((ExprV.mk dk dn ds dl).tot + (l.length + ExprV.totL l)))
open Classical in
noncomputable instance : DecidableEq LineV := fun a b => inferInstance
theorem brw_line (m : Md) (x : LineV) : brw (lineA m x) = lineA .bo x := by
 obtain ⟨k, s, op, sf, sr, sk, sn, ss, sl, df, dr, dk, dn, ds, dl, n, l⟩ := x
 simp only [lineA, brw, brwL, brw_exprs]
theorem noBo_line (x : LineV) : noBo (lineA .own x) = true := by
 obtain ⟨k, s, op, sf, sr, sk, sn, ss, sl, df, dr, dk, dn, ds, dl, n, l⟩ := x
 simp only [lineA, noBo, noBoL, noBo_exprs, Bool.and_self]
theorem eqArg_ok (f r k n : Int) (s : Str) (l : List ExprV) (f' r' k' n' : Int) (s' : Str) (l' : List ExprV) (ht : (ExprV.mk k n s l).tot ≤ 140737488355328) :
 FnA Tryz.prog 37 false [.agg [.int .i64 f, .int .i64 r, .int .i64 k, .int .i64 n, .str s, .row .bo 4 (exprsA .bo l)], .agg [.int .i64 f', .int .i64 r', .int .i64 k', .int .i64 n', .str s', .row .bo 4 (exprsA .bo l')]] []
  (fun r0 os ros => r0 = .bool (decide (f = f' ∧ r = r' ∧ ExprV.mk k n s l = ExprV.mk k' n' s' l')) ∧ os = [] ∧ ros = []) := by
 have hE := eqExpr_ok (.mk k n s l) ht (.mk k' n' s' l')
 rw [exprA_mk, exprA_mk] at hE
 refine FnA.of Tryz.func37 rfl (by decide) Tryz.ntmps37 (by simp) ?_
 repeat' (first | refine ⟨by omega, ?_⟩ | (refine hJ _ _ (RunsL.nil ?_); clear hJ J) | refine RunsA.cond rfl (fun h => ?_) (fun h => absurd h (by decide)) | refine RunsA.cond rfl (fun h => absurd h (by decide)) (fun h => ?_) | refine RunsA.cond rfl (fun h => ?_) (fun h => ?_) | (refine step_ ?_) | (refine RunsA.rq tabOk fun J hJ => ?_; simp only [go_sem, ↓reduceIte, Nat.reduceAdd, Nat.reduceSub, Nat.reduceMul, Nat.reduceLT, Nat.reduceLeDiff, Nat.reduceEqDiff, Nat.reduceBEq, Int.reduceToNat]; try simp (disch := omega) only [wrap_id]) | (refine hJ _ _ (call_ (ps := []) (rid := 16) rfl rfl rfl rfl rfl (hE) ?_); clear hJ J; rintro r os' ros ⟨rfl, rfl, rfl⟩ _; refine RunsL.go tabOk fun J hJ => ?_; simp only [go_sem, ↓reduceIte, Nat.reduceAdd, Nat.reduceSub, Nat.reduceMul, Nat.reduceLT, Nat.reduceLeDiff, Nat.reduceEqDiff, Nat.reduceBEq, Int.reduceToNat]; try simp (disch := omega) only [wrap_id]) | split)
 all_goals (refine RetA.mk tabOk 0 rfl rfl rfl (by omega) rfl rfl rfl ?_)
 all_goals (refine ⟨?_, rfl, rfl⟩)
 all_goals clear hE
 all_goals (simp only [res1, AV.bool.injEq] at *)
 all_goals simp_all
 all_goals (intros; simp_all)
set_option maxHeartbeats 1000000 in
theorem eqLine_ok (x : LineV) (ht : x.tot ≤ 140737488355328) (y : LineV) :
 FnA Tryz.prog 13 false [lineA .bo x, lineA .bo y] [] (fun r0 os ros => r0 = .bool (decide (x = y)) ∧ os = [] ∧ ros = []) := by
 obtain ⟨k, s, op, sf, sr, sk, sn, ss, sl, df, dr, dk, dn, ds, dl, n, l⟩ := x
 obtain ⟨k', s', op', sf', sr', sk', sn', ss', sl', df', dr', dk', dn', ds', dl', n', l'⟩ := y
 rw [LineV.tot] at ht
 have hS := eqArg_ok sf sr sk sn ss sl sf' sr' sk' sn' ss' sl' (by omega)
 have hD := eqArg_ok df dr dk dn ds dl df' dr' dk' dn' ds' dl' (by omega)
 have hL := eqExprS_ok l l' (by omega) (by omega)
 rw [lineA_mk, lineA_mk]
 refine FnA.of Tryz.func13 rfl (by decide) Tryz.ntmps13 (by simp) ?_
 repeat' (first | refine ⟨by omega, ?_⟩ | (refine hJ _ _ (RunsL.nil ?_); clear hJ J) | refine RunsA.cond rfl (fun h => ?_) (fun h => absurd h (by decide)) | refine RunsA.cond rfl (fun h => absurd h (by decide)) (fun h => ?_) | refine RunsA.cond rfl (fun h => ?_) (fun h => ?_) | (refine step_ ?_) | (refine RunsA.rq tabOk fun J hJ => ?_; simp only [go_sem, ↓reduceIte, Nat.reduceAdd, Nat.reduceSub, Nat.reduceMul, Nat.reduceLT, Nat.reduceLeDiff, Nat.reduceEqDiff, Nat.reduceBEq, Int.reduceToNat]; try simp (disch := omega) only [wrap_id]) | (refine hJ _ _ (call_ (ps := []) (rid := 16) rfl rfl rfl rfl rfl (hS) ?_); clear hJ J; rintro r os' ros ⟨rfl, rfl, rfl⟩ _; refine RunsL.go tabOk fun J hJ => ?_; simp only [go_sem, ↓reduceIte, Nat.reduceAdd, Nat.reduceSub, Nat.reduceMul, Nat.reduceLT, Nat.reduceLeDiff, Nat.reduceEqDiff, Nat.reduceBEq, Int.reduceToNat]; try simp (disch := omega) only [wrap_id]) | (refine hJ _ _ (call_ (ps := []) (rid := 16) rfl rfl rfl rfl rfl (hD) ?_); clear hJ J; rintro r os' ros ⟨rfl, rfl, rfl⟩ _; refine RunsL.go tabOk fun J hJ => ?_; simp only [go_sem, ↓reduceIte, Nat.reduceAdd, Nat.reduceSub, Nat.reduceMul, Nat.reduceLT, Nat.reduceLeDiff, Nat.reduceEqDiff, Nat.reduceBEq, Int.reduceToNat]; try simp (disch := omega) only [wrap_id]) | (refine hJ _ _ (call_ (ps := []) (rid := 16) rfl rfl rfl rfl rfl (hL) ?_); clear hJ J; rintro r os' ros ⟨rfl, rfl, rfl⟩ _; refine RunsL.go tabOk fun J hJ => ?_; simp only [go_sem, ↓reduceIte, Nat.reduceAdd, Nat.reduceSub, Nat.reduceMul, Nat.reduceLT, Nat.reduceLeDiff, Nat.reduceEqDiff, Nat.reduceBEq, Int.reduceToNat]; try simp (disch := omega) only [wrap_id]) | split)
 all_goals (refine RetA.mk tabOk 0 rfl rfl rfl (by omega) rfl rfl rfl ?_)
 all_goals (refine ⟨?_, rfl, rfl⟩)
 all_goals clear hS hD hL
 all_goals (simp only [res1, AV.bool.injEq, LineV.mk.injEq, ExprV.mk.injEq] at *)
 all_goals simp_all
 all_goals (intros; simp_all)
end Go.Proofs.YtiilnlihimdnlaaGreatDoorFw
namespace Go.Proofs.YtiilnlihimdnlaaGreatDoorFw
open Go Go.RowKit
structure AgV where
 f : Int
 r : Int
 e : ExprV
def azV : AgV := ⟨0, 0, nothE⟩
def lnV (k : Int) (s : Str) (op : Int) (a b : AgV) (n : Int) (l : List ExprV) : LineV := .mk k s op a.f a.r a.e.1 a.e.2 a.e.3 a.e.4 b.f b.r b.e.1 b.e.2 b.e.3 b.e.4 n l
def mo (at' : Bool) : Int := if at' = true then 1 else 0
def hdK (l : List TokV) : Int := match l with
 | [] => 0
 | t :: _ => t.k
/-! The program's. -/
def regI2 (t : TokV × List TokV × Bool) : Int × List TokV × Bool := if t.1.k ≠ 5 ∨ atI regW t.1.s 0 < 0 then (0, t.2.1, true) else (atI regW t.1.s 0, t.2.1, t.2.2)
def regI (l : List TokV) (b : Bool) : Int × List TokV × Bool := regI2 (nxT l b)
def inbI2 (r : Int × List TokV × Bool) : Int × List TokV × Bool := (r.1, tkL r.2.1 [41], r.2.2 || !isM r.2.1 [41])
def inbI (l : List TokV) (b : Bool) : Int × List TokV × Bool := inbI2 (regI (tkL l [40]) (b || !isM l [40]))
def cbI (l : List TokV) : Bool := isM l [45] && isM l.tail [40]
def mpI {α β : Type} (f : α → β) (r : α × List TokV × Bool) : β × List TokV × Bool := (f r.1, r.2.1, r.2.2)
def plI (at' : Bool) (r : Int × List TokV × Bool) : AgV × List TokV × Bool := if isM r.2.1 [43] = true then (⟨2 + mo at', r.1, nothE⟩, tkL r.2.1 [43], r.2.2) else (⟨1, r.1, nothE⟩, tkL r.2.1 [43], r.2.2 || at')
def idI (at' : Bool) (e : ExprV × List TokV × Bool) : AgV × List TokV × Bool := if isM e.2.1 [40] = true then mpI (fun r => ⟨6 + mo at', r, e.1⟩) (inbI e.2.1 e.2.2) else (⟨10 + mo at', 0, e.1⟩, e.2.1, e.2.2)
def argI2 (at' : Bool) (l : List TokV) (b : Bool) : AgV × List TokV × Bool :=
 if at' = false ∧ hdK l = 5 then mpI (fun r => ⟨0, r, nothE⟩) (regI l b)
 else if cbI l = true then mpI (fun r => ⟨4 + mo at', r, nothE⟩) (inbI (tkL l [45]) (b || !isM l [45]))
 else if isM l [40] = true then plI at' (inbI l b)
 else if isM l [35] = true then mpI (fun e => ⟨8 + mo at', 0, e⟩) (exI 6 (tkL l [35]) b)
 else idI at' (exI 6 l b)
def argI (l : List TokV) (b : Bool) : AgV × List TokV × Bool := argI2 (isM l [64]) (tkL l [64]) b
def trmI : Nat → List TokV → Bool → List ExprV → List ExprV × List TokV × Bool
 | 0, l, b, acc => (acc, l, b)
 | f + 1, l, b, acc => if b = true then (acc, l, b) else if isM (exI 6 l b).2.1 [44] = true then trmI f (tkL (exI 6 l b).2.1 [44]) (exI 6 l b).2.2 (acc ++ [(exI 6 l b).1]) else (acc ++ [(exI 6 l b).1], tkL (exI 6 l b).2.1 [44], (exI 6 l b).2.2)
def cmI {α β : Type} (g : α → AgV → β) (a : α × List TokV × Bool) : β × List TokV × Bool := mpI (g a.1) (argI (tkL a.2.1 [44]) (a.2.2 || !isM a.2.1 [44]))
def insI (op : Int) (l : List TokV) (b : Bool) : LineV × List TokV × Bool :=
 if 1 ≤ op ∧ op ≤ 6 then cmI (fun a d => lnV 3 [] op a d 0 []) (argI l b)
 else if op = 15 then cmI (fun r d => lnV 3 [] op azV d r []) (regI l b)
 else if 1 ≤ op ∧ op ≤ 15 then mpI (fun d => lnV 3 [] op azV d 0 []) (argI l b)
 else if op = 16 then mpI (fun r => lnV 3 [] op azV azV r []) (regI l b)
 else if (17 ≤ op ∧ op ≤ 21) ∨ op = 23 then mpI (fun e => lnV 3 [] op azV azV 0 [e]) (exI 6 l b)
 else (lnV 3 [] op azV azV 0 [], l, b)
def overW : Str := [111, 118, 101, 114]
def sctI (n : Str × List TokV × Bool) : LineV × List TokV × Bool := if isM n.2.1 [44] = true then (lnV 6 n.1 0 azV azV 1 [], (nmT (tkL n.2.1 [44]) n.2.2).2.1, (nmT (tkL n.2.1 [44]) n.2.2).2.2 || ((nmT (tkL n.2.1 [44]) n.2.2).1 != overW))
 else (lnV 6 n.1 0 azV azV 0 [], tkL n.2.1 [44], n.2.2)
def wordW : Str := [46, 119, 111, 114, 100]
def blkW : Str := [46, 98, 108, 107, 119]
def globW : Str := [46, 103, 108, 111, 98, 108]
def endW : Str := [46, 101, 110, 100]
def sectW : Str := [46, 115, 101, 99, 116]
def dotI (w : Str) (l : List TokV) (b : Bool) : LineV × List TokV × Bool :=
 if w = wordW then mpI (fun x => lnV 4 [] 0 azV azV 0 x) (trmI (l.length + 1) l b [])
 else if w = blkW then mpI (fun x => lnV 5 [] 0 azV azV 0 x) (trmI (l.length + 1) l b [])
 else if w = globW then mpI (fun x => lnV 7 [] 0 azV azV 0 x) (trmI (l.length + 1) l b [])
 else if w = endW then (lnV 8 [] 0 azV azV 0 [], l, b)
 else if w = sectW then sctI (nmT l b)
 else (lnV 0 [] 0 azV azV 0 [], l, true)
def namI (s : Str) (l : List TokV) (b : Bool) : LineV × List TokV × Bool :=
 if isM l [58] = true then (lnV 1 s 0 azV azV 0 [], tkL l [58], b) else mpI (fun e => lnV 2 s 0 azV azV 0 [e]) (exI 6 (tkL (tkL l [58]) [61]) (b || !isM (tkL l [58]) [61]))
def lineI2 (t : TokV × List TokV × Bool) : LineV × List TokV × Bool :=
 if t.1.k = 3 then dotI t.1.s t.2.1 t.2.2 else if t.1.k = 1 then namI t.1.s t.2.1 t.2.2
 else if t.1.k = 5 ∧ 0 < 1 + atI opW t.1.s 0 then insI (1 + atI opW t.1.s 0) t.2.1 t.2.2 else (lnV 0 [] 0 azV azV 0 [], t.2.1, true)
def lineI (l : List TokV) (b : Bool) : LineV × List TokV × Bool := if l = [] then (lnV 0 [] 0 azV azV 0 [], l, b) else lineI2 (nxT l b)
/-! The reference's. -/
def rgS (t : TokV) : Int := if t.k ≠ 5 ∨ atI (opW ++ regW) t.s 0 < 23 then -1 else atI (opW ++ regW) t.s 0 - 23
def roS2 (L : List TokV) (t : TokV × Nat × Bool) : Int × Nat × Bool := (rgS t.1, tkI L t.2.1 t.2.2 [41], (t.2.2 || !seS L t.2.1 t.2.2 [41]) || decide (rgS t.1 < 0))
def roS (L : List TokV) (i : Nat) (b : Bool) : Int × Nat × Bool := roS2 L (nxS L (tkI L i b [40]) (b || !seS L i b [40]))
def dnS (L : List TokV) (i : Nat) (b : Bool) : Bool := seS L i b [45] && (match L[i + 1]? with
 | some t => t.s == [40]
 | none => false)
def hdR (L : List TokV) (i : Nat) : Int := match L[i]? with
 | some t => rgS t
 | none => -1
def mpS {α β : Type} (f : α → β) (r : α × Nat × Bool) : β × Nat × Bool := (f r.1, r.2.1, r.2.2)
def plS2 (L : List TokV) (r : Int × Nat × Bool) : AgV × Nat × Bool := (⟨if seS L r.2.1 r.2.2 [43] = true then 2 else 1, r.1, nothE⟩, tkI L r.2.1 r.2.2 [43], r.2.2)
def idS (L : List TokV) (e : ExprV × Nat × Bool) : AgV × Nat × Bool := if seS L e.2.1 e.2.2 [40] = true then mpS (fun r => ⟨6, r, e.1⟩) (roS L e.2.1 e.2.2) else (⟨10, 0, e.1⟩, e.2.1, e.2.2)
def plS (L : List TokV) (i : Nat) (b : Bool) : AgV × Nat × Bool :=
 if b = false ∧ 0 ≤ hdR L i then mpS (fun t => ⟨0, rgS t, nothE⟩) (nxS L i b)
 else if dnS L i b = true then mpS (fun r => ⟨4, r, nothE⟩) (roS L (tkI L i b [45]) (b || !seS L i b [45]))
 else if seS L i b [40] = true then plS2 L (roS L i b)
 else if seS L i b [35] = true then mpS (fun e => ⟨8, 0, e⟩) (exS L 6 (tkI L i b [35]) b)
 else idS L (exS L 6 i b)
def argS2 (at' : Bool) (a : AgV × Nat × Bool) : AgV × Nat × Bool := if at' = false then a else if a.1.f = 2 ∨ a.1.f = 4 ∨ a.1.f = 6 ∨ a.1.f = 8 ∨ a.1.f = 10 then (⟨a.1.f + 1, a.1.r, a.1.e⟩, a.2.1, a.2.2) else (a.1, a.2.1, true)
def argS (L : List TokV) (i : Nat) (b : Bool) : AgV × Nat × Bool := argS2 (seS L i b [64]) (plS L (tkI L i b [64]) b)
def trmS (L : List TokV) : Nat → Nat → Bool → List ExprV → List ExprV × Nat × Bool
 | 0, i, b, acc => (acc, i, b)
 | f + 1, i, b, acc => if b = true then (acc, i, b) else if seS L (exS L 6 i b).2.1 (exS L 6 i b).2.2 [44] = true then trmS L f (tkI L (exS L 6 i b).2.1 (exS L 6 i b).2.2 [44]) (exS L 6 i b).2.2 (acc ++ [(exS L 6 i b).1])
  else (acc ++ [(exS L 6 i b).1], tkI L (exS L 6 i b).2.1 (exS L 6 i b).2.2 [44], (exS L 6 i b).2.2)
def cmS {α β : Type} (L : List TokV) (g : α → AgV → β) (a : α × Nat × Bool) : β × Nat × Bool := mpS (g a.1) (argS L (tkI L a.2.1 a.2.2 [44]) (a.2.2 || !seS L a.2.1 a.2.2 [44]))
def insS (L : List TokV) (op : Int) (i : Nat) (b : Bool) : LineV × Nat × Bool :=
 if op ≤ 6 then cmS L (fun a d => lnV 3 [] op a d 0 []) (argS L i b)
 else if op ≤ 14 then mpS (fun d => lnV 3 [] op azV d 0 []) (argS L i b)
 else if op = 15 then cmS L (fun t d => lnV 3 [] op azV d (rgS t) []) (nxS L i b)
 else if op = 16 then mpS (fun t => lnV 3 [] op azV azV (rgS t) []) (nxS L i b)
 else if op ≠ 22 then mpS (fun e => lnV 3 [] op azV azV 0 [e]) (exS L 6 i b)
 else (lnV 3 [] op azV azV 0 [], i, b)
def sctS (L : List TokV) (t : TokV × Nat × Bool) : LineV × Nat × Bool := if seS L t.2.1 t.2.2 [44] = true then (lnV 6 t.1.s 0 azV azV 1 [], tkI L (tkI L t.2.1 t.2.2 [44]) t.2.2 overW, t.2.2 || !seS L (tkI L t.2.1 t.2.2 [44]) t.2.2 overW)
 else (lnV 6 t.1.s 0 azV azV 0 [], tkI L t.2.1 t.2.2 [44], t.2.2)
def dotS (L : List TokV) (w : Str) (i : Nat) (b : Bool) : LineV × Nat × Bool :=
 if w = wordW then mpS (fun x => lnV 4 [] 0 azV azV 0 x) (trmS L (L.length - i + 1) i b [])
 else if w = blkW then mpS (fun x => lnV 5 [] 0 azV azV 0 x) (trmS L (L.length - i + 1) i b [])
 else if w = globW then mpS (fun x => lnV 7 [] 0 azV azV 0 x) (trmS L (L.length - i + 1) i b [])
 else if w = endW then (lnV 8 [] 0 azV azV 0 [], i, b)
 else if w = sectW then sctS L (nxS L i b)
 else (lnV 0 [] 0 azV azV 0 [], i, true)
def namS (L : List TokV) (s : Str) (i : Nat) (b : Bool) : LineV × Nat × Bool :=
 if seS L i b [58] = true then (lnV 1 s 0 azV azV 0 [], tkI L i b [58], b)
 else if seS L (tkI L i b [58]) b [61] = true then mpS (fun e => lnV 2 s 0 azV azV 0 [e]) (exS L 6 (tkI L (tkI L i b [58]) b [61]) b) else (lnV 0 [] 0 azV azV 0 [], tkI L (tkI L i b [58]) b [61], true)
def lineS2 (L : List TokV) (t : TokV × Nat × Bool) : LineV × Nat × Bool :=
 if t.1.k = 5 ∧ atI (opW ++ regW) t.1.s 0 < 23 then insS L (atI (opW ++ regW) t.1.s 0 + 1) t.2.1 t.2.2
 else if t.1.k = 3 then dotS L t.1.s t.2.1 t.2.2 else if t.1.k = 1 then namS L t.1.s t.2.1 t.2.2 else (lnV 0 [] 0 azV azV 0 [], t.2.1, true)
def lineS (L : List TokV) (i : Nat) (b : Bool) : LineV × Nat × Bool := lineS2 L (nxS L i b)
/-! What they come to is one. -/
theorem atI_mem : ∀ (l : List Str) (s : Str) (k : Int), 0 ≤ k → (0 ≤ atI l s k ↔ s ∈ l)
 | [], s, k, h => by simp [atI]
 | x :: r, s, k, h => by
  rw [atI]
  split
  ·rename_i e; simp [e, h]
  ·rename_i e
   rw [atI_mem r s (k + 1) (by omega)]
   have : ¬ s = x := fun h => e h.symm
   simp [this]
theorem atI_shift : ∀ (l : List Str) (s : Str) (k d : Int), 0 ≤ k → 0 ≤ d → s ∈ l → atI l s (k + d) = atI l s k + d
 | [], s, k, d, h, hd, hm => by simp at hm
 | x :: r, s, k, d, h, hd, hm => by
  rw [atI, atI]
  by_cases e : x = s
  ·rw [if_pos e, if_pos e]
  ·rw [if_neg e, if_neg e, show k + d + 1 = (k + 1) + d by omega]
   refine atI_shift r s (k + 1) d (by omega) hd ?_
   rcases List.mem_cons.1 hm with h | h
   ·exact absurd h.symm e
   ·exact h
theorem atI_app : ∀ (a b : List Str) (s : Str) (k : Int), atI (a ++ b) s k = if s ∈ a then atI a s k else atI b s (k + a.length)
 | [], b, s, k => by simp
 | x :: r, b, s, k => by
  rw [List.cons_append, atI, atI, atI_app r b s (k + 1)]
  by_cases e : x = s
  ·rw [if_pos e, if_pos e, if_pos (by simp [e])]
  ·rw [if_neg e, if_neg e]
   have h : ¬ s = x := fun h => e h.symm
   simp only [List.mem_cons, h, false_or, List.length_cons]
   split
   ·rfl
   ·congr 1; omega
theorem ops_regs : ∀ w ∈ opW, ¬ w ∈ regW := by decide
theorem keptAt (s : Str) : (s ∈ opW → atI (opW ++ regW) s 0 = atI opW s 0 ∧ atI regW s 0 < 0 ∧ 0 ≤ atI opW s 0 ∧ atI opW s 0 < 23) ∧ (s ∈ regW → atI (opW ++ regW) s 0 = atI regW s 0 + 23 ∧ atI opW s 0 = -1 ∧ 0 ≤ atI regW s 0) ∧ (¬ s ∈ opW → ¬ s ∈ regW → atI (opW ++ regW) s 0 = -1 ∧ atI regW s 0 < 0) := by
 have hn : ∀ l, ¬ s ∈ l → atI l s 0 = -1 := fun l h => by
  rcases atI_cases l s 0 (by omega) with h1 | h1
  ·exact h1
  ·exact absurd ((atI_mem l s 0 (by omega)).1 h1.1) h
 refine ⟨fun h => ?_, fun h => ?_, fun h h' => ?_⟩
 ·have h2 := ops_regs s h
  have h3 := (atI_mem opW s 0 (by omega)).2 h
  have h4 := atI_cases opW s 0 (by omega)
  have h5 : opW.length = 23 := rfl
  rw [atI_app, if_pos h, hn regW h2]
  refine ⟨rfl, by omega, h3, by omega⟩
 ·have h2 : ¬ s ∈ opW := fun h' => ops_regs s h' h
  have h3 := (atI_mem regW s 0 (by omega)).2 h
  rw [atI_app, if_neg h2, hn opW h2, atI_shift regW s 0 opW.length (by omega) (by omega) h]
  exact ⟨rfl, rfl, h3⟩
 ·have h3 : ¬ s ∈ opW ++ regW := fun h3 => by rcases List.mem_append.1 h3 with h3 | h3 <;> contradiction
  rw [hn _ h3, hn _ h']
  exact ⟨rfl, by omega⟩
theorem rgS_eq (t : TokV) : (0 ≤ rgS t ∧ t.k = 5 ∧ ¬ atI regW t.s 0 < 0 ∧ rgS t = atI regW t.s 0) ∨ (rgS t = -1 ∧ (t.k ≠ 5 ∨ atI regW t.s 0 < 0)) := by
 unfold rgS
 obtain ⟨h1, h2, h3⟩ := keptAt t.s
 by_cases c : t.k = 5
 ·by_cases a : t.s ∈ opW
  ·obtain ⟨e1, e2, e3, e4⟩ := h1 a
   right
   rw [if_pos (by omega)]
   exact ⟨rfl, .inr e2⟩
  ·by_cases b : t.s ∈ regW
   ·obtain ⟨e1, e2, e3⟩ := h2 b
    left
    rw [if_neg (by omega)]
    omega
   ·obtain ⟨e1, e2⟩ := h3 a b
    right
    rw [if_pos (by omega)]
    exact ⟨rfl, .inr e2⟩
 ·right
  rw [if_pos (.inl c)]
  exact ⟨rfl, .inl c⟩
theorem regI_true (l : List TokV) : (regI l true).2.2 = true := rfl
theorem inbI_true (l : List TokV) : (inbI l true).2.2 = true := rfl
theorem regRel {L l : List TokV} {b : Bool} {i : Nat} {b2 : Bool} (h : Rel L l b i b2) : Rel L (regI l b).2.1 (regI l b).2.2 (nxS L i b2).2.1 ((nxS L i b2).2.2 || decide (rgS (nxS L i b2).1 < 0)) ∧ ((regI l b).2.2 = false → (regI l b).1 = rgS (nxS L i b2).1) := by
 unfold regI
 obtain ⟨e1, e2⟩ := nxRel h
 generalize nxT l b = t at *
 generalize nxS L i b2 = t' at *
 unfold regI2
 rw [e1]
 obtain ⟨h1, h2⟩ := e2
 rcases rgS_eq t'.1 with ⟨q1, q2, q3, q4⟩ | ⟨q1, q2⟩
 ·rw [if_neg (by omega)]
  have : decide (rgS t'.1 < 0) = false := decide_eq_false (by omega)
  rw [this, Bool.or_false]
  exact ⟨⟨h1, h2⟩, fun _ => q4.symm⟩
 ·rw [if_pos q2]
  have : decide (rgS t'.1 < 0) = true := decide_eq_true (by omega)
  rw [this, Bool.or_true]
  exact ⟨⟨rfl, fun h => by cases h⟩, fun h => by cases h⟩
theorem roRel {L : List TokV} (hL : MarkOk2 L) {l : List TokV} {b : Bool} {i : Nat} {b2 : Bool} (h : Rel L l b i b2) : RelV L (inbI l b) (roS L i b2) := by
 unfold inbI roS
 have h1 := wantRel hL h (c := 40) (by decide)
 obtain ⟨h2, h3⟩ := regRel h1
 generalize regI (tkL l [40]) (b || !isM l [40]) = r at *
 generalize nxS L (tkI L i b2 [40]) (b2 || !seS L i b2 [40]) = t at *
 unfold inbI2 roS2
 by_cases c : rgS t.1 < 0
 ·rw [decide_eq_true c, Bool.or_true] at h2 ⊢
  have : r.2.2 = true := h2.1
  rw [this, Bool.true_or]
  exact RelV.bad
 ·rw [decide_eq_false c, Bool.or_false] at h2 ⊢
  have h4 := wantRel hL h2 (c := 41) (by decide)
  refine ⟨h4, fun hb => h3 ?_⟩
  simp only [Bool.or_eq_false_iff] at hb
  exact hb.1
end Go.Proofs.YtiilnlihimdnlaaGreatDoorFw
namespace Go.Proofs.YtiilnlihimdnlaaGreatDoorFw
open Go Go.RowKit
def ZeroP (m r x : Int) : Prop := m = 0 ∧ r = 0 ∧ x = 0
instance (m r x : Int) : Decidable (ZeroP m r x) := by unfold ZeroP; infer_instance
theorem asNum (p : Prop) [Decidable p] : ∃ a : Int, p ↔ a = 1 := ⟨if p then 1 else 0, by split <;> simp_all⟩
def InsP (op sm sr sx dm dr dx n : Int) : Prop :=
 (1 ≤ op ∧ op ≤ 6 ∧ OpdP sm sr sx ∧ OpdP dm dr dx ∧ n = 0) ∨ (7 ≤ op ∧ op ≤ 14 ∧ ZeroP sm sr sx ∧ OpdP dm dr dx ∧ n = 0) ∨ (op = 15 ∧ ZeroP sm sr sx ∧ OpdP dm dr dx ∧ 0 ≤ n ∧ n ≤ 7) ∨
 (ZeroP sm sr sx ∧ ZeroP dm dr dx ∧ ((op = 16 ∧ 0 ≤ n ∧ n ≤ 7) ∨ (17 ≤ op ∧ op ≤ 21 ∧ -128 ≤ n ∧ n ≤ 127) ∨ (op = 22 ∧ n = 0) ∨ (op = 23 ∧ 0 ≤ n ∧ n ≤ 255)))
instance (op sm sr sx dm dr dx n : Int) : Decidable (InsP op sm sr sx dm dr dx n) := by unfold InsP; infer_instance
end Go.Proofs.YtiilnlihimdnlaaGreatDoorFw
