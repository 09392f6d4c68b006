/- Trees of segments out of tokens: the program's. -/
import Derived.Test.YtiilnlihimdnlaaGreatDoorQH
set_option linter.unusedVariables false
set_option linter.unusedSimpArgs false
set_option maxRecDepth 4000
namespace Go.Proofs.YtiilnlihimdnlaaGreatDoorFw
open Go Go.RowKit
def segQ (d : Nat) (l : List TokV) (b : Bool) : Option (SegV × List TokV) := if b = true then none else segP d l
theorem modsP_step {t : TokV} {r : List TokV} (ms : List Str) (h : t.k = 1) : (modsP (t :: r)).map (fun p => (ms ++ p.1, p.2)) = if isM r [44] = true then (modsP (tkL r [44])).map (fun p => ((ms ++ [t.s]) ++ p.1, p.2)) else some (ms ++ [t.s], r) := by
 rw [modsP, if_pos h]
 by_cases c : isM r [44] = true
 ·rw [if_pos c, if_pos c]
  unfold tkL
  rw [if_pos c, List.drop_one]
  cases modsP r.tail with
  | none => rfl
  | some p => simp
 ·rw [if_neg c, if_neg c]; rfl
structure MS where
 l : List TokV
 b : Bool
 more : Bool
 ms : List Str
def MS.inv (T : Option (List Str × List TokV)) (N : Nat) (p : MS) : Prop := p.l.length ≤ N ∧ p.ms.length + p.l.length ≤ N + (if p.b = true then 1 else 0) ∧ (p.b = true → T = none) ∧ (p.b = false → p.more = true → T = (modsP p.l).map (fun q => (p.ms ++ q.1, q.2))) ∧ (p.b = false → p.more = false → T = some (p.ms, p.l))
def MS.next (p : MS) : MS := ⟨tkL (nmT p.l p.b).2.1 [44], (nmT p.l p.b).2.2, isM (nmT p.l p.b).2.1 [44], p.ms ++ [(nmT p.l p.b).1]⟩
def MS.m (p : MS) : Nat := if p.b = true then 0 else p.l.length + 1
theorem MS.step {T : Option (List Str × List TokV)} {N : Nat} {p : MS} (h : p.inv T N) (hb : p.b = false) (hm : p.more = true) : p.next.inv T N ∧ p.next.m < p.m := by
 obtain ⟨l, b, more, ms⟩ := p
 simp only at hb hm
 subst hb hm
 obtain ⟨h1, h2, h3, h4, h5⟩ := h
 have hT := h4 rfl rfl
 simp only at h1 h2 hT
 simp only [Bool.false_eq_true, if_false] at h2
 cases l with
 | nil =>
  have e : (modsP []).map (fun q : List Str × List TokV => (ms ++ q.1, q.2)) = none := by rw [modsP]; rfl
  rw [e] at hT
  refine ⟨⟨?_, ?_, fun _ => hT, fun hc => ?_, fun hc => ?_⟩, ?_⟩
  ·simp [MS.next, nmT, nxT, tkL, isM]
  ·simp [MS.next, nmT, nxT, tkL, isM] at h2 ⊢; omega
  ·simp [MS.next, nmT, nxT] at hc
  ·simp [MS.next, nmT, nxT] at hc
  ·simp [MS.next, MS.m, nmT, nxT]
 | cons t r =>
  simp only [List.length_cons] at h1 h2
  have hl := tkL_len r [44]
  by_cases c : t.k = 1
  ·rw [modsP_step ms c] at hT
   have q : (t.k != 1) = false := by simp [c]
   have e : MS.next ⟨t :: r, false, true, ms⟩ = ⟨tkL r [44], false, isM r [44], ms ++ [t.s]⟩ := by simp [MS.next, nmT, nxT, q]
   rw [e]
   refine ⟨⟨by simp only; omega, by simp only [List.length_append, List.length_cons, List.length_nil, Bool.false_eq_true, if_false]; omega, fun hc => (by cases hc), fun _ hc => ?_, fun _ hc => ?_⟩, ?_⟩
   ·simp only at hc
    rw [hT, if_pos hc]
   ·simp only at hc
    rw [hT, if_neg (by rw [hc]; simp)]
    simp only [tkL, hc, Bool.false_eq_true, if_false]
   ·simp only [MS.m, Bool.false_eq_true, if_false, List.length_cons]; omega
  ·have q : (t.k != 1) = true := by simp [c]
   have e0 : (modsP (t :: r)).map (fun q : List Str × List TokV => (ms ++ q.1, q.2)) = none := by rw [modsP, if_neg c]; rfl
   rw [e0] at hT
   have e : MS.next ⟨t :: r, false, true, ms⟩ = ⟨tkL r [44], true, isM r [44], ms ++ [t.s]⟩ := by simp [MS.next, nmT, nxT, q]
   rw [e]
   refine ⟨⟨by simp only; omega, by simp only [List.length_append, List.length_cons, List.length_nil, if_true]; omega, fun _ => hT, fun hc => (by cases hc), fun hc => (by cases hc)⟩, ?_⟩
   simp only [MS.m, if_true, Bool.false_eq_true, if_false, List.length_cons]; omega
end Go.Proofs.YtiilnlihimdnlaaGreatDoorFw
namespace Go.Proofs.YtiilnlihimdnlaaGreatDoorFw
open Go Go.RowKit
structure KS where
 l : List TokV
 b : Bool
 more : Bool
 ks : List SegV
def KS.inv (sg : List TokV → Option (SegV × List TokV)) (T : Option (List SegV × List TokV)) (N : Nat) (p : KS) : Prop := p.l.length ≤ N ∧ p.ks.length + p.l.length ≤ N + (if p.b = true then 1 else 0) ∧ (p.b = true → T = none) ∧
 (p.b = false → p.more = true → ∃ f, p.l.length < f ∧ T = (kidsP sg f p.l).map (fun q => (p.ks ++ q.1, q.2))) ∧ (p.b = false → p.more = false → T = some (p.ks, p.l))
def KS.next (p : KS) (x : SegV) (l' : List TokV) (b' : Bool) : KS := ⟨tkL l' [62], b', !isM l' [62], p.ks ++ [x]⟩
def KS.m (p : KS) : Nat := if p.b = true then 0 else p.l.length + 1
theorem KS.step {sg : List TokV → Option (SegV × List TokV)} (hs : ∀ l p, sg l = some p → p.2.length + 1 ≤ l.length) {T : Option (List SegV × List TokV)} {N : Nat} {p : KS} (h : p.inv sg T N) (hb : p.b = false) (hm : p.more = true)
 {x : SegV} {l' : List TokV} {b' : Bool} (hl' : l'.length ≤ p.l.length) (h1 : b' = false → sg p.l = some (x, l')) (h2 : b' = true → sg p.l = none) : (p.next x l' b').inv sg T N ∧ (p.next x l' b').m < p.m := by
 obtain ⟨l, b, more, ks⟩ := p
 simp only at hb hm hl' h1 h2
 subst hb hm
 obtain ⟨i1, i2, i3, i4, i5⟩ := h
 obtain ⟨f, hf, hT⟩ := i4 rfl rfl
 simp only at i1 i2 hf hT
 simp only [Bool.false_eq_true, if_false] at i2
 have htk := tkL_len l' [62]
 cases f with
 | zero => omega
 | succ f =>
  rw [kidsP] at hT
  cases b' with
  | true =>
   rw [h2 rfl] at hT
   refine ⟨⟨by simp only [KS.next]; omega, by simp only [KS.next, List.length_append, List.length_cons, List.length_nil, if_true]; omega, fun _ => hT, fun hc => (by cases hc), fun hc => (by cases hc)⟩, ?_⟩
   simp only [KS.next, KS.m, if_true, Bool.false_eq_true, if_false]; omega
  | false =>
   have hx := h1 rfl
   have hlt := hs _ _ hx
   rw [hx] at hT
   simp only at hT hlt
   refine ⟨⟨by simp only [KS.next]; omega, by simp only [KS.next, List.length_append, List.length_cons, List.length_nil, Bool.false_eq_true, if_false]; omega, fun hc => (by cases hc), fun _ hc => ?_, fun _ hc => ?_⟩, ?_⟩
   ·simp only [KS.next, Bool.not_eq_true'] at hc
    refine ⟨f, by simp only [KS.next]; omega, ?_⟩
    rw [hT, if_neg (by rw [hc]; simp)]
    simp only [KS.next, tkL, hc, Bool.false_eq_true, if_false]
    cases kidsP sg f l' with
    | none => rfl
    | some q => simp
   ·simp only [KS.next, Bool.not_eq_false'] at hc
    rw [hT, if_pos hc]
    simp only [KS.next, tkL, hc, if_true, Option.map_some, List.drop_one]
   ·simp only [KS.next, KS.m, Bool.false_eq_true, if_false]; omega
end Go.Proofs.YtiilnlihimdnlaaGreatDoorFw
namespace Go.Proofs.YtiilnlihimdnlaaGreatDoorFw
open Go Go.RowKit
end Go.Proofs.YtiilnlihimdnlaaGreatDoorFw
namespace Go.Proofs.YtiilnlihimdnlaaGreatDoorFw
open Go Go.RowKit
theorem drop_some {L : List TokV} {i : Nat} {t : TokV} (h : L[i]? = some t) : L.drop i = t :: L.drop (i + 1) := by
 obtain ⟨hlt, rfl⟩ := List.getElem?_eq_some_iff.1 h
 exact List.drop_eq_getElem_cons hlt
def tkI (L : List TokV) (i : Nat) (b : Bool) (m : Str) : Nat := if seS L i b m = true then i + 1 else i
theorem tkI_le {L : List TokV} {i : Nat} (b : Bool) (m : Str) (hi : i ≤ L.length) : i ≤ tkI L i b m ∧ tkI L i b m ≤ L.length := by
 unfold tkI
 by_cases h : seS L i b m = true
 ·rw [if_pos h]
  have : i < L.length := by
   rcases Nat.lt_or_ge i L.length with h' | h'
   ·exact h'
   ·unfold seS at h
    rw [List.getElem?_eq_none h'] at h; simp at h
  omega
 ·rw [if_neg h]; omega
end Go.Proofs.YtiilnlihimdnlaaGreatDoorFw
namespace Go.Proofs.YtiilnlihimdnlaaGreatDoorFw
open Go Go.RowKit
structure RK where
 i : Nat
 b : Bool
 ks : List SegV
def RK.inv (d : Nat) (L : List TokV) (K : Option (List SegV × List TokV)) (i0 : Nat) (p : RK) : Prop := i0 ≤ p.i ∧ p.i ≤ L.length ∧ p.ks.length ≤ p.i + (if p.b = true then 1 else 0) ∧ (p.b = true → K = none) ∧
 (p.b = false → KS.inv (segP d) K L.length (if p.ks = [] then ⟨L.drop p.i, false, true, []⟩ else ⟨tkL (L.drop p.i) [62], false, !isM (L.drop p.i) [62], p.ks⟩))
def RK.m (L : List TokV) (p : RK) : Nat := if p.b = true then 0 else (L.drop p.i).length + 1
theorem RK.more {d : Nat} {L : List TokV} {K : Option (List SegV × List TokV)} {i0 i : Nat} {ks : List SegV} (h : RK.inv d L K i0 ⟨i, false, ks⟩) (hc : ks = [] ∨ isM (L.drop i) [62] = false) : KS.inv (segP d) K L.length ⟨L.drop i, false, true, ks⟩ := by
 have h1 := h.2.2.2.2 rfl
 simp only at h1
 by_cases c : ks = []
 ·rw [if_pos c] at h1; rw [c]; exact h1
 ·rcases hc with hc | hc
  ·exact absurd hc c
  ·rw [if_neg c, hc] at h1
   have e : tkL (L.drop i) [62] = L.drop i := by simp [tkL, hc]
   rw [e] at h1
   exact h1
theorem RK.step {d : Nat} {L : List TokV} {K : Option (List SegV × List TokV)} {i0 i : Nat} {ks : List SegV} (h : RK.inv d L K i0 ⟨i, false, ks⟩) (hc : ks = [] ∨ isM (L.drop i) [62] = false) {x : SegV} {j : Nat} {b' : Bool} (hij : i ≤ j) (hj : j ≤ L.length)
 (h1 : b' = false → segQ d (L.drop i) false = some (x, L.drop j)) (h2 : b' = true → segQ d (L.drop i) false = none) : RK.inv d L K i0 ⟨j, b', ks ++ [x]⟩ ∧ RK.m L ⟨j, b', ks ++ [x]⟩ < RK.m L ⟨i, false, ks⟩ := by
 have hm := RK.more h hc
 have hst := KS.step (fun l p => segP_len d l p) hm rfl rfl (x := x) (l' := L.drop j) (b' := b') (by rw [List.length_drop, List.length_drop]; omega) (fun hb => by simpa [segQ] using h1 hb) (fun hb => by simpa [segQ] using h2 hb)
 have g1 := h.1
 have g3 := h.2.2.1
 simp only [Bool.false_eq_true, if_false] at g1 g3
 cases b' with
 | true =>
  refine ⟨⟨by simp only; omega, hj, by simp only [List.length_append, List.length_cons, List.length_nil, if_true]; omega, fun _ => hst.1.2.2.1 rfl, fun hb => (by cases hb)⟩, ?_⟩
  simp [RK.m]
 | false =>
  have hx := h1 rfl
  have hlt := segP_len d _ _ (show segP d (L.drop i) = some (x, L.drop j) by simpa [segQ] using hx)
  simp only [List.length_drop] at hlt
  refine ⟨⟨by simp only; omega, hj, by simp only [List.length_append, List.length_cons, List.length_nil, Bool.false_eq_true, if_false]; omega, fun hb => (by cases hb), fun _ => ?_⟩, ?_⟩
  ·simp only
   rw [if_neg (by simp)]
   exact hst.1
  ·simp only [RK.m, Bool.false_eq_true, if_false, List.length_drop]; omega
theorem RK.done {d : Nat} {L : List TokV} {K : Option (List SegV × List TokV)} {i0 i : Nat} {ks : List SegV} (h : RK.inv d L K i0 ⟨i, false, ks⟩) (hc : ks ≠ []) (hm : isM (L.drop i) [62] = true) : K = some (ks, tkL (L.drop i) [62]) := by
 have h1 := h.2.2.2.2 rfl
 simp only at h1
 rw [if_neg hc, hm] at h1
 exact h1.2.2.2.2 rfl rfl
structure RS where
 i : Nat
 b : Bool
 more : Bool
 ms : List Str
end Go.Proofs.YtiilnlihimdnlaaGreatDoorFw
