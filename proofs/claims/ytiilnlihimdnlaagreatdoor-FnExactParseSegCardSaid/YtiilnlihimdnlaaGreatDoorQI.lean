/- Trees of segments out of tokens: the program's. -/
import Derived.Test.YtiilnlihimdnlaaGreatDoorQH
set_option linter.unusedVariables false
set_option linter.unusedSimpArgs false
set_option pp.deepTerms.threshold 6
set_option pp.deepTerms false
set_option maxRecDepth 4000
namespace Go.Proofs.YtiilnlihimdnlaaGreatDoorFw
open Go Go.RowKit
def segQ (d : Nat) (l : List TokV) (b : Bool) : Option (SegV × List TokV) := if b = true then none else segP d l
def PSegR (d : Nat) (l : List TokV) (b : Bool) (r : AV) (os ros : List (Nat × List AV)) : Prop := ∃ (n : Str) (ms : List Str) (ks : List SegV) (l' : List TokV) (b' : Bool),
  r = .agg [.str n, .hd 100 [], .hd 101 []] ∧ ros = [(1, strs ms), (3, segsA .own ks)] ∧ os = prO l' b' ∧ l'.length ≤ l.length ∧ ms.length ≤ l.length + 1 ∧ ks.length ≤ l.length + 1 ∧
  (b' = false → segQ d l b = some (.mk n ms ks, l')) ∧ (b' = true → segQ d l b = none)
def modT (l : List TokV) (b : Bool) : Option (List Str × List TokV) := if b = true then none else if isM l [41] = true then some ([], l) else modsP l
theorem modsP_step {t : TokV} {r : List TokV} (ms : List Str) (h : t.k = 1) : (modsP (t :: r)).map (fun p => (ms ++ p.1, p.2)) = if isM r [44] = true then (modsP (tkL r [44])).map (fun p => ((ms ++ [t.s]) ++ p.1, p.2)) else some (ms ++ [t.s], r) := by
  rw [modsP, if_pos h]
  by_cases c : isM r [44] = true
  · rw [if_pos c, if_pos c]
    unfold tkL
    rw [if_pos c, List.drop_one]
    cases modsP r.tail with
    | none => rfl
    | some p => simp
  · rw [if_neg c, if_neg c]; rfl
structure MS where
  l : List TokV
  b : Bool
  more : Bool
  ms : List Str
def MS.inv (T : Option (List Str × List TokV)) (N : Nat) (p : MS) : Prop := p.l.length ≤ N ∧ p.ms.length + p.l.length ≤ N + (if p.b = true then 1 else 0) ∧ (p.b = true → T = none) ∧ (p.b = false → p.more = true → T = (modsP p.l).map (fun q => (p.ms ++ q.1, q.2))) ∧ (p.b = false → p.more = false → T = some (p.ms, p.l))
def MS.next (p : MS) : MS := ⟨tkL (nmT p.l p.b).2.1 [44], (nmT p.l p.b).2.2, isM (nmT p.l p.b).2.1 [44], p.ms ++ [(nmT p.l p.b).1]⟩
def MS.m (p : MS) : Nat := if p.b = true then 0 else p.l.length + 1
theorem MS.step {T : Option (List Str × List TokV)} {N : Nat} {p : MS} (h : p.inv T N) (hb : p.b = false) (hm : p.more = true) : p.next.inv T N ∧ p.next.m < p.m := by
  obtain ⟨l, b, more, ms⟩ := p
  simp only at hb hm
  subst hb hm
  obtain ⟨h1, h2, h3, h4, h5⟩ := h
  have hT := h4 rfl rfl
  simp only at h1 h2 hT
  simp only [Bool.false_eq_true, if_false] at h2
  cases l with
  | nil =>
    have e : (modsP []).map (fun q : List Str × List TokV => (ms ++ q.1, q.2)) = none := by rw [modsP]; rfl
    rw [e] at hT
    refine ⟨⟨?_, ?_, fun _ => hT, fun hc => ?_, fun hc => ?_⟩, ?_⟩
    · simp [MS.next, nmT, nxT, tkL, isM]
    · simp [MS.next, nmT, nxT, tkL, isM] at h2 ⊢; omega
    · simp [MS.next, nmT, nxT] at hc
    · simp [MS.next, nmT, nxT] at hc
    · simp [MS.next, MS.m, nmT, nxT]
  | cons t r =>
    simp only [List.length_cons] at h1 h2
    have hl := tkL_len r [44]
    by_cases c : t.k = 1
    · rw [modsP_step ms c] at hT
      have q : (t.k != 1) = false := by simp [c]
      have e : MS.next ⟨t :: r, false, true, ms⟩ = ⟨tkL r [44], false, isM r [44], ms ++ [t.s]⟩ := by simp [MS.next, nmT, nxT, q]
      rw [e]
      refine ⟨⟨by simp only; omega, by simp only [List.length_append, List.length_cons, List.length_nil, Bool.false_eq_true, if_false]; omega, fun hc => (by cases hc), fun _ hc => ?_, fun _ hc => ?_⟩, ?_⟩
      · simp only at hc
        rw [hT, if_pos hc]
      · simp only at hc
        rw [hT, if_neg (by rw [hc]; simp)]
        simp only [tkL, hc, Bool.false_eq_true, if_false]
      · simp only [MS.m, Bool.false_eq_true, if_false, List.length_cons]; omega
    · have q : (t.k != 1) = true := by simp [c]
      have e0 : (modsP (t :: r)).map (fun q : List Str × List TokV => (ms ++ q.1, q.2)) = none := by rw [modsP, if_neg c]; rfl
      rw [e0] at hT
      have e : MS.next ⟨t :: r, false, true, ms⟩ = ⟨tkL r [44], true, isM r [44], ms ++ [t.s]⟩ := by simp [MS.next, nmT, nxT, q]
      rw [e]
      refine ⟨⟨by simp only; omega, by simp only [List.length_append, List.length_cons, List.length_nil, if_true]; omega, fun _ => hT, fun hc => (by cases hc), fun hc => (by cases hc)⟩, ?_⟩
      simp only [MS.m, if_true, Bool.false_eq_true, if_false, List.length_cons]; omega
end Go.Proofs.YtiilnlihimdnlaaGreatDoorFw
namespace Go.Proofs.YtiilnlihimdnlaaGreatDoorFw
open Go Go.RowKit
structure KS where
  l : List TokV
  b : Bool
  more : Bool
  ks : List SegV
def KS.inv (sg : List TokV → Option (SegV × List TokV)) (T : Option (List SegV × List TokV)) (N : Nat) (p : KS) : Prop := p.l.length ≤ N ∧ p.ks.length + p.l.length ≤ N + (if p.b = true then 1 else 0) ∧ (p.b = true → T = none) ∧
  (p.b = false → p.more = true → ∃ f, p.l.length < f ∧ T = (kidsP sg f p.l).map (fun q => (p.ks ++ q.1, q.2))) ∧ (p.b = false → p.more = false → T = some (p.ks, p.l))
def KS.next (p : KS) (x : SegV) (l' : List TokV) (b' : Bool) : KS := ⟨tkL l' [62], b', !isM l' [62], p.ks ++ [x]⟩
def KS.m (p : KS) : Nat := if p.b = true then 0 else p.l.length + 1
theorem KS.step {sg : List TokV → Option (SegV × List TokV)} (hs : ∀ l p, sg l = some p → p.2.length + 1 ≤ l.length) {T : Option (List SegV × List TokV)} {N : Nat} {p : KS} (h : p.inv sg T N) (hb : p.b = false) (hm : p.more = true)
    {x : SegV} {l' : List TokV} {b' : Bool} (hl' : l'.length ≤ p.l.length) (h1 : b' = false → sg p.l = some (x, l')) (h2 : b' = true → sg p.l = none) : (p.next x l' b').inv sg T N ∧ (p.next x l' b').m < p.m := by
  obtain ⟨l, b, more, ks⟩ := p
  simp only at hb hm hl' h1 h2
  subst hb hm
  obtain ⟨i1, i2, i3, i4, i5⟩ := h
  obtain ⟨f, hf, hT⟩ := i4 rfl rfl
  simp only at i1 i2 hf hT
  simp only [Bool.false_eq_true, if_false] at i2
  have htk := tkL_len l' [62]
  cases f with
  | zero => omega
  | succ f =>
    rw [kidsP] at hT
    cases b' with
    | true =>
      rw [h2 rfl] at hT
      refine ⟨⟨by simp only [KS.next]; omega, by simp only [KS.next, List.length_append, List.length_cons, List.length_nil, if_true]; omega, fun _ => hT, fun hc => (by cases hc), fun hc => (by cases hc)⟩, ?_⟩
      simp only [KS.next, KS.m, if_true, Bool.false_eq_true, if_false]; omega
    | false =>
      have hx := h1 rfl
      have hlt := hs _ _ hx
      rw [hx] at hT
      simp only at hT hlt
      refine ⟨⟨by simp only [KS.next]; omega, by simp only [KS.next, List.length_append, List.length_cons, List.length_nil, Bool.false_eq_true, if_false]; omega, fun hc => (by cases hc), fun _ hc => ?_, fun _ hc => ?_⟩, ?_⟩
      · simp only [KS.next, Bool.not_eq_true'] at hc
        refine ⟨f, by simp only [KS.next]; omega, ?_⟩
        rw [hT, if_neg (by rw [hc]; simp)]
        simp only [KS.next, tkL, hc, Bool.false_eq_true, if_false]
        cases kidsP sg f l' with
        | none => rfl
        | some q => simp
      · simp only [KS.next, Bool.not_eq_false'] at hc
        rw [hT, if_pos hc]
        simp only [KS.next, tkL, hc, if_true, Option.map_some, List.drop_one]
      · simp only [KS.next, KS.m, Bool.false_eq_true, if_false]; omega
def kidT (d : Nat) (l4 : List TokV) (b5 : Bool) : Option (List SegV × List TokV) := if b5 = true then none else if isM (tkL l4 [41]) [60] = true then kidsP (segP d) (l4.length + 1) (tkL (tkL l4 [41]) [60]) else some ([], tkL (tkL l4 [41]) [60])
theorem segQ_eq (d : Nat) (l : List TokV) (b : Bool) (ms : List Str) (l4 : List TokV) (b4 : Bool)
    (h1 : b4 = true → modT (tkL (nmT l b).2.1 [40]) ((nmT l b).2.2 || !isM (nmT l b).2.1 [40]) = none) (h2 : b4 = false → modT (tkL (nmT l b).2.1 [40]) ((nmT l b).2.2 || !isM (nmT l b).2.1 [40]) = some (ms, l4)) :
    segQ (d + 1) l b = (kidT d l4 (b4 || !isM l4 [41])).map (fun q => (.mk (nmT l b).1 ms q.1, q.2)) := by
  have key : segQ (d + 1) l b = match modT (tkL (nmT l b).2.1 [40]) ((nmT l b).2.2 || !isM (nmT l b).2.1 [40]) with
      | none => none
      | some p => if isM p.2 [41] = true then
          (if isM (p.2.drop 1) [60] = true then (match kidsP (segP d) (p.2.length + 1) ((p.2.drop 1).drop 1) with
            | none => none
            | some q => some (.mk (nmT l b).1 p.1 q.1, q.2)) else some (.mk (nmT l b).1 p.1 [], p.2.drop 1)) else none := by
    unfold segQ
    cases b with
    | true => simp [nmT, nxT, modT]
    | false =>
      simp only [Bool.false_eq_true, if_false]
      cases l with
      | nil => simp [nmT, nxT, modT, segP]
      | cons t r =>
        rw [segP]
        by_cases c : t.k = 1
        · have q : (t.k != 1) = false := by simp [c]
          by_cases c2 : isM r [40] = true
          · rw [if_pos ⟨c, c2⟩]
            simp only [nmT, nxT, Bool.false_eq_true, if_false, q, Bool.or_false, c2, Bool.not_true, tkL, if_true, modT, List.drop_one]
            rfl
          · have c3 : isM r [40] = false := by simpa using c2
            rw [if_neg (fun h => c2 h.2)]
            simp [nmT, nxT, q, c3, modT]
        · have q : (t.k != 1) = true := by simp [c]
          rw [if_neg (fun h => c h.1)]
          simp [nmT, nxT, q, modT]
  rw [key]
  cases b4 with
  | true => rw [h1 rfl]; simp [kidT]
  | false =>
    rw [h2 rfl]
    simp only [kidT, Bool.false_or]
    by_cases c : isM l4 [41] = true
    · have e : tkL l4 [41] = l4.drop 1 := by simp only [tkL, if_pos c, List.drop_one]
      rw [if_pos c, c, e]
      simp only [Bool.not_true, Bool.false_eq_true, if_false]
      by_cases c2 : isM (l4.drop 1) [60] = true
      · have e2 : tkL (l4.drop 1) [60] = (l4.drop 1).drop 1 := by rw [tkL, if_pos c2, ← List.drop_one]
        rw [if_pos c2, if_pos c2, e2]
        cases kidsP (segP d) (l4.length + 1) ((l4.drop 1).drop 1) with
        | none => rfl
        | some q => rfl
      · have e2 : tkL (l4.drop 1) [60] = l4.drop 1 := by rw [tkL, if_neg c2]
        rw [if_neg c2, if_neg c2, e2]
        rfl
    · rw [if_neg c]
      have c3 : isM l4 [41] = false := by simpa using c
      rw [c3]
      simp
end Go.Proofs.YtiilnlihimdnlaaGreatDoorFw
