/- Trees of segments out of tokens: the reference's reader told by the grammar (pure). -/
import Derived.Test.YtiilnlihimdnlaaGreatDoorIK
namespace Go.Proofs.YtiilnlihimdnlaaGreatDoorFw
open Go Go.RowKit
set_option linter.unusedVariables false
set_option linter.unusedSimpArgs false
set_option maxRecDepth 4000
set_option pp.deepTerms.threshold 6
set_option pp.deepTerms false
def MarkOk (L : List TokV) : Prop := ∀ t ∈ L, ∀ c ∈ ([40, 41, 44, 60, 62] : Str), t.s = [c] → t.k = 4 ∧ t.n = 0
theorem drop_some {L : List TokV} {i : Nat} {t : TokV} (h : L[i]? = some t) : L.drop i = t :: L.drop (i + 1) := by
  obtain ⟨hlt, rfl⟩ := List.getElem?_eq_some_iff.1 h
  exact List.drop_eq_getElem_cons hlt
theorem seS_eq {L : List TokV} (hL : MarkOk L) (i : Nat) (b : Bool) {c : UInt8} (hc : c ∈ ([40, 41, 44, 60, 62] : Str)) : seS L i b [c] = (!b && isM (L.drop i) [c]) := by
  unfold seS
  congr 1
  cases h : L[i]? with
  | none =>
    have : L.drop i = [] := List.drop_eq_nil_of_le (List.getElem?_eq_none_iff.1 h)
    rw [this]; rfl
  | some t =>
    rw [drop_some h]
    simp only [isM, scEqL, scEq]
    by_cases e : t.s = [c]
    · obtain ⟨h1, h2⟩ := hL t (List.mem_of_getElem? h) c hc e
      simp [e, h1, h2]
    · have e' : (t.s == [c]) = false := by simpa using e
      simp [e']
def tkI (L : List TokV) (i : Nat) (b : Bool) (m : Str) : Nat := if seS L i b m = true then i + 1 else i
theorem tkI_drop {L : List TokV} (hL : MarkOk L) (i : Nat) {c : UInt8} (hc : c ∈ ([40, 41, 44, 60, 62] : Str)) : L.drop (tkI L i false [c]) = tkL (L.drop i) [c] := by
  unfold tkI tkL
  rw [seS_eq hL i false hc]
  simp only [Bool.not_false, Bool.true_and]
  split
  · rw [← List.drop_one, List.drop_drop]
  · rfl
theorem tkI_bad (L : List TokV) (i : Nat) (m : Str) : tkI L i true m = i := by simp [tkI, seS]
theorem tkI_le {L : List TokV} {i : Nat} (b : Bool) (m : Str) (hi : i ≤ L.length) : i ≤ tkI L i b m ∧ tkI L i b m ≤ L.length := by
  unfold tkI
  by_cases h : seS L i b m = true
  · rw [if_pos h]
    have : i < L.length := by
      rcases Nat.lt_or_ge i L.length with h' | h'
      · exact h'
      · unfold seS at h
        rw [List.getElem?_eq_none h'] at h; simp at h
    omega
  · rw [if_neg h]; omega
theorem nxS_eq (L : List TokV) (i : Nat) (b : Bool) (hi : i ≤ L.length) : (nxS L i b).1 = (nxT (L.drop i) b).1 ∧ L.drop (nxS L i b).2.1 = (nxT (L.drop i) b).2.1 ∧ (nxS L i b).2.2 = (nxT (L.drop i) b).2.2 ∧ i ≤ (nxS L i b).2.1 ∧ (nxS L i b).2.1 ≤ L.length := by
  unfold nxS nxT
  cases b with
  | true => simp; exact hi
  | false =>
    simp only [Bool.false_eq_true, if_false]
    cases h : L[i]? with
    | none =>
      have : L.drop i = [] := List.drop_eq_nil_of_le (List.getElem?_eq_none_iff.1 h)
      simp [this]
      omega
    | some t =>
      rw [drop_some h]
      obtain ⟨hlt, _⟩ := List.getElem?_eq_some_iff.1 h
      exact ⟨rfl, rfl, rfl, by simp only; omega, by simp only; omega⟩
theorem MS.bad {T : Option (List Str × List TokV)} {N : Nat} {p : MS} (h : p.inv T N) (hb : p.b = true) (l' : List TokV) (m' : Bool) (h1 : l'.length ≤ N) (h2 : p.ms.length + l'.length ≤ N + 1) : MS.inv T N ⟨l', true, m', p.ms⟩ :=
  ⟨h1, by simpa using h2, fun _ => h.2.2.1 hb, fun hc => (by cases hc), fun hc => (by cases hc)⟩
theorem MS.stepS {T : Option (List Str × List TokV)} {L : List TokV} (hL : MarkOk L) {i N : Nat} (hi : i ≤ L.length) {ms : List Str} (h : MS.inv T N ⟨L.drop i, false, true, ms⟩) :
    MS.inv T N ⟨L.drop (tkI L (nxS L i false).2.1 ((nxS L i false).2.2 || (nxS L i false).1.k != 1) [44]), (nxS L i false).2.2 || (nxS L i false).1.k != 1, seS L (nxS L i false).2.1 ((nxS L i false).2.2 || (nxS L i false).1.k != 1) [44], ms ++ [(nxS L i false).1.s]⟩ ∧
    MS.m ⟨L.drop (tkI L (nxS L i false).2.1 ((nxS L i false).2.2 || (nxS L i false).1.k != 1) [44]), (nxS L i false).2.2 || (nxS L i false).1.k != 1, seS L (nxS L i false).2.1 ((nxS L i false).2.2 || (nxS L i false).1.k != 1) [44], ms ++ [(nxS L i false).1.s]⟩ < MS.m ⟨L.drop i, false, true, ms⟩ := by
  obtain ⟨e1, e2, e3, e4, e5⟩ := nxS_eq L i false hi
  have hst := MS.step h rfl rfl
  have hN := h.2.1
  simp only [Bool.false_eq_true, if_false] at hN
  have hlen : (L.drop (nxS L i false).2.1).length ≤ (L.drop i).length := by rw [List.length_drop, List.length_drop]; omega
  have hno : MS.next ⟨L.drop i, false, true, ms⟩ = ⟨tkL (L.drop (nxS L i false).2.1) [44], (nxS L i false).2.2 || (nxS L i false).1.k != 1, isM (L.drop (nxS L i false).2.1) [44], ms ++ [(nxS L i false).1.s]⟩ := by
    simp only [MS.next, nmT, ← e1, ← e2, ← e3]
  rw [hno] at hst
  generalize (nxS L i false).1 = t at *
  generalize (nxS L i false).2.1 = j at *
  generalize ((nxS L i false).2.2 || t.k != 1) = b' at *
  cases b' with
  | true =>
    rw [tkI_bad]
    refine ⟨MS.bad hst.1 rfl _ _ ?_ ?_, ?_⟩
    · have := h.1; simp only at this; omega
    · simp only [List.length_append, List.length_cons, List.length_nil]; omega
    · simp only [MS.m, if_true, Bool.false_eq_true, if_false]; omega
  | false =>
    rw [tkI_drop hL j (by decide), seS_eq hL j false (by decide)]
    simpa using hst
end Go.Proofs.YtiilnlihimdnlaaGreatDoorFw
