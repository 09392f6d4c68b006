/- Trees of segments: marks; the names in order. -/
import Derived.Test.YtinhdeocgchncaaA3
namespace Go.Proofs.YtinhdeocgchncaaFw
open Go Go.RowKit
set_option linter.unusedVariables false
set_option linter.unusedSimpArgs false
set_option maxRecDepth 4000
set_option pp.deepTerms.threshold 6
set_option pp.deepTerms false

mutual
def SegV.cnt : SegV → Nat
  | .mk n ms ks => 1 + ms.length + SegV.cntL ks
def SegV.cntL : List SegV → Nat
  | [] => 0
  | s :: r => s.cnt + SegV.cntL r
end
mutual
def SegV.mark : SegV → Int → SegV
  | .mk n ms ks, k => .mk (markTxt k) (markStrs ms (k + 1)) (SegV.marks ks (k + 1 + ms.length))
def SegV.marks : List SegV → Int → List SegV
  | [], _ => []
  | s :: r, k => s.mark k :: SegV.marks r (k + s.cnt)
end

theorem SegV.marks_len : ∀ (l : List SegV) (k : Int), (SegV.marks l k).length = l.length
  | [], k => rfl
  | s :: r, k => by simp [SegV.marks, SegV.marks_len r]

theorem SegV.marks_get : ∀ (l : List SegV) (k : Int) (i : Nat) (h : i < l.length), (SegV.marks l k)[i]? = some (l[i].mark (k + SegV.cntL (l.take i)))
  | s :: r, k, 0, h => by simp [SegV.marks, SegV.cntL]
  | s :: r, k, i + 1, h => by
    simp only [SegV.marks, List.getElem?_cons_succ]
    rw [SegV.marks_get r _ i (by simpa using h)]
    simp only [List.getElem_cons_succ, List.take_succ_cons, SegV.cntL]
    congr 2; omega

theorem SegV.cntL_snoc : ∀ (l : List SegV) (i : Nat) (h : i < l.length), SegV.cntL (l.take (i + 1)) = SegV.cntL (l.take i) + l[i].cnt
  | s :: r, 0, h => by simp [SegV.cntL]
  | s :: r, i + 1, h => by
    simp only [List.take_succ_cons, SegV.cntL, List.getElem_cons_succ]
    rw [SegV.cntL_snoc r i (by simpa using h)]; omega

mutual
theorem SegV.cnt_le : ∀ s : SegV, s.cnt ≤ s.tot + 1
  | .mk n ms ks => by simp only [SegV.cnt, SegV.tot, totS]; have := SegV.cntL_le ks; omega
theorem SegV.cntL_le : ∀ l : List SegV, SegV.cntL l ≤ SegV.totL l + l.length
  | [] => by simp [SegV.cntL]
  | s :: r => by simp only [SegV.cntL, SegV.totL, List.length_cons]; have := SegV.cnt_le s; have := SegV.cntL_le r; omega
end

theorem SegV.cnt_pos (s : SegV) : 1 ≤ s.cnt := by obtain ⟨n, ms, ks⟩ := s; simp only [SegV.cnt]; omega
theorem SegV.cntL_len : ∀ l : List SegV, l.length ≤ SegV.cntL l
  | [] => by simp [SegV.cntL]
  | s :: r => by simp only [SegV.cntL, List.length_cons]; have := SegV.cnt_pos s; have := SegV.cntL_len r; omega

theorem SegV.indL {P : List SegV → Prop} (h : ∀ l, (∀ n ms ks, SegV.mk n ms ks ∈ l → P ks) → P l) : ∀ l, P l := by
  have key : ∀ (n : Nat) (l : List SegV), SizeOf.sizeOf l < n → P l := by
    intro n
    induction n with
    | zero => intro s hs; omega
    | succ n ih =>
      intro l hs
      refine h l fun a ms ks hk => ih ks ?_
      have h1 := List.sizeOf_lt_of_mem hk
      simp only [SegV.mk.sizeOf_spec] at h1
      omega
  exact fun l => key (SizeOf.sizeOf l + 1) l (by omega)

theorem SegV.cntL_mem : ∀ {l : List SegV} {s : SegV}, s ∈ l → s.cnt ≤ SegV.cntL l
  | x :: r, s, h => by
    simp only [SegV.cntL]
    rcases List.mem_cons.1 h with e | e
    · subst e; omega
    · have := SegV.cntL_mem e; omega

theorem SegV.cntL_take (l : List SegV) (i : Nat) : SegV.cntL (l.take i) ≤ SegV.cntL l := by
  induction l generalizing i with
  | nil => simp [SegV.cntL]
  | cons s r ih =>
    cases i with
    | zero => simp [SegV.cntL]
    | succ i => simp only [List.take_succ_cons, SegV.cntL]; have := ih i; omega

end Go.Proofs.YtinhdeocgchncaaFw
