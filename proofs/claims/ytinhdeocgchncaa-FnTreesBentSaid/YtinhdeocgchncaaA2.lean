/- Trees of segments: how they are told; the law's helpers. -/
import Derived.Test.YtinhdeocgchncaaA1
namespace Go.Proofs.YtinhdeocgchncaaFw
open Go Go.RowKit
set_option linter.unusedVariables false
set_option linter.unusedSimpArgs false
set_option maxRecDepth 4000
set_option pp.deepTerms.threshold 6
set_option pp.deepTerms false

inductive SegV where
  | mk (name : Str) (mods : List Str) (kids : List SegV)

mutual
def segA (m : Md) : SegV → AV
  | .mk n ms ks => .agg [.str n, .row m 1 (strs ms), .row m 3 (segsA m ks)]
def segsA (m : Md) : List SegV → List AV
  | [] => []
  | s :: r => segA m s :: segsA m r
end

theorem segsA_eq (m : Md) (l : List SegV) : segsA m l = l.map (segA m) := by induction l <;> simp [segsA, *]
theorem segsA_len (m : Md) (l : List SegV) : (segsA m l).length = l.length := by simp [segsA_eq]
theorem segsA_get (m : Md) {l : List SegV} {i : Nat} (h : i < l.length) : (segsA m l)[i]? = some (segA m l[i]) := by simp [segsA_eq, h]
theorem segA_mk (m : Md) (n : Str) (ms : List Str) (ks : List SegV) : segA m (.mk n ms ks) = .agg [.str n, .row m 1 (strs ms), .row m 3 (segsA m ks)] := by simp only [segA]

mutual
theorem brw_seg : ∀ (m : Md) (s : SegV), brw (segA m s) = segA .bo s
  | m, .mk n ms ks => by simp only [segA, brw, brwL, brw_strs, brw_segs m ks]
theorem brw_segs : ∀ (m : Md) (l : List SegV), brwL (segsA m l) = segsA .bo l
  | m, [] => rfl
  | m, s :: r => by simp only [segsA, brwL, brw_seg m s, brw_segs m r]
end

mutual
theorem noBo_seg : ∀ (s : SegV), noBo (segA .own s) = true
  | .mk n ms ks => by simp only [segA, noBo, noBoL, noBo_strs, noBo_segs ks, Bool.and_self]
theorem noBo_segs : ∀ (l : List SegV), noBoL (segsA .own l) = true
  | [] => rfl
  | s :: r => by simp only [segsA, noBoL, noBo_seg s, noBo_segs r, Bool.and_self]
end

mutual
/-- How many letters and elements there are. -/
def SegV.tot : SegV → Nat
  | .mk n ms ks => n.length + totS ms + (ks.length + SegV.totL ks)
def SegV.totL : List SegV → Nat
  | [] => 0
  | s :: r => s.tot + SegV.totL r
end

theorem SegV.totL_mem : ∀ {l : List SegV} {s : SegV}, s ∈ l → s.tot ≤ SegV.totL l
  | x :: r, s, h => by
    simp only [SegV.totL]
    rcases List.mem_cons.1 h with e | e
    · subst e; omega
    · have := SegV.totL_mem e; omega

theorem SegV.ind {P : SegV → Prop} (h : ∀ n ms ks, (∀ k ∈ ks, P k) → P (.mk n ms ks)) : ∀ s, P s := by
  have key : ∀ (n : Nat) (s : SegV), SizeOf.sizeOf s < n → P s := by
    intro n
    induction n with
    | zero => intro s hs; omega
    | succ n ih =>
      intro s hs
      cases s with
      | mk a ms ks =>
        refine h a ms ks fun k hk => ih k ?_
        have h1 := List.sizeOf_lt_of_mem hk
        simp only [SegV.mk.sizeOf_spec] at hs
        omega
  exact fun s => key (SizeOf.sizeOf s + 1) s (by omega)

end Go.Proofs.YtinhdeocgchncaaFw
