/- Trees of segments: copies, comparisons, marks. -/
import Derived.Test.YtinhdeocgchncaaA2
namespace Go.Proofs.YtinhdeocgchncaaFw
open Go Go.RowKit
set_option linter.unusedVariables false
set_option linter.unusedSimpArgs false
set_option maxRecDepth 4000
set_option pp.deepTerms.threshold 6
set_option pp.deepTerms false

open Classical in
noncomputable instance : DecidableEq SegV := fun a b => inferInstance

theorem segsA_snoc (m : Md) {l : List SegV} {i : Nat} (h : i < l.length) : segsA m (l.take (i + 1)) = segsA m (l.take i) ++ [segA m l[i]] := by rw [take_snoc h, segsA_eq, segsA_eq, List.map_append]; rfl

end Go.Proofs.YtinhdeocgchncaaFw
