/- Trees of segments: copies, comparisons, marks. -/
import Derived.Test.YtinhdeocgchncaaA2
namespace Go.Proofs.YtinhdeocgchncaaFw
open Go Go.RowKit
set_option linter.unusedVariables false
set_option linter.unusedSimpArgs false
set_option maxRecDepth 4000
set_option pp.deepTerms.threshold 6
set_option pp.deepTerms false

open Classical in
noncomputable instance : DecidableEq SegV := fun a b => inferInstance

end Go.Proofs.YtinhdeocgchncaaFw
