/- Drawn trees, and how many words their modules have. -/
import Derived.Test.YtinhdeocgchncaaX4
namespace Go.Proofs.YtinhdeocgchncaaFw
open Go Go.RowKit
set_option linter.unusedVariables false
set_option linter.unusedSimpArgs false
set_option maxRecDepth 4000
set_option pp.deepTerms.threshold 6
set_option pp.deepTerms false

end Go.Proofs.YtinhdeocgchncaaFw
