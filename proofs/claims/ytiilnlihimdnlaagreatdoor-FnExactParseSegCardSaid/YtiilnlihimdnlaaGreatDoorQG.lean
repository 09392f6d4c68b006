/- The tokens of terms: the reference's and the program's. -/
import Derived.Test.YtiilnlihimdnlaaGreatDoorQT
import Derived.Test.YtiilnlihimdnlaaGreatDoorFwE
set_option linter.unusedVariables false
set_option linter.unusedSimpArgs false
set_option pp.deepTerms.threshold 6
set_option pp.deepTerms false
set_option maxRecDepth 4000
namespace Go.Proofs.YtiilnlihimdnlaaGreatDoorFw
open Go Go.RowKit
end Go.Proofs.YtiilnlihimdnlaaGreatDoorFw
namespace Go.Proofs.YtiilnlihimdnlaaGreatDoorFw
open Go Go.RowKit
end Go.Proofs.YtiilnlihimdnlaaGreatDoorFw
