/- Lines: marks. -/
import Derived.Test.YtedmpcmfcnfclaaD4
namespace Go.Proofs.YtedmpcmfcnfclaaFw
open Go Go.RowKit
set_option linter.unusedVariables false
set_option linter.unusedSimpArgs false
set_option maxRecDepth 4000
set_option pp.deepTerms.threshold 6
set_option pp.deepTerms false

def LineV.cnt : LineV → Nat
  | .mk k s op sf sr sk sn ss sl df dr dk dn ds dl n l => ExprV.cntL sl + (ExprV.cntL dl + ExprV.cntL l)

def LineV.markIn : LineV → Int → LineV
  | .mk k s op sf sr sk sn ss sl df dr dk dn ds dl n l, q => .mk k s op sf sr sk sn ss (ExprV.marks sl q) df dr dk dn ds (ExprV.marks dl (q + ExprV.cntL sl)) n (ExprV.marks l (q + ExprV.cntL sl + ExprV.cntL dl))

end Go.Proofs.YtedmpcmfcnfclaaFw
