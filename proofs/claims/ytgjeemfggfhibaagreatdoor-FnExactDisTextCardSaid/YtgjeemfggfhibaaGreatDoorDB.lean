/- Lines: marks. -/
import Derived.Test.YtgjeemfggfhibaaGreatDoorDA
set_option linter.unusedVariables false
set_option linter.unusedSimpArgs false
set_option pp.deepTerms.threshold 6
set_option pp.deepTerms false
set_option maxRecDepth 4000
namespace Go.Proofs.YtgjeemfggfhibaaGreatDoorFw
open Go Go.RowKit
def LineV.cnt : LineV → Nat
  | .mk k s op sf sr sk sn ss sl df dr dk dn ds dl n l => ExprV.cntL sl + (ExprV.cntL dl + ExprV.cntL l)
end Go.Proofs.YtgjeemfggfhibaaGreatDoorFw
namespace Go.Proofs.YtgjeemfggfhibaaGreatDoorFw
open Go Go.RowKit
def linesA (m : Md) (l : List LineV) : List AV := l.map (lineA m)
theorem linesA_len (m : Md) (l : List LineV) : (linesA m l).length = l.length := by simp [linesA]
theorem linesA_get (m : Md) {l : List LineV} {i : Nat} (h : i < l.length) : (linesA m l)[i]? = some (lineA m l[i]) := by simp [linesA, h]
theorem brw_lines (m : Md) : ∀ l : List LineV, brwL (linesA m l) = linesA .bo l
  | [] => rfl
  | e :: r => by
    have := brw_lines m r
    simp only [linesA, List.map_cons, brwL, brw_line] at *
    rw [this]
theorem noBo_lines : ∀ l : List LineV, noBoL (linesA .own l) = true
  | [] => rfl
  | e :: r => by
    have := noBo_lines r
    simp only [linesA, List.map_cons, noBoL, noBo_line, Bool.and_self] at *
    rw [this]; rfl
def LineV.cntA : LineV → Nat
  | .mk k s op sf sr sk sn ss sl df dr dk dn ds dl n l => 8 + (ExprV.cntL sl + (5 + (ExprV.cntL dl + (1 + ExprV.cntL l))))
end Go.Proofs.YtgjeemfggfhibaaGreatDoorFw
namespace Go.Proofs.YtgjeemfggfhibaaGreatDoorFw
open Go Go.RowKit
end Go.Proofs.YtgjeemfggfhibaaGreatDoorFw
