/-
  DERIVED. GIVEN WITH THE SEED: THE CARDS: each row of YtedmpcmfcnfclaaDoorRows.lean that lists a variable, with what it lists TIED to the program's text (the seventh form; the later family's looks); each row that meets fmt, with fmt's text TOLD by the authors' own Lean function (tested against real Go, not proved from fmt's source: count such statements apart). THE CARD IS WHAT COUNTS. Prove the row's statement (the work); the ties are given (YtedmpcmfcnfclaaDoorTie.lean); close each card by the builder's one call (the guide's Derived/Test/ToyasCard.lean, 'card_holds'). Laid BY PROGRAM, IN A SANDBOX (cutbox-door.mjs). By AI agents, Wed Nov 11 2026. No macro, syntax, notation, axiom, sorry.
-/
import Derived.Test.YtedmpcmfcnfclaaDoorRows
import GoSem.ClaimSeven
namespace Go.Proofs.YtedmpcmfcnfclaaDoor
namespace Rows

/-- THE TIED CARD OF 'laws.FnExactSegText'. -/
def fnExactSegTextCard : Claim7 := { stood := { row := fnExactSegTextRow, standIns := [], harness := (true, "cd9e91874b9d9a8b091464e550a05740d1b05a485b5edf4d331ae5cf0719e14f"), looks := false }, kinds := [], alts := [], laidByText := true, laidKinds := [.data, .data, .data], laidTests := true, laidLooks := .later }
def FnExactSegTextCardSaid : Prop := Claim7.holds Tryd.pinned (.plain (OpenSpec.ofChange fnExactSegTextSpec)) fnExactSegTextCard

/-- THE SECOND FORM's CARD OF 'laws.FnExactSegText'. -/
def fnExactSegTextUptoCard : Claim7 := { stood := { row := fnExactSegTextUptoRow, standIns := [], harness := (true, "cd9e91874b9d9a8b091464e550a05740d1b05a485b5edf4d331ae5cf0719e14f"), looks := false }, kinds := [], alts := [], laidByText := true, laidKinds := [.data, .data, .data], laidTests := true, laidLooks := .later }
def FnExactSegTextUptoCardSaid : Prop := Claim7.holds Tryd.pinned (.plain (OpenSpec.upto fnExactSegTextSpec)) fnExactSegTextUptoCard
end Rows
end Go.Proofs.YtedmpcmfcnfclaaDoor
