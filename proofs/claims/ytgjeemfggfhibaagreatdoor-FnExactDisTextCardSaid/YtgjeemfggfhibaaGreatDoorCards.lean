/-
  DERIVED. GIVEN WITH THE SEED: THE CARDS: each row of YtgjeemfggfhibaaGreatDoorRows.lean that lists a variable, with what it lists TIED to the program's text (the seventh form; the later family's looks); each row that meets fmt, with fmt's text TOLD by the authors' own Lean function (tested against real Go, not proved from fmt's source: count such statements apart). THE CARD IS WHAT COUNTS. Prove the row's statement (the work); the ties are given (YtgjeemfggfhibaaGreatDoorTie.lean); close each card by the builder's one call (the guide's Derived/Test/ToyasCard.lean, 'card_holds'). Laid BY PROGRAM, IN A SANDBOX (cutbox-door.mjs). By AI agents, Wed Nov 11 2026. No macro, syntax, notation, axiom, sorry.
-/
import Derived.Test.YtgjeemfggfhibaaGreatDoorRows
import GoSem.ClaimSeven
namespace Go.Proofs.YtgjeemfggfhibaaGreatDoor
namespace Rows

/-- THE TIED CARD OF 'laws.FnExactDisText'. -/
def fnExactDisTextCard : Claim7 := { stood := { row := fnExactDisTextRow, standIns := [], harness := (true, "da73e9a327f74a98d9a4d3c5a8e54b2703b631b2457eb1dd45cd762b0d9068cd"), looks := true }, kinds := [], alts := [], laidByText := true, laidKinds := [.data, .data, .data], laidTests := true, laidLooks := .later }
def FnExactDisTextCardSaid : Prop := Claim7.holds Tryz.pinned (.plain (OpenSpec.ofChange fnExactDisTextSpec)) fnExactDisTextCard

/-- THE TIED CARD OF 'laws.FnExactParseSeg'. -/
def fnExactParseSegCard : Claim7 := { stood := { row := fnExactParseSegRow, standIns := [], harness := (true, "da73e9a327f74a98d9a4d3c5a8e54b2703b631b2457eb1dd45cd762b0d9068cd"), looks := true }, kinds := [], alts := [], laidByText := true, laidKinds := [.data, .data, .data, .sentinel, .sentinel], laidTests := true, laidLooks := .later }
def FnExactParseSegCardSaid : Prop := Claim7.holds Tryz.pinned (.plain (OpenSpec.ofChange fnExactParseSegSpec)) fnExactParseSegCard

/-- THE SECOND FORM's CARD OF 'laws.FnExactDisText'. -/
def fnExactDisTextUptoCard : Claim7 := { stood := { row := fnExactDisTextUptoRow, standIns := [], harness := (true, "da73e9a327f74a98d9a4d3c5a8e54b2703b631b2457eb1dd45cd762b0d9068cd"), looks := true }, kinds := [], alts := [], laidByText := true, laidKinds := [.data, .data, .data], laidTests := true, laidLooks := .later }
def FnExactDisTextUptoCardSaid : Prop := Claim7.holds Tryz.pinned (.plain (OpenSpec.upto fnExactDisTextSpec)) fnExactDisTextUptoCard

/-- THE SECOND FORM's CARD OF 'laws.FnExactParseSeg'. -/
def fnExactParseSegUptoCard : Claim7 := { stood := { row := fnExactParseSegUptoRow, standIns := [], harness := (true, "da73e9a327f74a98d9a4d3c5a8e54b2703b631b2457eb1dd45cd762b0d9068cd"), looks := true }, kinds := [], alts := [], laidByText := true, laidKinds := [.data, .data, .data, .sentinel, .sentinel], laidTests := true, laidLooks := .later }
def FnExactParseSegUptoCardSaid : Prop := Claim7.holds Tryz.pinned (.plain (OpenSpec.upto fnExactParseSegSpec)) fnExactParseSegUptoCard
end Rows
end Go.Proofs.YtgjeemfggfhibaaGreatDoor
