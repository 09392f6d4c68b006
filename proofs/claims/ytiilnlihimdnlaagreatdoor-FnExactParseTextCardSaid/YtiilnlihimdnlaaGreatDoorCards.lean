/-
  DERIVED. GIVEN WITH THE SEED: THE CARDS: each row of YtiilnlihimdnlaaGreatDoorRows.lean that lists a variable, with what it lists TIED to the program's text (the seventh form; the later family's looks); each row that meets fmt, with fmt's text TOLD by the authors' own Lean function (tested against real Go, not proved from fmt's source: count such statements apart). THE CARD IS WHAT COUNTS. Prove the row's statement (the work); the ties are given (YtiilnlihimdnlaaGreatDoorTie.lean); close each card by the builder's one call (the guide's Derived/Test/ToyasCard.lean, 'card_holds'). Laid BY PROGRAM, IN A SANDBOX (cutbox-door.mjs). By AI agents, Wed Nov 11 2026. No macro, syntax, notation, axiom, sorry.
-/
import Derived.Test.YtiilnlihimdnlaaGreatDoorRows
import GoSem.ClaimSeven
namespace Go.Proofs.YtiilnlihimdnlaaGreatDoor
namespace Rows

/-- THE TIED CARD OF 'laws.FnExactParseSeg'. -/
def fnExactParseSegCard : Claim7 := { stood := { row := fnExactParseSegRow, standIns := [], harness := (true, "de2dc3a1707e3b5509b9417dc761a937a007df4385cd10ea8c26c6cd3bc49216"), looks := true }, kinds := [], alts := [], laidByText := true, laidKinds := [.data, .data, .data, .sentinel, .sentinel], laidTests := true, laidLooks := .later }
def FnExactParseSegCardSaid : Prop := Claim7.holds Tryz.pinned (.plain (OpenSpec.ofChange fnExactParseSegSpec)) fnExactParseSegCard

/-- THE TIED CARD OF 'laws.FnExactParseLine'. -/
def fnExactParseLineCard : Claim7 := { stood := { row := fnExactParseLineRow, standIns := [], harness := (true, "de2dc3a1707e3b5509b9417dc761a937a007df4385cd10ea8c26c6cd3bc49216"), looks := true }, kinds := [], alts := [], laidByText := true, laidKinds := [.data, .data, .data, .sentinel, .sentinel], laidTests := true, laidLooks := .later }
def FnExactParseLineCardSaid : Prop := Claim7.holds Tryz.pinned (.plain (OpenSpec.ofChange fnExactParseLineSpec)) fnExactParseLineCard

/-- THE TIED CARD OF 'laws.FnExactParseText'. -/
def fnExactParseTextCard : Claim7 := { stood := { row := fnExactParseTextRow, standIns := [], harness := (true, "de2dc3a1707e3b5509b9417dc761a937a007df4385cd10ea8c26c6cd3bc49216"), looks := true }, kinds := [], alts := [], laidByText := true, laidKinds := [.data, .data, .data, .data, .sentinel, .sentinel, .pinned], laidTests := true, laidLooks := .later }
def FnExactParseTextCardSaid : Prop := Claim7.holds Tryz.pinned (.plain (OpenSpec.ofChange fnExactParseTextSpec)) fnExactParseTextCard

/-- THE SECOND FORM's CARD OF 'laws.FnExactParseSeg'. -/
def fnExactParseSegUptoCard : Claim7 := { stood := { row := fnExactParseSegUptoRow, standIns := [], harness := (true, "de2dc3a1707e3b5509b9417dc761a937a007df4385cd10ea8c26c6cd3bc49216"), looks := true }, kinds := [], alts := [], laidByText := true, laidKinds := [.data, .data, .data, .sentinel, .sentinel], laidTests := true, laidLooks := .later }
def FnExactParseSegUptoCardSaid : Prop := Claim7.holds Tryz.pinned (.plain (OpenSpec.upto fnExactParseSegSpec)) fnExactParseSegUptoCard

/-- THE SECOND FORM's CARD OF 'laws.FnExactParseLine'. -/
def fnExactParseLineUptoCard : Claim7 := { stood := { row := fnExactParseLineUptoRow, standIns := [], harness := (true, "de2dc3a1707e3b5509b9417dc761a937a007df4385cd10ea8c26c6cd3bc49216"), looks := true }, kinds := [], alts := [], laidByText := true, laidKinds := [.data, .data, .data, .sentinel, .sentinel], laidTests := true, laidLooks := .later }
def FnExactParseLineUptoCardSaid : Prop := Claim7.holds Tryz.pinned (.plain (OpenSpec.upto fnExactParseLineSpec)) fnExactParseLineUptoCard

/-- THE SECOND FORM's CARD OF 'laws.FnExactParseText'. -/
def fnExactParseTextUptoCard : Claim7 := { stood := { row := fnExactParseTextUptoRow, standIns := [], harness := (true, "de2dc3a1707e3b5509b9417dc761a937a007df4385cd10ea8c26c6cd3bc49216"), looks := true }, kinds := [], alts := [], laidByText := true, laidKinds := [.data, .data, .data, .data, .sentinel, .sentinel, .pinned], laidTests := true, laidLooks := .later }
def FnExactParseTextUptoCardSaid : Prop := Claim7.holds Tryz.pinned (.plain (OpenSpec.upto fnExactParseTextSpec)) fnExactParseTextUptoCard
end Rows
end Go.Proofs.YtiilnlihimdnlaaGreatDoor
