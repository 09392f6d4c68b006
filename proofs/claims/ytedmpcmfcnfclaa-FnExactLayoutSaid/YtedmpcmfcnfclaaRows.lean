/-
  NARROWER THAN 'FOR EVERY INPUT', by the rows' own cells (each row's printed sentence says how): FnExactSegOk: loops · FnExactPeak: loops · FnExactLayout: loops.
  DERIVED. THE GIVEN ROWS OF THIS SEAT. 5 by the template 'for every input the law returns true; each argument reads behind the call as it read before'; 0 by the template 'total and deterministic' (their statements: YtedmpcmfcnfclaaTotals.lean).
  GIVEN WITH THE SEED: the statements are not yours to turn. If you find one false, say at which input.
  Laid BY PROGRAM, IN A SANDBOX (cutbox-rows.mjs): the forced cells as the released guide's own fill.sh prints them over the translation c9aebd3f77b20856… (all of the seat's roots in one cut). By AI agents, Wed Nov 11 2026. No macro, syntax, notation, axiom, sorry.
-/
import Derived.Test.YtedmpcmfcnfclaaChecked
import GoSem.Claim
import GoSem.ClaimJoined
import GoSem.ClaimMapViews
import Derived.JoinedTies
import Derived.KernelRfl
namespace Go.Proofs.Ytedmpcmfcnfclaa
/- THE CELL 'sum', in the pinned program and in every row, IS THE sha256 OF THE DUMP (.gsa) THAT YtedmpcmfcnfclaaProg.lean LOADS. Nothing in Lean hashes anything: it is a label: what it is worth is what the hold of that sum in a sandbox is worth. -/
noncomputable def Try.pinned : Pinned := { name := "ytedmpcmfcnfclaa", sum := "c9aebd3f77b2085698e841b6522ba9474ee768a1efb7d68cba733ee00111318b", checked := Try.checked }
namespace Rows
def none {H : Type} : Left H := { results := [], args := [] }

/-- 'laws.FnExactSegOk': WHATEVER THE INPUT: true; the input reads as it did. -/
def fnExactSegOkSpec : ChangeSpec := { name := "fnExactSegOk", fn := fun _ => fun
  | [d] => { results := [.lit (.bool true)], args := [d] }
  | _ => none }
def fnExactSegOkRow : OpenClaim := { program := "ytedmpcmfcnfclaa", sum := "c9aebd3f77b2085698e841b6522ba9474ee768a1efb7d68cba733ee00111318b", func := "loop.example/g00329/laws.FnExactSegOk", spec := "fnExactSegOk", recurses := true, loops := true, apart := false }
def FnExactSegOkSaid : Prop := fnExactSegOkRow.holds Try.pinned (OpenSpec.ofChange fnExactSegOkSpec)

/-- ITS FALSE NEIGHBOUR: 'it returns false'. Refute it at one input. -/
def fnExactSegOkWrong : ChangeSpec := { name := "fnExactSegOk", fn := fun _ => fun
  | [d] => { results := [.lit (.bool false)], args := [d] }
  | _ => none }
def FnExactSegOkWrongFalsely : Prop := fnExactSegOkRow.holds Try.pinned (OpenSpec.ofChange fnExactSegOkWrong)

/-- 'laws.FnExactDisasm': WHATEVER THE INPUT: true; the input reads as it did. -/
def fnExactDisasmSpec : ChangeSpec := { name := "fnExactDisasm", fn := fun _ => fun
  | [d] => { results := [.lit (.bool true)], args := [d] }
  | _ => none }
def fnExactDisasmRow : OpenClaim := { program := "ytedmpcmfcnfclaa", sum := "c9aebd3f77b2085698e841b6522ba9474ee768a1efb7d68cba733ee00111318b", func := "loop.example/g00329/laws.FnExactDisasm", spec := "fnExactDisasm", recurses := true, apart := false }
def FnExactDisasmSaid : Prop := fnExactDisasmRow.holds Try.pinned (OpenSpec.ofChange fnExactDisasmSpec)

/-- ITS FALSE NEIGHBOUR: 'it returns false'. Refute it at one input. -/
def fnExactDisasmWrong : ChangeSpec := { name := "fnExactDisasm", fn := fun _ => fun
  | [d] => { results := [.lit (.bool false)], args := [d] }
  | _ => none }
def FnExactDisasmWrongFalsely : Prop := fnExactDisasmRow.holds Try.pinned (OpenSpec.ofChange fnExactDisasmWrong)

/-- 'laws.FnLaidOver': WHATEVER THE INPUT: true; the input reads as it did. -/
def fnLaidOverSpec : ChangeSpec := { name := "fnLaidOver", fn := fun _ => fun
  | [d] => { results := [.lit (.bool true)], args := [d] }
  | _ => none }
def fnLaidOverRow : OpenClaim := { program := "ytedmpcmfcnfclaa", sum := "c9aebd3f77b2085698e841b6522ba9474ee768a1efb7d68cba733ee00111318b", func := "loop.example/g00329/laws.FnLaidOver", spec := "fnLaidOver", recurses := true, apart := false }
def FnLaidOverSaid : Prop := fnLaidOverRow.holds Try.pinned (OpenSpec.ofChange fnLaidOverSpec)

/-- ITS FALSE NEIGHBOUR: 'it returns false'. Refute it at one input. -/
def fnLaidOverWrong : ChangeSpec := { name := "fnLaidOver", fn := fun _ => fun
  | [d] => { results := [.lit (.bool false)], args := [d] }
  | _ => none }
def FnLaidOverWrongFalsely : Prop := fnLaidOverRow.holds Try.pinned (OpenSpec.ofChange fnLaidOverWrong)

/-- 'laws.FnExactPeak': WHATEVER THE INPUT: true; the input reads as it did. -/
def fnExactPeakSpec : ChangeSpec := { name := "fnExactPeak", fn := fun _ => fun
  | [d1, d2, d3] => { results := [.lit (.bool true)], args := [d1, d2, d3] }
  | _ => none }
def fnExactPeakRow : OpenClaim := { program := "ytedmpcmfcnfclaa", sum := "c9aebd3f77b2085698e841b6522ba9474ee768a1efb7d68cba733ee00111318b", func := "loop.example/g00329/laws.FnExactPeak", spec := "fnExactPeak", recurses := true, loops := true, apart := false }
def FnExactPeakSaid : Prop := fnExactPeakRow.holds Try.pinned (OpenSpec.ofChange fnExactPeakSpec)

/-- ITS FALSE NEIGHBOUR: 'it returns false'. Refute it at one input. -/
def fnExactPeakWrong : ChangeSpec := { name := "fnExactPeak", fn := fun _ => fun
  | [d1, d2, d3] => { results := [.lit (.bool false)], args := [d1, d2, d3] }
  | _ => none }
def FnExactPeakWrongFalsely : Prop := fnExactPeakRow.holds Try.pinned (OpenSpec.ofChange fnExactPeakWrong)

/-- 'laws.FnExactLayout': WHATEVER THE INPUT: true; the input reads as it did. -/
def fnExactLayoutSpec : ChangeSpec := { name := "fnExactLayout", fn := fun _ => fun
  | [d1, d2, d3, d4] => { results := [.lit (.bool true)], args := [d1, d2, d3, d4] }
  | _ => none }
def fnExactLayoutRow : OpenClaim := { program := "ytedmpcmfcnfclaa", sum := "c9aebd3f77b2085698e841b6522ba9474ee768a1efb7d68cba733ee00111318b", func := "loop.example/g00329/laws.FnExactLayout", spec := "fnExactLayout", recurses := true, loops := true, apart := false }
def FnExactLayoutSaid : Prop := fnExactLayoutRow.holds Try.pinned (OpenSpec.ofChange fnExactLayoutSpec)

/-- ITS FALSE NEIGHBOUR: 'it returns false'. Refute it at one input. -/
def fnExactLayoutWrong : ChangeSpec := { name := "fnExactLayout", fn := fun _ => fun
  | [d1, d2, d3, d4] => { results := [.lit (.bool false)], args := [d1, d2, d3, d4] }
  | _ => none }
def FnExactLayoutWrongFalsely : Prop := fnExactLayoutRow.holds Try.pinned (OpenSpec.ofChange fnExactLayoutWrong)

/- THE SECOND FORM. 'bulk': how many values and letters a reading holds, each counted each time it is reached (what is shared counts as often as it is met; a slice's spare places count too). A statement '..UptoSaid' is the law's where the arguments, and the package variables that the reading takes, are together of bulk at most 1048576: NARROWER than '..Said'. Prove '..Said' where nothing that the law and all that it calls make is longer than what came in: it says more and counts as full. Else prove '..UptoSaid'. A law counts once. -/
mutual
def uptoBulk {H : Type} : DataW H → Nat
  | .lit (.string bytes) => bytes.length + 1
  | .lit _ => 1
  | .nil => 1
  | .ptr d => uptoBulk d + 1
  | .slice elems spare => uptoBulkAll elems + uptoBulkAll spare + 1
  | .agg parts => uptoBulkAll parts + 1
  | .iface _ d => uptoBulk d + 1
  | .map entries => uptoBulkEntries entries + 1
  | .held _ => 1
def uptoBulkAll {H : Type} : List (DataW H) → Nat
  | [] => 0
  | d :: r => uptoBulk d + uptoBulkAll r
def uptoBulkEntries {H : Type} : List (Lit × DataW H) → Nat
  | [] => 0
  | x :: r => uptoBulkEntry x + uptoBulkEntries r
def uptoBulkEntry {H : Type} : Lit × DataW H → Nat
  | (.string bytes, d) => bytes.length + uptoBulk d + 1
  | (_, d) => uptoBulk d + 1
 end
def uptoSmall : (H : Type) → List (DataW H) → Bool := fun _ ds => decide (uptoBulkAll ds ≤ 1048576)
def OpenSpec.upto (s : _root_.Go.ChangeSpec) : _root_.Go.OpenSpec := { _root_.Go.OpenSpec.ofChange s with cond := some uptoSmall }

/-- 'laws.FnExactSegOk', WHERE WHAT IT READS IS OF BULK AT MOST 1048576: true; the input reads as it did. -/
def fnExactSegOkUptoRow : OpenClaim := { program := "ytedmpcmfcnfclaa", sum := "c9aebd3f77b2085698e841b6522ba9474ee768a1efb7d68cba733ee00111318b", func := "loop.example/g00329/laws.FnExactSegOk", spec := "fnExactSegOk", recurses := true, loops := true, apart := false, narrowed := true }
def FnExactSegOkUptoSaid : Prop := fnExactSegOkUptoRow.holds Try.pinned (OpenSpec.upto fnExactSegOkSpec)

/-- 'laws.FnExactDisasm', WHERE WHAT IT READS IS OF BULK AT MOST 1048576: true; the input reads as it did. -/
def fnExactDisasmUptoRow : OpenClaim := { program := "ytedmpcmfcnfclaa", sum := "c9aebd3f77b2085698e841b6522ba9474ee768a1efb7d68cba733ee00111318b", func := "loop.example/g00329/laws.FnExactDisasm", spec := "fnExactDisasm", recurses := true, apart := false, narrowed := true }
def FnExactDisasmUptoSaid : Prop := fnExactDisasmUptoRow.holds Try.pinned (OpenSpec.upto fnExactDisasmSpec)

/-- 'laws.FnLaidOver', WHERE WHAT IT READS IS OF BULK AT MOST 1048576: true; the input reads as it did. -/
def fnLaidOverUptoRow : OpenClaim := { program := "ytedmpcmfcnfclaa", sum := "c9aebd3f77b2085698e841b6522ba9474ee768a1efb7d68cba733ee00111318b", func := "loop.example/g00329/laws.FnLaidOver", spec := "fnLaidOver", recurses := true, apart := false, narrowed := true }
def FnLaidOverUptoSaid : Prop := fnLaidOverUptoRow.holds Try.pinned (OpenSpec.upto fnLaidOverSpec)

/-- 'laws.FnExactPeak', WHERE WHAT IT READS IS OF BULK AT MOST 1048576: true; the input reads as it did. -/
def fnExactPeakUptoRow : OpenClaim := { program := "ytedmpcmfcnfclaa", sum := "c9aebd3f77b2085698e841b6522ba9474ee768a1efb7d68cba733ee00111318b", func := "loop.example/g00329/laws.FnExactPeak", spec := "fnExactPeak", recurses := true, loops := true, apart := false, narrowed := true }
def FnExactPeakUptoSaid : Prop := fnExactPeakUptoRow.holds Try.pinned (OpenSpec.upto fnExactPeakSpec)

/-- 'laws.FnExactLayout', WHERE WHAT IT READS IS OF BULK AT MOST 1048576: true; the input reads as it did. -/
def fnExactLayoutUptoRow : OpenClaim := { program := "ytedmpcmfcnfclaa", sum := "c9aebd3f77b2085698e841b6522ba9474ee768a1efb7d68cba733ee00111318b", func := "loop.example/g00329/laws.FnExactLayout", spec := "fnExactLayout", recurses := true, loops := true, apart := false, narrowed := true }
def FnExactLayoutUptoSaid : Prop := fnExactLayoutUptoRow.holds Try.pinned (OpenSpec.upto fnExactLayoutSpec)

end Rows
end Go.Proofs.Ytedmpcmfcnfclaa
