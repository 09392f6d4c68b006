/-
  NARROWER THAN 'FOR EVERY INPUT', by the rows' own cells (each row's printed sentence says how): FnExactSegs: loops · FnExactWordsIn: loops · FnExactFlat: loops · FnExactSegOk: loops.
  DERIVED. THE GIVEN ROWS OF THIS SEAT. 6 by the template 'for every input the law returns true; each argument reads behind the call as it read before'; 0 by the template 'total and deterministic' (their statements: YtkhobcmkbldmiaaTotals.lean).
  GIVEN WITH THE SEED: the statements are not yours to turn. If you find one false, say at which input.
  Laid BY PROGRAM, IN A SANDBOX (cutbox-rows.mjs): the forced cells as the released guide's own fill.sh prints them over the translation 7c9222fee3f7ba2e… (all of the seat's roots in one cut). By AI agents, Wed Nov 11 2026. No macro, syntax, notation, axiom, sorry.
-/
import Derived.Test.YtkhobcmkbldmiaaChecked
import GoSem.Claim
import GoSem.ClaimJoined
import GoSem.ClaimMapViews
import Derived.JoinedTies
import Derived.KernelRfl
namespace Go.Proofs.Ytkhobcmkbldmiaa
/- THE CELL 'sum', in the pinned program and in every row, IS THE sha256 OF THE DUMP (.gsa) THAT YtkhobcmkbldmiaaProg.lean LOADS. Nothing in Lean hashes anything: it is a label: what it is worth is what the hold of that sum in a sandbox is worth. -/
noncomputable def Try.pinned : Pinned := { name := "ytkhobcmkbldmiaa", sum := "7c9222fee3f7ba2e579f8529907657a2e2f974b501714c15f8942610cea673ef", checked := Try.checked }
namespace Rows
def none {H : Type} : Left H := { results := [], args := [] }

/-- 'laws.FnExactSegs': WHATEVER THE INPUT: true; the input reads as it did. -/
def fnExactSegsSpec : ChangeSpec := { name := "fnExactSegs", fn := fun _ => fun
  | [d] => { results := [.lit (.bool true)], args := [d] }
  | _ => none }
def fnExactSegsRow : OpenClaim := { program := "ytkhobcmkbldmiaa", sum := "7c9222fee3f7ba2e579f8529907657a2e2f974b501714c15f8942610cea673ef", func := "loop.example/g00329/laws.FnExactSegs", spec := "fnExactSegs", recurses := true, loops := true, apart := false }
def FnExactSegsSaid : Prop := fnExactSegsRow.holds Try.pinned (OpenSpec.ofChange fnExactSegsSpec)

/-- ITS FALSE NEIGHBOUR: 'it returns false'. Refute it at one input. -/
def fnExactSegsWrong : ChangeSpec := { name := "fnExactSegs", fn := fun _ => fun
  | [d] => { results := [.lit (.bool false)], args := [d] }
  | _ => none }
def FnExactSegsWrongFalsely : Prop := fnExactSegsRow.holds Try.pinned (OpenSpec.ofChange fnExactSegsWrong)

/-- 'laws.FnExactWordsIn': WHATEVER THE INPUT: true; the input reads as it did. -/
def fnExactWordsInSpec : ChangeSpec := { name := "fnExactWordsIn", fn := fun _ => fun
  | [d1, d2, d3] => { results := [.lit (.bool true)], args := [d1, d2, d3] }
  | _ => none }
def fnExactWordsInRow : OpenClaim := { program := "ytkhobcmkbldmiaa", sum := "7c9222fee3f7ba2e579f8529907657a2e2f974b501714c15f8942610cea673ef", func := "loop.example/g00329/laws.FnExactWordsIn", spec := "fnExactWordsIn", recurses := true, loops := true, apart := false }
def FnExactWordsInSaid : Prop := fnExactWordsInRow.holds Try.pinned (OpenSpec.ofChange fnExactWordsInSpec)

/-- ITS FALSE NEIGHBOUR: 'it returns false'. Refute it at one input. -/
def fnExactWordsInWrong : ChangeSpec := { name := "fnExactWordsIn", fn := fun _ => fun
  | [d1, d2, d3] => { results := [.lit (.bool false)], args := [d1, d2, d3] }
  | _ => none }
def FnExactWordsInWrongFalsely : Prop := fnExactWordsInRow.holds Try.pinned (OpenSpec.ofChange fnExactWordsInWrong)

/-- 'laws.FnExactFlat': WHATEVER THE INPUT: true; the input reads as it did. -/
def fnExactFlatSpec : ChangeSpec := { name := "fnExactFlat", fn := fun _ => fun
  | [d1, d2, d3] => { results := [.lit (.bool true)], args := [d1, d2, d3] }
  | _ => none }
def fnExactFlatRow : OpenClaim := { program := "ytkhobcmkbldmiaa", sum := "7c9222fee3f7ba2e579f8529907657a2e2f974b501714c15f8942610cea673ef", func := "loop.example/g00329/laws.FnExactFlat", spec := "fnExactFlat", recurses := true, loops := true, apart := false }
def FnExactFlatSaid : Prop := fnExactFlatRow.holds Try.pinned (OpenSpec.ofChange fnExactFlatSpec)

/-- ITS FALSE NEIGHBOUR: 'it returns false'. Refute it at one input. -/
def fnExactFlatWrong : ChangeSpec := { name := "fnExactFlat", fn := fun _ => fun
  | [d1, d2, d3] => { results := [.lit (.bool false)], args := [d1, d2, d3] }
  | _ => none }
def FnExactFlatWrongFalsely : Prop := fnExactFlatRow.holds Try.pinned (OpenSpec.ofChange fnExactFlatWrong)

/-- 'laws.FnExactLineOfIns': WHATEVER THE INPUT: true; the input reads as it did. -/
def fnExactLineOfInsSpec : ChangeSpec := { name := "fnExactLineOfIns", fn := fun _ => fun
  | [d] => { results := [.lit (.bool true)], args := [d] }
  | _ => none }
def fnExactLineOfInsRow : OpenClaim := { program := "ytkhobcmkbldmiaa", sum := "7c9222fee3f7ba2e579f8529907657a2e2f974b501714c15f8942610cea673ef", func := "loop.example/g00329/laws.FnExactLineOfIns", spec := "fnExactLineOfIns", recurses := true, apart := false }
def FnExactLineOfInsSaid : Prop := fnExactLineOfInsRow.holds Try.pinned (OpenSpec.ofChange fnExactLineOfInsSpec)

/-- ITS FALSE NEIGHBOUR: 'it returns false'. Refute it at one input. -/
def fnExactLineOfInsWrong : ChangeSpec := { name := "fnExactLineOfIns", fn := fun _ => fun
  | [d] => { results := [.lit (.bool false)], args := [d] }
  | _ => none }
def FnExactLineOfInsWrongFalsely : Prop := fnExactLineOfInsRow.holds Try.pinned (OpenSpec.ofChange fnExactLineOfInsWrong)

/-- 'laws.FnExactSegOk': WHATEVER THE INPUT: true; the input reads as it did. -/
def fnExactSegOkSpec : ChangeSpec := { name := "fnExactSegOk", fn := fun _ => fun
  | [d] => { results := [.lit (.bool true)], args := [d] }
  | _ => none }
def fnExactSegOkRow : OpenClaim := { program := "ytkhobcmkbldmiaa", sum := "7c9222fee3f7ba2e579f8529907657a2e2f974b501714c15f8942610cea673ef", func := "loop.example/g00329/laws.FnExactSegOk", spec := "fnExactSegOk", recurses := true, loops := true, apart := false }
def FnExactSegOkSaid : Prop := fnExactSegOkRow.holds Try.pinned (OpenSpec.ofChange fnExactSegOkSpec)

/-- ITS FALSE NEIGHBOUR: 'it returns false'. Refute it at one input. -/
def fnExactSegOkWrong : ChangeSpec := { name := "fnExactSegOk", fn := fun _ => fun
  | [d] => { results := [.lit (.bool false)], args := [d] }
  | _ => none }
def FnExactSegOkWrongFalsely : Prop := fnExactSegOkRow.holds Try.pinned (OpenSpec.ofChange fnExactSegOkWrong)

/-- 'laws.FnExactDisasm': WHATEVER THE INPUT: true; the input reads as it did. -/
def fnExactDisasmSpec : ChangeSpec := { name := "fnExactDisasm", fn := fun _ => fun
  | [d] => { results := [.lit (.bool true)], args := [d] }
  | _ => none }
def fnExactDisasmRow : OpenClaim := { program := "ytkhobcmkbldmiaa", sum := "7c9222fee3f7ba2e579f8529907657a2e2f974b501714c15f8942610cea673ef", func := "loop.example/g00329/laws.FnExactDisasm", spec := "fnExactDisasm", recurses := true, apart := false }
def FnExactDisasmSaid : Prop := fnExactDisasmRow.holds Try.pinned (OpenSpec.ofChange fnExactDisasmSpec)

/-- ITS FALSE NEIGHBOUR: 'it returns false'. Refute it at one input. -/
def fnExactDisasmWrong : ChangeSpec := { name := "fnExactDisasm", fn := fun _ => fun
  | [d] => { results := [.lit (.bool false)], args := [d] }
  | _ => none }
def FnExactDisasmWrongFalsely : Prop := fnExactDisasmRow.holds Try.pinned (OpenSpec.ofChange fnExactDisasmWrong)

/- THE SECOND FORM. 'bulk': how many values and letters a reading holds, each counted each time it is reached (what is shared counts as often as it is met; a slice's spare places count too). A statement '..UptoSaid' is the law's where the arguments, and the package variables that the reading takes, are together of bulk at most 1048576: NARROWER than '..Said'. Prove '..Said' where nothing that the law and all that it calls make is longer than what came in: it says more and counts as full. Else prove '..UptoSaid'. A law counts once. -/
mutual
def uptoBulk {H : Type} : DataW H → Nat
  | .lit (.string bytes) => bytes.length + 1
  | .lit _ => 1
  | .nil => 1
  | .ptr d => uptoBulk d + 1
  | .slice elems spare => uptoBulkAll elems + uptoBulkAll spare + 1
  | .agg parts => uptoBulkAll parts + 1
  | .iface _ d => uptoBulk d + 1
  | .map entries => uptoBulkEntries entries + 1
  | .held _ => 1
def uptoBulkAll {H : Type} : List (DataW H) → Nat
  | [] => 0
  | d :: r => uptoBulk d + uptoBulkAll r
def uptoBulkEntries {H : Type} : List (Lit × DataW H) → Nat
  | [] => 0
  | x :: r => uptoBulkEntry x + uptoBulkEntries r
def uptoBulkEntry {H : Type} : Lit × DataW H → Nat
  | (.string bytes, d) => bytes.length + uptoBulk d + 1
  | (_, d) => uptoBulk d + 1
 end
def uptoSmall : (H : Type) → List (DataW H) → Bool := fun _ ds => decide (uptoBulkAll ds ≤ 1048576)
def OpenSpec.upto (s : _root_.Go.ChangeSpec) : _root_.Go.OpenSpec := { _root_.Go.OpenSpec.ofChange s with cond := some uptoSmall }

/-- 'laws.FnExactSegs', WHERE WHAT IT READS IS OF BULK AT MOST 1048576: true; the input reads as it did. -/
def fnExactSegsUptoRow : OpenClaim := { program := "ytkhobcmkbldmiaa", sum := "7c9222fee3f7ba2e579f8529907657a2e2f974b501714c15f8942610cea673ef", func := "loop.example/g00329/laws.FnExactSegs", spec := "fnExactSegs", recurses := true, loops := true, apart := false, narrowed := true }
def FnExactSegsUptoSaid : Prop := fnExactSegsUptoRow.holds Try.pinned (OpenSpec.upto fnExactSegsSpec)

/-- 'laws.FnExactWordsIn', WHERE WHAT IT READS IS OF BULK AT MOST 1048576: true; the input reads as it did. -/
def fnExactWordsInUptoRow : OpenClaim := { program := "ytkhobcmkbldmiaa", sum := "7c9222fee3f7ba2e579f8529907657a2e2f974b501714c15f8942610cea673ef", func := "loop.example/g00329/laws.FnExactWordsIn", spec := "fnExactWordsIn", recurses := true, loops := true, apart := false, narrowed := true }
def FnExactWordsInUptoSaid : Prop := fnExactWordsInUptoRow.holds Try.pinned (OpenSpec.upto fnExactWordsInSpec)

/-- 'laws.FnExactFlat', WHERE WHAT IT READS IS OF BULK AT MOST 1048576: true; the input reads as it did. -/
def fnExactFlatUptoRow : OpenClaim := { program := "ytkhobcmkbldmiaa", sum := "7c9222fee3f7ba2e579f8529907657a2e2f974b501714c15f8942610cea673ef", func := "loop.example/g00329/laws.FnExactFlat", spec := "fnExactFlat", recurses := true, loops := true, apart := false, narrowed := true }
def FnExactFlatUptoSaid : Prop := fnExactFlatUptoRow.holds Try.pinned (OpenSpec.upto fnExactFlatSpec)

/-- 'laws.FnExactLineOfIns', WHERE WHAT IT READS IS OF BULK AT MOST 1048576: true; the input reads as it did. -/
def fnExactLineOfInsUptoRow : OpenClaim := { program := "ytkhobcmkbldmiaa", sum := "7c9222fee3f7ba2e579f8529907657a2e2f974b501714c15f8942610cea673ef", func := "loop.example/g00329/laws.FnExactLineOfIns", spec := "fnExactLineOfIns", recurses := true, apart := false, narrowed := true }
def FnExactLineOfInsUptoSaid : Prop := fnExactLineOfInsUptoRow.holds Try.pinned (OpenSpec.upto fnExactLineOfInsSpec)

/-- 'laws.FnExactSegOk', WHERE WHAT IT READS IS OF BULK AT MOST 1048576: true; the input reads as it did. -/
def fnExactSegOkUptoRow : OpenClaim := { program := "ytkhobcmkbldmiaa", sum := "7c9222fee3f7ba2e579f8529907657a2e2f974b501714c15f8942610cea673ef", func := "loop.example/g00329/laws.FnExactSegOk", spec := "fnExactSegOk", recurses := true, loops := true, apart := false, narrowed := true }
def FnExactSegOkUptoSaid : Prop := fnExactSegOkUptoRow.holds Try.pinned (OpenSpec.upto fnExactSegOkSpec)

/-- 'laws.FnExactDisasm', WHERE WHAT IT READS IS OF BULK AT MOST 1048576: true; the input reads as it did. -/
def fnExactDisasmUptoRow : OpenClaim := { program := "ytkhobcmkbldmiaa", sum := "7c9222fee3f7ba2e579f8529907657a2e2f974b501714c15f8942610cea673ef", func := "loop.example/g00329/laws.FnExactDisasm", spec := "fnExactDisasm", recurses := true, apart := false, narrowed := true }
def FnExactDisasmUptoSaid : Prop := fnExactDisasmUptoRow.holds Try.pinned (OpenSpec.upto fnExactDisasmSpec)

end Rows
end Go.Proofs.Ytkhobcmkbldmiaa
