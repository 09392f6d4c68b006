/-
  No cell of these rows narrows 'for every input' (looked for: loops, veiled, ifaces, maps, wideKeys, modest, calm, conditions, laid).
  DERIVED. THE GIVEN ROWS OF THIS SEAT. 2 by the template 'for every input the law returns true; each argument reads behind the call as it read before'; 0 by the template 'total and deterministic' (their statements: YtinhdeocgchncaaTotals.lean).
  GIVEN WITH THE SEED: the statements are not yours to turn. If you find one false, say at which input.
  Laid BY PROGRAM, IN A SANDBOX (cutbox-rows.mjs): the forced cells as the released guide's own fill.sh prints them over the translation b3cd778116f4fc2a… (all of the seat's roots in one cut). By AI agents, Wed Nov 11 2026. No macro, syntax, notation, axiom, sorry.
-/
import Derived.Test.YtinhdeocgchncaaChecked
import GoSem.Claim
import GoSem.ClaimJoined
import GoSem.ClaimMapViews
import Derived.JoinedTies
import Derived.KernelRfl
namespace Go.Proofs.Ytinhdeocgchncaa
/- THE CELL 'sum', in the pinned program and in every row, IS THE sha256 OF THE DUMP (.gsa) THAT YtinhdeocgchncaaProg.lean LOADS. Nothing in Lean hashes anything: it is a label: what it is worth is what the hold of that sum in a sandbox is worth. -/
noncomputable def Try.pinned : Pinned := { name := "ytinhdeocgchncaa", sum := "b3cd778116f4fc2a1131540603a9471c82baf6f6b3b568c9b88f5291648ab51d", checked := Try.checked }
namespace Rows
def none {H : Type} : Left H := { results := [], args := [] }

/-- 'laws.FnLaidOver': WHATEVER THE INPUT: true; the input reads as it did. -/
def fnLaidOverSpec : ChangeSpec := { name := "fnLaidOver", fn := fun _ => fun
  | [d] => { results := [.lit (.bool true)], args := [d] }
  | _ => none }
def fnLaidOverRow : OpenClaim := { program := "ytinhdeocgchncaa", sum := "b3cd778116f4fc2a1131540603a9471c82baf6f6b3b568c9b88f5291648ab51d", func := "loop.example/g00329/laws.FnLaidOver", spec := "fnLaidOver", recurses := true, apart := false }
def FnLaidOverSaid : Prop := fnLaidOverRow.holds Try.pinned (OpenSpec.ofChange fnLaidOverSpec)

/-- ITS FALSE NEIGHBOUR: 'it returns false'. Refute it at one input. -/
def fnLaidOverWrong : ChangeSpec := { name := "fnLaidOver", fn := fun _ => fun
  | [d] => { results := [.lit (.bool false)], args := [d] }
  | _ => none }
def FnLaidOverWrongFalsely : Prop := fnLaidOverRow.holds Try.pinned (OpenSpec.ofChange fnLaidOverWrong)

/-- 'laws.FnTreesBent': WHATEVER THE INPUT: true; the input reads as it did. -/
def fnTreesBentSpec : ChangeSpec := { name := "fnTreesBent", fn := fun _ => fun
  | [d] => { results := [.lit (.bool true)], args := [d] }
  | _ => none }
def fnTreesBentRow : OpenClaim := { program := "ytinhdeocgchncaa", sum := "b3cd778116f4fc2a1131540603a9471c82baf6f6b3b568c9b88f5291648ab51d", func := "loop.example/g00329/laws.FnTreesBent", spec := "fnTreesBent", recurses := true, apart := false }
def FnTreesBentSaid : Prop := fnTreesBentRow.holds Try.pinned (OpenSpec.ofChange fnTreesBentSpec)

/-- ITS FALSE NEIGHBOUR: 'it returns false'. Refute it at one input. -/
def fnTreesBentWrong : ChangeSpec := { name := "fnTreesBent", fn := fun _ => fun
  | [d] => { results := [.lit (.bool false)], args := [d] }
  | _ => none }
def FnTreesBentWrongFalsely : Prop := fnTreesBentRow.holds Try.pinned (OpenSpec.ofChange fnTreesBentWrong)

/- THE SECOND FORM. 'bulk': how many values and letters a reading holds, each counted each time it is reached (what is shared counts as often as it is met; a slice's spare places count too). A statement '..UptoSaid' is the law's where the arguments, and the package variables that the reading takes, are together of bulk at most 1048576: NARROWER than '..Said'. Prove '..Said' where nothing that the law and all that it calls make is longer than what came in: it says more and counts as full. Else prove '..UptoSaid'. A law counts once. -/
mutual
def uptoBulk {H : Type} : DataW H → Nat
  | .lit (.string bytes) => bytes.length + 1
  | .lit _ => 1
  | .nil => 1
  | .ptr d => uptoBulk d + 1
  | .slice elems spare => uptoBulkAll elems + uptoBulkAll spare + 1
  | .agg parts => uptoBulkAll parts + 1
  | .iface _ d => uptoBulk d + 1
  | .map entries => uptoBulkEntries entries + 1
  | .held _ => 1
def uptoBulkAll {H : Type} : List (DataW H) → Nat
  | [] => 0
  | d :: r => uptoBulk d + uptoBulkAll r
def uptoBulkEntries {H : Type} : List (Lit × DataW H) → Nat
  | [] => 0
  | x :: r => uptoBulkEntry x + uptoBulkEntries r
def uptoBulkEntry {H : Type} : Lit × DataW H → Nat
  | (.string bytes, d) => bytes.length + uptoBulk d + 1
  | (_, d) => uptoBulk d + 1
 end
def uptoSmall : (H : Type) → List (DataW H) → Bool := fun _ ds => decide (uptoBulkAll ds ≤ 1048576)
def OpenSpec.upto (s : _root_.Go.ChangeSpec) : _root_.Go.OpenSpec := { _root_.Go.OpenSpec.ofChange s with cond := some uptoSmall }

/-- 'laws.FnLaidOver', WHERE WHAT IT READS IS OF BULK AT MOST 1048576: true; the input reads as it did. -/
def fnLaidOverUptoRow : OpenClaim := { program := "ytinhdeocgchncaa", sum := "b3cd778116f4fc2a1131540603a9471c82baf6f6b3b568c9b88f5291648ab51d", func := "loop.example/g00329/laws.FnLaidOver", spec := "fnLaidOver", recurses := true, apart := false, narrowed := true }
def FnLaidOverUptoSaid : Prop := fnLaidOverUptoRow.holds Try.pinned (OpenSpec.upto fnLaidOverSpec)

/-- 'laws.FnTreesBent', WHERE WHAT IT READS IS OF BULK AT MOST 1048576: true; the input reads as it did. -/
def fnTreesBentUptoRow : OpenClaim := { program := "ytinhdeocgchncaa", sum := "b3cd778116f4fc2a1131540603a9471c82baf6f6b3b568c9b88f5291648ab51d", func := "loop.example/g00329/laws.FnTreesBent", spec := "fnTreesBent", recurses := true, apart := false, narrowed := true }
def FnTreesBentUptoSaid : Prop := fnTreesBentUptoRow.holds Try.pinned (OpenSpec.upto fnTreesBentSpec)

end Rows
end Go.Proofs.Ytinhdeocgchncaa
