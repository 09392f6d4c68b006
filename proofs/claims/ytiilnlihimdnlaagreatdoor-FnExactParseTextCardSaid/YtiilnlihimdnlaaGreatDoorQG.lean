/- The tokens of terms: the reference's and the program's. -/
import Derived.Test.YtiilnlihimdnlaaGreatDoorQT
import Derived.Test.YtiilnlihimdnlaaGreatDoorFwE
set_option linter.unusedVariables false
set_option linter.unusedSimpArgs false
set_option maxRecDepth 4000
namespace Go.Proofs.YtiilnlihimdnlaaGreatDoorFw
open Go Go.RowKit
def signT (k : Int) : Str := if k = 5 then [43] else if k = 6 then [45] else if k = 7 then [42] else if k = 8 then [47] else if k = 9 then [38] else [124]
theorem l10Sign_ok (k : Int) : FnA Tryz.prog 159 false [.int .i64 k] [] (fun r os ros => r = .str (signT k) ∧ os = [] ∧ ros = []) := by
 refine FnA.of Tryz.func159 rfl (by decide) Tryz.ntmps159 (by simp) ?_
 unfold signT
 refine run_ ?_
 repeat' (first
  | exact RetA.mk tabOk 0 rfl rfl rfl (by omega) rfl rfl rfl ⟨by simp_all [res1], rfl, rfl⟩
  | refine RunsA.cond rfl (fun h => ?_) (fun h => ?_)
  | (first | refine RunsA.sq ?_ | refine RunsA.bk ?_ | refine RunsA.sk ?_ | refine RunsA.ex ?_ | refine RunsA.rt ?_ | refine At.n ?_ | refine At.x ?_ | refine At.r ?_ | refine At.bn ?_ | refine At.br ?_ | refine At.bx ?_ | refine At.by_ rfl ?_ | refine At.kx ?_ | refine At.kr ?_ | refine At.kn ?_ | refine At.er ?_ | refine At.en ?_ | (refine RunsA.rq tabOk fun J hJ => ?_; simp only [go_sem, ↓reduceIte, Nat.reduceAdd, Nat.reduceSub, Nat.reduceMul, Nat.reduceLT, Nat.reduceLeDiff, Nat.reduceEqDiff, Nat.reduceBEq, Int.reduceToNat]; (try simp (disch := omega) only [wrap_id]); (repeat refine ⟨by omega, ?_⟩); refine hJ _ _ (RunsL.nil ?_); clear hJ J) | (refine RunsA.dq mixed tabOk (by kernel_rfl) fun J hJ => ?_; simp only [go_sem, ↓reduceIte, Nat.reduceAdd, Nat.reduceSub, Nat.reduceMul, Nat.reduceLT, Nat.reduceLeDiff, Nat.reduceEqDiff, Nat.reduceBEq, Int.reduceToNat]; (try simp (disch := omega) only [wrap_id]); (repeat refine ⟨by omega, ?_⟩); refine hJ _ _ (QRuns.nil ?_); clear hJ J)))
end Go.Proofs.YtiilnlihimdnlaaGreatDoorFw
namespace Go.Proofs.YtiilnlihimdnlaaGreatDoorFw
open Go Go.RowKit
end Go.Proofs.YtiilnlihimdnlaaGreatDoorFw
