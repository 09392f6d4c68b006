/- Tokens: rows of them; the tokens of a tree, the reference's. -/
import Derived.Test.YtiilnlihimdnlaaGreatDoorQL
import Derived.Test.YtiilnlihimdnlaaGreatDoorFwD
set_option linter.unusedVariables false
set_option linter.unusedSimpArgs false
set_option pp.deepTerms.threshold 6
set_option pp.deepTerms false
set_option maxRecDepth 4000
namespace Go.Proofs.YtiilnlihimdnlaaGreatDoorFw
open Go Go.RowKit
structure TokV where
  k : Int
  n : Int
  s : Str
def tokA (x : TokV) : AV := .agg [.int .i64 x.k, .int .i64 x.n, .str x.s]
def toksA (l : List TokV) : List AV := l.map tokA
theorem toksA_len (l : List TokV) : (toksA l).length = l.length := by simp [toksA]
theorem noBo_toks : ∀ l : List TokV, noBoL (toksA l) = true
  | [] => rfl
  | e :: r => by
    have := noBo_toks r
    simp only [toksA, List.map_cons, noBoL, tokA, noBo, Bool.and_self] at *
    rw [this]; rfl
theorem markTi_ok (s : Str) : FnA Tryz.prog 97 false [.str s] [] (fun r os ros => r = .agg [.int .i64 4, .int .i64 0, .str s] ∧ os = [] ∧ ros = []) := by
  refine FnA.of Tryz.func97 rfl (by decide) Tryz.ntmps97 (by simp) ?_
  refine run_ ?_
  exact RetA.mk tabOk 0 rfl rfl rfl (by omega) rfl rfl rfl ⟨rfl, rfl, rfl⟩
end Go.Proofs.YtiilnlihimdnlaaGreatDoorFw
namespace Go.Proofs.YtiilnlihimdnlaaGreatDoorFw
open Go Go.RowKit
inductive ExprV where
  | mk (k n : Int) (s : Str) (l : List ExprV)
mutual
def ExprV.tot : ExprV → Nat
  | .mk k n s l => s.length + (l.length + ExprV.totL l)
def ExprV.totL : List ExprV → Nat
  | [] => 0
  | e :: r => e.tot + ExprV.totL r
end
open Classical in
noncomputable instance : DecidableEq ExprV := fun a b => inferInstance
end Go.Proofs.YtiilnlihimdnlaaGreatDoorFw
