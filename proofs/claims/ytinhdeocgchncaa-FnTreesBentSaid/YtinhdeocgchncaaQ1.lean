/- Spans: told apart, marked, held. -/
import Derived.Test.YtinhdeocgchncaaA1
import Derived.Test.YtinhdeocgchncaaFwD
namespace Go.Proofs.YtinhdeocgchncaaFw
open Go Go.RowKit
set_option linter.unusedVariables false
set_option linter.unusedSimpArgs false
set_option maxRecDepth 4000
set_option pp.deepTerms.threshold 6
set_option pp.deepTerms false

structure SpanV where
  n : Str
  a : Int
  b : Int

def spanA (x : SpanV) : AV := .agg [.str x.n, .int .i64 x.a, .int .i64 x.b]
def spansA (l : List SpanV) : List AV := l.map spanA
theorem spansA_len (l : List SpanV) : (spansA l).length = l.length := by simp [spansA]
theorem spansA_get {l : List SpanV} {i : Nat} (h : i < l.length) : (spansA l)[i]? = some (spanA l[i]) := by simp [spansA, h]
theorem noBo_spans : ∀ l : List SpanV, noBoL (spansA l) = true
  | [] => rfl
  | e :: r => by
    have := noBo_spans r
    simp only [spansA, List.map_cons, noBoL, spanA, noBo, Bool.and_self] at *
    rw [this]; rfl
theorem spansA_app (a b : List SpanV) : spansA a ++ spansA b = spansA (a ++ b) := by simp [spansA]

open Classical in
noncomputable instance : DecidableEq SpanV := fun a b => inferInstance

end Go.Proofs.YtinhdeocgchncaaFw
