/- The law FnExactLineOfIns, walked. -/
import Derived.Test.YtedmpcmfcnfclaaD9
namespace Go.Proofs.YtedmpcmfcnfclaaFw
open Go Go.RowKit
set_option linter.unusedVariables false
set_option linter.unusedSimpArgs false
set_option maxRecDepth 4000
set_option pp.deepTerms.threshold 6
set_option pp.deepTerms false

theorem lineOfInss_ok (op sm sr sx dm dr dx n : Int) :
    FnA Try.prog 49 false [insA op sm sr sx dm dr dx n] [] (fun r os ros => r = lineR (lineV op sm sr sx dm dr dx n) ∧ os = [] ∧ ros = lineO (lineV op sm sr sx dm dr dx n)) := by
  by_cases h : InsP op sm sr sx dm dr dx n
  · exact lineOfInss_yes _ _ _ _ _ _ _ _ h
  · exact lineOfInss_no _ _ _ _ _ _ _ _ h
theorem lineOfInsi_ok (op sm sr sx dm dr dx n : Int) :
    FnA Try.prog 52 false [insA op sm sr sx dm dr dx n] [] (fun r os ros => r = lineR (lineV op sm sr sx dm dr dx n) ∧ os = [] ∧ ros = lineO (lineV op sm sr sx dm dr dx n)) := by
  by_cases h : InsP op sm sr sx dm dr dx n
  · exact lineOfInsi_yes _ _ _ _ _ _ _ _ h
  · exact lineOfInsi_no _ _ _ _ _ _ _ _ h

theorem hereL_small (n : Int) : ExprV.cntL (hereL n) ≤ 6 ∧ ExprV.totL (hereL n) = 0 ∧ (hereL n).length ≤ 2 := by
  unfold hereL; split <;> simp [ExprV.cntL, ExprV.cnt, ExprV.totL, ExprV.tot]
theorem argV_small (m g x w : Int) : ExprV.cntL (argV m g x w).l ≤ 6 ∧ ExprV.totL (argV m g x w).l = 0 ∧ (argV m g x w).l.length ≤ 2 := by
  have := hereL_small (x + 2 * w + 2)
  unfold argV; (repeat' split) <;> first | exact this | simp [ExprV.cntL, ExprV.totL]
theorem srcV_small (op m g x : Int) : ExprV.cntL (srcV op m g x).l ≤ 6 ∧ ExprV.totL (srcV op m g x).l = 0 ∧ (srcV op m g x).l.length ≤ 2 := by
  unfold srcV; split
  · exact argV_small _ _ _ _
  · simp [argZ, ExprV.cntL, ExprV.totL]
theorem dstV_small (op sm sr m g x : Int) : ExprV.cntL (dstV op sm sr m g x).l ≤ 6 ∧ ExprV.totL (dstV op sm sr m g x).l = 0 ∧ (dstV op sm sr m g x).l.length ≤ 2 := by
  unfold dstV; split
  · split <;> exact argV_small _ _ _ _
  · simp [argZ, ExprV.cntL, ExprV.totL]
theorem lstV_small (op n : Int) : ExprV.cntL (lstV op n) ≤ 9 ∧ ExprV.totL (lstV op n) ≤ 2 ∧ (lstV op n).length ≤ 1 := by
  have := hereL_small (2 * n + 2)
  unfold lstV; (repeat' split) <;> simp [ExprV.cntL, ExprV.cnt, ExprV.totL, ExprV.tot]
  omega
theorem lineV_small (op sm sr sx dm dr dx n : Int) : (lineV op sm sr sx dm dr dx n).cnt ≤ 100 ∧ (lineV op sm sr sx dm dr dx n).tot ≤ 100 := by
  have h1 := srcV_small op sm sr sx
  have h2 := dstV_small op sm sr dm dr dx
  have h3 := lstV_small op n
  unfold lineV; split
  · simp only [LineV.cnt, LineV.tot, ExprV.tot, List.length_nil]; omega
  · simp [LineV.cnt, LineV.tot, ExprV.tot, ExprV.cntL, ExprV.totL]

end Go.Proofs.YtedmpcmfcnfclaaFw
