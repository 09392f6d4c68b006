/- The law's helpers on rows of texts. -/
import Derived.Test.YtinhdeocgchncaaLib
namespace Go.Proofs.YtinhdeocgchncaaFw
open Go Go.RowKit
set_option linter.unusedVariables false
set_option linter.unusedSimpArgs false
set_option maxRecDepth 4000
set_option pp.deepTerms.threshold 6
set_option pp.deepTerms false

/-- What a row of texts is marked with, from number k on. -/
def markStrs : List Str → Int → List Str
  | [], _ => []
  | _ :: r, k => markTxt k :: markStrs r (k + 1)

theorem markStrs_len : ∀ (l : List Str) (k : Int), (markStrs l k).length = l.length
  | [], k => rfl
  | _ :: r, k => by simp [markStrs, markStrs_len r]

theorem markStrs_get : ∀ (l : List Str) (k : Int) (i : Nat) (h : i < l.length), (markStrs l k)[i]? = some (markTxt (k + i))
  | [], k, i, h => by simp at h
  | _ :: r, k, 0, h => by simp [markStrs]
  | _ :: r, k, i + 1, h => by
    simp only [markStrs, List.getElem?_cons_succ]
    rw [markStrs_get r (k + 1) i (by simpa using h)]
    congr 2; omega

theorem markStrs_idem : ∀ (l : List Str) (k : Int), markStrs (markStrs l k) k = markStrs l k
  | [], k => rfl
  | _ :: r, k => by simp only [markStrs, markStrs_idem r]

end Go.Proofs.YtinhdeocgchncaaFw
