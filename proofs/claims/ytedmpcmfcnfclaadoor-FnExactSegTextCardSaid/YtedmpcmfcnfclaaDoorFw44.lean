/- Quiet operations, some at a time. -/
import Derived.Test.YtedmpcmfcnfclaaDoorFw43
namespace Go.Proofs.YtedmpcmfcnfclaaDoorFw
open Go Go.RowKit
set_option linter.unusedVariables false

def goQh (T : Tab) (all : Array Oper) (os : List Oper) (s : St) (J : List Oper → St → Prop) : Prop := goQ T all os s J

theorem goQ_cut {T : Tab} {all : Array Oper} {J : List Oper → St → Prop} : ∀ (k : Nat) {os : List Oper} {s : St}, goQ T all (os.take k) s (fun os' s' => goQh T all (os' ++ os.drop k) s' J) → goQ T all os s J
  | 0, os, s, h => h
  | k + 1, [], s, h => h
  | k + 1, o :: r, s, h => by
    have key : (o :: List.take k r) ++ List.drop k r = o :: r := by rw [List.cons_append, List.take_append_drop]
    simp only [List.take_succ_cons, List.drop_succ_cons] at h
    rw [goQ] at h
    split at h
    · rename_i hw
      split at h
      · rw [key] at h; exact h
      · rename_i hc
        split at h
        · rename_i p y hv
          rw [goQ, hw]
          simp only [hc, hv, if_false, Bool.false_eq_true]
          exact ⟨h.1, h.2.1, goQ_cut k h.2.2⟩
        · exact h.elim
    · rename_i hw
      rw [goQ, hw]
      exact ⟨h.1, goQ_cut k h.2⟩
    · rw [key] at h; exact h

theorem goQh.of {T : Tab} {all : Array Oper} {os : List Oper} {s : St} {J : List Oper → St → Prop} (h : goQ T all os s J) : goQh T all os s J := h

end Go.Proofs.YtedmpcmfcnfclaaDoorFw
