/- Words of digits of base eight: the reference's. -/
import Derived.Test.YtiilnlihimdnlaaGreatDoorI1
namespace Go.Proofs.YtiilnlihimdnlaaGreatDoorFw
open Go Go.RowKit
set_option linter.unusedVariables false
set_option linter.unusedSimpArgs false
set_option maxRecDepth 4000
noncomputable def octR (s : Str) : AV := match octV s with
 | some n => .tup [.int .i64 n, .bool true]
 | none => .tup [.int .i64 0, .bool false]
theorem octR_some {s : Str} {n : Nat} (h : octV s = some n) : octR s = .tup [.int .i64 n, .bool true] := by rw [octR, h]
theorem octR_none {s : Str} (h : octV s = none) : octR s = .tup [.int .i64 0, .bool false] := by rw [octR, h]
theorem wordOf_small {n : Nat} (h : n ≤ 65535) : wordOf (n : Int) = n := by unfold wordOf; omega
theorem octS_len6 : ∀ (k n : Nat), 1 ≤ k → n < 8 ^ k → (octS n).length ≤ k := by
 intro k
 induction k with
 | zero => intro n h; omega
 | succ k ih =>
  intro n _ hn
  rw [octS]
  split
  ·simp [dig]
  ·rename_i h8
   have hk : 1 ≤ k := by
    rcases Nat.eq_zero_or_pos k with rfl | h
    ·simp at hn; omega
    ·exact h
   have := ih (n / 8) hk (by rw [Nat.pow_succ] at hn; omega)
   rw [List.length_append]
   simp only [dig, List.length_cons, List.length_nil]
   omega
theorem l1InI_ok (x a b : Int) : FnA Tryz.prog 84 false [.int .i64 x, .int .i64 a, .int .i64 b] [] (fun res os ros => res = .bool (decide (a ≤ x ∧ x ≤ b)) ∧ os = [] ∧ ros = []) := by
 refine FnA.of Tryz.func84 rfl (by decide) Tryz.ntmps84 (by simp) ?_
 repeat' (first | refine ⟨by omega, ?_⟩ | (refine hJ _ _ (RunsL.nil ?_); clear hJ J) | refine RunsA.cond rfl (fun h => ?_) (fun h => absurd h (by decide)) | refine RunsA.cond rfl (fun h => absurd h (by decide)) (fun h => ?_) | refine RunsA.cond rfl (fun h => ?_) (fun h => ?_) | (refine step_ ?_) | (refine RunsA.rk 3 [] tabOk fun J hJ => ?_; simp only [go_sem, ↓reduceIte, Nat.reduceAdd, Nat.reduceSub, Nat.reduceMul, Nat.reduceLT, Nat.reduceLeDiff, Nat.reduceEqDiff, Nat.reduceBEq, Int.reduceToNat]; try simp (disch := omega) only [wrap_id]) | split)
 all_goals (refine RetA.mk tabOk 0 rfl rfl rfl (by omega) rfl rfl rfl ?_; refine ⟨?_, rfl, rfl⟩; simp only [res1, AV.bool.injEq]; (try simp only [beq_iff_eq, beq_eq_false_iff_ne, ne_eq, decide_eq_true_eq, decide_eq_false_iff_not, Bool.not_eq_true, Bool.not_eq_false, Bool.not_eq_true', Bool.not_eq_false', not_true_eq_false, not_false_eq_true] at *); all_goals (first | apply decide_eq_decide.mpr | (symm; rw [decide_eq_true_iff]) | (symm; rw [decide_eq_false_iff_not]) | (rw [Bool.eq_iff_iff]; simp only [decide_eq_true_eq, beq_iff_eq, Bool.not_eq_true', decide_eq_false_iff_not])); all_goals (try simp only [true_and, and_true] at *); all_goals (try omega))
set_option maxHeartbeats 4000000 in
theorem soctP_ok (s : Str) (hs : s.length ≤ 140737488355328) : FnA Tryz.prog 83 false [.str s] [] (fun r os ros => r = octR s ∧ os = [] ∧ ros = []) := by
 refine FnA.of Tryz.func83 rfl (by decide) Tryz.ntmps83 (by simp) ?_
 refine run_ ?_
 refine RunsA.loop ?_
 refine (LoopA.ind (fun p : Nat × Nat => ⟨40, [(0, .str s), (4, .int .i64 (p.2 : Nat)), (5, .int .i64 (p.1 : Nat))], [], false⟩)
  (fun p => s.length - p.1) (fun p => p.1 ≤ s.length ∧ p.2 < 8 ^ p.1 ∧ OctInv s p.1 p.2 ∧ (6 < s.length → p.2 = 0)) ?_ (0, 0) ?_).sub rfl ?_ trivial rfl
 ·rintro ⟨i, n⟩ ⟨hi, hn, hv, h6⟩ K3 hK3
  simp only at hi hn hv h6 hK3 ⊢
  by_cases h2 : i < s.length ∧ s.length ≤ 6
  ·have hilt := h2.1
   have q1 : decide ((i : Int) < (s.length : Nat)) = true := decide_eq_true (by omega)
   have q2 : decide (((s.length : Nat) : Int) ≤ 6) = true := decide_eq_true (by omega)
   have hg : s[i]? = some s[i] := List.getElem?_eq_getElem hilt
   have hstep := hv.step hilt
   have hdig : ∀ N, N ≤ 65535 → octS N = s → 48 ≤ s[i].toNat ∧ s[i].toNat ≤ 55 := fun N h1 h2 => hv.dig hilt h1 h2
   have hcl : s[i].toNat < 256 := UInt8.toNat_lt _
   generalize s[i] = c at *
   generalize hcn : c.toNat = cn at *
   have h8 : 8 ^ i ≤ 8 ^ 5 := Nat.pow_le_pow_right (by omega) (by omega)
   simp only [Nat.reducePow] at h8
   by_cases cd : 48 ≤ cn ∧ cn ≤ 55
   ·have q3 : decide ((48 : Int) ≤ cn ∧ (cn : Int) ≤ 55) = true := decide_eq_true (by omega)
    obtain ⟨d, rfl⟩ : ∃ d, cn = 48 + d := ⟨cn - 48, by omega⟩
    have e1 : IntKind.u8.wrap (((48 + d : Nat) : Int) - 48) = (d : Nat) := by
     rw [show ((48 + d : Nat) : Int) - 48 = (d : Nat) by omega]
     rcases (by omega : d = 0 ∨ d = 1 ∨ d = 2 ∨ d = 3 ∨ d = 4 ∨ d = 5 ∨ d = 6 ∨ d = 7) with rfl | rfl | rfl | rfl | rfl | rfl | rfl | rfl <;> rfl
    have hs3 := hstep cd
    rw [show 48 + d - 48 = d by omega] at hs3
    repeat' (first | refine ⟨by omega, ?_⟩ | (refine hJ _ _ (RunsL.nil ?_); clear hJ J) | refine RunsA.cond rfl (fun h => ?_) (fun h => absurd h (by decide)) | refine RunsA.cond rfl (fun h => absurd h (by decide)) (fun h => ?_) | (refine step_ ?_) | (refine RunsA.rk 6 [] tabOk fun J hJ => ?_; simp only [go_sem, ↓reduceIte, Nat.reduceAdd, Nat.reduceSub, Nat.reduceMul, Nat.reduceLT, Nat.reduceLeDiff, Nat.reduceEqDiff, Nat.reduceBEq, Int.reduceToNat, q1, q2, q3, hg, hcn, e1, Bool.not_true]; try simp (disch := omega) only [wrap_id]) | (refine hJ _ _ (call_ (ps := []) (rid := 16) rfl rfl rfl rfl rfl (l1InI_ok _ _ _) ?_); clear hJ J; rintro r os' ros ⟨rfl, rfl, rfl⟩ _; refine RunsL.go tabOk fun J hJ => ?_; simp only [go_sem, ↓reduceIte, Nat.reduceAdd, Nat.reduceSub, Nat.reduceMul, Nat.reduceLT, Nat.reduceLeDiff, Nat.reduceEqDiff, Nat.reduceBEq, Int.reduceToNat, q1, q2, q3, hg, hcn, e1, Bool.not_true]; try simp (disch := omega) only [wrap_id]) | simp only [↓reduceIte, not_false_eq_true, q1, q2, q3, hg, hcn, e1, Bool.not_true])
    exact hK3 (i + 1, n * 8 + d) _ ⟨by simp only; omega, by simp only [Nat.pow_succ]; omega, hs3, fun h => by omega⟩ (by simp only; omega) rfl (by simp [SubS, lookS]) trivial rfl
   ·have q3 : decide ((48 : Int) ≤ cn ∧ (cn : Int) ≤ 55) = false := decide_eq_false (by omega)
    repeat' (first | refine ⟨by omega, ?_⟩ | (refine hJ _ _ (RunsL.nil ?_); clear hJ J) | refine RunsA.cond rfl (fun h => ?_) (fun h => absurd h (by decide)) | refine RunsA.cond rfl (fun h => absurd h (by decide)) (fun h => ?_) | (refine step_ ?_) | (refine RunsA.rk 6 [] tabOk fun J hJ => ?_; simp only [go_sem, ↓reduceIte, Nat.reduceAdd, Nat.reduceSub, Nat.reduceMul, Nat.reduceLT, Nat.reduceLeDiff, Nat.reduceEqDiff, Nat.reduceBEq, Int.reduceToNat, q1, q2, q3, hg, hcn, Bool.not_false]; try simp (disch := omega) only [wrap_id]) | (refine hJ _ _ (call_ (ps := []) (rid := 16) rfl rfl rfl rfl rfl (l1InI_ok _ _ _) ?_); clear hJ J; rintro r os' ros ⟨rfl, rfl, rfl⟩ _; refine RunsL.go tabOk fun J hJ => ?_; simp only [go_sem, ↓reduceIte, Nat.reduceAdd, Nat.reduceSub, Nat.reduceMul, Nat.reduceLT, Nat.reduceLeDiff, Nat.reduceEqDiff, Nat.reduceBEq, Int.reduceToNat, q1, q2, q3, hg, hcn, Bool.not_false]; try simp (disch := omega) only [wrap_id]) | simp only [↓reduceIte, not_false_eq_true, q1, q2, q3, hg, hcn, Bool.not_false])
    exact RetA.mk tabOk 0 rfl rfl rfl (by omega) rfl rfl rfl ⟨(octR_none (octV_none fun N h1 h2 => cd (hdig N h1 h2))).symm, rfl, rfl⟩
  ·have hq : (decide ((i : Int) < (s.length : Nat)) = true → decide (((s.length : Nat) : Int) ≤ 6) = false) := fun h => decide_eq_false (by have := of_decide_eq_true h; omega)
   obtain ⟨b1, q1⟩ : ∃ b, decide ((i : Int) < (s.length : Nat)) = b := ⟨_, rfl⟩
   have hend : octV s = none ∨ ∃ N, octV s = some N ∧ n = N := by
    cases e : octV s with
    | none => exact .inl rfl
    | some N =>
     refine .inr ⟨N, rfl, ?_⟩
     obtain ⟨k1, k2⟩ := octV_some.1 e
     have hl6 : s.length ≤ 6 := by rw [← k2]; exact octS_len6 6 N (by omega) (by simp only [Nat.reducePow]; omega)
     have hi2 : i = s.length := by omega
     rw [hi2] at hv
     exact hv.last k1 k2
   have hO := soct_ok (n : Int)
   by_cases c6 : n ≤ 65535
   ·have q4 : decide ((65535 : Int) < (n : Nat)) = false := decide_eq_false (by omega)
    rw [wordOf_small c6] at hO
    by_cases ce : octS n = s
    ·have q5 : (octS n != s) = false := by simp [ce]
     have hR := octR_some (octV_some.2 ⟨c6, ce⟩)
     cases b1 with
     | true =>
      have q2 := hq q1
      refine auto4c1_ 6 [] @hO @q1 @q2 @q4 @q5 ?_
      exact RetA.mk tabOk 0 rfl rfl rfl (by omega) rfl rfl rfl ⟨hR.symm, rfl, rfl⟩
     | false =>
      refine auto3c1_ 6 [] @hO @q1 @q4 @q5 ?_
      exact RetA.mk tabOk 0 rfl rfl rfl (by omega) rfl rfl rfl ⟨hR.symm, rfl, rfl⟩
    ·have q5 : (octS n != s) = true := by simp [ce]
     have hR : octR s = .tup [.int .i64 0, .bool false] := octR_none (by
      rcases hend with h | ⟨N, h1, rfl⟩
      ·exact h
      ·exact absurd (octV_some.1 h1).2 ce)
     cases b1 with
     | true =>
      have q2 := hq q1
      refine auto4c1_ 6 [] @hO @q1 @q2 @q4 @q5 ?_
      exact RetA.mk tabOk 0 rfl rfl rfl (by omega) rfl rfl rfl ⟨hR.symm, rfl, rfl⟩
     | false =>
      refine auto3c1_ 6 [] @hO @q1 @q4 @q5 ?_
      exact RetA.mk tabOk 0 rfl rfl rfl (by omega) rfl rfl rfl ⟨hR.symm, rfl, rfl⟩
   ·have q4 : decide ((65535 : Int) < (n : Nat)) = true := decide_eq_true (by omega)
    have hR : octR s = .tup [.int .i64 0, .bool false] := octR_none (by
     rcases hend with h | ⟨N, h1, rfl⟩
     ·exact h
     ·exact absurd (octV_some.1 h1).1 c6)
    cases b1 with
    | true =>
     have q2 := hq q1
     refine auto3c1_ 6 [] @hO @q1 @q2 @q4 ?_
     exact RetA.mk tabOk 0 rfl rfl rfl (by omega) rfl rfl rfl ⟨hR.symm, rfl, rfl⟩
    | false =>
     refine auto2c1_ 6 [] @hO @q1 @q4 ?_
     exact RetA.mk tabOk 0 rfl rfl rfl (by omega) rfl rfl rfl ⟨hR.symm, rfl, rfl⟩
 ·exact ⟨Nat.zero_le _, by simp, OctInv.zero s, fun _ => rfl⟩
 ·simp [SubS, lookS]
end Go.Proofs.YtiilnlihimdnlaaGreatDoorFw
