/- Tokens read: the reference's. -/
import Derived.Test.YtiilnlihimdnlaaGreatDoorI7
namespace Go.Proofs.YtiilnlihimdnlaaGreatDoorFw
open Go Go.RowKit Go.Proofs
set_option linter.unusedVariables false
set_option linter.unusedSimpArgs false
set_option maxRecDepth 4000
def OkT (k n : Int) (s : Str) : Prop := (k = 2 ∧ (0 ≤ n ∧ n ≤ 65535) ∧ s = []) ∨ (k ≠ 2 ∧ n = 0 ∧ ((k = 1 ∧ NameP s) ∨ (k = 3 ∧ (1 < s.length ∧ s[0]? = some 46 ∧ FormP (s.drop 1))) ∨ (k = 4 ∧ ∃ c, c ∈ marksS ∧ s = [c]) ∨ (k = 5 ∧ s ∈ opW ++ regW)))
open Classical in
noncomputable instance (k n : Int) (s : Str) : Decidable (OkT k n s) := inferInstance
theorem okT_2 (n : Int) (s : Str) : OkT 2 n s ↔ ((0 ≤ n ∧ n ≤ 65535) ∧ s = []) := by simp [OkT]
theorem okT_n (k n : Int) (s : Str) (h : k ≠ 2) (hn : n ≠ 0) : ¬ OkT k n s := by simp [OkT, h, hn]
theorem okT_1 (s : Str) : OkT 1 0 s ↔ NameP s := by simp [OkT]
theorem okT_3 (s : Str) : OkT 3 0 s ↔ (1 < s.length ∧ s[0]? = some 46 ∧ FormP (s.drop 1)) := by simp [OkT]
theorem okT_4 (s : Str) : OkT 4 0 s ↔ ∃ c, c ∈ marksS ∧ s = [c] := by simp [OkT]
theorem okT_5 (s : Str) : OkT 5 0 s ↔ s ∈ opW ++ regW := by simp [OkT]
theorem okT_o (k : Int) (s : Str) (h : k ≠ 1 ∧ k ≠ 2 ∧ k ≠ 3 ∧ k ≠ 4 ∧ k ≠ 5) : ¬ OkT k 0 s := by simp [OkT, h]
set_option maxHeartbeats 8000000 in
theorem tokenOk_ok (k n : Int) (s : Str) (hl : s.length ≤ 140737488355328) : FnA Tryz.prog 47 false [.agg [.int .i64 k, .int .i64 n, .str s]] [] (fun res os ros => res = .bool (decide (OkT k n s)) ∧ os = [] ∧ ros = []) := by
 refine FnA.of Tryz.func47 rfl (by decide) Tryz.ntmps47 (by simp) ?_
 by_cases k2 : k = 2
 ·subst k2
  by_cases cn : 0 ≤ n ∧ n ≤ 65535
  ·have q1 : decide (0 ≤ n ∧ n ≤ 65535) = true := decide_eq_true cn
   have hO : decide (OkT 2 n s) = (s == []) := by
    rw [Bool.eq_iff_iff, decide_eq_true_iff, okT_2, beq_iff_eq]
    exact ⟨fun h => h.2, fun h => ⟨cn, h⟩⟩
   rw [hO]
   repeat' (first | refine ⟨by omega, ?_⟩ | (refine hJ _ _ (RunsL.nil ?_); clear hJ J) | refine RunsA.cond rfl (fun h => ?_) (fun h => absurd h (by decide)) | refine RunsA.cond rfl (fun h => absurd h (by decide)) (fun h => ?_) | (refine step_ ?_) | (refine RunsA.rk 3 [] tabOk fun J hJ => ?_; simp only [go_sem, ↓reduceIte, Nat.reduceAdd, Nat.reduceSub, Nat.reduceMul, Nat.reduceLT, Nat.reduceLeDiff, Nat.reduceEqDiff, Nat.reduceBEq, Int.reduceToNat, Int.reduceBEq, q1]; try simp (disch := omega) only [wrap_id]) | (refine hJ _ _ (call_ (ps := []) (rid := 16) rfl rfl rfl rfl rfl (l1InI_ok _ _ _) ?_); clear hJ J; rintro r os' ros ⟨rfl, rfl, rfl⟩ _; refine RunsL.go tabOk fun J hJ => ?_; simp only [go_sem, ↓reduceIte, Nat.reduceAdd, Nat.reduceSub, Nat.reduceMul, Nat.reduceLT, Nat.reduceLeDiff, Nat.reduceEqDiff, Nat.reduceBEq, Int.reduceToNat, Int.reduceBEq, q1]; try simp (disch := omega) only [wrap_id]) | simp only [↓reduceIte, not_false_eq_true, Int.reduceBEq, q1])
   exact RetA.mk tabOk 0 rfl rfl rfl (by omega) rfl rfl rfl ⟨rfl, rfl, rfl⟩
  ·have q1 : decide (0 ≤ n ∧ n ≤ 65535) = false := decide_eq_false cn
   have hO : decide (OkT 2 n s) = false := decide_eq_false fun h => cn ((okT_2 n s).1 h).1
   rw [hO]
   repeat' (first | refine ⟨by omega, ?_⟩ | (refine hJ _ _ (RunsL.nil ?_); clear hJ J) | refine RunsA.cond rfl (fun h => ?_) (fun h => absurd h (by decide)) | refine RunsA.cond rfl (fun h => absurd h (by decide)) (fun h => ?_) | (refine step_ ?_) | (refine RunsA.rk 3 [] tabOk fun J hJ => ?_; simp only [go_sem, ↓reduceIte, Nat.reduceAdd, Nat.reduceSub, Nat.reduceMul, Nat.reduceLT, Nat.reduceLeDiff, Nat.reduceEqDiff, Nat.reduceBEq, Int.reduceToNat, Int.reduceBEq, q1]; try simp (disch := omega) only [wrap_id]) | (refine hJ _ _ (call_ (ps := []) (rid := 16) rfl rfl rfl rfl rfl (l1InI_ok _ _ _) ?_); clear hJ J; rintro r os' ros ⟨rfl, rfl, rfl⟩ _; refine RunsL.go tabOk fun J hJ => ?_; simp only [go_sem, ↓reduceIte, Nat.reduceAdd, Nat.reduceSub, Nat.reduceMul, Nat.reduceLT, Nat.reduceLeDiff, Nat.reduceEqDiff, Nat.reduceBEq, Int.reduceToNat, Int.reduceBEq, q1]; try simp (disch := omega) only [wrap_id]) | simp only [↓reduceIte, not_false_eq_true, Int.reduceBEq, q1])
   exact RetA.mk tabOk 0 rfl rfl rfl (by omega) rfl rfl rfl ⟨rfl, rfl, rfl⟩
 have b2 : (k == 2) = false := beq_eq_false_iff_ne.2 k2
 by_cases n0 : n = 0
 ·subst n0
  by_cases k1 : k = 1
  ·subst k1
   rw [decide_eq_decide.2 (okT_1 s)]
   repeat' (first | refine ⟨by omega, ?_⟩ | (refine hJ _ _ (RunsL.nil ?_); clear hJ J) | refine RunsA.cond rfl (fun h => ?_) (fun h => absurd h (by decide)) | refine RunsA.cond rfl (fun h => absurd h (by decide)) (fun h => ?_) | (refine step_ ?_) | (refine RunsA.rk 3 [18] tabOk fun J hJ => ?_; simp only [go_sem, ↓reduceIte, Nat.reduceAdd, Nat.reduceSub, Nat.reduceMul, Nat.reduceLT, Nat.reduceLeDiff, Nat.reduceEqDiff, Nat.reduceBEq, Int.reduceToNat, Int.reduceBEq, Int.reduceBNe]; try simp (disch := omega) only [wrap_id]) | (refine hJ _ _ (call_ (ps := []) (rid := 16) rfl rfl rfl rfl rfl (l9Name_ok s hl) ?_); clear hJ J; rintro r os' ros ⟨rfl, rfl, rfl⟩ _; refine RunsL.go tabOk fun J hJ => ?_; simp only [go_sem, ↓reduceIte, Nat.reduceAdd, Nat.reduceSub, Nat.reduceMul, Nat.reduceLT, Nat.reduceLeDiff, Nat.reduceEqDiff, Nat.reduceBEq, Int.reduceToNat, Int.reduceBEq, Int.reduceBNe]; try simp (disch := omega) only [wrap_id]) | simp only [↓reduceIte, not_false_eq_true, Int.reduceBEq, Int.reduceBNe])
   exact RetA.mk tabOk 0 rfl rfl rfl (by omega) rfl rfl rfl ⟨rfl, rfl, rfl⟩
  by_cases k3 : k = 3
  ·subst k3
   rw [decide_eq_decide.2 (okT_3 s)]
   by_cases c1 : 1 < s.length
   ·have q1 : decide ((1 : Int) < (s.length : Nat)) = true := decide_eq_true (by omega)
    have hg : s[0]? = some s[0] := List.getElem?_eq_getElem (by omega)
    have hdl : (s.drop 1).length = s.length - 1 := List.length_drop
    have htk : (s.drop 1).take (s.length - 1) = s.drop 1 := by rw [List.take_of_length_le]; omega
    have hF := l9Form_ok (s.drop 1) (by omega)
    by_cases c2 : s[0] = 46
    ·have q2 : (((s[0].toNat : Nat) : Int) == 46) = true := by rw [c2]; rfl
     have e : decide (1 < s.length ∧ s[0]? = some 46 ∧ FormP (s.drop 1)) = decide (FormP (s.drop 1)) := by
      rw [decide_eq_decide, hg, c2]
      exact ⟨fun h => h.2.2, fun h => ⟨c1, rfl, h⟩⟩
     rw [e]
     generalize decide (FormP (s.drop 1)) = X at *
     refine auto4c1_ 3 [18] @hF @q1 @hg @q2 @htk ?_
     exact RetA.mk tabOk 0 rfl rfl rfl (by omega) rfl rfl rfl ⟨rfl, rfl, rfl⟩
    ·have q2 : (((s[0].toNat : Nat) : Int) == 46) = false := beq_eq_false_iff_ne.2 (fun h => c2 (by
      apply UInt8.toNat_inj.1
      have : s[0].toNat = 46 := by omega
      rw [this]; rfl))
     have e : decide (1 < s.length ∧ s[0]? = some 46 ∧ FormP (s.drop 1)) = false := decide_eq_false (fun h => by
      rw [hg] at h
      exact c2 (Option.some.inj h.2.1))
     rw [e]
     refine auto3c1_ 3 [18] @hF @q1 @hg @q2 ?_
     exact RetA.mk tabOk 0 rfl rfl rfl (by omega) rfl rfl rfl ⟨rfl, rfl, rfl⟩
   ·have q1 : decide ((1 : Int) < (s.length : Nat)) = false := decide_eq_false (by omega)
    have e : decide (1 < s.length ∧ s[0]? = some 46 ∧ FormP (s.drop 1)) = false := decide_eq_false (fun h => c1 h.1)
    rw [e]
    refine auto1_ 3 [18] @q1 ?_
    exact RetA.mk tabOk 0 rfl rfl rfl (by omega) rfl rfl rfl ⟨rfl, rfl, rfl⟩
  by_cases k4 : k = 4
  ·subst k4
   rw [decide_eq_decide.2 (okT_4 s)]
   repeat' (first | refine ⟨by omega, ?_⟩ | (refine hJ _ _ (RunsL.nil ?_); clear hJ J) | refine RunsA.cond rfl (fun h => ?_) (fun h => absurd h (by decide)) | refine RunsA.cond rfl (fun h => absurd h (by decide)) (fun h => ?_) | (refine step_ ?_) | (refine RunsA.rk 3 [18] tabOk fun J hJ => ?_; simp only [go_sem, ↓reduceIte, Nat.reduceAdd, Nat.reduceSub, Nat.reduceMul, Nat.reduceLT, Nat.reduceLeDiff, Nat.reduceEqDiff, Nat.reduceBEq, Int.reduceToNat, Int.reduceBEq, Int.reduceBNe]; try simp (disch := omega) only [wrap_id]) | (refine hJ _ _ (call_ (ps := []) (rid := 16) rfl rfl rfl rfl rfl (l9Mark_ok s) ?_); clear hJ J; rintro r os' ros ⟨rfl, rfl, rfl⟩ _; refine RunsL.go tabOk fun J hJ => ?_; simp only [go_sem, ↓reduceIte, Nat.reduceAdd, Nat.reduceSub, Nat.reduceMul, Nat.reduceLT, Nat.reduceLeDiff, Nat.reduceEqDiff, Nat.reduceBEq, Int.reduceToNat, Int.reduceBEq, Int.reduceBNe]; try simp (disch := omega) only [wrap_id]) | simp only [↓reduceIte, not_false_eq_true, Int.reduceBEq, Int.reduceBNe])
   exact RetA.mk tabOk 0 rfl rfl rfl (by omega) rfl rfl rfl ⟨rfl, rfl, rfl⟩
  by_cases k5 : k = 5
  ·subst k5
   rw [decide_eq_decide.2 (okT_5 s), ← atI_pos]
   have hA := l9At_ok (opW ++ regW) s (by decide)
   have hK := l9Kept_ok
   generalize opW ++ regW = KL at *
   refine auto0_ 3 [18] ?_
   refine RunsA.dag (Ω := Unit) mixed () [(1, [(0, 0)]), (2, [(0, 1)]), (3, [(1, 1), (2, 0)]), (6, [(2, 2)]), (7, [(3, 2), (6, 0)]), (15, [(7, 3)]), (31, [(15, 4)]), (63, [(31, 5)])] (by kernel_rfl) ?_
   repeat
    (apply DagP.step
     ·repeat
       (apply EdgesP.cons rfl rfl
        ·intro ω
         refine cgo1_ @brw_strs ?_
         first
          | (refine RunsL.nil ?_; first | exact ⟨ω, LeS.refl _⟩ | exact ⟨ω, les_⟩)
          | (refine call_ (ps := []) (rid := 12800) (hy := by simp only [go_sem, Nat.reduceEqDiff, brw_strs]; first | done | rfl) rfl rfl rfl rfl rfl (hK) ?_
             refine cro1_ @brw_strs ?_
             first | exact ⟨ω, LeS.refl _⟩ | exact ⟨ω, les_⟩)
          | (refine call_ (ps := []) (rid := 16) (hy := by simp only [go_sem, Nat.reduceEqDiff, brw_strs]; first | done | rfl) rfl rfl rfl rfl rfl (hA) ?_
             refine cro1_ @brw_strs ?_
             first | exact ⟨ω, LeS.refl _⟩ | exact ⟨ω, les_⟩))
      exact EdgesP.nil)
   refine DagP.done fun ω => ?_
   refine run_ ?_
   exact RetA.mk tabOk 0 rfl rfl rfl (by omega) rfl rfl rfl ⟨rfl, rfl, rfl⟩
  have b1 : (k == 1) = false := beq_eq_false_iff_ne.2 k1
  have b3 : (k == 3) = false := beq_eq_false_iff_ne.2 k3
  have b4 : (k == 4) = false := beq_eq_false_iff_ne.2 k4
  have b5 : (k == 5) = false := beq_eq_false_iff_ne.2 k5
  rw [decide_eq_false (okT_o k s ⟨k1, k2, k3, k4, k5⟩)]
  refine auto6_ 3 [18] @b1 @b2 @b3 @b4 @b5 @b5 ?_
  exact RetA.mk tabOk 0 rfl rfl rfl (by omega) rfl rfl rfl ⟨rfl, rfl, rfl⟩
 ·have q : (n != 0) = true := bne_iff_ne.2 n0
  rw [decide_eq_false (okT_n k n s k2 n0)]
  refine auto2_ 3 [18] @b2 @q ?_
  exact RetA.mk tabOk 0 rfl rfl rfl (by omega) rfl rfl rfl ⟨rfl, rfl, rfl⟩
end Go.Proofs.YtiilnlihimdnlaaGreatDoorFw
