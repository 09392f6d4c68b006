/- Operands of lines that are right: the reference's and the program's. -/
import Derived.Test.YtiilnlihimdnlaaGreatDoorG9
import Derived.Test.YtiilnlihimdnlaaGreatDoorQD
import Derived.Test.YtiilnlihimdnlaaGreatDoorQC
set_option linter.unusedVariables false
set_option linter.unusedSimpArgs false
set_option maxRecDepth 4000
namespace Go.Proofs.YtiilnlihimdnlaaGreatDoorFw
open Go Go.RowKit
def ZeroE (k n : Int) (s : Str) (c : Nat) : Prop := k = 0 ∧ n = 0 ∧ s = [] ∧ c = 0
instance (k n : Int) (s : Str) (c : Nat) : Decidable (ZeroE k n s c) := by unfold ZeroE; infer_instance
def ArgP (f r : Int) (z p : Prop) : Prop := (0 ≤ f ∧ f ≤ 5 ∧ 0 ≤ r ∧ r ≤ 7 ∧ z) ∨ (6 ≤ f ∧ f ≤ 7 ∧ 0 ≤ r ∧ r ≤ 7 ∧ p) ∨ (8 ≤ f ∧ f ≤ 11 ∧ r = 0 ∧ p)
open Classical in
noncomputable instance (f r : Int) (z p : Prop) : Decidable (ArgP f r z p) := inferInstance
theorem zeroS_ok (k n : Int) (s : Str) (l : List ExprV) : FnA Tryz.prog 132 false [.agg [.int .i64 k, .int .i64 n, .str s, .row .bo 4 (exprsA .bo l)]] [] (fun r os ros => r = .bool (decide (ZeroE k n s l.length)) ∧ os = [] ∧ ros = []) := by
 have hel := exprsA_len .bo l
 generalize exprsA .bo l = RW at *
 generalize l.length = c at *
 refine FnA.of Tryz.func132 rfl (by decide) Tryz.ntmps132 (by simp) ?_
 by_cases h1 : k = 0
 ·have b1 : (k == 0) = true := by simp [h1]
  by_cases h2 : n = 0
  ·have b2 : (n == 0) = true := by simp [h2]
   by_cases h3 : s = []
   ·have b3 : (s == []) = true := by simp [h3]
    repeat (first | refine RunsA.sq ?_ | refine RunsA.bk ?_ | refine RunsA.sk ?_ | refine RunsA.ex ?_ | refine RunsA.rt ?_ | refine At.n ?_ | refine At.x ?_ | refine At.r ?_ | refine At.bn ?_ | refine At.br ?_ | refine At.bx ?_ | refine At.by_ rfl ?_ | refine At.kx ?_ | refine At.kr ?_ | refine At.kn ?_ | refine At.er ?_ | refine At.en ?_ | (refine RunsA.rq tabOk fun J hJ => ?_; simp only [go_sem, ↓reduceIte, Nat.reduceAdd, Nat.reduceSub, Nat.reduceMul, Nat.reduceLT, Nat.reduceLeDiff, Nat.reduceEqDiff, Nat.reduceBEq, Int.reduceToNat, b1, b2, b3, hel]; (try simp (disch := omega) only [wrap_id]); (repeat refine ⟨by omega, ?_⟩); refine hJ _ _ (RunsL.nil ?_); clear hJ J) | (refine RunsA.dq mixed tabOk (by kernel_rfl) fun J hJ => ?_; simp only [go_sem, ↓reduceIte, Nat.reduceAdd, Nat.reduceSub, Nat.reduceMul, Nat.reduceLT, Nat.reduceLeDiff, Nat.reduceEqDiff, Nat.reduceBEq, Int.reduceToNat, b1, b2, b3, hel]; (try simp (disch := omega) only [wrap_id]); (repeat refine ⟨by omega, ?_⟩); refine hJ _ _ (QRuns.nil ?_); clear hJ J))
    exact RetA.mk tabOk 0 rfl rfl rfl (by omega) rfl rfl rfl ⟨by simp [res1, ZeroE, h1, h2, h3]; first | rfl | done | (rw [Bool.eq_iff_iff]; simp), rfl, rfl⟩
   ·have b3 : (s == []) = false := by simpa using h3
    refine run3_ @b1 @b2 @b3 ?_
    exact RetA.mk tabOk 0 rfl rfl rfl (by omega) rfl rfl rfl ⟨by simp [res1, ZeroE, h3], rfl, rfl⟩
  ·have b2 : (n == 0) = false := by simpa using h2
   refine run2_ @b1 @b2 ?_
   exact RetA.mk tabOk 0 rfl rfl rfl (by omega) rfl rfl rfl ⟨by simp [res1, ZeroE, h2], rfl, rfl⟩
 ·have b1 : (k == 0) = false := by simpa using h1
  refine run1_ @b1 ?_
  exact RetA.mk tabOk 0 rfl rfl rfl (by omega) rfl rfl rfl ⟨by simp [res1, ZeroE, h1], rfl, rfl⟩
theorem zeroI_ok (k n : Int) (s : Str) (l : List ExprV) : FnA Tryz.prog 118 false [.agg [.int .i64 k, .int .i64 n, .str s, .row .bo 4 (exprsA .bo l)]] [] (fun r os ros => r = .bool (decide (ZeroE k n s l.length)) ∧ os = [] ∧ ros = []) := by
 have hel := exprsA_len .bo l
 generalize exprsA .bo l = RW at *
 generalize l.length = c at *
 refine FnA.of Tryz.func118 rfl (by decide) Tryz.ntmps118 (by simp) ?_
 by_cases h1 : k = 0
 ·have b1 : (k == 0) = true := by simp [h1]
  by_cases h2 : n = 0
  ·have b2 : (n == 0) = true := by simp [h2]
   by_cases h3 : s = []
   ·have b3 : (s == []) = true := by simp [h3]
    repeat (first | refine RunsA.sq ?_ | refine RunsA.bk ?_ | refine RunsA.sk ?_ | refine RunsA.ex ?_ | refine RunsA.rt ?_ | refine At.n ?_ | refine At.x ?_ | refine At.r ?_ | refine At.bn ?_ | refine At.br ?_ | refine At.bx ?_ | refine At.by_ rfl ?_ | refine At.kx ?_ | refine At.kr ?_ | refine At.kn ?_ | refine At.er ?_ | refine At.en ?_ | (refine RunsA.rq tabOk fun J hJ => ?_; simp only [go_sem, ↓reduceIte, Nat.reduceAdd, Nat.reduceSub, Nat.reduceMul, Nat.reduceLT, Nat.reduceLeDiff, Nat.reduceEqDiff, Nat.reduceBEq, Int.reduceToNat, b1, b2, b3, hel]; (try simp (disch := omega) only [wrap_id]); (repeat refine ⟨by omega, ?_⟩); refine hJ _ _ (RunsL.nil ?_); clear hJ J) | (refine RunsA.dq mixed tabOk (by kernel_rfl) fun J hJ => ?_; simp only [go_sem, ↓reduceIte, Nat.reduceAdd, Nat.reduceSub, Nat.reduceMul, Nat.reduceLT, Nat.reduceLeDiff, Nat.reduceEqDiff, Nat.reduceBEq, Int.reduceToNat, b1, b2, b3, hel]; (try simp (disch := omega) only [wrap_id]); (repeat refine ⟨by omega, ?_⟩); refine hJ _ _ (QRuns.nil ?_); clear hJ J))
    exact RetA.mk tabOk 0 rfl rfl rfl (by omega) rfl rfl rfl ⟨by simp [res1, ZeroE, h1, h2, h3]; first | rfl | done | (rw [Bool.eq_iff_iff]; simp), rfl, rfl⟩
   ·have b3 : (s == []) = false := by simpa using h3
    refine run3_ @b1 @b2 @b3 ?_
    exact RetA.mk tabOk 0 rfl rfl rfl (by omega) rfl rfl rfl ⟨by simp [res1, ZeroE, h3], rfl, rfl⟩
  ·have b2 : (n == 0) = false := by simpa using h2
   refine run2_ @b1 @b2 ?_
   exact RetA.mk tabOk 0 rfl rfl rfl (by omega) rfl rfl rfl ⟨by simp [res1, ZeroE, h2], rfl, rfl⟩
 ·have b1 : (k == 0) = false := by simpa using h1
  refine run1_ @b1 ?_
  exact RetA.mk tabOk 0 rfl rfl rfl (by omega) rfl rfl rfl ⟨by simp [res1, ZeroE, h1], rfl, rfl⟩
set_option maxHeartbeats 2000000 in
theorem argS_ok (f r k n : Int) (s : Str) (l : List ExprV) (hf : (ExprV.mk k n s l).tot ≤ 1048576) :
 FnA Tryz.prog 131 false [.agg [.int .i64 f, .int .i64 r, .int .i64 k, .int .i64 n, .str s, .row .bo 4 (exprsA .bo l)]] [] (fun res os ros => res = .bool (decide (ArgP f r (ZeroE k n s l.length) (TermP 6 true (.mk k n s l)))) ∧ os = [] ∧ ros = []) := by
 have hZ := zeroS_ok k n s l
 have hP := plainS_ok (.mk k n s l) hf
 rw [exprA_mk] at hP
 generalize exprsA .bo l = RW at *
 refine FnA.of Tryz.func131 rfl (by decide) Tryz.ntmps131 (by simp) ?_
 repeat' (first | refine ⟨by omega, ?_⟩ | (refine hJ _ _ (RunsL.nil ?_); clear hJ J) | refine RunsA.cond rfl (fun h => ?_) (fun h => absurd h (by decide)) | refine RunsA.cond rfl (fun h => absurd h (by decide)) (fun h => ?_) | refine RunsA.cond rfl (fun h => ?_) (fun h => ?_) | (refine step_ ?_) | (refine RunsA.rk 3 [] tabOk fun J hJ => ?_; simp only [go_sem, ↓reduceIte, Nat.reduceAdd, Nat.reduceSub, Nat.reduceMul, Nat.reduceLT, Nat.reduceLeDiff, Nat.reduceEqDiff, Nat.reduceBEq, Int.reduceToNat]; try simp (disch := omega) only [wrap_id]) | (refine hJ _ _ (call_ (ps := []) (rid := 16) rfl rfl rfl rfl rfl (l1In_ok _ _ _) ?_); clear hJ J; rintro r os' ros ⟨rfl, rfl, rfl⟩ _; refine RunsL.go tabOk fun J hJ => ?_; simp only [go_sem, ↓reduceIte, Nat.reduceAdd, Nat.reduceSub, Nat.reduceMul, Nat.reduceLT, Nat.reduceLeDiff, Nat.reduceEqDiff, Nat.reduceBEq, Int.reduceToNat]; try simp (disch := omega) only [wrap_id]) | (refine hJ _ _ (call_ (ps := []) (rid := 16) rfl rfl rfl rfl rfl (hZ) ?_); clear hJ J; rintro r os' ros ⟨rfl, rfl, rfl⟩ _; refine RunsL.go tabOk fun J hJ => ?_; simp only [go_sem, ↓reduceIte, Nat.reduceAdd, Nat.reduceSub, Nat.reduceMul, Nat.reduceLT, Nat.reduceLeDiff, Nat.reduceEqDiff, Nat.reduceBEq, Int.reduceToNat]; try simp (disch := omega) only [wrap_id]) | (refine hJ _ _ (call_ (ps := []) (rid := 16) rfl rfl rfl rfl rfl (hP) ?_); clear hJ J; rintro r os' ros ⟨rfl, rfl, rfl⟩ _; refine RunsL.go tabOk fun J hJ => ?_; simp only [go_sem, ↓reduceIte, Nat.reduceAdd, Nat.reduceSub, Nat.reduceMul, Nat.reduceLT, Nat.reduceLeDiff, Nat.reduceEqDiff, Nat.reduceBEq, Int.reduceToNat]; try simp (disch := omega) only [wrap_id]) | split)
 all_goals (
  refine RetA.mk tabOk 0 rfl rfl rfl (by omega) rfl rfl rfl ?_
  refine ⟨?_, rfl, rfl⟩
  simp only [res1, AV.bool.injEq]
  (try simp only [beq_iff_eq, bne_iff_ne, beq_eq_false_iff_ne, bne_eq_false_iff_eq, ne_eq, decide_eq_true_eq, decide_eq_false_iff_not, Bool.not_eq_true, Bool.not_eq_false, Bool.not_eq_true', Bool.not_eq_false', not_true_eq_false, not_false_eq_true] at *)
  all_goals (first | apply decide_eq_decide.mpr | (symm; rw [decide_eq_true_iff]) | (symm; rw [decide_eq_false_iff_not]) | (rw [Bool.eq_iff_iff]; simp only [decide_eq_true_eq, beq_iff_eq, Bool.not_eq_true', decide_eq_false_iff_not]))
  obtain ⟨a1, e1⟩ := asNum (ZeroE k n s l.length)
  obtain ⟨a2, e2⟩ := asNum (TermP 6 true (.mk k n s l))
  simp only [ArgP, e1, e2] at *
  omega)
set_option maxHeartbeats 2000000 in
theorem argI_ok (f r k n : Int) (s : Str) (l : List ExprV) (hf : (ExprV.mk k n s l).tot ≤ 1048576) :
 FnA Tryz.prog 116 false [.agg [.int .i64 f, .int .i64 r, .int .i64 k, .int .i64 n, .str s, .row .bo 4 (exprsA .bo l)]] [] (fun res os ros => res = .bool (decide (ArgP f r (ZeroE k n s l.length) (TermP 6 true (.mk k n s l)))) ∧ os = [] ∧ ros = []) := by
 have hZ := zeroI_ok k n s l
 have hP := plainI_ok (.mk k n s l) hf
 rw [exprA_mk] at hP
 generalize exprsA .bo l = RW at *
 refine FnA.of Tryz.func116 rfl (by decide) Tryz.ntmps116 (by simp) ?_
 repeat' (first | refine ⟨by omega, ?_⟩ | (refine hJ _ _ (RunsL.nil ?_); clear hJ J) | refine RunsA.cond rfl (fun h => ?_) (fun h => absurd h (by decide)) | refine RunsA.cond rfl (fun h => absurd h (by decide)) (fun h => ?_) | refine RunsA.cond rfl (fun h => ?_) (fun h => ?_) | (refine step_ ?_) | (refine RunsA.rk 3 [] tabOk fun J hJ => ?_; simp only [go_sem, ↓reduceIte, Nat.reduceAdd, Nat.reduceSub, Nat.reduceMul, Nat.reduceLT, Nat.reduceLeDiff, Nat.reduceEqDiff, Nat.reduceBEq, Int.reduceToNat]; try simp (disch := omega) only [wrap_id]) | (refine hJ _ _ (call_ (ps := []) (rid := 16) rfl rfl rfl rfl rfl (within_ok _ _ _) ?_); clear hJ J; rintro r os' ros ⟨rfl, rfl, rfl⟩ _; refine RunsL.go tabOk fun J hJ => ?_; simp only [go_sem, ↓reduceIte, Nat.reduceAdd, Nat.reduceSub, Nat.reduceMul, Nat.reduceLT, Nat.reduceLeDiff, Nat.reduceEqDiff, Nat.reduceBEq, Int.reduceToNat]; try simp (disch := omega) only [wrap_id]) | (refine hJ _ _ (call_ (ps := []) (rid := 16) rfl rfl rfl rfl rfl (isReg_ok _) ?_); clear hJ J; rintro r os' ros ⟨rfl, rfl, rfl⟩ _; refine RunsL.go tabOk fun J hJ => ?_; simp only [go_sem, ↓reduceIte, Nat.reduceAdd, Nat.reduceSub, Nat.reduceMul, Nat.reduceLT, Nat.reduceLeDiff, Nat.reduceEqDiff, Nat.reduceBEq, Int.reduceToNat]; try simp (disch := omega) only [wrap_id]) | (refine hJ _ _ (call_ (ps := []) (rid := 16) rfl rfl rfl rfl rfl (hZ) ?_); clear hJ J; rintro r os' ros ⟨rfl, rfl, rfl⟩ _; refine RunsL.go tabOk fun J hJ => ?_; simp only [go_sem, ↓reduceIte, Nat.reduceAdd, Nat.reduceSub, Nat.reduceMul, Nat.reduceLT, Nat.reduceLeDiff, Nat.reduceEqDiff, Nat.reduceBEq, Int.reduceToNat]; try simp (disch := omega) only [wrap_id]) | (refine hJ _ _ (call_ (ps := []) (rid := 16) rfl rfl rfl rfl rfl (hP) ?_); clear hJ J; rintro r os' ros ⟨rfl, rfl, rfl⟩ _; refine RunsL.go tabOk fun J hJ => ?_; simp only [go_sem, ↓reduceIte, Nat.reduceAdd, Nat.reduceSub, Nat.reduceMul, Nat.reduceLT, Nat.reduceLeDiff, Nat.reduceEqDiff, Nat.reduceBEq, Int.reduceToNat]; try simp (disch := omega) only [wrap_id]) | split)
 all_goals (
  refine RetA.mk tabOk 0 rfl rfl rfl (by omega) rfl rfl rfl ?_
  refine ⟨?_, rfl, rfl⟩
  simp only [res1, AV.bool.injEq]
  (try simp only [beq_iff_eq, bne_iff_ne, beq_eq_false_iff_ne, bne_eq_false_iff_eq, ne_eq, decide_eq_true_eq, decide_eq_false_iff_not, Bool.not_eq_true, Bool.not_eq_false, Bool.not_eq_true', Bool.not_eq_false', not_true_eq_false, not_false_eq_true] at *)
  all_goals (first | apply decide_eq_decide.mpr | (symm; rw [decide_eq_true_iff]) | (symm; rw [decide_eq_false_iff_not]) | (rw [Bool.eq_iff_iff]; simp only [decide_eq_true_eq, beq_iff_eq, Bool.not_eq_true', decide_eq_false_iff_not]))
  obtain ⟨a1, e1⟩ := asNum (ZeroE k n s l.length)
  obtain ⟨a2, e2⟩ := asNum (TermP 6 true (.mk k n s l))
  simp only [ArgP, e1, e2] at *
  omega)
end Go.Proofs.YtiilnlihimdnlaaGreatDoorFw
namespace Go.Proofs.YtiilnlihimdnlaaGreatDoorFw
open Go Go.RowKit
theorem noneS_ok (f r k n : Int) (s : Str) (l : List ExprV) : FnA Tryz.prog 105 false [.agg [.int .i64 f, .int .i64 r, .int .i64 k, .int .i64 n, .str s, .row .bo 4 (exprsA .bo l)]] [] (fun res os ros => res = .bool (decide (f = 0 ∧ r = 0 ∧ ZeroE k n s l.length)) ∧ os = [] ∧ ros = []) := by
 have hZ := zeroS_ok k n s l
 generalize exprsA .bo l = RW at *
 refine FnA.of Tryz.func105 rfl (by decide) Tryz.ntmps105 (by simp) ?_
 by_cases h1 : f = 0
 ·have b1 : (f == 0) = true := by simp [h1]
  by_cases h2 : r = 0
  ·have b2 : (r == 0) = true := by simp [h2]
   refine run2_ @b1 @b2 ?_
   refine rg2_ @b1 @b2 ?_
   refine call_ (ps := []) (rid := 16) rfl rfl rfl rfl rfl (hZ) ?_
   refine cr_ ?_
   refine run_ ?_
   exact RetA.mk tabOk 0 rfl rfl rfl (by omega) rfl rfl rfl ⟨by simp [res1, h1, h2], rfl, rfl⟩
  ·have b2 : (r == 0) = false := by simpa using h2
   refine run2_ @b1 @b2 ?_
   exact RetA.mk tabOk 0 rfl rfl rfl (by omega) rfl rfl rfl ⟨by simp [res1, h2], rfl, rfl⟩
 ·have b1 : (f == 0) = false := by simpa using h1
  refine run1_ @b1 ?_
  exact RetA.mk tabOk 0 rfl rfl rfl (by omega) rfl rfl rfl ⟨by simp [res1, h1], rfl, rfl⟩
theorem noneI_ok (f r k n : Int) (s : Str) (l : List ExprV) : FnA Tryz.prog 72 false [.agg [.int .i64 f, .int .i64 r, .int .i64 k, .int .i64 n, .str s, .row .bo 4 (exprsA .bo l)]] [] (fun res os ros => res = .bool (decide (f = 0 ∧ r = 0 ∧ ZeroE k n s l.length)) ∧ os = [] ∧ ros = []) := by
 have hZ := zeroI_ok k n s l
 generalize exprsA .bo l = RW at *
 refine FnA.of Tryz.func72 rfl (by decide) Tryz.ntmps72 (by simp) ?_
 by_cases h1 : f = 0
 ·have b1 : (f == 0) = true := by simp [h1]
  by_cases h2 : r = 0
  ·have b2 : (r == 0) = true := by simp [h2]
   refine run2_ @b1 @b2 ?_
   refine rg2_ @b1 @b2 ?_
   refine call_ (ps := []) (rid := 16) rfl rfl rfl rfl rfl (hZ) ?_
   refine cr_ ?_
   refine run_ ?_
   exact RetA.mk tabOk 0 rfl rfl rfl (by omega) rfl rfl rfl ⟨by simp [res1, h1, h2], rfl, rfl⟩
  ·have b2 : (r == 0) = false := by simpa using h2
   refine run2_ @b1 @b2 ?_
   exact RetA.mk tabOk 0 rfl rfl rfl (by omega) rfl rfl rfl ⟨by simp [res1, h2], rfl, rfl⟩
 ·have b1 : (f == 0) = false := by simpa using h1
  refine run1_ @b1 ?_
  exact RetA.mk tabOk 0 rfl rfl rfl (by omega) rfl rfl rfl ⟨by simp [res1, h1], rfl, rfl⟩
open Classical in
noncomputable instance plainLdec (l : List ExprV) : Decidable (∀ e ∈ l, TermP 6 true e) := inferInstance
open Classical in
noncomputable instance namesLdec (l : List ExprV) : Decidable ((∀ e ∈ l, TermP 6 true e ∧ e.1 = 2) ∧ 1 ≤ l.length ∧ l.length ≤ 6) := inferInstance
theorem l12Plain_ok (l : List ExprV) (hf : l.length ≤ 1048576 ∧ ExprV.totL l ≤ 1048576) :
 FnA Tryz.prog 106 false [.row .bo 4 (exprsA .bo l)] [] (fun r os ros => r = .bool (decide (∀ e ∈ l, TermP 6 true e)) ∧ os = [] ∧ ros = []) := by
 refine FnA.of Tryz.func106 rfl (by decide) Tryz.ntmps106 (by simp) ?_
 refine run_ ?_
 refine RunsA.loop ?_
 refine (LoopA.ind (fun i : Nat => ⟨16, [(0, .row .bo 4 (exprsA .bo l)), (3, .int .i64 i)], [], false⟩) (fun i => l.length - i) (fun i => i ≤ l.length ∧ ∀ e ∈ l.take i, TermP 6 true e) ?_ 0 ?_).sub rfl ?_ trivial rfl
 ·rintro i ⟨hi, hall⟩ K3 hK3
  refine run1_ @exprsA_len ?_
  refine RunsA.cond rfl (fun h2 => ?_) (fun h2 => ?_)
  ·simp only [decide_eq_true_eq] at h2
   have hilt : i < l.length := by omega
   have hg := exprsA_get .bo hilt
   have hmem := List.getElem_mem hilt
   have HH := plainS_ok l[i] (by have := ExprV.totL_mem hmem; omega)
   have htk : l.take (i + 1) = l.take i ++ [l[i]] := take_snoc hilt
   generalize l[i] = e at *
   rw [exprA_un2] at hg HH
   refine run_ ?_
   refine rg2_ @hg @exprsA_len ?_
   refine call_ (ps := []) (rid := 16) (hy := by simp only [go_sem, Nat.reduceEqDiff, brw_exprs]; first | done | rfl) rfl rfl rfl rfl rfl (HH) ?_
   rintro r os' ros ⟨rfl, rfl, rfl⟩ _
   by_cases ce : TermP 6 true e
   ·rw [decide_eq_true ce]
    refine cg_ ?_
    refine RunsL.nil ?_
    refine run_ ?_
    refine RunsA.cond rfl (fun h => absurd h (by simp)) (fun h => ?_)
    refine run_ ?_
    refine hK3 (i + 1) _ ⟨by omega, fun x hx => ?_⟩ (by omega) rfl (by simp [SubS, lookS]) trivial rfl
    rw [htk] at hx
    rcases List.mem_append.1 hx with hx | hx
    ·exact hall x hx
    ·rw [List.mem_singleton.1 hx]; exact ce
   ·rw [decide_eq_false ce]
    refine cg_ ?_
    refine RunsL.nil ?_
    refine run_ ?_
    refine RunsA.cond rfl (fun h => ?_) (fun h => absurd h (by simp))
    refine run_ ?_
    exact RetA.mk tabOk 0 rfl rfl rfl (by omega) rfl rfl rfl ⟨by rw [decide_eq_false (fun hc => ce (hc e hmem))]; rfl, rfl, rfl⟩
  ·simp only [decide_eq_false_iff_not] at h2
   have hil : i = l.length := by omega
   subst hil
   rw [List.take_length] at hall
   refine run_ ?_
   exact RetA.mk tabOk 0 rfl rfl rfl (by omega) rfl rfl rfl ⟨by rw [decide_eq_true hall]; rfl, rfl, rfl⟩
 ·exact ⟨Nat.zero_le _, by simp⟩
 ·simp [SubS, lookS]
theorem l12Names_ok (l : List ExprV) (hf : l.length ≤ 1048576 ∧ ExprV.totL l ≤ 1048576) :
 FnA Tryz.prog 107 false [.row .bo 4 (exprsA .bo l)] [] (fun r os ros => r = .bool (decide ((∀ e ∈ l, TermP 6 true e ∧ e.1 = 2) ∧ 1 ≤ l.length ∧ l.length ≤ 6)) ∧ os = [] ∧ ros = []) := by
 have hI := l1In_ok (l.length : Int) 1 6
 refine FnA.of Tryz.func107 rfl (by decide) Tryz.ntmps107 (by simp) ?_
 refine run_ ?_
 refine RunsA.loop ?_
 refine (LoopA.ind (fun i : Nat => ⟨27, [(0, .row .bo 4 (exprsA .bo l)), (3, .int .i64 i)], [], false⟩) (fun i => l.length - i) (fun i => i ≤ l.length ∧ ∀ e ∈ l.take i, TermP 6 true e ∧ e.1 = 2) ?_ 0 ?_).sub rfl ?_ trivial rfl
 ·rintro i ⟨hi, hall⟩ K3 hK3
  refine run1_ @exprsA_len ?_
  refine RunsA.cond rfl (fun h2 => ?_) (fun h2 => ?_)
  ·simp only [decide_eq_true_eq] at h2
   have hilt : i < l.length := by omega
   have hg := exprsA_get .bo hilt
   have hmem := List.getElem_mem hilt
   have HH := plainS_ok l[i] (by have := ExprV.totL_mem hmem; omega)
   have htk : l.take (i + 1) = l.take i ++ [l[i]] := take_snoc hilt
   generalize l[i] = e at *
   rw [exprA_un2] at hg HH
   by_cases ce : TermP 6 true e
   ·rw [decide_eq_true ce] at HH
    by_cases c2 : e.1 = 2
    ·have b2 : (e.1 != 2) = false := by simp [c2]
     refine run_ ?_
     refine rg3_ @hg @exprsA_len @b2 ?_
     refine call_ (ps := []) (rid := 16) (hy := by simp only [go_sem, Nat.reduceEqDiff, brw_exprs]; first | done | rfl) rfl rfl rfl rfl rfl (HH) ?_
     refine cro3_ @hg @exprsA_len @b2 ?_
     refine run_ ?_
     refine RunsA.cond rfl (fun h => absurd h (by simp [c2])) (fun h => ?_)
     refine run_ ?_
     refine hK3 (i + 1) _ ⟨by omega, fun x hx => ?_⟩ (by omega) rfl (by simp [SubS, lookS]) trivial rfl
     rw [htk] at hx
     rcases List.mem_append.1 hx with hx | hx
     ·exact hall x hx
     ·rw [List.mem_singleton.1 hx]; exact ⟨ce, c2⟩
    ·have b2 : (e.1 != 2) = true := by simp [c2]
     refine run_ ?_
     refine rg3_ @hg @exprsA_len @b2 ?_
     refine call_ (ps := []) (rid := 16) (hy := by simp only [go_sem, Nat.reduceEqDiff, brw_exprs]; first | done | rfl) rfl rfl rfl rfl rfl (HH) ?_
     refine cro3_ @hg @exprsA_len @b2 ?_
     refine run_ ?_
     refine RunsA.cond rfl (fun h => ?_) (fun h => absurd h (by simp [c2]))
     refine run_ ?_
     exact RetA.mk tabOk 0 rfl rfl rfl (by omega) rfl rfl rfl ⟨by rw [decide_eq_false (fun hc => c2 (hc.1 e hmem).2)]; rfl, rfl, rfl⟩
   ·rw [decide_eq_false ce] at HH
    refine run_ ?_
    refine rg2_ @hg @exprsA_len ?_
    refine call_ (ps := []) (rid := 16) (hy := by simp only [go_sem, Nat.reduceEqDiff, brw_exprs]; first | done | rfl) rfl rfl rfl rfl rfl (HH) ?_
    refine cro_ ?_
    refine run_ ?_
    refine RunsA.cond rfl (fun h => ?_) (fun h => absurd h (by simp))
    refine run_ ?_
    exact RetA.mk tabOk 0 rfl rfl rfl (by omega) rfl rfl rfl ⟨by rw [decide_eq_false (fun hc => ce (hc.1 e hmem).1)]; rfl, rfl, rfl⟩
  ·simp only [decide_eq_false_iff_not] at h2
   have hil : i = l.length := by omega
   subst hil
   rw [List.take_length] at hall
   refine run_ ?_
   refine rg1_ @exprsA_len ?_
   refine call_ (ps := []) (rid := 16) rfl rfl rfl rfl rfl (hI) ?_
   refine cr_ ?_
   refine run_ ?_
   exact RetA.mk tabOk 0 rfl rfl rfl (by omega) rfl rfl rfl ⟨by simp only [res1, AV.bool.injEq]; exact decide_eq_decide.2 ⟨fun h => ⟨hall, by omega, by omega⟩, fun h => by omega⟩, rfl, rfl⟩
 ·exact ⟨Nat.zero_le _, by simp⟩
 ·simp [SubS, lookS]
end Go.Proofs.YtiilnlihimdnlaaGreatDoorFw
namespace Go.Proofs.YtiilnlihimdnlaaGreatDoorFw
open Go Go.RowKit
def InsLP (op : Int) (so do_ sn dn : Prop) (n : Int) (c : Nat) (pl : Prop) : Prop :=
 ((1 ≤ op ∧ op ≤ 6) ∧ so ∧ do_ ∧ n = 0 ∧ c = 0) ∨ ((7 ≤ op ∧ op ≤ 14) ∧ sn ∧ do_ ∧ n = 0 ∧ c = 0) ∨ (op = 15 ∧ sn ∧ do_ ∧ (0 ≤ n ∧ n ≤ 7) ∧ c = 0) ∨
 (sn ∧ dn ∧ ((op = 16 ∧ (0 ≤ n ∧ n ≤ 7) ∧ c = 0) ∨ (op = 22 ∧ n = 0 ∧ c = 0) ∨ (((17 ≤ op ∧ op ≤ 21) ∨ op = 23) ∧ n = 0 ∧ c = 1 ∧ pl)))
open Classical in
noncomputable instance (op : Int) (so do_ sn dn : Prop) (n : Int) (c : Nat) (pl : Prop) : Decidable (InsLP op so do_ sn dn n c pl) := inferInstance
structure ArgB where
 f : Int
 r : Int
 k : Int
 n : Int
 s : Str
 l : List ExprV
def ArgB.ok (a : ArgB) : Prop := ArgP a.f a.r (ZeroE a.k a.n a.s a.l.length) (TermP 6 true (.mk a.k a.n a.s a.l))
def ArgB.no (a : ArgB) : Prop := a.f = 0 ∧ a.r = 0 ∧ ZeroE a.k a.n a.s a.l.length
open Classical in
noncomputable instance (a : ArgB) : Decidable a.ok := inferInstance
open Classical in
noncomputable instance (a : ArgB) : Decidable a.no := inferInstance
theorem ArgB.no_ok (a : ArgB) (h : a.no) : a.ok := by
 obtain ⟨h1, h2, h3⟩ := h
 exact .inl ⟨by omega, by omega, by omega, by omega, h3⟩
def insB (op n : Int) (c : Nat) (pso pdo psn pdn ppl : Bool) : Bool :=
 if decide (1 ≤ op ∧ op ≤ 6) = true then pso && (pdo && ((n == 0) && ((c : Int) == 0)))
 else if decide (7 ≤ op ∧ op ≤ 14) = true then psn && (pdo && ((n == 0) && ((c : Int) == 0)))
 else if (op == 15) = true then psn && (pdo && (decide (0 ≤ n ∧ n ≤ 7) && ((c : Int) == 0)))
 else if psn = false then false
 else if pdn = false then false
 else if (op == 16) = true then decide (0 ≤ n ∧ n ≤ 7) && ((c : Int) == 0)
 else if (op == 22) = true then (n == 0) && ((c : Int) == 0)
 else if (decide (17 ≤ op ∧ op ≤ 21) || (op == 23)) = true then (n == 0) && (((c : Int) == 1) && ppl)
 else false
theorem insB_eq (op n : Int) (c : Nat) (pso pdo psn pdn ppl : Bool) : insB op n c pso pdo psn pdn ppl = decide (InsLP op (pso = true) (pdo = true) (psn = true) (pdn = true) n c (ppl = true)) := by
 symm
 rw [Bool.eq_iff_iff, decide_eq_true_iff]
 unfold insB InsLP
 split
 ·rename_i h
  simp only [decide_eq_true_eq] at h
  simp only [Bool.and_eq_true, beq_iff_eq, Int.natCast_eq_zero]
  constructor
  ·rintro (h1 | h1 | h1 | h1)
   ·exact ⟨h1.2.1, h1.2.2.1, h1.2.2.2.1, h1.2.2.2.2⟩
   all_goals omega
  ·rintro ⟨h1, h2, h3, h4⟩
   exact .inl ⟨h, h1, h2, h3, h4⟩
 rename_i n1
 simp only [decide_eq_true_eq] at n1
 split
 ·rename_i h
  simp only [decide_eq_true_eq] at h
  simp only [Bool.and_eq_true, beq_iff_eq, Int.natCast_eq_zero]
  constructor
  ·rintro (h1 | h1 | h1 | h1)
   ·omega
   ·exact ⟨h1.2.1, h1.2.2.1, h1.2.2.2.1, h1.2.2.2.2⟩
   all_goals omega
  ·rintro ⟨h1, h2, h3, h4⟩
   exact .inr (.inl ⟨h, h1, h2, h3, h4⟩)
 rename_i n2
 simp only [decide_eq_true_eq] at n2
 split
 ·rename_i h
  simp only [beq_iff_eq] at h
  simp only [Bool.and_eq_true, beq_iff_eq, Int.natCast_eq_zero, decide_eq_true_eq]
  constructor
  ·rintro (h1 | h1 | h1 | h1)
   ·omega
   ·omega
   ·exact ⟨h1.2.1, h1.2.2.1, h1.2.2.2.1, h1.2.2.2.2⟩
   ·omega
  ·rintro ⟨h1, h2, h3, h4⟩
   exact .inr (.inr (.inl ⟨h, h1, h2, h3, h4⟩))
 rename_i n3
 simp only [beq_iff_eq] at n3
 have hout : ((1 ≤ op ∧ op ≤ 6) ∧ pso = true ∧ pdo = true ∧ n = 0 ∧ c = 0 ∨ (7 ≤ op ∧ op ≤ 14) ∧ psn = true ∧ pdo = true ∧ n = 0 ∧ c = 0 ∨ op = 15 ∧ psn = true ∧ pdo = true ∧ (0 ≤ n ∧ n ≤ 7) ∧ c = 0 ∨
  psn = true ∧ pdn = true ∧ (op = 16 ∧ (0 ≤ n ∧ n ≤ 7) ∧ c = 0 ∨ op = 22 ∧ n = 0 ∧ c = 0 ∨ ((17 ≤ op ∧ op ≤ 21) ∨ op = 23) ∧ n = 0 ∧ c = 1 ∧ ppl = true)) ↔
  (psn = true ∧ pdn = true ∧ (op = 16 ∧ (0 ≤ n ∧ n ≤ 7) ∧ c = 0 ∨ op = 22 ∧ n = 0 ∧ c = 0 ∨ ((17 ≤ op ∧ op ≤ 21) ∨ op = 23) ∧ n = 0 ∧ c = 1 ∧ ppl = true)) :=
  ⟨fun h => by
   rcases h with h | h | h | h
   ·exact absurd h.1 n1
   ·exact absurd h.1 n2
   ·exact absurd h.1 n3
   ·exact h, fun h => .inr (.inr (.inr h))⟩
 rw [hout]
 split
 ·rename_i h
  constructor
  ·rintro ⟨h1, _⟩
   rw [h1] at h; cases h
  ·intro h; cases h
 rename_i h5
 split
 ·rename_i h
  constructor
  ·rintro ⟨_, h1, _⟩
   rw [h1] at h; cases h
  ·intro h; cases h
 rename_i h6
 simp only [Bool.not_eq_false] at h5 h6
 split
 ·rename_i h
  simp only [beq_iff_eq] at h
  simp only [Bool.and_eq_true, beq_iff_eq, Int.natCast_eq_zero, decide_eq_true_eq]
  constructor
  ·rintro ⟨_, _, h1 | h1 | h1⟩
   ·exact h1.2
   ·omega
   ·omega
  ·intro h1
   exact ⟨h5, h6, .inl ⟨h, h1⟩⟩
 rename_i n4
 simp only [beq_iff_eq] at n4
 split
 ·rename_i h
  simp only [beq_iff_eq] at h
  simp only [Bool.and_eq_true, beq_iff_eq, Int.natCast_eq_zero, decide_eq_true_eq]
  constructor
  ·rintro ⟨_, _, h1 | h1 | h1⟩
   ·omega
   ·exact h1.2
   ·omega
  ·intro h1
   exact ⟨h5, h6, .inr (.inl ⟨h, h1⟩)⟩
 rename_i n5
 simp only [beq_iff_eq] at n5
 split
 ·rename_i h
  simp only [Bool.or_eq_true, decide_eq_true_eq, beq_iff_eq] at h
  simp only [Bool.and_eq_true, beq_iff_eq, decide_eq_true_eq]
  constructor
  ·rintro ⟨_, _, h1 | h1 | h1⟩
   ·omega
   ·omega
   ·exact ⟨h1.2.1, by omega, h1.2.2.2⟩
  ·rintro ⟨h1, h2, h3⟩
   exact ⟨h5, h6, .inr (.inr ⟨h, h1, by omega, h3⟩)⟩
 ·rename_i h
  simp only [Bool.or_eq_true, decide_eq_true_eq, beq_iff_eq] at h
  constructor
  ·rintro ⟨_, _, h1 | h1 | h1⟩
   ·exact absurd h1.1 n4
   ·exact absurd h1.1 n5
   ·exact absurd h1.1 h
  ·intro h; cases h
set_option maxHeartbeats 8000000 in
theorem l12Ins_ok (k : Int) (S : Str) (op n : Int) (a b : ArgB) (l : List ExprV) (ha : (ExprV.mk a.k a.n a.s a.l).tot ≤ 1048576) (hb : (ExprV.mk b.k b.n b.s b.l).tot ≤ 1048576) (hl : l.length ≤ 1048576 ∧ ExprV.totL l ≤ 1048576) :
 FnA Tryz.prog 104 false [lineA .bo (.mk k S op a.f a.r a.k a.n a.s a.l b.f b.r b.k b.n b.s b.l n l)] []
  (fun res os ros => res = .bool (decide (InsLP op a.ok b.ok a.no b.no n l.length (∀ e ∈ l, TermP 6 true e))) ∧ os = [] ∧ ros = []) := by
 have hN1 : FnA Tryz.prog 105 false [.agg [.int .i64 a.f, .int .i64 a.r, .int .i64 a.k, .int .i64 a.n, .str a.s, .row .bo 4 (exprsA .bo a.l)]] [] (fun res os ros => res = .bool (decide a.no) ∧ os = [] ∧ ros = []) := by
  refine (noneS_ok a.f a.r a.k a.n a.s a.l).mono ?_
  rintro r os ros ⟨rfl, h2, h3⟩
  exact ⟨congrArg AV.bool (decide_eq_decide.2 Iff.rfl), h2, h3⟩
 have hN2 : FnA Tryz.prog 105 false [.agg [.int .i64 b.f, .int .i64 b.r, .int .i64 b.k, .int .i64 b.n, .str b.s, .row .bo 4 (exprsA .bo b.l)]] [] (fun res os ros => res = .bool (decide b.no) ∧ os = [] ∧ ros = []) := by
  refine (noneS_ok b.f b.r b.k b.n b.s b.l).mono ?_
  rintro r os ros ⟨rfl, h2, h3⟩
  exact ⟨congrArg AV.bool (decide_eq_decide.2 Iff.rfl), h2, h3⟩
 have hA1 : FnA Tryz.prog 131 false [.agg [.int .i64 a.f, .int .i64 a.r, .int .i64 a.k, .int .i64 a.n, .str a.s, .row .bo 4 (exprsA .bo a.l)]] [] (fun res os ros => res = .bool (decide a.ok) ∧ os = [] ∧ ros = []) := by
  refine (argS_ok a.f a.r a.k a.n a.s a.l ha).mono ?_
  rintro r os ros ⟨rfl, h2, h3⟩
  exact ⟨congrArg AV.bool (decide_eq_decide.2 Iff.rfl), h2, h3⟩
 have hA2 : FnA Tryz.prog 131 false [.agg [.int .i64 b.f, .int .i64 b.r, .int .i64 b.k, .int .i64 b.n, .str b.s, .row .bo 4 (exprsA .bo b.l)]] [] (fun res os ros => res = .bool (decide b.ok) ∧ os = [] ∧ ros = []) := by
  refine (argS_ok b.f b.r b.k b.n b.s b.l hb).mono ?_
  rintro r os ros ⟨rfl, h2, h3⟩
  exact ⟨congrArg AV.bool (decide_eq_decide.2 Iff.rfl), h2, h3⟩
 have hPl := l12Plain_ok l hl
 have hel := exprsA_len .bo l
 obtain ⟨pso, eso⟩ : ∃ p : Bool, decide a.ok = p := ⟨_, rfl⟩
 obtain ⟨pdo, edo⟩ : ∃ p : Bool, decide b.ok = p := ⟨_, rfl⟩
 obtain ⟨psn, esn⟩ : ∃ p : Bool, decide a.no = p := ⟨_, rfl⟩
 obtain ⟨pdn, edn⟩ : ∃ p : Bool, decide b.no = p := ⟨_, rfl⟩
 obtain ⟨ppl, epl⟩ : ∃ p : Bool, decide (∀ e ∈ l, TermP 6 true e) = p := ⟨_, rfl⟩
 obtain ⟨R, hR⟩ : ∃ R, decide (InsLP op a.ok b.ok a.no b.no n l.length (∀ e ∈ l, TermP 6 true e)) = R := ⟨_, rfl⟩
 have hRb : R = insB op n l.length pso pdo psn pdn ppl := by
  rw [← hR, insB_eq]
  refine decide_eq_decide.2 ?_
  rw [← eso, ← edo, ← esn, ← edn, ← epl]
  simp only [decide_eq_true_eq]
 rw [eso] at hA1
 rw [edo] at hA2
 rw [esn] at hN1
 rw [edn] at hN2
 rw [epl] at hPl
 rw [hR]
 clear hR eso edo esn edn epl ha hb hl
 rw [lineA_mk]
 generalize exprsA .bo l = RL at *
 generalize exprsA .bo a.l = RA at *
 generalize exprsA .bo b.l = RB at *
 generalize l.length = c at *
 obtain ⟨af, ar, ak, an, as_, al⟩ := a
 obtain ⟨bf, br, bk, bn, bs, bl⟩ := b
 simp only at hN1 hN2 hA1 hA2 ⊢
 refine FnA.of Tryz.func104 rfl (by decide) Tryz.ntmps104 (by simp) ?_
 refine run_ ?_
 refine rg_ ?_
 refine call_ (ps := []) (rid := 16) rfl rfl rfl rfl rfl (hN1) ?_
 refine cr_ ?_
 refine run_ ?_
 refine rg_ ?_
 refine call_ (ps := []) (rid := 16) rfl rfl rfl rfl rfl (hN2) ?_
 refine cr_ ?_
 clear hN1 hN2
 repeat' (first | refine ⟨by omega, ?_⟩ | (refine hJ _ _ (RunsL.nil ?_); clear hJ J) | refine RunsA.cond rfl (fun h => ?_) (fun h => absurd h (by decide)) | refine RunsA.cond rfl (fun h => absurd h (by decide)) (fun h => ?_) | refine RunsA.cond rfl (fun h => ?_) (fun h => ?_) | (refine step_ ?_) | (refine RunsA.rk 20 [] tabOk fun J hJ => ?_; simp only [go_sem, ↓reduceIte, Nat.reduceAdd, Nat.reduceSub, Nat.reduceMul, Nat.reduceLT, Nat.reduceLeDiff, Nat.reduceEqDiff, Nat.reduceBEq, Int.reduceToNat]; try simp (disch := omega) only [wrap_id]) | (refine hJ _ _ (call_ (ps := []) (rid := 16) rfl rfl rfl rfl rfl (l1In_ok _ _ _) ?_); clear hJ J; rintro r os' ros ⟨rfl, rfl, rfl⟩ _; refine RunsL.go tabOk fun J hJ => ?_; simp only [go_sem, ↓reduceIte, Nat.reduceAdd, Nat.reduceSub, Nat.reduceMul, Nat.reduceLT, Nat.reduceLeDiff, Nat.reduceEqDiff, Nat.reduceBEq, Int.reduceToNat]; try simp (disch := omega) only [wrap_id]) | (refine hJ _ _ (call_ (ps := []) (rid := 16) rfl rfl rfl rfl rfl (hA1) ?_); clear hJ J; rintro r os' ros ⟨rfl, rfl, rfl⟩ _; refine RunsL.go tabOk fun J hJ => ?_; simp only [go_sem, ↓reduceIte, Nat.reduceAdd, Nat.reduceSub, Nat.reduceMul, Nat.reduceLT, Nat.reduceLeDiff, Nat.reduceEqDiff, Nat.reduceBEq, Int.reduceToNat]; try simp (disch := omega) only [wrap_id]) | (refine hJ _ _ (call_ (ps := []) (rid := 16) rfl rfl rfl rfl rfl (hA2) ?_); clear hJ J; rintro r os' ros ⟨rfl, rfl, rfl⟩ _; refine RunsL.go tabOk fun J hJ => ?_; simp only [go_sem, ↓reduceIte, Nat.reduceAdd, Nat.reduceSub, Nat.reduceMul, Nat.reduceLT, Nat.reduceLeDiff, Nat.reduceEqDiff, Nat.reduceBEq, Int.reduceToNat]; try simp (disch := omega) only [wrap_id]) | (refine hJ _ _ (call_ (ps := []) (rid := 16) rfl rfl rfl rfl rfl (hPl) ?_); clear hJ J; rintro r os' ros ⟨rfl, rfl, rfl⟩ _; refine RunsL.go tabOk fun J hJ => ?_; simp only [go_sem, ↓reduceIte, Nat.reduceAdd, Nat.reduceSub, Nat.reduceMul, Nat.reduceLT, Nat.reduceLeDiff, Nat.reduceEqDiff, Nat.reduceBEq, Int.reduceToNat]; try simp (disch := omega) only [wrap_id]) | split)
 all_goals (
  clear hA1 hA2 hPl
  refine RetA.mk tabOk 0 rfl rfl rfl (by omega) rfl rfl rfl ?_
  refine ⟨?_, rfl, rfl⟩
  rw [hRb]
  simp only [res1, AV.bool.injEq, insB]
  clear hRb
  (try generalize decide (1 ≤ op ∧ op ≤ 6) = i1 at *)
  (try generalize decide (7 ≤ op ∧ op ≤ 14) = i2 at *)
  (try generalize (op == 15) = o15 at *)
  (try generalize (op == 16) = o16 at *)
  (try generalize (op == 22) = o22 at *)
  (try generalize (op == 23) = o23 at *)
  (try generalize (n == 0) = n0 at *)
  simp_all
  all_goals (first | done | (intros; omega) | (intros; exact .inl ⟨by omega, by omega⟩)))
end Go.Proofs.YtiilnlihimdnlaaGreatDoorFw
namespace Go.Proofs.YtiilnlihimdnlaaGreatDoorFw
open Go Go.RowKit
def lineB (k : Int) (s : Str) (op n : Int) (c : Nat) (sn dn nm pl nl ib : Bool) : Bool :=
 if (k == 3) = true then (s == []) && ib
 else if (op != 0) = true then false
 else if sn = false then false
 else if dn = false then false
 else if (k == 0) = true then (s == []) && ((n == 0) && ((c : Int) == 0))
 else if (k == 8) = true then (s == []) && ((n == 0) && ((c : Int) == 0))
 else if (k == 1) = true then nm && ((n == 0) && ((c : Int) == 0))
 else if (k == 2) = true then nm && ((n == 0) && (((c : Int) == 1) && pl))
 else if (k == 4) = true then (s == []) && ((n == 0) && (decide (1 ≤ (c : Int) ∧ (c : Int) ≤ 6) && pl))
 else if (k == 5) = true then (s == []) && ((n == 0) && (((c : Int) == 1) && pl))
 else if (k == 6) = true then nm && (decide (0 ≤ n ∧ n ≤ 1) && ((c : Int) == 0))
 else if (k == 7) = true then (s == []) && ((n == 0) && nl)
 else false
noncomputable def LineV.insP : LineV → Bool
 | .mk k s op sf sr sk sn ss sl df dr dk dn ds dl n l => decide (InsLP op (ArgB.mk sf sr sk sn ss sl).ok (ArgB.mk df dr dk dn ds dl).ok (ArgB.mk sf sr sk sn ss sl).no (ArgB.mk df dr dk dn ds dl).no n l.length (∀ e ∈ l, TermP 6 true e))
noncomputable def LineV.okB : LineV → Bool
 | .mk k s op sf sr sk sn ss sl df dr dk dn ds dl n l => lineB k s op n l.length (decide (ArgB.mk sf sr sk sn ss sl).no) (decide (ArgB.mk df dr dk dn ds dl).no) (decide (NameP s)) (decide (∀ e ∈ l, TermP 6 true e))
  (decide ((∀ e ∈ l, TermP 6 true e ∧ e.1 = 2) ∧ 1 ≤ l.length ∧ l.length ≤ 6)) (LineV.insP (.mk k s op sf sr sk sn ss sl df dr dk dn ds dl n l))
set_option maxHeartbeats 8000000 in
theorem lineOkS_ok (x : LineV) (hx : x.tot ≤ 1048576) : FnA Tryz.prog 63 false [lineA .bo x] [] (fun res os ros => res = .bool x.okB ∧ os = [] ∧ ros = []) := by
 obtain ⟨k, s, op, sf, sr, sk, sn, ss, sl, df, dr, dk, dn, ds, dl, n, l⟩ := x
 simp only [LineV.tot] at hx
 have hN1 : FnA Tryz.prog 105 false [.agg [.int .i64 sf, .int .i64 sr, .int .i64 sk, .int .i64 sn, .str ss, .row .bo 4 (exprsA .bo sl)]] [] (fun res os ros => res = .bool (decide (ArgB.mk sf sr sk sn ss sl).no) ∧ os = [] ∧ ros = []) := by
  refine (noneS_ok sf sr sk sn ss sl).mono ?_
  rintro r os ros ⟨rfl, h2, h3⟩
  exact ⟨congrArg AV.bool (decide_eq_decide.2 Iff.rfl), h2, h3⟩
 have hN2 : FnA Tryz.prog 105 false [.agg [.int .i64 df, .int .i64 dr, .int .i64 dk, .int .i64 dn, .str ds, .row .bo 4 (exprsA .bo dl)]] [] (fun res os ros => res = .bool (decide (ArgB.mk df dr dk dn ds dl).no) ∧ os = [] ∧ ros = []) := by
  refine (noneS_ok df dr dk dn ds dl).mono ?_
  rintro r os ros ⟨rfl, h2, h3⟩
  exact ⟨congrArg AV.bool (decide_eq_decide.2 Iff.rfl), h2, h3⟩
 have hI := l12Ins_ok k s op n ⟨sf, sr, sk, sn, ss, sl⟩ ⟨df, dr, dk, dn, ds, dl⟩ l (by simp only; omega) (by simp only; omega) (by omega)
 have hM := l9Name_ok s (by omega)
 have hPl := l12Plain_ok l (by omega)
 have hNl := l12Names_ok l (by omega)
 have hel := exprsA_len .bo l
 rw [lineA_mk] at hI ⊢
 simp only [LineV.okB, LineV.insP]
 simp only at hI
 generalize decide (InsLP op (ArgB.mk sf sr sk sn ss sl).ok (ArgB.mk df dr dk dn ds dl).ok (ArgB.mk sf sr sk sn ss sl).no (ArgB.mk df dr dk dn ds dl).no n l.length (∀ e ∈ l, TermP 6 true e)) = ib at *
 generalize decide (ArgB.mk sf sr sk sn ss sl).no = psn at *
 generalize decide (ArgB.mk df dr dk dn ds dl).no = pdn at *
 generalize decide (NameP s) = nm at *
 generalize decide (∀ e ∈ l, TermP 6 true e) = ppl at *
 generalize decide ((∀ e ∈ l, TermP 6 true e ∧ e.1 = 2) ∧ 1 ≤ l.length ∧ l.length ≤ 6) = nl at *
 generalize exprsA .bo l = RL at *
 generalize exprsA .bo sl = RA at *
 generalize exprsA .bo dl = RB at *
 generalize l.length = c at *
 obtain ⟨R, hR⟩ : ∃ R, lineB k s op n c psn pdn nm ppl nl ib = R := ⟨_, rfl⟩
 rw [hR]
 refine FnA.of Tryz.func63 rfl (by decide) Tryz.ntmps63 (by simp) ?_
 repeat' (first | refine ⟨by omega, ?_⟩ | (refine hJ _ _ (RunsL.nil ?_); clear hJ J) | refine RunsA.cond rfl (fun h => ?_) (fun h => absurd h (by decide)) | refine RunsA.cond rfl (fun h => absurd h (by decide)) (fun h => ?_) | refine RunsA.cond rfl (fun h => ?_) (fun h => ?_) | (refine step_ ?_) | (refine RunsA.rk 4 [33, 34] tabOk fun J hJ => ?_; simp only [go_sem, ↓reduceIte, Nat.reduceAdd, Nat.reduceSub, Nat.reduceMul, Nat.reduceLT, Nat.reduceLeDiff, Nat.reduceEqDiff, Nat.reduceBEq, Int.reduceToNat]; try simp (disch := omega) only [wrap_id]) | (refine hJ _ _ (call_ (ps := []) (rid := 16) rfl rfl rfl rfl rfl (hI) ?_); clear hJ J; rintro r os' ros ⟨rfl, rfl, rfl⟩ _; refine RunsL.go tabOk fun J hJ => ?_; simp only [go_sem, ↓reduceIte, Nat.reduceAdd, Nat.reduceSub, Nat.reduceMul, Nat.reduceLT, Nat.reduceLeDiff, Nat.reduceEqDiff, Nat.reduceBEq, Int.reduceToNat]; try simp (disch := omega) only [wrap_id]) | (refine hJ _ _ (call_ (ps := []) (rid := 16) rfl rfl rfl rfl rfl (hN1) ?_); clear hJ J; rintro r os' ros ⟨rfl, rfl, rfl⟩ _; refine RunsL.go tabOk fun J hJ => ?_; simp only [go_sem, ↓reduceIte, Nat.reduceAdd, Nat.reduceSub, Nat.reduceMul, Nat.reduceLT, Nat.reduceLeDiff, Nat.reduceEqDiff, Nat.reduceBEq, Int.reduceToNat]; try simp (disch := omega) only [wrap_id]) | (refine hJ _ _ (call_ (ps := []) (rid := 16) rfl rfl rfl rfl rfl (hN2) ?_); clear hJ J; rintro r os' ros ⟨rfl, rfl, rfl⟩ _; refine RunsL.go tabOk fun J hJ => ?_; simp only [go_sem, ↓reduceIte, Nat.reduceAdd, Nat.reduceSub, Nat.reduceMul, Nat.reduceLT, Nat.reduceLeDiff, Nat.reduceEqDiff, Nat.reduceBEq, Int.reduceToNat]; try simp (disch := omega) only [wrap_id]) | (refine hJ _ _ (call_ (ps := []) (rid := 16) rfl rfl rfl rfl rfl (hM) ?_); clear hJ J; rintro r os' ros ⟨rfl, rfl, rfl⟩ _; refine RunsL.go tabOk fun J hJ => ?_; simp only [go_sem, ↓reduceIte, Nat.reduceAdd, Nat.reduceSub, Nat.reduceMul, Nat.reduceLT, Nat.reduceLeDiff, Nat.reduceEqDiff, Nat.reduceBEq, Int.reduceToNat]; try simp (disch := omega) only [wrap_id]) | (refine hJ _ _ (call_ (ps := []) (rid := 16) rfl rfl rfl rfl rfl (hPl) ?_); clear hJ J; rintro r os' ros ⟨rfl, rfl, rfl⟩ _; refine RunsL.go tabOk fun J hJ => ?_; simp only [go_sem, ↓reduceIte, Nat.reduceAdd, Nat.reduceSub, Nat.reduceMul, Nat.reduceLT, Nat.reduceLeDiff, Nat.reduceEqDiff, Nat.reduceBEq, Int.reduceToNat]; try simp (disch := omega) only [wrap_id]) | (refine hJ _ _ (call_ (ps := []) (rid := 16) rfl rfl rfl rfl rfl (hNl) ?_); clear hJ J; rintro r os' ros ⟨rfl, rfl, rfl⟩ _; refine RunsL.go tabOk fun J hJ => ?_; simp only [go_sem, ↓reduceIte, Nat.reduceAdd, Nat.reduceSub, Nat.reduceMul, Nat.reduceLT, Nat.reduceLeDiff, Nat.reduceEqDiff, Nat.reduceBEq, Int.reduceToNat]; try simp (disch := omega) only [wrap_id]) | (refine hJ _ _ (call_ (ps := []) (rid := 16) rfl rfl rfl rfl rfl (l1In_ok _ _ _) ?_); clear hJ J; rintro r os' ros ⟨rfl, rfl, rfl⟩ _; refine RunsL.go tabOk fun J hJ => ?_; simp only [go_sem, ↓reduceIte, Nat.reduceAdd, Nat.reduceSub, Nat.reduceMul, Nat.reduceLT, Nat.reduceLeDiff, Nat.reduceEqDiff, Nat.reduceBEq, Int.reduceToNat]; try simp (disch := omega) only [wrap_id]) | split)
 all_goals (
  clear hI hN1 hN2 hM hPl hNl
  refine RetA.mk tabOk 0 rfl rfl rfl (by omega) rfl rfl rfl ?_
  refine ⟨?_, rfl, rfl⟩
  rw [← hR]
  clear hR
  simp only [res1, AV.bool.injEq, lineB]
  simp_all
  all_goals (first | done | (intros; omega)))
end Go.Proofs.YtiilnlihimdnlaaGreatDoorFw
