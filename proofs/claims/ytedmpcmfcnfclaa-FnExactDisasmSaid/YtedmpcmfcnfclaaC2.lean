/- Which instructions are right. -/
import Derived.Test.YtedmpcmfcnfclaaC1
import Derived.Test.YtedmpcmfcnfclaaFwD
namespace Go.Proofs.YtedmpcmfcnfclaaFw
open Go Go.RowKit
set_option linter.unusedVariables false
set_option linter.unusedSimpArgs false
set_option maxRecDepth 4000
set_option pp.deepTerms.threshold 6
set_option pp.deepTerms false

def ZeroP (m r x : Int) : Prop := m = 0 ∧ r = 0 ∧ x = 0
instance (m r x : Int) : Decidable (ZeroP m r x) := by unfold ZeroP; infer_instance

theorem zero3 (m r x : Int) : decide (ZeroP m r x) = ([m, r, x] == [0, 0, 0]) := by
  rw [Bool.eq_iff_iff, decide_eq_true_iff]; simp [ZeroP]

theorem opdEqB : eqIntsB Try.prog 75 = true := by kernel_rfl
theorem opdFields : ∃ fs, Try.prog.underlying 75 = some (.struct fs) ∧ fs.size = 3 := ⟨_, Try.underlying75, rfl⟩

theorem l3Zero_ok (m r x : Int) :
  FnA Try.prog 116 false [.agg [.int .i64 m, .int .i64 r, .int .i64 x]] [] (fun res os ros => res = .bool (decide (ZeroP m r x)) ∧ os = [] ∧ ros = []) := by
  refine FnA.of Try.func116 rfl (by decide) Try.ntmps116 (by simp) ?_
  repeat (first | refine RunsA.sq ?_ | refine RunsA.bk ?_ | refine RunsA.sk ?_ | refine RunsA.ex ?_ | refine RunsA.rt ?_ | refine At.n ?_ | refine At.x ?_ | refine At.r ?_ | refine At.bn ?_ | refine At.br ?_ | refine At.bx ?_ | refine At.by_ rfl ?_ | refine At.kx ?_ | refine At.kr ?_ | refine At.kn ?_ | refine At.er ?_ | refine At.en ?_ | (refine RunsA.rq tabOk fun J hJ => ?_; simp only [go_sem, ↓reduceIte, Nat.reduceAdd, Nat.reduceSub, Nat.reduceMul, Nat.reduceLT, Nat.reduceLeDiff, Nat.reduceEqDiff, Nat.reduceBEq, Int.reduceToNat]; (try simp (disch := omega) only [wrap_id]); (repeat refine ⟨by omega, ?_⟩); refine hJ _ _ (RunsL.nil ?_); clear hJ J) | (refine RunsA.dq mixed tabOk (by kernel_rfl) fun J hJ => ?_; simp only [go_sem, ↓reduceIte, Nat.reduceAdd, Nat.reduceSub, Nat.reduceMul, Nat.reduceLT, Nat.reduceLeDiff, Nat.reduceEqDiff, Nat.reduceBEq, Int.reduceToNat]; (try simp (disch := omega) only [wrap_id]); (repeat refine ⟨by omega, ?_⟩); refine hJ _ _ (QRuns.nil ?_); clear hJ J))
  refine RunsA.rq tabOk fun J hJ => ?_
  simp only [go_sem, ↓reduceIte, Nat.reduceAdd, Nat.reduceSub, Nat.reduceMul, Nat.reduceLT, Nat.reduceLeDiff, Nat.reduceEqDiff, Nat.reduceBEq, Int.reduceToNat]
  try simp (disch := omega) only [wrap_id]
  refine hJ _ _ (RunsL.eqInts [m, r, x] [0, 0, 0] rfl rfl opdEqB opdFields (by simp only [go_sem, ↓reduceIte, Nat.reduceAdd, Nat.reduceSub, Nat.reduceMul, Nat.reduceLT, Nat.reduceLeDiff, Nat.reduceEqDiff, Nat.reduceBEq, Int.reduceToNat]; first | done | rfl) (by simp only [go_sem, ↓reduceIte, Nat.reduceAdd, Nat.reduceSub, Nat.reduceMul, Nat.reduceLT, Nat.reduceLeDiff, Nat.reduceEqDiff, Nat.reduceBEq, Int.reduceToNat]; first | done | rfl) rfl rfl (decide (ZeroP m r x)) (.inl ⟨rfl, zero3 m r x⟩) ?_); clear hJ J
  refine RunsL.go tabOk fun J hJ => ?_; simp only [go_sem, ↓reduceIte, Nat.reduceAdd, Nat.reduceSub, Nat.reduceMul, Nat.reduceLT, Nat.reduceLeDiff, Nat.reduceEqDiff, Nat.reduceBEq, Int.reduceToNat]; try simp (disch := omega) only [wrap_id]
  refine hJ _ _ (RunsL.nil ?_); clear hJ J
  repeat (first | refine RunsA.sq ?_ | refine RunsA.bk ?_ | refine RunsA.sk ?_ | refine RunsA.ex ?_ | refine RunsA.rt ?_ | refine At.n ?_ | refine At.x ?_ | refine At.r ?_ | refine At.bn ?_ | refine At.br ?_ | refine At.bx ?_ | refine At.by_ rfl ?_ | refine At.kx ?_ | refine At.kr ?_ | refine At.kn ?_ | refine At.er ?_ | refine At.en ?_ | (refine RunsA.rq tabOk fun J hJ => ?_; simp only [go_sem, ↓reduceIte, Nat.reduceAdd, Nat.reduceSub, Nat.reduceMul, Nat.reduceLT, Nat.reduceLeDiff, Nat.reduceEqDiff, Nat.reduceBEq, Int.reduceToNat]; (try simp (disch := omega) only [wrap_id]); (repeat refine ⟨by omega, ?_⟩); refine hJ _ _ (RunsL.nil ?_); clear hJ J) | (refine RunsA.dq mixed tabOk (by kernel_rfl) fun J hJ => ?_; simp only [go_sem, ↓reduceIte, Nat.reduceAdd, Nat.reduceSub, Nat.reduceMul, Nat.reduceLT, Nat.reduceLeDiff, Nat.reduceEqDiff, Nat.reduceBEq, Int.reduceToNat]; (try simp (disch := omega) only [wrap_id]); (repeat refine ⟨by omega, ?_⟩); refine hJ _ _ (QRuns.nil ?_); clear hJ J))
  refine RetA.mk tabOk 0 rfl rfl rfl (by omega) rfl rfl rfl ?_
  refine ⟨?_, rfl, rfl⟩
  simp only [res1, AV.bool.injEq]
  (try simp only [beq_iff_eq, beq_eq_false_iff_ne, ne_eq, decide_eq_true_eq, decide_eq_false_iff_not, Bool.not_eq_true, Bool.not_eq_false, Bool.not_eq_true', Bool.not_eq_false', not_true_eq_false, not_false_eq_true] at *)
  all_goals (first | apply decide_eq_decide.mpr | (symm; rw [decide_eq_true_iff]) | (symm; rw [decide_eq_false_iff_not]) | (rw [Bool.eq_iff_iff]; simp only [decide_eq_true_eq, beq_iff_eq, Bool.not_eq_true', decide_eq_false_iff_not]))
  all_goals (try simp only [true_and, and_true] at *)
  all_goals (try omega)

theorem zero_opd (m r x : Int) : ZeroP m r x → OpdP m r x := by unfold ZeroP OpdP; omega
theorem asNum (p : Prop) [Decidable p] : ∃ a : Int, p ↔ a = 1 := ⟨if p then 1 else 0, by split <;> simp_all⟩

def InsP (op sm sr sx dm dr dx n : Int) : Prop :=
  (1 ≤ op ∧ op ≤ 6 ∧ OpdP sm sr sx ∧ OpdP dm dr dx ∧ n = 0) ∨ (7 ≤ op ∧ op ≤ 14 ∧ ZeroP sm sr sx ∧ OpdP dm dr dx ∧ n = 0) ∨ (op = 15 ∧ ZeroP sm sr sx ∧ OpdP dm dr dx ∧ 0 ≤ n ∧ n ≤ 7) ∨
  (ZeroP sm sr sx ∧ ZeroP dm dr dx ∧ ((op = 16 ∧ 0 ≤ n ∧ n ≤ 7) ∨ (17 ≤ op ∧ op ≤ 21 ∧ -128 ≤ n ∧ n ≤ 127) ∨ (op = 22 ∧ n = 0) ∨ (op = 23 ∧ 0 ≤ n ∧ n ≤ 255)))
instance (op sm sr sx dm dr dx n : Int) : Decidable (InsP op sm sr sx dm dr dx n) := by unfold InsP; infer_instance

abbrev insA (op sm sr sx dm dr dx n : Int) : AV := .agg [.int .i64 op, .int .i64 sm, .int .i64 sr, .int .i64 sx, .int .i64 dm, .int .i64 dr, .int .i64 dx, .int .i64 n]

set_option maxHeartbeats 4000000 in
theorem insOks_ok (op sm sr sx dm dr dx n : Int) :
  FnA Try.prog 82 false [insA op sm sr sx dm dr dx n] [] (fun res os ros => res = .bool (decide (InsP op sm sr sx dm dr dx n)) ∧ os = [] ∧ ros = []) := by
  refine FnA.of Try.func82 rfl (by decide) Try.ntmps82 (by simp) ?_
  repeat (first | refine RunsA.sq ?_ | refine RunsA.bk ?_ | refine RunsA.sk ?_ | refine RunsA.ex ?_ | refine RunsA.rt ?_ | refine At.n ?_ | refine At.x ?_ | refine At.r ?_ | refine At.bn ?_ | refine At.br ?_ | refine At.bx ?_ | refine At.by_ rfl ?_ | refine At.kx ?_ | refine At.kr ?_ | refine At.kn ?_ | refine At.er ?_ | refine At.en ?_ | (refine RunsA.rq tabOk fun J hJ => ?_; simp only [go_sem, ↓reduceIte, Nat.reduceAdd, Nat.reduceSub, Nat.reduceMul, Nat.reduceLT, Nat.reduceLeDiff, Nat.reduceEqDiff, Nat.reduceBEq, Int.reduceToNat]; (try simp (disch := omega) only [wrap_id]); (repeat refine ⟨by omega, ?_⟩); refine hJ _ _ (RunsL.nil ?_); clear hJ J) | (refine RunsA.dq mixed tabOk (by kernel_rfl) fun J hJ => ?_; simp only [go_sem, ↓reduceIte, Nat.reduceAdd, Nat.reduceSub, Nat.reduceMul, Nat.reduceLT, Nat.reduceLeDiff, Nat.reduceEqDiff, Nat.reduceBEq, Int.reduceToNat]; (try simp (disch := omega) only [wrap_id]); (repeat refine ⟨by omega, ?_⟩); refine hJ _ _ (QRuns.nil ?_); clear hJ J))
  repeat' (first | refine ⟨by omega, ?_⟩ | (refine hJ _ _ (RunsL.nil ?_); clear hJ J) | refine RunsA.cond rfl (fun h => ?_) (fun h => absurd h (by decide)) | refine RunsA.cond rfl (fun h => absurd h (by decide)) (fun h => ?_) | refine RunsA.cond rfl (fun h => ?_) (fun h => ?_) | (first | refine RunsA.sq ?_ | refine RunsA.bk ?_ | refine RunsA.sk ?_ | refine RunsA.ex ?_ | refine RunsA.rt ?_ | refine At.n ?_ | refine At.x ?_ | refine At.r ?_ | refine At.bn ?_ | refine At.br ?_ | refine At.bx ?_ | refine At.by_ rfl ?_ | refine At.kx ?_ | refine At.kr ?_ | refine At.kn ?_ | refine At.er ?_ | refine At.en ?_) | (refine RunsA.rk 3 [] tabOk fun J hJ => ?_; simp only [go_sem, ↓reduceIte, Nat.reduceAdd, Nat.reduceSub, Nat.reduceMul, Nat.reduceLT, Nat.reduceLeDiff, Nat.reduceEqDiff, Nat.reduceBEq, Int.reduceToNat]; try simp (disch := omega) only [wrap_id]) | (refine hJ _ _ (RunsL.call (ps := []) (rid := 16) rfl rfl rfl rfl rfl (by simp only [go_sem, Nat.reduceEqDiff]; first | done | rfl) (l1In_ok _ _ _) rfl (by decide) ⟨by decide, by decide, rfl⟩ (by first | exact .inl rfl | exact .inr (.inl rfl) | exact .inr (.inr rfl)) ?_); clear hJ J; rintro r os' ros ⟨rfl, rfl, rfl⟩ _; refine RunsL.go tabOk fun J hJ => ?_; simp only [go_sem, ↓reduceIte, Nat.reduceAdd, Nat.reduceSub, Nat.reduceMul, Nat.reduceLT, Nat.reduceLeDiff, Nat.reduceEqDiff, Nat.reduceBEq, Int.reduceToNat]; try simp (disch := omega) only [wrap_id]) | (refine hJ _ _ (RunsL.call (ps := []) (rid := 16) rfl rfl rfl rfl rfl (by simp only [go_sem, Nat.reduceEqDiff]; first | done | rfl) (opdOks_ok _ _ _) rfl (by decide) ⟨by decide, by decide, rfl⟩ (by first | exact .inl rfl | exact .inr (.inl rfl) | exact .inr (.inr rfl)) ?_); clear hJ J; rintro r os' ros ⟨rfl, rfl, rfl⟩ _; refine RunsL.go tabOk fun J hJ => ?_; simp only [go_sem, ↓reduceIte, Nat.reduceAdd, Nat.reduceSub, Nat.reduceMul, Nat.reduceLT, Nat.reduceLeDiff, Nat.reduceEqDiff, Nat.reduceBEq, Int.reduceToNat]; try simp (disch := omega) only [wrap_id]) | (refine hJ _ _ (RunsL.call (ps := []) (rid := 16) rfl rfl rfl rfl rfl (by simp only [go_sem, Nat.reduceEqDiff]; first | done | rfl) (l3Zero_ok _ _ _) rfl (by decide) ⟨by decide, by decide, rfl⟩ (by first | exact .inl rfl | exact .inr (.inl rfl) | exact .inr (.inr rfl)) ?_); clear hJ J; rintro r os' ros ⟨rfl, rfl, rfl⟩ _; refine RunsL.go tabOk fun J hJ => ?_; simp only [go_sem, ↓reduceIte, Nat.reduceAdd, Nat.reduceSub, Nat.reduceMul, Nat.reduceLT, Nat.reduceLeDiff, Nat.reduceEqDiff, Nat.reduceBEq, Int.reduceToNat]; try simp (disch := omega) only [wrap_id]) | split)
  all_goals (
    refine RetA.mk tabOk 0 rfl rfl rfl (by omega) rfl rfl rfl ?_
    refine ⟨?_, rfl, rfl⟩
    simp only [res1, AV.bool.injEq]
    (try simp only [beq_iff_eq, beq_eq_false_iff_ne, ne_eq, decide_eq_true_eq, decide_eq_false_iff_not, Bool.not_eq_true, Bool.not_eq_false, Bool.not_eq_true', Bool.not_eq_false', not_true_eq_false, not_false_eq_true] at *)
    all_goals (first | apply decide_eq_decide.mpr | (symm; rw [decide_eq_true_iff]) | (symm; rw [decide_eq_false_iff_not]) | (rw [Bool.eq_iff_iff]; simp only [decide_eq_true_eq, beq_iff_eq, Bool.not_eq_true', decide_eq_false_iff_not]))
    have q1 := zero_opd sm sr sx
    have q2 := zero_opd dm dr dx
    obtain ⟨a1, k1⟩ := asNum (OpdP sm sr sx)
    obtain ⟨a2, k2⟩ := asNum (OpdP dm dr dx)
    obtain ⟨a3, k3⟩ := asNum (ZeroP sm sr sx)
    obtain ⟨a4, k4⟩ := asNum (ZeroP dm dr dx)
    simp only [InsP, k1, k2, k3, k4] at *
    omega)

set_option maxHeartbeats 4000000 in
theorem insOki_ok (op sm sr sx dm dr dx n : Int) :
  FnA Try.prog 94 false [insA op sm sr sx dm dr dx n] [] (fun res os ros => res = .bool (decide (InsP op sm sr sx dm dr dx n)) ∧ os = [] ∧ ros = []) := by
  refine FnA.of Try.func94 rfl (by decide) Try.ntmps94 (by simp) ?_
  repeat' (first | refine ⟨by omega, ?_⟩ | (refine hJ _ _ (RunsL.nil ?_); clear hJ J) | refine RunsA.cond rfl (fun h => ?_) (fun h => absurd h (by decide)) | refine RunsA.cond rfl (fun h => absurd h (by decide)) (fun h => ?_) | refine RunsA.cond rfl (fun h => ?_) (fun h => ?_) | (first | refine RunsA.sq ?_ | refine RunsA.bk ?_ | refine RunsA.sk ?_ | refine RunsA.ex ?_ | refine RunsA.rt ?_ | refine At.n ?_ | refine At.x ?_ | refine At.r ?_ | refine At.bn ?_ | refine At.br ?_ | refine At.bx ?_ | refine At.by_ rfl ?_ | refine At.kx ?_ | refine At.kr ?_ | refine At.kn ?_ | refine At.er ?_ | refine At.en ?_) | (refine RunsA.rk 3 [] tabOk fun J hJ => ?_; simp only [go_sem, ↓reduceIte, Nat.reduceAdd, Nat.reduceSub, Nat.reduceMul, Nat.reduceLT, Nat.reduceLeDiff, Nat.reduceEqDiff, Nat.reduceBEq, Int.reduceToNat]; try simp (disch := omega) only [wrap_id]) | (refine hJ _ _ (RunsL.call (ps := []) (rid := 16) rfl rfl rfl rfl rfl (by simp only [go_sem, Nat.reduceEqDiff]; first | done | rfl) (within_ok _ _ _) rfl (by decide) ⟨by decide, by decide, rfl⟩ (by first | exact .inl rfl | exact .inr (.inl rfl) | exact .inr (.inr rfl)) ?_); clear hJ J; rintro r os' ros ⟨rfl, rfl, rfl⟩ _; refine RunsL.go tabOk fun J hJ => ?_; simp only [go_sem, ↓reduceIte, Nat.reduceAdd, Nat.reduceSub, Nat.reduceMul, Nat.reduceLT, Nat.reduceLeDiff, Nat.reduceEqDiff, Nat.reduceBEq, Int.reduceToNat]; try simp (disch := omega) only [wrap_id]) | (refine hJ _ _ (RunsL.call (ps := []) (rid := 16) rfl rfl rfl rfl rfl (by simp only [go_sem, Nat.reduceEqDiff]; first | done | rfl) (opdOki_ok _ _ _) rfl (by decide) ⟨by decide, by decide, rfl⟩ (by first | exact .inl rfl | exact .inr (.inl rfl) | exact .inr (.inr rfl)) ?_); clear hJ J; rintro r os' ros ⟨rfl, rfl, rfl⟩ _; refine RunsL.go tabOk fun J hJ => ?_; simp only [go_sem, ↓reduceIte, Nat.reduceAdd, Nat.reduceSub, Nat.reduceMul, Nat.reduceLT, Nat.reduceLeDiff, Nat.reduceEqDiff, Nat.reduceBEq, Int.reduceToNat]; try simp (disch := omega) only [wrap_id]) | (refine hJ _ _ (RunsL.call (ps := []) (rid := 16) rfl rfl rfl rfl rfl (by simp only [go_sem, Nat.reduceEqDiff]; first | done | rfl) (hasSrc_ok _) rfl (by decide) ⟨by decide, by decide, rfl⟩ (by first | exact .inl rfl | exact .inr (.inl rfl) | exact .inr (.inr rfl)) ?_); clear hJ J; rintro r os' ros ⟨rfl, rfl, rfl⟩ _; refine RunsL.go tabOk fun J hJ => ?_; simp only [go_sem, ↓reduceIte, Nat.reduceAdd, Nat.reduceSub, Nat.reduceMul, Nat.reduceLT, Nat.reduceLeDiff, Nat.reduceEqDiff, Nat.reduceBEq, Int.reduceToNat]; try simp (disch := omega) only [wrap_id]) | (refine hJ _ _ (RunsL.call (ps := []) (rid := 16) rfl rfl rfl rfl rfl (by simp only [go_sem, Nat.reduceEqDiff]; first | done | rfl) (hasDst_ok _) rfl (by decide) ⟨by decide, by decide, rfl⟩ (by first | exact .inl rfl | exact .inr (.inl rfl) | exact .inr (.inr rfl)) ?_); clear hJ J; rintro r os' ros ⟨rfl, rfl, rfl⟩ _; refine RunsL.go tabOk fun J hJ => ?_; simp only [go_sem, ↓reduceIte, Nat.reduceAdd, Nat.reduceSub, Nat.reduceMul, Nat.reduceLT, Nat.reduceLeDiff, Nat.reduceEqDiff, Nat.reduceBEq, Int.reduceToNat]; try simp (disch := omega) only [wrap_id]) | (refine hJ _ _ (RunsL.call (ps := []) (rid := 16) rfl rfl rfl rfl rfl (by simp only [go_sem, Nat.reduceEqDiff]; first | done | rfl) (isReg_ok _) rfl (by decide) ⟨by decide, by decide, rfl⟩ (by first | exact .inl rfl | exact .inr (.inl rfl) | exact .inr (.inr rfl)) ?_); clear hJ J; rintro r os' ros ⟨rfl, rfl, rfl⟩ _; refine RunsL.go tabOk fun J hJ => ?_; simp only [go_sem, ↓reduceIte, Nat.reduceAdd, Nat.reduceSub, Nat.reduceMul, Nat.reduceLT, Nat.reduceLeDiff, Nat.reduceEqDiff, Nat.reduceBEq, Int.reduceToNat]; try simp (disch := omega) only [wrap_id]) | (refine hJ _ _ (RunsL.call (ps := []) (rid := 16) rfl rfl rfl rfl rfl (by simp only [go_sem, Nat.reduceEqDiff]; first | done | rfl) (isBranch_ok _) rfl (by decide) ⟨by decide, by decide, rfl⟩ (by first | exact .inl rfl | exact .inr (.inl rfl) | exact .inr (.inr rfl)) ?_); clear hJ J; rintro r os' ros ⟨rfl, rfl, rfl⟩ _; refine RunsL.go tabOk fun J hJ => ?_; simp only [go_sem, ↓reduceIte, Nat.reduceAdd, Nat.reduceSub, Nat.reduceMul, Nat.reduceLT, Nat.reduceLeDiff, Nat.reduceEqDiff, Nat.reduceBEq, Int.reduceToNat]; try simp (disch := omega) only [wrap_id]) | (refine hJ _ _ (RunsL.eqInts [sm, sr, sx] [0, 0, 0] rfl rfl opdEqB opdFields (by simp only [go_sem, ↓reduceIte, Nat.reduceAdd, Nat.reduceSub, Nat.reduceMul, Nat.reduceLT, Nat.reduceLeDiff, Nat.reduceEqDiff, Nat.reduceBEq, Int.reduceToNat]; first | done | rfl) (by simp only [go_sem, ↓reduceIte, Nat.reduceAdd, Nat.reduceSub, Nat.reduceMul, Nat.reduceLT, Nat.reduceLeDiff, Nat.reduceEqDiff, Nat.reduceBEq, Int.reduceToNat]; first | done | rfl) rfl rfl (!decide (ZeroP sm sr sx)) (.inr ⟨rfl, congrArg _ (zero3 sm sr sx)⟩) ?_); clear hJ J; refine RunsL.go tabOk fun J hJ => ?_; simp only [go_sem, ↓reduceIte, Nat.reduceAdd, Nat.reduceSub, Nat.reduceMul, Nat.reduceLT, Nat.reduceLeDiff, Nat.reduceEqDiff, Nat.reduceBEq, Int.reduceToNat]; try simp (disch := omega) only [wrap_id]) | (refine hJ _ _ (RunsL.eqInts [dm, dr, dx] [0, 0, 0] rfl rfl opdEqB opdFields (by simp only [go_sem, ↓reduceIte, Nat.reduceAdd, Nat.reduceSub, Nat.reduceMul, Nat.reduceLT, Nat.reduceLeDiff, Nat.reduceEqDiff, Nat.reduceBEq, Int.reduceToNat]; first | done | rfl) (by simp only [go_sem, ↓reduceIte, Nat.reduceAdd, Nat.reduceSub, Nat.reduceMul, Nat.reduceLT, Nat.reduceLeDiff, Nat.reduceEqDiff, Nat.reduceBEq, Int.reduceToNat]; first | done | rfl) rfl rfl (!decide (ZeroP dm dr dx)) (.inr ⟨rfl, congrArg _ (zero3 dm dr dx)⟩) ?_); clear hJ J; refine RunsL.go tabOk fun J hJ => ?_; simp only [go_sem, ↓reduceIte, Nat.reduceAdd, Nat.reduceSub, Nat.reduceMul, Nat.reduceLT, Nat.reduceLeDiff, Nat.reduceEqDiff, Nat.reduceBEq, Int.reduceToNat]; try simp (disch := omega) only [wrap_id]) | split)
  all_goals (
    refine RetA.mk tabOk 0 rfl rfl rfl (by omega) rfl rfl rfl ?_
    refine ⟨?_, rfl, rfl⟩
    simp only [res1, AV.bool.injEq]
    (try simp only [beq_iff_eq, beq_eq_false_iff_ne, ne_eq, decide_eq_true_eq, decide_eq_false_iff_not, Bool.not_eq_true, Bool.not_eq_false, Bool.not_eq_true', Bool.not_eq_false', not_true_eq_false, not_false_eq_true] at *)
    all_goals (first | apply decide_eq_decide.mpr | (symm; rw [decide_eq_true_iff]) | (symm; rw [decide_eq_false_iff_not]) | (rw [Bool.eq_iff_iff]; simp only [decide_eq_true_eq, beq_iff_eq, Bool.not_eq_true', decide_eq_false_iff_not]))
    have q1 := zero_opd sm sr sx
    have q2 := zero_opd dm dr dx
    obtain ⟨a1, k1⟩ := asNum (OpdP sm sr sx)
    obtain ⟨a2, k2⟩ := asNum (OpdP dm dr dx)
    obtain ⟨a3, k3⟩ := asNum (ZeroP sm sr sx)
    obtain ⟨a4, k4⟩ := asNum (ZeroP dm dr dx)
    simp only [InsP, k1, k2, k3, k4] at *
    omega)

end Go.Proofs.YtedmpcmfcnfclaaFw
