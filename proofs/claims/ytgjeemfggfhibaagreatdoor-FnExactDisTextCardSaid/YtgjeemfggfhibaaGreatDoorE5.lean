/- The instruction of a word. -/
import Derived.Test.YtgjeemfggfhibaaGreatDoorEE
namespace Go.Proofs.YtgjeemfggfhibaaGreatDoorFw
open Go Go.RowKit
set_option linter.unusedVariables false
set_option linter.unusedSimpArgs false
set_option maxRecDepth 4000
set_option pp.deepTerms.threshold 6
set_option pp.deepTerms false
theorem low3 (n : Nat) (h : n < 65536) : bits .and .i64 (n : Int) 7 = ((n % 8 : Nat) : Int) := and_7 n h
theorem low3_3 (n : Nat) (h : n < 65536) : bits .and .i64 ((n : Int) / 2 ^ 3) 7 = ((n / 8 % 8 : Nat) : Int) := by
  rw [show (n : Int) / 2 ^ 3 = ((n / 8 : Nat) : Int) by omega]; exact and_7 _ (by omega)
theorem low3_6 (n : Nat) (h : n < 65536) : bits .and .i64 ((n : Int) / 2 ^ 6) 7 = ((n / 64 % 8 : Nat) : Int) := by
  rw [show (n : Int) / 2 ^ 6 = ((n / 64 : Nat) : Int) by omega]; exact and_7 _ (by omega)
theorem low3_9 (n : Nat) (h : n < 65536) : bits .and .i64 ((n : Int) / 2 ^ 9) 7 = ((n / 512 % 8 : Nat) : Int) := by
  rw [show (n : Int) / 2 ^ 9 = ((n / 512 : Nat) : Int) by omega]; exact and_7 _ (by omega)
theorem low3_63 (n : Nat) (h : n < 65536) : bits .and .i64 ((n : Int) / 2 ^ 6 / 2 ^ 3) 7 = ((n / 512 % 8 : Nat) : Int) := by
  rw [show (n : Int) / 2 ^ 6 / 2 ^ 3 = ((n / 512 : Nat) : Int) by omega]; exact and_7 _ (by omega)
def smV (n : Nat) : Int := if 1 ≤ opV n ∧ opV n ≤ 6 then ((n / 512 % 8 : Nat) : Int) else 0
def sgV (n : Nat) : Int := if 1 ≤ opV n ∧ opV n ≤ 6 then ((n / 64 % 8 : Nat) : Int) else 0
def dmV (n : Nat) : Int := if 1 ≤ opV n ∧ opV n ≤ 15 then ((n / 8 % 8 : Nat) : Int) else 0
def dgV (n : Nat) : Int := if 1 ≤ opV n ∧ opV n ≤ 15 then ((n % 8 : Nat) : Int) else 0
def nnV (n : Nat) : Int := if opV n = 15 then ((n / 64 % 8 : Nat) : Int) else if opV n = 16 then ((n % 8 : Nat) : Int) else if opV n = 23 then ((n % 256 : Nat) : Int) else
  if 17 ≤ opV n ∧ opV n ≤ 21 then (if n % 256 > 127 then ((n % 256 : Nat) : Int) - 256 else ((n % 256 : Nat) : Int)) else 0
abbrev rawA (n : Nat) : AV := insA (opV n : Nat) (smV n) (sgV n) 0 (dmV n) (dgV n) 0 (nnV n)
theorem raw_two {n i : Nat} (h : opV n = i) (h1 : 1 ≤ i) (h2 : i ≤ 6) : rawA n = insA i (n / 512 % 8 : Nat) (n / 64 % 8 : Nat) 0 (n / 8 % 8 : Nat) (n % 8 : Nat) 0 0 := by
  subst h
  simp only [rawA, smV, sgV, dmV, dgV, nnV, if_pos (show 1 ≤ opV n ∧ opV n ≤ 6 from ⟨h1, h2⟩), if_pos (show 1 ≤ opV n ∧ opV n ≤ 15 by omega), if_neg (show ¬ opV n = 15 by omega), if_neg (show ¬ opV n = 16 by omega), if_neg (show ¬ opV n = 23 by omega), if_neg (show ¬ (17 ≤ opV n ∧ opV n ≤ 21) by omega)]
theorem raw_one {n i : Nat} (h : opV n = i) (h1 : 7 ≤ i) (h2 : i ≤ 14) : rawA n = insA i 0 0 0 (n / 8 % 8 : Nat) (n % 8 : Nat) 0 0 := by
  subst h
  simp only [rawA, smV, sgV, dmV, dgV, nnV, if_neg (show ¬ (1 ≤ opV n ∧ opV n ≤ 6) by omega), if_pos (show 1 ≤ opV n ∧ opV n ≤ 15 by omega), if_neg (show ¬ opV n = 15 by omega), if_neg (show ¬ opV n = 16 by omega), if_neg (show ¬ opV n = 23 by omega), if_neg (show ¬ (17 ≤ opV n ∧ opV n ≤ 21) by omega)]
theorem raw_jsr {n : Nat} (h : opV n = 15) : rawA n = insA 15 0 0 0 (n / 8 % 8 : Nat) (n % 8 : Nat) 0 (n / 64 % 8 : Nat) := by
  simp only [rawA, smV, sgV, dmV, dgV, nnV, if_neg (show ¬ (1 ≤ opV n ∧ opV n ≤ 6) by omega), if_pos (show 1 ≤ opV n ∧ opV n ≤ 15 by omega), if_pos h]; rw [h]; rfl
theorem raw_rts {n : Nat} (h : opV n = 16) : rawA n = insA 16 0 0 0 0 0 0 (n % 8 : Nat) := by
  simp only [rawA, smV, sgV, dmV, dgV, nnV, if_neg (show ¬ (1 ≤ opV n ∧ opV n ≤ 6) by omega), if_neg (show ¬ (1 ≤ opV n ∧ opV n ≤ 15) by omega), if_neg (show ¬ opV n = 15 by omega), if_pos h]; rw [h]; rfl
theorem raw_emt {n : Nat} (h : opV n = 23) : rawA n = insA 23 0 0 0 0 0 0 (n % 256 : Nat) := by
  simp only [rawA, smV, sgV, dmV, dgV, nnV, if_neg (show ¬ (1 ≤ opV n ∧ opV n ≤ 6) by omega), if_neg (show ¬ (1 ≤ opV n ∧ opV n ≤ 15) by omega), if_neg (show ¬ opV n = 15 by omega), if_neg (show ¬ opV n = 16 by omega), if_pos h]; rw [h]; rfl
theorem raw_br {n i : Nat} (h : opV n = i) (h1 : 17 ≤ i) (h2 : i ≤ 21) : rawA n = insA i 0 0 0 0 0 0 (if n % 256 > 127 then ((n % 256 : Nat) : Int) - 256 else ((n % 256 : Nat) : Int)) := by
  subst h
  simp only [rawA, smV, sgV, dmV, dgV, nnV, if_neg (show ¬ (1 ≤ opV n ∧ opV n ≤ 6) by omega), if_neg (show ¬ (1 ≤ opV n ∧ opV n ≤ 15) by omega), if_neg (show ¬ opV n = 15 by omega), if_neg (show ¬ opV n = 16 by omega), if_neg (show ¬ opV n = 23 by omega), if_pos (show (17 ≤ opV n ∧ opV n ≤ 21) by omega)]
theorem raw_no {n i : Nat} (h : opV n = i) (h1 : i = 0 ∨ i = 22) : rawA n = insA i 0 0 0 0 0 0 0 := by
  subst h
  simp only [rawA, smV, sgV, dmV, dgV, nnV, if_neg (show ¬ (1 ≤ opV n ∧ opV n ≤ 6) by omega), if_neg (show ¬ (1 ≤ opV n ∧ opV n ≤ 15) by omega), if_neg (show ¬ opV n = 15 by omega), if_neg (show ¬ opV n = 16 by omega), if_neg (show ¬ opV n = 23 by omega), if_neg (show ¬ (17 ≤ opV n ∧ opV n ≤ 21) by omega)]
set_option maxHeartbeats 4000000 in
theorem insOf_ok (n : Nat) (hn : n < 65536) (h0 : opV n ≠ 0) : FnA Tryz.prog 72 false [.int .i64 n, .int .i64 (opV n : Nat)] [] (fun r os ros => r = rawA n ∧ os = [] ∧ ros = []) := by
  refine FnA.of Tryz.func72 rfl (by decide) Tryz.ntmps72 (by simp) ?_
  have hle := opV_le n
  have m0 := low3 n hn
  have m3 := low3_3 n hn
  have m6 := low3_6 n hn
  have m9 := low3_9 n hn
  have m255 := and_255 n hn
  generalize hi : opV n = i at *
  have hr : (1 ≤ i ∧ i ≤ 6) ∨ i = 15 ∨ (7 ≤ i ∧ i ≤ 14) ∨ i = 16 ∨ (17 ≤ i ∧ i ≤ 21 ∧ n % 256 > 127) ∨ (17 ≤ i ∧ i ≤ 21 ∧ ¬ n % 256 > 127) ∨ i = 23 ∨ i = 22 := by omega
  rcases hr with hr | hr | hr | hr | hr | hr | hr | hr
  all_goals (first
    | rw [raw_two hi hr.1 hr.2] | rw [raw_one hi hr.1 hr.2] | rw [raw_br hi hr.1 hr.2.1, if_pos hr.2.2] | rw [raw_br hi hr.1 hr.2.1, if_neg hr.2.2]
    | (subst hr; first | rw [raw_jsr hi] | rw [raw_rts hi] | rw [raw_emt hi] | rw [raw_no hi (.inr rfl)]))
  all_goals (first | have s6 : decide ((1 : Int) ≤ (i : Nat) ∧ ((i : Nat) : Int) ≤ 6) = true := decide_eq_true (by omega) | have s6 : decide ((1 : Int) ≤ (i : Nat) ∧ ((i : Nat) : Int) ≤ 6) = false := decide_eq_false (by omega) | have s6 := True.intro)
  all_goals (first | have s15 : decide ((1 : Int) ≤ (i : Nat) ∧ ((i : Nat) : Int) ≤ 15) = true := decide_eq_true (by omega) | have s15 : decide ((1 : Int) ≤ (i : Nat) ∧ ((i : Nat) : Int) ≤ 15) = false := decide_eq_false (by omega) | have s15 := True.intro)
  all_goals (first | have eb : decide ((17 : Int) ≤ (i : Nat) ∧ ((i : Nat) : Int) ≤ 21) = true := decide_eq_true (by omega) | have eb : decide ((17 : Int) ≤ (i : Nat) ∧ ((i : Nat) : Int) ≤ 21) = false := decide_eq_false (by omega) | have eb := True.intro)
  all_goals (first | have f15 : (((i : Nat) : Int) == 15) = true := beq_iff_eq.2 (by omega) | have f15 : (((i : Nat) : Int) == 15) = false := beq_eq_false_iff_ne.2 (by omega) | have f15 := True.intro)
  all_goals (first | have f16 : (((i : Nat) : Int) == 16) = true := beq_iff_eq.2 (by omega) | have f16 : (((i : Nat) : Int) == 16) = false := beq_eq_false_iff_ne.2 (by omega) | have f16 := True.intro)
  all_goals (first | have f23 : (((i : Nat) : Int) == 23) = true := beq_iff_eq.2 (by omega) | have f23 : (((i : Nat) : Int) == 23) = false := beq_eq_false_iff_ne.2 (by omega) | have f23 := True.intro)
  all_goals (first | have e7 : decide ((127 : Int) < ((n % 256 : Nat) : Int)) = true := decide_eq_true (by omega) | have e7 : decide ((127 : Int) < ((n % 256 : Nat) : Int)) = false := decide_eq_false (by omega) | have e7 := True.intro)
  all_goals (repeat' (first | refine ⟨by omega, ?_⟩ | (refine hJ _ _ (RunsL.nil ?_); clear hJ J) | refine RunsA.cond rfl (fun h => ?_) (fun h => absurd h (by decide)) | refine RunsA.cond rfl (fun h => absurd h (by decide)) (fun h => ?_) | (refine step_ ?_) | (refine RunsA.rk 6 [] tabOk fun J hJ => ?_; simp only [go_sem, ↓reduceIte, Nat.reduceAdd, Nat.reduceSub, Nat.reduceMul, Nat.reduceLT, Nat.reduceLeDiff, Nat.reduceEqDiff, Nat.reduceBEq, Int.reduceToNat, s6, s15, eb, f15, f16, f23, e7, m0, m3, m6, m9, m255]; try simp (disch := omega) only [wrap_id]) | (refine hJ _ _ (RunsL.call (ps := []) (rid := 16) rfl rfl rfl rfl rfl (by simp only [go_sem, Nat.reduceEqDiff]; first | done | rfl) (hasSrc_ok _) rfl (by decide) ⟨by decide, by decide, rfl⟩ (by first | exact .inl rfl | exact .inr (.inl rfl) | exact .inr (.inr rfl)) ?_); clear hJ J; rintro r os' ros ⟨rfl, rfl, rfl⟩ _; refine RunsL.go tabOk fun J hJ => ?_; simp only [go_sem, ↓reduceIte, Nat.reduceAdd, Nat.reduceSub, Nat.reduceMul, Nat.reduceLT, Nat.reduceLeDiff, Nat.reduceEqDiff, Nat.reduceBEq, Int.reduceToNat, s6, s15, eb, f15, f16, f23]; try simp (disch := omega) only [wrap_id]) | (refine hJ _ _ (RunsL.call (ps := []) (rid := 16) rfl rfl rfl rfl rfl (by simp only [go_sem, Nat.reduceEqDiff]; first | done | rfl) (hasDst_ok _) rfl (by decide) ⟨by decide, by decide, rfl⟩ (by first | exact .inl rfl | exact .inr (.inl rfl) | exact .inr (.inr rfl)) ?_); clear hJ J; rintro r os' ros ⟨rfl, rfl, rfl⟩ _; refine RunsL.go tabOk fun J hJ => ?_; simp only [go_sem, ↓reduceIte, Nat.reduceAdd, Nat.reduceSub, Nat.reduceMul, Nat.reduceLT, Nat.reduceLeDiff, Nat.reduceEqDiff, Nat.reduceBEq, Int.reduceToNat, s6, s15, eb, f15, f16, f23]; try simp (disch := omega) only [wrap_id]) | (refine hJ _ _ (RunsL.call (ps := []) (rid := 16) rfl rfl rfl rfl rfl (by simp only [go_sem, Nat.reduceEqDiff]; first | done | rfl) (isBranch_ok _) rfl (by decide) ⟨by decide, by decide, rfl⟩ (by first | exact .inl rfl | exact .inr (.inl rfl) | exact .inr (.inr rfl)) ?_); clear hJ J; rintro r os' ros ⟨rfl, rfl, rfl⟩ _; refine RunsL.go tabOk fun J hJ => ?_; simp only [go_sem, ↓reduceIte, Nat.reduceAdd, Nat.reduceSub, Nat.reduceMul, Nat.reduceLT, Nat.reduceLeDiff, Nat.reduceEqDiff, Nat.reduceBEq, Int.reduceToNat, s6, s15, eb, f15, f16, f23]; try simp (disch := omega) only [wrap_id])))
  all_goals (exact RetA.mk tabOk 0 rfl rfl rfl (by omega) rfl rfl rfl ⟨rfl, rfl, rfl⟩)
def wcntV (op sm sg dm dg : Int) : Int := 1 + ((if 1 ≤ op ∧ op ≤ 6 ∧ HasP sm sg then 1 else 0) + (if 1 ≤ op ∧ op ≤ 15 ∧ HasP dm dg then 1 else 0))
set_option maxHeartbeats 1000000 in
theorem words_ok (op sm sr sx dm dr dx n : Int) : FnA Tryz.prog 73 false [insA op sm sr sx dm dr dx n] [] (fun r os ros => r = .int .i64 (wcntV op sm sr dm dr) ∧ os = [] ∧ ros = []) := by
  refine FnA.of Tryz.func73 rfl (by decide) Tryz.ntmps73 (by simp) ?_
  repeat' (first | refine ⟨by omega, ?_⟩ | (refine hJ _ _ (RunsL.nil ?_); clear hJ J) | refine RunsA.cond rfl (fun h => ?_) (fun h => absurd h (by decide)) | refine RunsA.cond rfl (fun h => absurd h (by decide)) (fun h => ?_) | refine RunsA.cond rfl (fun h => ?_) (fun h => ?_) | (refine step_ ?_) | (refine RunsA.rk 4 [] tabOk fun J hJ => ?_; simp only [go_sem, ↓reduceIte, Nat.reduceAdd, Nat.reduceSub, Nat.reduceMul, Nat.reduceLT, Nat.reduceLeDiff, Nat.reduceEqDiff, Nat.reduceBEq, Int.reduceToNat]; try simp (disch := omega) only [wrap_id]) | (refine hJ _ _ (RunsL.call (ps := []) (rid := 16) rfl rfl rfl rfl rfl (by simp only [go_sem, Nat.reduceEqDiff]; first | done | rfl) (hasSrc_ok _) rfl (by decide) ⟨by decide, by decide, rfl⟩ (by first | exact .inl rfl | exact .inr (.inl rfl) | exact .inr (.inr rfl)) ?_); clear hJ J; rintro r os' ros ⟨rfl, rfl, rfl⟩ _; refine RunsL.go tabOk fun J hJ => ?_; simp only [go_sem, ↓reduceIte, Nat.reduceAdd, Nat.reduceSub, Nat.reduceMul, Nat.reduceLT, Nat.reduceLeDiff, Nat.reduceEqDiff, Nat.reduceBEq, Int.reduceToNat]; try simp (disch := omega) only [wrap_id]) | (refine hJ _ _ (RunsL.call (ps := []) (rid := 16) rfl rfl rfl rfl rfl (by simp only [go_sem, Nat.reduceEqDiff]; first | done | rfl) (hasDst_ok _) rfl (by decide) ⟨by decide, by decide, rfl⟩ (by first | exact .inl rfl | exact .inr (.inl rfl) | exact .inr (.inr rfl)) ?_); clear hJ J; rintro r os' ros ⟨rfl, rfl, rfl⟩ _; refine RunsL.go tabOk fun J hJ => ?_; simp only [go_sem, ↓reduceIte, Nat.reduceAdd, Nat.reduceSub, Nat.reduceMul, Nat.reduceLT, Nat.reduceLeDiff, Nat.reduceEqDiff, Nat.reduceBEq, Int.reduceToNat]; try simp (disch := omega) only [wrap_id]) | (refine hJ _ _ (RunsL.call (ps := []) (rid := 16) rfl rfl rfl rfl rfl (by simp only [go_sem, Nat.reduceEqDiff]; first | done | rfl) (hasXi_ok _ _ _) rfl (by decide) ⟨by decide, by decide, rfl⟩ (by first | exact .inl rfl | exact .inr (.inl rfl) | exact .inr (.inr rfl)) ?_); clear hJ J; rintro r os' ros ⟨rfl, rfl, rfl⟩ _; refine RunsL.go tabOk fun J hJ => ?_; simp only [go_sem, ↓reduceIte, Nat.reduceAdd, Nat.reduceSub, Nat.reduceMul, Nat.reduceLT, Nat.reduceLeDiff, Nat.reduceEqDiff, Nat.reduceBEq, Int.reduceToNat]; try simp (disch := omega) only [wrap_id]) | split)
  all_goals (refine RetA.mk tabOk 0 rfl rfl rfl (by omega) rfl rfl rfl ⟨?_, rfl, rfl⟩)
  all_goals (simp only [res1, AV.int.injEq, true_and])
  all_goals (simp only [beq_iff_eq, beq_eq_false_iff_ne, ne_eq, decide_eq_true_eq, decide_eq_false_iff_not, Bool.not_eq_true, Bool.not_eq_false] at *)
  all_goals (obtain ⟨a1, k1⟩ := asNum (HasP sm sr))
  all_goals (obtain ⟨a2, k2⟩ := asNum (HasP dm dr))
  all_goals (simp only [wcntV, k1, k2] at *)
  all_goals (repeat' split)
  all_goals omega
theorem wordsOk_ok (l : List Int) (hl : l.length ≤ 140737488355328) :
    FnA Tryz.prog 74 false [.row .bo 1 (nums l)] [] (fun r os ros => r = .bool (decide (∀ x ∈ l, 0 ≤ x ∧ x ≤ 65535)) ∧ os = [] ∧ ros = []) := by
  refine FnA.of Tryz.func74 rfl (by decide) Tryz.ntmps74 (by simp) ?_
  refine run1_ @nums_len ?_
  refine RunsA.loop ?_
  refine (LoopA.ind (fun i : Nat => ⟨15, [(5, .row .bo 1 (nums l)), (6, .int .i64 (l.length : Nat)), (7, .int .i64 i)], [], false⟩) (fun i => l.length - i) (fun i => i ≤ l.length ∧ ∀ x ∈ l.take i, 0 ≤ x ∧ x ≤ 65535) ?_ 0 ?_).sub rfl ?_ trivial rfl
  · rintro i ⟨hi, ht⟩ K3 hK3
    refine run1_ @nums_len ?_
    refine RunsA.cond rfl (fun h2 => ?_) (fun h2 => ?_)
    · simp only [decide_eq_true_eq] at h2
      have hilt : i < l.length := by omega
      have e1 : l.take (i + 1) = l.take i ++ [l[i]] := take_snoc hilt
      repeat (first | refine RunsA.sq ?_ | refine RunsA.bk ?_ | refine RunsA.sk ?_ | refine RunsA.ex ?_ | refine RunsA.rt ?_ | refine At.n ?_ | refine At.x ?_ | refine At.r ?_ | refine At.bn ?_ | refine At.br ?_ | refine At.bx ?_ | refine At.by_ rfl ?_ | refine At.kx ?_ | refine At.kr ?_ | refine At.kn ?_ | refine At.er ?_ | refine At.en ?_ | (refine RunsA.rq tabOk fun J hJ => ?_; simp only [go_sem, ↓reduceIte, Nat.reduceAdd, Nat.reduceSub, Nat.reduceMul, Nat.reduceLT, Nat.reduceLeDiff, Nat.reduceEqDiff, Nat.reduceBEq, Int.reduceToNat, nums_get hilt]; (try simp (disch := omega) only [wrap_id]); (repeat refine ⟨by omega, ?_⟩); refine hJ _ _ (RunsL.nil ?_); clear hJ J) | (refine RunsA.dq mixed tabOk (by kernel_rfl) fun J hJ => ?_; simp only [go_sem, ↓reduceIte, Nat.reduceAdd, Nat.reduceSub, Nat.reduceMul, Nat.reduceLT, Nat.reduceLeDiff, Nat.reduceEqDiff, Nat.reduceBEq, Int.reduceToNat, nums_get hilt]; (try simp (disch := omega) only [wrap_id]); (repeat refine ⟨by omega, ?_⟩); refine hJ _ _ (QRuns.nil ?_); clear hJ J))
      refine RunsA.rq tabOk fun J hJ => ?_
      simp only [go_sem, ↓reduceIte, Nat.reduceAdd, Nat.reduceSub, Nat.reduceMul, Nat.reduceLT, Nat.reduceLeDiff, Nat.reduceEqDiff, Nat.reduceBEq, Int.reduceToNat]
      try simp (disch := omega) only [wrap_id]
      refine hJ _ _ (RunsL.call (ps := []) (rid := 16) rfl rfl rfl rfl rfl (by simp only [go_sem, Nat.reduceEqDiff]; first | done | rfl) (isWord_ok l[i]) rfl (by decide) ⟨by decide, by decide, rfl⟩ (by first | exact .inl rfl | exact .inr (.inl rfl) | exact .inr (.inr rfl)) ?_); clear hJ J
      rintro r os' ros ⟨rfl, rfl, rfl⟩ _
      refine RunsL.go tabOk fun J hJ => ?_
      simp only [go_sem, ↓reduceIte, Nat.reduceAdd, Nat.reduceSub, Nat.reduceMul, Nat.reduceLT, Nat.reduceLeDiff, Nat.reduceEqDiff, Nat.reduceBEq, Int.reduceToNat]
      try simp (disch := omega) only [wrap_id]
      (repeat refine ⟨by omega, ?_⟩)
      refine hJ _ _ (RunsL.nil ?_); clear hJ J
      refine run_ ?_
      refine RunsA.cond rfl (fun h3 => ?_) (fun h3 => ?_)
      · have : ¬ ∀ x ∈ l, 0 ≤ x ∧ x ≤ 65535 := by
          intro hh
          have := hh l[i] (List.getElem_mem hilt)
          simp [this] at h3
        refine run_ ?_
        exact RetA.mk tabOk 0 rfl rfl rfl (by omega) rfl rfl rfl (by simp [res1, this])
      · have h4 : 0 ≤ l[i] ∧ l[i] ≤ 65535 := by simpa using h3
        refine run_ ?_
        refine hK3 (i + 1) _ ⟨by omega, ?_⟩ (by omega) rfl (by simp [SubS, lookS]) trivial rfl
        rw [e1]
        intro x hx
        rcases List.mem_append.1 hx with hx | hx
        · exact ht x hx
        · rw [List.mem_singleton.1 hx]; exact h4
    · simp only [decide_eq_false_iff_not] at h2
      have : ∀ x ∈ l, 0 ≤ x ∧ x ≤ 65535 := by rwa [List.take_of_length_le (by omega)] at ht
      refine run_ ?_
      exact RetA.mk tabOk 0 rfl rfl rfl (by omega) rfl rfl rfl ⟨by rw [decide_eq_true this]; rfl, rfl, rfl⟩
  · exact ⟨Nat.zero_le _, by simp⟩
  · simp [SubS, lookS]
end Go.Proofs.YtgjeemfggfhibaaGreatDoorFw
