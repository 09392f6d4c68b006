/- Lines that are right: the program's. -/
import Derived.Test.YtiilnlihimdnlaaGreatDoorQK
import Derived.Test.YtiilnlihimdnlaaGreatDoorQC
namespace Go.Proofs.YtiilnlihimdnlaaGreatDoorFw
open Go Go.RowKit
set_option linter.unusedVariables false
set_option linter.unusedSimpArgs false
set_option maxRecDepth 4000
theorem hasTerm_ok (n : Int) :
 FnA Tryz.prog 114 false [.int .i64 n] [] (fun res os ros => res = .bool (decide (((17 : Int) ≤ n ∧ n ≤ 21) ∨ n = 23)) ∧ os = [] ∧ ros = []) := by
 refine FnA.of Tryz.func114 rfl (by decide) Tryz.ntmps114 (by simp) ?_
 refine run_ ?_
 refine RunsA.rq tabOk fun J hJ => ?_
 simp only [go_sem, ↓reduceIte, Nat.reduceAdd, Nat.reduceSub, Nat.reduceMul, Nat.reduceLT, Nat.reduceLeDiff, Nat.reduceEqDiff, Nat.reduceBEq, Int.reduceToNat]
 try simp (disch := omega) only [wrap_id]
 repeat' (first | refine ⟨by omega, ?_⟩ | (refine hJ _ _ (RunsL.nil ?_); clear hJ J) | (refine hJ _ _ (call_ (ps := []) (rid := 16) rfl rfl rfl rfl rfl (isBranch_ok _) ?_); clear hJ J; rintro r os' ros ⟨rfl, rfl, rfl⟩ _; refine RunsL.go tabOk fun J hJ => ?_; simp only [go_sem, ↓reduceIte, Nat.reduceAdd, Nat.reduceSub, Nat.reduceMul, Nat.reduceLT, Nat.reduceLeDiff, Nat.reduceEqDiff, Nat.reduceBEq, Int.reduceToNat]; try simp (disch := omega) only [wrap_id]) | (refine hJ _ _ (call_ (ps := []) (rid := 16) rfl rfl rfl rfl rfl (within_ok _ _ _) ?_); clear hJ J; rintro r os' ros ⟨rfl, rfl, rfl⟩ _; refine RunsL.go tabOk fun J hJ => ?_; simp only [go_sem, ↓reduceIte, Nat.reduceAdd, Nat.reduceSub, Nat.reduceMul, Nat.reduceLT, Nat.reduceLeDiff, Nat.reduceEqDiff, Nat.reduceBEq, Int.reduceToNat]; try simp (disch := omega) only [wrap_id])| split)
 all_goals (refine run_ ?_)
 all_goals (refine RetA.mk tabOk 0 rfl rfl rfl (by omega) rfl rfl rfl ?_; refine ⟨?_, rfl, rfl⟩; simp only [res1, AV.bool.injEq]; (try simp only [beq_iff_eq, beq_eq_false_iff_ne, ne_eq, decide_eq_true_eq, decide_eq_false_iff_not, Bool.not_eq_true, Bool.not_eq_false, Bool.not_eq_true', Bool.not_eq_false', not_true_eq_false, not_false_eq_true] at *); all_goals (first | apply decide_eq_decide.mpr | (symm; rw [decide_eq_true_iff]) | (symm; rw [decide_eq_false_iff_not]) | (rw [Bool.eq_iff_iff]; simp only [decide_eq_true_eq, beq_iff_eq, Bool.not_eq_true', decide_eq_false_iff_not])); all_goals (try simp only [true_and, and_true] at *); all_goals (try omega))
def insIB (op n : Int) (c : Nat) (s : Str) (pso pdo psn pdn : Bool) : Bool :=
 if decide (1 ≤ op ∧ op ≤ 23) = false then false
 else if pso = false then false
 else if pdo = false then false
 else if (s != []) = true then false
 else if decide (1 ≤ op ∧ op ≤ 6) = false ∧ psn = false then false
 else if decide (1 ≤ op ∧ op ≤ 15) = false ∧ pdn = false then false
 else if (op == 15) = true then decide (0 ≤ n ∧ n ≤ 7) && ((c : Int) == 0)
 else if (op == 16) = true then decide (0 ≤ n ∧ n ≤ 7) && ((c : Int) == 0)
 else if decide ((17 ≤ op ∧ op ≤ 21) ∨ op = 23) = true then (n == 0) && ((c : Int) == 1)
 else (n == 0) && ((c : Int) == 0)
theorem insIB_eq (op n : Int) (c : Nat) (s : Str) (pso pdo psn pdn ppl : Bool) (h1 : psn = true → pso = true) (h2 : pdn = true → pdo = true) (h3 : ppl = false → 1 ≤ c) :
 (ppl && insIB op n c s pso pdo psn pdn) = ((s == []) && insB op n c pso pdo psn pdn ppl) := by
 cases ppl with
 | false =>
  have hc := h3 rfl
  have hc0 : ((c : Int) == 0) = false := by rw [beq_eq_false_iff_ne]; omega
  simp [insB, hc0]
 | true =>
  clear h3
  rw [Bool.true_and]
  by_cases cs : s = []
  ·have es : (s == []) = true := by simp [cs]
   have es' : (s != []) = false := by simp [cs]
   rw [es, Bool.true_and]
   unfold insIB insB
   rw [es']
   rcases (by omega : (1 ≤ op ∧ op ≤ 6) ∨ (7 ≤ op ∧ op ≤ 14) ∨ op = 15 ∨ op = 16 ∨ (17 ≤ op ∧ op ≤ 21) ∨ op = 22 ∨ op = 23 ∨ ¬ (1 ≤ op ∧ op ≤ 23)) with h | h | h | h | h | h | h | h
   all_goals
    (first | rw [decide_eq_true (show 1 ≤ op ∧ op ≤ 23 by omega)] | rw [decide_eq_false (show ¬ (1 ≤ op ∧ op ≤ 23) by omega)])
    (first | rw [decide_eq_true (show 1 ≤ op ∧ op ≤ 6 by omega)] | rw [decide_eq_false (show ¬ (1 ≤ op ∧ op ≤ 6) by omega)])
    (first | rw [decide_eq_true (show 1 ≤ op ∧ op ≤ 15 by omega)] | rw [decide_eq_false (show ¬ (1 ≤ op ∧ op ≤ 15) by omega)])
    (first | rw [decide_eq_true (show 7 ≤ op ∧ op ≤ 14 by omega)] | rw [decide_eq_false (show ¬ (7 ≤ op ∧ op ≤ 14) by omega)])
    (first | rw [decide_eq_true (show 17 ≤ op ∧ op ≤ 21 by omega)] | rw [decide_eq_false (show ¬ (17 ≤ op ∧ op ≤ 21) by omega)])
    (first | rw [decide_eq_true (show (17 ≤ op ∧ op ≤ 21) ∨ op = 23 by omega)] | rw [decide_eq_false (show ¬ ((17 ≤ op ∧ op ≤ 21) ∨ op = 23) by omega)])
    (first | rw [beq_iff_eq.2 (show op = 15 by omega)] | rw [beq_eq_false_iff_ne.2 (show op ≠ 15 by omega)])
    (first | rw [beq_iff_eq.2 (show op = 16 by omega)] | rw [beq_eq_false_iff_ne.2 (show op ≠ 16 by omega)])
    (first | rw [beq_iff_eq.2 (show op = 22 by omega)] | rw [beq_eq_false_iff_ne.2 (show op ≠ 22 by omega)])
    (first | rw [beq_iff_eq.2 (show op = 23 by omega)] | rw [beq_eq_false_iff_ne.2 (show op ≠ 23 by omega)])
    clear h
    generalize ((c : Int) == 0) = c0
    generalize ((c : Int) == 1) = c1
    generalize (n == 0) = n0
    generalize decide (0 ≤ n ∧ n ≤ 7) = n7
    revert h1 h2
    revert pso pdo psn pdn c0 c1 n0 n7
    decide
  ·have es : (s == []) = false := by simp [cs]
   have es' : (s != []) = true := by simp [cs]
   rw [es, Bool.false_and]
   unfold insIB
   rw [es']
   simp
set_option maxHeartbeats 8000000 in
theorem insLineOk_ok (k : Int) (s : Str) (op n : Int) (a b : ArgB) (l : List ExprV) (ha : (ExprV.mk a.k a.n a.s a.l).tot ≤ 1048576) (hb : (ExprV.mk b.k b.n b.s b.l).tot ≤ 1048576) :
 FnA Tryz.prog 71 false [lineA .bo (.mk k s op a.f a.r a.k a.n a.s a.l b.f b.r b.k b.n b.s b.l n l)] []
  (fun res os ros => res = .bool (insIB op n l.length s (decide a.ok) (decide b.ok) (decide a.no) (decide b.no)) ∧ os = [] ∧ ros = []) := by
 have hN1 : FnA Tryz.prog 72 false [.agg [.int .i64 a.f, .int .i64 a.r, .int .i64 a.k, .int .i64 a.n, .str a.s, .row .bo 4 (exprsA .bo a.l)]] [] (fun res os ros => res = .bool (decide a.no) ∧ os = [] ∧ ros = []) := by
  refine (noneI_ok a.f a.r a.k a.n a.s a.l).mono ?_
  rintro r os ros ⟨rfl, h2, h3⟩
  exact ⟨congrArg AV.bool (decide_eq_decide.2 Iff.rfl), h2, h3⟩
 have hN2 : FnA Tryz.prog 72 false [.agg [.int .i64 b.f, .int .i64 b.r, .int .i64 b.k, .int .i64 b.n, .str b.s, .row .bo 4 (exprsA .bo b.l)]] [] (fun res os ros => res = .bool (decide b.no) ∧ os = [] ∧ ros = []) := by
  refine (noneI_ok b.f b.r b.k b.n b.s b.l).mono ?_
  rintro r os ros ⟨rfl, h2, h3⟩
  exact ⟨congrArg AV.bool (decide_eq_decide.2 Iff.rfl), h2, h3⟩
 have hA1 : FnA Tryz.prog 116 false [.agg [.int .i64 a.f, .int .i64 a.r, .int .i64 a.k, .int .i64 a.n, .str a.s, .row .bo 4 (exprsA .bo a.l)]] [] (fun res os ros => res = .bool (decide a.ok) ∧ os = [] ∧ ros = []) := by
  refine (argI_ok a.f a.r a.k a.n a.s a.l ha).mono ?_
  rintro r os ros ⟨rfl, h2, h3⟩
  exact ⟨congrArg AV.bool (decide_eq_decide.2 Iff.rfl), h2, h3⟩
 have hA2 : FnA Tryz.prog 116 false [.agg [.int .i64 b.f, .int .i64 b.r, .int .i64 b.k, .int .i64 b.n, .str b.s, .row .bo 4 (exprsA .bo b.l)]] [] (fun res os ros => res = .bool (decide b.ok) ∧ os = [] ∧ ros = []) := by
  refine (argI_ok b.f b.r b.k b.n b.s b.l hb).mono ?_
  rintro r os ros ⟨rfl, h2, h3⟩
  exact ⟨congrArg AV.bool (decide_eq_decide.2 Iff.rfl), h2, h3⟩
 have hel := exprsA_len .bo l
 generalize decide a.ok = pso at *
 generalize decide b.ok = pdo at *
 generalize decide a.no = psn at *
 generalize decide b.no = pdn at *
 obtain ⟨R, hR⟩ : ∃ R, insIB op n l.length s pso pdo psn pdn = R := ⟨_, rfl⟩
 rw [hR]
 rw [lineA_mk]
 generalize exprsA .bo l = RL at *
 generalize exprsA .bo a.l = RA at *
 generalize exprsA .bo b.l = RB at *
 generalize l.length = c at *
 obtain ⟨af, ar, ak, an, as_, al⟩ := a
 obtain ⟨bf, br, bk, bn, bs, bl⟩ := b
 simp only at hN1 hN2 hA1 hA2 ⊢
 refine FnA.of Tryz.func71 rfl (by decide) Tryz.ntmps71 (by simp) ?_
 repeat' (first | refine ⟨by omega, ?_⟩ | (refine hJ _ _ (RunsL.nil ?_); clear hJ J) | refine RunsA.cond rfl (fun h => ?_) (fun h => absurd h (by decide)) | refine RunsA.cond rfl (fun h => absurd h (by decide)) (fun h => ?_) | refine RunsA.cond rfl (fun h => ?_) (fun h => ?_) | (refine step_ ?_) | (refine RunsA.rk 3 [] tabOk fun J hJ => ?_; simp only [go_sem, ↓reduceIte, Nat.reduceAdd, Nat.reduceSub, Nat.reduceMul, Nat.reduceLT, Nat.reduceLeDiff, Nat.reduceEqDiff, Nat.reduceBEq, Int.reduceToNat]; try simp (disch := omega) only [wrap_id]) | (refine hJ _ _ (call_ (ps := []) (rid := 16) rfl rfl rfl rfl rfl (within_ok _ _ _) ?_); clear hJ J; rintro r os' ros ⟨rfl, rfl, rfl⟩ _; refine RunsL.go tabOk fun J hJ => ?_; simp only [go_sem, ↓reduceIte, Nat.reduceAdd, Nat.reduceSub, Nat.reduceMul, Nat.reduceLT, Nat.reduceLeDiff, Nat.reduceEqDiff, Nat.reduceBEq, Int.reduceToNat]; try simp (disch := omega) only [wrap_id]) | (refine hJ _ _ (call_ (ps := []) (rid := 16) rfl rfl rfl rfl rfl (isReg_ok _) ?_); clear hJ J; rintro r os' ros ⟨rfl, rfl, rfl⟩ _; refine RunsL.go tabOk fun J hJ => ?_; simp only [go_sem, ↓reduceIte, Nat.reduceAdd, Nat.reduceSub, Nat.reduceMul, Nat.reduceLT, Nat.reduceLeDiff, Nat.reduceEqDiff, Nat.reduceBEq, Int.reduceToNat]; try simp (disch := omega) only [wrap_id]) | (refine hJ _ _ (call_ (ps := []) (rid := 16) rfl rfl rfl rfl rfl (hasSrc_ok _) ?_); clear hJ J; rintro r os' ros ⟨rfl, rfl, rfl⟩ _; refine RunsL.go tabOk fun J hJ => ?_; simp only [go_sem, ↓reduceIte, Nat.reduceAdd, Nat.reduceSub, Nat.reduceMul, Nat.reduceLT, Nat.reduceLeDiff, Nat.reduceEqDiff, Nat.reduceBEq, Int.reduceToNat]; try simp (disch := omega) only [wrap_id]) | (refine hJ _ _ (call_ (ps := []) (rid := 16) rfl rfl rfl rfl rfl (hasDst_ok _) ?_); clear hJ J; rintro r os' ros ⟨rfl, rfl, rfl⟩ _; refine RunsL.go tabOk fun J hJ => ?_; simp only [go_sem, ↓reduceIte, Nat.reduceAdd, Nat.reduceSub, Nat.reduceMul, Nat.reduceLT, Nat.reduceLeDiff, Nat.reduceEqDiff, Nat.reduceBEq, Int.reduceToNat]; try simp (disch := omega) only [wrap_id]) | (refine hJ _ _ (call_ (ps := []) (rid := 16) rfl rfl rfl rfl rfl (hasTerm_ok _) ?_); clear hJ J; rintro r os' ros ⟨rfl, rfl, rfl⟩ _; refine RunsL.go tabOk fun J hJ => ?_; simp only [go_sem, ↓reduceIte, Nat.reduceAdd, Nat.reduceSub, Nat.reduceMul, Nat.reduceLT, Nat.reduceLeDiff, Nat.reduceEqDiff, Nat.reduceBEq, Int.reduceToNat]; try simp (disch := omega) only [wrap_id]) | (refine hJ _ _ (call_ (ps := []) (rid := 16) rfl rfl rfl rfl rfl (hA1) ?_); clear hJ J; rintro r os' ros ⟨rfl, rfl, rfl⟩ _; refine RunsL.go tabOk fun J hJ => ?_; simp only [go_sem, ↓reduceIte, Nat.reduceAdd, Nat.reduceSub, Nat.reduceMul, Nat.reduceLT, Nat.reduceLeDiff, Nat.reduceEqDiff, Nat.reduceBEq, Int.reduceToNat]; try simp (disch := omega) only [wrap_id]) | (refine hJ _ _ (call_ (ps := []) (rid := 16) rfl rfl rfl rfl rfl (hA2) ?_); clear hJ J; rintro r os' ros ⟨rfl, rfl, rfl⟩ _; refine RunsL.go tabOk fun J hJ => ?_; simp only [go_sem, ↓reduceIte, Nat.reduceAdd, Nat.reduceSub, Nat.reduceMul, Nat.reduceLT, Nat.reduceLeDiff, Nat.reduceEqDiff, Nat.reduceBEq, Int.reduceToNat]; try simp (disch := omega) only [wrap_id]) | (refine hJ _ _ (call_ (ps := []) (rid := 16) rfl rfl rfl rfl rfl (hN1) ?_); clear hJ J; rintro r os' ros ⟨rfl, rfl, rfl⟩ _; refine RunsL.go tabOk fun J hJ => ?_; simp only [go_sem, ↓reduceIte, Nat.reduceAdd, Nat.reduceSub, Nat.reduceMul, Nat.reduceLT, Nat.reduceLeDiff, Nat.reduceEqDiff, Nat.reduceBEq, Int.reduceToNat]; try simp (disch := omega) only [wrap_id]) | (refine hJ _ _ (call_ (ps := []) (rid := 16) rfl rfl rfl rfl rfl (hN2) ?_); clear hJ J; rintro r os' ros ⟨rfl, rfl, rfl⟩ _; refine RunsL.go tabOk fun J hJ => ?_; simp only [go_sem, ↓reduceIte, Nat.reduceAdd, Nat.reduceSub, Nat.reduceMul, Nat.reduceLT, Nat.reduceLeDiff, Nat.reduceEqDiff, Nat.reduceBEq, Int.reduceToNat]; try simp (disch := omega) only [wrap_id]) | split)
 all_goals (
  clear hN1 hN2 hA1 hA2
  refine RetA.mk tabOk 0 rfl rfl rfl (by omega) rfl rfl rfl ?_
  refine ⟨?_, rfl, rfl⟩
  rw [← hR]
  clear hR
  simp only [res1, AV.bool.injEq, insIB]
  (try generalize decide (1 ≤ op ∧ op ≤ 6) = i1 at *)
  (try generalize decide (1 ≤ op ∧ op ≤ 15) = i2 at *)
  (try generalize decide (1 ≤ op ∧ op ≤ 23) = i4 at *)
  (try generalize (op == 15) = o15 at *)
  (try generalize (op == 16) = o16 at *)
  (try generalize (n == 0) = n0 at *)
  simp_all
  all_goals (first | done | (intros; omega) | (intros; exact .inl ⟨by omega, by omega⟩)))
end Go.Proofs.YtiilnlihimdnlaaGreatDoorFw
