/- Lines of instructions that are right: the reference's. -/
import Derived.Test.YtgjeemfggfhibaaGreatDoorG11
import Derived.Test.YtgjeemfggfhibaaGreatDoorDA
namespace Go.Proofs.YtgjeemfggfhibaaGreatDoorFw
open Go Go.RowKit
set_option linter.unusedVariables false
set_option linter.unusedSimpArgs false
set_option maxRecDepth 4000
set_option pp.deepTerms.threshold 6
set_option pp.deepTerms false
def InsLP (op : Int) (so do_ sn dn : Prop) (n : Int) (c : Nat) (pl : Prop) : Prop :=
  ((1 ≤ op ∧ op ≤ 6) ∧ so ∧ do_ ∧ n = 0 ∧ c = 0) ∨ ((7 ≤ op ∧ op ≤ 14) ∧ sn ∧ do_ ∧ n = 0 ∧ c = 0) ∨ (op = 15 ∧ sn ∧ do_ ∧ (0 ≤ n ∧ n ≤ 7) ∧ c = 0) ∨
  (sn ∧ dn ∧ ((op = 16 ∧ (0 ≤ n ∧ n ≤ 7) ∧ c = 0) ∨ (op = 22 ∧ n = 0 ∧ c = 0) ∨ (((17 ≤ op ∧ op ≤ 21) ∨ op = 23) ∧ n = 0 ∧ c = 1 ∧ pl)))
open Classical in
noncomputable instance (op : Int) (so do_ sn dn : Prop) (n : Int) (c : Nat) (pl : Prop) : Decidable (InsLP op so do_ sn dn n c pl) := inferInstance
structure ArgB where
  f : Int
  r : Int
  k : Int
  n : Int
  s : Str
  l : List ExprV
def ArgB.ok (a : ArgB) : Prop := ArgP a.f a.r (ZeroE a.k a.n a.s a.l.length) (TermP 6 true (.mk a.k a.n a.s a.l))
def ArgB.no (a : ArgB) : Prop := a.f = 0 ∧ a.r = 0 ∧ ZeroE a.k a.n a.s a.l.length
open Classical in
noncomputable instance (a : ArgB) : Decidable a.ok := inferInstance
open Classical in
noncomputable instance (a : ArgB) : Decidable a.no := inferInstance
theorem ArgB.no_ok (a : ArgB) (h : a.no) : a.ok := by
  obtain ⟨h1, h2, h3⟩ := h
  exact .inl ⟨by omega, by omega, by omega, by omega, h3⟩
def insB (op n : Int) (c : Nat) (pso pdo psn pdn ppl : Bool) : Bool :=
  if decide (1 ≤ op ∧ op ≤ 6) = true then pso && (pdo && ((n == 0) && ((c : Int) == 0)))
  else if decide (7 ≤ op ∧ op ≤ 14) = true then psn && (pdo && ((n == 0) && ((c : Int) == 0)))
  else if (op == 15) = true then psn && (pdo && (decide (0 ≤ n ∧ n ≤ 7) && ((c : Int) == 0)))
  else if psn = false then false
  else if pdn = false then false
  else if (op == 16) = true then decide (0 ≤ n ∧ n ≤ 7) && ((c : Int) == 0)
  else if (op == 22) = true then (n == 0) && ((c : Int) == 0)
  else if (decide (17 ≤ op ∧ op ≤ 21) || (op == 23)) = true then (n == 0) && (((c : Int) == 1) && ppl)
  else false
theorem insB_eq (op n : Int) (c : Nat) (pso pdo psn pdn ppl : Bool) : insB op n c pso pdo psn pdn ppl = decide (InsLP op (pso = true) (pdo = true) (psn = true) (pdn = true) n c (ppl = true)) := by
  symm
  rw [Bool.eq_iff_iff, decide_eq_true_iff]
  unfold insB InsLP
  split
  · rename_i h
    simp only [decide_eq_true_eq] at h
    simp only [Bool.and_eq_true, beq_iff_eq, Int.natCast_eq_zero]
    constructor
    · rintro (h1 | h1 | h1 | h1)
      · exact ⟨h1.2.1, h1.2.2.1, h1.2.2.2.1, h1.2.2.2.2⟩
      all_goals omega
    · rintro ⟨h1, h2, h3, h4⟩
      exact .inl ⟨h, h1, h2, h3, h4⟩
  rename_i n1
  simp only [decide_eq_true_eq] at n1
  split
  · rename_i h
    simp only [decide_eq_true_eq] at h
    simp only [Bool.and_eq_true, beq_iff_eq, Int.natCast_eq_zero]
    constructor
    · rintro (h1 | h1 | h1 | h1)
      · omega
      · exact ⟨h1.2.1, h1.2.2.1, h1.2.2.2.1, h1.2.2.2.2⟩
      all_goals omega
    · rintro ⟨h1, h2, h3, h4⟩
      exact .inr (.inl ⟨h, h1, h2, h3, h4⟩)
  rename_i n2
  simp only [decide_eq_true_eq] at n2
  split
  · rename_i h
    simp only [beq_iff_eq] at h
    simp only [Bool.and_eq_true, beq_iff_eq, Int.natCast_eq_zero, decide_eq_true_eq]
    constructor
    · rintro (h1 | h1 | h1 | h1)
      · omega
      · omega
      · exact ⟨h1.2.1, h1.2.2.1, h1.2.2.2.1, h1.2.2.2.2⟩
      · omega
    · rintro ⟨h1, h2, h3, h4⟩
      exact .inr (.inr (.inl ⟨h, h1, h2, h3, h4⟩))
  rename_i n3
  simp only [beq_iff_eq] at n3
  have hout : ((1 ≤ op ∧ op ≤ 6) ∧ pso = true ∧ pdo = true ∧ n = 0 ∧ c = 0 ∨ (7 ≤ op ∧ op ≤ 14) ∧ psn = true ∧ pdo = true ∧ n = 0 ∧ c = 0 ∨ op = 15 ∧ psn = true ∧ pdo = true ∧ (0 ≤ n ∧ n ≤ 7) ∧ c = 0 ∨
      psn = true ∧ pdn = true ∧ (op = 16 ∧ (0 ≤ n ∧ n ≤ 7) ∧ c = 0 ∨ op = 22 ∧ n = 0 ∧ c = 0 ∨ ((17 ≤ op ∧ op ≤ 21) ∨ op = 23) ∧ n = 0 ∧ c = 1 ∧ ppl = true)) ↔
      (psn = true ∧ pdn = true ∧ (op = 16 ∧ (0 ≤ n ∧ n ≤ 7) ∧ c = 0 ∨ op = 22 ∧ n = 0 ∧ c = 0 ∨ ((17 ≤ op ∧ op ≤ 21) ∨ op = 23) ∧ n = 0 ∧ c = 1 ∧ ppl = true)) :=
    ⟨fun h => by
      rcases h with h | h | h | h
      · exact absurd h.1 n1
      · exact absurd h.1 n2
      · exact absurd h.1 n3
      · exact h, fun h => .inr (.inr (.inr h))⟩
  rw [hout]
  split
  · rename_i h
    constructor
    · rintro ⟨h1, _⟩
      rw [h1] at h; cases h
    · intro h; cases h
  rename_i h5
  split
  · rename_i h
    constructor
    · rintro ⟨_, h1, _⟩
      rw [h1] at h; cases h
    · intro h; cases h
  rename_i h6
  simp only [Bool.not_eq_false] at h5 h6
  split
  · rename_i h
    simp only [beq_iff_eq] at h
    simp only [Bool.and_eq_true, beq_iff_eq, Int.natCast_eq_zero, decide_eq_true_eq]
    constructor
    · rintro ⟨_, _, h1 | h1 | h1⟩
      · exact h1.2
      · omega
      · omega
    · intro h1
      exact ⟨h5, h6, .inl ⟨h, h1⟩⟩
  rename_i n4
  simp only [beq_iff_eq] at n4
  split
  · rename_i h
    simp only [beq_iff_eq] at h
    simp only [Bool.and_eq_true, beq_iff_eq, Int.natCast_eq_zero, decide_eq_true_eq]
    constructor
    · rintro ⟨_, _, h1 | h1 | h1⟩
      · omega
      · exact h1.2
      · omega
    · intro h1
      exact ⟨h5, h6, .inr (.inl ⟨h, h1⟩)⟩
  rename_i n5
  simp only [beq_iff_eq] at n5
  split
  · rename_i h
    simp only [Bool.or_eq_true, decide_eq_true_eq, beq_iff_eq] at h
    simp only [Bool.and_eq_true, beq_iff_eq, decide_eq_true_eq]
    constructor
    · rintro ⟨_, _, h1 | h1 | h1⟩
      · omega
      · omega
      · exact ⟨h1.2.1, by omega, h1.2.2.2⟩
    · rintro ⟨h1, h2, h3⟩
      exact ⟨h5, h6, .inr (.inr ⟨h, h1, by omega, h3⟩)⟩
  · rename_i h
    simp only [Bool.or_eq_true, decide_eq_true_eq, beq_iff_eq] at h
    constructor
    · rintro ⟨_, _, h1 | h1 | h1⟩
      · exact absurd h1.1 n4
      · exact absurd h1.1 n5
      · exact absurd h1.1 h
    · intro h; cases h
set_option maxHeartbeats 8000000 in
theorem l12Ins_ok (k : Int) (S : Str) (op n : Int) (a b : ArgB) (l : List ExprV) (ha : (ExprV.mk a.k a.n a.s a.l).tot ≤ 1048576) (hb : (ExprV.mk b.k b.n b.s b.l).tot ≤ 1048576) (hl : l.length ≤ 1048576 ∧ ExprV.totL l ≤ 1048576) :
    FnA Tryz.prog 107 false [lineA .bo (.mk k S op a.f a.r a.k a.n a.s a.l b.f b.r b.k b.n b.s b.l n l)] []
      (fun res os ros => res = .bool (decide (InsLP op a.ok b.ok a.no b.no n l.length (∀ e ∈ l, TermP 6 true e))) ∧ os = [] ∧ ros = []) := by
  have hN1 : FnA Tryz.prog 108 false [.agg [.int .i64 a.f, .int .i64 a.r, .int .i64 a.k, .int .i64 a.n, .str a.s, .row .bo 4 (exprsA .bo a.l)]] [] (fun res os ros => res = .bool (decide a.no) ∧ os = [] ∧ ros = []) := by
    refine (noneS_ok a.f a.r a.k a.n a.s a.l).mono ?_
    rintro r os ros ⟨rfl, h2, h3⟩
    exact ⟨congrArg AV.bool (decide_eq_decide.2 Iff.rfl), h2, h3⟩
  have hN2 : FnA Tryz.prog 108 false [.agg [.int .i64 b.f, .int .i64 b.r, .int .i64 b.k, .int .i64 b.n, .str b.s, .row .bo 4 (exprsA .bo b.l)]] [] (fun res os ros => res = .bool (decide b.no) ∧ os = [] ∧ ros = []) := by
    refine (noneS_ok b.f b.r b.k b.n b.s b.l).mono ?_
    rintro r os ros ⟨rfl, h2, h3⟩
    exact ⟨congrArg AV.bool (decide_eq_decide.2 Iff.rfl), h2, h3⟩
  have hA1 : FnA Tryz.prog 141 false [.agg [.int .i64 a.f, .int .i64 a.r, .int .i64 a.k, .int .i64 a.n, .str a.s, .row .bo 4 (exprsA .bo a.l)]] [] (fun res os ros => res = .bool (decide a.ok) ∧ os = [] ∧ ros = []) := by
    refine (argS_ok a.f a.r a.k a.n a.s a.l ha).mono ?_
    rintro r os ros ⟨rfl, h2, h3⟩
    exact ⟨congrArg AV.bool (decide_eq_decide.2 Iff.rfl), h2, h3⟩
  have hA2 : FnA Tryz.prog 141 false [.agg [.int .i64 b.f, .int .i64 b.r, .int .i64 b.k, .int .i64 b.n, .str b.s, .row .bo 4 (exprsA .bo b.l)]] [] (fun res os ros => res = .bool (decide b.ok) ∧ os = [] ∧ ros = []) := by
    refine (argS_ok b.f b.r b.k b.n b.s b.l hb).mono ?_
    rintro r os ros ⟨rfl, h2, h3⟩
    exact ⟨congrArg AV.bool (decide_eq_decide.2 Iff.rfl), h2, h3⟩
  have hPl := l12Plain_ok l hl
  have hel := exprsA_len .bo l
  obtain ⟨pso, eso⟩ : ∃ p : Bool, decide a.ok = p := ⟨_, rfl⟩
  obtain ⟨pdo, edo⟩ : ∃ p : Bool, decide b.ok = p := ⟨_, rfl⟩
  obtain ⟨psn, esn⟩ : ∃ p : Bool, decide a.no = p := ⟨_, rfl⟩
  obtain ⟨pdn, edn⟩ : ∃ p : Bool, decide b.no = p := ⟨_, rfl⟩
  obtain ⟨ppl, epl⟩ : ∃ p : Bool, decide (∀ e ∈ l, TermP 6 true e) = p := ⟨_, rfl⟩
  obtain ⟨R, hR⟩ : ∃ R, decide (InsLP op a.ok b.ok a.no b.no n l.length (∀ e ∈ l, TermP 6 true e)) = R := ⟨_, rfl⟩
  have hRb : R = insB op n l.length pso pdo psn pdn ppl := by
    rw [← hR, insB_eq]
    refine decide_eq_decide.2 ?_
    rw [← eso, ← edo, ← esn, ← edn, ← epl]
    simp only [decide_eq_true_eq]
  rw [eso] at hA1
  rw [edo] at hA2
  rw [esn] at hN1
  rw [edn] at hN2
  rw [epl] at hPl
  rw [hR]
  clear hR eso edo esn edn epl ha hb hl
  rw [lineA_mk]
  generalize exprsA .bo l = RL at *
  generalize exprsA .bo a.l = RA at *
  generalize exprsA .bo b.l = RB at *
  generalize l.length = c at *
  obtain ⟨af, ar, ak, an, as_, al⟩ := a
  obtain ⟨bf, br, bk, bn, bs, bl⟩ := b
  simp only at hN1 hN2 hA1 hA2 ⊢
  refine FnA.of Tryz.func107 rfl (by decide) Tryz.ntmps107 (by simp) ?_
  refine run_ ?_
  refine RunsA.rq tabOk fun J hJ => ?_
  simp only [go_sem, ↓reduceIte, Nat.reduceAdd, Nat.reduceSub, Nat.reduceMul, Nat.reduceLT, Nat.reduceLeDiff, Nat.reduceEqDiff, Nat.reduceBEq, Int.reduceToNat]
  try simp (disch := omega) only [wrap_id]
  refine hJ _ _ (RunsL.call (ps := []) (rid := 16) rfl rfl rfl rfl rfl (by simp only [go_sem, Nat.reduceEqDiff]; first | done | rfl) (hN1) rfl (by decide) ⟨by decide, by decide, rfl⟩ (by first | exact .inl rfl | exact .inr (.inl rfl) | exact .inr (.inr rfl)) ?_); clear hJ J
  rintro r os' ros ⟨rfl, rfl, rfl⟩ _
  refine RunsL.go tabOk fun J hJ => ?_
  simp only [go_sem, ↓reduceIte, Nat.reduceAdd, Nat.reduceSub, Nat.reduceMul, Nat.reduceLT, Nat.reduceLeDiff, Nat.reduceEqDiff, Nat.reduceBEq, Int.reduceToNat]
  try simp (disch := omega) only [wrap_id]
  refine hJ _ _ (RunsL.nil ?_); clear hJ J
  refine run_ ?_
  refine RunsA.rq tabOk fun J hJ => ?_
  simp only [go_sem, ↓reduceIte, Nat.reduceAdd, Nat.reduceSub, Nat.reduceMul, Nat.reduceLT, Nat.reduceLeDiff, Nat.reduceEqDiff, Nat.reduceBEq, Int.reduceToNat]
  try simp (disch := omega) only [wrap_id]
  refine hJ _ _ (RunsL.call (ps := []) (rid := 16) rfl rfl rfl rfl rfl (by simp only [go_sem, Nat.reduceEqDiff]; first | done | rfl) (hN2) rfl (by decide) ⟨by decide, by decide, rfl⟩ (by first | exact .inl rfl | exact .inr (.inl rfl) | exact .inr (.inr rfl)) ?_); clear hJ J
  rintro r os' ros ⟨rfl, rfl, rfl⟩ _
  refine RunsL.go tabOk fun J hJ => ?_
  simp only [go_sem, ↓reduceIte, Nat.reduceAdd, Nat.reduceSub, Nat.reduceMul, Nat.reduceLT, Nat.reduceLeDiff, Nat.reduceEqDiff, Nat.reduceBEq, Int.reduceToNat]
  try simp (disch := omega) only [wrap_id]
  refine hJ _ _ (RunsL.nil ?_); clear hJ J
  clear hN1 hN2
  repeat' (first | refine ⟨by omega, ?_⟩ | (refine hJ _ _ (RunsL.nil ?_); clear hJ J) | refine RunsA.cond rfl (fun h => ?_) (fun h => absurd h (by decide)) | refine RunsA.cond rfl (fun h => absurd h (by decide)) (fun h => ?_) | refine RunsA.cond rfl (fun h => ?_) (fun h => ?_) | (refine step_ ?_) | (refine RunsA.rk 20 [] tabOk fun J hJ => ?_; simp only [go_sem, ↓reduceIte, Nat.reduceAdd, Nat.reduceSub, Nat.reduceMul, Nat.reduceLT, Nat.reduceLeDiff, Nat.reduceEqDiff, Nat.reduceBEq, Int.reduceToNat]; try simp (disch := omega) only [wrap_id]) | (refine hJ _ _ (RunsL.call (ps := []) (rid := 16) rfl rfl rfl rfl rfl (by simp only [go_sem, Nat.reduceEqDiff]; first | done | rfl) (l1In_ok _ _ _) rfl (by decide) ⟨by decide, by decide, rfl⟩ (by first | exact .inl rfl | exact .inr (.inl rfl) | exact .inr (.inr rfl)) ?_); clear hJ J; rintro r os' ros ⟨rfl, rfl, rfl⟩ _; refine RunsL.go tabOk fun J hJ => ?_; simp only [go_sem, ↓reduceIte, Nat.reduceAdd, Nat.reduceSub, Nat.reduceMul, Nat.reduceLT, Nat.reduceLeDiff, Nat.reduceEqDiff, Nat.reduceBEq, Int.reduceToNat]; try simp (disch := omega) only [wrap_id]) | (refine hJ _ _ (RunsL.call (ps := []) (rid := 16) rfl rfl rfl rfl rfl (by simp only [go_sem, Nat.reduceEqDiff]; first | done | rfl) (hA1) rfl (by decide) ⟨by decide, by decide, rfl⟩ (by first | exact .inl rfl | exact .inr (.inl rfl) | exact .inr (.inr rfl)) ?_); clear hJ J; rintro r os' ros ⟨rfl, rfl, rfl⟩ _; refine RunsL.go tabOk fun J hJ => ?_; simp only [go_sem, ↓reduceIte, Nat.reduceAdd, Nat.reduceSub, Nat.reduceMul, Nat.reduceLT, Nat.reduceLeDiff, Nat.reduceEqDiff, Nat.reduceBEq, Int.reduceToNat]; try simp (disch := omega) only [wrap_id]) | (refine hJ _ _ (RunsL.call (ps := []) (rid := 16) rfl rfl rfl rfl rfl (by simp only [go_sem, Nat.reduceEqDiff]; first | done | rfl) (hA2) rfl (by decide) ⟨by decide, by decide, rfl⟩ (by first | exact .inl rfl | exact .inr (.inl rfl) | exact .inr (.inr rfl)) ?_); clear hJ J; rintro r os' ros ⟨rfl, rfl, rfl⟩ _; refine RunsL.go tabOk fun J hJ => ?_; simp only [go_sem, ↓reduceIte, Nat.reduceAdd, Nat.reduceSub, Nat.reduceMul, Nat.reduceLT, Nat.reduceLeDiff, Nat.reduceEqDiff, Nat.reduceBEq, Int.reduceToNat]; try simp (disch := omega) only [wrap_id]) | (refine hJ _ _ (RunsL.call (ps := []) (rid := 16) rfl rfl rfl rfl rfl (by simp only [go_sem, Nat.reduceEqDiff]; first | done | rfl) (hPl) rfl (by decide) ⟨by decide, by decide, rfl⟩ (by first | exact .inl rfl | exact .inr (.inl rfl) | exact .inr (.inr rfl)) ?_); clear hJ J; rintro r os' ros ⟨rfl, rfl, rfl⟩ _; refine RunsL.go tabOk fun J hJ => ?_; simp only [go_sem, ↓reduceIte, Nat.reduceAdd, Nat.reduceSub, Nat.reduceMul, Nat.reduceLT, Nat.reduceLeDiff, Nat.reduceEqDiff, Nat.reduceBEq, Int.reduceToNat]; try simp (disch := omega) only [wrap_id]) | split)
  all_goals (
    clear hA1 hA2 hPl
    refine RetA.mk tabOk 0 rfl rfl rfl (by omega) rfl rfl rfl ?_
    refine ⟨?_, rfl, rfl⟩
    rw [hRb]
    simp only [res1, AV.bool.injEq, insB]
    clear hRb
    (try generalize decide (1 ≤ op ∧ op ≤ 6) = i1 at *)
    (try generalize decide (7 ≤ op ∧ op ≤ 14) = i2 at *)
    (try generalize (op == 15) = o15 at *)
    (try generalize (op == 16) = o16 at *)
    (try generalize (op == 22) = o22 at *)
    (try generalize (op == 23) = o23 at *)
    (try generalize (n == 0) = n0 at *)
    simp_all
    all_goals (first | done | (intros; omega) | (intros; exact .inl ⟨by omega, by omega⟩)))
end Go.Proofs.YtgjeemfggfhibaaGreatDoorFw
