/- Operands that are none; rows of terms that are plain, and of names. -/
import Derived.Test.YtgjeemfggfhibaaGreatDoorG10
namespace Go.Proofs.YtgjeemfggfhibaaGreatDoorFw
open Go Go.RowKit
set_option linter.unusedVariables false
set_option linter.unusedSimpArgs false
set_option maxRecDepth 4000
set_option pp.deepTerms.threshold 6
set_option pp.deepTerms false
theorem noneS_ok (f r k n : Int) (s : Str) (l : List ExprV) : FnA Tryz.prog 108 false [.agg [.int .i64 f, .int .i64 r, .int .i64 k, .int .i64 n, .str s, .row .bo 4 (exprsA .bo l)]] [] (fun res os ros => res = .bool (decide (f = 0 ∧ r = 0 ∧ ZeroE k n s l.length)) ∧ os = [] ∧ ros = []) := by
  have hZ := zeroS_ok k n s l
  generalize exprsA .bo l = RW at *
  refine FnA.of Tryz.func108 rfl (by decide) Tryz.ntmps108 (by simp) ?_
  by_cases h1 : f = 0
  · have b1 : (f == 0) = true := by simp [h1]
    by_cases h2 : r = 0
    · have b2 : (r == 0) = true := by simp [h2]
      refine run2_ @b1 @b2 ?_
      refine RunsA.rq tabOk fun J hJ => ?_
      simp only [go_sem, ↓reduceIte, Nat.reduceAdd, Nat.reduceSub, Nat.reduceMul, Nat.reduceLT, Nat.reduceLeDiff, Nat.reduceEqDiff, Nat.reduceBEq, Int.reduceToNat, b1, b2]
      try simp (disch := omega) only [wrap_id]
      refine hJ _ _ (RunsL.call (ps := []) (rid := 16) rfl rfl rfl rfl rfl (by simp only [go_sem, Nat.reduceEqDiff]; first | done | rfl) (hZ) rfl (by decide) ⟨by decide, by decide, rfl⟩ (by first | exact .inl rfl | exact .inr (.inl rfl) | exact .inr (.inr rfl)) ?_); clear hJ J
      rintro r os' ros ⟨rfl, rfl, rfl⟩ _
      refine RunsL.go tabOk fun J hJ => ?_
      simp only [go_sem, ↓reduceIte, Nat.reduceAdd, Nat.reduceSub, Nat.reduceMul, Nat.reduceLT, Nat.reduceLeDiff, Nat.reduceEqDiff, Nat.reduceBEq, Int.reduceToNat]
      try simp (disch := omega) only [wrap_id]
      refine hJ _ _ (RunsL.nil ?_); clear hJ J
      refine run_ ?_
      exact RetA.mk tabOk 0 rfl rfl rfl (by omega) rfl rfl rfl ⟨by simp [res1, h1, h2], rfl, rfl⟩
    · have b2 : (r == 0) = false := by simpa using h2
      refine run2_ @b1 @b2 ?_
      exact RetA.mk tabOk 0 rfl rfl rfl (by omega) rfl rfl rfl ⟨by simp [res1, h2], rfl, rfl⟩
  · have b1 : (f == 0) = false := by simpa using h1
    refine run1_ @b1 ?_
    exact RetA.mk tabOk 0 rfl rfl rfl (by omega) rfl rfl rfl ⟨by simp [res1, h1], rfl, rfl⟩
theorem noneI_ok (f r k n : Int) (s : Str) (l : List ExprV) : FnA Tryz.prog 123 false [.agg [.int .i64 f, .int .i64 r, .int .i64 k, .int .i64 n, .str s, .row .bo 4 (exprsA .bo l)]] [] (fun res os ros => res = .bool (decide (f = 0 ∧ r = 0 ∧ ZeroE k n s l.length)) ∧ os = [] ∧ ros = []) := by
  have hZ := zeroI_ok k n s l
  generalize exprsA .bo l = RW at *
  refine FnA.of Tryz.func123 rfl (by decide) Tryz.ntmps123 (by simp) ?_
  by_cases h1 : f = 0
  · have b1 : (f == 0) = true := by simp [h1]
    by_cases h2 : r = 0
    · have b2 : (r == 0) = true := by simp [h2]
      refine run2_ @b1 @b2 ?_
      refine RunsA.rq tabOk fun J hJ => ?_
      simp only [go_sem, ↓reduceIte, Nat.reduceAdd, Nat.reduceSub, Nat.reduceMul, Nat.reduceLT, Nat.reduceLeDiff, Nat.reduceEqDiff, Nat.reduceBEq, Int.reduceToNat, b1, b2]
      try simp (disch := omega) only [wrap_id]
      refine hJ _ _ (RunsL.call (ps := []) (rid := 16) rfl rfl rfl rfl rfl (by simp only [go_sem, Nat.reduceEqDiff]; first | done | rfl) (hZ) rfl (by decide) ⟨by decide, by decide, rfl⟩ (by first | exact .inl rfl | exact .inr (.inl rfl) | exact .inr (.inr rfl)) ?_); clear hJ J
      rintro r os' ros ⟨rfl, rfl, rfl⟩ _
      refine RunsL.go tabOk fun J hJ => ?_
      simp only [go_sem, ↓reduceIte, Nat.reduceAdd, Nat.reduceSub, Nat.reduceMul, Nat.reduceLT, Nat.reduceLeDiff, Nat.reduceEqDiff, Nat.reduceBEq, Int.reduceToNat]
      try simp (disch := omega) only [wrap_id]
      refine hJ _ _ (RunsL.nil ?_); clear hJ J
      refine run_ ?_
      exact RetA.mk tabOk 0 rfl rfl rfl (by omega) rfl rfl rfl ⟨by simp [res1, h1, h2], rfl, rfl⟩
    · have b2 : (r == 0) = false := by simpa using h2
      refine run2_ @b1 @b2 ?_
      exact RetA.mk tabOk 0 rfl rfl rfl (by omega) rfl rfl rfl ⟨by simp [res1, h2], rfl, rfl⟩
  · have b1 : (f == 0) = false := by simpa using h1
    refine run1_ @b1 ?_
    exact RetA.mk tabOk 0 rfl rfl rfl (by omega) rfl rfl rfl ⟨by simp [res1, h1], rfl, rfl⟩
open Classical in
noncomputable instance plainLdec (l : List ExprV) : Decidable (∀ e ∈ l, TermP 6 true e) := inferInstance
open Classical in
noncomputable instance namesLdec (l : List ExprV) : Decidable ((∀ e ∈ l, TermP 6 true e ∧ e.1 = 2) ∧ 1 ≤ l.length ∧ l.length ≤ 6) := inferInstance
theorem l12Plain_ok (l : List ExprV) (hf : l.length ≤ 1048576 ∧ ExprV.totL l ≤ 1048576) :
    FnA Tryz.prog 109 false [.row .bo 4 (exprsA .bo l)] [] (fun r os ros => r = .bool (decide (∀ e ∈ l, TermP 6 true e)) ∧ os = [] ∧ ros = []) := by
  refine FnA.of Tryz.func109 rfl (by decide) Tryz.ntmps109 (by simp) ?_
  refine run_ ?_
  refine RunsA.loop ?_
  refine (LoopA.ind (fun i : Nat => ⟨16, [(0, .row .bo 4 (exprsA .bo l)), (3, .int .i64 i)], [], false⟩) (fun i => l.length - i) (fun i => i ≤ l.length ∧ ∀ e ∈ l.take i, TermP 6 true e) ?_ 0 ?_).sub rfl ?_ trivial rfl
  · rintro i ⟨hi, hall⟩ K3 hK3
    refine run1_ @exprsA_len ?_
    refine RunsA.cond rfl (fun h2 => ?_) (fun h2 => ?_)
    · simp only [decide_eq_true_eq] at h2
      have hilt : i < l.length := by omega
      have hg := exprsA_get .bo hilt
      have hmem := List.getElem_mem hilt
      have HH := plainS_ok l[i] (by have := ExprV.totL_mem hmem; omega)
      have htk : l.take (i + 1) = l.take i ++ [l[i]] := take_snoc hilt
      generalize l[i] = e at *
      rw [exprA_un2] at hg HH
      refine run_ ?_
      refine RunsA.rq tabOk fun J hJ => ?_
      simp only [go_sem, ↓reduceIte, Nat.reduceAdd, Nat.reduceSub, Nat.reduceMul, Nat.reduceLT, Nat.reduceLeDiff, Nat.reduceEqDiff, Nat.reduceBEq, Int.reduceToNat, hg, exprsA_len]
      try simp (disch := omega) only [wrap_id]
      refine hJ _ _ (RunsL.call (ps := []) (rid := 16) rfl rfl rfl rfl rfl (by simp only [go_sem, Nat.reduceEqDiff, brw_exprs]; first | done | rfl) (HH) rfl (by decide) ⟨by decide, by decide, rfl⟩ (by first | exact .inl rfl | exact .inr (.inl rfl) | exact .inr (.inr rfl)) ?_); clear hJ J
      rintro r os' ros ⟨rfl, rfl, rfl⟩ _
      by_cases ce : TermP 6 true e
      · rw [decide_eq_true ce]
        refine RunsL.go tabOk fun J hJ => ?_
        simp only [go_sem, ↓reduceIte, Nat.reduceAdd, Nat.reduceSub, Nat.reduceMul, Nat.reduceLT, Nat.reduceLeDiff, Nat.reduceEqDiff, Nat.reduceBEq, Int.reduceToNat]
        try simp (disch := omega) only [wrap_id]
        refine hJ _ _ (RunsL.nil ?_); clear hJ J
        refine run_ ?_
        refine RunsA.cond rfl (fun h => absurd h (by simp)) (fun h => ?_)
        refine run_ ?_
        refine hK3 (i + 1) _ ⟨by omega, fun x hx => ?_⟩ (by omega) rfl (by simp [SubS, lookS]) trivial rfl
        rw [htk] at hx
        rcases List.mem_append.1 hx with hx | hx
        · exact hall x hx
        · rw [List.mem_singleton.1 hx]; exact ce
      · rw [decide_eq_false ce]
        refine RunsL.go tabOk fun J hJ => ?_
        simp only [go_sem, ↓reduceIte, Nat.reduceAdd, Nat.reduceSub, Nat.reduceMul, Nat.reduceLT, Nat.reduceLeDiff, Nat.reduceEqDiff, Nat.reduceBEq, Int.reduceToNat]
        try simp (disch := omega) only [wrap_id]
        refine hJ _ _ (RunsL.nil ?_); clear hJ J
        refine run_ ?_
        refine RunsA.cond rfl (fun h => ?_) (fun h => absurd h (by simp))
        refine run_ ?_
        exact RetA.mk tabOk 0 rfl rfl rfl (by omega) rfl rfl rfl ⟨by rw [decide_eq_false (fun hc => ce (hc e hmem))]; rfl, rfl, rfl⟩
    · simp only [decide_eq_false_iff_not] at h2
      have hil : i = l.length := by omega
      subst hil
      rw [List.take_length] at hall
      refine run_ ?_
      exact RetA.mk tabOk 0 rfl rfl rfl (by omega) rfl rfl rfl ⟨by rw [decide_eq_true hall]; rfl, rfl, rfl⟩
  · exact ⟨Nat.zero_le _, by simp⟩
  · simp [SubS, lookS]
theorem l12Names_ok (l : List ExprV) (hf : l.length ≤ 1048576 ∧ ExprV.totL l ≤ 1048576) :
    FnA Tryz.prog 110 false [.row .bo 4 (exprsA .bo l)] [] (fun r os ros => r = .bool (decide ((∀ e ∈ l, TermP 6 true e ∧ e.1 = 2) ∧ 1 ≤ l.length ∧ l.length ≤ 6)) ∧ os = [] ∧ ros = []) := by
  have hI := l1In_ok (l.length : Int) 1 6
  refine FnA.of Tryz.func110 rfl (by decide) Tryz.ntmps110 (by simp) ?_
  refine run_ ?_
  refine RunsA.loop ?_
  refine (LoopA.ind (fun i : Nat => ⟨27, [(0, .row .bo 4 (exprsA .bo l)), (3, .int .i64 i)], [], false⟩) (fun i => l.length - i) (fun i => i ≤ l.length ∧ ∀ e ∈ l.take i, TermP 6 true e ∧ e.1 = 2) ?_ 0 ?_).sub rfl ?_ trivial rfl
  · rintro i ⟨hi, hall⟩ K3 hK3
    refine run1_ @exprsA_len ?_
    refine RunsA.cond rfl (fun h2 => ?_) (fun h2 => ?_)
    · simp only [decide_eq_true_eq] at h2
      have hilt : i < l.length := by omega
      have hg := exprsA_get .bo hilt
      have hmem := List.getElem_mem hilt
      have HH := plainS_ok l[i] (by have := ExprV.totL_mem hmem; omega)
      have htk : l.take (i + 1) = l.take i ++ [l[i]] := take_snoc hilt
      generalize l[i] = e at *
      rw [exprA_un2] at hg HH
      by_cases ce : TermP 6 true e
      · rw [decide_eq_true ce] at HH
        by_cases c2 : e.1 = 2
        · have b2 : (e.1 != 2) = false := by simp [c2]
          refine run_ ?_
          refine RunsA.rq tabOk fun J hJ => ?_
          simp only [go_sem, ↓reduceIte, Nat.reduceAdd, Nat.reduceSub, Nat.reduceMul, Nat.reduceLT, Nat.reduceLeDiff, Nat.reduceEqDiff, Nat.reduceBEq, Int.reduceToNat, hg, exprsA_len, b2]
          try simp (disch := omega) only [wrap_id]
          refine hJ _ _ (RunsL.call (ps := []) (rid := 16) rfl rfl rfl rfl rfl (by simp only [go_sem, Nat.reduceEqDiff, brw_exprs]; first | done | rfl) (HH) rfl (by decide) ⟨by decide, by decide, rfl⟩ (by first | exact .inl rfl | exact .inr (.inl rfl) | exact .inr (.inr rfl)) ?_); clear hJ J
          rintro r os' ros ⟨rfl, rfl, rfl⟩ _
          refine RunsL.go tabOk fun J hJ => ?_
          simp only [go_sem, ↓reduceIte, Nat.reduceAdd, Nat.reduceSub, Nat.reduceMul, Nat.reduceLT, Nat.reduceLeDiff, Nat.reduceEqDiff, Nat.reduceBEq, Int.reduceToNat, hg, exprsA_len, b2]
          try simp (disch := omega) only [wrap_id]
          (repeat refine ⟨by omega, ?_⟩)
          refine hJ _ _ (RunsL.nil ?_); clear hJ J
          refine run_ ?_
          refine RunsA.cond rfl (fun h => absurd h (by simp [c2])) (fun h => ?_)
          refine run_ ?_
          refine hK3 (i + 1) _ ⟨by omega, fun x hx => ?_⟩ (by omega) rfl (by simp [SubS, lookS]) trivial rfl
          rw [htk] at hx
          rcases List.mem_append.1 hx with hx | hx
          · exact hall x hx
          · rw [List.mem_singleton.1 hx]; exact ⟨ce, c2⟩
        · have b2 : (e.1 != 2) = true := by simp [c2]
          refine run_ ?_
          refine RunsA.rq tabOk fun J hJ => ?_
          simp only [go_sem, ↓reduceIte, Nat.reduceAdd, Nat.reduceSub, Nat.reduceMul, Nat.reduceLT, Nat.reduceLeDiff, Nat.reduceEqDiff, Nat.reduceBEq, Int.reduceToNat, hg, exprsA_len, b2]
          try simp (disch := omega) only [wrap_id]
          refine hJ _ _ (RunsL.call (ps := []) (rid := 16) rfl rfl rfl rfl rfl (by simp only [go_sem, Nat.reduceEqDiff, brw_exprs]; first | done | rfl) (HH) rfl (by decide) ⟨by decide, by decide, rfl⟩ (by first | exact .inl rfl | exact .inr (.inl rfl) | exact .inr (.inr rfl)) ?_); clear hJ J
          rintro r os' ros ⟨rfl, rfl, rfl⟩ _
          refine RunsL.go tabOk fun J hJ => ?_
          simp only [go_sem, ↓reduceIte, Nat.reduceAdd, Nat.reduceSub, Nat.reduceMul, Nat.reduceLT, Nat.reduceLeDiff, Nat.reduceEqDiff, Nat.reduceBEq, Int.reduceToNat, hg, exprsA_len, b2]
          try simp (disch := omega) only [wrap_id]
          (repeat refine ⟨by omega, ?_⟩)
          refine hJ _ _ (RunsL.nil ?_); clear hJ J
          refine run_ ?_
          refine RunsA.cond rfl (fun h => ?_) (fun h => absurd h (by simp [c2]))
          refine run_ ?_
          exact RetA.mk tabOk 0 rfl rfl rfl (by omega) rfl rfl rfl ⟨by rw [decide_eq_false (fun hc => c2 (hc.1 e hmem).2)]; rfl, rfl, rfl⟩
      · rw [decide_eq_false ce] at HH
        refine run_ ?_
        refine RunsA.rq tabOk fun J hJ => ?_
        simp only [go_sem, ↓reduceIte, Nat.reduceAdd, Nat.reduceSub, Nat.reduceMul, Nat.reduceLT, Nat.reduceLeDiff, Nat.reduceEqDiff, Nat.reduceBEq, Int.reduceToNat, hg, exprsA_len]
        try simp (disch := omega) only [wrap_id]
        refine hJ _ _ (RunsL.call (ps := []) (rid := 16) rfl rfl rfl rfl rfl (by simp only [go_sem, Nat.reduceEqDiff, brw_exprs]; first | done | rfl) (HH) rfl (by decide) ⟨by decide, by decide, rfl⟩ (by first | exact .inl rfl | exact .inr (.inl rfl) | exact .inr (.inr rfl)) ?_); clear hJ J
        rintro r os' ros ⟨rfl, rfl, rfl⟩ _
        refine RunsL.go tabOk fun J hJ => ?_
        simp only [go_sem, ↓reduceIte, Nat.reduceAdd, Nat.reduceSub, Nat.reduceMul, Nat.reduceLT, Nat.reduceLeDiff, Nat.reduceEqDiff, Nat.reduceBEq, Int.reduceToNat]
        try simp (disch := omega) only [wrap_id]
        (repeat refine ⟨by omega, ?_⟩)
        refine hJ _ _ (RunsL.nil ?_); clear hJ J
        refine run_ ?_
        refine RunsA.cond rfl (fun h => ?_) (fun h => absurd h (by simp))
        refine run_ ?_
        exact RetA.mk tabOk 0 rfl rfl rfl (by omega) rfl rfl rfl ⟨by rw [decide_eq_false (fun hc => ce (hc.1 e hmem).1)]; rfl, rfl, rfl⟩
    · simp only [decide_eq_false_iff_not] at h2
      have hil : i = l.length := by omega
      subst hil
      rw [List.take_length] at hall
      refine run_ ?_
      refine RunsA.rq tabOk fun J hJ => ?_
      simp only [go_sem, ↓reduceIte, Nat.reduceAdd, Nat.reduceSub, Nat.reduceMul, Nat.reduceLT, Nat.reduceLeDiff, Nat.reduceEqDiff, Nat.reduceBEq, Int.reduceToNat, exprsA_len]
      try simp (disch := omega) only [wrap_id]
      refine hJ _ _ (RunsL.call (ps := []) (rid := 16) rfl rfl rfl rfl rfl (by simp only [go_sem, Nat.reduceEqDiff]; first | done | rfl) (hI) rfl (by decide) ⟨by decide, by decide, rfl⟩ (by first | exact .inl rfl | exact .inr (.inl rfl) | exact .inr (.inr rfl)) ?_); clear hJ J
      rintro r os' ros ⟨rfl, rfl, rfl⟩ _
      refine RunsL.go tabOk fun J hJ => ?_
      simp only [go_sem, ↓reduceIte, Nat.reduceAdd, Nat.reduceSub, Nat.reduceMul, Nat.reduceLT, Nat.reduceLeDiff, Nat.reduceEqDiff, Nat.reduceBEq, Int.reduceToNat]
      try simp (disch := omega) only [wrap_id]
      refine hJ _ _ (RunsL.nil ?_); clear hJ J
      refine run_ ?_
      exact RetA.mk tabOk 0 rfl rfl rfl (by omega) rfl rfl rfl ⟨by simp only [res1, AV.bool.injEq]; exact decide_eq_decide.2 ⟨fun h => ⟨hall, by omega, by omega⟩, fun h => by omega⟩, rfl, rfl⟩
  · exact ⟨Nat.zero_le _, by simp⟩
  · simp [SubS, lookS]
end Go.Proofs.YtgjeemfggfhibaaGreatDoorFw
