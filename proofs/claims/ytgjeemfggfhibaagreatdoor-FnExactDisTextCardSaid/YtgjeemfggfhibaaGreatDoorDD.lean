/- A line of an instruction. -/
import Derived.Test.YtgjeemfggfhibaaGreatDoorDC
set_option linter.unusedVariables false
set_option linter.unusedSimpArgs false
set_option pp.deepTerms.threshold 6
set_option pp.deepTerms false
set_option maxRecDepth 4000
namespace Go.Proofs.YtgjeemfggfhibaaGreatDoorFw
open Go Go.RowKit
theorem flag_ok (b : Bool) : FnA Tryz.prog 80 false [.bool b] [] (fun r os ros => r = .int .i64 (if b = true then 1 else 0) ∧ os = [] ∧ ros = []) := by
  refine FnA.of Tryz.func80 rfl (by decide) Tryz.ntmps80 (by simp) ?_
  refine run_ ?_
  refine RunsA.cond rfl (fun h => ?_) (fun h => ?_)
  · subst h
    refine run_ ?_
    exact RetA.mk tabOk 0 rfl rfl rfl (by omega) rfl rfl rfl ⟨rfl, rfl, rfl⟩
  · subst h
    refine run_ ?_
    exact RetA.mk tabOk 0 rfl rfl rfl (by omega) rfl rfl rfl ⟨rfl, rfl, rfl⟩
def argZ : ArgR := ⟨0, 0, 0, 0, []⟩
def srcV (op m g x : Int) : ArgR := if op ≤ 6 then argV m g x 1 else argZ
def dstV (op sm sr m g x : Int) : ArgR := if op ≤ 15 then (if op ≤ 6 ∧ HasP sm sr then argV m g x 2 else argV m g x 1) else argZ
def numV (op n : Int) : Int := if op = 15 ∨ op = 16 then n else 0
def lstV (op n : Int) : List ExprV := if 17 ≤ op ∧ op ≤ 21 then [.mk (hereK (2 * n + 2)) 0 [] (hereL (2 * n + 2))] else if op = 23 then [.mk 1 (low16 n) [] []] else []
def lineV (op sm sr sx dm dr dx n : Int) : LineV :=
  if InsP op sm sr sx dm dr dx n then
    .mk 3 [] op (srcV op sm sr sx).f (srcV op sm sr sx).r (srcV op sm sr sx).k (srcV op sm sr sx).n [] (srcV op sm sr sx).l
      (dstV op sm sr dm dr dx).f (dstV op sm sr dm dr dx).r (dstV op sm sr dm dr dx).k (dstV op sm sr dm dr dx).n [] (dstV op sm sr dm dr dx).l (numV op n) (lstV op n)
  else .mk 0 [] 0 0 0 0 0 [] [] 0 0 0 0 [] [] 0 []
def lineR : LineV → AV
  | .mk k s op sf sr sk sn ss sl df dr dk dn ds dl n l => .agg [.int .i64 k, .str s, .int .i64 op, .int .i64 sf, .int .i64 sr, .int .i64 sk, .int .i64 sn, .str ss, .hd 100 [],
      .int .i64 df, .int .i64 dr, .int .i64 dk, .int .i64 dn, .str ds, .hd 101 [], .int .i64 n, .hd 102 []]
def lineO : LineV → List (Nat × List AV)
  | .mk k s op sf sr sk sn ss sl df dr dk dn ds dl n l => [(4, exprsA .own sl), (4, exprsA .own dl), (4, exprsA .own l)]
def wV (op sm sr : Int) : Int := if op ≤ 6 ∧ HasP sm sr then 2 else 1
def lnA (op : Int) (a b : ArgR) (nn : Int) (l : List ExprV) : AV := .agg [.int .i64 3, .str [], .int .i64 op, .int .i64 a.f, .int .i64 a.r, .int .i64 a.k, .int .i64 a.n, .str [], .row .own 4 (exprsA .own a.l),
  .int .i64 b.f, .int .i64 b.r, .int .i64 b.k, .int .i64 b.n, .str [], .row .own 4 (exprsA .own b.l), .int .i64 nn, .row .own 4 (exprsA .own l)]
def zln : AV := .agg [.int .i64 0, .str [], .int .i64 0, .int .i64 0, .int .i64 0, .int .i64 0, .int .i64 0, .str [], .row .own 4 [], .int .i64 0, .int .i64 0, .int .i64 0, .int .i64 0, .str [], .row .own 4 [], .int .i64 0, .row .own 4 []]
set_option maxHeartbeats 4000000 in
theorem lineOfInss_no (op sm sr sx dm dr dx n : Int) (hI : ¬ InsP op sm sr sx dm dr dx n) :
    FnA Tryz.prog 33 false [insA op sm sr sx dm dr dx n] [] (fun r os ros => r = lineR (lineV op sm sr sx dm dr dx n) ∧ os = [] ∧ ros = lineO (lineV op sm sr sx dm dr dx n)) := by
  have eI : decide (InsP op sm sr sx dm dr dx n) = false := by simpa using hI
  refine FnA.of Tryz.func33 rfl (by decide) Tryz.ntmps33 (by simp) ?_
  refine run_ ?_
  refine RunsA.rq tabOk fun J hJ => ?_
  simp only [go_sem, ↓reduceIte, Nat.reduceAdd, Nat.reduceSub, Nat.reduceMul, Nat.reduceLT, Nat.reduceLeDiff, Nat.reduceEqDiff, Nat.reduceBEq, Int.reduceToNat]
  try simp (disch := omega) only [wrap_id]
  refine hJ _ _ (RunsL.call (ps := []) (rid := 16) rfl rfl rfl rfl rfl (by simp only [go_sem, Nat.reduceEqDiff]; first | done | rfl) (insOks_ok op sm sr sx dm dr dx n) rfl (by decide) ⟨by decide, by decide, rfl⟩ (by first | exact .inl rfl | exact .inr (.inl rfl) | exact .inr (.inr rfl)) ?_); clear hJ J
  rintro r os' ros ⟨rfl, rfl, rfl⟩ _
  refine RunsL.go tabOk fun J hJ => ?_
  simp only [go_sem, ↓reduceIte, Nat.reduceAdd, Nat.reduceSub, Nat.reduceMul, Nat.reduceLT, Nat.reduceLeDiff, Nat.reduceEqDiff, Nat.reduceBEq, Int.reduceToNat, eI]
  try simp (disch := omega) only [wrap_id]
  refine hJ _ _ (RunsL.nil ?_); clear hJ J
  refine run_ ?_
  refine RunsA.cond rfl (fun h => ?_) (fun h => absurd h (by decide))
  refine run_ ?_
  refine RetA.v tabOk rfl ?_
  simp only [go_sem, ↓reduceIte, Nat.reduceAdd, Nat.reduceSub, Nat.reduceMul, Nat.reduceLT, Nat.reduceLeDiff, Nat.reduceEqDiff, Nat.reduceBEq, Int.reduceToNat]
  refine RetV.det (id := 768) (q := []) (i := 0) (k := 8) (tid := 100) (by simp only [go_sem, ↓reduceIte, Nat.reduceAdd, Nat.reduceSub, Nat.reduceMul, Nat.reduceLT, Nat.reduceLeDiff, Nat.reduceEqDiff, Nat.reduceBEq, Int.reduceToNat]; rfl) ?_
  simp only [go_sem, ↓reduceIte, Nat.reduceAdd, Nat.reduceSub, Nat.reduceMul, Nat.reduceLT, Nat.reduceLeDiff, Nat.reduceEqDiff, Nat.reduceBEq, Int.reduceToNat]
  refine RetV.det (id := 768) (q := []) (i := 0) (k := 14) (tid := 101) (by simp only [go_sem, ↓reduceIte, Nat.reduceAdd, Nat.reduceSub, Nat.reduceMul, Nat.reduceLT, Nat.reduceLeDiff, Nat.reduceEqDiff, Nat.reduceBEq, Int.reduceToNat]; rfl) ?_
  simp only [go_sem, ↓reduceIte, Nat.reduceAdd, Nat.reduceSub, Nat.reduceMul, Nat.reduceLT, Nat.reduceLeDiff, Nat.reduceEqDiff, Nat.reduceBEq, Int.reduceToNat]
  refine RetV.det (id := 768) (q := []) (i := 0) (k := 16) (tid := 102) (by simp only [go_sem, ↓reduceIte, Nat.reduceAdd, Nat.reduceSub, Nat.reduceMul, Nat.reduceLT, Nat.reduceLeDiff, Nat.reduceEqDiff, Nat.reduceBEq, Int.reduceToNat]; rfl) ?_
  simp only [go_sem, ↓reduceIte, Nat.reduceAdd, Nat.reduceSub, Nat.reduceMul, Nat.reduceLT, Nat.reduceLeDiff, Nat.reduceEqDiff, Nat.reduceBEq, Int.reduceToNat]
  refine RetV.mk 3 rfl rfl (by omega) rfl (by simp [noBoO, noBo, noBoL]) rfl ?_
  rw [lineV, if_neg hI]
  exact ⟨rfl, rfl, rfl⟩
set_option maxHeartbeats 8000000 in
theorem lineOfInss_yes (op sm sr sx dm dr dx n : Int) (hI : InsP op sm sr sx dm dr dx n) :
    FnA Tryz.prog 33 false [insA op sm sr sx dm dr dx n] [] (fun r os ros => r = lineR (lineV op sm sr sx dm dr dx n) ∧ os = [] ∧ ros = lineO (lineV op sm sr sx dm dr dx n)) := by
  have eI : decide (InsP op sm sr sx dm dr dx n) = true := by simpa using hI
  have hn : -128 ≤ n ∧ n ≤ 255 := by unfold InsP at hI; omega
  have hb : 1 ≤ op ∧ op ≤ 23 := by unfold InsP at hI; omega
  have hs : OpdP sm sr sx := by
    have := zero_opd sm sr sx
    unfold InsP at hI
    rcases hI with h | h | h | h
    · exact h.2.2.1
    · exact this h.2.2.1
    · exact this h.2.1
    · exact this h.1
  have hd : OpdP dm dr dx := by
    have := zero_opd dm dr dx
    unfold InsP at hI
    rcases hI with h | h | h | h
    · exact h.2.2.2.1
    · exact h.2.2.2.1
    · exact h.2.2.1
    · exact this h.2.1
  refine FnA.of Tryz.func33 rfl (by decide) Tryz.ntmps33 (by simp) ?_
  refine run_ ?_
  refine RunsA.rq tabOk fun J hJ => ?_
  simp only [go_sem, ↓reduceIte, Nat.reduceAdd, Nat.reduceSub, Nat.reduceMul, Nat.reduceLT, Nat.reduceLeDiff, Nat.reduceEqDiff, Nat.reduceBEq, Int.reduceToNat]
  try simp (disch := omega) only [wrap_id]
  refine hJ _ _ (RunsL.call (ps := []) (rid := 16) rfl rfl rfl rfl rfl (by simp only [go_sem, Nat.reduceEqDiff]; first | done | rfl) (insOks_ok op sm sr sx dm dr dx n) rfl (by decide) ⟨by decide, by decide, rfl⟩ (by first | exact .inl rfl | exact .inr (.inl rfl) | exact .inr (.inr rfl)) ?_); clear hJ J
  rintro r os' ros ⟨rfl, rfl, rfl⟩ _
  refine RunsL.go tabOk fun J hJ => ?_
  simp only [go_sem, ↓reduceIte, Nat.reduceAdd, Nat.reduceSub, Nat.reduceMul, Nat.reduceLT, Nat.reduceLeDiff, Nat.reduceEqDiff, Nat.reduceBEq, Int.reduceToNat, eI]
  try simp (disch := omega) only [wrap_id]
  refine hJ _ _ (RunsL.nil ?_); clear hJ J
  refine At.n ?_
  refine RunsA.cond rfl (fun h => absurd h (by decide)) (fun h => ?_)
  refine RunsA.sk ?_
  refine At.n ?_
  refine RunsA.sq ?_
  refine RunsA.rk 5 [] tabOk fun J hJ => ?_
  simp only [go_sem, ↓reduceIte, Nat.reduceAdd, Nat.reduceSub, Nat.reduceMul, Nat.reduceLT, Nat.reduceLeDiff, Nat.reduceEqDiff, Nat.reduceBEq, Int.reduceToNat]
  try simp (disch := omega) only [wrap_id]
  (repeat refine ⟨by omega, ?_⟩)
  refine hJ _ _ (RunsL.nil ?_); clear hJ J
  refine At.n ?_
  refine RunsA.sq ?_
  refine RunsA.rk 5 [] tabOk fun J hJ => ?_
  simp only [go_sem, ↓reduceIte, Nat.reduceAdd, Nat.reduceSub, Nat.reduceMul, Nat.reduceLT, Nat.reduceLeDiff, Nat.reduceEqDiff, Nat.reduceBEq, Int.reduceToNat]
  try simp (disch := omega) only [wrap_id]
  (repeat refine ⟨by omega, ?_⟩)
  refine hJ _ _ (RunsL.nil ?_); clear hJ J
  refine At.n ?_
  refine RunsA.meet ⟨66, [(1, .ptr 512 [] 8 0 0), (2, .ptr 768 [] 17 0 0), (3, .ptr 1024 [] 17 0 0), (4, .int .i64 (wV op sm sr))], [⟨512, 8, [insA op sm sr sx dm dr dx n]⟩, ⟨768, 17, [zln]⟩, ⟨1024, 17, [lnA op (srcV op sm sr sx) argZ 0 []]⟩], false⟩ ?_ ?_
  · have hA1 := l24Arg_ok sm sr sx 1 hs (by omega)
    simp only [argR0] at hA1
    by_cases h6 : op ≤ 6
    · have e6 : decide (op ≤ 6) = true := decide_eq_true h6
      have s6 : decide (1 ≤ op ∧ op ≤ 6) = true := decide_eq_true ⟨hb.1, h6⟩
      by_cases hp : HasP sm sr
      · have eh : decide (HasP sm sr) = true := decide_eq_true hp
        repeat' (first | refine ⟨by omega, ?_⟩ | (refine hJ _ _ (RunsL.nil ?_); clear hJ J) | refine RunsA.cond rfl (fun h => ?_) (fun h => absurd h (by decide)) | refine RunsA.cond rfl (fun h => absurd h (by decide)) (fun h => ?_) | (refine step_ ?_) | (refine RunsA.rk 5 [] tabOk fun J hJ => ?_; simp only [go_sem, ↓reduceIte, Nat.reduceAdd, Nat.reduceSub, Nat.reduceMul, Nat.reduceLT, Nat.reduceLeDiff, Nat.reduceEqDiff, Nat.reduceBEq, Int.reduceToNat, e6, s6, eh, Int.reduceAdd]; try simp (disch := omega) only [wrap_id]) | (refine hJ _ _ (RunsL.call (ps := []) (rid := 16) rfl rfl rfl rfl rfl (by simp only [go_sem, Nat.reduceEqDiff]; first | done | rfl) (hA1) rfl (by decide) ⟨by decide, by decide, rfl⟩ (by first | exact .inl rfl | exact .inr (.inl rfl) | exact .inr (.inr rfl)) ?_); clear hJ J; rintro r os' ros ⟨rfl, rfl, rfl⟩ _; refine RunsL.go tabOk fun J hJ => ?_; simp only [go_sem, ↓reduceIte, Nat.reduceAdd, Nat.reduceSub, Nat.reduceMul, Nat.reduceLT, Nat.reduceLeDiff, Nat.reduceEqDiff, Nat.reduceBEq, Int.reduceToNat, e6, s6, eh, Int.reduceAdd]; try simp (disch := omega) only [wrap_id]) | (refine hJ _ _ (RunsL.call (ps := []) (rid := 16) rfl rfl rfl rfl rfl (by simp only [go_sem, Nat.reduceEqDiff]; first | done | rfl) (hasXs_ok _ _ _) rfl (by decide) ⟨by decide, by decide, rfl⟩ (by first | exact .inl rfl | exact .inr (.inl rfl) | exact .inr (.inr rfl)) ?_); clear hJ J; rintro r os' ros ⟨rfl, rfl, rfl⟩ _; refine RunsL.go tabOk fun J hJ => ?_; simp only [go_sem, ↓reduceIte, Nat.reduceAdd, Nat.reduceSub, Nat.reduceMul, Nat.reduceLT, Nat.reduceLeDiff, Nat.reduceEqDiff, Nat.reduceBEq, Int.reduceToNat, e6, s6, eh, Int.reduceAdd]; try simp (disch := omega) only [wrap_id]))
        all_goals exact ⟨rfl, by simp [SubS, lookS, wV, h6, hp], by simp [SubO, lookO, lnA, zln, srcV, h6, argZ, exprsA], rfl⟩
      · have eh : decide (HasP sm sr) = false := decide_eq_false hp
        repeat' (first | refine ⟨by omega, ?_⟩ | (refine hJ _ _ (RunsL.nil ?_); clear hJ J) | refine RunsA.cond rfl (fun h => ?_) (fun h => absurd h (by decide)) | refine RunsA.cond rfl (fun h => absurd h (by decide)) (fun h => ?_) | (refine step_ ?_) | (refine RunsA.rk 5 [] tabOk fun J hJ => ?_; simp only [go_sem, ↓reduceIte, Nat.reduceAdd, Nat.reduceSub, Nat.reduceMul, Nat.reduceLT, Nat.reduceLeDiff, Nat.reduceEqDiff, Nat.reduceBEq, Int.reduceToNat, e6, s6, eh, Int.reduceAdd]; try simp (disch := omega) only [wrap_id]) | (refine hJ _ _ (RunsL.call (ps := []) (rid := 16) rfl rfl rfl rfl rfl (by simp only [go_sem, Nat.reduceEqDiff]; first | done | rfl) (hA1) rfl (by decide) ⟨by decide, by decide, rfl⟩ (by first | exact .inl rfl | exact .inr (.inl rfl) | exact .inr (.inr rfl)) ?_); clear hJ J; rintro r os' ros ⟨rfl, rfl, rfl⟩ _; refine RunsL.go tabOk fun J hJ => ?_; simp only [go_sem, ↓reduceIte, Nat.reduceAdd, Nat.reduceSub, Nat.reduceMul, Nat.reduceLT, Nat.reduceLeDiff, Nat.reduceEqDiff, Nat.reduceBEq, Int.reduceToNat, e6, s6, eh, Int.reduceAdd]; try simp (disch := omega) only [wrap_id]) | (refine hJ _ _ (RunsL.call (ps := []) (rid := 16) rfl rfl rfl rfl rfl (by simp only [go_sem, Nat.reduceEqDiff]; first | done | rfl) (hasXs_ok _ _ _) rfl (by decide) ⟨by decide, by decide, rfl⟩ (by first | exact .inl rfl | exact .inr (.inl rfl) | exact .inr (.inr rfl)) ?_); clear hJ J; rintro r os' ros ⟨rfl, rfl, rfl⟩ _; refine RunsL.go tabOk fun J hJ => ?_; simp only [go_sem, ↓reduceIte, Nat.reduceAdd, Nat.reduceSub, Nat.reduceMul, Nat.reduceLT, Nat.reduceLeDiff, Nat.reduceEqDiff, Nat.reduceBEq, Int.reduceToNat, e6, s6, eh, Int.reduceAdd]; try simp (disch := omega) only [wrap_id]))
        all_goals exact ⟨rfl, by simp [SubS, lookS, wV, h6, hp], by simp [SubO, lookO, lnA, zln, srcV, h6, argZ, exprsA], rfl⟩
    · have e6 : decide (op ≤ 6) = false := decide_eq_false h6
      have s6 : decide (1 ≤ op ∧ op ≤ 6) = false := decide_eq_false (by omega)
      repeat' (first | refine ⟨by omega, ?_⟩ | (refine hJ _ _ (RunsL.nil ?_); clear hJ J) | refine RunsA.cond rfl (fun h => ?_) (fun h => absurd h (by decide)) | refine RunsA.cond rfl (fun h => absurd h (by decide)) (fun h => ?_) | (refine step_ ?_) | (refine RunsA.rk 5 [] tabOk fun J hJ => ?_; simp only [go_sem, ↓reduceIte, Nat.reduceAdd, Nat.reduceSub, Nat.reduceMul, Nat.reduceLT, Nat.reduceLeDiff, Nat.reduceEqDiff, Nat.reduceBEq, Int.reduceToNat, e6, s6]; try simp (disch := omega) only [wrap_id]))
      all_goals exact ⟨rfl, by simp [SubS, lookS, wV, h6], by simp [SubO, lookO, lnA, zln, srcV, h6, argZ, exprsA], rfl⟩
  refine RunsA.meet ⟨66, [(1, .ptr 512 [] 8 0 0), (2, .ptr 768 [] 17 0 0), (3, .ptr 1024 [] 17 0 0)], [⟨512, 8, [insA op sm sr sx dm dr dx n]⟩, ⟨768, 17, [zln]⟩, ⟨1024, 17, [lnA op (srcV op sm sr sx) (dstV op sm sr dm dr dx) 0 []]⟩], false⟩ ?_ ?_
  · have hA := l24Arg_ok dm dr dx (wV op sm sr) hd (by unfold wV; split <;> omega)
    simp only [argR0] at hA
    by_cases h15 : op ≤ 15
    · have e15 : decide (op ≤ 15) = true := decide_eq_true h15
      have s15 : decide (1 ≤ op ∧ op ≤ 15) = true := decide_eq_true ⟨hb.1, h15⟩
      have hdv : dstV op sm sr dm dr dx = argV dm dr dx (wV op sm sr) := by unfold dstV wV; rw [if_pos h15]; split <;> rfl
      simp only [lnA, zln]
      repeat' (first | refine ⟨by omega, ?_⟩ | (refine hJ _ _ (RunsL.nil ?_); clear hJ J) | refine RunsA.cond rfl (fun h => ?_) (fun h => absurd h (by decide)) | refine RunsA.cond rfl (fun h => absurd h (by decide)) (fun h => ?_) | (refine step_ ?_) | (refine RunsA.rk 5 [] tabOk fun J hJ => ?_; simp only [go_sem, ↓reduceIte, Nat.reduceAdd, Nat.reduceSub, Nat.reduceMul, Nat.reduceLT, Nat.reduceLeDiff, Nat.reduceEqDiff, Nat.reduceBEq, Int.reduceToNat, e15, s15]; try simp (disch := omega) only [wrap_id]) | (refine hJ _ _ (RunsL.call (ps := []) (rid := 16) rfl rfl rfl rfl rfl (by simp only [go_sem, Nat.reduceEqDiff]; first | done | rfl) (hA) rfl (by decide) ⟨by decide, by decide, rfl⟩ (by first | exact .inl rfl | exact .inr (.inl rfl) | exact .inr (.inr rfl)) ?_); clear hJ J; rintro r os' ros ⟨rfl, rfl, rfl⟩ _; refine RunsL.go tabOk fun J hJ => ?_; simp only [go_sem, ↓reduceIte, Nat.reduceAdd, Nat.reduceSub, Nat.reduceMul, Nat.reduceLT, Nat.reduceLeDiff, Nat.reduceEqDiff, Nat.reduceBEq, Int.reduceToNat, e15, s15]; try simp (disch := omega) only [wrap_id]))
      all_goals exact ⟨rfl, by simp [SubS, lookS], by simp [SubO, lookO, lnA, zln, hdv, argZ, exprsA], rfl⟩
    · have e15 : decide (op ≤ 15) = false := decide_eq_false h15
      have s15 : decide (1 ≤ op ∧ op ≤ 15) = false := decide_eq_false (by omega)
      have hdv : dstV op sm sr dm dr dx = argZ := by unfold dstV; rw [if_neg h15]
      simp only [lnA, zln]
      repeat' (first | refine ⟨by omega, ?_⟩ | (refine hJ _ _ (RunsL.nil ?_); clear hJ J) | refine RunsA.cond rfl (fun h => ?_) (fun h => absurd h (by decide)) | refine RunsA.cond rfl (fun h => absurd h (by decide)) (fun h => ?_) | (refine step_ ?_) | (refine RunsA.rk 5 [] tabOk fun J hJ => ?_; simp only [go_sem, ↓reduceIte, Nat.reduceAdd, Nat.reduceSub, Nat.reduceMul, Nat.reduceLT, Nat.reduceLeDiff, Nat.reduceEqDiff, Nat.reduceBEq, Int.reduceToNat, e15, s15]; try simp (disch := omega) only [wrap_id]))
      all_goals exact ⟨rfl, by simp [SubS, lookS], by simp [SubO, lookO, lnA, zln, hdv, argZ, exprsA], rfl⟩
  refine RunsA.meet ⟨66, [(1, .ptr 512 [] 8 0 0), (2, .ptr 768 [] 17 0 0), (3, .ptr 1024 [] 17 0 0)], [⟨512, 8, [insA op sm sr sx dm dr dx n]⟩, ⟨768, 17, [zln]⟩, ⟨1024, 17, [lnA op (srcV op sm sr sx) (dstV op sm sr dm dr dx) (numV op n) (lstV op n)]⟩], false⟩ ?_ ?_
  · have hr2 : op = 15 ∨ op = 16 ∨ (17 ≤ op ∧ op ≤ 21) ∨ op = 23 ∨ (op ≠ 15 ∧ op ≠ 16 ∧ ¬ (17 ≤ op ∧ op ≤ 21) ∧ op ≠ 23) := by omega
    rcases hr2 with hr2 | hr2 | hr2 | hr2 | hr2
    all_goals (first | have eb : decide (17 ≤ op ∧ op ≤ 21) = true := decide_eq_true (by omega) | have eb : decide (17 ≤ op ∧ op ≤ 21) = false := decide_eq_false (by omega))
    all_goals (first | have f15 : (op == 15) = true := beq_iff_eq.2 (by omega) | have f15 : (op == 15) = false := beq_eq_false_iff_ne.2 (by omega))
    all_goals (first | have f16 : (op == 16) = true := beq_iff_eq.2 (by omega) | have f16 : (op == 16) = false := beq_eq_false_iff_ne.2 (by omega))
    all_goals (first | have f23 : (op == 23) = true := beq_iff_eq.2 (by omega) | have f23 : (op == 23) = false := beq_eq_false_iff_ne.2 (by omega))
    all_goals (first | have hnv : numV op n = n := if_pos (by omega) | have hnv : numV op n = 0 := if_neg (by omega))
    all_goals (first | have hlv : lstV op n = [.mk (hereK (2 * n + 2)) 0 [] (hereL (2 * n + 2))] := if_pos (by omega) | have hlv : lstV op n = [.mk 1 (low16 n) [] []] := (if_neg (by omega)).trans (if_pos (by omega)) | have hlv : lstV op n = [] := (if_neg (by omega)).trans (if_neg (by omega)))
    all_goals simp only [lnA, zln]
    all_goals (repeat' (first | refine ⟨by omega, ?_⟩ | (refine hJ _ _ (RunsL.nil ?_); clear hJ J) | refine RunsA.cond rfl (fun h => ?_) (fun h => absurd h (by decide)) | refine RunsA.cond rfl (fun h => absurd h (by decide)) (fun h => ?_) | (refine step_ ?_) | (refine RunsA.rk 5 [] tabOk fun J hJ => ?_; simp only [go_sem, ↓reduceIte, Nat.reduceAdd, Nat.reduceSub, Nat.reduceMul, Nat.reduceLT, Nat.reduceLeDiff, Nat.reduceEqDiff, Nat.reduceBEq, Int.reduceToNat, f15, f16, eb, f23]; try simp (disch := omega) only [wrap_id]) | (refine hJ _ _ (RunsL.call (ps := []) (rid := 16) rfl rfl rfl rfl rfl (by simp only [go_sem, Nat.reduceEqDiff]; first | done | rfl) (l1In_ok _ _ _) rfl (by decide) ⟨by decide, by decide, rfl⟩ (by first | exact .inl rfl | exact .inr (.inl rfl) | exact .inr (.inr rfl)) ?_); clear hJ J; rintro r os' ros ⟨rfl, rfl, rfl⟩ _; refine RunsL.go tabOk fun J hJ => ?_; simp only [go_sem, ↓reduceIte, Nat.reduceAdd, Nat.reduceSub, Nat.reduceMul, Nat.reduceLT, Nat.reduceLeDiff, Nat.reduceEqDiff, Nat.reduceBEq, Int.reduceToNat, f15, f16, eb, f23]; try simp (disch := omega) only [wrap_id]) | (refine hJ _ _ (RunsL.call (ps := []) (rid := 16) rfl rfl rfl rfl rfl (by simp only [go_sem, Nat.reduceEqDiff]; first | done | rfl) (l24Far_ok _) rfl (by decide) ⟨by decide, by decide, rfl⟩ (by first | exact .inl rfl | exact .inr (.inl rfl) | exact .inr (.inr rfl)) ?_); clear hJ J; rintro r os' ros ⟨rfl, rfl, rfl⟩ _; refine RunsL.go tabOk fun J hJ => ?_; simp only [go_sem, ↓reduceIte, Nat.reduceAdd, Nat.reduceSub, Nat.reduceMul, Nat.reduceLT, Nat.reduceLeDiff, Nat.reduceEqDiff, Nat.reduceBEq, Int.reduceToNat, f15, f16, eb, f23]; try simp (disch := omega) only [wrap_id]) | (refine hJ _ _ (RunsL.call (ps := []) (rid := 16) rfl rfl rfl rfl rfl (by simp only [go_sem, Nat.reduceEqDiff]; first | done | rfl) (l10Num_ok _) rfl (by decide) ⟨by decide, by decide, rfl⟩ (by first | exact .inl rfl | exact .inr (.inl rfl) | exact .inr (.inr rfl)) ?_); clear hJ J; rintro r os' ros ⟨rfl, rfl, rfl⟩ _; refine RunsL.go tabOk fun J hJ => ?_; simp only [go_sem, ↓reduceIte, Nat.reduceAdd, Nat.reduceSub, Nat.reduceMul, Nat.reduceLT, Nat.reduceLeDiff, Nat.reduceEqDiff, Nat.reduceBEq, Int.reduceToNat, f15, f16, eb, f23]; try simp (disch := omega) only [wrap_id])))
    all_goals exact ⟨rfl, by simp [SubS, lookS], by simp [SubO, lookO, lnA, zln, hnv, hlv, exprsA, exprA, Int.add_comm], rfl⟩
  simp only [lnA, zln]
  refine run_ ?_
  refine RetA.v tabOk rfl ?_
  simp only [go_sem, ↓reduceIte, Nat.reduceAdd, Nat.reduceSub, Nat.reduceMul, Nat.reduceLT, Nat.reduceLeDiff, Nat.reduceEqDiff, Nat.reduceBEq, Int.reduceToNat]
  refine RetV.det (id := 768) (q := []) (i := 0) (k := 8) (tid := 100) (by simp only [go_sem, ↓reduceIte, Nat.reduceAdd, Nat.reduceSub, Nat.reduceMul, Nat.reduceLT, Nat.reduceLeDiff, Nat.reduceEqDiff, Nat.reduceBEq, Int.reduceToNat]; rfl) ?_
  simp only [go_sem, ↓reduceIte, Nat.reduceAdd, Nat.reduceSub, Nat.reduceMul, Nat.reduceLT, Nat.reduceLeDiff, Nat.reduceEqDiff, Nat.reduceBEq, Int.reduceToNat]
  refine RetV.det (id := 768) (q := []) (i := 0) (k := 14) (tid := 101) (by simp only [go_sem, ↓reduceIte, Nat.reduceAdd, Nat.reduceSub, Nat.reduceMul, Nat.reduceLT, Nat.reduceLeDiff, Nat.reduceEqDiff, Nat.reduceBEq, Int.reduceToNat]; rfl) ?_
  simp only [go_sem, ↓reduceIte, Nat.reduceAdd, Nat.reduceSub, Nat.reduceMul, Nat.reduceLT, Nat.reduceLeDiff, Nat.reduceEqDiff, Nat.reduceBEq, Int.reduceToNat]
  refine RetV.det (id := 768) (q := []) (i := 0) (k := 16) (tid := 102) (by simp only [go_sem, ↓reduceIte, Nat.reduceAdd, Nat.reduceSub, Nat.reduceMul, Nat.reduceLT, Nat.reduceLeDiff, Nat.reduceEqDiff, Nat.reduceBEq, Int.reduceToNat]; rfl) ?_
  simp only [go_sem, ↓reduceIte, Nat.reduceAdd, Nat.reduceSub, Nat.reduceMul, Nat.reduceLT, Nat.reduceLeDiff, Nat.reduceEqDiff, Nat.reduceBEq, Int.reduceToNat]
  refine RetV.mk 3 rfl rfl (by omega) rfl (by simp [noBoO, noBo, noBoL, noBo_exprs]) rfl ?_
  rw [lineV, if_pos hI]
  exact ⟨rfl, rfl, rfl⟩
set_option maxHeartbeats 4000000 in
theorem lineOfInsi_no (op sm sr sx dm dr dx n : Int) (hI : ¬ InsP op sm sr sx dm dr dx n) :
    FnA Tryz.prog 37 false [insA op sm sr sx dm dr dx n] [] (fun r os ros => r = lineR (lineV op sm sr sx dm dr dx n) ∧ os = [] ∧ ros = lineO (lineV op sm sr sx dm dr dx n)) := by
  have eI : decide (InsP op sm sr sx dm dr dx n) = false := by simpa using hI
  refine FnA.of Tryz.func37 rfl (by decide) Tryz.ntmps37 (by simp) ?_
  refine run_ ?_
  refine RunsA.rq tabOk fun J hJ => ?_
  simp only [go_sem, ↓reduceIte, Nat.reduceAdd, Nat.reduceSub, Nat.reduceMul, Nat.reduceLT, Nat.reduceLeDiff, Nat.reduceEqDiff, Nat.reduceBEq, Int.reduceToNat]
  try simp (disch := omega) only [wrap_id]
  refine hJ _ _ (RunsL.call (ps := []) (rid := 16) rfl rfl rfl rfl rfl (by simp only [go_sem, Nat.reduceEqDiff]; first | done | rfl) (insOki_ok op sm sr sx dm dr dx n) rfl (by decide) ⟨by decide, by decide, rfl⟩ (by first | exact .inl rfl | exact .inr (.inl rfl) | exact .inr (.inr rfl)) ?_); clear hJ J
  rintro r os' ros ⟨rfl, rfl, rfl⟩ _
  refine RunsL.go tabOk fun J hJ => ?_
  simp only [go_sem, ↓reduceIte, Nat.reduceAdd, Nat.reduceSub, Nat.reduceMul, Nat.reduceLT, Nat.reduceLeDiff, Nat.reduceEqDiff, Nat.reduceBEq, Int.reduceToNat, eI]
  try simp (disch := omega) only [wrap_id]
  refine hJ _ _ (RunsL.nil ?_); clear hJ J
  refine run_ ?_
  refine RunsA.cond rfl (fun h => ?_) (fun h => absurd h (by decide))
  refine run_ ?_
  refine RetA.v tabOk rfl ?_
  simp only [go_sem, ↓reduceIte, Nat.reduceAdd, Nat.reduceSub, Nat.reduceMul, Nat.reduceLT, Nat.reduceLeDiff, Nat.reduceEqDiff, Nat.reduceBEq, Int.reduceToNat]
  refine RetV.det (id := 768) (q := []) (i := 0) (k := 8) (tid := 100) (by simp only [go_sem, ↓reduceIte, Nat.reduceAdd, Nat.reduceSub, Nat.reduceMul, Nat.reduceLT, Nat.reduceLeDiff, Nat.reduceEqDiff, Nat.reduceBEq, Int.reduceToNat]; rfl) ?_
  simp only [go_sem, ↓reduceIte, Nat.reduceAdd, Nat.reduceSub, Nat.reduceMul, Nat.reduceLT, Nat.reduceLeDiff, Nat.reduceEqDiff, Nat.reduceBEq, Int.reduceToNat]
  refine RetV.det (id := 768) (q := []) (i := 0) (k := 14) (tid := 101) (by simp only [go_sem, ↓reduceIte, Nat.reduceAdd, Nat.reduceSub, Nat.reduceMul, Nat.reduceLT, Nat.reduceLeDiff, Nat.reduceEqDiff, Nat.reduceBEq, Int.reduceToNat]; rfl) ?_
  simp only [go_sem, ↓reduceIte, Nat.reduceAdd, Nat.reduceSub, Nat.reduceMul, Nat.reduceLT, Nat.reduceLeDiff, Nat.reduceEqDiff, Nat.reduceBEq, Int.reduceToNat]
  refine RetV.det (id := 768) (q := []) (i := 0) (k := 16) (tid := 102) (by simp only [go_sem, ↓reduceIte, Nat.reduceAdd, Nat.reduceSub, Nat.reduceMul, Nat.reduceLT, Nat.reduceLeDiff, Nat.reduceEqDiff, Nat.reduceBEq, Int.reduceToNat]; rfl) ?_
  simp only [go_sem, ↓reduceIte, Nat.reduceAdd, Nat.reduceSub, Nat.reduceMul, Nat.reduceLT, Nat.reduceLeDiff, Nat.reduceEqDiff, Nat.reduceBEq, Int.reduceToNat]
  refine RetV.mk 3 rfl rfl (by omega) rfl (by simp [noBoO, noBo, noBoL]) rfl ?_
  rw [lineV, if_neg hI]
  exact ⟨rfl, rfl, rfl⟩
set_option maxHeartbeats 8000000 in
theorem lineOfInsi_yes (op sm sr sx dm dr dx n : Int) (hI : InsP op sm sr sx dm dr dx n) :
    FnA Tryz.prog 37 false [insA op sm sr sx dm dr dx n] [] (fun r os ros => r = lineR (lineV op sm sr sx dm dr dx n) ∧ os = [] ∧ ros = lineO (lineV op sm sr sx dm dr dx n)) := by
  have eI : decide (InsP op sm sr sx dm dr dx n) = true := by simpa using hI
  have hn : -128 ≤ n ∧ n ≤ 255 := by unfold InsP at hI; omega
  have hb : 1 ≤ op ∧ op ≤ 23 := by unfold InsP at hI; omega
  have hs : OpdP sm sr sx := by
    have := zero_opd sm sr sx
    unfold InsP at hI
    rcases hI with h | h | h | h
    · exact h.2.2.1
    · exact this h.2.2.1
    · exact this h.2.1
    · exact this h.1
  have hd : OpdP dm dr dx := by
    have := zero_opd dm dr dx
    unfold InsP at hI
    rcases hI with h | h | h | h
    · exact h.2.2.2.1
    · exact h.2.2.2.1
    · exact h.2.2.1
    · exact this h.2.1
  refine FnA.of Tryz.func37 rfl (by decide) Tryz.ntmps37 (by simp) ?_
  refine run_ ?_
  refine RunsA.rq tabOk fun J hJ => ?_
  simp only [go_sem, ↓reduceIte, Nat.reduceAdd, Nat.reduceSub, Nat.reduceMul, Nat.reduceLT, Nat.reduceLeDiff, Nat.reduceEqDiff, Nat.reduceBEq, Int.reduceToNat]
  try simp (disch := omega) only [wrap_id]
  refine hJ _ _ (RunsL.call (ps := []) (rid := 16) rfl rfl rfl rfl rfl (by simp only [go_sem, Nat.reduceEqDiff]; first | done | rfl) (insOki_ok op sm sr sx dm dr dx n) rfl (by decide) ⟨by decide, by decide, rfl⟩ (by first | exact .inl rfl | exact .inr (.inl rfl) | exact .inr (.inr rfl)) ?_); clear hJ J
  rintro r os' ros ⟨rfl, rfl, rfl⟩ _
  refine RunsL.go tabOk fun J hJ => ?_
  simp only [go_sem, ↓reduceIte, Nat.reduceAdd, Nat.reduceSub, Nat.reduceMul, Nat.reduceLT, Nat.reduceLeDiff, Nat.reduceEqDiff, Nat.reduceBEq, Int.reduceToNat, eI]
  try simp (disch := omega) only [wrap_id]
  refine hJ _ _ (RunsL.nil ?_); clear hJ J
  refine At.n ?_
  refine RunsA.cond rfl (fun h => absurd h (by decide)) (fun h => ?_)
  refine RunsA.sk ?_
  refine At.n ?_
  refine RunsA.sq ?_
  refine RunsA.rk 5 [] tabOk fun J hJ => ?_
  simp only [go_sem, ↓reduceIte, Nat.reduceAdd, Nat.reduceSub, Nat.reduceMul, Nat.reduceLT, Nat.reduceLeDiff, Nat.reduceEqDiff, Nat.reduceBEq, Int.reduceToNat]
  try simp (disch := omega) only [wrap_id]
  (repeat refine ⟨by omega, ?_⟩)
  refine hJ _ _ (RunsL.nil ?_); clear hJ J
  refine At.n ?_
  refine RunsA.sq ?_
  refine RunsA.rk 5 [] tabOk fun J hJ => ?_
  simp only [go_sem, ↓reduceIte, Nat.reduceAdd, Nat.reduceSub, Nat.reduceMul, Nat.reduceLT, Nat.reduceLeDiff, Nat.reduceEqDiff, Nat.reduceBEq, Int.reduceToNat]
  try simp (disch := omega) only [wrap_id]
  (repeat refine ⟨by omega, ?_⟩)
  refine hJ _ _ (RunsL.nil ?_); clear hJ J
  refine At.n ?_
  refine RunsA.meet ⟨67, [(1, .ptr 512 [] 8 0 0), (2, .ptr 768 [] 17 0 0), (3, .ptr 1024 [] 17 0 0), (4, .int .i64 (wV op sm sr))], [⟨512, 8, [insA op sm sr sx dm dr dx n]⟩, ⟨768, 17, [zln]⟩, ⟨1024, 17, [lnA op (srcV op sm sr sx) argZ 0 []]⟩], false⟩ ?_ ?_
  · have hA1 := argOf_ok sm sr sx 1 hs (by omega)
    simp only [argR0] at hA1
    by_cases h6 : op ≤ 6
    · have e6 : decide (op ≤ 6) = true := decide_eq_true h6
      have s6 : decide (1 ≤ op ∧ op ≤ 6) = true := decide_eq_true ⟨hb.1, h6⟩
      by_cases hp : HasP sm sr
      · have eh : decide (HasP sm sr) = true := decide_eq_true hp
        repeat' (first | refine ⟨by omega, ?_⟩ | (refine hJ _ _ (RunsL.nil ?_); clear hJ J) | refine RunsA.cond rfl (fun h => ?_) (fun h => absurd h (by decide)) | refine RunsA.cond rfl (fun h => absurd h (by decide)) (fun h => ?_) | (refine step_ ?_) | (refine RunsA.rk 5 [] tabOk fun J hJ => ?_; simp only [go_sem, ↓reduceIte, Nat.reduceAdd, Nat.reduceSub, Nat.reduceMul, Nat.reduceLT, Nat.reduceLeDiff, Nat.reduceEqDiff, Nat.reduceBEq, Int.reduceToNat, e6, s6, eh, Int.reduceAdd]; try simp (disch := omega) only [wrap_id]) | (refine hJ _ _ (RunsL.call (ps := []) (rid := 16) rfl rfl rfl rfl rfl (by simp only [go_sem, Nat.reduceEqDiff]; first | done | rfl) (hasSrc_ok _) rfl (by decide) ⟨by decide, by decide, rfl⟩ (by first | exact .inl rfl | exact .inr (.inl rfl) | exact .inr (.inr rfl)) ?_); clear hJ J; rintro r os' ros ⟨rfl, rfl, rfl⟩ _; refine RunsL.go tabOk fun J hJ => ?_; simp only [go_sem, ↓reduceIte, Nat.reduceAdd, Nat.reduceSub, Nat.reduceMul, Nat.reduceLT, Nat.reduceLeDiff, Nat.reduceEqDiff, Nat.reduceBEq, Int.reduceToNat, e6, s6, eh, Int.reduceAdd]; try simp (disch := omega) only [wrap_id]) | (refine hJ _ _ (RunsL.call (ps := []) (rid := 16) rfl rfl rfl rfl rfl (by simp only [go_sem, Nat.reduceEqDiff]; first | done | rfl) (hA1) rfl (by decide) ⟨by decide, by decide, rfl⟩ (by first | exact .inl rfl | exact .inr (.inl rfl) | exact .inr (.inr rfl)) ?_); clear hJ J; rintro r os' ros ⟨rfl, rfl, rfl⟩ _; refine RunsL.go tabOk fun J hJ => ?_; simp only [go_sem, ↓reduceIte, Nat.reduceAdd, Nat.reduceSub, Nat.reduceMul, Nat.reduceLT, Nat.reduceLeDiff, Nat.reduceEqDiff, Nat.reduceBEq, Int.reduceToNat, e6, s6, eh, Int.reduceAdd]; try simp (disch := omega) only [wrap_id]) | (refine hJ _ _ (RunsL.call (ps := []) (rid := 16) rfl rfl rfl rfl rfl (by simp only [go_sem, Nat.reduceEqDiff]; first | done | rfl) (hasXi_ok _ _ _) rfl (by decide) ⟨by decide, by decide, rfl⟩ (by first | exact .inl rfl | exact .inr (.inl rfl) | exact .inr (.inr rfl)) ?_); clear hJ J; rintro r os' ros ⟨rfl, rfl, rfl⟩ _; refine RunsL.go tabOk fun J hJ => ?_; simp only [go_sem, ↓reduceIte, Nat.reduceAdd, Nat.reduceSub, Nat.reduceMul, Nat.reduceLT, Nat.reduceLeDiff, Nat.reduceEqDiff, Nat.reduceBEq, Int.reduceToNat, e6, s6, eh, Int.reduceAdd]; try simp (disch := omega) only [wrap_id]) | (refine hJ _ _ (RunsL.call (ps := []) (rid := 16) rfl rfl rfl rfl rfl (by simp only [go_sem, Nat.reduceEqDiff]; first | done | rfl) (flag_ok _) rfl (by decide) ⟨by decide, by decide, rfl⟩ (by first | exact .inl rfl | exact .inr (.inl rfl) | exact .inr (.inr rfl)) ?_); clear hJ J; rintro r os' ros ⟨rfl, rfl, rfl⟩ _; refine RunsL.go tabOk fun J hJ => ?_; simp only [go_sem, ↓reduceIte, Nat.reduceAdd, Nat.reduceSub, Nat.reduceMul, Nat.reduceLT, Nat.reduceLeDiff, Nat.reduceEqDiff, Nat.reduceBEq, Int.reduceToNat, e6, s6, eh, Int.reduceAdd]; try simp (disch := omega) only [wrap_id]))
        all_goals exact ⟨rfl, by simp [SubS, lookS, wV, h6, hp], by simp [SubO, lookO, lnA, zln, srcV, h6, argZ, exprsA], rfl⟩
      · have eh : decide (HasP sm sr) = false := decide_eq_false hp
        repeat' (first | refine ⟨by omega, ?_⟩ | (refine hJ _ _ (RunsL.nil ?_); clear hJ J) | refine RunsA.cond rfl (fun h => ?_) (fun h => absurd h (by decide)) | refine RunsA.cond rfl (fun h => absurd h (by decide)) (fun h => ?_) | (refine step_ ?_) | (refine RunsA.rk 5 [] tabOk fun J hJ => ?_; simp only [go_sem, ↓reduceIte, Nat.reduceAdd, Nat.reduceSub, Nat.reduceMul, Nat.reduceLT, Nat.reduceLeDiff, Nat.reduceEqDiff, Nat.reduceBEq, Int.reduceToNat, e6, s6, eh, Int.reduceAdd]; try simp (disch := omega) only [wrap_id]) | (refine hJ _ _ (RunsL.call (ps := []) (rid := 16) rfl rfl rfl rfl rfl (by simp only [go_sem, Nat.reduceEqDiff]; first | done | rfl) (hasSrc_ok _) rfl (by decide) ⟨by decide, by decide, rfl⟩ (by first | exact .inl rfl | exact .inr (.inl rfl) | exact .inr (.inr rfl)) ?_); clear hJ J; rintro r os' ros ⟨rfl, rfl, rfl⟩ _; refine RunsL.go tabOk fun J hJ => ?_; simp only [go_sem, ↓reduceIte, Nat.reduceAdd, Nat.reduceSub, Nat.reduceMul, Nat.reduceLT, Nat.reduceLeDiff, Nat.reduceEqDiff, Nat.reduceBEq, Int.reduceToNat, e6, s6, eh, Int.reduceAdd]; try simp (disch := omega) only [wrap_id]) | (refine hJ _ _ (RunsL.call (ps := []) (rid := 16) rfl rfl rfl rfl rfl (by simp only [go_sem, Nat.reduceEqDiff]; first | done | rfl) (hA1) rfl (by decide) ⟨by decide, by decide, rfl⟩ (by first | exact .inl rfl | exact .inr (.inl rfl) | exact .inr (.inr rfl)) ?_); clear hJ J; rintro r os' ros ⟨rfl, rfl, rfl⟩ _; refine RunsL.go tabOk fun J hJ => ?_; simp only [go_sem, ↓reduceIte, Nat.reduceAdd, Nat.reduceSub, Nat.reduceMul, Nat.reduceLT, Nat.reduceLeDiff, Nat.reduceEqDiff, Nat.reduceBEq, Int.reduceToNat, e6, s6, eh, Int.reduceAdd]; try simp (disch := omega) only [wrap_id]) | (refine hJ _ _ (RunsL.call (ps := []) (rid := 16) rfl rfl rfl rfl rfl (by simp only [go_sem, Nat.reduceEqDiff]; first | done | rfl) (hasXi_ok _ _ _) rfl (by decide) ⟨by decide, by decide, rfl⟩ (by first | exact .inl rfl | exact .inr (.inl rfl) | exact .inr (.inr rfl)) ?_); clear hJ J; rintro r os' ros ⟨rfl, rfl, rfl⟩ _; refine RunsL.go tabOk fun J hJ => ?_; simp only [go_sem, ↓reduceIte, Nat.reduceAdd, Nat.reduceSub, Nat.reduceMul, Nat.reduceLT, Nat.reduceLeDiff, Nat.reduceEqDiff, Nat.reduceBEq, Int.reduceToNat, e6, s6, eh, Int.reduceAdd]; try simp (disch := omega) only [wrap_id]) | (refine hJ _ _ (RunsL.call (ps := []) (rid := 16) rfl rfl rfl rfl rfl (by simp only [go_sem, Nat.reduceEqDiff]; first | done | rfl) (flag_ok _) rfl (by decide) ⟨by decide, by decide, rfl⟩ (by first | exact .inl rfl | exact .inr (.inl rfl) | exact .inr (.inr rfl)) ?_); clear hJ J; rintro r os' ros ⟨rfl, rfl, rfl⟩ _; refine RunsL.go tabOk fun J hJ => ?_; simp only [go_sem, ↓reduceIte, Nat.reduceAdd, Nat.reduceSub, Nat.reduceMul, Nat.reduceLT, Nat.reduceLeDiff, Nat.reduceEqDiff, Nat.reduceBEq, Int.reduceToNat, e6, s6, eh, Int.reduceAdd]; try simp (disch := omega) only [wrap_id]))
        all_goals exact ⟨rfl, by simp [SubS, lookS, wV, h6, hp], by simp [SubO, lookO, lnA, zln, srcV, h6, argZ, exprsA], rfl⟩
    · have e6 : decide (op ≤ 6) = false := decide_eq_false h6
      have s6 : decide (1 ≤ op ∧ op ≤ 6) = false := decide_eq_false (by omega)
      repeat' (first | refine ⟨by omega, ?_⟩ | (refine hJ _ _ (RunsL.nil ?_); clear hJ J) | refine RunsA.cond rfl (fun h => ?_) (fun h => absurd h (by decide)) | refine RunsA.cond rfl (fun h => absurd h (by decide)) (fun h => ?_) | (refine step_ ?_) | (refine RunsA.rk 5 [] tabOk fun J hJ => ?_; simp only [go_sem, ↓reduceIte, Nat.reduceAdd, Nat.reduceSub, Nat.reduceMul, Nat.reduceLT, Nat.reduceLeDiff, Nat.reduceEqDiff, Nat.reduceBEq, Int.reduceToNat, e6, s6]; try simp (disch := omega) only [wrap_id]) | (refine hJ _ _ (RunsL.call (ps := []) (rid := 16) rfl rfl rfl rfl rfl (by simp only [go_sem, Nat.reduceEqDiff]; first | done | rfl) (hasSrc_ok _) rfl (by decide) ⟨by decide, by decide, rfl⟩ (by first | exact .inl rfl | exact .inr (.inl rfl) | exact .inr (.inr rfl)) ?_); clear hJ J; rintro r os' ros ⟨rfl, rfl, rfl⟩ _; refine RunsL.go tabOk fun J hJ => ?_; simp only [go_sem, ↓reduceIte, Nat.reduceAdd, Nat.reduceSub, Nat.reduceMul, Nat.reduceLT, Nat.reduceLeDiff, Nat.reduceEqDiff, Nat.reduceBEq, Int.reduceToNat, e6, s6]; try simp (disch := omega) only [wrap_id]))
      all_goals exact ⟨rfl, by simp [SubS, lookS, wV, h6], by simp [SubO, lookO, lnA, zln, srcV, h6, argZ, exprsA], rfl⟩
  refine RunsA.meet ⟨67, [(1, .ptr 512 [] 8 0 0), (2, .ptr 768 [] 17 0 0), (3, .ptr 1024 [] 17 0 0)], [⟨512, 8, [insA op sm sr sx dm dr dx n]⟩, ⟨768, 17, [zln]⟩, ⟨1024, 17, [lnA op (srcV op sm sr sx) (dstV op sm sr dm dr dx) 0 []]⟩], false⟩ ?_ ?_
  · have hA := argOf_ok dm dr dx (wV op sm sr) hd (by unfold wV; split <;> omega)
    simp only [argR0] at hA
    by_cases h15 : op ≤ 15
    · have e15 : decide (op ≤ 15) = true := decide_eq_true h15
      have s15 : decide (1 ≤ op ∧ op ≤ 15) = true := decide_eq_true ⟨hb.1, h15⟩
      have hdv : dstV op sm sr dm dr dx = argV dm dr dx (wV op sm sr) := by unfold dstV wV; rw [if_pos h15]; split <;> rfl
      simp only [lnA, zln]
      repeat' (first | refine ⟨by omega, ?_⟩ | (refine hJ _ _ (RunsL.nil ?_); clear hJ J) | refine RunsA.cond rfl (fun h => ?_) (fun h => absurd h (by decide)) | refine RunsA.cond rfl (fun h => absurd h (by decide)) (fun h => ?_) | (refine step_ ?_) | (refine RunsA.rk 5 [] tabOk fun J hJ => ?_; simp only [go_sem, ↓reduceIte, Nat.reduceAdd, Nat.reduceSub, Nat.reduceMul, Nat.reduceLT, Nat.reduceLeDiff, Nat.reduceEqDiff, Nat.reduceBEq, Int.reduceToNat, e15, s15]; try simp (disch := omega) only [wrap_id]) | (refine hJ _ _ (RunsL.call (ps := []) (rid := 16) rfl rfl rfl rfl rfl (by simp only [go_sem, Nat.reduceEqDiff]; first | done | rfl) (hasDst_ok _) rfl (by decide) ⟨by decide, by decide, rfl⟩ (by first | exact .inl rfl | exact .inr (.inl rfl) | exact .inr (.inr rfl)) ?_); clear hJ J; rintro r os' ros ⟨rfl, rfl, rfl⟩ _; refine RunsL.go tabOk fun J hJ => ?_; simp only [go_sem, ↓reduceIte, Nat.reduceAdd, Nat.reduceSub, Nat.reduceMul, Nat.reduceLT, Nat.reduceLeDiff, Nat.reduceEqDiff, Nat.reduceBEq, Int.reduceToNat, e15, s15]; try simp (disch := omega) only [wrap_id]) | (refine hJ _ _ (RunsL.call (ps := []) (rid := 16) rfl rfl rfl rfl rfl (by simp only [go_sem, Nat.reduceEqDiff]; first | done | rfl) (hA) rfl (by decide) ⟨by decide, by decide, rfl⟩ (by first | exact .inl rfl | exact .inr (.inl rfl) | exact .inr (.inr rfl)) ?_); clear hJ J; rintro r os' ros ⟨rfl, rfl, rfl⟩ _; refine RunsL.go tabOk fun J hJ => ?_; simp only [go_sem, ↓reduceIte, Nat.reduceAdd, Nat.reduceSub, Nat.reduceMul, Nat.reduceLT, Nat.reduceLeDiff, Nat.reduceEqDiff, Nat.reduceBEq, Int.reduceToNat, e15, s15]; try simp (disch := omega) only [wrap_id]))
      all_goals exact ⟨rfl, by simp [SubS, lookS], by simp [SubO, lookO, lnA, zln, hdv, argZ, exprsA], rfl⟩
    · have e15 : decide (op ≤ 15) = false := decide_eq_false h15
      have s15 : decide (1 ≤ op ∧ op ≤ 15) = false := decide_eq_false (by omega)
      have hdv : dstV op sm sr dm dr dx = argZ := by unfold dstV; rw [if_neg h15]
      simp only [lnA, zln]
      repeat' (first | refine ⟨by omega, ?_⟩ | (refine hJ _ _ (RunsL.nil ?_); clear hJ J) | refine RunsA.cond rfl (fun h => ?_) (fun h => absurd h (by decide)) | refine RunsA.cond rfl (fun h => absurd h (by decide)) (fun h => ?_) | (refine step_ ?_) | (refine RunsA.rk 5 [] tabOk fun J hJ => ?_; simp only [go_sem, ↓reduceIte, Nat.reduceAdd, Nat.reduceSub, Nat.reduceMul, Nat.reduceLT, Nat.reduceLeDiff, Nat.reduceEqDiff, Nat.reduceBEq, Int.reduceToNat, e15, s15]; try simp (disch := omega) only [wrap_id]) | (refine hJ _ _ (RunsL.call (ps := []) (rid := 16) rfl rfl rfl rfl rfl (by simp only [go_sem, Nat.reduceEqDiff]; first | done | rfl) (hasDst_ok _) rfl (by decide) ⟨by decide, by decide, rfl⟩ (by first | exact .inl rfl | exact .inr (.inl rfl) | exact .inr (.inr rfl)) ?_); clear hJ J; rintro r os' ros ⟨rfl, rfl, rfl⟩ _; refine RunsL.go tabOk fun J hJ => ?_; simp only [go_sem, ↓reduceIte, Nat.reduceAdd, Nat.reduceSub, Nat.reduceMul, Nat.reduceLT, Nat.reduceLeDiff, Nat.reduceEqDiff, Nat.reduceBEq, Int.reduceToNat, e15, s15]; try simp (disch := omega) only [wrap_id]))
      all_goals exact ⟨rfl, by simp [SubS, lookS], by simp [SubO, lookO, lnA, zln, hdv, argZ, exprsA], rfl⟩
  refine RunsA.meet ⟨67, [(1, .ptr 512 [] 8 0 0), (2, .ptr 768 [] 17 0 0), (3, .ptr 1024 [] 17 0 0)], [⟨512, 8, [insA op sm sr sx dm dr dx n]⟩, ⟨768, 17, [zln]⟩, ⟨1024, 17, [lnA op (srcV op sm sr sx) (dstV op sm sr dm dr dx) (numV op n) (lstV op n)]⟩], false⟩ ?_ ?_
  · have hr2 : op = 15 ∨ op = 16 ∨ (17 ≤ op ∧ op ≤ 21) ∨ op = 23 ∨ (op ≠ 15 ∧ op ≠ 16 ∧ ¬ (17 ≤ op ∧ op ≤ 21) ∧ op ≠ 23) := by omega
    rcases hr2 with hr2 | hr2 | hr2 | hr2 | hr2
    all_goals (first | have eb : decide (17 ≤ op ∧ op ≤ 21) = true := decide_eq_true (by omega) | have eb : decide (17 ≤ op ∧ op ≤ 21) = false := decide_eq_false (by omega))
    all_goals (first | have f15 : (op == 15) = true := beq_iff_eq.2 (by omega) | have f15 : (op == 15) = false := beq_eq_false_iff_ne.2 (by omega))
    all_goals (first | have f16 : (op == 16) = true := beq_iff_eq.2 (by omega) | have f16 : (op == 16) = false := beq_eq_false_iff_ne.2 (by omega))
    all_goals (first | have f23 : (op == 23) = true := beq_iff_eq.2 (by omega) | have f23 : (op == 23) = false := beq_eq_false_iff_ne.2 (by omega))
    all_goals (first | have hnv : numV op n = n := if_pos (by omega) | have hnv : numV op n = 0 := if_neg (by omega))
    all_goals (first | have hlv : lstV op n = [.mk (hereK (2 * n + 2)) 0 [] (hereL (2 * n + 2))] := if_pos (by omega) | have hlv : lstV op n = [.mk 1 (low16 n) [] []] := (if_neg (by omega)).trans (if_pos (by omega)) | have hlv : lstV op n = [] := (if_neg (by omega)).trans (if_neg (by omega)))
    all_goals simp only [lnA, zln]
    all_goals (repeat' (first | refine ⟨by omega, ?_⟩ | (refine hJ _ _ (RunsL.nil ?_); clear hJ J) | refine RunsA.cond rfl (fun h => ?_) (fun h => absurd h (by decide)) | refine RunsA.cond rfl (fun h => absurd h (by decide)) (fun h => ?_) | (refine step_ ?_) | (refine RunsA.rk 5 [] tabOk fun J hJ => ?_; simp only [go_sem, ↓reduceIte, Nat.reduceAdd, Nat.reduceSub, Nat.reduceMul, Nat.reduceLT, Nat.reduceLeDiff, Nat.reduceEqDiff, Nat.reduceBEq, Int.reduceToNat, f15, f16, eb, f23]; try simp (disch := omega) only [wrap_id]) | (refine hJ _ _ (RunsL.call (ps := []) (rid := 16) rfl rfl rfl rfl rfl (by simp only [go_sem, Nat.reduceEqDiff]; first | done | rfl) (isBranch_ok _) rfl (by decide) ⟨by decide, by decide, rfl⟩ (by first | exact .inl rfl | exact .inr (.inl rfl) | exact .inr (.inr rfl)) ?_); clear hJ J; rintro r os' ros ⟨rfl, rfl, rfl⟩ _; refine RunsL.go tabOk fun J hJ => ?_; simp only [go_sem, ↓reduceIte, Nat.reduceAdd, Nat.reduceSub, Nat.reduceMul, Nat.reduceLT, Nat.reduceLeDiff, Nat.reduceEqDiff, Nat.reduceBEq, Int.reduceToNat, f15, f16, eb, f23]; try simp (disch := omega) only [wrap_id]) | (refine hJ _ _ (RunsL.call (ps := []) (rid := 16) rfl rfl rfl rfl rfl (by simp only [go_sem, Nat.reduceEqDiff]; first | done | rfl) (fromHere_ok _) rfl (by decide) ⟨by decide, by decide, rfl⟩ (by first | exact .inl rfl | exact .inr (.inl rfl) | exact .inr (.inr rfl)) ?_); clear hJ J; rintro r os' ros ⟨rfl, rfl, rfl⟩ _; refine RunsL.go tabOk fun J hJ => ?_; simp only [go_sem, ↓reduceIte, Nat.reduceAdd, Nat.reduceSub, Nat.reduceMul, Nat.reduceLT, Nat.reduceLeDiff, Nat.reduceEqDiff, Nat.reduceBEq, Int.reduceToNat, f15, f16, eb, f23]; try simp (disch := omega) only [wrap_id]) | (refine hJ _ _ (RunsL.call (ps := []) (rid := 16) rfl rfl rfl rfl rfl (by simp only [go_sem, Nat.reduceEqDiff]; first | done | rfl) (number_ok _) rfl (by decide) ⟨by decide, by decide, rfl⟩ (by first | exact .inl rfl | exact .inr (.inl rfl) | exact .inr (.inr rfl)) ?_); clear hJ J; rintro r os' ros ⟨rfl, rfl, rfl⟩ _; refine RunsL.go tabOk fun J hJ => ?_; simp only [go_sem, ↓reduceIte, Nat.reduceAdd, Nat.reduceSub, Nat.reduceMul, Nat.reduceLT, Nat.reduceLeDiff, Nat.reduceEqDiff, Nat.reduceBEq, Int.reduceToNat, f15, f16, eb, f23]; try simp (disch := omega) only [wrap_id])))
    all_goals exact ⟨rfl, by simp [SubS, lookS], by simp [SubO, lookO, lnA, zln, hnv, hlv, exprsA, exprA, Int.add_comm], rfl⟩
  simp only [lnA, zln]
  refine run_ ?_
  refine RetA.v tabOk rfl ?_
  simp only [go_sem, ↓reduceIte, Nat.reduceAdd, Nat.reduceSub, Nat.reduceMul, Nat.reduceLT, Nat.reduceLeDiff, Nat.reduceEqDiff, Nat.reduceBEq, Int.reduceToNat]
  refine RetV.det (id := 768) (q := []) (i := 0) (k := 8) (tid := 100) (by simp only [go_sem, ↓reduceIte, Nat.reduceAdd, Nat.reduceSub, Nat.reduceMul, Nat.reduceLT, Nat.reduceLeDiff, Nat.reduceEqDiff, Nat.reduceBEq, Int.reduceToNat]; rfl) ?_
  simp only [go_sem, ↓reduceIte, Nat.reduceAdd, Nat.reduceSub, Nat.reduceMul, Nat.reduceLT, Nat.reduceLeDiff, Nat.reduceEqDiff, Nat.reduceBEq, Int.reduceToNat]
  refine RetV.det (id := 768) (q := []) (i := 0) (k := 14) (tid := 101) (by simp only [go_sem, ↓reduceIte, Nat.reduceAdd, Nat.reduceSub, Nat.reduceMul, Nat.reduceLT, Nat.reduceLeDiff, Nat.reduceEqDiff, Nat.reduceBEq, Int.reduceToNat]; rfl) ?_
  simp only [go_sem, ↓reduceIte, Nat.reduceAdd, Nat.reduceSub, Nat.reduceMul, Nat.reduceLT, Nat.reduceLeDiff, Nat.reduceEqDiff, Nat.reduceBEq, Int.reduceToNat]
  refine RetV.det (id := 768) (q := []) (i := 0) (k := 16) (tid := 102) (by simp only [go_sem, ↓reduceIte, Nat.reduceAdd, Nat.reduceSub, Nat.reduceMul, Nat.reduceLT, Nat.reduceLeDiff, Nat.reduceEqDiff, Nat.reduceBEq, Int.reduceToNat]; rfl) ?_
  simp only [go_sem, ↓reduceIte, Nat.reduceAdd, Nat.reduceSub, Nat.reduceMul, Nat.reduceLT, Nat.reduceLeDiff, Nat.reduceEqDiff, Nat.reduceBEq, Int.reduceToNat]
  refine RetV.mk 3 rfl rfl (by omega) rfl (by simp [noBoO, noBo, noBoL, noBo_exprs]) rfl ?_
  rw [lineV, if_pos hI]
  exact ⟨rfl, rfl, rfl⟩
end Go.Proofs.YtgjeemfggfhibaaGreatDoorFw
namespace Go.Proofs.YtgjeemfggfhibaaGreatDoorFw
open Go Go.RowKit
theorem lineOfInss_ok (op sm sr sx dm dr dx n : Int) :
    FnA Tryz.prog 33 false [insA op sm sr sx dm dr dx n] [] (fun r os ros => r = lineR (lineV op sm sr sx dm dr dx n) ∧ os = [] ∧ ros = lineO (lineV op sm sr sx dm dr dx n)) := by
  by_cases h : InsP op sm sr sx dm dr dx n
  · exact lineOfInss_yes _ _ _ _ _ _ _ _ h
  · exact lineOfInss_no _ _ _ _ _ _ _ _ h
theorem lineOfInsi_ok (op sm sr sx dm dr dx n : Int) :
    FnA Tryz.prog 37 false [insA op sm sr sx dm dr dx n] [] (fun r os ros => r = lineR (lineV op sm sr sx dm dr dx n) ∧ os = [] ∧ ros = lineO (lineV op sm sr sx dm dr dx n)) := by
  by_cases h : InsP op sm sr sx dm dr dx n
  · exact lineOfInsi_yes _ _ _ _ _ _ _ _ h
  · exact lineOfInsi_no _ _ _ _ _ _ _ _ h
theorem hereL_small (n : Int) : ExprV.cntL (hereL n) ≤ 6 ∧ ExprV.totL (hereL n) = 0 ∧ (hereL n).length ≤ 2 := by
  unfold hereL; split <;> simp [ExprV.cntL, ExprV.cnt, ExprV.totL, ExprV.tot]
theorem argV_small (m g x w : Int) : ExprV.cntL (argV m g x w).l ≤ 6 ∧ ExprV.totL (argV m g x w).l = 0 ∧ (argV m g x w).l.length ≤ 2 := by
  have := hereL_small (x + 2 * w + 2)
  unfold argV; (repeat' split) <;> first | exact this | simp [ExprV.cntL, ExprV.totL]
theorem srcV_small (op m g x : Int) : ExprV.cntL (srcV op m g x).l ≤ 6 ∧ ExprV.totL (srcV op m g x).l = 0 ∧ (srcV op m g x).l.length ≤ 2 := by
  unfold srcV; split
  · exact argV_small _ _ _ _
  · simp [argZ, ExprV.cntL, ExprV.totL]
theorem dstV_small (op sm sr m g x : Int) : ExprV.cntL (dstV op sm sr m g x).l ≤ 6 ∧ ExprV.totL (dstV op sm sr m g x).l = 0 ∧ (dstV op sm sr m g x).l.length ≤ 2 := by
  unfold dstV; split
  · split <;> exact argV_small _ _ _ _
  · simp [argZ, ExprV.cntL, ExprV.totL]
theorem lstV_small (op n : Int) : ExprV.cntL (lstV op n) ≤ 9 ∧ ExprV.totL (lstV op n) ≤ 2 ∧ (lstV op n).length ≤ 1 := by
  have := hereL_small (2 * n + 2)
  unfold lstV; (repeat' split) <;> simp [ExprV.cntL, ExprV.cnt, ExprV.totL, ExprV.tot]
  omega
theorem lineV_small (op sm sr sx dm dr dx n : Int) : (lineV op sm sr sx dm dr dx n).cnt ≤ 100 ∧ (lineV op sm sr sx dm dr dx n).tot ≤ 100 := by
  have h1 := srcV_small op sm sr sx
  have h2 := dstV_small op sm sr dm dr dx
  have h3 := lstV_small op n
  unfold lineV; split
  · simp only [LineV.cnt, LineV.tot, ExprV.tot, List.length_nil]; omega
  · simp [LineV.cnt, LineV.tot, ExprV.tot, ExprV.cntL, ExprV.totL]
end Go.Proofs.YtgjeemfggfhibaaGreatDoorFw
