/- Tokens read: the reference's parts. -/
import Derived.Test.YtiilnlihimdnlaaGreatDoorI6
import Derived.Test.YtiilnlihimdnlaaGreatDoorQT
namespace Go.Proofs.YtiilnlihimdnlaaGreatDoorFw
open Go Go.RowKit Go.Proofs
set_option linter.unusedVariables false
set_option linter.unusedSimpArgs false
set_option maxRecDepth 4000
def DigP (n : Nat) : Prop := (48 : Int) ≤ (n : Int) ∧ (n : Int) ≤ 57
instance (n : Nat) : Decidable (DigP n) := by unfold DigP; infer_instance
def SmP (n : Nat) : Prop := (97 : Int) ≤ (n : Int) ∧ (n : Int) ≤ 122
instance (n : Nat) : Decidable (SmP n) := by unfold SmP; infer_instance
def ptQ (b : Bool) (c : UInt8) : Bool := decide (DigP c.toNat) || (b && decide (SmP c.toNat))
def runQ (b : Bool) (s : Str) (a : Nat) : Str := (s.drop a).takeWhile (ptQ b)
theorem runQ_eq (b : Bool) (s : Str) (a i : Nat) (h0 : a ≤ i) (hi : i ≤ s.length) (ht : ∀ j (h : j < s.length), a ≤ j → j < i → ptQ b s[j] = true) (hn : ∀ h : i < s.length, ptQ b s[i] = false) : runQ b s a = (s.drop a).take (i - a) := by
 unfold runQ
 refine takeWhile_take _ _ _ (by rw [List.length_drop]; omega) ?_ ?_
 ·intro j hj hji
  rw [List.length_drop] at hj
  simp only [List.getElem_drop]
  exact ht (a + j) (by omega) (by omega) (by omega)
 ·intro hj
  rw [List.length_drop] at hj
  simp only [List.getElem_drop]
  have e : a + (i - a) = i := by omega
  have := hn (by omega)
  simpa only [e] using this
theorem runQ_len (b : Bool) (s : Str) (a i : Nat) (h0 : a ≤ i) (hi : i ≤ s.length) (ht : ∀ j (h : j < s.length), a ≤ j → j < i → ptQ b s[j] = true) (hn : ∀ h : i < s.length, ptQ b s[i] = false) : a + (runQ b s a).length = i := by
 rw [runQ_eq b s a i h0 hi ht hn, List.length_take, List.length_drop]; omega
theorem runQ_le (b : Bool) (s : Str) (a : Nat) (ha : a ≤ s.length) : a + (runQ b s a).length ≤ s.length := by
 have : (runQ b s a).length ≤ (s.drop a).length := (List.takeWhile_prefix _).length_le
 rw [List.length_drop] at this
 omega
theorem runQ_take (b : Bool) (s : Str) (a : Nat) : (s.drop a).take (runQ b s a).length = runQ b s a := by
 have h : runQ b s a <+: s.drop a := List.takeWhile_prefix _
 exact (List.prefix_iff_eq_take.1 h).symm
theorem runQ_V (s : Str) (a : Nat) : runQ true s a = runV s a := by
 unfold runQ runV
 congr 1
 funext c
 have h : PartP c.toNat ↔ (SmP c.toNat ∨ DigP c.toNat) := Iff.rfl
 by_cases h1 : DigP c.toNat <;> by_cases h2 : SmP c.toNat <;> simp [ptQ, h, h1, h2]
set_option maxHeartbeats 4000000 in
theorem l9Run_ok (s : Str) (a : Nat) (b : Bool) (ha : a ≤ s.length) (hl : s.length ≤ 140737488355328) : FnA Tryz.prog 80 false [.str s, .int .i64 a, .bool b] [] (fun res os ros => res = .int .i64 ((a + (runQ b s a).length : Nat)) ∧ os = [] ∧ ros = []) := by
 refine FnA.of Tryz.func80 rfl (by decide) Tryz.ntmps80 (by simp) ?_
 refine run_ ?_
 refine RunsA.loop ?_
 refine (LoopA.ind (fun i : Nat => ⟨29, [(0, .str s), (1, .int .i64 i), (2, .bool b)], [], false⟩) (fun i => s.length - i) (fun i => a ≤ i ∧ i ≤ s.length ∧ ∀ j (h : j < s.length), a ≤ j → j < i → ptQ b s[j] = true) ?_ a ?_).sub rfl ?_ trivial rfl
 ·rintro i ⟨h0, hi, ht⟩ K3 hK3
  have hfin := runQ_len b s a i h0 hi ht
  by_cases h2 : i < s.length
  ·have hg : s[i]? = some s[i] := List.getElem?_eq_getElem h2
   have hb := byte_lt s[i]
   have e2 : decide ((i : Int) < (s.length : Int)) = true := decide_eq_true (by omega)
   have e22 : ((i : Int) < (s.length : Int)) = True := eq_true (by omega)
   have hyes : ptQ b s[i] = true → ∀ j (h : j < s.length), a ≤ j → j < i + 1 → ptQ b s[j] = true := fun c j hj h3 hji => by
    rcases Nat.lt_or_eq_of_le (Nat.lt_succ_iff.1 hji) with h4 | h4
    ·exact ht j hj h3 h4
    ·subst h4; exact c
   have hfin2 : ptQ b s[i] = false → a + (runQ b s a).length = i := fun c => hfin (fun _ => c)
   have hpt : ptQ b s[i] = (decide (DigP s[i].toNat) || (b && decide (SmP s[i].toNat))) := rfl
   clear hfin ht
   generalize ptQ b s[i] = pq at *
   generalize s[i] = c at *
   generalize hn : c.toNat = n at *
   have hD := l9Digit_ok n hb
   have hS := l9Small_ok n hb
   change FnA Tryz.prog _ _ _ _ (fun res os ros => res = .bool (decide (DigP n)) ∧ os = [] ∧ ros = []) at hD
   change FnA Tryz.prog _ _ _ _ (fun res os ros => res = .bool (decide (SmP n)) ∧ os = [] ∧ ros = []) at hS
   generalize decide (DigP n) = x1 at *
   generalize decide (SmP n) = x2 at *
   cases x1 <;> cases b <;> cases x2 <;> simp only [Bool.or_self, Bool.and_self, Bool.or_true, Bool.true_or, Bool.and_true, Bool.and_false, Bool.false_or, Bool.or_false] at hpt
   all_goals (
    subst hpt
    repeat' (first | refine ⟨by omega, ?_⟩ | (refine hJ _ _ (RunsL.nil ?_); clear hJ J) | refine RunsA.cond rfl (fun h => ?_) (fun h => absurd h (by decide)) | refine RunsA.cond rfl (fun h => absurd h (by decide)) (fun h => ?_) | (refine step_ ?_) | (refine RunsA.rk 6 [] tabOk fun J hJ => ?_; simp only [go_sem, ↓reduceIte, Nat.reduceAdd, Nat.reduceSub, Nat.reduceMul, Nat.reduceLT, Nat.reduceLeDiff, Nat.reduceEqDiff, Nat.reduceBEq, Int.reduceToNat, e2, e22, hg, hn]; try simp (disch := omega) only [wrap_id]) | (refine hJ _ _ (call_ (ps := []) (rid := 16) rfl rfl rfl rfl rfl (hD) ?_); clear hJ J; rintro r os' ros ⟨rfl, rfl, rfl⟩ _; refine RunsL.go tabOk fun J hJ => ?_; simp only [go_sem, ↓reduceIte, Nat.reduceAdd, Nat.reduceSub, Nat.reduceMul, Nat.reduceLT, Nat.reduceLeDiff, Nat.reduceEqDiff, Nat.reduceBEq, Int.reduceToNat, e2, e22, hg, hn]; try simp (disch := omega) only [wrap_id]) | (refine hJ _ _ (call_ (ps := []) (rid := 16) rfl rfl rfl rfl rfl (hS) ?_); clear hJ J; rintro r os' ros ⟨rfl, rfl, rfl⟩ _; refine RunsL.go tabOk fun J hJ => ?_; simp only [go_sem, ↓reduceIte, Nat.reduceAdd, Nat.reduceSub, Nat.reduceMul, Nat.reduceLT, Nat.reduceLeDiff, Nat.reduceEqDiff, Nat.reduceBEq, Int.reduceToNat, e2, e22, hg, hn]; try simp (disch := omega) only [wrap_id]) | simp only [↓reduceIte, not_false_eq_true, e2, e22, hg, hn]))
   all_goals (first
    | exact hK3 (i + 1) _ ⟨by omega, by omega, hyes rfl⟩ (by omega) rfl (by simp [SubS, lookS]) trivial rfl
    | exact RetA.mk tabOk 0 rfl rfl rfl (by omega) rfl rfl rfl ⟨by rw [hfin2 rfl]; rfl, rfl, rfl⟩)
  ·have e2 : decide ((i : Int) < (s.length : Int)) = false := decide_eq_false (by omega)
   have e22 : ((i : Int) < (s.length : Int)) = False := eq_false (by omega)
   have hf := hfin (fun h => absurd h h2)
   repeat' (first | refine ⟨by omega, ?_⟩ | (refine hJ _ _ (RunsL.nil ?_); clear hJ J) | refine RunsA.cond rfl (fun h => ?_) (fun h => absurd h (by decide)) | refine RunsA.cond rfl (fun h => absurd h (by decide)) (fun h => ?_) | (refine step_ ?_) | (refine RunsA.rk 6 [] tabOk fun J hJ => ?_; simp only [go_sem, ↓reduceIte, Nat.reduceAdd, Nat.reduceSub, Nat.reduceMul, Nat.reduceLT, Nat.reduceLeDiff, Nat.reduceEqDiff, Nat.reduceBEq, Int.reduceToNat, e2, e22]; try simp (disch := omega) only [wrap_id]) | simp only [↓reduceIte, not_false_eq_true, e2, e22])
   all_goals exact RetA.mk tabOk 0 rfl rfl rfl (by omega) rfl rfl rfl ⟨by rw [hf]; rfl, rfl, rfl⟩
 ·exact ⟨Nat.le_refl _, ha, fun j _ h1 h2 => by omega⟩
 ·simp [SubS, lookS]
theorem l9Word_ok (s : Str) : FnA Tryz.prog 81 false [.str s] [] (fun res os ros => res = (if s ∈ opW ++ regW then tokA ⟨5, 0, s⟩ else tokA ⟨1, 0, s⟩) ∧ os = [] ∧ ros = []) := by
 have hA := l9At_ok (opW ++ regW) s (by decide)
 have hK := l9Kept_ok
 have hp := atI_pos (opW ++ regW) s
 refine FnA.of Tryz.func81 rfl (by decide) Tryz.ntmps81 (by simp) ?_
 generalize opW ++ regW = KL at *
 generalize atI KL s 0 = a at *
 by_cases c : s ∈ KL
 ·rw [if_pos c]
  rw [decide_eq_true c] at hp
  refine run_ ?_
  refine rg_ ?_
  refine call_ (ps := []) (rid := 1024) rfl rfl rfl rfl rfl (hK) ?_
  rintro r os' ros ⟨rfl, rfl, rfl⟩ _
  refine cg_ ?_
  refine call_ (ps := []) (rid := 16) (hy := by simp only [go_sem, Nat.reduceEqDiff, brw_strs]; first | done | rfl) rfl rfl rfl rfl rfl (hA) ?_
  refine cr1_ @hp ?_
  refine auto1_ 3 [] @hp ?_
  exact RetA.mk tabOk 0 rfl rfl rfl (by omega) rfl rfl rfl ⟨rfl, rfl, rfl⟩
 ·rw [if_neg c]
  rw [decide_eq_false c] at hp
  refine run_ ?_
  refine rg_ ?_
  refine call_ (ps := []) (rid := 1024) rfl rfl rfl rfl rfl (hK) ?_
  rintro r os' ros ⟨rfl, rfl, rfl⟩ _
  refine cg_ ?_
  refine call_ (ps := []) (rid := 16) (hy := by simp only [go_sem, Nat.reduceEqDiff, brw_strs]; first | done | rfl) rfl rfl rfl rfl rfl (hA) ?_
  refine cr1_ @hp ?_
  refine auto1_ 3 [] @hp ?_
  exact RetA.mk tabOk 0 rfl rfl rfl (by omega) rfl rfl rfl ⟨rfl, rfl, rfl⟩
def marksS : Str := [58, 61, 44, 40, 41, 43, 45, 42, 47, 38, 124, 35, 64, 46, 60, 62]
theorem marks_take {i : Nat} (h : i < 16) : (marksS.drop i).take (i + 1 - i) = [marksS[i]'h] := by
 rw [show i + 1 - i = 1 by omega, List.drop_eq_getElem_cons h]; rfl
theorem l9Mark_ok (s : Str) : FnA Tryz.prog 87 false [.str s] [] (fun res os ros => res = .bool (decide (∃ c, c ∈ marksS ∧ s = [c])) ∧ os = [] ∧ ros = []) := by
 have hml : marksS.length = 16 := rfl
 have hsl := @marks_take
 refine FnA.of Tryz.func87 rfl (by decide) Tryz.ntmps87 (by simp) ?_
 refine run_ ?_
 refine RunsA.loop ?_
 refine (LoopA.ind (fun i : Nat => ⟨14, [(0, .str s), (3, .int .i64 i)], [], false⟩) (fun i => 16 - i) (fun i => i ≤ 16 ∧ ∀ j (h : j < 16), j < i → s ≠ [marksS[j]'h]) ?_ 0 ?_).sub rfl ?_ trivial rfl
 ·rintro i ⟨hi, ht⟩ K3 hK3
  by_cases h2 : i < 16
  ·have e2 : decide ((i : Int) < 16) = true := decide_eq_true (by omega)
   have hi1 : ((i : Int) + 1).toNat = i + 1 := by omega
   have hs1 := marks_take h2
   change (([58, 61, 44, 40, 41, 43, 45, 42, 47, 38, 124, 35, 64, 46, 60, 62] : Str).drop i).take (i + 1 - i) = _ at hs1
   have hmem : marksS[i]'h2 ∈ marksS := List.getElem_mem _
   generalize hm : marksS[i]'h2 = m at *
   have hlen : (([58, 61, 44, 40, 41, 43, 45, 42, 47, 38, 124, 35, 64, 46, 60, 62] : Str)).length = 16 := rfl
   by_cases c : s = [m]
   ·have q : (s == [m]) = true := by simp [c]
    have eR : decide (∃ c, c ∈ marksS ∧ s = [c]) = true := decide_eq_true ⟨m, hmem, c⟩
    rw [eR]
    refine auto6_ 4 [] @e2 @hi1 @hs1 @q @hlen @hlen ?_
    exact RetA.mk tabOk 0 rfl rfl rfl (by omega) rfl rfl rfl ⟨rfl, rfl, rfl⟩
   ·have q : (s == [m]) = false := by simp [c]
    have hy : ∀ j (h : j < 16), j < i + 1 → s ≠ [marksS[j]'h] := fun j hj hji => by
     rcases Nat.lt_or_eq_of_le (Nat.lt_succ_iff.1 hji) with h4 | h4
     ·exact ht j hj h4
     ·subst h4; rw [hm]; exact c
    refine auto6_ 4 [] @e2 @hi1 @hs1 @q @hlen @hlen ?_
    exact hK3 (i + 1) _ ⟨by omega, hy⟩ (by omega) rfl (by simp [SubS, lookS]) trivial rfl
  ·have e2 : decide ((i : Int) < 16) = false := decide_eq_false (by omega)
   have eR : decide (∃ c, c ∈ marksS ∧ s = [c]) = false := decide_eq_false (by
    rintro ⟨c, hc, rfl⟩
    obtain ⟨j, hj, e⟩ := List.getElem_of_mem hc
    exact ht j hj (by have : j < 16 := hj; omega) (by rw [e]))
   rw [eR]
   refine auto1_ 4 [] @e2 ?_
   exact RetA.mk tabOk 0 rfl rfl rfl (by omega) rfl rfl rfl ⟨rfl, rfl, rfl⟩
 ·exact ⟨by omega, fun j h1 h2 => by omega⟩
 ·simp [SubS, lookS]
end Go.Proofs.YtiilnlihimdnlaaGreatDoorFw
