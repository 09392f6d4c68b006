/- Terms that are right: the program's. -/
import Derived.Test.YtiilnlihimdnlaaGreatDoorG8
import Derived.Test.YtiilnlihimdnlaaGreatDoorFwE
namespace Go.Proofs.YtiilnlihimdnlaaGreatDoorFw
open Go Go.RowKit
set_option linter.unusedVariables false
set_option linter.unusedSimpArgs false
set_option maxRecDepth 4000
theorem RunsA.meetB {P : Program} {x y : Code} {s : St} {Q : AE → St → Prop} {id : Nat} {Ω : Type} (S : Ω → St) (I : Ω → Prop) (h1 : RunsA P x s (blkR id (thenA (fun s' => ∃ ω, I ω ∧ (S ω).nt = s'.nt ∧ SubS (S ω).slots s'.slots ∧ SubO (S ω).objs s'.objs ∧ (S ω).st = s'.st) Q))) (h2 : ∀ ω, I ω → RunsA P y (S ω) Q) : RunsA P x s (blkR id (thenR P y Q)) :=
 h1.mono fun e s' hq => by
  have key : ∀ e s', thenA (fun s' => ∃ ω, I ω ∧ (S ω).nt = s'.nt ∧ SubS (S ω).slots s'.slots ∧ SubO (S ω).objs s'.objs ∧ (S ω).st = s'.st) Q e s' → thenR P y Q e s' := by
   intro e s' hq
   cases e with
   | normal =>
    obtain ⟨ω, hi, hq⟩ := hq
    exact (h2 ω hi).sub hq.1 hq.2.1 hq.2.2.1 hq.2.2.2
   | exit id => exact hq
   | ret => exact hq
  cases e with
  | normal => exact key .normal s' hq
  | exit j =>
   simp only [blkR] at hq ⊢
   split
   ·rename_i c; rw [if_pos c] at hq; exact key _ _ hq
   ·rename_i c; rw [if_neg c] at hq; exact key (.exit j) _ hq
  | ret => exact key .ret s' hq
theorem isWordP_ok (n : Int) : FnA Tryz.prog 138 false [.int .i64 n] [] (fun r os ros => r = .bool (decide (0 ≤ n ∧ n ≤ 65535)) ∧ os = [] ∧ ros = []) := by
 refine FnA.of Tryz.func138 rfl (by decide) Tryz.ntmps138 (by simp) ?_
 refine run_ ?_
 refine rg_ ?_
 refine call_ (ps := []) (rid := 16) rfl rfl rfl rfl rfl (within_ok n 0 65535) ?_
 refine cr_ ?_
 refine run_ ?_
 exact RetA.mk tabOk 0 rfl rfl rfl (by omega) rfl rfl rfl ⟨rfl, rfl, rfl⟩
theorem isTwoP_ok (n : Int) : FnA Tryz.prog 139 false [.int .i64 n] [] (fun r os ros => r = .bool (decide (5 ≤ n ∧ n ≤ 10)) ∧ os = [] ∧ ros = []) := by
 refine FnA.of Tryz.func139 rfl (by decide) Tryz.ntmps139 (by simp) ?_
 refine run_ ?_
 refine rg_ ?_
 refine call_ (ps := []) (rid := 16) rfl rfl rfl rfl rfl (within_ok n 5 10) ?_
 refine cr_ ?_
 refine run_ ?_
 exact RetA.mk tabOk 0 rfl rfl rfl (by omega) rfl rfl rfl ⟨rfl, rfl, rfl⟩
def TmSt (k n : Int) (s : Str) (l : List ExprV) (d : Int) (more : List (Nat × AV)) : St :=
 ⟨123, (1, .int .i64 d) :: (2, .bool true) :: (3, .ptr 1024 [] 4 0 0) :: more, [⟨1024, 4, [.agg [.int .i64 k, .int .i64 n, .str s, .row .bo 4 (exprsA .bo l)]]⟩], false⟩
def PrtP (k n : Int) (s : Str) (c : Nat) (w : Int) (o : Bool) : Prop := (o = true ∧ (c : Int) = w) ↔ (HereP k n s c ∧ k ≠ 11 ∧ k ≠ 12)
def OneP (D : Int) (Q : ExprV → Prop) (k n : Int) (s : Str) (l : List ExprV) : Prop := 1 ≤ D ∧ (HereP k n s l.length ∧ k ≠ 11 ∧ k ≠ 12) ∧ ∀ e ∈ l, Q e
open Classical in
noncomputable instance (D : Int) (Q : ExprV → Prop) (k n : Int) (s : Str) (l : List ExprV) : Decidable (OneP D Q k n s l) := inferInstance
set_option maxHeartbeats 4000000 in
theorem termOne_ok (D : Int) (hD0 : 0 ≤ D) (hD6 : D ≤ 6) (Q : ExprV → Prop) [∀ e, Decidable (Q e)] (k n : Int) (s : Str) (l : List ExprV) (hf : s.length ≤ 1048576 ∧ l.length ≤ 1048576)
 (hK : 1 ≤ D → ∀ e ∈ l, FnA Tryz.prog 115 false [exprA .bo e, .int .i64 (D - 1), .bool true] [] (fun r os ros => r = .bool (decide (Q e)) ∧ os = [] ∧ ros = [])) :
 FnA Tryz.prog 115 false [exprA .bo (.mk k n s l), .int .i64 D, .bool true] [] (fun r os ros => r = .bool (decide (OneP D Q k n s l)) ∧ os = [] ∧ ros = []) := by
 rw [exprA_mk]
 refine FnA.of Tryz.func115 rfl (by decide) Tryz.ntmps115 (by simp) ?_
 refine run_ ?_
 have f1 : ∀ (b : Bool), (b = true → False) → b = false := fun b h => by cases b <;> simp_all
 refine RunsA.meetB (Ω := Int × Bool) (fun p => TmSt k n s l D [(7, .int .i64 p.1), (8, .bool p.2)]) (fun p => PrtP k n s l.length p.1 p.2) ?_ ?_
 ·by_cases k1 : k = 1
  ·have b1 : (k == 1) = true := by simp [k1]
   refine RunsA.cond rfl (fun h => ?_) (fun h => absurd h (by simp [k1]))
   refine run_ ?_
   refine rg_ ?_
   refine call_ (ps := []) (rid := 16) rfl rfl rfl rfl rfl (isWordP_ok n) ?_
   rintro r os' ros ⟨rfl, rfl, rfl⟩ _
   by_cases hw : 0 ≤ n ∧ n ≤ 65535
   ·rw [decide_eq_true hw]
    by_cases hs : s = []
    ·have bs : (s == []) = true := by simp [hs]
     refine cg1_ @bs ?_
     refine RunsL.nil ?_
     refine run_ ?_
     exact ⟨(0, true), (by unfold PrtP HereP; obtain ⟨a1, e1⟩ := asNum (NameP s); obtain ⟨a2, e2⟩ := asNum (s = []); simp only [e1, e2, true_and, false_and, reduceCtorEq, Bool.false_eq_true, false_iff] at *; omega), rfl, by simp [TmSt, SubS, lookS], by simp [TmSt, SubO, lookO], rfl⟩
    ·have bs : (s == []) = false := by simpa using hs
     refine cg1_ @bs ?_
     refine RunsL.nil ?_
     refine run_ ?_
     exact ⟨(0, false), (by unfold PrtP HereP; obtain ⟨a1, e1⟩ := asNum (NameP s); obtain ⟨a2, e2⟩ := asNum (s = []); simp only [e1, e2, true_and, false_and, reduceCtorEq, Bool.false_eq_true, false_iff] at *; omega), rfl, by simp [TmSt, SubS, lookS], by simp [TmSt, SubO, lookO], rfl⟩
   ·rw [decide_eq_false hw]
    refine cg_ ?_
    refine RunsL.nil ?_
    refine run_ ?_
    exact ⟨(0, false), (by unfold PrtP HereP; obtain ⟨a1, e1⟩ := asNum (NameP s); obtain ⟨a2, e2⟩ := asNum (s = []); simp only [e1, e2, true_and, false_and, reduceCtorEq, Bool.false_eq_true, false_iff] at *; omega), rfl, by simp [TmSt, SubS, lookS], by simp [TmSt, SubO, lookO], rfl⟩
  refine RunsA.cond rfl (fun h => absurd h (by simpa using k1)) (fun h => ?_)
  by_cases k2 : k = 2
  ·have b2 : (k == 2) = true := by simp [k2]
   refine run1_ @b2 ?_
   refine RunsA.cond rfl (fun h => ?_) (fun h => absurd h (by simp))
   by_cases hn : n = 0
   ·have bn : (n == 0) = true := by simp [hn]
    refine run1_ @bn ?_
    refine rg1_ @bn ?_
    refine call_ (ps := []) (rid := 16) rfl rfl rfl rfl rfl (isName_ok s (by omega)) ?_
    rintro r os' ros ⟨rfl, rfl, rfl⟩ _
    by_cases hN : NameP s
    ·rw [decide_eq_true hN]
     refine cg_ ?_
     refine RunsL.nil ?_
     refine run_ ?_
     exact ⟨(0, true), (by unfold PrtP HereP; obtain ⟨a1, e1⟩ := asNum (NameP s); obtain ⟨a2, e2⟩ := asNum (s = []); simp only [e1, e2, true_and, false_and, reduceCtorEq, Bool.false_eq_true, false_iff] at *; omega), rfl, by simp [TmSt, SubS, lookS], by simp [TmSt, SubO, lookO], rfl⟩
    ·rw [decide_eq_false hN]
     refine cg_ ?_
     refine RunsL.nil ?_
     refine run_ ?_
     exact ⟨(0, false), (by unfold PrtP HereP; obtain ⟨a1, e1⟩ := asNum (NameP s); obtain ⟨a2, e2⟩ := asNum (s = []); simp only [e1, e2, true_and, false_and, reduceCtorEq, Bool.false_eq_true, false_iff] at *; omega), rfl, by simp [TmSt, SubS, lookS], by simp [TmSt, SubO, lookO], rfl⟩
   ·have bn : (n == 0) = false := by simpa using hn
    refine run1_ @bn ?_
    exact ⟨(0, false), (by unfold PrtP HereP; obtain ⟨a1, e1⟩ := asNum (NameP s); obtain ⟨a2, e2⟩ := asNum (s = []); simp only [e1, e2, true_and, false_and, reduceCtorEq, Bool.false_eq_true, false_iff] at *; omega), rfl, by simp [TmSt, SubS, lookS], by simp [TmSt, SubO, lookO], rfl⟩
  have b2 : (k == 2) = false := by simpa using k2
  obtain ⟨c12, b12⟩ : ∃ c, (k == 12) = c := ⟨_, rfl⟩
  have step5 : True := trivial
  cases c12 with
  | true =>
   have k12 : k = 12 := by simpa using b12
   have b11 : (k == 11) = false := by simp [k12]
   have b3 : (k == 3) = false := by simp [k12]
   have b4 : (k == 4) = false := by simp [k12]
   refine run2_ @b2 @b12 ?_
   refine RunsA.cond rfl (fun h => absurd h (by simp)) (fun h => ?_)
   refine run1_ @b11 ?_
   refine RunsA.cond rfl (fun h => absurd h (by simp)) (fun h => ?_)
   refine run1_ @b3 ?_
   refine RunsA.cond rfl (fun h => absurd h (by simp)) (fun h => ?_)
   refine run1_ @b4 ?_
   refine RunsA.cond rfl (fun h => absurd h (by simp)) (fun h => ?_)
   refine run_ ?_
   refine rg_ ?_
   refine call_ (ps := []) (rid := 16) rfl rfl rfl rfl rfl (isTwoP_ok k) ?_
   rintro r os' ros ⟨rfl, rfl, rfl⟩ _
   rw [decide_eq_false (show ¬ (5 ≤ k ∧ k ≤ 10) by omega)]
   refine cg_ ?_
   refine RunsL.nil ?_
   refine run_ ?_
   refine RunsA.cond rfl (fun h => absurd h (by simp)) (fun h => ?_)
   refine run_ ?_
   exact ⟨(0, false), (by unfold PrtP HereP; obtain ⟨a1, e1⟩ := asNum (NameP s); obtain ⟨a2, e2⟩ := asNum (s = []); simp only [e1, e2, true_and, false_and, reduceCtorEq, Bool.false_eq_true, false_iff] at *; omega), rfl, by simp [TmSt, SubS, lookS], by simp [TmSt, SubO, lookO], rfl⟩
  | false =>
   have k12 : k ≠ 12 := by simpa using b12
   by_cases k11 : k = 11
   ·have b11 : (k == 11) = true := by simp [k11]
    have b3 : (k == 3) = false := by simp [k11]
    have b4 : (k == 4) = false := by simp [k11]
    refine run2_ @b2 @b12 ?_
    refine RunsA.cond rfl (fun h => absurd h (by simp)) (fun h => ?_)
    refine run1_ @b11 ?_
    refine RunsA.cond rfl (fun h => absurd h (by simp)) (fun h => ?_)
    refine run1_ @b3 ?_
    refine RunsA.cond rfl (fun h => absurd h (by simp)) (fun h => ?_)
    refine run1_ @b4 ?_
    refine RunsA.cond rfl (fun h => absurd h (by simp)) (fun h => ?_)
    refine run_ ?_
    refine rg_ ?_
    refine call_ (ps := []) (rid := 16) rfl rfl rfl rfl rfl (isTwoP_ok k) ?_
    rintro r os' ros ⟨rfl, rfl, rfl⟩ _
    rw [decide_eq_false (show ¬ (5 ≤ k ∧ k ≤ 10) by omega)]
    refine cg_ ?_
    refine RunsL.nil ?_
    refine run_ ?_
    refine RunsA.cond rfl (fun h => absurd h (by simp)) (fun h => ?_)
    refine run_ ?_
    exact ⟨(0, false), (by unfold PrtP HereP; obtain ⟨a1, e1⟩ := asNum (NameP s); obtain ⟨a2, e2⟩ := asNum (s = []); simp only [e1, e2, true_and, false_and, reduceCtorEq, Bool.false_eq_true, false_iff] at *; omega), rfl, by simp [TmSt, SubS, lookS], by simp [TmSt, SubO, lookO], rfl⟩
   have b11 : (k == 11) = false := by simpa using k11
   by_cases k3 : k = 3
   ·have b3 : (k == 3) = true := by simp [k3]
    refine run2_ @b2 @b12 ?_
    refine RunsA.cond rfl (fun h => absurd h (by simp)) (fun h => ?_)
    refine run1_ @b11 ?_
    refine RunsA.cond rfl (fun h => absurd h (by simp)) (fun h => ?_)
    refine run1_ @b3 ?_
    refine RunsA.cond rfl (fun h => ?_) (fun h => absurd h (by simp))
    by_cases hn : n = 0
    ·have bn : (n == 0) = true := by simp [hn]
     by_cases hs : s = []
     ·have bs : (s == []) = true := by simp [hs]
      refine run2_ @bn @bs ?_
      exact ⟨(0, true), (by unfold PrtP HereP; obtain ⟨a1, e1⟩ := asNum (NameP s); obtain ⟨a2, e2⟩ := asNum (s = []); simp only [e1, e2, true_and, false_and, reduceCtorEq, Bool.false_eq_true, false_iff] at *; omega), rfl, by simp [TmSt, SubS, lookS], by simp [TmSt, SubO, lookO], rfl⟩
     ·have bs : (s == []) = false := by simpa using hs
      refine run2_ @bn @bs ?_
      exact ⟨(0, false), (by unfold PrtP HereP; obtain ⟨a1, e1⟩ := asNum (NameP s); obtain ⟨a2, e2⟩ := asNum (s = []); simp only [e1, e2, true_and, false_and, reduceCtorEq, Bool.false_eq_true, false_iff] at *; omega), rfl, by simp [TmSt, SubS, lookS], by simp [TmSt, SubO, lookO], rfl⟩
    ·have bn : (n == 0) = false := by simpa using hn
     refine run1_ @bn ?_
     exact ⟨(0, false), (by unfold PrtP HereP; obtain ⟨a1, e1⟩ := asNum (NameP s); obtain ⟨a2, e2⟩ := asNum (s = []); simp only [e1, e2, true_and, false_and, reduceCtorEq, Bool.false_eq_true, false_iff] at *; omega), rfl, by simp [TmSt, SubS, lookS], by simp [TmSt, SubO, lookO], rfl⟩
   have b3 : (k == 3) = false := by simpa using k3
   by_cases k4 : k = 4
   ·have b4 : (k == 4) = true := by simp [k4]
    refine run2_ @b2 @b12 ?_
    refine RunsA.cond rfl (fun h => absurd h (by simp)) (fun h => ?_)
    refine run1_ @b11 ?_
    refine RunsA.cond rfl (fun h => absurd h (by simp)) (fun h => ?_)
    refine run1_ @b3 ?_
    refine RunsA.cond rfl (fun h => absurd h (by simp)) (fun h => ?_)
    refine run1_ @b4 ?_
    refine RunsA.cond rfl (fun h => ?_) (fun h => absurd h (by simp))
    by_cases hn : n = 0
    ·have bn : (n == 0) = true := by simp [hn]
     by_cases hs : s = []
     ·have bs : (s == []) = true := by simp [hs]
      refine RunsA.dag (Ω := Unit) mixed () [(1, [(0, 0)]), (3, [(1, 1)]), (7, [(3, 2)]), (15, [(7, 3)]), (31, [(15, 4)]), (271, [(15, 8)]), (63, [(31, 5)]), (287, [(31, 8), (271, 4)]), (127, [(63, 6)]), (319, [(63, 8), (287, 5)]), (255, [(127, 7)]), (383, [(127, 8), (319, 6)]), (511, [(255, 8), (383, 7)]), (1023, [(511, 9)])] (by kernel_rfl) ?_
      repeat
       (apply DagP.step
        ·repeat
          (apply EdgesP.cons rfl rfl
           ·intro ω
            refine cgo2_ @bn @bs ?_
            first
             | (refine RunsL.nil ?_; first | exact ⟨ω, LeS.refl _⟩ | exact ⟨ω, les_⟩))
         exact EdgesP.nil)
      refine DagP.done fun ω => ?_
      refine run_ ?_
      exact ⟨(1, true), (by unfold PrtP HereP; obtain ⟨a1, e1⟩ := asNum (NameP s); obtain ⟨a2, e2⟩ := asNum (s = []); simp only [e1, e2, true_and, false_and, reduceCtorEq, Bool.false_eq_true, false_iff] at *; omega), rfl, by simp [TmSt, SubS, lookS], by simp [TmSt, SubO, lookO], rfl⟩
     ·have bs : (s == []) = false := by simpa using hs
      refine RunsA.dag (Ω := Unit) mixed () [(1, [(0, 0)]), (3, [(1, 1)]), (7, [(3, 2)]), (15, [(7, 3)]), (31, [(15, 4)]), (271, [(15, 8)]), (63, [(31, 5)]), (287, [(31, 8), (271, 4)]), (127, [(63, 6)]), (319, [(63, 8), (287, 5)]), (255, [(127, 7)]), (383, [(127, 8), (319, 6)]), (511, [(255, 8), (383, 7)]), (1023, [(511, 9)])] (by kernel_rfl) ?_
      repeat
       (apply DagP.step
        ·repeat
          (apply EdgesP.cons rfl rfl
           ·intro ω
            refine cgo2_ @bn @bs ?_
            first
             | (refine RunsL.nil ?_; first | exact ⟨ω, LeS.refl _⟩ | exact ⟨ω, les_⟩))
         exact EdgesP.nil)
      refine DagP.done fun ω => ?_
      refine run_ ?_
      exact ⟨(1, false), (by unfold PrtP HereP; obtain ⟨a1, e1⟩ := asNum (NameP s); obtain ⟨a2, e2⟩ := asNum (s = []); simp only [e1, e2, true_and, false_and, reduceCtorEq, Bool.false_eq_true, false_iff] at *; omega), rfl, by simp [TmSt, SubS, lookS], by simp [TmSt, SubO, lookO], rfl⟩
    ·have bn : (n == 0) = false := by simpa using hn
     refine RunsA.dag (Ω := Unit) mixed () [(1, [(0, 0)]), (3, [(1, 1)]), (7, [(3, 2)]), (15, [(7, 3)]), (31, [(15, 4)]), (271, [(15, 8)]), (63, [(31, 5)]), (287, [(31, 8), (271, 4)]), (127, [(63, 6)]), (319, [(63, 8), (287, 5)]), (255, [(127, 7)]), (383, [(127, 8), (319, 6)]), (511, [(255, 8), (383, 7)]), (1023, [(511, 9)])] (by kernel_rfl) ?_
     repeat
      (apply DagP.step
       ·repeat
         (apply EdgesP.cons rfl rfl
          ·intro ω
           refine cgo1_ @bn ?_
           first
            | (refine RunsL.nil ?_; first | exact ⟨ω, LeS.refl _⟩ | exact ⟨ω, les_⟩))
        exact EdgesP.nil)
     refine DagP.done fun ω => ?_
     refine run_ ?_
     exact ⟨(1, false), (by unfold PrtP HereP; obtain ⟨a1, e1⟩ := asNum (NameP s); obtain ⟨a2, e2⟩ := asNum (s = []); simp only [e1, e2, true_and, false_and, reduceCtorEq, Bool.false_eq_true, false_iff] at *; omega), rfl, by simp [TmSt, SubS, lookS], by simp [TmSt, SubO, lookO], rfl⟩
   have b4 : (k == 4) = false := by simpa using k4
   by_cases k5 : 5 ≤ k ∧ k ≤ 10
   ·skip
    refine run2_ @b2 @b12 ?_
    refine RunsA.cond rfl (fun h => absurd h (by simp)) (fun h => ?_)
    refine run1_ @b11 ?_
    refine RunsA.cond rfl (fun h => absurd h (by simp)) (fun h => ?_)
    refine run1_ @b3 ?_
    refine RunsA.cond rfl (fun h => absurd h (by simp)) (fun h => ?_)
    refine run1_ @b4 ?_
    refine RunsA.cond rfl (fun h => absurd h (by simp)) (fun h => ?_)
    refine run_ ?_
    refine rg_ ?_
    refine call_ (ps := []) (rid := 16) rfl rfl rfl rfl rfl (isTwoP_ok k) ?_
    rintro r os' ros ⟨rfl, rfl, rfl⟩ _
    rw [decide_eq_true k5]
    refine cg_ ?_
    refine RunsL.nil ?_
    refine run_ ?_
    refine RunsA.cond rfl (fun h => ?_) (fun h => absurd h (by simp))
    by_cases hn : n = 0
    ·have bn : (n == 0) = true := by simp [hn]
     by_cases hs : s = []
     ·have bs : (s == []) = true := by simp [hs]
      refine RunsA.dag (Ω := Unit) mixed () [(1, [(0, 0)]), (3, [(1, 1)]), (7, [(3, 2)]), (15, [(7, 3)]), (31, [(15, 4)]), (271, [(15, 8)]), (63, [(31, 5)]), (287, [(31, 8), (271, 4)]), (127, [(63, 6)]), (319, [(63, 8), (287, 5)]), (255, [(127, 7)]), (383, [(127, 8), (319, 6)]), (511, [(255, 8), (383, 7)]), (1023, [(511, 9)])] (by kernel_rfl) ?_
      repeat
       (apply DagP.step
        ·repeat
          (apply EdgesP.cons rfl rfl
           ·intro ω
            refine cgo2_ @bn @bs ?_
            first
             | (refine RunsL.nil ?_; first | exact ⟨ω, LeS.refl _⟩ | exact ⟨ω, les_⟩))
         exact EdgesP.nil)
      refine DagP.done fun ω => ?_
      refine run_ ?_
      exact ⟨(2, true), (by unfold PrtP HereP; obtain ⟨a1, e1⟩ := asNum (NameP s); obtain ⟨a2, e2⟩ := asNum (s = []); simp only [e1, e2, true_and, false_and, reduceCtorEq, Bool.false_eq_true, false_iff] at *; omega), rfl, by simp [TmSt, SubS, lookS], by simp [TmSt, SubO, lookO], rfl⟩
     ·have bs : (s == []) = false := by simpa using hs
      refine RunsA.dag (Ω := Unit) mixed () [(1, [(0, 0)]), (3, [(1, 1)]), (7, [(3, 2)]), (15, [(7, 3)]), (31, [(15, 4)]), (271, [(15, 8)]), (63, [(31, 5)]), (287, [(31, 8), (271, 4)]), (127, [(63, 6)]), (319, [(63, 8), (287, 5)]), (255, [(127, 7)]), (383, [(127, 8), (319, 6)]), (511, [(255, 8), (383, 7)]), (1023, [(511, 9)])] (by kernel_rfl) ?_
      repeat
       (apply DagP.step
        ·repeat
          (apply EdgesP.cons rfl rfl
           ·intro ω
            refine cgo2_ @bn @bs ?_
            first
             | (refine RunsL.nil ?_; first | exact ⟨ω, LeS.refl _⟩ | exact ⟨ω, les_⟩))
         exact EdgesP.nil)
      refine DagP.done fun ω => ?_
      refine run_ ?_
      exact ⟨(2, false), (by unfold PrtP HereP; obtain ⟨a1, e1⟩ := asNum (NameP s); obtain ⟨a2, e2⟩ := asNum (s = []); simp only [e1, e2, true_and, false_and, reduceCtorEq, Bool.false_eq_true, false_iff] at *; omega), rfl, by simp [TmSt, SubS, lookS], by simp [TmSt, SubO, lookO], rfl⟩
    ·have bn : (n == 0) = false := by simpa using hn
     refine RunsA.dag (Ω := Unit) mixed () [(1, [(0, 0)]), (3, [(1, 1)]), (7, [(3, 2)]), (15, [(7, 3)]), (31, [(15, 4)]), (271, [(15, 8)]), (63, [(31, 5)]), (287, [(31, 8), (271, 4)]), (127, [(63, 6)]), (319, [(63, 8), (287, 5)]), (255, [(127, 7)]), (383, [(127, 8), (319, 6)]), (511, [(255, 8), (383, 7)]), (1023, [(511, 9)])] (by kernel_rfl) ?_
     repeat
      (apply DagP.step
       ·repeat
         (apply EdgesP.cons rfl rfl
          ·intro ω
           refine cgo1_ @bn ?_
           first
            | (refine RunsL.nil ?_; first | exact ⟨ω, LeS.refl _⟩ | exact ⟨ω, les_⟩))
        exact EdgesP.nil)
     refine DagP.done fun ω => ?_
     refine run_ ?_
     exact ⟨(2, false), (by unfold PrtP HereP; obtain ⟨a1, e1⟩ := asNum (NameP s); obtain ⟨a2, e2⟩ := asNum (s = []); simp only [e1, e2, true_and, false_and, reduceCtorEq, Bool.false_eq_true, false_iff] at *; omega), rfl, by simp [TmSt, SubS, lookS], by simp [TmSt, SubO, lookO], rfl⟩
   refine run2_ @b2 @b12 ?_
   refine RunsA.cond rfl (fun h => absurd h (by simp)) (fun h => ?_)
   refine run1_ @b11 ?_
   refine RunsA.cond rfl (fun h => absurd h (by simp)) (fun h => ?_)
   refine run1_ @b3 ?_
   refine RunsA.cond rfl (fun h => absurd h (by simp)) (fun h => ?_)
   refine run1_ @b4 ?_
   refine RunsA.cond rfl (fun h => absurd h (by simp)) (fun h => ?_)
   refine run_ ?_
   refine rg_ ?_
   refine call_ (ps := []) (rid := 16) rfl rfl rfl rfl rfl (isTwoP_ok k) ?_
   rintro r os' ros ⟨rfl, rfl, rfl⟩ _
   rw [decide_eq_false k5]
   refine cg_ ?_
   refine RunsL.nil ?_
   refine run_ ?_
   refine RunsA.cond rfl (fun h => absurd h (by simp)) (fun h => ?_)
   refine run_ ?_
   exact ⟨(0, false), (by unfold PrtP HereP; obtain ⟨a1, e1⟩ := asNum (NameP s); obtain ⟨a2, e2⟩ := asNum (s = []); simp only [e1, e2, true_and, false_and, reduceCtorEq, Bool.false_eq_true, false_iff] at *; omega), rfl, by simp [TmSt, SubS, lookS], by simp [TmSt, SubO, lookO], rfl⟩
 ·rintro ⟨w, o⟩ hP
  simp only at hP
  simp only [TmSt]
  unfold PrtP at hP
  have hTT : OneP D Q k n s l ↔ 1 ≤ D ∧ (HereP k n s l.length ∧ k ≠ 11 ∧ k ≠ 12) ∧ ∀ e ∈ l, Q e := Iff.rfl
  rw [← hP] at hTT
  cases o with
  | false =>
   have hT : ¬ OneP D Q k n s l := fun h => by have := (hTT.1 h).2.1.1; cases this
   refine run_ ?_
   refine RunsA.cond rfl (fun h => ?_) (fun h => absurd h (by simp))
   refine run_ ?_
   exact RetA.mk tabOk 0 rfl rfl rfl (by omega) rfl rfl rfl ⟨by rw [decide_eq_false hT]; rfl, rfl, rfl⟩
  | true =>
   by_cases hDl : D < 1
   ·have hd1 : decide (D < 1) = true := decide_eq_true hDl
    have hT : ¬ OneP D Q k n s l := fun h => by have := (hTT.1 h).1; omega
    refine run1_ @hd1 ?_
    refine RunsA.cond rfl (fun h => ?_) (fun h => absurd h (by simp))
    refine run_ ?_
    exact RetA.mk tabOk 0 rfl rfl rfl (by omega) rfl rfl rfl ⟨by rw [decide_eq_false hT]; rfl, rfl, rfl⟩
   have hd1 : decide (D < 1) = false := decide_eq_false hDl
   have hK := hK (by omega)
   by_cases hc : (l.length : Int) = w
   ·have bc : ((l.length : Int) != w) = false := by simp [hc]
    have hT : OneP D Q k n s l ↔ ∀ e ∈ l, Q e := ⟨fun h => (hTT.1 h).2.2, fun h => hTT.2 ⟨by omega, ⟨rfl, hc⟩, h⟩⟩
    refine run3_ @hd1 @exprsA_len @bc ?_
    refine RunsA.cond rfl (fun h => absurd h (by simp [hc])) (fun h => ?_)
    refine run1_ @exprsA_len ?_
    refine RunsA.loop ?_
    refine (LoopA.ind (fun i : Nat => ⟨123, [(1, .int .i64 D), (2, .bool true), (110, .row .bo 4 (exprsA .bo l)), (111, .int .i64 (l.length : Nat)), (112, .int .i64 i)], [], false⟩) (fun i => l.length - i) (fun i => i ≤ l.length ∧ ∀ e ∈ l.take i, Q e) ?_ 0 ?_).sub rfl ?_ trivial rfl
    ·rintro i ⟨hi, hall⟩ K3 hK3
     refine run_ ?_
     refine RunsA.cond rfl (fun h2 => ?_) (fun h2 => ?_)
     ·simp only [decide_eq_true_eq] at h2
      have hilt : i < l.length := by omega
      have hg := exprsA_get .bo hilt
      have HH := hK _ (List.getElem_mem hilt)
      have hmem := List.getElem_mem hilt
      have htk : l.take (i + 1) = l.take i ++ [l[i]] := take_snoc hilt
      generalize l[i] = e at *
      rw [exprA_un2] at hg HH
      refine run2_ @hg @exprsA_len ?_
      refine rg_ ?_
      refine call_ (ps := []) (rid := 16) (hy := by simp only [go_sem, Nat.reduceEqDiff, brw_exprs]; first | done | rfl) rfl rfl rfl rfl rfl (HH) ?_
      rintro r os' ros ⟨rfl, rfl, rfl⟩ _
      by_cases ce : Q e
      ·rw [decide_eq_true ce]
       refine cg_ ?_
       refine RunsL.nil ?_
       refine run_ ?_
       refine RunsA.cond rfl (fun h => absurd h (by simp)) (fun h => ?_)
       refine run_ ?_
       refine hK3 (i + 1) _ ⟨by omega, fun x hx => ?_⟩ (by omega) rfl (by simp [SubS, lookS]) (by simp [SubO, lookO]) rfl
       rw [htk] at hx
       rcases List.mem_append.1 hx with hx | hx
       ·exact hall x hx
       ·rw [List.mem_singleton.1 hx]; exact ce
      ·rw [decide_eq_false ce]
       refine cg_ ?_
       refine RunsL.nil ?_
       refine run_ ?_
       refine RunsA.cond rfl (fun h => ?_) (fun h => absurd h (by simp))
       refine run_ ?_
       exact RetA.mk tabOk 0 rfl rfl rfl (by omega) rfl rfl rfl ⟨by rw [decide_eq_false (fun hc => ce (hT.1 hc e hmem))]; rfl, rfl, rfl⟩
     ·simp only [decide_eq_false_iff_not] at h2
      have hil : i = l.length := by omega
      subst hil
      rw [List.take_length] at hall
      refine run_ ?_
      exact RetA.mk tabOk 0 rfl rfl rfl (by omega) rfl rfl rfl ⟨by rw [decide_eq_true (hT.2 hall)]; rfl, rfl, rfl⟩
    ·exact ⟨Nat.zero_le _, by simp⟩
    ·simp [SubS, lookS]
   ·have bc : ((l.length : Int) != w) = true := by simp [hc]
    have hT : ¬ OneP D Q k n s l := fun h => hc (hTT.1 h).2.1.2
    refine run3_ @hd1 @exprsA_len @bc ?_
    refine RunsA.cond rfl (fun h => ?_) (fun h => absurd h (by simp [hc]))
    refine run_ ?_
    exact RetA.mk tabOk 0 rfl rfl rfl (by omega) rfl rfl rfl ⟨by rw [decide_eq_false hT]; rfl, rfl, rfl⟩
theorem termOk_ok : ∀ (d : Nat), d ≤ 6 → ∀ e : ExprV, e.tot ≤ 1048576 →
 FnA Tryz.prog 115 false [exprA .bo e, .int .i64 (d : Int), .bool true] [] (fun r os ros => r = .bool (decide (TermP d true e)) ∧ os = [] ∧ ros = []) := by
 intro d
 induction d with
 | zero =>
  intro hd e hf
  obtain ⟨k, n, s, l⟩ := e
  have ht : (ExprV.mk k n s l).tot = s.length + (l.length + ExprV.totL l) := rfl
  refine (termOne_ok 0 (by omega) (by omega) (fun _ => True) k n s l (by omega) (fun h => by omega)).mono ?_
  rintro r os ros ⟨rfl, h2, h3⟩
  refine ⟨?_, h2, h3⟩
  rw [decide_eq_false (show ¬ OneP 0 (fun _ => True) k n s l from fun h => by have := h.1; omega), decide_eq_false (by simp [TermP])]
 | succ d ih =>
  intro hd e hf
  obtain ⟨k, n, s, l⟩ := e
  have ht : (ExprV.mk k n s l).tot = s.length + (l.length + ExprV.totL l) := rfl
  refine (termOne_ok ((d + 1 : Nat) : Int) (by omega) (by omega) (TermP d true) k n s l (by omega) (fun _ e he => by rw [show ((d + 1 : Nat) : Int) - 1 = (d : Int) by omega]; exact ih (by omega) e (by have := ExprV.totL_mem he; omega))).mono ?_
  rintro r os ros ⟨rfl, h2, h3⟩
  refine ⟨?_, h2, h3⟩
  have : OneP ((d + 1 : Nat) : Int) (TermP d true) k n s l ↔ TermP (d + 1) true (.mk k n s l) := by
   rw [TermP]
   exact ⟨fun h => ⟨h.2.1.1, fun _ => h.2.1.2, h.2.2⟩, fun h => ⟨by omega, ⟨h.1, h.2.1 rfl⟩, h.2.2⟩⟩
  congr 1
  exact decide_eq_decide.2 this
theorem plainI_ok (e : ExprV) (hf : e.tot ≤ 1048576) : FnA Tryz.prog 70 false [exprA .bo e] [] (fun r os ros => r = .bool (decide (TermP 6 true e)) ∧ os = [] ∧ ros = []) := by
 have h := termOk_ok 6 (by omega) e hf
 rw [exprA_un2] at *
 refine FnA.of Tryz.func70 rfl (by decide) Tryz.ntmps70 (by simp) ?_
 refine run_ ?_
 refine rg_ ?_
 refine call_ (ps := []) (rid := 16) (hy := by simp only [go_sem, Nat.reduceEqDiff, brw_exprs]; first | done | rfl) rfl rfl rfl rfl rfl (h) ?_
 refine cr_ ?_
 refine run_ ?_
 exact RetA.mk tabOk 0 rfl rfl rfl (by omega) rfl rfl rfl ⟨rfl, rfl, rfl⟩
end Go.Proofs.YtiilnlihimdnlaaGreatDoorFw
