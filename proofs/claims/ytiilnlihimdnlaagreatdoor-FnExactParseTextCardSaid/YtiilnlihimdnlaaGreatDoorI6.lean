/- Words of digits of base eight: the program's. -/
import Derived.Test.YtiilnlihimdnlaaGreatDoorI4
import Derived.Test.YtiilnlihimdnlaaGreatDoorQC
namespace Go.Proofs.YtiilnlihimdnlaaGreatDoorFw
open Go Go.RowKit Go.Proofs
set_option linter.unusedVariables false
set_option linter.unusedSimpArgs false
set_option maxRecDepth 4000
def errB (b : Bool) : AV := if b = true then .ifc none else .nilI
def PIntQ (s : Str) (r : AV) : Prop := ∃ (v : Int) (b : Bool), r = .tup [.int .i64 v, errB b] ∧ (∀ N, N ≤ 65535 → octS N = s → b = false ∧ v = N)
set_option maxHeartbeats 4000000 in
theorem parseI_ok (s : Str) (hs : s.length ≤ 140737488355328) : FnA Tryz.prog 145 false [.str s, .int .i64 8, .int .i64 64] [] (fun r os ros => PIntQ s r ∧ os = [] ∧ ros = []) := by
 have hP := parseI0_ok s hs
 refine FnA.of Tryz.func145 rfl (by decide) Tryz.ntmps145 (by simp) ?_
 refine run_ ?_
 refine rg_ ?_
 refine call_ (ps := []) (rid := 16) rfl rfl rfl rfl rfl (hP) ?_
 rintro res os' ros ⟨⟨v, e, rfl, he, hN⟩, rfl, rfl⟩ _
 rcases he with rfl | rfl | rfl
 ·simp only [errI]
  refine cg_ ?_
  refine RunsL.nil ?_
  refine run_ ?_
  refine RunsA.rq tabOk fun J hJ => ?_
  simp only [go_sem, ↓reduceIte, Nat.reduceAdd, Nat.reduceSub, Nat.reduceMul, Nat.reduceLT, Nat.reduceLeDiff, Nat.reduceEqDiff, Nat.reduceBEq, Int.reduceToNat]
  try simp (disch := omega) only [wrap_id]
  refine hJ _ _ (RunsL.ifcEq (b := true) (ms := #[("Error", 85)]) rfl rfl (.inr rfl) (by kernel_rfl) rfl rfl rfl (.inr (.inr ⟨_, rfl⟩)) (fun _ _ _ h => by cases h) rfl ?_); clear hJ J
  refine cg2_ @Bool.not_true @Bool.not_false ?_
  refine RunsL.nil ?_
  refine run_ ?_
  refine RunsA.cond rfl (fun h => absurd h (by decide)) (fun h => ?_)
  refine run_ ?_
  exact RetA.mk tabOk 0 rfl rfl rfl (by omega) rfl rfl rfl ⟨⟨_, false, rfl, fun N h1 h2 => ⟨rfl, (hN N h1 h2).2⟩⟩, rfl, rfl⟩
 ·simp only [errI]
  refine cg_ ?_
  refine RunsL.nil ?_
  refine run_ ?_
  refine RunsA.rq tabOk fun J hJ => ?_
  simp only [go_sem, ↓reduceIte, Nat.reduceAdd, Nat.reduceSub, Nat.reduceMul, Nat.reduceLT, Nat.reduceLeDiff, Nat.reduceEqDiff, Nat.reduceBEq, Int.reduceToNat]
  try simp (disch := omega) only [wrap_id]
  refine hJ _ _ (RunsL.ifcEq (b := false) (ms := #[("Error", 85)]) rfl rfl (.inr rfl) (by kernel_rfl) rfl rfl rfl (.inr (.inr ⟨_, rfl⟩)) (errCmp (some 1)) rfl ?_); clear hJ J
  refine cg2_ @Bool.not_true @Bool.not_false ?_
  refine RunsL.nil ?_
  refine run_ ?_
  refine RunsA.cond rfl (fun h => ?_) (fun h => absurd h (by decide))
  refine run_ ?_
  refine rg_ ?_
  refine call_ (ps := []) (rid := 16) rfl rfl rfl rfl rfl (toErr_ok _ s 1 (by simp) hs) ?_
  rintro res os' ros ⟨rfl, rfl, rfl⟩ _
  refine cg_ ?_
  refine RunsL.nil ?_
  refine run_ ?_
  exact RetA.mk tabOk 0 rfl rfl rfl (by omega) rfl rfl rfl ⟨⟨_, true, rfl, fun N h1 h2 => by have := (hN N h1 h2).1; cases this⟩, rfl, rfl⟩
 ·simp only [errI]
  refine cg_ ?_
  refine RunsL.nil ?_
  refine run_ ?_
  refine RunsA.rq tabOk fun J hJ => ?_
  simp only [go_sem, ↓reduceIte, Nat.reduceAdd, Nat.reduceSub, Nat.reduceMul, Nat.reduceLT, Nat.reduceLeDiff, Nat.reduceEqDiff, Nat.reduceBEq, Int.reduceToNat]
  try simp (disch := omega) only [wrap_id]
  refine hJ _ _ (RunsL.ifcEq (b := false) (ms := #[("Error", 85)]) rfl rfl (.inr rfl) (by kernel_rfl) rfl rfl rfl (.inr (.inr ⟨_, rfl⟩)) (errCmp (some 2)) rfl ?_); clear hJ J
  refine cg2_ @Bool.not_true @Bool.not_false ?_
  refine RunsL.nil ?_
  refine run_ ?_
  refine RunsA.cond rfl (fun h => ?_) (fun h => absurd h (by decide))
  refine run_ ?_
  refine rg_ ?_
  refine call_ (ps := []) (rid := 16) rfl rfl rfl rfl rfl (toErr_ok _ s 2 (by simp) hs) ?_
  rintro res os' ros ⟨rfl, rfl, rfl⟩ _
  refine cg_ ?_
  refine RunsL.nil ?_
  refine run_ ?_
  exact RetA.mk tabOk 0 rfl rfl rfl (by omega) rfl rfl rfl ⟨⟨_, true, rfl, fun N h1 h2 => by have := (hN N h1 h2).1; cases this⟩, rfl, rfl⟩
theorem isWordQ_ok (n : Int) : FnA Tryz.prog 138 false [.int .i64 n] [] (fun r os ros => r = .bool (decide (0 ≤ n ∧ n ≤ 65535)) ∧ os = [] ∧ ros = []) := by
 refine FnA.of Tryz.func138 rfl (by decide) Tryz.ntmps138 (by simp) ?_
 refine run_ ?_
 refine rg_ ?_
 refine call_ (ps := []) (rid := 16) rfl rfl rfl rfl rfl (within_ok n 0 65535) ?_
 refine cr_ ?_
 refine run_ ?_
 exact RetA.mk tabOk 0 rfl rfl rfl (by omega) rfl rfl rfl ⟨rfl, rfl, rfl⟩
set_option maxHeartbeats 4000000 in
theorem ioctP_ok (s : Str) (hs : s.length ≤ 140737488355328) : FnA Tryz.prog 123 false [.str s] [] (fun r os ros => r = octR s ∧ os = [] ∧ ros = []) := by
 have hP := parseI_ok s hs
 refine FnA.of Tryz.func123 rfl (by decide) Tryz.ntmps123 (by simp) ?_
 refine run_ ?_
 refine rg_ ?_
 refine call_ (ps := []) (rid := 16) rfl rfl rfl rfl rfl (hP) ?_
 rintro res os' ros ⟨⟨v, b, rfl, hN⟩, rfl, rfl⟩ _
 cases b with
 | true =>
  have hR : octR s = .tup [.int .i64 0, .bool false] := octR_none (octV_none fun N h1 h2 => by have := (hN N h1 h2).1; cases this)
  simp only [errB, ↓reduceIte]
  refine cg_ ?_
  refine RunsL.nil ?_
  refine run_ ?_
  refine RunsA.rq tabOk fun J hJ => ?_
  simp only [go_sem, ↓reduceIte, Nat.reduceAdd, Nat.reduceSub, Nat.reduceMul, Nat.reduceLT, Nat.reduceLeDiff, Nat.reduceEqDiff, Nat.reduceBEq, Int.reduceToNat]
  try simp (disch := omega) only [wrap_id]
  refine hJ _ _ (RunsL.ifcEq (b := false) (ms := #[("Error", 85)]) rfl rfl (.inr rfl) (by kernel_rfl) rfl rfl rfl (.inr (.inr ⟨_, rfl⟩)) (fun _ _ _ h => by cases h) rfl ?_); clear hJ J
  refine cg2_ @Bool.not_true @Bool.not_false ?_
  refine RunsL.nil ?_
  refine run_ ?_
  refine RunsA.cond rfl (fun h => ?_) (fun h => absurd h (by decide))
  refine run_ ?_
  exact RetA.mk tabOk 0 rfl rfl rfl (by omega) rfl rfl rfl ⟨hR.symm, rfl, rfl⟩
 | false =>
  have hO := ioct_ok v
  simp only [errB, Bool.false_eq_true, ↓reduceIte]
  refine cg_ ?_
  refine RunsL.nil ?_
  refine run_ ?_
  refine RunsA.rq tabOk fun J hJ => ?_
  simp only [go_sem, ↓reduceIte, Nat.reduceAdd, Nat.reduceSub, Nat.reduceMul, Nat.reduceLT, Nat.reduceLeDiff, Nat.reduceEqDiff, Nat.reduceBEq, Int.reduceToNat]
  try simp (disch := omega) only [wrap_id]
  refine hJ _ _ (RunsL.ifcEq (b := true) (ms := #[("Error", 85)]) rfl rfl (.inr rfl) (by kernel_rfl) rfl rfl rfl (.inr (.inr ⟨_, rfl⟩)) (fun _ _ _ h => by cases h) rfl ?_); clear hJ J
  by_cases c1 : 0 ≤ v ∧ v ≤ 65535
  ·have q1 : decide (0 ≤ v ∧ v ≤ 65535) = true := decide_eq_true c1
   obtain ⟨n, rfl⟩ : ∃ n : Nat, v = n := ⟨v.toNat, by omega⟩
   have q3 : decide (((n : Nat) : Int) ≤ 65535) = true := decide_eq_true (by omega)
   rw [wordOf_small (by omega)] at hO
   by_cases c2 : octS n = s
   ·have q2 : (octS n != s) = false := by simp [c2]
    have hR := octR_some (octV_some.2 ⟨by omega, c2⟩)
    refine cg2_ @Bool.not_true @Bool.not_false ?_
    refine call_ (ps := []) (rid := 16) rfl rfl rfl rfl rfl (isWordQ_ok _) ?_
    rintro r os' ros ⟨rfl, rfl, rfl⟩ _
    refine cg4_ @q1 @q3 @true_and @Bool.not_true ?_
    refine call_ (ps := []) (rid := 16) rfl rfl rfl rfl rfl (hO) ?_
    refine cr1_ @q2 ?_
    refine run_ ?_
    refine RunsA.cond rfl (fun h => absurd h (by decide)) (fun h => ?_)
    refine run_ ?_
    exact RetA.mk tabOk 0 rfl rfl rfl (by omega) rfl rfl rfl ⟨hR.symm, rfl, rfl⟩
   ·have q2 : (octS n != s) = true := by simp [c2]
    have hR : octR s = .tup [.int .i64 0, .bool false] := octR_none (octV_none fun N h1 h2 => by
     have := (hN N h1 h2).2
     exact c2 (by rw [show n = N by omega]; exact h2))
    refine cg2_ @Bool.not_true @Bool.not_false ?_
    refine call_ (ps := []) (rid := 16) rfl rfl rfl rfl rfl (isWordQ_ok _) ?_
    rintro r os' ros ⟨rfl, rfl, rfl⟩ _
    refine cg4_ @q1 @q3 @true_and @Bool.not_true ?_
    refine call_ (ps := []) (rid := 16) rfl rfl rfl rfl rfl (hO) ?_
    refine cr1_ @q2 ?_
    refine run_ ?_
    refine RunsA.cond rfl (fun h => ?_) (fun h => absurd h (by decide))
    refine run_ ?_
    exact RetA.mk tabOk 0 rfl rfl rfl (by omega) rfl rfl rfl ⟨hR.symm, rfl, rfl⟩
  ·have q1 : decide (0 ≤ v ∧ v ≤ 65535) = false := decide_eq_false c1
   have hR : octR s = .tup [.int .i64 0, .bool false] := octR_none (octV_none fun N h1 h2 => by
    have := (hN N h1 h2).2
    exact c1 ⟨by omega, by omega⟩)
   refine cg2_ @Bool.not_true @Bool.not_false ?_
   refine call_ (ps := []) (rid := 16) rfl rfl rfl rfl rfl (isWordQ_ok _) ?_
   refine cr2_ @q1 @Bool.not_false ?_
   refine run_ ?_
   refine RunsA.cond rfl (fun h => ?_) (fun h => absurd h (by decide))
   refine run_ ?_
   exact RetA.mk tabOk 0 rfl rfl rfl (by omega) rfl rfl rfl ⟨hR.symm, rfl, rfl⟩
end Go.Proofs.YtiilnlihimdnlaaGreatDoorFw
