/- A parser over tokens: the program's. -/
import Derived.Test.YtiilnlihimdnlaaGreatDoorQT
import Derived.Test.YtiilnlihimdnlaaGreatDoorQG
import Derived.Test.YtiilnlihimdnlaaGreatDoorFwE
set_option linter.unusedVariables false
set_option linter.unusedSimpArgs false
set_option maxRecDepth 4000
namespace Go.Proofs.YtiilnlihimdnlaaGreatDoorFw
open Go Go.RowKit
def prO (l : List TokV) (b : Bool) : List (Nat × List AV) := [(2, [.agg [.row .ro 3 (toksA l), .bool b]])]
def isM (l : List TokV) (m : Str) : Bool := match l with
 | [] => false
 | t :: _ => scEqL [.int .i64 t.k, .int .i64 t.n, .str t.s] [.int .i64 4, .int .i64 0, .str m]
def nxT (l : List TokV) (b : Bool) : TokV × List TokV × Bool := if b = true then (⟨0, 0, []⟩, l, true) else match l with
 | [] => (⟨0, 0, []⟩, [], true)
 | t :: r => (t, r, false)
theorem toksA_cons (t : TokV) (r : List TokV) : toksA (t :: r) = .agg [.int .i64 t.k, .int .i64 t.n, .str t.s] :: toksA r := rfl
theorem toks_tail (r : List TokV) : (toksA r).take (r.length + 1 - 1) = toksA r := by rw [Nat.add_sub_cancel, List.take_of_length_le (by rw [toksA_len]; exact Nat.le_refl _)]
set_option maxHeartbeats 4000000 in
theorem pNext_ok (l : List TokV) (b : Bool) (hl : l.length ≤ 140737488355328) : FnA Tryz.prog 64 false [.ptr 0 [] 2 0 0] (prO l b)
 (fun r os ros => r = tokA (nxT l b).1 ∧ os = prO (nxT l b).2.1 (nxT l b).2.2 ∧ ros = []) := by
 have htl := toks_tail
 unfold prO
 refine FnA.of Tryz.func64 rfl (by decide) Tryz.ntmps64 (by simp) ?_
 cases b with
 | true =>
  refine auto1_ 4 [] @toksA_len ?_
  exact RetA.mk tabOk 0 rfl rfl rfl (by omega) rfl rfl rfl ⟨rfl, rfl, rfl⟩
 | false =>
  cases l with
  | nil =>
   have e0 : toksA ([] : List TokV) = [] := rfl
   repeat' (first | refine ⟨by omega, ?_⟩ | (refine hJ _ _ (RunsL.nil ?_); clear hJ J) | refine RunsA.cond rfl (fun h => ?_) (fun h => absurd h (by decide)) | refine RunsA.cond rfl (fun h => absurd h (by decide)) (fun h => ?_) | (refine step_ ?_) | (refine RunsA.rk 4 [] tabOk fun J hJ => ?_; simp only [go_sem, ↓reduceIte, Nat.reduceAdd, Nat.reduceSub, Nat.reduceMul, Nat.reduceLT, Nat.reduceLeDiff, Nat.reduceEqDiff, Nat.reduceBEq, Int.reduceToNat, e0, List.length_nil, Int.reduceBEq]; try simp (disch := omega) only [wrap_id]) | simp only [↓reduceIte, not_false_eq_true, e0, List.length_nil, Int.reduceBEq])
   exact RetA.mk tabOk 0 rfl rfl rfl (by omega) rfl rfl rfl ⟨rfl, rfl, rfl⟩
  | cons t r =>
   rw [toksA_cons]
   simp only [List.length_cons] at hl
   have q : (((r.length + 1 : Nat) : Int) == 0) = false := beq_eq_false_iff_ne.2 (by omega)
   have q' : (((r.length + 1 : Nat) : Int) = 0) = False := eq_false (by omega)
   repeat' (first | refine ⟨by omega, ?_⟩ | (refine hJ _ _ (RunsL.nil ?_); clear hJ J) | refine RunsA.cond rfl (fun h => ?_) (fun h => absurd h (by decide)) | refine RunsA.cond rfl (fun h => absurd h (by decide)) (fun h => ?_) | (refine step_ ?_) | (refine RunsA.rk 4 [] tabOk fun J hJ => ?_; simp only [go_sem, ↓reduceIte, Nat.reduceAdd, Nat.reduceSub, Nat.reduceMul, Nat.reduceLT, Nat.reduceLeDiff, Nat.reduceEqDiff, Nat.reduceBEq, Int.reduceToNat, toksA_len, List.length_cons, q, q', toks_tail]; try simp (disch := omega) only [wrap_id]) | simp only [↓reduceIte, not_false_eq_true, toksA_len, List.length_cons, q, q', toks_tail])
   exact RetA.mk tabOk 0 rfl rfl rfl (by omega) rfl rfl rfl ⟨rfl, rfl, rfl⟩
theorem isM_cons (t : TokV) (r : List TokV) (m : Str) : isM (t :: r) m = scEqL [.int .i64 t.k, .int .i64 t.n, .str t.s] [.int .i64 4, .int .i64 0, .str m] := rfl
set_option maxHeartbeats 4000000 in
theorem pIsMark_ok (l : List TokV) (b : Bool) (m : Str) (hl : l.length ≤ 140737488355328) : FnA Tryz.prog 56 false [.ptr 0 [] 2 0 0, .str m] (prO l b)
 (fun r os ros => r = .bool (isM l m) ∧ os = prO l b ∧ ros = []) := by
 unfold prO
 refine FnA.of Tryz.func56 rfl (by decide) Tryz.ntmps56 (by simp) ?_
 refine run_ ?_
 cases l with
 | nil =>
  have e0 : toksA ([] : List TokV) = [] := rfl
  refine RunsA.dag (Ω := Unit) mixed () [(1, [(0, 0)]), (3, [(1, 1)]), (7, [(3, 2)]), (15, [(7, 3)]), (31, [(15, 4)]), (63, [(31, 5)]), (127, [(63, 6)]), (255, [(127, 7)]), (8319, [(127, 13)]), (511, [(255, 8)]), (8447, [(255, 13), (8319, 7)]), (24703, [(8319, 14)]), (1023, [(511, 9)]), (8703, [(511, 13), (8447, 8)]), (24831, [(8447, 14), (24703, 7)]), (2047, [(1023, 10)]), (9215, [(1023, 13), (8703, 9)]), (25087, [(8703, 14), (24831, 8)]), (4095, [(2047, 11)]), (10239, [(2047, 13), (9215, 10)]), (25599, [(9215, 14), (25087, 9)]), (8191, [(4095, 12)]), (12287, [(4095, 13), (10239, 11)]), (26623, [(10239, 14), (25599, 10)]), (16383, [(8191, 13), (12287, 12)]), (28671, [(12287, 14), (26623, 11)]), (32767, [(16383, 14), (28671, 12)]), (65535, [(32767, 15)]), (131071, [(65535, 16)]), (262143, [(131071, 17)])] (by kernel_rfl) ?_
  repeat
   (apply DagP.step
    ·repeat
      (apply EdgesP.cons rfl rfl
       ·intro ω
        refine RunsL.go tabOk fun J hJ => ?_
        simp only [go_sem, ↓reduceIte, Nat.reduceAdd, Nat.reduceSub, Nat.reduceMul, Nat.reduceLT, Nat.reduceLeDiff, Nat.reduceEqDiff, Nat.reduceBEq, Int.reduceToNat, e0, List.length_nil]
        try simp (disch := omega) only [wrap_id]
        (repeat refine ⟨by omega, ?_⟩)
        first
         | (refine hJ _ _ (RunsL.nil ?_); clear hJ J; first | exact ⟨ω, LeS.refl _⟩ | exact ⟨ω, les_⟩))
     exact EdgesP.nil)
  refine DagP.done fun ω => ?_
  refine run_ ?_
  exact RetA.mk tabOk 0 rfl rfl rfl (by omega) rfl rfl rfl ⟨rfl, rfl, rfl⟩
 | cons t r =>
  rw [toksA_cons]
  simp only [List.length_cons] at hl
  have q : decide ((0 : Int) < ((r.length + 1 : Nat) : Int)) = true := decide_eq_true (by omega)
  have q' : ((0 : Int) < ((r.length + 1 : Nat) : Int)) = True := eq_true (by omega)
  have hM := markTi_ok m
  rw [isM_cons]
  refine RunsA.dag (Ω := Unit) mixed () [(1, [(0, 0)]), (3, [(1, 1)]), (7, [(3, 2)]), (15, [(7, 3)]), (31, [(15, 4)]), (63, [(31, 5)]), (127, [(63, 6)]), (255, [(127, 7)]), (8319, [(127, 13)]), (511, [(255, 8)]), (8447, [(255, 13), (8319, 7)]), (24703, [(8319, 14)]), (1023, [(511, 9)]), (8703, [(511, 13), (8447, 8)]), (24831, [(8447, 14), (24703, 7)]), (2047, [(1023, 10)]), (9215, [(1023, 13), (8703, 9)]), (25087, [(8703, 14), (24831, 8)]), (4095, [(2047, 11)]), (10239, [(2047, 13), (9215, 10)]), (25599, [(9215, 14), (25087, 9)]), (8191, [(4095, 12)]), (12287, [(4095, 13), (10239, 11)]), (26623, [(10239, 14), (25599, 10)]), (16383, [(8191, 13), (12287, 12)]), (28671, [(12287, 14), (26623, 11)]), (32767, [(16383, 14), (28671, 12)]), (65535, [(32767, 15)]), (131071, [(65535, 16)]), (262143, [(131071, 17)])] (by kernel_rfl) ?_
  repeat
   (apply DagP.step
    ·repeat
      (apply EdgesP.cons rfl rfl
       ·intro ω
        refine RunsL.go tabOk fun J hJ => ?_
        simp only [go_sem, ↓reduceIte, Nat.reduceAdd, Nat.reduceSub, Nat.reduceMul, Nat.reduceLT, Nat.reduceLeDiff, Nat.reduceEqDiff, Nat.reduceBEq, Int.reduceToNat, toksA_len, List.length_cons, q, q']
        try simp (disch := omega) only [wrap_id]
        (repeat refine ⟨by omega, ?_⟩)
        first
         | (refine hJ _ _ (RunsL.nil ?_); clear hJ J; first | exact ⟨ω, LeS.refl _⟩ | exact ⟨ω, les_⟩)
         | (refine hJ _ _ (call_ (ps := []) (rid := 16) (hy := by simp only [go_sem, Nat.reduceEqDiff, toksA_len, List.length_cons, q, q']; first | done | rfl) rfl rfl rfl rfl rfl (hM) ?_); clear hJ J
            rintro r os' ros ⟨rfl, rfl, rfl⟩ _
            refine RunsL.go tabOk fun J hJ => ?_
            simp only [go_sem, ↓reduceIte, Nat.reduceAdd, Nat.reduceSub, Nat.reduceMul, Nat.reduceLT, Nat.reduceLeDiff, Nat.reduceEqDiff, Nat.reduceBEq, Int.reduceToNat, toksA_len, List.length_cons, q, q']
            try simp (disch := omega) only [wrap_id]
            (repeat refine ⟨by omega, ?_⟩)
            refine hJ _ _ (RunsL.nil ?_)
            clear hJ J
            first | exact ⟨ω, LeS.refl _⟩ | exact ⟨ω, les_⟩)
         | ((refine hJ _ _ (RunsL.eqTwo [.int .i64 t.k, .int .i64 t.n, .str t.s] [.int .i64 4, .int .i64 0, .str m] rfl rfl (by kernel_rfl) rfl rfl rfl rfl (scEqL [.int .i64 t.k, .int .i64 t.n, .str t.s] [.int .i64 4, .int .i64 0, .str m]) (.inl ⟨rfl, rfl⟩) ?_); clear hJ J)
            refine RunsL.go tabOk fun J hJ => ?_
            simp only [go_sem, ↓reduceIte, Nat.reduceAdd, Nat.reduceSub, Nat.reduceMul, Nat.reduceLT, Nat.reduceLeDiff, Nat.reduceEqDiff, Nat.reduceBEq, Int.reduceToNat, toksA_len, List.length_cons, q, q']
            try simp (disch := omega) only [wrap_id]
            (repeat refine ⟨by omega, ?_⟩)
            refine hJ _ _ (RunsL.nil ?_)
            clear hJ J
            first | exact ⟨ω, LeS.refl _⟩ | exact ⟨ω, les_⟩))
     exact EdgesP.nil)
  refine DagP.done fun ω => ?_
  refine run_ ?_
  exact RetA.mk tabOk 0 rfl rfl rfl (by omega) rfl rfl rfl ⟨rfl, rfl, rfl⟩
end Go.Proofs.YtiilnlihimdnlaaGreatDoorFw
namespace Go.Proofs.YtiilnlihimdnlaaGreatDoorFw
open Go Go.RowKit
def tkL (l : List TokV) (m : Str) : List TokV := if isM l m = true then l.tail else l
def nmT (l : List TokV) (b : Bool) : Str × List TokV × Bool := ((nxT l b).1.s, (nxT l b).2.1, (nxT l b).2.2 || (nxT l b).1.k != 1)
theorem tkL_len (l : List TokV) (m : Str) : (tkL l m).length ≤ l.length := by unfold tkL; split <;> simp
theorem nxT_len (l : List TokV) (b : Bool) : (nxT l b).2.1.length ≤ l.length := by
 unfold nxT; split
 ·simp
 ·cases l <;> simp
theorem isM_ne {l : List TokV} {m : Str} (h : isM l m = true) : ∃ t r, l = t :: r := by
 cases l with
 | nil => simp [isM] at h
 | cons t r => exact ⟨t, r, rfl⟩
set_option maxHeartbeats 4000000 in
theorem pTake_ok (l : List TokV) (b : Bool) (m : Str) (hl : l.length ≤ 140737488355328) : FnA Tryz.prog 57 false [.ptr 0 [] 2 0 0, .str m] (prO l b)
 (fun r os ros => r = .bool (isM l m) ∧ os = prO (tkL l m) b ∧ ros = []) := by
 have hM := pIsMark_ok l b m hl
 refine FnA.of Tryz.func57 rfl (by decide) Tryz.ntmps57 (by simp [prO]) ?_
 obtain ⟨x, hx⟩ : ∃ x, isM l m = x := ⟨_, rfl⟩
 unfold tkL
 rw [hx]
 rw [hx] at hM
 cases x with
 | false =>
  unfold prO at *
  refine run_ ?_
  refine rg_ ?_
  refine call_ (ps := [0]) (rid := 16) rfl rfl rfl rfl rfl (hM) ?_
  refine cr_ ?_
  refine auto0_ 6 [] ?_
  exact RetA.mk tabOk 0 rfl rfl rfl (by omega) rfl rfl rfl ⟨rfl, rfl, rfl⟩
 | true =>
  obtain ⟨t, r0, rfl⟩ := isM_ne hx
  unfold prO at *
  simp only [List.length_cons] at hl
  refine run_ ?_
  refine rg_ ?_
  refine call_ (ps := [0]) (rid := 16) rfl rfl rfl rfl rfl (hM) ?_
  refine cr_ ?_
  rw [toksA_cons]
  repeat' (first | refine ⟨by omega, ?_⟩ | (refine hJ _ _ (RunsL.nil ?_); clear hJ J) | refine RunsA.cond rfl (fun h => ?_) (fun h => absurd h (by decide)) | refine RunsA.cond rfl (fun h => absurd h (by decide)) (fun h => ?_) | (refine step_ ?_) | (refine RunsA.rk 6 [] tabOk fun J hJ => ?_; simp only [go_sem, ↓reduceIte, Nat.reduceAdd, Nat.reduceSub, Nat.reduceMul, Nat.reduceLT, Nat.reduceLeDiff, Nat.reduceEqDiff, Nat.reduceBEq, Int.reduceToNat, toksA_len, List.length_cons, toks_tail]; try simp (disch := omega) only [wrap_id]) | simp only [↓reduceIte, not_false_eq_true, toksA_len, List.length_cons, toks_tail])
  exact RetA.mk tabOk 0 rfl rfl rfl (by omega) rfl rfl rfl ⟨rfl, rfl, rfl⟩
theorem pWant_ok (l : List TokV) (b : Bool) (m : Str) (hl : l.length ≤ 140737488355328) : FnA Tryz.prog 55 false [.ptr 0 [] 2 0 0, .str m] (prO l b)
 (fun r os ros => r = .tup [] ∧ os = prO (tkL l m) (b || !isM l m) ∧ ros = []) := by
 have hM := pTake_ok l b m hl
 refine FnA.of Tryz.func55 rfl (by decide) Tryz.ntmps55 (by simp [prO]) ?_
 obtain ⟨x, hx⟩ : ∃ x, isM l m = x := ⟨_, rfl⟩
 rw [hx]
 rw [hx] at hM
 generalize tkL l m = l2 at *
 unfold prO at *
 cases x with
 | false =>
  refine run_ ?_
  refine rg_ ?_
  refine call_ (ps := [0]) (rid := 16) rfl rfl rfl rfl rfl (hM) ?_
  refine cr1_ @Bool.not_false ?_
  refine auto0_ 4 [] ?_
  exact RetA.mk tabOk 0 rfl rfl rfl (by omega) rfl rfl rfl ⟨rfl, by simp, rfl⟩
 | true =>
  refine run_ ?_
  refine rg_ ?_
  refine call_ (ps := [0]) (rid := 16) rfl rfl rfl rfl rfl (hM) ?_
  refine cr1_ @Bool.not_true ?_
  refine auto0_ 4 [] ?_
  exact RetA.mk tabOk 0 rfl rfl rfl (by omega) rfl rfl rfl ⟨rfl, by simp, rfl⟩
theorem pName_ok (l : List TokV) (b : Bool) (hl : l.length ≤ 140737488355328) : FnA Tryz.prog 54 false [.ptr 0 [] 2 0 0] (prO l b)
 (fun r os ros => r = .str (nmT l b).1 ∧ os = prO (nmT l b).2.1 (nmT l b).2.2 ∧ ros = []) := by
 have hN := pNext_ok l b hl
 unfold nmT
 refine FnA.of Tryz.func54 rfl (by decide) Tryz.ntmps54 (by simp [prO]) ?_
 generalize nxT l b = p at *
 obtain ⟨⟨k, n, s⟩, l2, b2⟩ := p
 simp only [tokA] at hN ⊢
 unfold prO at *
 by_cases c : k = 1
 ·have q : (k != 1) = false := by simp [c]
  have q' : (k = 1) = True := eq_true c
  rw [q]
  refine run_ ?_
  refine rg_ ?_
  refine call_ (ps := [0]) (rid := 16) rfl rfl rfl rfl rfl (hN) ?_
  refine cr_ ?_
  refine auto2_ 4 [] @q @q' ?_
  exact RetA.mk tabOk 0 rfl rfl rfl (by omega) rfl rfl rfl ⟨rfl, by simp, rfl⟩
 ·have q : (k != 1) = true := by simp [c]
  have q' : (k = 1) = False := eq_false c
  rw [q]
  refine run_ ?_
  refine rg_ ?_
  refine call_ (ps := [0]) (rid := 16) rfl rfl rfl rfl rfl (hN) ?_
  refine cr_ ?_
  refine auto2_ 4 [] @q @q' ?_
  exact RetA.mk tabOk 0 rfl rfl rfl (by omega) rfl rfl rfl ⟨rfl, by simp, rfl⟩
theorem pDone_ok (l : List TokV) (b : Bool) (hl : l.length ≤ 140737488355328) : FnA Tryz.prog 26 false [.ptr 0 [] 2 0 0] (prO l b)
 (fun r os ros => r = .bool (!b && l.isEmpty) ∧ os = prO l b ∧ ros = []) := by
 refine FnA.of Tryz.func26 rfl (by decide) Tryz.ntmps26 (by simp [prO]) ?_
 unfold prO at *
 cases b with
 | true =>
  refine auto0_ 4 [] ?_
  exact RetA.mk tabOk 0 rfl rfl rfl (by omega) rfl rfl rfl ⟨rfl, rfl, rfl⟩
 | false =>
  cases l with
  | nil =>
   have e0 : toksA ([] : List TokV) = [] := rfl
   repeat' (first | refine ⟨by omega, ?_⟩ | (refine hJ _ _ (RunsL.nil ?_); clear hJ J) | refine RunsA.cond rfl (fun h => ?_) (fun h => absurd h (by decide)) | refine RunsA.cond rfl (fun h => absurd h (by decide)) (fun h => ?_) | (refine step_ ?_) | (refine RunsA.rk 4 [] tabOk fun J hJ => ?_; simp only [go_sem, ↓reduceIte, Nat.reduceAdd, Nat.reduceSub, Nat.reduceMul, Nat.reduceLT, Nat.reduceLeDiff, Nat.reduceEqDiff, Nat.reduceBEq, Int.reduceToNat, Bool.not_false, e0, List.length_nil, Int.reduceBEq]; try simp (disch := omega) only [wrap_id]) | simp only [↓reduceIte, not_false_eq_true, Bool.not_false, e0, List.length_nil, Int.reduceBEq])
   exact RetA.mk tabOk 0 rfl rfl rfl (by omega) rfl rfl rfl ⟨rfl, rfl, rfl⟩
  | cons t r =>
   simp only [List.length_cons] at hl
   have q : (((r.length + 1 : Nat) : Int) == 0) = false := beq_eq_false_iff_ne.2 (by omega)
   have q' : (((r.length + 1 : Nat) : Int) = 0) = False := eq_false (by omega)
   repeat' (first | refine ⟨by omega, ?_⟩ | (refine hJ _ _ (RunsL.nil ?_); clear hJ J) | refine RunsA.cond rfl (fun h => ?_) (fun h => absurd h (by decide)) | refine RunsA.cond rfl (fun h => absurd h (by decide)) (fun h => ?_) | (refine step_ ?_) | (refine RunsA.rk 4 [] tabOk fun J hJ => ?_; simp only [go_sem, ↓reduceIte, Nat.reduceAdd, Nat.reduceSub, Nat.reduceMul, Nat.reduceLT, Nat.reduceLeDiff, Nat.reduceEqDiff, Nat.reduceBEq, Int.reduceToNat, Bool.not_false, toksA_len, List.length_cons, q, q']; try simp (disch := omega) only [wrap_id]) | simp only [↓reduceIte, not_false_eq_true, Bool.not_false, toksA_len, List.length_cons, q, q'])
   exact RetA.mk tabOk 0 rfl rfl rfl (by omega) rfl rfl rfl ⟨rfl, rfl, rfl⟩
end Go.Proofs.YtiilnlihimdnlaaGreatDoorFw
