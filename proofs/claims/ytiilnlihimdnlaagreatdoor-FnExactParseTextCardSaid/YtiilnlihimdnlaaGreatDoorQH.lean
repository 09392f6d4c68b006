/- A reader over tokens: the reference's. -/
import Derived.Test.YtiilnlihimdnlaaGreatDoorQE
import Derived.Test.YtiilnlihimdnlaaGreatDoorQL
set_option linter.unusedVariables false
set_option linter.unusedSimpArgs false
set_option maxRecDepth 4000
namespace Go.Proofs.YtiilnlihimdnlaaGreatDoorFw
open Go Go.RowKit
def rdO (L : List TokV) (i : Nat) (b : Bool) : List (Nat × List AV) := [(3, [.agg [.row .ro 3 (toksA L), .int .i64 (i : Nat), .bool b]])]
def seS (L : List TokV) (i : Nat) (b : Bool) (m : Str) : Bool := !b && (match L[i]? with
 | some t => t.s == m
 | none => false)
def nxS (L : List TokV) (i : Nat) (b : Bool) : TokV × Nat × Bool := if b = true then (⟨0, 0, []⟩, i, true) else match L[i]? with
 | some t => (t, i + 1, false)
 | none => (⟨0, 0, []⟩, i, true)
theorem toksA_get' {L : List TokV} {i : Nat} {t : TokV} (h : L[i]? = some t) : (toksA L)[i]? = some (.agg [.int .i64 t.k, .int .i64 t.n, .str t.s]) := by
 rw [toksA, List.getElem?_map, h]; rfl
set_option maxHeartbeats 8000000 in
theorem rSee_ok (L : List TokV) (i : Nat) (b : Bool) (m : Str) (hl : L.length ≤ 140737488355328) (hi : i ≤ L.length) : FnA Tryz.prog 50 false [.ptr 0 [] 3 0 0, .str m] (rdO L i b)
 (fun r os ros => r = .bool (seS L i b m) ∧ os = rdO L i b ∧ ros = []) := by
 unfold rdO seS
 refine FnA.of Tryz.func50 rfl (by decide) Tryz.ntmps50 (by simp) ?_
 refine run_ ?_
 cases b with
 | true =>
  refine RunsA.dqtn 32 1 mixed tabOk (by kernel_rfl) (by kernel_rfl) rfl fun J hJ => ?_
  simp only [List.take_succ_cons, List.take_zero]
  refine goQ_cut 8 ?_
  simp only [go_sem, ↓reduceIte, Nat.reduceAdd, Nat.reduceSub, Nat.reduceMul, Nat.reduceLT, Nat.reduceLeDiff, Nat.reduceEqDiff, Nat.reduceBEq, Int.reduceToNat, List.take_succ_cons, List.take_zero, List.take_nil, List.drop_succ_cons, List.drop_zero, List.drop_nil, List.nil_append, Bool.not_true]
  try simp (disch := omega) only [wrap_id]
  (repeat refine ⟨by omega, ?_⟩)
  refine goQh.of ?_
  refine goQ_cut 8 ?_
  simp only [go_sem, ↓reduceIte, Nat.reduceAdd, Nat.reduceSub, Nat.reduceMul, Nat.reduceLT, Nat.reduceLeDiff, Nat.reduceEqDiff, Nat.reduceBEq, Int.reduceToNat, List.take_succ_cons, List.take_zero, List.take_nil, List.drop_succ_cons, List.drop_zero, List.drop_nil, List.nil_append, Bool.not_true]
  try simp (disch := omega) only [wrap_id]
  (repeat refine ⟨by omega, ?_⟩)
  refine goQh.of ?_
  refine goQ_cut 8 ?_
  simp only [go_sem, ↓reduceIte, Nat.reduceAdd, Nat.reduceSub, Nat.reduceMul, Nat.reduceLT, Nat.reduceLeDiff, Nat.reduceEqDiff, Nat.reduceBEq, Int.reduceToNat, List.take_succ_cons, List.take_zero, List.take_nil, List.drop_succ_cons, List.drop_zero, List.drop_nil, List.nil_append, Bool.not_true]
  try simp (disch := omega) only [wrap_id]
  (repeat refine ⟨by omega, ?_⟩)
  refine goQh.of ?_
  refine goQ_cut 8 ?_
  simp only [go_sem, ↓reduceIte, Nat.reduceAdd, Nat.reduceSub, Nat.reduceMul, Nat.reduceLT, Nat.reduceLeDiff, Nat.reduceEqDiff, Nat.reduceBEq, Int.reduceToNat, List.take_succ_cons, List.take_zero, List.take_nil, List.drop_succ_cons, List.drop_zero, List.drop_nil, List.nil_append, Bool.not_true]
  try simp (disch := omega) only [wrap_id]
  (repeat refine ⟨by omega, ?_⟩)
  refine goQh.of ?_
  refine hJ _ _ (QRuns.nil ?_); clear hJ J
  refine RunsL.go tabOk fun J hJ => ?_
  simp only [go_sem, ↓reduceIte, Nat.reduceAdd, Nat.reduceSub, Nat.reduceMul, Nat.reduceLT, Nat.reduceLeDiff, Nat.reduceEqDiff, Nat.reduceBEq, Int.reduceToNat, List.take_succ_cons, List.take_zero, List.drop_succ_cons, List.drop_zero, Bool.not_true]
  try simp (disch := omega) only [wrap_id]
  (repeat refine ⟨by omega, ?_⟩)
  refine hJ _ _ (RunsL.nil ?_); clear hJ J
  refine run_ ?_
  exact RetA.mk tabOk 0 rfl rfl rfl (by omega) rfl rfl rfl ⟨rfl, rfl, rfl⟩
 | false =>
  by_cases h : i < L.length
  ·have hg0 : L[i]? = some L[i] := List.getElem?_eq_getElem h
   rw [hg0]
   have hg := toksA_get' hg0
   have q : decide ((i : Int) < (L.length : Nat)) = true := decide_eq_true (by omega)
   have q' : ((i : Int) < (L.length : Nat)) = True := eq_true (by omega)
   generalize L[i] = t at *
   refine RunsA.dqtn 32 1 mixed tabOk (by kernel_rfl) (by kernel_rfl) rfl fun J hJ => ?_
   simp only [List.take_succ_cons, List.take_zero]
   refine goQ_cut 8 ?_
   simp only [go_sem, ↓reduceIte, Nat.reduceAdd, Nat.reduceSub, Nat.reduceMul, Nat.reduceLT, Nat.reduceLeDiff, Nat.reduceEqDiff, Nat.reduceBEq, Int.reduceToNat, List.take_succ_cons, List.take_zero, List.take_nil, List.drop_succ_cons, List.drop_zero, List.drop_nil, List.nil_append, Bool.not_false, toksA_len, q, q', hg]
   try simp (disch := omega) only [wrap_id]
   (repeat refine ⟨by omega, ?_⟩)
   refine goQh.of ?_
   refine goQ_cut 8 ?_
   simp only [go_sem, ↓reduceIte, Nat.reduceAdd, Nat.reduceSub, Nat.reduceMul, Nat.reduceLT, Nat.reduceLeDiff, Nat.reduceEqDiff, Nat.reduceBEq, Int.reduceToNat, List.take_succ_cons, List.take_zero, List.take_nil, List.drop_succ_cons, List.drop_zero, List.drop_nil, List.nil_append, Bool.not_false, toksA_len, q, q', hg]
   try simp (disch := omega) only [wrap_id]
   (repeat refine ⟨by omega, ?_⟩)
   refine goQh.of ?_
   refine goQ_cut 8 ?_
   simp only [go_sem, ↓reduceIte, Nat.reduceAdd, Nat.reduceSub, Nat.reduceMul, Nat.reduceLT, Nat.reduceLeDiff, Nat.reduceEqDiff, Nat.reduceBEq, Int.reduceToNat, List.take_succ_cons, List.take_zero, List.take_nil, List.drop_succ_cons, List.drop_zero, List.drop_nil, List.nil_append, Bool.not_false, toksA_len, q, q', hg]
   try simp (disch := omega) only [wrap_id]
   (repeat refine ⟨by omega, ?_⟩)
   refine goQh.of ?_
   refine goQ_cut 8 ?_
   simp only [go_sem, ↓reduceIte, Nat.reduceAdd, Nat.reduceSub, Nat.reduceMul, Nat.reduceLT, Nat.reduceLeDiff, Nat.reduceEqDiff, Nat.reduceBEq, Int.reduceToNat, List.take_succ_cons, List.take_zero, List.take_nil, List.drop_succ_cons, List.drop_zero, List.drop_nil, List.nil_append, Bool.not_false, toksA_len, q, q', hg]
   try simp (disch := omega) only [wrap_id]
   (repeat refine ⟨by omega, ?_⟩)
   refine goQh.of ?_
   refine hJ _ _ (QRuns.nil ?_); clear hJ J
   refine RunsL.go tabOk fun J hJ => ?_
   simp only [go_sem, ↓reduceIte, Nat.reduceAdd, Nat.reduceSub, Nat.reduceMul, Nat.reduceLT, Nat.reduceLeDiff, Nat.reduceEqDiff, Nat.reduceBEq, Int.reduceToNat, List.take_succ_cons, List.take_zero, List.drop_succ_cons, List.drop_zero, Bool.not_false, toksA_len, q, q', hg]
   try simp (disch := omega) only [wrap_id]
   (repeat refine ⟨by omega, ?_⟩)
   refine hJ _ _ (RunsL.nil ?_); clear hJ J
   refine run_ ?_
   exact RetA.mk tabOk 0 rfl rfl rfl (by omega) rfl rfl rfl ⟨rfl, rfl, rfl⟩
  ·have hg0 : L[i]? = none := List.getElem?_eq_none (by omega)
   rw [hg0]
   have q : decide ((i : Int) < (L.length : Nat)) = false := decide_eq_false (by omega)
   have q' : ((i : Int) < (L.length : Nat)) = False := eq_false (by omega)
   refine RunsA.dqtn 32 1 mixed tabOk (by kernel_rfl) (by kernel_rfl) rfl fun J hJ => ?_
   simp only [List.take_succ_cons, List.take_zero]
   refine goQ_cut 8 ?_
   simp only [go_sem, ↓reduceIte, Nat.reduceAdd, Nat.reduceSub, Nat.reduceMul, Nat.reduceLT, Nat.reduceLeDiff, Nat.reduceEqDiff, Nat.reduceBEq, Int.reduceToNat, List.take_succ_cons, List.take_zero, List.take_nil, List.drop_succ_cons, List.drop_zero, List.drop_nil, List.nil_append, Bool.not_false, toksA_len, q, q']
   try simp (disch := omega) only [wrap_id]
   (repeat refine ⟨by omega, ?_⟩)
   refine goQh.of ?_
   refine goQ_cut 8 ?_
   simp only [go_sem, ↓reduceIte, Nat.reduceAdd, Nat.reduceSub, Nat.reduceMul, Nat.reduceLT, Nat.reduceLeDiff, Nat.reduceEqDiff, Nat.reduceBEq, Int.reduceToNat, List.take_succ_cons, List.take_zero, List.take_nil, List.drop_succ_cons, List.drop_zero, List.drop_nil, List.nil_append, Bool.not_false, toksA_len, q, q']
   try simp (disch := omega) only [wrap_id]
   (repeat refine ⟨by omega, ?_⟩)
   refine goQh.of ?_
   refine goQ_cut 8 ?_
   simp only [go_sem, ↓reduceIte, Nat.reduceAdd, Nat.reduceSub, Nat.reduceMul, Nat.reduceLT, Nat.reduceLeDiff, Nat.reduceEqDiff, Nat.reduceBEq, Int.reduceToNat, List.take_succ_cons, List.take_zero, List.take_nil, List.drop_succ_cons, List.drop_zero, List.drop_nil, List.nil_append, Bool.not_false, toksA_len, q, q']
   try simp (disch := omega) only [wrap_id]
   (repeat refine ⟨by omega, ?_⟩)
   refine goQh.of ?_
   refine goQ_cut 8 ?_
   simp only [go_sem, ↓reduceIte, Nat.reduceAdd, Nat.reduceSub, Nat.reduceMul, Nat.reduceLT, Nat.reduceLeDiff, Nat.reduceEqDiff, Nat.reduceBEq, Int.reduceToNat, List.take_succ_cons, List.take_zero, List.take_nil, List.drop_succ_cons, List.drop_zero, List.drop_nil, List.nil_append, Bool.not_false, toksA_len, q, q']
   try simp (disch := omega) only [wrap_id]
   (repeat refine ⟨by omega, ?_⟩)
   refine goQh.of ?_
   refine hJ _ _ (QRuns.nil ?_); clear hJ J
   refine RunsL.go tabOk fun J hJ => ?_
   simp only [go_sem, ↓reduceIte, Nat.reduceAdd, Nat.reduceSub, Nat.reduceMul, Nat.reduceLT, Nat.reduceLeDiff, Nat.reduceEqDiff, Nat.reduceBEq, Int.reduceToNat, List.take_succ_cons, List.take_zero, List.drop_succ_cons, List.drop_zero, Bool.not_false, toksA_len, q, q']
   try simp (disch := omega) only [wrap_id]
   (repeat refine ⟨by omega, ?_⟩)
   refine hJ _ _ (RunsL.nil ?_); clear hJ J
   refine run_ ?_
   exact RetA.mk tabOk 0 rfl rfl rfl (by omega) rfl rfl rfl ⟨rfl, rfl, rfl⟩
theorem rIs_ok (L : List TokV) (i : Nat) (b : Bool) (m : Str) (hl : L.length ≤ 140737488355328) (hi : i ≤ L.length) : FnA Tryz.prog 51 false [.ptr 0 [] 3 0 0, .str m] (rdO L i b)
 (fun r os ros => r = .bool (seS L i b m) ∧ os = rdO L (if seS L i b m = true then i + 1 else i) b ∧ ros = []) := by
 have hS := rSee_ok L i b m hl hi
 refine FnA.of Tryz.func51 rfl (by decide) Tryz.ntmps51 (by simp [rdO]) ?_
 generalize seS L i b m = x at *
 unfold rdO at *
 cases x with
 | true =>
  refine run_ ?_
  refine rg_ ?_
  refine call_ (ps := [0]) (rid := 16) rfl rfl rfl rfl rfl (hS) ?_
  refine cr1_ @Bool.not_true ?_
  refine auto0_ 5 [] ?_
  exact RetA.mk tabOk 0 rfl rfl rfl (by omega) rfl rfl rfl ⟨rfl, rfl, rfl⟩
 | false =>
  refine run_ ?_
  refine rg_ ?_
  refine call_ (ps := [0]) (rid := 16) rfl rfl rfl rfl rfl (hS) ?_
  refine cr1_ @Bool.not_false ?_
  refine auto0_ 5 [] ?_
  exact RetA.mk tabOk 0 rfl rfl rfl (by omega) rfl rfl rfl ⟨rfl, rfl, rfl⟩
theorem rMust_ok (L : List TokV) (i : Nat) (b : Bool) (m : Str) (hl : L.length ≤ 140737488355328) (hi : i ≤ L.length) : FnA Tryz.prog 49 false [.ptr 0 [] 3 0 0, .str m] (rdO L i b)
 (fun r os ros => r = .tup [] ∧ os = rdO L (if seS L i b m = true then i + 1 else i) (b || !seS L i b m) ∧ ros = []) := by
 have hS := rIs_ok L i b m hl hi
 refine FnA.of Tryz.func49 rfl (by decide) Tryz.ntmps49 (by simp [rdO]) ?_
 generalize seS L i b m = x at *
 unfold rdO at *
 cases x with
 | true =>
  refine run_ ?_
  refine rg_ ?_
  refine call_ (ps := [0]) (rid := 16) rfl rfl rfl rfl rfl (hS) ?_
  refine cr1_ @Bool.not_true ?_
  refine auto0_ 5 [] ?_
  exact RetA.mk tabOk 0 rfl rfl rfl (by omega) rfl rfl rfl ⟨rfl, by simp, rfl⟩
 | false =>
  refine run_ ?_
  refine rg_ ?_
  refine call_ (ps := [0]) (rid := 16) rfl rfl rfl rfl rfl (hS) ?_
  refine cr1_ @Bool.not_false ?_
  refine auto0_ 5 [] ?_
  exact RetA.mk tabOk 0 rfl rfl rfl (by omega) rfl rfl rfl ⟨rfl, by simp, rfl⟩
set_option maxHeartbeats 8000000 in
theorem rNext_ok (L : List TokV) (i : Nat) (b : Bool) (hl : L.length ≤ 140737488355328) (hi : i ≤ L.length) : FnA Tryz.prog 90 false [.ptr 0 [] 3 0 0] (rdO L i b)
 (fun r os ros => r = tokA (nxS L i b).1 ∧ os = rdO L (nxS L i b).2.1 (nxS L i b).2.2 ∧ ros = []) := by
 unfold rdO nxS
 refine FnA.of Tryz.func90 rfl (by decide) Tryz.ntmps90 (by simp) ?_
 cases b with
 | true =>
  refine run1_ @toksA_len ?_
  refine auto1_ 19 [] @toksA_len ?_
  exact RetA.mk tabOk 0 rfl rfl rfl (by omega) rfl rfl rfl ⟨rfl, rfl, rfl⟩
 | false =>
  by_cases h : i < L.length
  ·have hg0 : L[i]? = some L[i] := List.getElem?_eq_getElem h
   rw [hg0]
   have hg := toksA_get' hg0
   have q : decide (((L.length : Nat) : Int) ≤ (i : Nat)) = false := decide_eq_false (by omega)
   have q' : (((L.length : Nat) : Int) ≤ (i : Nat)) = False := eq_false (by omega)
   have hi1 : ((i : Nat) : Int) + 1 - 1 = (i : Nat) := by omega
   have hi3 : IntKind.i64.wrap ((i : Nat) : Int) = (i : Nat) := wrap_id (by omega) (by omega)
   have hi2 : IntKind.i64.wrap (((i : Nat) : Int) + 1 - 1) = (i : Nat) := by rw [hi1]; exact wrap_id (by omega) (by omega)
   generalize L[i] = t at *
   refine run3_ @toksA_len @q @q' ?_
   repeat' (first | refine ⟨by omega, ?_⟩ | (refine hJ _ _ (RunsL.nil ?_); clear hJ J) | refine RunsA.cond rfl (fun h => ?_) (fun h => absurd h (by decide)) | refine RunsA.cond rfl (fun h => absurd h (by decide)) (fun h => ?_) | (refine step_ ?_) | (refine RunsA.rk 19 [] tabOk fun J hJ => ?_; simp only [go_sem, ↓reduceIte, Nat.reduceAdd, Nat.reduceSub, Nat.reduceMul, Nat.reduceLT, Nat.reduceLeDiff, Nat.reduceEqDiff, Nat.reduceBEq, Int.reduceToNat, toksA_len, q, q']; try simp (disch := omega) only [wrap_id]) | simp only [↓reduceIte, not_false_eq_true, toksA_len, q, q'])
   refine RunsA.dqtn 11 1 mixed tabOk (by kernel_rfl) (by kernel_rfl) rfl fun J hJ => ?_
   simp only [go_sem, ↓reduceIte, Nat.reduceAdd, Nat.reduceSub, Nat.reduceMul, Nat.reduceLT, Nat.reduceLeDiff, Nat.reduceEqDiff, Nat.reduceBEq, Int.reduceToNat, List.take_succ_cons, List.take_zero, List.drop_succ_cons, List.drop_zero, toksA_len, hi2, hi3, Int.toNat_natCast, hg]
   try simp (disch := omega) only [wrap_id]
   (repeat refine ⟨by omega, ?_⟩)
   refine hJ _ _ (QRuns.nil ?_); clear hJ J
   refine RunsL.go tabOk fun J hJ => ?_; simp only [go_sem, ↓reduceIte, Nat.reduceAdd, Nat.reduceSub, Nat.reduceMul, Nat.reduceLT, Nat.reduceLeDiff, Nat.reduceEqDiff, Nat.reduceBEq, Int.reduceToNat, List.take_succ_cons, List.take_zero, List.drop_succ_cons, List.drop_zero, toksA_len, hi2, hi3, Int.toNat_natCast, hg]; try simp (disch := omega) only [wrap_id]
   (repeat refine ⟨by omega, ?_⟩)
   refine hJ _ _ (RunsL.nil ?_); clear hJ J
   refine run_ ?_
   exact RetA.mk tabOk 0 rfl rfl rfl (by omega) rfl rfl rfl ⟨rfl, rfl, rfl⟩
  ·have hg0 : L[i]? = none := List.getElem?_eq_none (by omega)
   rw [hg0]
   have q : decide (((L.length : Nat) : Int) ≤ (i : Nat)) = true := decide_eq_true (by omega)
   have q' : (((L.length : Nat) : Int) ≤ (i : Nat)) = True := eq_true (by omega)
   refine run3_ @toksA_len @q @q' ?_
   refine auto3_ 19 [] @toksA_len @q @q' ?_
   exact RetA.mk tabOk 0 rfl rfl rfl (by omega) rfl rfl rfl ⟨rfl, rfl, rfl⟩
end Go.Proofs.YtiilnlihimdnlaaGreatDoorFw
namespace Go.Proofs.YtiilnlihimdnlaaGreatDoorFw
open Go Go.RowKit
def modsP : List TokV → Option (List Str × List TokV)
 | [] => none
 | t :: r => if t.k = 1 then (if isM r [44] = true then (match modsP (r.drop 1) with
  | none => none
  | some p => some (t.s :: p.1, p.2)) else some ([t.s], r)) else none
termination_by l => l.length
decreasing_by simp_wf; omega
def kidsP (sg : List TokV → Option (SegV × List TokV)) : Nat → List TokV → Option (List SegV × List TokV)
 | 0, _ => none
 | f + 1, l => match sg l with
  | none => none
  | some p => if isM p.2 [62] = true then some ([p.1], p.2.drop 1) else (match kidsP sg f p.2 with
   | none => none
   | some q => some (p.1 :: q.1, q.2))
def segP : Nat → List TokV → Option (SegV × List TokV)
 | 0, _ => none
 | d + 1, [] => none
 | d + 1, t :: r => if t.k = 1 ∧ isM r [40] = true then
  (match (if isM (r.drop 1) [41] = true then some ([], r.drop 1) else modsP (r.drop 1)) with
  | none => none
  | some p => if isM p.2 [41] = true then
   (if isM (p.2.drop 1) [60] = true then (match kidsP (segP d) (p.2.length + 1) ((p.2.drop 1).drop 1) with
     | none => none
     | some q => some (.mk t.s p.1 q.1, q.2)) else some (.mk t.s p.1 [], p.2.drop 1)) else none)
  else none
theorem modsP_len : ∀ (n : Nat) (l : List TokV), l.length ≤ n → ∀ p, modsP l = some p → p.2.length + p.1.length ≤ l.length ∧ 1 ≤ p.1.length
 | n, [], _, p, h => by rw [modsP] at h; cases h
 | 0, t :: r, hn, p, h => by simp at hn
 | n + 1, t :: r, hn, p, h => by
  rw [modsP] at h
  split at h
  ·split at h
   ·split at h
    ·cases h
    ·rename_i q hq
     have ih := modsP_len n (r.drop 1) (by simp at hn ⊢; omega) q hq
     obtain rfl := Option.some.inj h
     simp only [List.length_cons, List.length_drop] at *
     omega
   ·obtain rfl := Option.some.inj h
    simp
  ·cases h
theorem kidsP_len {sg : List TokV → Option (SegV × List TokV)} (hs : ∀ l p, sg l = some p → p.2.length + 1 ≤ l.length) : ∀ (f : Nat) (l : List TokV) (p : List SegV × List TokV), kidsP sg f l = some p → p.2.length + 1 ≤ l.length ∧ p.1.length + p.2.length ≤ l.length
 | 0, l, p, h => by cases h
 | f + 1, l, p, h => by
  rw [kidsP] at h
  split at h
  ·cases h
  ·rename_i q hq
   have h1 := hs l q hq
   split at h
   ·obtain rfl := Option.some.inj h
    simp only [List.length_drop, List.length_cons, List.length_nil]
    omega
   ·split at h
    ·cases h
    ·rename_i z hz
     have ih := kidsP_len hs f q.2 z hz
     obtain rfl := Option.some.inj h
     simp only [List.length_cons]
     omega
theorem segP_len : ∀ (d : Nat) (l : List TokV) (p : SegV × List TokV), segP d l = some p → p.2.length + 1 ≤ l.length
 | 0, l, p, h => by rw [segP] at h; cases h
 | d + 1, [], p, h => by rw [segP] at h; cases h
 | d + 1, t :: r, p, h => by
  rw [segP] at h
  split at h
  ·split at h
   ·cases h
   ·rename_i q hq
    have hql : q.2.length ≤ r.length := by
     split at hq
     ·obtain rfl := Option.some.inj hq
      simp only [List.length_drop]; omega
     ·have := (modsP_len _ (r.drop 1) (Nat.le_refl _) q hq).1
      simp only [List.length_drop] at this; omega
    split at h
    ·split at h
     ·split at h
      ·cases h
      ·rename_i z hz
       have := (kidsP_len (fun l p => segP_len d l p) _ _ z hz).1
       obtain rfl := Option.some.inj h
       simp only [List.length_drop, List.length_cons] at *
       omega
     ·obtain rfl := Option.some.inj h
      simp only [List.length_drop, List.length_cons]
      omega
    ·cases h
  ·cases h
end Go.Proofs.YtiilnlihimdnlaaGreatDoorFw
