/- strconv.ParseInt at base 8, as it is called within. -/
import Derived.Test.YtiilnlihimdnlaaGreatDoorI2
namespace Go.Proofs.YtiilnlihimdnlaaGreatDoorFw
open Go Go.RowKit
set_option linter.unusedVariables false
set_option linter.unusedSimpArgs false
set_option maxRecDepth 4000
theorem octS_head {N : Nat} {s : Str} (h : octS N = s) (h0 : 0 < s.length) : 48 ≤ s[0].toNat ∧ s[0].toNat ≤ 55 := by
 have h1 := octA_oct N
 rw [h] at h1
 exact octA_digs s 0 N h1 _ (List.getElem_mem h0)
theorem errCmp (e : Option Int) (tx : TypeId) (k : IntKind) (n : Int) (h : errI e = .ifc (some (tx, k, n))) : (Tryz.prog.info? tx).map (·.comparable) = some true ∧ ∃ q, Tryz.prog.underlying tx = some (.int q) := by
 cases e with
 | none => cases h
 | some e =>
  simp only [errI, AV.ifc.injEq, Option.some.injEq, Prod.mk.injEq] at h
  obtain ⟨rfl, rfl, rfl⟩ := h
  exact ⟨by kernel_rfl, .i64, by kernel_rfl⟩
def PIntR (s : Str) (r : AV) : Prop := ∃ (v : Int) (e : Option Int), r = .tup [.int .i64 v, errI e] ∧ (e = none ∨ e = some 1 ∨ e = some 2) ∧ (∀ N, N ≤ 65535 → octS N = s → e = none ∧ v = N)
set_option maxHeartbeats 8000000 in
theorem parseI0_ok (s : Str) (hs : s.length ≤ 140737488355328) : FnA Tryz.prog 165 false [.str s, .int .i64 8, .int .i64 64] []
 (fun r os ros => PIntR s r ∧ os = [] ∧ ros = []) := by
 refine FnA.of Tryz.func165 rfl (by decide) Tryz.ntmps165 (by simp) ?_
 by_cases c0 : s = []
 ·subst c0
  repeat (first | refine RunsA.sq ?_ | refine RunsA.bk ?_ | refine RunsA.sk ?_ | refine RunsA.ex ?_ | refine RunsA.rt ?_ | refine At.n ?_ | refine At.x ?_ | refine At.r ?_ | refine At.bn ?_ | refine At.br ?_ | refine At.bx ?_ | refine At.by_ rfl ?_ | refine At.kx ?_ | refine At.kr ?_ | refine At.kn ?_ | refine At.er ?_ | refine At.en ?_ | (refine RunsA.rq tabOk fun J hJ => ?_; simp only [go_sem, ↓reduceIte, Nat.reduceAdd, Nat.reduceSub, Nat.reduceMul, Nat.reduceLT, Nat.reduceLeDiff, Nat.reduceEqDiff, Nat.reduceBEq, Int.reduceToNat, BEq.rfl]; (try simp (disch := omega) only [wrap_id]); (repeat refine ⟨by omega, ?_⟩); refine hJ _ _ (RunsL.nil ?_); clear hJ J) | (refine RunsA.dq mixed tabOk (by kernel_rfl) fun J hJ => ?_; simp only [go_sem, ↓reduceIte, Nat.reduceAdd, Nat.reduceSub, Nat.reduceMul, Nat.reduceLT, Nat.reduceLeDiff, Nat.reduceEqDiff, Nat.reduceBEq, Int.reduceToNat, BEq.rfl]; (try simp (disch := omega) only [wrap_id]); (repeat refine ⟨by omega, ?_⟩); refine hJ _ _ (QRuns.nil ?_); clear hJ J))
  refine RunsA.cond rfl (fun h => ?_) (fun h => absurd h (by decide))
  refine run_ ?_
  refine RunsA.rq tabOk fun J hJ => ?_
  simp only [go_sem, ↓reduceIte, Nat.reduceAdd, Nat.reduceSub, Nat.reduceMul, Nat.reduceLT, Nat.reduceLeDiff, Nat.reduceEqDiff, Nat.reduceBEq, Int.reduceToNat]
  try simp (disch := omega) only [wrap_id]
  refine hJ _ _ (RunsL.mkIfc tabOk rfl rfl rfl rfl rfl rfl ?_); clear hJ J
  refine cg_ ?_
  refine RunsL.nil ?_
  refine run_ ?_
  exact RetA.mk tabOk 0 rfl rfl rfl (by omega) rfl rfl rfl ⟨⟨0, some 2, rfl, .inr (.inr rfl), fun N _ h => absurd h (octS_ne N)⟩, rfl, rfl⟩
 have b0 : (s == []) = false := by simp [c0]
 obtain ⟨c, r, rfl⟩ : ∃ c r, s = c :: r := by
  cases s with
  | nil => exact absurd rfl c0
  | cons c r => exact ⟨c, r, rfl⟩
 have hl : r.length + 1 ≤ 140737488355328 := hs
 have hhd : ∀ N, octS N = c :: r → 48 ≤ c.toNat ∧ c.toNat ≤ 55 := fun N h => octS_head h (by simp)
 have hcl := byteI_lt c
 generalize hcn : c.toNat = cn at *
 have hg : (c :: r)[0]? = some c := rfl
 have hdrop : (c :: r).drop 1 = r := rfl
 have htk : List.take (r.length + 1 - 1) r = r := by rw [Nat.add_sub_cancel, List.take_length]
 have w4 : IntKind.u64.wrap 63 = 63 := by decide
 have w5 : IntKind.u64.wrap (1 * 2 ^ 63) = 9223372036854775808 := by decide
 have w8 : IntKind.u64.wrap (64 - 1) = 63 := by decide
 have w9 : (63 : Int) ≤ ((64 : Nat) : Int) := by decide
 have w10 : IntKind.u64.wrap (1 * 2 ^ (63 : Int).toNat) = 9223372036854775808 := by decide
 have w7 : IntKind.u64.wrap 9223372036854775808 = 9223372036854775808 := by decide
 rcases (by omega : cn = 43 ∨ cn = 45 ∨ (cn ≠ 43 ∧ cn ≠ 45)) with rfl | rfl | hc
 ·have q1 : (((43 : Nat) : Int) == 43) = true := rfl
  have hU := parseU_ok r (by omega)
  repeat' (first | refine ⟨by omega, ?_⟩ | (refine hJ _ _ (RunsL.nil ?_); clear hJ J) | refine RunsA.cond rfl (fun h => ?_) (fun h => absurd h (by decide)) | refine RunsA.cond rfl (fun h => absurd h (by decide)) (fun h => ?_) | (refine step_ ?_) | (refine RunsA.rk 12 [16] tabOk fun J hJ => ?_; simp only [go_sem, ↓reduceIte, Nat.reduceAdd, Nat.reduceSub, Nat.reduceMul, Nat.reduceLT, Nat.reduceLeDiff, Nat.reduceEqDiff, Nat.reduceBEq, Int.reduceToNat, b0, hg, hdrop, htk, hcn, q1, List.length_cons]; try simp (disch := omega) only [wrap_id]) | simp only [↓reduceIte, not_false_eq_true, b0, hg, hdrop, htk, hcn, q1, List.length_cons])
  refine hJ _ _ (call_ (ps := []) (rid := 16) rfl rfl rfl rfl rfl (hU) ?_); clear hJ J
  rintro res os' ros ⟨⟨v, e, rfl, he, hN⟩, rfl, rfl⟩ _
  rcases he with rfl | rfl | rfl
  ·simp only [errI]
   refine cgo_ ?_
   refine RunsL.nil ?_
   refine run_ ?_
   refine RunsA.rq tabOk fun J hJ => ?_
   simp only [go_sem, ↓reduceIte, Nat.reduceAdd, Nat.reduceSub, Nat.reduceMul, Nat.reduceLT, Nat.reduceLeDiff, Nat.reduceEqDiff, Nat.reduceBEq, Int.reduceToNat]
   try simp (disch := omega) only [wrap_id]
   refine hJ _ _ (RunsL.ifcEq (b := true) (ms := #[("Error", 85)]) rfl rfl (.inr rfl) (by kernel_rfl) rfl rfl rfl (.inr (.inr ⟨_, rfl⟩)) (fun _ _ _ h => by cases h) rfl ?_); clear hJ J
   refine cg2_ @Bool.not_true @Bool.not_false ?_
   refine RunsL.nil ?_
   refine run_ ?_
   by_cases cv : ((9223372036854775808 : Int) ≤ v : Prop)
   ·have q : decide ((9223372036854775808 : Int) ≤ v) = true := decide_eq_true cv
    repeat' (first | refine ⟨by omega, ?_⟩ | (refine hJ _ _ (RunsL.nil ?_); clear hJ J) | refine RunsA.cond rfl (fun h => ?_) (fun h => absurd h (by decide)) | refine RunsA.cond rfl (fun h => absurd h (by decide)) (fun h => ?_) | (refine step_ ?_) | (refine RunsA.rk 12 [] tabOk fun J hJ => ?_; simp only [go_sem, ↓reduceIte, Nat.reduceAdd, Nat.reduceSub, Nat.reduceMul, Nat.reduceLT, Nat.reduceLeDiff, Nat.reduceEqDiff, Nat.reduceBEq, Int.reduceToNat, Int.reduceBEq, q, w4, w5, w7, w8, w9, w10, Bool.not_true, Bool.not_false]; try simp (disch := omega) only [wrap_id]) | simp only [↓reduceIte, not_false_eq_true, Int.reduceBEq, q, w4, w5, w7, w8, w9, w10, Bool.not_true, Bool.not_false])
    refine hJ _ _ (RunsL.mkIfc tabOk rfl rfl rfl rfl rfl rfl ?_); clear hJ J
    refine cg_ ?_
    refine RunsL.nil ?_
    refine run_ ?_
    exact RetA.mk tabOk 0 rfl rfl rfl (by omega) rfl rfl rfl ⟨⟨_, some 1, rfl, .inr (.inl rfl), fun N h1 h2 => by have := hhd N h2; omega⟩, rfl, rfl⟩
   ·have q : decide ((9223372036854775808 : Int) ≤ v) = false := decide_eq_false cv
    refine auto8_ 12 [] @q @w4 @w5 @w7 @w8 @w9 @w10 @w10 ?_
    exact RetA.mk tabOk 0 rfl rfl rfl (by omega) rfl rfl rfl ⟨⟨_, none, rfl, .inl rfl, fun N h1 h2 => by have := hhd N h2; omega⟩, rfl, rfl⟩
  ·simp only [errI]
   refine cgo_ ?_
   refine RunsL.nil ?_
   refine run_ ?_
   refine RunsA.rq tabOk fun J hJ => ?_
   simp only [go_sem, ↓reduceIte, Nat.reduceAdd, Nat.reduceSub, Nat.reduceMul, Nat.reduceLT, Nat.reduceLeDiff, Nat.reduceEqDiff, Nat.reduceBEq, Int.reduceToNat]
   try simp (disch := omega) only [wrap_id]
   refine hJ _ _ (RunsL.ifcEq (b := false) (ms := #[("Error", 85)]) rfl rfl (.inr rfl) (by kernel_rfl) rfl rfl rfl (.inr (.inr ⟨_, rfl⟩)) (errCmp (some 1)) rfl ?_); clear hJ J
   refine RunsL.go tabOk fun J hJ => ?_
   simp only [go_sem, ↓reduceIte, Nat.reduceAdd, Nat.reduceSub, Nat.reduceMul, Nat.reduceLT, Nat.reduceLeDiff, Nat.reduceEqDiff, Nat.reduceBEq, Int.reduceToNat, Bool.not_true, Bool.not_false]
   try simp (disch := omega) only [wrap_id]
   refine hJ _ _ (RunsL.mkIfc tabOk rfl rfl rfl rfl rfl rfl ?_); clear hJ J
   refine RunsL.go tabOk fun J hJ => ?_
   simp only [go_sem, ↓reduceIte, Nat.reduceAdd, Nat.reduceSub, Nat.reduceMul, Nat.reduceLT, Nat.reduceLeDiff, Nat.reduceEqDiff, Nat.reduceBEq, Int.reduceToNat]
   try simp (disch := omega) only [wrap_id]
   refine hJ _ _ (RunsL.ifcEq (b := true) (ms := #[("Error", 85)]) rfl rfl (.inr rfl) (by kernel_rfl) rfl rfl rfl (.inl ⟨_, rfl⟩) (errCmp (some 1)) rfl ?_); clear hJ J
   refine cg2_ @Bool.not_true @Bool.not_false ?_
   refine RunsL.nil ?_
   refine run_ ?_
   by_cases cv : ((9223372036854775808 : Int) ≤ v : Prop)
   ·have q : decide ((9223372036854775808 : Int) ≤ v) = true := decide_eq_true cv
    repeat' (first | refine ⟨by omega, ?_⟩ | (refine hJ _ _ (RunsL.nil ?_); clear hJ J) | refine RunsA.cond rfl (fun h => ?_) (fun h => absurd h (by decide)) | refine RunsA.cond rfl (fun h => absurd h (by decide)) (fun h => ?_) | (refine step_ ?_) | (refine RunsA.rk 12 [] tabOk fun J hJ => ?_; simp only [go_sem, ↓reduceIte, Nat.reduceAdd, Nat.reduceSub, Nat.reduceMul, Nat.reduceLT, Nat.reduceLeDiff, Nat.reduceEqDiff, Nat.reduceBEq, Int.reduceToNat, Int.reduceBEq, q, w4, w5, w7, w8, w9, w10, Bool.not_true, Bool.not_false]; try simp (disch := omega) only [wrap_id]) | simp only [↓reduceIte, not_false_eq_true, Int.reduceBEq, q, w4, w5, w7, w8, w9, w10, Bool.not_true, Bool.not_false])
    refine hJ _ _ (RunsL.mkIfc tabOk rfl rfl rfl rfl rfl rfl ?_); clear hJ J
    refine cg_ ?_
    refine RunsL.nil ?_
    refine run_ ?_
    exact RetA.mk tabOk 0 rfl rfl rfl (by omega) rfl rfl rfl ⟨⟨_, some 1, rfl, .inr (.inl rfl), fun N h1 h2 => by have := hhd N h2; omega⟩, rfl, rfl⟩
   ·have q : decide ((9223372036854775808 : Int) ≤ v) = false := decide_eq_false cv
    refine auto8_ 12 [] @q @w4 @w5 @w7 @w8 @w9 @w10 @w10 ?_
    exact RetA.mk tabOk 0 rfl rfl rfl (by omega) rfl rfl rfl ⟨⟨_, none, rfl, .inl rfl, fun N h1 h2 => by have := hhd N h2; omega⟩, rfl, rfl⟩
  ·simp only [errI]
   refine cgo_ ?_
   refine RunsL.nil ?_
   refine run_ ?_
   refine RunsA.rq tabOk fun J hJ => ?_
   simp only [go_sem, ↓reduceIte, Nat.reduceAdd, Nat.reduceSub, Nat.reduceMul, Nat.reduceLT, Nat.reduceLeDiff, Nat.reduceEqDiff, Nat.reduceBEq, Int.reduceToNat]
   try simp (disch := omega) only [wrap_id]
   refine hJ _ _ (RunsL.ifcEq (b := false) (ms := #[("Error", 85)]) rfl rfl (.inr rfl) (by kernel_rfl) rfl rfl rfl (.inr (.inr ⟨_, rfl⟩)) (errCmp (some 2)) rfl ?_); clear hJ J
   refine RunsL.go tabOk fun J hJ => ?_
   simp only [go_sem, ↓reduceIte, Nat.reduceAdd, Nat.reduceSub, Nat.reduceMul, Nat.reduceLT, Nat.reduceLeDiff, Nat.reduceEqDiff, Nat.reduceBEq, Int.reduceToNat, Bool.not_true, Bool.not_false]
   try simp (disch := omega) only [wrap_id]
   refine hJ _ _ (RunsL.mkIfc tabOk rfl rfl rfl rfl rfl rfl ?_); clear hJ J
   refine RunsL.go tabOk fun J hJ => ?_
   simp only [go_sem, ↓reduceIte, Nat.reduceAdd, Nat.reduceSub, Nat.reduceMul, Nat.reduceLT, Nat.reduceLeDiff, Nat.reduceEqDiff, Nat.reduceBEq, Int.reduceToNat]
   try simp (disch := omega) only [wrap_id]
   refine hJ _ _ (RunsL.ifcEq (b := false) (ms := #[("Error", 85)]) rfl rfl (.inr rfl) (by kernel_rfl) rfl rfl rfl (.inl ⟨_, rfl⟩) (errCmp (some 2)) rfl ?_); clear hJ J
   refine cg2_ @Bool.not_true @Bool.not_false ?_
   refine RunsL.nil ?_
   refine run_ ?_
   refine auto0_ 12 [] ?_
   exact RetA.mk tabOk 0 rfl rfl rfl (by omega) rfl rfl rfl ⟨⟨_, some 2, rfl, .inr (.inr rfl), fun N h1 h2 => by have := hhd N h2; omega⟩, rfl, rfl⟩
 ·have q1 : (((45 : Nat) : Int) == 43) = false := rfl
  have q2 : (((45 : Nat) : Int) == 45) = true := rfl
  have hU := parseU_ok r (by omega)
  repeat' (first | refine ⟨by omega, ?_⟩ | (refine hJ _ _ (RunsL.nil ?_); clear hJ J) | refine RunsA.cond rfl (fun h => ?_) (fun h => absurd h (by decide)) | refine RunsA.cond rfl (fun h => absurd h (by decide)) (fun h => ?_) | (refine step_ ?_) | (refine RunsA.rk 12 [16] tabOk fun J hJ => ?_; simp only [go_sem, ↓reduceIte, Nat.reduceAdd, Nat.reduceSub, Nat.reduceMul, Nat.reduceLT, Nat.reduceLeDiff, Nat.reduceEqDiff, Nat.reduceBEq, Int.reduceToNat, b0, hg, hdrop, htk, hcn, q1, q2, List.length_cons]; try simp (disch := omega) only [wrap_id]) | simp only [↓reduceIte, not_false_eq_true, b0, hg, hdrop, htk, hcn, q1, q2, List.length_cons])
  refine hJ _ _ (call_ (ps := []) (rid := 16) rfl rfl rfl rfl rfl (hU) ?_); clear hJ J
  rintro res os' ros ⟨⟨v, e, rfl, he, hN⟩, rfl, rfl⟩ _
  rcases he with rfl | rfl | rfl
  ·simp only [errI]
   refine cgo_ ?_
   refine RunsL.nil ?_
   refine run_ ?_
   refine RunsA.rq tabOk fun J hJ => ?_
   simp only [go_sem, ↓reduceIte, Nat.reduceAdd, Nat.reduceSub, Nat.reduceMul, Nat.reduceLT, Nat.reduceLeDiff, Nat.reduceEqDiff, Nat.reduceBEq, Int.reduceToNat]
   try simp (disch := omega) only [wrap_id]
   refine hJ _ _ (RunsL.ifcEq (b := true) (ms := #[("Error", 85)]) rfl rfl (.inr rfl) (by kernel_rfl) rfl rfl rfl (.inr (.inr ⟨_, rfl⟩)) (fun _ _ _ h => by cases h) rfl ?_); clear hJ J
   refine cg2_ @Bool.not_true @Bool.not_false ?_
   refine RunsL.nil ?_
   refine run_ ?_
   by_cases cv : ((9223372036854775808 : Int) < v : Prop)
   ·have q : decide ((9223372036854775808 : Int) < v) = true := decide_eq_true cv
    repeat' (first | refine ⟨by omega, ?_⟩ | (refine hJ _ _ (RunsL.nil ?_); clear hJ J) | refine RunsA.cond rfl (fun h => ?_) (fun h => absurd h (by decide)) | refine RunsA.cond rfl (fun h => absurd h (by decide)) (fun h => ?_) | (refine step_ ?_) | (refine RunsA.rk 12 [] tabOk fun J hJ => ?_; simp only [go_sem, ↓reduceIte, Nat.reduceAdd, Nat.reduceSub, Nat.reduceMul, Nat.reduceLT, Nat.reduceLeDiff, Nat.reduceEqDiff, Nat.reduceBEq, Int.reduceToNat, Int.reduceBEq, q, w4, w5, w7, w8, w9, w10, Bool.not_true, Bool.not_false]; try simp (disch := omega) only [wrap_id]) | simp only [↓reduceIte, not_false_eq_true, Int.reduceBEq, q, w4, w5, w7, w8, w9, w10, Bool.not_true, Bool.not_false])
    refine hJ _ _ (RunsL.mkIfc tabOk rfl rfl rfl rfl rfl rfl ?_); clear hJ J
    refine cg_ ?_
    refine RunsL.nil ?_
    refine run_ ?_
    exact RetA.mk tabOk 0 rfl rfl rfl (by omega) rfl rfl rfl ⟨⟨_, some 1, rfl, .inr (.inl rfl), fun N h1 h2 => by have := hhd N h2; omega⟩, rfl, rfl⟩
   ·have q : decide ((9223372036854775808 : Int) < v) = false := decide_eq_false cv
    refine auto8_ 12 [] @q @w4 @w5 @w7 @w8 @w9 @w10 @w10 ?_
    exact RetA.mk tabOk 0 rfl rfl rfl (by omega) rfl rfl rfl ⟨⟨_, none, rfl, .inl rfl, fun N h1 h2 => by have := hhd N h2; omega⟩, rfl, rfl⟩
  ·simp only [errI]
   refine cgo_ ?_
   refine RunsL.nil ?_
   refine run_ ?_
   refine RunsA.rq tabOk fun J hJ => ?_
   simp only [go_sem, ↓reduceIte, Nat.reduceAdd, Nat.reduceSub, Nat.reduceMul, Nat.reduceLT, Nat.reduceLeDiff, Nat.reduceEqDiff, Nat.reduceBEq, Int.reduceToNat]
   try simp (disch := omega) only [wrap_id]
   refine hJ _ _ (RunsL.ifcEq (b := false) (ms := #[("Error", 85)]) rfl rfl (.inr rfl) (by kernel_rfl) rfl rfl rfl (.inr (.inr ⟨_, rfl⟩)) (errCmp (some 1)) rfl ?_); clear hJ J
   refine RunsL.go tabOk fun J hJ => ?_
   simp only [go_sem, ↓reduceIte, Nat.reduceAdd, Nat.reduceSub, Nat.reduceMul, Nat.reduceLT, Nat.reduceLeDiff, Nat.reduceEqDiff, Nat.reduceBEq, Int.reduceToNat, Bool.not_true, Bool.not_false]
   try simp (disch := omega) only [wrap_id]
   refine hJ _ _ (RunsL.mkIfc tabOk rfl rfl rfl rfl rfl rfl ?_); clear hJ J
   refine RunsL.go tabOk fun J hJ => ?_
   simp only [go_sem, ↓reduceIte, Nat.reduceAdd, Nat.reduceSub, Nat.reduceMul, Nat.reduceLT, Nat.reduceLeDiff, Nat.reduceEqDiff, Nat.reduceBEq, Int.reduceToNat]
   try simp (disch := omega) only [wrap_id]
   refine hJ _ _ (RunsL.ifcEq (b := true) (ms := #[("Error", 85)]) rfl rfl (.inr rfl) (by kernel_rfl) rfl rfl rfl (.inl ⟨_, rfl⟩) (errCmp (some 1)) rfl ?_); clear hJ J
   refine cg2_ @Bool.not_true @Bool.not_false ?_
   refine RunsL.nil ?_
   refine run_ ?_
   by_cases cv : ((9223372036854775808 : Int) < v : Prop)
   ·have q : decide ((9223372036854775808 : Int) < v) = true := decide_eq_true cv
    repeat' (first | refine ⟨by omega, ?_⟩ | (refine hJ _ _ (RunsL.nil ?_); clear hJ J) | refine RunsA.cond rfl (fun h => ?_) (fun h => absurd h (by decide)) | refine RunsA.cond rfl (fun h => absurd h (by decide)) (fun h => ?_) | (refine step_ ?_) | (refine RunsA.rk 12 [] tabOk fun J hJ => ?_; simp only [go_sem, ↓reduceIte, Nat.reduceAdd, Nat.reduceSub, Nat.reduceMul, Nat.reduceLT, Nat.reduceLeDiff, Nat.reduceEqDiff, Nat.reduceBEq, Int.reduceToNat, Int.reduceBEq, q, w4, w5, w7, w8, w9, w10, Bool.not_true, Bool.not_false]; try simp (disch := omega) only [wrap_id]) | simp only [↓reduceIte, not_false_eq_true, Int.reduceBEq, q, w4, w5, w7, w8, w9, w10, Bool.not_true, Bool.not_false])
    refine hJ _ _ (RunsL.mkIfc tabOk rfl rfl rfl rfl rfl rfl ?_); clear hJ J
    refine cg_ ?_
    refine RunsL.nil ?_
    refine run_ ?_
    exact RetA.mk tabOk 0 rfl rfl rfl (by omega) rfl rfl rfl ⟨⟨_, some 1, rfl, .inr (.inl rfl), fun N h1 h2 => by have := hhd N h2; omega⟩, rfl, rfl⟩
   ·have q : decide ((9223372036854775808 : Int) < v) = false := decide_eq_false cv
    refine auto8_ 12 [] @q @w4 @w5 @w7 @w8 @w9 @w10 @w10 ?_
    exact RetA.mk tabOk 0 rfl rfl rfl (by omega) rfl rfl rfl ⟨⟨_, none, rfl, .inl rfl, fun N h1 h2 => by have := hhd N h2; omega⟩, rfl, rfl⟩
  ·simp only [errI]
   refine cgo_ ?_
   refine RunsL.nil ?_
   refine run_ ?_
   refine RunsA.rq tabOk fun J hJ => ?_
   simp only [go_sem, ↓reduceIte, Nat.reduceAdd, Nat.reduceSub, Nat.reduceMul, Nat.reduceLT, Nat.reduceLeDiff, Nat.reduceEqDiff, Nat.reduceBEq, Int.reduceToNat]
   try simp (disch := omega) only [wrap_id]
   refine hJ _ _ (RunsL.ifcEq (b := false) (ms := #[("Error", 85)]) rfl rfl (.inr rfl) (by kernel_rfl) rfl rfl rfl (.inr (.inr ⟨_, rfl⟩)) (errCmp (some 2)) rfl ?_); clear hJ J
   refine RunsL.go tabOk fun J hJ => ?_
   simp only [go_sem, ↓reduceIte, Nat.reduceAdd, Nat.reduceSub, Nat.reduceMul, Nat.reduceLT, Nat.reduceLeDiff, Nat.reduceEqDiff, Nat.reduceBEq, Int.reduceToNat, Bool.not_true, Bool.not_false]
   try simp (disch := omega) only [wrap_id]
   refine hJ _ _ (RunsL.mkIfc tabOk rfl rfl rfl rfl rfl rfl ?_); clear hJ J
   refine RunsL.go tabOk fun J hJ => ?_
   simp only [go_sem, ↓reduceIte, Nat.reduceAdd, Nat.reduceSub, Nat.reduceMul, Nat.reduceLT, Nat.reduceLeDiff, Nat.reduceEqDiff, Nat.reduceBEq, Int.reduceToNat]
   try simp (disch := omega) only [wrap_id]
   refine hJ _ _ (RunsL.ifcEq (b := false) (ms := #[("Error", 85)]) rfl rfl (.inr rfl) (by kernel_rfl) rfl rfl rfl (.inl ⟨_, rfl⟩) (errCmp (some 2)) rfl ?_); clear hJ J
   refine cg2_ @Bool.not_true @Bool.not_false ?_
   refine RunsL.nil ?_
   refine run_ ?_
   refine auto0_ 12 [] ?_
   exact RetA.mk tabOk 0 rfl rfl rfl (by omega) rfl rfl rfl ⟨⟨_, some 2, rfl, .inr (.inr rfl), fun N h1 h2 => by have := hhd N h2; omega⟩, rfl, rfl⟩
 ·have q1 : ((cn : Int) == 43) = false := beq_eq_false_iff_ne.2 (by omega)
  have q2 : ((cn : Int) == 45) = false := beq_eq_false_iff_ne.2 (by omega)
  have hU := parseU_ok (c :: r) (by exact hs)
  repeat' (first | refine ⟨by omega, ?_⟩ | (refine hJ _ _ (RunsL.nil ?_); clear hJ J) | refine RunsA.cond rfl (fun h => ?_) (fun h => absurd h (by decide)) | refine RunsA.cond rfl (fun h => absurd h (by decide)) (fun h => ?_) | (refine step_ ?_) | (refine RunsA.rk 12 [16] tabOk fun J hJ => ?_; simp only [go_sem, ↓reduceIte, Nat.reduceAdd, Nat.reduceSub, Nat.reduceMul, Nat.reduceLT, Nat.reduceLeDiff, Nat.reduceEqDiff, Nat.reduceBEq, Int.reduceToNat, b0, hg, hdrop, htk, hcn, q1, q2, List.length_cons]; try simp (disch := omega) only [wrap_id]) | simp only [↓reduceIte, not_false_eq_true, b0, hg, hdrop, htk, hcn, q1, q2, List.length_cons])
  refine hJ _ _ (call_ (ps := []) (rid := 16) rfl rfl rfl rfl rfl (hU) ?_); clear hJ J
  rintro res os' ros ⟨⟨v, e, rfl, he, hN⟩, rfl, rfl⟩ _
  rcases he with rfl | rfl | rfl
  ·simp only [errI]
   refine cgo_ ?_
   refine RunsL.nil ?_
   refine run_ ?_
   refine RunsA.rq tabOk fun J hJ => ?_
   simp only [go_sem, ↓reduceIte, Nat.reduceAdd, Nat.reduceSub, Nat.reduceMul, Nat.reduceLT, Nat.reduceLeDiff, Nat.reduceEqDiff, Nat.reduceBEq, Int.reduceToNat]
   try simp (disch := omega) only [wrap_id]
   refine hJ _ _ (RunsL.ifcEq (b := true) (ms := #[("Error", 85)]) rfl rfl (.inr rfl) (by kernel_rfl) rfl rfl rfl (.inr (.inr ⟨_, rfl⟩)) (fun _ _ _ h => by cases h) rfl ?_); clear hJ J
   refine cg2_ @Bool.not_true @Bool.not_false ?_
   refine RunsL.nil ?_
   refine run_ ?_
   by_cases cv : ((9223372036854775808 : Int) ≤ v : Prop)
   ·have q : decide ((9223372036854775808 : Int) ≤ v) = true := decide_eq_true cv
    repeat' (first | refine ⟨by omega, ?_⟩ | (refine hJ _ _ (RunsL.nil ?_); clear hJ J) | refine RunsA.cond rfl (fun h => ?_) (fun h => absurd h (by decide)) | refine RunsA.cond rfl (fun h => absurd h (by decide)) (fun h => ?_) | (refine step_ ?_) | (refine RunsA.rk 12 [] tabOk fun J hJ => ?_; simp only [go_sem, ↓reduceIte, Nat.reduceAdd, Nat.reduceSub, Nat.reduceMul, Nat.reduceLT, Nat.reduceLeDiff, Nat.reduceEqDiff, Nat.reduceBEq, Int.reduceToNat, Int.reduceBEq, q, w4, w5, w7, w8, w9, w10, Bool.not_true, Bool.not_false]; try simp (disch := omega) only [wrap_id]) | simp only [↓reduceIte, not_false_eq_true, Int.reduceBEq, q, w4, w5, w7, w8, w9, w10, Bool.not_true, Bool.not_false])
    refine hJ _ _ (RunsL.mkIfc tabOk rfl rfl rfl rfl rfl rfl ?_); clear hJ J
    refine cg_ ?_
    refine RunsL.nil ?_
    refine run_ ?_
    exact RetA.mk tabOk 0 rfl rfl rfl (by omega) rfl rfl rfl ⟨⟨_, some 1, rfl, .inr (.inl rfl), fun N h1 h2 => by have := (hN N h1 h2).2; omega⟩, rfl, rfl⟩
   ·have q : decide ((9223372036854775808 : Int) ≤ v) = false := decide_eq_false cv
    refine auto8_ 12 [] @q @w4 @w5 @w7 @w8 @w9 @w10 @w10 ?_
    exact RetA.mk tabOk 0 rfl rfl rfl (by omega) rfl rfl rfl ⟨⟨_, none, rfl, .inl rfl, fun N h1 h2 => by have h3 := (hN N h1 h2).2; refine ⟨rfl, ?_⟩; rw [h3, wrap_id (by omega) (by omega)]⟩, rfl, rfl⟩
  ·simp only [errI]
   refine cgo_ ?_
   refine RunsL.nil ?_
   refine run_ ?_
   refine RunsA.rq tabOk fun J hJ => ?_
   simp only [go_sem, ↓reduceIte, Nat.reduceAdd, Nat.reduceSub, Nat.reduceMul, Nat.reduceLT, Nat.reduceLeDiff, Nat.reduceEqDiff, Nat.reduceBEq, Int.reduceToNat]
   try simp (disch := omega) only [wrap_id]
   refine hJ _ _ (RunsL.ifcEq (b := false) (ms := #[("Error", 85)]) rfl rfl (.inr rfl) (by kernel_rfl) rfl rfl rfl (.inr (.inr ⟨_, rfl⟩)) (errCmp (some 1)) rfl ?_); clear hJ J
   refine RunsL.go tabOk fun J hJ => ?_
   simp only [go_sem, ↓reduceIte, Nat.reduceAdd, Nat.reduceSub, Nat.reduceMul, Nat.reduceLT, Nat.reduceLeDiff, Nat.reduceEqDiff, Nat.reduceBEq, Int.reduceToNat, Bool.not_true, Bool.not_false]
   try simp (disch := omega) only [wrap_id]
   refine hJ _ _ (RunsL.mkIfc tabOk rfl rfl rfl rfl rfl rfl ?_); clear hJ J
   refine RunsL.go tabOk fun J hJ => ?_
   simp only [go_sem, ↓reduceIte, Nat.reduceAdd, Nat.reduceSub, Nat.reduceMul, Nat.reduceLT, Nat.reduceLeDiff, Nat.reduceEqDiff, Nat.reduceBEq, Int.reduceToNat]
   try simp (disch := omega) only [wrap_id]
   refine hJ _ _ (RunsL.ifcEq (b := true) (ms := #[("Error", 85)]) rfl rfl (.inr rfl) (by kernel_rfl) rfl rfl rfl (.inl ⟨_, rfl⟩) (errCmp (some 1)) rfl ?_); clear hJ J
   refine cg2_ @Bool.not_true @Bool.not_false ?_
   refine RunsL.nil ?_
   refine run_ ?_
   by_cases cv : ((9223372036854775808 : Int) ≤ v : Prop)
   ·have q : decide ((9223372036854775808 : Int) ≤ v) = true := decide_eq_true cv
    repeat' (first | refine ⟨by omega, ?_⟩ | (refine hJ _ _ (RunsL.nil ?_); clear hJ J) | refine RunsA.cond rfl (fun h => ?_) (fun h => absurd h (by decide)) | refine RunsA.cond rfl (fun h => absurd h (by decide)) (fun h => ?_) | (refine step_ ?_) | (refine RunsA.rk 12 [] tabOk fun J hJ => ?_; simp only [go_sem, ↓reduceIte, Nat.reduceAdd, Nat.reduceSub, Nat.reduceMul, Nat.reduceLT, Nat.reduceLeDiff, Nat.reduceEqDiff, Nat.reduceBEq, Int.reduceToNat, Int.reduceBEq, q, w4, w5, w7, w8, w9, w10, Bool.not_true, Bool.not_false]; try simp (disch := omega) only [wrap_id]) | simp only [↓reduceIte, not_false_eq_true, Int.reduceBEq, q, w4, w5, w7, w8, w9, w10, Bool.not_true, Bool.not_false])
    refine hJ _ _ (RunsL.mkIfc tabOk rfl rfl rfl rfl rfl rfl ?_); clear hJ J
    refine cg_ ?_
    refine RunsL.nil ?_
    refine run_ ?_
    exact RetA.mk tabOk 0 rfl rfl rfl (by omega) rfl rfl rfl ⟨⟨_, some 1, rfl, .inr (.inl rfl), fun N h1 h2 => by have := (hN N h1 h2).1; cases this⟩, rfl, rfl⟩
   ·have q : decide ((9223372036854775808 : Int) ≤ v) = false := decide_eq_false cv
    refine auto8_ 12 [] @q @w4 @w5 @w7 @w8 @w9 @w10 @w10 ?_
    exact RetA.mk tabOk 0 rfl rfl rfl (by omega) rfl rfl rfl ⟨⟨_, none, rfl, .inl rfl, fun N h1 h2 => by have := (hN N h1 h2).1; cases this⟩, rfl, rfl⟩
  ·simp only [errI]
   refine cgo_ ?_
   refine RunsL.nil ?_
   refine run_ ?_
   refine RunsA.rq tabOk fun J hJ => ?_
   simp only [go_sem, ↓reduceIte, Nat.reduceAdd, Nat.reduceSub, Nat.reduceMul, Nat.reduceLT, Nat.reduceLeDiff, Nat.reduceEqDiff, Nat.reduceBEq, Int.reduceToNat]
   try simp (disch := omega) only [wrap_id]
   refine hJ _ _ (RunsL.ifcEq (b := false) (ms := #[("Error", 85)]) rfl rfl (.inr rfl) (by kernel_rfl) rfl rfl rfl (.inr (.inr ⟨_, rfl⟩)) (errCmp (some 2)) rfl ?_); clear hJ J
   refine RunsL.go tabOk fun J hJ => ?_
   simp only [go_sem, ↓reduceIte, Nat.reduceAdd, Nat.reduceSub, Nat.reduceMul, Nat.reduceLT, Nat.reduceLeDiff, Nat.reduceEqDiff, Nat.reduceBEq, Int.reduceToNat, Bool.not_true, Bool.not_false]
   try simp (disch := omega) only [wrap_id]
   refine hJ _ _ (RunsL.mkIfc tabOk rfl rfl rfl rfl rfl rfl ?_); clear hJ J
   refine RunsL.go tabOk fun J hJ => ?_
   simp only [go_sem, ↓reduceIte, Nat.reduceAdd, Nat.reduceSub, Nat.reduceMul, Nat.reduceLT, Nat.reduceLeDiff, Nat.reduceEqDiff, Nat.reduceBEq, Int.reduceToNat]
   try simp (disch := omega) only [wrap_id]
   refine hJ _ _ (RunsL.ifcEq (b := false) (ms := #[("Error", 85)]) rfl rfl (.inr rfl) (by kernel_rfl) rfl rfl rfl (.inl ⟨_, rfl⟩) (errCmp (some 2)) rfl ?_); clear hJ J
   refine cg2_ @Bool.not_true @Bool.not_false ?_
   refine RunsL.nil ?_
   refine run_ ?_
   refine auto0_ 12 [] ?_
   exact RetA.mk tabOk 0 rfl rfl rfl (by omega) rfl rfl rfl ⟨⟨_, some 2, rfl, .inr (.inr rfl), fun N h1 h2 => by have := (hN N h1 h2).1; cases this⟩, rfl, rfl⟩
end Go.Proofs.YtiilnlihimdnlaaGreatDoorFw
