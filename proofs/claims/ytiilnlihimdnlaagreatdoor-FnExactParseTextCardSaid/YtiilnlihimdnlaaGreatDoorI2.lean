/- strconv.ParseUint at base 8. -/
import Derived.Test.YtiilnlihimdnlaaGreatDoorI1
import Derived.Test.YtiilnlihimdnlaaGreatDoorFwE
namespace Go.Proofs.YtiilnlihimdnlaaGreatDoorFw
open Go Go.RowKit
set_option linter.unusedVariables false
set_option linter.unusedSimpArgs false
set_option maxRecDepth 4000
theorem wrap64 {n : Int} (h0 : 0 ≤ n) (h1 : n ≤ 18446744073709551615) : IntKind.u64.wrap n = n := by
 rw [IntKind.wrap]
 simp only [IntKind.bits, IntKind.signed]
 simp
 omega
theorem wrap8 {n : Int} (h0 : 0 ≤ n) (h1 : n ≤ 255) : IntKind.u8.wrap n = n := by
 rw [IntKind.wrap]
 simp only [IntKind.bits, IntKind.signed]
 simp
 omega
def errI : Option Int → AV
 | none => .nilI
 | some e => .ifc (some (163, .i64, e))
theorem lower_ok (c : Int) : FnA Tryz.prog 190 false [.int .u8 c] [] (fun r os ros => r = .int .u8 (bits .or .u8 c 32) ∧ os = [] ∧ ros = []) := by
 refine FnA.of Tryz.func190 rfl (by decide) Tryz.ntmps190 (by simp) ?_
 refine run_ ?_
 exact RetA.mk tabOk 0 rfl rfl rfl (by omega) rfl rfl rfl ⟨rfl, rfl, rfl⟩
theorem byteI_lt (b : UInt8) : b.toNat < 256 := UInt8.toNat_lt b
set_option maxHeartbeats 8000000 in
theorem parseU_ok (s : Str) (hs : s.length ≤ 140737488355328) : FnA Tryz.prog 182 false [.str s, .int .i64 8, .int .i64 64] []
 (fun r os ros => (∃ (v : Int) (e : Option Int), r = .tup [.int .u64 v, errI e] ∧ (e = none ∨ e = some 1 ∨ e = some 2) ∧ (∀ N, N ≤ 65535 → octS N = s → e = none ∧ v = N)) ∧ os = [] ∧ ros = []) := by
 refine FnA.of Tryz.func182 rfl (by decide) Tryz.ntmps182 (by simp) ?_
 by_cases c0 : s = []
 ·subst c0
  repeat (first | refine RunsA.sq ?_ | refine RunsA.bk ?_ | refine RunsA.sk ?_ | refine RunsA.ex ?_ | refine RunsA.rt ?_ | refine At.n ?_ | refine At.x ?_ | refine At.r ?_ | refine At.bn ?_ | refine At.br ?_ | refine At.bx ?_ | refine At.by_ rfl ?_ | refine At.kx ?_ | refine At.kr ?_ | refine At.kn ?_ | refine At.er ?_ | refine At.en ?_ | (refine RunsA.rq tabOk fun J hJ => ?_; simp only [go_sem, ↓reduceIte, Nat.reduceAdd, Nat.reduceSub, Nat.reduceMul, Nat.reduceLT, Nat.reduceLeDiff, Nat.reduceEqDiff, Nat.reduceBEq, Int.reduceToNat, BEq.rfl]; (try simp (disch := omega) only [wrap_id]); (repeat refine ⟨by omega, ?_⟩); refine hJ _ _ (RunsL.nil ?_); clear hJ J) | (refine RunsA.dq mixed tabOk (by kernel_rfl) fun J hJ => ?_; simp only [go_sem, ↓reduceIte, Nat.reduceAdd, Nat.reduceSub, Nat.reduceMul, Nat.reduceLT, Nat.reduceLeDiff, Nat.reduceEqDiff, Nat.reduceBEq, Int.reduceToNat, BEq.rfl]; (try simp (disch := omega) only [wrap_id]); (repeat refine ⟨by omega, ?_⟩); refine hJ _ _ (QRuns.nil ?_); clear hJ J))
  refine RunsA.cond rfl (fun h => ?_) (fun h => absurd h (by decide))
  refine run_ ?_
  refine RunsA.rq tabOk fun J hJ => ?_
  simp only [go_sem, ↓reduceIte, Nat.reduceAdd, Nat.reduceSub, Nat.reduceMul, Nat.reduceLT, Nat.reduceLeDiff, Nat.reduceEqDiff, Nat.reduceBEq, Int.reduceToNat]
  try simp (disch := omega) only [wrap_id]
  refine hJ _ _ (RunsL.mkIfc tabOk rfl rfl rfl rfl rfl rfl ?_); clear hJ J
  refine cg_ ?_
  refine RunsL.nil ?_
  refine run_ ?_
  refine RetA.mk tabOk 0 rfl rfl rfl (by omega) rfl rfl rfl ⟨⟨0, some 2, rfl, .inr (.inr rfl), fun N _ h => absurd h (octS_ne N)⟩, rfl, rfl⟩
 have b0 : (s == []) = false := by simp [c0]
 have w1 : IntKind.u64.wrap 8 = 8 := by decide
 have w2 : IntKind.u64.wrap (Int.tdiv 18446744073709551615 8) = 2305843009213693951 := by decide
 have w3 : IntKind.u64.wrap (2305843009213693951 + 1) = 2305843009213693952 := by decide
 have w4 : IntKind.u64.wrap 64 = 64 := by decide
 have n8 : (8 : Int) ≠ 0 := by decide
 repeat' (first | refine ⟨by omega, ?_⟩ | (refine hJ _ _ (RunsL.nil ?_); clear hJ J) | refine RunsA.cond rfl (fun h => ?_) (fun h => absurd h (by decide)) | refine RunsA.cond rfl (fun h => absurd h (by decide)) (fun h => ?_) | (refine step_ ?_) | (refine RunsA.rk 14 [85] tabOk fun J hJ => ?_; simp only [go_sem, ↓reduceIte, Nat.reduceAdd, Nat.reduceSub, Nat.reduceMul, Nat.reduceLT, Nat.reduceLeDiff, Nat.reduceEqDiff, Nat.reduceBEq, Int.reduceToNat, b0, Int.reduceBEq, Int.reduceLT, Int.reduceLE, decide_true, decide_false, w1, w2, w3, w4, n8]; try simp (disch := omega) only [wrap_id]) | simp only [↓reduceIte, not_false_eq_true, b0, Int.reduceBEq, Int.reduceLT, Int.reduceLE, decide_true, decide_false, w1, w2, w3, w4, n8])
 refine hJ _ _ (RunsL.bytesOf (e := 5) rfl rfl (by kernel_rfl) (by kernel_rfl) (by kernel_rfl) rfl rfl ?_); clear hJ J
 refine cgo1_ @bytesA_len ?_
 refine RunsL.nil ?_
 refine run_ ?_
 have w5 : IntKind.u64.wrap (IntKind.u64.wrap (1 * 2 ^ 64) - 1) = 18446744073709551615 := by decide
 rw [w5]
 have w6 : IntKind.u8.wrap 8 = 8 := by decide
 refine RunsA.loop ?_
 refine (LoopA.ind (fun p : Nat × Nat => ⟨172, [(0, .str s), (1, .int .i64 8), (8, .bool false), (9, .str s), (10, .int .u64 2305843009213693952), (11, .int .u64 18446744073709551615), (12, .bool false), (13, .int .u64 (p.2 : Nat)), (99, .row .ro 1 (bytesA s)), (100, .int .i64 (s.length : Nat)), (101, .int .i64 (p.1 : Nat))], [], false⟩)
  (fun p => s.length - p.1) (fun p => p.1 ≤ s.length ∧ p.2 ≤ 18446744073709551615 ∧ OctInv s p.1 p.2) ?_ (0, 0) ?_).sub rfl ?_ trivial rfl
 ·rintro ⟨i, n⟩ ⟨hi, hn, hv⟩ K3 hK3
  simp only at hi hn hv hK3 ⊢
  refine run1_ @bytesA_len ?_
  refine RunsA.cond rfl (fun h2 => ?_) (fun h2 => ?_)
  ·simp only [decide_eq_true_eq] at h2
   have hilt : i < s.length := by omega
   have hg := bytesA_get hilt
   have hstep := hv.step hilt
   have hdig : ∀ N, N ≤ 65535 → octS N = s → 48 ≤ s[i].toNat ∧ s[i].toNat ≤ 55 := fun N h1 h2 => hv.dig hilt h1 h2
   have hcl := byteI_lt s[i]
   generalize s[i] = c at *
   have hbad : ¬ (48 ≤ c.toNat ∧ c.toNat ≤ 55) → ∀ N, N ≤ 65535 → octS N = s → False := fun h N hN he => h (hdig N hN he)
   have hbig : 2305843009213693952 ≤ n → ∀ N, N ≤ 65535 → octS N = s → False := fun h N hN he => by
    have := (hv N hN he).2
    omega
   clear hv hdig
   generalize c.toNat = cn at *
   by_cases cd : 48 ≤ cn ∧ cn ≤ 55
   ·have q95 : ((cn : Int) == 95) = false := beq_eq_false_iff_ne.2 (by omega)
    have q1 : decide ((48 : Int) ≤ cn) = true := decide_eq_true (by omega)
    have q2 : decide ((cn : Int) ≤ 57) = true := decide_eq_true (by omega)
    obtain ⟨d, rfl⟩ : ∃ d, cn = 48 + d := ⟨cn - 48, by omega⟩
    have e1 : IntKind.u8.wrap (((48 + d : Nat) : Int) - 48) = (d : Nat) := by rw [wrap8 (by omega) (by omega)]; omega
    have q3 : decide ((8 : Int) ≤ (d : Nat)) = false := decide_eq_false (by omega)
    by_cases cb : 2305843009213693952 ≤ n
    ·have q4 : decide ((2305843009213693952 : Int) ≤ n) = true := decide_eq_true (by omega)
     repeat' (first | refine ⟨by omega, ?_⟩ | (refine hJ _ _ (RunsL.nil ?_); clear hJ J) | refine RunsA.cond rfl (fun h => ?_) (fun h => absurd h (by decide)) | refine RunsA.cond rfl (fun h => absurd h (by decide)) (fun h => ?_) | (refine step_ ?_) | (refine RunsA.rk 18 [99, 100, 101] tabOk fun J hJ => ?_; simp only [go_sem, ↓reduceIte, Nat.reduceAdd, Nat.reduceSub, Nat.reduceMul, Nat.reduceLT, Nat.reduceLeDiff, Nat.reduceEqDiff, Nat.reduceBEq, Int.reduceToNat, hg, bytesA_len, Int.reduceBEq, w6, w1, q95, q1, q2, q3, q4, e1]; try simp (disch := omega) only [wrap_id]) | simp only [↓reduceIte, not_false_eq_true, hg, bytesA_len, Int.reduceBEq, w6, w1, q95, q1, q2, q3, q4, e1])
     refine hJ _ _ (RunsL.mkIfc tabOk rfl rfl rfl rfl rfl rfl ?_); clear hJ J
     refine cg_ ?_
     refine RunsL.nil ?_
     refine run_ ?_
     exact RetA.mk tabOk 0 rfl rfl rfl (by omega) rfl rfl rfl ⟨⟨_, some 1, rfl, .inr (.inl rfl), fun N h1 h2 => (hbig cb N h1 h2).elim⟩, rfl, rfl⟩
    ·have q4 : decide ((2305843009213693952 : Int) ≤ n) = false := decide_eq_false (by omega)
     have e2 : IntKind.u64.wrap ((n : Int) * 8) = ((n * 8 : Nat) : Int) := by rw [wrap64 (by omega) (by omega)]; omega
     have e3 : IntKind.u64.wrap ((d : Nat) : Int) = (d : Nat) := wrap64 (by omega) (by omega)
     have e4 : IntKind.u64.wrap (((n * 8 : Nat) : Int) + (d : Nat)) = ((n * 8 + d : Nat) : Int) := by rw [wrap64 (by omega) (by omega)]; omega
     have q5 : decide (((n * 8 + d : Nat) : Int) < ((n * 8 : Nat) : Int)) = false := decide_eq_false (by omega)
     have q6 : decide ((18446744073709551615 : Int) < ((n * 8 + d : Nat) : Int)) = false := decide_eq_false (by omega)
     repeat' (first | refine ⟨by omega, ?_⟩ | (refine hJ _ _ (RunsL.nil ?_); clear hJ J) | refine RunsA.cond rfl (fun h => ?_) (fun h => absurd h (by decide)) | refine RunsA.cond rfl (fun h => absurd h (by decide)) (fun h => ?_) | (refine step_ ?_) | (refine RunsA.rk 18 [99, 100, 101] tabOk fun J hJ => ?_; simp only [go_sem, ↓reduceIte, Nat.reduceAdd, Nat.reduceSub, Nat.reduceMul, Nat.reduceLT, Nat.reduceLeDiff, Nat.reduceEqDiff, Nat.reduceBEq, Int.reduceToNat, hg, bytesA_len, Int.reduceBEq, w6, w1, q95, q1, q2, q3, q4, q5, q6, e1, e2, e3, e4]; try simp (disch := omega) only [wrap_id]) | simp only [↓reduceIte, not_false_eq_true, hg, bytesA_len, Int.reduceBEq, w6, w1, q95, q1, q2, q3, q4, q5, q6, e1, e2, e3, e4])
     have hs3 := hstep ⟨by omega, by omega⟩
     rw [show 48 + d - 48 = d by omega] at hs3
     exact hK3 (i + 1, n * 8 + d) _ ⟨by simp only; omega, by simp only; omega, hs3⟩ (by simp only; omega) rfl (by simp [SubS, lookS]) trivial rfl
   ·have hN := hbad cd
    clear hbad hstep hbig
    by_cases cd2 : 48 ≤ cn ∧ cn ≤ 57
    ·have q95 : ((cn : Int) == 95) = false := beq_eq_false_iff_ne.2 (by omega)
     have q1 : decide ((48 : Int) ≤ cn) = true := decide_eq_true (by omega)
     have q2 : decide ((cn : Int) ≤ 57) = true := decide_eq_true (by omega)
     obtain ⟨d, rfl⟩ : ∃ d, cn = 48 + d := ⟨cn - 48, by omega⟩
     have e1 : IntKind.u8.wrap (((48 + d : Nat) : Int) - 48) = (d : Nat) := by rw [wrap8 (by omega) (by omega)]; omega
     have q3 : decide ((8 : Int) ≤ (d : Nat)) = true := decide_eq_true (by omega)
     repeat' (first | refine ⟨by omega, ?_⟩ | (refine hJ _ _ (RunsL.nil ?_); clear hJ J) | refine RunsA.cond rfl (fun h => ?_) (fun h => absurd h (by decide)) | refine RunsA.cond rfl (fun h => absurd h (by decide)) (fun h => ?_) | (refine step_ ?_) | (refine RunsA.rk 18 [99, 100, 101] tabOk fun J hJ => ?_; simp only [go_sem, ↓reduceIte, Nat.reduceAdd, Nat.reduceSub, Nat.reduceMul, Nat.reduceLT, Nat.reduceLeDiff, Nat.reduceEqDiff, Nat.reduceBEq, Int.reduceToNat, hg, bytesA_len, Int.reduceBEq, w6, w1, q95, q1, q2, q3, e1]; try simp (disch := omega) only [wrap_id]) | simp only [↓reduceIte, not_false_eq_true, hg, bytesA_len, Int.reduceBEq, w6, w1, q95, q1, q2, q3, e1])
     refine hJ _ _ (RunsL.mkIfc tabOk rfl rfl rfl rfl rfl rfl ?_); clear hJ J
     refine cg_ ?_
     refine RunsL.nil ?_
     refine run_ ?_
     exact RetA.mk tabOk 0 rfl rfl rfl (by omega) rfl rfl rfl ⟨⟨_, some 2, rfl, .inr (.inr rfl), fun N h1 h2 => (hN N h1 h2).elim⟩, rfl, rfl⟩
    ·obtain ⟨b95, q95⟩ : ∃ b, ((cn : Int) == 95) = b := ⟨_, rfl⟩
     obtain ⟨b1, q1⟩ : ∃ b, decide ((48 : Int) ≤ cn) = b := ⟨_, rfl⟩
     obtain ⟨b2, q2⟩ : ∃ b, decide ((cn : Int) ≤ 57) = b := ⟨_, rfl⟩
     have qb : (b1 && b2) = false := by rw [← q1, ← q2]; simp; omega
     have hlow := lower_ok cn
     generalize bits .or .u8 (cn : Int) 32 = lo at *
     by_cases cl : 97 ≤ lo ∧ lo ≤ 122
     ·have q3 : decide ((97 : Int) ≤ lo) = true := decide_eq_true (by omega)
      have q4 : decide (lo ≤ 122) = true := decide_eq_true (by omega)
      have e1 : IntKind.u8.wrap (lo - 97) = lo - 97 := wrap8 (by omega) (by omega)
      have e2 : IntKind.u8.wrap (lo - 97 + 10) = lo - 97 + 10 := wrap8 (by omega) (by omega)
      have q5 : decide ((8 : Int) ≤ lo - 97 + 10) = true := decide_eq_true (by omega)
      cases b95 <;> cases b1 <;> cases b2 <;> simp only [Bool.and_self, Bool.and_true, Bool.and_false, Bool.true_eq_false] at qb
      all_goals (
       repeat' (first | refine ⟨by omega, ?_⟩ | (refine hJ _ _ (RunsL.nil ?_); clear hJ J) | refine RunsA.cond rfl (fun h => ?_) (fun h => absurd h (by decide)) | refine RunsA.cond rfl (fun h => absurd h (by decide)) (fun h => ?_) | (refine step_ ?_) | (refine RunsA.rk 18 [99, 100, 101] tabOk fun J hJ => ?_; simp only [go_sem, ↓reduceIte, Nat.reduceAdd, Nat.reduceSub, Nat.reduceMul, Nat.reduceLT, Nat.reduceLeDiff, Nat.reduceEqDiff, Nat.reduceBEq, Int.reduceToNat, hg, bytesA_len, Int.reduceBEq, w6, w1, q95, q1, q2, q3, q4, q5, e1, e2]; try simp (disch := omega) only [wrap_id]) | (refine hJ _ _ (call_ (ps := []) (rid := 16) rfl rfl rfl rfl rfl (hlow) ?_); clear hJ J; rintro r os' ros ⟨rfl, rfl, rfl⟩ _; refine RunsL.go tabOk fun J hJ => ?_; simp only [go_sem, ↓reduceIte, Nat.reduceAdd, Nat.reduceSub, Nat.reduceMul, Nat.reduceLT, Nat.reduceLeDiff, Nat.reduceEqDiff, Nat.reduceBEq, Int.reduceToNat, hg, bytesA_len, Int.reduceBEq, w6, w1, q95, q1, q2, q3, q4, q5, e1, e2]; try simp (disch := omega) only [wrap_id]) | simp only [↓reduceIte, not_false_eq_true, hg, bytesA_len, Int.reduceBEq, w6, w1, q95, q1, q2, q3, q4, q5, e1, e2])
       refine hJ _ _ (RunsL.mkIfc tabOk rfl rfl rfl rfl rfl rfl ?_); clear hJ J
       refine cg_ ?_
       refine RunsL.nil ?_
       refine run_ ?_
       exact RetA.mk tabOk 0 rfl rfl rfl (by omega) rfl rfl rfl ⟨⟨_, some 2, rfl, .inr (.inr rfl), fun N h1 h2 => (hN N h1 h2).elim⟩, rfl, rfl⟩)
     ·obtain ⟨b3, q3⟩ : ∃ b, decide ((97 : Int) ≤ lo) = b := ⟨_, rfl⟩
      obtain ⟨b4, q4⟩ : ∃ b, decide (lo ≤ 122) = b := ⟨_, rfl⟩
      have qc : (b3 && b4) = false := by rw [← q3, ← q4]; simp; omega
      cases b95 <;> cases b1 <;> cases b2 <;> simp only [Bool.and_self, Bool.and_true, Bool.and_false, Bool.true_eq_false] at qb
      all_goals (cases b3 <;> cases b4 <;> simp only [Bool.and_self, Bool.and_true, Bool.and_false, Bool.true_eq_false] at qc)
      all_goals (
       repeat' (first | refine ⟨by omega, ?_⟩ | (refine hJ _ _ (RunsL.nil ?_); clear hJ J) | refine RunsA.cond rfl (fun h => ?_) (fun h => absurd h (by decide)) | refine RunsA.cond rfl (fun h => absurd h (by decide)) (fun h => ?_) | (refine step_ ?_) | (refine RunsA.rk 18 [99, 100, 101] tabOk fun J hJ => ?_; simp only [go_sem, ↓reduceIte, Nat.reduceAdd, Nat.reduceSub, Nat.reduceMul, Nat.reduceLT, Nat.reduceLeDiff, Nat.reduceEqDiff, Nat.reduceBEq, Int.reduceToNat, hg, bytesA_len, Int.reduceBEq, w6, w1, q95, q1, q2, q3, q4]; try simp (disch := omega) only [wrap_id]) | (refine hJ _ _ (call_ (ps := []) (rid := 16) rfl rfl rfl rfl rfl (hlow) ?_); clear hJ J; rintro r os' ros ⟨rfl, rfl, rfl⟩ _; refine RunsL.go tabOk fun J hJ => ?_; simp only [go_sem, ↓reduceIte, Nat.reduceAdd, Nat.reduceSub, Nat.reduceMul, Nat.reduceLT, Nat.reduceLeDiff, Nat.reduceEqDiff, Nat.reduceBEq, Int.reduceToNat, hg, bytesA_len, Int.reduceBEq, w6, w1, q95, q1, q2, q3, q4]; try simp (disch := omega) only [wrap_id]) | simp only [↓reduceIte, not_false_eq_true, hg, bytesA_len, Int.reduceBEq, w6, w1, q95, q1, q2, q3, q4])
       refine hJ _ _ (RunsL.mkIfc tabOk rfl rfl rfl rfl rfl rfl ?_); clear hJ J
       refine cg_ ?_
       refine RunsL.nil ?_
       refine run_ ?_
       exact RetA.mk tabOk 0 rfl rfl rfl (by omega) rfl rfl rfl ⟨⟨_, some 2, rfl, .inr (.inr rfl), fun N h1 h2 => (hN N h1 h2).elim⟩, rfl, rfl⟩)
  ·simp only [decide_eq_false_iff_not] at h2
   have hil : i = s.length := by omega
   subst hil
   refine run_ ?_
   refine auto0_ 14 [] ?_
   exact RetA.mk tabOk 0 rfl rfl rfl (by omega) rfl rfl rfl ⟨⟨_, none, rfl, .inl rfl, fun N h1 h2 => ⟨rfl, by rw [hv.last h1 h2]⟩⟩, rfl, rfl⟩
 ·exact ⟨Nat.zero_le _, by simp, OctInv.zero s⟩
 ·simp [SubS, lookS]
end Go.Proofs.YtiilnlihimdnlaaGreatDoorFw
