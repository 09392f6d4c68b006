/- The library's digits of base eight: how many noughts are behind eight (its table), and whether a base is a power of two. -/
import Derived.Test.YtiilnlihimdnlaaGreatDoorFwE
import Derived.Test.YtiilnlihimdnlaaGreatDoorQL
import Derived.Lib.TrailingZeros
set_option linter.unusedVariables false
set_option linter.unusedSimpArgs false
set_option maxRecDepth 4000
namespace Go.Proofs.YtiilnlihimdnlaaGreatDoorFw
open Go Go.RowKit
theorem isPow_ok : FnA Tryz.prog 202 false [.int .i64 8] [] (fun r os ros => r = .bool true ∧ os = [] ∧ ros = []) := by
 have e1 : bits .and .i64 8 7 = 0 := by decide +kernel
 refine FnA.of Tryz.func202 rfl (by decide) Tryz.ntmps202 (by simp) ?_
 repeat (first | refine RunsA.sq ?_ | refine RunsA.bk ?_ | refine RunsA.sk ?_ | refine RunsA.ex ?_ | refine RunsA.rt ?_ | refine At.n ?_ | refine At.x ?_ | refine At.r ?_ | refine At.bn ?_ | refine At.br ?_ | refine At.bx ?_ | refine At.by_ rfl ?_ | refine At.kx ?_ | refine At.kr ?_ | refine At.kn ?_ | refine At.er ?_ | refine At.en ?_ | (refine RunsA.rq tabOk fun J hJ => ?_; simp only [go_sem, ↓reduceIte, Nat.reduceAdd, Nat.reduceSub, Nat.reduceMul, Nat.reduceLT, Nat.reduceLeDiff, Nat.reduceEqDiff, Nat.reduceBEq, Int.reduceToNat, Int.reduceSub, e1, beq_self_eq_true, decide_true]; (try simp (disch := omega) only [wrap_id]); (repeat refine ⟨by omega, ?_⟩); refine hJ _ _ (RunsL.nil ?_); clear hJ J) | (refine RunsA.dq mixed tabOk (by kernel_rfl) fun J hJ => ?_; simp only [go_sem, ↓reduceIte, Nat.reduceAdd, Nat.reduceSub, Nat.reduceMul, Nat.reduceLT, Nat.reduceLeDiff, Nat.reduceEqDiff, Nat.reduceBEq, Int.reduceToNat, Int.reduceSub, e1, beq_self_eq_true, decide_true]; (try simp (disch := omega) only [wrap_id]); (repeat refine ⟨by omega, ?_⟩); refine hJ _ _ (QRuns.nil ?_); clear hJ J))
 exact RetA.mk tabOk 0 rfl rfl rfl (by omega) rfl rfl rfl ⟨rfl, rfl, rfl⟩
theorem tab5 : lbTab 7 = some (([0, 1, 56, 2, 57, 49, 28, 3, 61, 58, 42, 50, 38, 29, 17, 4, 62, 47, 59, 36, 45, 43, 51, 22, 53, 39, 33, 30, 24, 18, 12, 5, 63, 55, 48, 27, 60, 41, 37, 16, 46, 35, 44, 21, 52, 32, 23, 11, 54, 26, 40, 15, 34, 20, 31, 10, 25, 14, 19, 9, 13, 8, 7, 6] : List Int).map fun n => Value.int .u8 n).toArray := rfl
theorem tz64_ok : FnA Tryz.prog 205 false [.int .u64 8] [] (fun r os ros => r = .int .i64 3 ∧ os = [] ∧ ros = []) := by
 refine FnA.of Tryz.func205 rfl (by decide) Tryz.ntmps205 (by simp) ?_
 refine run_ ?_
 refine RunsA.cond rfl (fun h => absurd h (by decide)) (fun h => ?_)
 refine run_ ?_
 refine RunsA.rq tabOk fun J hJ => ?_
 simp only [go_sem, ↓reduceIte, Nat.reduceAdd, Nat.reduceSub, Nat.reduceMul, Nat.reduceLT, Nat.reduceLeDiff, Nat.reduceEqDiff, Nat.reduceBEq, Int.reduceToNat]
 try simp (disch := omega) only [wrap_id]
 (repeat refine ⟨by omega, ?_⟩)
 refine hJ _ _ (RunsL.tabAddr (kk := .u8) (v := 3) tabOk rfl rfl rfl rfl tab5 rfl (by decide) (by decide) (by kernel_rfl) rfl ?_); clear hJ J
 refine cg_ ?_
 refine RunsL.nil ?_
 refine run_ ?_
 exact RetA.mk tabOk 0 rfl rfl rfl (by omega) rfl rfl rfl ⟨rfl, rfl, rfl⟩
theorem tz_ok : FnA Tryz.prog 203 false [.int .u64 8] [] (fun r os ros => r = .int .i64 3 ∧ os = [] ∧ ros = []) := by
 refine FnA.of Tryz.func203 rfl (by decide) Tryz.ntmps203 (by simp) ?_
 refine run_ ?_
 refine RunsA.cond rfl (fun h => absurd h (by decide)) (fun h => ?_)
 refine run_ ?_
 refine rg_ ?_
 refine call_ (ps := []) (rid := 16) rfl rfl rfl rfl rfl (tz64_ok) ?_
 refine cr_ ?_
 refine run_ ?_
 exact RetA.mk tabOk 0 rfl rfl rfl (by omega) rfl rfl rfl ⟨rfl, rfl, rfl⟩
end Go.Proofs.YtiilnlihimdnlaaGreatDoorFw
namespace Go.Proofs.YtiilnlihimdnlaaGreatDoorFw
open Go Go.RowKit
def dig (n : Nat) : Str := [UInt8.ofNat (48 + n)]
def octS (n : Nat) : Str := if n < 8 then dig n else octS (n / 8) ++ dig (n % 8)
termination_by n
decreasing_by omega
def bytesI (l : List Int) : List AV := l.map (.int .u8)
theorem bytesI_len (l : List Int) : (bytesI l).length = l.length := by simp [bytesI]
theorem bytesI_set (l : List Int) (i : Nat) (v : Int) : (bytesI l).set i (.int .u8 v) = bytesI (l.set i v) := by simp [bytesI, List.map_set]
theorem bytesI_get {l : List Int} {i : Nat} (h : i < l.length) : (bytesI l)[i]? = some (.int .u8 l[i]) := by simp [bytesI, h]
theorem bytesI_drop (l : List Int) (j : Nat) : (bytesI l).drop j = bytesI (l.drop j) := by simp [bytesI, List.map_drop]
theorem allU8_bytesI (l : List Int) : allU8 (bytesI l) = true := by induction l <;> simp_all [bytesI, allU8, isU8]
theorem u8L_bytesI (l : List Int) : u8L (bytesI l) = l.map fun n => UInt8.ofNat n.toNat := by induction l <;> simp_all [bytesI, u8L, u8Of]
theorem u8_back (D : Str) : (D.map fun c => (c.toNat : Int)).map (fun n => UInt8.ofNat n.toNat) = D := by
 rw [List.map_map]
 conv => rhs; rw [← List.map_id D]
 apply List.map_congr_left
 intro c _
 simp
theorem frzL_bytesI : ∀ l : List Int, frzL (bytesI l) = bytesI l
 | [] => rfl
 | x :: r => by
  have := frzL_bytesI r
  simp only [bytesI, List.map_cons, frzL, frz] at *
  rw [this]
theorem noBo_bytesI (l : List Int) : noBoL (bytesI l) = true := by induction l <;> simp_all [bytesI, noBoL, noBo]
theorem drop_set_self {α : Type} (l : List α) (j : Nat) (x : α) (h : j < l.length) : (l.set j x).drop j = x :: l.drop (j + 1) := by
 rw [List.drop_eq_getElem_cons (by rw [List.length_set]; exact h), List.getElem_set_self, List.drop_set_of_lt (by omega)]
def digTab : List UInt8 := [48,49,50,51,52,53,54,55,56,57,97,98,99,100,101,102,103,104,105,106,107,108,109,110,111,112,113,114,115,116,117,118,119,120,121,122]
theorem digTab_get : ∀ d < 8, digTab[d]? = some (UInt8.ofNat (48 + d)) := by decide
theorem and7 (u : Nat) (hu : u < 1048576) : bits .and .u64 (u : Int) 7 = ((u % 8 : Nat) : Int) := by
 have e : bits .and .u64 (u : Int) 7 = IntKind.u64.wrap (((BitVec.ofInt IntKind.u64.bits (u : Int) &&& BitVec.ofInt IntKind.u64.bits 7).toNat : Nat) : Int) := rfl
 rw [e]
 have h : (BitVec.ofInt IntKind.u64.bits (u : Int) &&& BitVec.ofInt IntKind.u64.bits 7).toNat = u % 8 := by
  rw [BitVec.toNat_and]
  have h1 : (BitVec.ofInt IntKind.u64.bits (u : Int)).toNat = u := by
   simp only [BitVec.toNat_ofInt, IntKind.bits]
   omega
  have h2 : (BitVec.ofInt IntKind.u64.bits 7).toNat = 7 := rfl
  rw [h1, h2, show 7 = 2 ^ 3 - 1 from rfl, Nat.and_two_pow_sub_one_eq_mod]
 rw [h, IntKind.wrap_u64]
 omega
theorem fmtBits_ok (n : Nat) (hn : n < 65536) : FnA Tryz.prog 198 false [.nilS, .int .u64 n, .int .i64 8, .bool false, .bool false] [] (fun r os ros => r = .tup [.hd 100 [], .str (octS n)] ∧ os = [] ∧ ros = [(1, [])]) := by
 refine FnA.of Tryz.func198 rfl (by decide) Tryz.ntmps198 (by simp) ?_
 have f1 : decide ((8 : Int) < 2) = false := by decide
 have f2 : ((8 : Int) == 10) = false := by decide
 have f3 : decide ((36 : Int) < 8) = false := by decide
 refine run3_ @f1 @f2 @f3 ?_
 refine RunsA.cond rfl (fun h => absurd h (by decide)) (fun h => ?_)
 refine run_ ?_
 refine RunsA.cond rfl (fun h => absurd h (by decide)) (fun h => ?_)
 refine run_ ?_
 refine rg_ ?_
 refine call_ (ps := []) (rid := 16) rfl rfl rfl rfl rfl (isPow_ok) ?_
 refine cr_ ?_
 refine run_ ?_
 refine RunsA.cond rfl (fun h => ?_) (fun h => absurd h (by decide))
 refine run_ ?_
 refine rgo_ ?_
 refine call_ (ps := []) (rid := 16) rfl rfl rfl rfl rfl (tz_ok) ?_
 refine cr_ ?_
 have f4 : (8 : Int) - 1 = 7 := by decide
 refine run1_ @f4 ?_
 refine RunsA.loop ?_
 refine (LoopA.ind (fun p : Nat × Nat × List Int => ⟨102, [(1, .int .u64 p.1), (3, .bool false), (4, .bool false), (10, .hd 2816 []), (12, .ptr 3328 [] 1 0 0), (13, .int .i64 ((59 + p.2.1 : Nat) : Int)), (14, .int .u64 3), (15, .int .u64 8), (16, .int .u64 7)], [⟨3328, 1, bytesI p.2.2⟩, ⟨2816, 1, []⟩], false⟩)
  (fun p => p.2.1) (fun p => 1 ≤ p.2.1 ∧ p.2.1 ≤ 6 ∧ p.1 < 8 ^ p.2.1 ∧ p.2.2.length = 65 ∧ ∃ D : Str, octS n = octS p.1 ++ D ∧ p.2.2.drop (59 + p.2.1) = D.map fun c => (c.toNat : Int)) ?_ (n, 6, List.replicate 65 0) ?_).sub rfl ?_ ?_ rfl
 rotate_left
 ·exact ⟨by simp, by simp, by simp only; omega, by simp, [], by simp, by simp⟩
 ·have w3 : IntKind.u64.wrap 3 = 3 := by decide
  have w8 : IntKind.u64.wrap 8 = 8 := by decide
  have w7 : IntKind.u64.wrap 7 = 7 := by decide
  simp [SubS, lookS, w3, w8, w7]
 ·simp [SubO, lookO, bytesI, List.replicate]
 rintro ⟨u, k, es⟩ ⟨hk1, hk6, hu, hel, D, hD, hdr⟩ K3 hK3
 simp only at hk1 hk6 hu hel hD hdr
 have hu2 : u < 65536 * 4 := by
  have : 8 ^ k ≤ 8 ^ 6 := Nat.pow_le_pow_right (by decide) hk6
  omega
 refine run_ ?_
 refine RunsA.cond rfl (fun h2 => ?_) (fun h2 => ?_)
 ·simp only [decide_eq_true_eq] at h2
  have hk2 : 2 ≤ k := by
   rcases Nat.lt_or_ge k 2 with h' | h'
   ·have : k = 1 := by omega
    subst this
    omega
   ·exact h'
  obtain ⟨k', rfl⟩ : ∃ k', k = k' + 1 := ⟨k - 1, by omega⟩
  have e1 : ((59 + (k' + 1) : Nat) : Int) - 1 = ((59 + k' : Nat) : Int) := by omega
  have ha := and7 u (by omega)
  have hd : u % 8 < 8 := Nat.mod_lt _ (by decide)
  have hdg := digTab_get (u % 8) hd
  rw [digTab] at hdg
  have hlt : 59 + k' < es.length := by omega
  have hge := bytesI_get hlt
  have hsh : ((u : Int) / 2 ^ 3) = ((u / 8 : Nat) : Int) := by rw [show (2 : Int) ^ 3 = 8 from rfl]; omega
  have hoc : octS u = octS (u / 8) ++ dig (u % 8) := by rw [octS, if_neg (by omega)]
  repeat (first | refine RunsA.sq ?_ | refine RunsA.bk ?_ | refine RunsA.sk ?_ | refine RunsA.ex ?_ | refine RunsA.rt ?_ | refine At.n ?_ | refine At.x ?_ | refine At.r ?_ | refine At.bn ?_ | refine At.br ?_ | refine At.bx ?_ | refine At.by_ rfl ?_ | refine At.kx ?_ | refine At.kr ?_ | refine At.kn ?_ | refine At.er ?_ | refine At.en ?_ | (refine RunsA.rq tabOk fun J hJ => ?_; simp only [go_sem, ↓reduceIte, Nat.reduceAdd, Nat.reduceSub, Nat.reduceMul, Nat.reduceLT, Nat.reduceLeDiff, Nat.reduceEqDiff, Nat.reduceBEq, Int.reduceToNat, e1, ha, hdg, bytesI_len, bytesI_set, hel, hge, hsh]; (try simp (disch := omega) only [wrap_id]); (repeat refine ⟨by omega, ?_⟩); refine hJ _ _ (RunsL.nil ?_); clear hJ J) | (refine RunsA.dq mixed tabOk (by kernel_rfl) fun J hJ => ?_; simp only [go_sem, ↓reduceIte, Nat.reduceAdd, Nat.reduceSub, Nat.reduceMul, Nat.reduceLT, Nat.reduceLeDiff, Nat.reduceEqDiff, Nat.reduceBEq, Int.reduceToNat, e1, ha, hdg, bytesI_len, bytesI_set, hel, hge, hsh]; (try simp (disch := omega) only [wrap_id]); (repeat refine ⟨by omega, ?_⟩); refine hJ _ _ (QRuns.nil ?_); clear hJ J))
  refine hK3 (u / 8, k', es.set (59 + k') (((UInt8.ofNat (48 + u % 8)).toNat : Nat) : Int)) _ ⟨by simp only; omega, by simp only; omega, ?_, by simp only [List.length_set]; exact hel, dig (u % 8) ++ D, ?_, ?_⟩ (by simp only; omega) rfl ?_ ?_ rfl
  ·simp only
   rw [Nat.pow_succ] at hu
   omega
  ·rw [hD, hoc, List.append_assoc]
  ·simp only
   rw [drop_set_self _ _ _ hlt, show 59 + k' + 1 = 59 + (k' + 1) by omega, hdr]
   rfl
  ·simp [SubS, lookS]
  ·simp [SubO, lookO]
 ·simp only [decide_eq_false_iff_not] at h2
  obtain ⟨k', rfl⟩ : ∃ k', k = k' + 1 := ⟨k - 1, by omega⟩
  have e1 : ((59 + (k' + 1) : Nat) : Int) - 1 = ((59 + k' : Nat) : Int) := by omega
  have hdg := digTab_get u (by omega)
  rw [digTab] at hdg
  have hlt : 59 + k' < es.length := by omega
  have hge := bytesI_get hlt
  have hoc : octS u = dig u := by rw [octS, if_pos (by omega)]
  repeat (first | refine RunsA.sq ?_ | refine RunsA.bk ?_ | refine RunsA.sk ?_ | refine RunsA.ex ?_ | refine RunsA.rt ?_ | refine At.n ?_ | refine At.x ?_ | refine At.r ?_ | refine At.bn ?_ | refine At.br ?_ | refine At.bx ?_ | refine At.by_ rfl ?_ | refine At.kx ?_ | refine At.kr ?_ | refine At.kn ?_ | refine At.er ?_ | refine At.en ?_ | (refine RunsA.rq tabOk fun J hJ => ?_; simp only [go_sem, ↓reduceIte, Nat.reduceAdd, Nat.reduceSub, Nat.reduceMul, Nat.reduceLT, Nat.reduceLeDiff, Nat.reduceEqDiff, Nat.reduceBEq, Int.reduceToNat, e1, hdg, bytesI_len, bytesI_set, hel, hge]; (try simp (disch := omega) only [wrap_id]); (repeat refine ⟨by omega, ?_⟩); refine hJ _ _ (RunsL.nil ?_); clear hJ J) | (refine RunsA.dq mixed tabOk (by kernel_rfl) fun J hJ => ?_; simp only [go_sem, ↓reduceIte, Nat.reduceAdd, Nat.reduceSub, Nat.reduceMul, Nat.reduceLT, Nat.reduceLeDiff, Nat.reduceEqDiff, Nat.reduceBEq, Int.reduceToNat, e1, hdg, bytesI_len, bytesI_set, hel, hge]; (try simp (disch := omega) only [wrap_id]); (repeat refine ⟨by omega, ?_⟩); refine hJ _ _ (QRuns.nil ?_); clear hJ J))
  refine RunsA.cond rfl (fun h => absurd h (by decide)) (fun h => ?_)
  refine run_ ?_
  refine RunsA.cond rfl (fun h => absurd h (by decide)) (fun h => ?_)
  refine run_ ?_
  refine RunsA.rq tabOk fun J hJ => ?_
  simp only [go_sem, ↓reduceIte, Nat.reduceAdd, Nat.reduceSub, Nat.reduceMul, Nat.reduceLT, Nat.reduceLeDiff, Nat.reduceEqDiff, Nat.reduceBEq, Int.reduceToNat]
  try simp (disch := omega) only [wrap_id]
  refine hJ _ _ (RunsL.sliceArr tabOk (n := 65) (es := bytesI (es.set (59 + k') (((UInt8.ofNat (48 + u)).toNat : Nat) : Int))) (m := ((59 + k' : Nat) : Int)) rfl rfl rfl rfl (by simp only [go_sem, ↓reduceIte, Nat.reduceAdd, Nat.reduceSub, Nat.reduceMul, Nat.reduceLT, Nat.reduceLeDiff, Nat.reduceEqDiff, Nat.reduceBEq, Int.reduceToNat]; first | done | rfl) (by simp only [go_sem, ↓reduceIte, Nat.reduceAdd, Nat.reduceSub, Nat.reduceMul, Nat.reduceLT, Nat.reduceLeDiff, Nat.reduceEqDiff, Nat.reduceBEq, Int.reduceToNat]; first | done | rfl) (by rw [bytesI_len, List.length_set]; exact hel) (frzL_bytesI _) (noBo_bytesI _) (by simp only [go_sem, ↓reduceIte, Nat.reduceAdd, Nat.reduceSub, Nat.reduceMul, Nat.reduceLT, Nat.reduceLeDiff, Nat.reduceEqDiff, Nat.reduceBEq, Int.reduceToNat]; first | done | rfl) (by omega) (by omega) rfl ?_); clear hJ J
  refine RunsL.go tabOk fun J hJ => ?_
  simp only [go_sem, ↓reduceIte, Nat.reduceAdd, Nat.reduceSub, Nat.reduceMul, Nat.reduceLT, Nat.reduceLeDiff, Nat.reduceEqDiff, Nat.reduceBEq, Int.reduceToNat, frzS, frzV, frzVL, dropO, bytesI_drop, drop_set_self _ _ _ hlt, allU8_bytesI, u8L_bytesI]
  try simp (disch := omega) only [wrap_id]
  refine hJ _ _ (RunsL.nil ?_); clear hJ J
  refine run_ ?_
  refine rv_ ?_
  refine vren_ 2816 100 ?_
  have hS : u8L (bytesI ((((UInt8.ofNat (48 + u)).toNat : Nat) : Int) :: es.drop (59 + k' + 1))) = octS n := by
   rw [u8L_bytesI, show 59 + k' + 1 = 59 + (k' + 1) by omega, hdr, List.map_cons, u8_back, hD, hoc, Int.toNat_natCast, UInt8.ofNat_toNat]
   rfl
  rw [u8L_bytesI] at hS
  exact RetV.mk 1 rfl rfl (by omega) rfl rfl rfl ⟨by rw [← hS, List.map_cons]; rfl, rfl, rfl⟩
end Go.Proofs.YtiilnlihimdnlaaGreatDoorFw
namespace Go.Proofs.YtiilnlihimdnlaaGreatDoorFw
open Go Go.RowKit
theorem fmtInt0_ok (n : Nat) (hn : n < 65536) : FnA Tryz.prog 187 false [.int .i64 n, .int .i64 8] [] (fun r os ros => r = .str (octS n) ∧ os = [] ∧ ros = []) := by
 have f2 : ((8 : Int) == 10) = false := by decide
 have f3 : decide ((n : Int) < 0) = false := decide_eq_false (by omega)
 have f4 : IntKind.u64.wrap (n : Int) = n := by rw [IntKind.wrap_u64]; omega
 refine FnA.of Tryz.func187 rfl (by decide) Tryz.ntmps187 (by simp) ?_
 refine run1_ @f2 ?_
 refine RunsA.cond rfl (fun h => absurd h (by decide)) (fun h => ?_)
 refine run_ ?_
 refine rg2_ @f3 @f4 ?_
 refine call_ (ps := []) (rid := 13056) rfl rfl rfl rfl rfl (fmtBits_ok n hn) ?_
 refine cr_ ?_
 refine run_ ?_
 exact RetA.mk tabOk 0 rfl rfl rfl (by omega) rfl rfl rfl ⟨rfl, rfl, rfl⟩
theorem fmtInt_ok (n : Nat) (hn : n < 65536) : FnA Tryz.prog 167 false [.int .i64 n, .int .i64 8] [] (fun r os ros => r = .str (octS n) ∧ os = [] ∧ ros = []) := by
 refine FnA.of Tryz.func167 rfl (by decide) Tryz.ntmps167 (by simp) ?_
 refine run_ ?_
 refine rg_ ?_
 refine call_ (ps := []) (rid := 16) rfl rfl rfl rfl rfl (fmtInt0_ok n hn) ?_
 refine cr_ ?_
 refine run_ ?_
 exact RetA.mk tabOk 0 rfl rfl rfl (by omega) rfl rfl rfl ⟨rfl, rfl, rfl⟩
def wordOf (n : Int) : Nat := (n % 65536).toNat
theorem wordOf_lt (n : Int) : wordOf n < 65536 := by unfold wordOf; omega
theorem and65535 (n : Int) : bits .and .i64 n 65535 = (wordOf n : Int) := by
 have e : bits .and .i64 n 65535 = IntKind.i64.wrap (((BitVec.ofInt IntKind.i64.bits n &&& BitVec.ofInt IntKind.i64.bits 65535).toNat : Nat) : Int) := rfl
 rw [e]
 have h : (BitVec.ofInt IntKind.i64.bits n &&& BitVec.ofInt IntKind.i64.bits 65535).toNat = wordOf n := by
  rw [BitVec.toNat_and]
  have h1 : (BitVec.ofInt IntKind.i64.bits n).toNat = (n % 18446744073709551616).toNat := by
   simp only [BitVec.toNat_ofInt, IntKind.bits]
   rfl
  have h2 : (BitVec.ofInt IntKind.i64.bits 65535).toNat = 65535 := rfl
  rw [h1, h2, show 65535 = 2 ^ 16 - 1 from rfl, Nat.and_two_pow_sub_one_eq_mod]
  unfold wordOf
  omega
 rw [h, IntKind.wrap_i64]
 have := wordOf_lt n
 omega
theorem iWrap_ok (n : Int) : FnA Tryz.prog 168 false [.int .i64 n] [] (fun r os ros => r = .int .i64 (wordOf n) ∧ os = [] ∧ ros = []) := by
 have e := and65535 n
 refine FnA.of Tryz.func168 rfl (by decide) Tryz.ntmps168 (by simp) ?_
 refine run1_ @e ?_
 exact RetA.mk tabOk 0 rfl rfl rfl (by omega) rfl rfl rfl ⟨rfl, rfl, rfl⟩
theorem sWrap_ok (n : Int) : FnA Tryz.prog 143 false [.int .i64 n] [] (fun r os ros => r = .int .i64 (wordOf n) ∧ os = [] ∧ ros = []) := by
 have e := and65535 n
 refine FnA.of Tryz.func143 rfl (by decide) Tryz.ntmps143 (by simp) ?_
 refine run1_ @e ?_
 exact RetA.mk tabOk 0 rfl rfl rfl (by omega) rfl rfl rfl ⟨rfl, rfl, rfl⟩
theorem ioct_ok (n : Int) : FnA Tryz.prog 146 false [.int .i64 n] [] (fun r os ros => r = .str (octS (wordOf n)) ∧ os = [] ∧ ros = []) := by
 refine FnA.of Tryz.func146 rfl (by decide) Tryz.ntmps146 (by simp) ?_
 refine run_ ?_
 refine rg_ ?_
 refine call_ (ps := []) (rid := 16) rfl rfl rfl rfl rfl (iWrap_ok n) ?_
 rintro r os' ros ⟨rfl, rfl, rfl⟩ _
 refine cg_ ?_
 refine call_ (ps := []) (rid := 16) rfl rfl rfl rfl rfl (fmtInt_ok (wordOf n) (wordOf_lt n)) ?_
 refine cr_ ?_
 refine run_ ?_
 exact RetA.mk tabOk 0 rfl rfl rfl (by omega) rfl rfl rfl ⟨rfl, rfl, rfl⟩
theorem and7i (u : Nat) (hu : u < 1048576) : bits .and .i64 (u : Int) 7 = ((u % 8 : Nat) : Int) := by
 have e : bits .and .i64 (u : Int) 7 = IntKind.i64.wrap (((BitVec.ofInt IntKind.i64.bits (u : Int) &&& BitVec.ofInt IntKind.i64.bits 7).toNat : Nat) : Int) := rfl
 rw [e]
 have h : (BitVec.ofInt IntKind.i64.bits (u : Int) &&& BitVec.ofInt IntKind.i64.bits 7).toNat = u % 8 := by
  rw [BitVec.toNat_and]
  have h1 : (BitVec.ofInt IntKind.i64.bits (u : Int)).toNat = u := by
   simp only [BitVec.toNat_ofInt, IntKind.bits]
   omega
  have h2 : (BitVec.ofInt IntKind.i64.bits 7).toNat = 7 := rfl
  rw [h1, h2, show 7 = 2 ^ 3 - 1 from rfl, Nat.and_two_pow_sub_one_eq_mod]
 rw [h, IntKind.wrap_i64]
 omega
theorem digS (d : Nat) (h : d < 8) : u8L [.int .u8 (IntKind.u8.wrap (48 + ((d : Nat) : Int)))] = dig d := by
 rcases d with _ | _ | _ | _ | _ | _ | _ | _ | d <;> first | decide +kernel | omega
def preS (m : Nat) : Str := if m < 8 then [] else octS (m / 8)
theorem preS_step (m : Nat) (h : 8 ≤ m) : preS m = preS (m / 8) ++ dig (m / 8 % 8) := by
 unfold preS
 rw [if_neg (by omega)]
 by_cases c : m / 8 < 8
 ·rw [if_pos c, octS, if_pos c, show m / 8 % 8 = m / 8 by omega]; rfl
 ·rw [if_neg c, octS, if_neg c]
theorem octS_pre (m : Nat) : octS m = preS m ++ dig (m % 8) := by
 unfold preS
 by_cases c : m < 8
 ·rw [octS, if_pos c, if_pos c, show m % 8 = m by omega]; rfl
 ·rw [octS, if_neg c, if_neg c]
theorem soct_ok (n : Int) : FnA Tryz.prog 120 false [.int .i64 n] [] (fun r os ros => r = .str (octS (wordOf n)) ∧ os = [] ∧ ros = []) := by
 have hw := wordOf_lt n
 have hW := sWrap_ok n
 generalize wordOf n = w at *
 have hop := octS_pre w
 have ha := and7i w (by omega)
 have hdg := digS (w % 8) (Nat.mod_lt _ (by decide))
 refine FnA.of Tryz.func120 rfl (by decide) Tryz.ntmps120 (by simp) ?_
 refine run_ ?_
 refine rg_ ?_
 refine call_ (ps := []) (rid := 16) rfl rfl rfl rfl rfl (hW) ?_
 refine cr_ ?_
 refine run1_ @ha ?_
 refine RunsA.loop ?_
 refine (LoopA.ind (fun p : Nat × Str × Nat => ⟨25, [(0, .int .i64 p.1), (3, .str p.2.1)], [], false⟩) (fun p => p.1) (fun p => p.1 < 8 ^ p.2.2 ∧ 1 ≤ p.2.2 ∧ p.2.1.length + p.2.2 ≤ 7 ∧ p.1 < 65536 ∧ octS w = preS p.1 ++ p.2.1) ?_ (w, dig (w % 8), 6) ?_).sub rfl ?_ trivial rfl
 ·rintro ⟨m, S, k⟩ ⟨hm, hk, hSl, hm2, ho⟩ K3 hK3
  simp only at hm hk hSl hm2 ho
  refine run_ ?_
  refine RunsA.cond rfl (fun h2 => ?_) (fun h2 => ?_)
  ·simp only [decide_eq_true_eq] at h2
   have hsh : ((m : Int) / 2 ^ 3) = ((m / 8 : Nat) : Int) := by rw [show (2 : Int) ^ 3 = 8 from rfl]; omega
   have ha2 := and7i (m / 8) (by omega)
   have hd2 := digS (m / 8 % 8) (Nat.mod_lt _ (by decide))
   have hdl : (dig (m / 8 % 8)).length = 1 := rfl
   have hps := preS_step m (by omega)
   have hk2 : 2 ≤ k := by
    rcases Nat.lt_or_ge k 2 with h' | h'
    ·have : k = 1 := by omega
     subst this
     omega
    ·exact h'
   obtain ⟨k', rfl⟩ : ∃ k', k = k' + 1 := ⟨k - 1, by omega⟩
   refine run2_ @hsh @ha2 ?_
   refine hK3 (m / 8, dig (m / 8 % 8) ++ S, k') _ ⟨by simp only; rw [Nat.pow_succ] at hm; omega, by simp only; omega, by simp only [List.length_append, hdl]; omega, by simp only; omega, by rw [ho, hps, List.append_assoc]⟩ (by simp only; omega) rfl ?_ trivial rfl
   simp only [SubS, lookS, Nat.reduceEqDiff, ↓reduceIte, and_true, true_and]
   rw [← hd2]; rfl
  ·refine run_ ?_
   have : octS w = S := by rw [ho, preS, if_pos (by simp only [decide_eq_false_iff_not] at h2; omega)]; rfl
   subst this
   exact RetA.mk tabOk 0 rfl rfl rfl (by omega) rfl rfl rfl ⟨rfl, rfl, rfl⟩
 ·exact ⟨by simp only; omega, by simp only; omega, by simp [dig], by simp only; omega, hop⟩
 ·simp only [SubS, lookS, Nat.reduceEqDiff, ↓reduceIte, and_true, true_and]
  rw [← hdg]; rfl
end Go.Proofs.YtiilnlihimdnlaaGreatDoorFw
