/- The library's digits of base eight: how many noughts are behind eight (its table), and whether a base is a power of two. -/
import Derived.Test.YtgjeemfggfhibaaGreatDoorFwE
import Derived.Test.YtgjeemfggfhibaaGreatDoorLA
import Derived.Lib.TrailingZeros
import Derived.Test.YtgjeemfggfhibaaGreatDoorTA
set_option linter.unusedVariables false
set_option linter.unusedSimpArgs false
set_option pp.deepTerms.threshold 6
set_option pp.deepTerms false
set_option maxRecDepth 4000
namespace Go.Proofs.YtgjeemfggfhibaaGreatDoorFw
open Go Go.RowKit
theorem isPow_ok : FnA Tryz.prog 200 false [.int .i64 8] [] (fun r os ros => r = .bool true ∧ os = [] ∧ ros = []) := by
  have e1 : bits .and .i64 8 7 = 0 := by decide +kernel
  refine FnA.of Tryz.func200 rfl (by decide) Tryz.ntmps200 (by simp) ?_
  repeat (first | refine RunsA.sq ?_ | refine RunsA.bk ?_ | refine RunsA.sk ?_ | refine RunsA.ex ?_ | refine RunsA.rt ?_ | refine At.n ?_ | refine At.x ?_ | refine At.r ?_ | refine At.bn ?_ | refine At.br ?_ | refine At.bx ?_ | refine At.by_ rfl ?_ | refine At.kx ?_ | refine At.kr ?_ | refine At.kn ?_ | refine At.er ?_ | refine At.en ?_ | (refine RunsA.rq tabOk fun J hJ => ?_; simp only [go_sem, ↓reduceIte, Nat.reduceAdd, Nat.reduceSub, Nat.reduceMul, Nat.reduceLT, Nat.reduceLeDiff, Nat.reduceEqDiff, Nat.reduceBEq, Int.reduceToNat, Int.reduceSub, e1, beq_self_eq_true, decide_true]; (try simp (disch := omega) only [wrap_id]); (repeat refine ⟨by omega, ?_⟩); refine hJ _ _ (RunsL.nil ?_); clear hJ J) | (refine RunsA.dq mixed tabOk (by kernel_rfl) fun J hJ => ?_; simp only [go_sem, ↓reduceIte, Nat.reduceAdd, Nat.reduceSub, Nat.reduceMul, Nat.reduceLT, Nat.reduceLeDiff, Nat.reduceEqDiff, Nat.reduceBEq, Int.reduceToNat, Int.reduceSub, e1, beq_self_eq_true, decide_true]; (try simp (disch := omega) only [wrap_id]); (repeat refine ⟨by omega, ?_⟩); refine hJ _ _ (QRuns.nil ?_); clear hJ J))
  exact RetA.mk tabOk 0 rfl rfl rfl (by omega) rfl rfl rfl ⟨rfl, rfl, rfl⟩
theorem tab5 : lbTab 5 = some (([0, 1, 56, 2, 57, 49, 28, 3, 61, 58, 42, 50, 38, 29, 17, 4, 62, 47, 59, 36, 45, 43, 51, 22, 53, 39, 33, 30, 24, 18, 12, 5, 63, 55, 48, 27, 60, 41, 37, 16, 46, 35, 44, 21, 52, 32, 23, 11, 54, 26, 40, 15, 34, 20, 31, 10, 25, 14, 19, 9, 13, 8, 7, 6] : List Int).map fun n => Value.int .u8 n).toArray := rfl
theorem tz64_ok : FnA Tryz.prog 208 false [.int .u64 8] [] (fun r os ros => r = .int .i64 3 ∧ os = [] ∧ ros = []) := by
  refine FnA.of Tryz.func208 rfl (by decide) Tryz.ntmps208 (by simp) ?_
  refine run_ ?_
  refine RunsA.cond rfl (fun h => absurd h (by decide)) (fun h => ?_)
  refine run_ ?_
  refine RunsA.rq tabOk fun J hJ => ?_
  simp only [go_sem, ↓reduceIte, Nat.reduceAdd, Nat.reduceSub, Nat.reduceMul, Nat.reduceLT, Nat.reduceLeDiff, Nat.reduceEqDiff, Nat.reduceBEq, Int.reduceToNat]
  try simp (disch := omega) only [wrap_id]
  (repeat refine ⟨by omega, ?_⟩)
  refine hJ _ _ (RunsL.tabAddr (kk := .u8) (v := 3) tabOk rfl rfl rfl rfl tab5 rfl (by decide) (by decide) (by kernel_rfl) rfl ?_); clear hJ J
  refine RunsL.go tabOk fun J hJ => ?_
  simp only [go_sem, ↓reduceIte, Nat.reduceAdd, Nat.reduceSub, Nat.reduceMul, Nat.reduceLT, Nat.reduceLeDiff, Nat.reduceEqDiff, Nat.reduceBEq, Int.reduceToNat]
  try simp (disch := omega) only [wrap_id]
  refine hJ _ _ (RunsL.nil ?_); clear hJ J
  refine run_ ?_
  exact RetA.mk tabOk 0 rfl rfl rfl (by omega) rfl rfl rfl ⟨rfl, rfl, rfl⟩
theorem tz_ok : FnA Tryz.prog 201 false [.int .u64 8] [] (fun r os ros => r = .int .i64 3 ∧ os = [] ∧ ros = []) := by
  refine FnA.of Tryz.func201 rfl (by decide) Tryz.ntmps201 (by simp) ?_
  refine run_ ?_
  refine RunsA.cond rfl (fun h => absurd h (by decide)) (fun h => ?_)
  refine run_ ?_
  refine RunsA.rq tabOk fun J hJ => ?_
  simp only [go_sem, ↓reduceIte, Nat.reduceAdd, Nat.reduceSub, Nat.reduceMul, Nat.reduceLT, Nat.reduceLeDiff, Nat.reduceEqDiff, Nat.reduceBEq, Int.reduceToNat]
  try simp (disch := omega) only [wrap_id]
  refine hJ _ _ (RunsL.call (ps := []) (rid := 16) rfl rfl rfl rfl rfl (by simp only [go_sem, Nat.reduceEqDiff]; first | done | rfl) (tz64_ok) rfl (by decide) ⟨by decide, by decide, rfl⟩ (by first | exact .inl rfl | exact .inr (.inl rfl) | exact .inr (.inr rfl)) ?_); clear hJ J
  rintro r os' ros ⟨rfl, rfl, rfl⟩ _
  refine RunsL.go tabOk fun J hJ => ?_
  simp only [go_sem, ↓reduceIte, Nat.reduceAdd, Nat.reduceSub, Nat.reduceMul, Nat.reduceLT, Nat.reduceLeDiff, Nat.reduceEqDiff, Nat.reduceBEq, Int.reduceToNat]
  try simp (disch := omega) only [wrap_id]
  refine hJ _ _ (RunsL.nil ?_); clear hJ J
  refine run_ ?_
  exact RetA.mk tabOk 0 rfl rfl rfl (by omega) rfl rfl rfl ⟨rfl, rfl, rfl⟩
end Go.Proofs.YtgjeemfggfhibaaGreatDoorFw
namespace Go.Proofs.YtgjeemfggfhibaaGreatDoorFw
open Go Go.RowKit
def dig (n : Nat) : Str := [UInt8.ofNat (48 + n)]
def octS (n : Nat) : Str := if n < 8 then dig n else octS (n / 8) ++ dig (n % 8)
termination_by n
decreasing_by omega
def bytesI (l : List Int) : List AV := l.map (.int .u8)
theorem bytesI_len (l : List Int) : (bytesI l).length = l.length := by simp [bytesI]
theorem bytesI_set (l : List Int) (i : Nat) (v : Int) : (bytesI l).set i (.int .u8 v) = bytesI (l.set i v) := by simp [bytesI, List.map_set]
theorem bytesI_get {l : List Int} {i : Nat} (h : i < l.length) : (bytesI l)[i]? = some (.int .u8 l[i]) := by simp [bytesI, h]
theorem bytesI_drop (l : List Int) (j : Nat) : (bytesI l).drop j = bytesI (l.drop j) := by simp [bytesI, List.map_drop]
theorem allU8_bytesI (l : List Int) : allU8 (bytesI l) = true := by induction l <;> simp_all [bytesI, allU8, isU8]
theorem u8L_bytesI (l : List Int) : u8L (bytesI l) = l.map fun n => UInt8.ofNat n.toNat := by induction l <;> simp_all [bytesI, u8L, u8Of]
theorem u8_back (D : Str) : (D.map fun c => (c.toNat : Int)).map (fun n => UInt8.ofNat n.toNat) = D := by
  rw [List.map_map]
  conv => rhs; rw [← List.map_id D]
  apply List.map_congr_left
  intro c _
  simp
theorem frzL_bytesI : ∀ l : List Int, frzL (bytesI l) = bytesI l
  | [] => rfl
  | x :: r => by
    have := frzL_bytesI r
    simp only [bytesI, List.map_cons, frzL, frz] at *
    rw [this]
theorem noBo_bytesI (l : List Int) : noBoL (bytesI l) = true := by induction l <;> simp_all [bytesI, noBoL, noBo]
theorem drop_set_self {α : Type} (l : List α) (j : Nat) (x : α) (h : j < l.length) : (l.set j x).drop j = x :: l.drop (j + 1) := by
  rw [List.drop_eq_getElem_cons (by rw [List.length_set]; exact h), List.getElem_set_self, List.drop_set_of_lt (by omega)]
def digTab : List UInt8 := [48,49,50,51,52,53,54,55,56,57,97,98,99,100,101,102,103,104,105,106,107,108,109,110,111,112,113,114,115,116,117,118,119,120,121,122]
theorem digTab_get : ∀ d < 8, digTab[d]? = some (UInt8.ofNat (48 + d)) := by decide
theorem and7 (u : Nat) (hu : u < 1048576) : bits .and .u64 (u : Int) 7 = ((u % 8 : Nat) : Int) := by
  have e : bits .and .u64 (u : Int) 7 = IntKind.u64.wrap (((BitVec.ofInt IntKind.u64.bits (u : Int) &&& BitVec.ofInt IntKind.u64.bits 7).toNat : Nat) : Int) := rfl
  rw [e]
  have h : (BitVec.ofInt IntKind.u64.bits (u : Int) &&& BitVec.ofInt IntKind.u64.bits 7).toNat = u % 8 := by
    rw [BitVec.toNat_and]
    have h1 : (BitVec.ofInt IntKind.u64.bits (u : Int)).toNat = u := by
      simp only [BitVec.toNat_ofInt, IntKind.bits]
      omega
    have h2 : (BitVec.ofInt IntKind.u64.bits 7).toNat = 7 := rfl
    rw [h1, h2, show 7 = 2 ^ 3 - 1 from rfl, Nat.and_two_pow_sub_one_eq_mod]
  rw [h, IntKind.wrap_u64]
  omega
theorem fmtBits_ok (n : Nat) (hn : n < 65536) : FnA Tryz.prog 189 false [.nilS, .int .u64 n, .int .i64 8, .bool false, .bool false] [] (fun r os ros => r = .tup [.hd 100 [], .str (octS n)] ∧ os = [] ∧ ros = [(1, [])]) := by
  refine FnA.of Tryz.func189 rfl (by decide) Tryz.ntmps189 (by simp) ?_
  have f1 : decide ((8 : Int) < 2) = false := by decide
  have f2 : ((8 : Int) == 10) = false := by decide
  have f3 : decide ((36 : Int) < 8) = false := by decide
  refine run3_ @f1 @f2 @f3 ?_
  refine RunsA.cond rfl (fun h => absurd h (by decide)) (fun h => ?_)
  refine run_ ?_
  refine RunsA.cond rfl (fun h => absurd h (by decide)) (fun h => ?_)
  refine run_ ?_
  refine RunsA.rq tabOk fun J hJ => ?_
  simp only [go_sem, ↓reduceIte, Nat.reduceAdd, Nat.reduceSub, Nat.reduceMul, Nat.reduceLT, Nat.reduceLeDiff, Nat.reduceEqDiff, Nat.reduceBEq, Int.reduceToNat]
  try simp (disch := omega) only [wrap_id]
  refine hJ _ _ (RunsL.call (ps := []) (rid := 16) rfl rfl rfl rfl rfl (by simp only [go_sem, Nat.reduceEqDiff]; first | done | rfl) (isPow_ok) rfl (by decide) ⟨by decide, by decide, rfl⟩ (by first | exact .inl rfl | exact .inr (.inl rfl) | exact .inr (.inr rfl)) ?_); clear hJ J
  rintro r os' ros ⟨rfl, rfl, rfl⟩ _
  refine RunsL.go tabOk fun J hJ => ?_
  simp only [go_sem, ↓reduceIte, Nat.reduceAdd, Nat.reduceSub, Nat.reduceMul, Nat.reduceLT, Nat.reduceLeDiff, Nat.reduceEqDiff, Nat.reduceBEq, Int.reduceToNat]
  try simp (disch := omega) only [wrap_id]
  refine hJ _ _ (RunsL.nil ?_); clear hJ J
  refine run_ ?_
  refine RunsA.cond rfl (fun h => ?_) (fun h => absurd h (by decide))
  refine run_ ?_
  refine RunsA.rq tabOk fun J hJ => ?_
  simp only [go_sem, ↓reduceIte, Nat.reduceAdd, Nat.reduceSub, Nat.reduceMul, Nat.reduceLT, Nat.reduceLeDiff, Nat.reduceEqDiff, Nat.reduceBEq, Int.reduceToNat]
  try simp (disch := omega) only [wrap_id]
  (repeat refine ⟨by omega, ?_⟩)
  refine hJ _ _ (RunsL.call (ps := []) (rid := 16) rfl rfl rfl rfl rfl (by simp only [go_sem, Nat.reduceEqDiff]; first | done | rfl) (tz_ok) rfl (by decide) ⟨by decide, by decide, rfl⟩ (by first | exact .inl rfl | exact .inr (.inl rfl) | exact .inr (.inr rfl)) ?_); clear hJ J
  rintro r os' ros ⟨rfl, rfl, rfl⟩ _
  refine RunsL.go tabOk fun J hJ => ?_
  simp only [go_sem, ↓reduceIte, Nat.reduceAdd, Nat.reduceSub, Nat.reduceMul, Nat.reduceLT, Nat.reduceLeDiff, Nat.reduceEqDiff, Nat.reduceBEq, Int.reduceToNat]
  try simp (disch := omega) only [wrap_id]
  refine hJ _ _ (RunsL.nil ?_); clear hJ J
  have f4 : (8 : Int) - 1 = 7 := by decide
  refine run1_ @f4 ?_
  refine RunsA.loop ?_
  refine (LoopA.ind (fun p : Nat × Nat × List Int => ⟨102, [(1, .int .u64 p.1), (3, .bool false), (4, .bool false), (10, .hd 2816 []), (12, .ptr 3328 [] 1 0 0), (13, .int .i64 ((59 + p.2.1 : Nat) : Int)), (14, .int .u64 3), (15, .int .u64 8), (16, .int .u64 7)], [⟨3328, 1, bytesI p.2.2⟩, ⟨2816, 1, []⟩], false⟩)
    (fun p => p.2.1) (fun p => 1 ≤ p.2.1 ∧ p.2.1 ≤ 6 ∧ p.1 < 8 ^ p.2.1 ∧ p.2.2.length = 65 ∧ ∃ D : Str, octS n = octS p.1 ++ D ∧ p.2.2.drop (59 + p.2.1) = D.map fun c => (c.toNat : Int)) ?_ (n, 6, List.replicate 65 0) ?_).sub rfl ?_ ?_ rfl
  rotate_left
  · exact ⟨by simp, by simp, by simp only; omega, by simp, [], by simp, by simp⟩
  · have w3 : IntKind.u64.wrap 3 = 3 := by decide
    have w8 : IntKind.u64.wrap 8 = 8 := by decide
    have w7 : IntKind.u64.wrap 7 = 7 := by decide
    simp [SubS, lookS, w3, w8, w7]
  · simp [SubO, lookO, bytesI, List.replicate]
  rintro ⟨u, k, es⟩ ⟨hk1, hk6, hu, hel, D, hD, hdr⟩ K3 hK3
  simp only at hk1 hk6 hu hel hD hdr
  have hu2 : u < 65536 * 4 := by
    have : 8 ^ k ≤ 8 ^ 6 := Nat.pow_le_pow_right (by decide) hk6
    omega
  refine run_ ?_
  refine RunsA.cond rfl (fun h2 => ?_) (fun h2 => ?_)
  · simp only [decide_eq_true_eq] at h2
    have hk2 : 2 ≤ k := by
      rcases Nat.lt_or_ge k 2 with h' | h'
      · have : k = 1 := by omega
        subst this
        omega
      · exact h'
    obtain ⟨k', rfl⟩ : ∃ k', k = k' + 1 := ⟨k - 1, by omega⟩
    have e1 : ((59 + (k' + 1) : Nat) : Int) - 1 = ((59 + k' : Nat) : Int) := by omega
    have ha := and7 u (by omega)
    have hd : u % 8 < 8 := Nat.mod_lt _ (by decide)
    have hdg := digTab_get (u % 8) hd
    rw [digTab] at hdg
    have hlt : 59 + k' < es.length := by omega
    have hge := bytesI_get hlt
    have hsh : ((u : Int) / 2 ^ 3) = ((u / 8 : Nat) : Int) := by rw [show (2 : Int) ^ 3 = 8 from rfl]; omega
    have hoc : octS u = octS (u / 8) ++ dig (u % 8) := by rw [octS, if_neg (by omega)]
    repeat (first | refine RunsA.sq ?_ | refine RunsA.bk ?_ | refine RunsA.sk ?_ | refine RunsA.ex ?_ | refine RunsA.rt ?_ | refine At.n ?_ | refine At.x ?_ | refine At.r ?_ | refine At.bn ?_ | refine At.br ?_ | refine At.bx ?_ | refine At.by_ rfl ?_ | refine At.kx ?_ | refine At.kr ?_ | refine At.kn ?_ | refine At.er ?_ | refine At.en ?_ | (refine RunsA.rq tabOk fun J hJ => ?_; simp only [go_sem, ↓reduceIte, Nat.reduceAdd, Nat.reduceSub, Nat.reduceMul, Nat.reduceLT, Nat.reduceLeDiff, Nat.reduceEqDiff, Nat.reduceBEq, Int.reduceToNat, e1, ha, hdg, bytesI_len, bytesI_set, hel, hge, hsh]; (try simp (disch := omega) only [wrap_id]); (repeat refine ⟨by omega, ?_⟩); refine hJ _ _ (RunsL.nil ?_); clear hJ J) | (refine RunsA.dq mixed tabOk (by kernel_rfl) fun J hJ => ?_; simp only [go_sem, ↓reduceIte, Nat.reduceAdd, Nat.reduceSub, Nat.reduceMul, Nat.reduceLT, Nat.reduceLeDiff, Nat.reduceEqDiff, Nat.reduceBEq, Int.reduceToNat, e1, ha, hdg, bytesI_len, bytesI_set, hel, hge, hsh]; (try simp (disch := omega) only [wrap_id]); (repeat refine ⟨by omega, ?_⟩); refine hJ _ _ (QRuns.nil ?_); clear hJ J))
    refine hK3 (u / 8, k', es.set (59 + k') (((UInt8.ofNat (48 + u % 8)).toNat : Nat) : Int)) _ ⟨by simp only; omega, by simp only; omega, ?_, by simp only [List.length_set]; exact hel, dig (u % 8) ++ D, ?_, ?_⟩ (by simp only; omega) rfl ?_ ?_ rfl
    · simp only
      rw [Nat.pow_succ] at hu
      omega
    · rw [hD, hoc, List.append_assoc]
    · simp only
      rw [drop_set_self _ _ _ hlt, show 59 + k' + 1 = 59 + (k' + 1) by omega, hdr]
      rfl
    · simp [SubS, lookS]
    · simp [SubO, lookO]
  · simp only [decide_eq_false_iff_not] at h2
    obtain ⟨k', rfl⟩ : ∃ k', k = k' + 1 := ⟨k - 1, by omega⟩
    have e1 : ((59 + (k' + 1) : Nat) : Int) - 1 = ((59 + k' : Nat) : Int) := by omega
    have hdg := digTab_get u (by omega)
    rw [digTab] at hdg
    have hlt : 59 + k' < es.length := by omega
    have hge := bytesI_get hlt
    have hoc : octS u = dig u := by rw [octS, if_pos (by omega)]
    repeat (first | refine RunsA.sq ?_ | refine RunsA.bk ?_ | refine RunsA.sk ?_ | refine RunsA.ex ?_ | refine RunsA.rt ?_ | refine At.n ?_ | refine At.x ?_ | refine At.r ?_ | refine At.bn ?_ | refine At.br ?_ | refine At.bx ?_ | refine At.by_ rfl ?_ | refine At.kx ?_ | refine At.kr ?_ | refine At.kn ?_ | refine At.er ?_ | refine At.en ?_ | (refine RunsA.rq tabOk fun J hJ => ?_; simp only [go_sem, ↓reduceIte, Nat.reduceAdd, Nat.reduceSub, Nat.reduceMul, Nat.reduceLT, Nat.reduceLeDiff, Nat.reduceEqDiff, Nat.reduceBEq, Int.reduceToNat, e1, hdg, bytesI_len, bytesI_set, hel, hge]; (try simp (disch := omega) only [wrap_id]); (repeat refine ⟨by omega, ?_⟩); refine hJ _ _ (RunsL.nil ?_); clear hJ J) | (refine RunsA.dq mixed tabOk (by kernel_rfl) fun J hJ => ?_; simp only [go_sem, ↓reduceIte, Nat.reduceAdd, Nat.reduceSub, Nat.reduceMul, Nat.reduceLT, Nat.reduceLeDiff, Nat.reduceEqDiff, Nat.reduceBEq, Int.reduceToNat, e1, hdg, bytesI_len, bytesI_set, hel, hge]; (try simp (disch := omega) only [wrap_id]); (repeat refine ⟨by omega, ?_⟩); refine hJ _ _ (QRuns.nil ?_); clear hJ J))
    refine RunsA.cond rfl (fun h => absurd h (by decide)) (fun h => ?_)
    refine run_ ?_
    refine RunsA.cond rfl (fun h => absurd h (by decide)) (fun h => ?_)
    refine run_ ?_
    refine RunsA.rq tabOk fun J hJ => ?_
    simp only [go_sem, ↓reduceIte, Nat.reduceAdd, Nat.reduceSub, Nat.reduceMul, Nat.reduceLT, Nat.reduceLeDiff, Nat.reduceEqDiff, Nat.reduceBEq, Int.reduceToNat]
    try simp (disch := omega) only [wrap_id]
    refine hJ _ _ (RunsL.sliceArr tabOk (n := 65) (es := bytesI (es.set (59 + k') (((UInt8.ofNat (48 + u)).toNat : Nat) : Int))) (m := ((59 + k' : Nat) : Int)) rfl rfl rfl rfl (by simp only [go_sem, ↓reduceIte, Nat.reduceAdd, Nat.reduceSub, Nat.reduceMul, Nat.reduceLT, Nat.reduceLeDiff, Nat.reduceEqDiff, Nat.reduceBEq, Int.reduceToNat]; first | done | rfl) (by simp only [go_sem, ↓reduceIte, Nat.reduceAdd, Nat.reduceSub, Nat.reduceMul, Nat.reduceLT, Nat.reduceLeDiff, Nat.reduceEqDiff, Nat.reduceBEq, Int.reduceToNat]; first | done | rfl) (by rw [bytesI_len, List.length_set]; exact hel) (frzL_bytesI _) (noBo_bytesI _) (by simp only [go_sem, ↓reduceIte, Nat.reduceAdd, Nat.reduceSub, Nat.reduceMul, Nat.reduceLT, Nat.reduceLeDiff, Nat.reduceEqDiff, Nat.reduceBEq, Int.reduceToNat]; first | done | rfl) (by omega) (by omega) rfl ?_); clear hJ J
    refine RunsL.go tabOk fun J hJ => ?_
    simp only [go_sem, ↓reduceIte, Nat.reduceAdd, Nat.reduceSub, Nat.reduceMul, Nat.reduceLT, Nat.reduceLeDiff, Nat.reduceEqDiff, Nat.reduceBEq, Int.reduceToNat, frzS, frzV, frzVL, dropO, bytesI_drop, drop_set_self _ _ _ hlt, allU8_bytesI, u8L_bytesI]
    try simp (disch := omega) only [wrap_id]
    refine hJ _ _ (RunsL.nil ?_); clear hJ J
    refine run_ ?_
    refine RetA.v tabOk rfl ?_
    simp only [go_sem, ↓reduceIte, Nat.reduceAdd, Nat.reduceSub, Nat.reduceMul, Nat.reduceLT, Nat.reduceLeDiff, Nat.reduceEqDiff, Nat.reduceBEq, Int.reduceToNat]
    refine RetV.ren (id := 2816) (id' := 100) (by simp only [go_sem, ↓reduceIte, Nat.reduceAdd, Nat.reduceSub, Nat.reduceMul, Nat.reduceLT, Nat.reduceLeDiff, Nat.reduceEqDiff, Nat.reduceBEq, Int.reduceToNat]; rfl) ?_
    simp only [go_sem, ↓reduceIte, Nat.reduceAdd, Nat.reduceSub, Nat.reduceMul, Nat.reduceLT, Nat.reduceLeDiff, Nat.reduceEqDiff, Nat.reduceBEq, Int.reduceToNat]
    have hS : u8L (bytesI ((((UInt8.ofNat (48 + u)).toNat : Nat) : Int) :: es.drop (59 + k' + 1))) = octS n := by
      rw [u8L_bytesI, show 59 + k' + 1 = 59 + (k' + 1) by omega, hdr, List.map_cons, u8_back, hD, hoc, Int.toNat_natCast, UInt8.ofNat_toNat]
      rfl
    rw [u8L_bytesI] at hS
    exact RetV.mk 1 rfl rfl (by omega) rfl rfl rfl ⟨by rw [← hS, List.map_cons]; rfl, rfl, rfl⟩
end Go.Proofs.YtgjeemfggfhibaaGreatDoorFw
namespace Go.Proofs.YtgjeemfggfhibaaGreatDoorFw
open Go Go.RowKit
theorem fmtInt0_ok (n : Nat) (hn : n < 65536) : FnA Tryz.prog 174 false [.int .i64 n, .int .i64 8] [] (fun r os ros => r = .str (octS n) ∧ os = [] ∧ ros = []) := by
  have f2 : ((8 : Int) == 10) = false := by decide
  have f3 : decide ((n : Int) < 0) = false := decide_eq_false (by omega)
  have f4 : IntKind.u64.wrap (n : Int) = n := by rw [IntKind.wrap_u64]; omega
  refine FnA.of Tryz.func174 rfl (by decide) Tryz.ntmps174 (by simp) ?_
  refine run1_ @f2 ?_
  refine RunsA.cond rfl (fun h => absurd h (by decide)) (fun h => ?_)
  refine run_ ?_
  refine RunsA.rq tabOk fun J hJ => ?_
  simp only [go_sem, ↓reduceIte, Nat.reduceAdd, Nat.reduceSub, Nat.reduceMul, Nat.reduceLT, Nat.reduceLeDiff, Nat.reduceEqDiff, Nat.reduceBEq, Int.reduceToNat, f3, f4]
  try simp (disch := omega) only [wrap_id]
  refine hJ _ _ (RunsL.call (ps := []) (rid := 13056) rfl rfl rfl rfl rfl (by simp only [go_sem, Nat.reduceEqDiff]; first | done | rfl) (fmtBits_ok n hn) rfl (by decide) ⟨by decide, by decide, rfl⟩ (by first | exact .inl rfl | exact .inr (.inl rfl) | exact .inr (.inr rfl)) ?_); clear hJ J
  rintro r os' ros ⟨rfl, rfl, rfl⟩ _
  refine RunsL.go tabOk fun J hJ => ?_
  simp only [go_sem, ↓reduceIte, Nat.reduceAdd, Nat.reduceSub, Nat.reduceMul, Nat.reduceLT, Nat.reduceLeDiff, Nat.reduceEqDiff, Nat.reduceBEq, Int.reduceToNat]
  try simp (disch := omega) only [wrap_id]
  refine hJ _ _ (RunsL.nil ?_); clear hJ J
  refine run_ ?_
  exact RetA.mk tabOk 0 rfl rfl rfl (by omega) rfl rfl rfl ⟨rfl, rfl, rfl⟩
theorem fmtInt_ok (n : Nat) (hn : n < 65536) : FnA Tryz.prog 152 false [.int .i64 n, .int .i64 8] [] (fun r os ros => r = .str (octS n) ∧ os = [] ∧ ros = []) := by
  refine FnA.of Tryz.func152 rfl (by decide) Tryz.ntmps152 (by simp) ?_
  refine run_ ?_
  refine RunsA.rq tabOk fun J hJ => ?_
  simp only [go_sem, ↓reduceIte, Nat.reduceAdd, Nat.reduceSub, Nat.reduceMul, Nat.reduceLT, Nat.reduceLeDiff, Nat.reduceEqDiff, Nat.reduceBEq, Int.reduceToNat]
  try simp (disch := omega) only [wrap_id]
  refine hJ _ _ (RunsL.call (ps := []) (rid := 16) rfl rfl rfl rfl rfl (by simp only [go_sem, Nat.reduceEqDiff]; first | done | rfl) (fmtInt0_ok n hn) rfl (by decide) ⟨by decide, by decide, rfl⟩ (by first | exact .inl rfl | exact .inr (.inl rfl) | exact .inr (.inr rfl)) ?_); clear hJ J
  rintro r os' ros ⟨rfl, rfl, rfl⟩ _
  refine RunsL.go tabOk fun J hJ => ?_
  simp only [go_sem, ↓reduceIte, Nat.reduceAdd, Nat.reduceSub, Nat.reduceMul, Nat.reduceLT, Nat.reduceLeDiff, Nat.reduceEqDiff, Nat.reduceBEq, Int.reduceToNat]
  try simp (disch := omega) only [wrap_id]
  refine hJ _ _ (RunsL.nil ?_); clear hJ J
  refine run_ ?_
  exact RetA.mk tabOk 0 rfl rfl rfl (by omega) rfl rfl rfl ⟨rfl, rfl, rfl⟩
def wordOf (n : Int) : Nat := (n % 65536).toNat
theorem wordOf_lt (n : Int) : wordOf n < 65536 := by unfold wordOf; omega
theorem and65535 (n : Int) : bits .and .i64 n 65535 = (wordOf n : Int) := by
  have e : bits .and .i64 n 65535 = IntKind.i64.wrap (((BitVec.ofInt IntKind.i64.bits n &&& BitVec.ofInt IntKind.i64.bits 65535).toNat : Nat) : Int) := rfl
  rw [e]
  have h : (BitVec.ofInt IntKind.i64.bits n &&& BitVec.ofInt IntKind.i64.bits 65535).toNat = wordOf n := by
    rw [BitVec.toNat_and]
    have h1 : (BitVec.ofInt IntKind.i64.bits n).toNat = (n % 18446744073709551616).toNat := by
      simp only [BitVec.toNat_ofInt, IntKind.bits]
      rfl
    have h2 : (BitVec.ofInt IntKind.i64.bits 65535).toNat = 65535 := rfl
    rw [h1, h2, show 65535 = 2 ^ 16 - 1 from rfl, Nat.and_two_pow_sub_one_eq_mod]
    unfold wordOf
    omega
  rw [h, IntKind.wrap_i64]
  have := wordOf_lt n
  omega
theorem iWrap_ok (n : Int) : FnA Tryz.prog 83 false [.int .i64 n] [] (fun r os ros => r = .int .i64 (wordOf n) ∧ os = [] ∧ ros = []) := by
  have e := and65535 n
  refine FnA.of Tryz.func83 rfl (by decide) Tryz.ntmps83 (by simp) ?_
  refine run1_ @e ?_
  exact RetA.mk tabOk 0 rfl rfl rfl (by omega) rfl rfl rfl ⟨rfl, rfl, rfl⟩
theorem sWrap_ok (n : Int) : FnA Tryz.prog 65 false [.int .i64 n] [] (fun r os ros => r = .int .i64 (wordOf n) ∧ os = [] ∧ ros = []) := by
  have e := and65535 n
  refine FnA.of Tryz.func65 rfl (by decide) Tryz.ntmps65 (by simp) ?_
  refine run1_ @e ?_
  exact RetA.mk tabOk 0 rfl rfl rfl (by omega) rfl rfl rfl ⟨rfl, rfl, rfl⟩
theorem ioct_ok (n : Int) : FnA Tryz.prog 124 false [.int .i64 n] [] (fun r os ros => r = .str (octS (wordOf n)) ∧ os = [] ∧ ros = []) := by
  refine FnA.of Tryz.func124 rfl (by decide) Tryz.ntmps124 (by simp) ?_
  refine run_ ?_
  refine RunsA.rq tabOk fun J hJ => ?_
  simp only [go_sem, ↓reduceIte, Nat.reduceAdd, Nat.reduceSub, Nat.reduceMul, Nat.reduceLT, Nat.reduceLeDiff, Nat.reduceEqDiff, Nat.reduceBEq, Int.reduceToNat]
  try simp (disch := omega) only [wrap_id]
  refine hJ _ _ (RunsL.call (ps := []) (rid := 16) rfl rfl rfl rfl rfl (by simp only [go_sem, Nat.reduceEqDiff]; first | done | rfl) (iWrap_ok n) rfl (by decide) ⟨by decide, by decide, rfl⟩ (by first | exact .inl rfl | exact .inr (.inl rfl) | exact .inr (.inr rfl)) ?_); clear hJ J
  rintro r os' ros ⟨rfl, rfl, rfl⟩ _
  refine RunsL.go tabOk fun J hJ => ?_
  simp only [go_sem, ↓reduceIte, Nat.reduceAdd, Nat.reduceSub, Nat.reduceMul, Nat.reduceLT, Nat.reduceLeDiff, Nat.reduceEqDiff, Nat.reduceBEq, Int.reduceToNat]
  try simp (disch := omega) only [wrap_id]
  refine hJ _ _ (RunsL.call (ps := []) (rid := 16) rfl rfl rfl rfl rfl (by simp only [go_sem, Nat.reduceEqDiff]; first | done | rfl) (fmtInt_ok (wordOf n) (wordOf_lt n)) rfl (by decide) ⟨by decide, by decide, rfl⟩ (by first | exact .inl rfl | exact .inr (.inl rfl) | exact .inr (.inr rfl)) ?_); clear hJ J
  rintro r os' ros ⟨rfl, rfl, rfl⟩ _
  refine RunsL.go tabOk fun J hJ => ?_
  simp only [go_sem, ↓reduceIte, Nat.reduceAdd, Nat.reduceSub, Nat.reduceMul, Nat.reduceLT, Nat.reduceLeDiff, Nat.reduceEqDiff, Nat.reduceBEq, Int.reduceToNat]
  try simp (disch := omega) only [wrap_id]
  refine hJ _ _ (RunsL.nil ?_); clear hJ J
  refine run_ ?_
  exact RetA.mk tabOk 0 rfl rfl rfl (by omega) rfl rfl rfl ⟨rfl, rfl, rfl⟩
theorem and7i (u : Nat) (hu : u < 1048576) : bits .and .i64 (u : Int) 7 = ((u % 8 : Nat) : Int) := by
  have e : bits .and .i64 (u : Int) 7 = IntKind.i64.wrap (((BitVec.ofInt IntKind.i64.bits (u : Int) &&& BitVec.ofInt IntKind.i64.bits 7).toNat : Nat) : Int) := rfl
  rw [e]
  have h : (BitVec.ofInt IntKind.i64.bits (u : Int) &&& BitVec.ofInt IntKind.i64.bits 7).toNat = u % 8 := by
    rw [BitVec.toNat_and]
    have h1 : (BitVec.ofInt IntKind.i64.bits (u : Int)).toNat = u := by
      simp only [BitVec.toNat_ofInt, IntKind.bits]
      omega
    have h2 : (BitVec.ofInt IntKind.i64.bits 7).toNat = 7 := rfl
    rw [h1, h2, show 7 = 2 ^ 3 - 1 from rfl, Nat.and_two_pow_sub_one_eq_mod]
  rw [h, IntKind.wrap_i64]
  omega
theorem digS (d : Nat) (h : d < 8) : u8L [.int .u8 (IntKind.u8.wrap (48 + ((d : Nat) : Int)))] = dig d := by
  rcases d with _ | _ | _ | _ | _ | _ | _ | _ | d <;> first | decide +kernel | omega
def preS (m : Nat) : Str := if m < 8 then [] else octS (m / 8)
theorem preS_step (m : Nat) (h : 8 ≤ m) : preS m = preS (m / 8) ++ dig (m / 8 % 8) := by
  unfold preS
  rw [if_neg (by omega)]
  by_cases c : m / 8 < 8
  · rw [if_pos c, octS, if_pos c, show m / 8 % 8 = m / 8 by omega]; rfl
  · rw [if_neg c, octS, if_neg c]
theorem octS_pre (m : Nat) : octS m = preS m ++ dig (m % 8) := by
  unfold preS
  by_cases c : m < 8
  · rw [octS, if_pos c, if_pos c, show m % 8 = m by omega]; rfl
  · rw [octS, if_neg c, if_neg c]
theorem soct_ok (n : Int) : FnA Tryz.prog 111 false [.int .i64 n] [] (fun r os ros => r = .str (octS (wordOf n)) ∧ os = [] ∧ ros = []) := by
  have hw := wordOf_lt n
  have hW := sWrap_ok n
  generalize wordOf n = w at *
  have hop := octS_pre w
  have ha := and7i w (by omega)
  have hdg := digS (w % 8) (Nat.mod_lt _ (by decide))
  refine FnA.of Tryz.func111 rfl (by decide) Tryz.ntmps111 (by simp) ?_
  refine run_ ?_
  refine RunsA.rq tabOk fun J hJ => ?_
  simp only [go_sem, ↓reduceIte, Nat.reduceAdd, Nat.reduceSub, Nat.reduceMul, Nat.reduceLT, Nat.reduceLeDiff, Nat.reduceEqDiff, Nat.reduceBEq, Int.reduceToNat]
  try simp (disch := omega) only [wrap_id]
  refine hJ _ _ (RunsL.call (ps := []) (rid := 16) rfl rfl rfl rfl rfl (by simp only [go_sem, Nat.reduceEqDiff]; first | done | rfl) (hW) rfl (by decide) ⟨by decide, by decide, rfl⟩ (by first | exact .inl rfl | exact .inr (.inl rfl) | exact .inr (.inr rfl)) ?_); clear hJ J
  rintro r os' ros ⟨rfl, rfl, rfl⟩ _
  refine RunsL.go tabOk fun J hJ => ?_
  simp only [go_sem, ↓reduceIte, Nat.reduceAdd, Nat.reduceSub, Nat.reduceMul, Nat.reduceLT, Nat.reduceLeDiff, Nat.reduceEqDiff, Nat.reduceBEq, Int.reduceToNat]
  try simp (disch := omega) only [wrap_id]
  refine hJ _ _ (RunsL.nil ?_); clear hJ J
  refine run1_ @ha ?_
  refine RunsA.loop ?_
  refine (LoopA.ind (fun p : Nat × Str × Nat => ⟨25, [(0, .int .i64 p.1), (3, .str p.2.1)], [], false⟩) (fun p => p.1) (fun p => p.1 < 8 ^ p.2.2 ∧ 1 ≤ p.2.2 ∧ p.2.1.length + p.2.2 ≤ 7 ∧ p.1 < 65536 ∧ octS w = preS p.1 ++ p.2.1) ?_ (w, dig (w % 8), 6) ?_).sub rfl ?_ trivial rfl
  · rintro ⟨m, S, k⟩ ⟨hm, hk, hSl, hm2, ho⟩ K3 hK3
    simp only at hm hk hSl hm2 ho
    refine run_ ?_
    refine RunsA.cond rfl (fun h2 => ?_) (fun h2 => ?_)
    · simp only [decide_eq_true_eq] at h2
      have hsh : ((m : Int) / 2 ^ 3) = ((m / 8 : Nat) : Int) := by rw [show (2 : Int) ^ 3 = 8 from rfl]; omega
      have ha2 := and7i (m / 8) (by omega)
      have hd2 := digS (m / 8 % 8) (Nat.mod_lt _ (by decide))
      have hdl : (dig (m / 8 % 8)).length = 1 := rfl
      have hps := preS_step m (by omega)
      have hk2 : 2 ≤ k := by
        rcases Nat.lt_or_ge k 2 with h' | h'
        · have : k = 1 := by omega
          subst this
          omega
        · exact h'
      obtain ⟨k', rfl⟩ : ∃ k', k = k' + 1 := ⟨k - 1, by omega⟩
      refine run2_ @hsh @ha2 ?_
      refine hK3 (m / 8, dig (m / 8 % 8) ++ S, k') _ ⟨by simp only; rw [Nat.pow_succ] at hm; omega, by simp only; omega, by simp only [List.length_append, hdl]; omega, by simp only; omega, by rw [ho, hps, List.append_assoc]⟩ (by simp only; omega) rfl ?_ trivial rfl
      simp only [SubS, lookS, Nat.reduceEqDiff, ↓reduceIte, and_true, true_and]
      rw [← hd2]; rfl
    · refine run_ ?_
      have : octS w = S := by rw [ho, preS, if_pos (by simp only [decide_eq_false_iff_not] at h2; omega)]; rfl
      subst this
      exact RetA.mk tabOk 0 rfl rfl rfl (by omega) rfl rfl rfl ⟨rfl, rfl, rfl⟩
  · exact ⟨by simp only; omega, by simp only; omega, by simp [dig], by simp only; omega, hop⟩
  · simp only [SubS, lookS, Nat.reduceEqDiff, ↓reduceIte, and_true, true_and]
    rw [← hdg]; rfl
end Go.Proofs.YtgjeemfggfhibaaGreatDoorFw
namespace Go.Proofs.YtgjeemfggfhibaaGreatDoorFw
open Go Go.RowKit
theorem octS_len : ∀ (k n : Nat), 1 ≤ k → n < 8 ^ k → (octS n).length ≤ k
  | 0, n, h, _ => by omega
  | k + 1, n, _, h => by
    rw [octS]
    split
    · simp [dig]
    · rename_i c
      have hk : 1 ≤ k := by
        rcases Nat.eq_zero_or_pos k with e | e
        · subst e; omega
        · exact e
      have := octS_len k (n / 8) hk (by rw [Nat.pow_succ] at h; omega)
      simp only [List.length_append, dig, List.length_cons, List.length_nil]; omega
theorem octW_len (n : Int) : (octS (wordOf n)).length ≤ 6 := octS_len 6 _ (by decide) (by have := wordOf_lt n; omega)
def tokW (x : TokV) : Str := if x.k = 2 then octS (wordOf x.n) else x.s
def lineW (l : List TokV) : Str := Lib.join (l.map tokW) [32]
def txtW : List TokV → Nat
  | [] => 0
  | x :: r => (tokW x).length + 1 + txtW r
theorem txtW_app (a b : List TokV) : txtW (a ++ b) = txtW a + txtW b := by
  induction a with
  | nil => simp [txtW]
  | cons x r ih => simp only [List.cons_append, txtW, ih]; omega
theorem txtW_take (l : List TokV) (i : Nat) : txtW (l.take i) ≤ txtW l := by
  induction l generalizing i with
  | nil => simp [txtW]
  | cons x r ih =>
    cases i with
    | zero => simp [txtW]
    | succ i => simp only [List.take_succ_cons, txtW]; have := ih i; omega
theorem joinW_snoc (sep x : Str) : ∀ l : List Str, Lib.join (l ++ [x]) sep = if l = [] then x else (Lib.join l sep ++ sep) ++ x
  | [] => by rw [List.nil_append, Lib.join_one]; rfl
  | [a] => by simp [Lib.join, List.intercalate, List.intersperse]
  | a :: b :: r => by
    have ih := joinW_snoc sep x (b :: r)
    simp only [List.cons_append, reduceCtorEq, if_false] at ih ⊢
    have e1 : ∀ (c : Str) (t : List Str), Lib.join (a :: c :: t) sep = a ++ (sep ++ Lib.join (c :: t) sep) := by
      intro c t; simp [Lib.join, List.intercalate, List.intersperse]
    rw [e1, e1, ih]
    simp only [List.append_assoc]
theorem lineW_snoc (l : List TokV) (x : TokV) : lineW (l ++ [x]) = if l = [] then tokW x else (lineW l ++ [32]) ++ tokW x := by
  unfold lineW
  rw [List.map_append, List.map_cons, List.map_nil, joinW_snoc]
  cases l with
  | nil => rfl
  | cons a t => rfl
theorem lineW_len (l : List TokV) : (lineW l).length ≤ txtW l := by
  have key : ∀ (n : Nat) (l : List TokV), l.length = n → (lineW l).length ≤ txtW l := by
    intro n
    induction n with
    | zero => intro l h; rw [List.eq_nil_of_length_eq_zero h]; simp [lineW, Lib.join_nil]
    | succ n ih =>
      intro l h
      have hne : l ≠ [] := by intro e; rw [e] at h; cases h
      rw [← List.dropLast_concat_getLast hne, lineW_snoc, txtW_app]
      have h2 := ih l.dropLast (by rw [List.length_dropLast]; omega)
      split
      · simp only [txtW]; omega
      · simp only [List.length_append, List.length_cons, List.length_nil, txtW]; omega
  exact key _ l rfl
set_option maxHeartbeats 1000000 in
theorem lineWs_ok (l : List TokV) (hl : l.length ≤ 140737488355328) (ht : txtW l ≤ 140737488355328) :
    FnA Tryz.prog 57 false [.row .bo 3 (toksA l)] [] (fun r os ros => r = .str (lineW l) ∧ os = [] ∧ ros = []) := by
  refine FnA.of Tryz.func57 rfl (by decide) Tryz.ntmps57 (by simp) ?_
  refine run_ ?_
  refine RunsA.loop ?_
  refine (LoopA.ind (fun i : Nat => ⟨37, [(0, .row .bo 3 (toksA l)), (3, .str (lineW (l.take i))), (4, .int .i64 i)], [], false⟩) (fun i => l.length - i) (fun i => i ≤ l.length) ?_ 0 ?_).sub rfl ?_ trivial rfl
  · intro i hi K3 hK3
    refine run1_ @toksA_len ?_
    refine RunsA.cond rfl (fun h2 => ?_) (fun h2 => ?_)
    · simp only [decide_eq_true_eq] at h2
      have hilt : i < l.length := by omega
      have hg := toksA_get hilt
      have hsn := lineW_snoc (l.take i) l[i]
      rw [← take_snoc hilt] at hsn
      have hlen := lineW_len (l.take i)
      have hlt := txtW_take l i
      have hlt2 := txtW_take l (i + 1)
      rw [take_snoc hilt, txtW_app] at hlt2
      generalize l[i] = x at *
      obtain ⟨k, n, s⟩ := x
      simp only [tokA] at hg
      simp only [txtW, tokW] at hlt2 hsn
      have hO := octW_len n
      by_cases ck : k = 2
      · rw [if_pos ck] at hlt2 hsn
        have ek : (k == 2) = true := by simpa using ck
        by_cases c : i = 0
        · have e : decide ((0 : Int) < (i : Int)) = false := decide_eq_false (by omega)
          rw [if_pos (by rw [c]; rfl)] at hsn
          have h0 : lineW (l.take i) = [] := by rw [c]; rfl
          rw [h0]
          repeat' (first | refine ⟨by omega, ?_⟩ | (refine hJ _ _ (RunsL.nil ?_); clear hJ J) | refine RunsA.cond rfl (fun h => ?_) (fun h => absurd h (by decide)) | refine RunsA.cond rfl (fun h => absurd h (by decide)) (fun h => ?_) | (refine step_ ?_) | (refine RunsA.rk 5 [] tabOk fun J hJ => ?_; simp only [go_sem, ↓reduceIte, Nat.reduceAdd, Nat.reduceSub, Nat.reduceMul, Nat.reduceLT, Nat.reduceLeDiff, Nat.reduceEqDiff, Nat.reduceBEq, Int.reduceToNat, e, hg, toksA_len, ek, List.nil_append]; try simp (disch := omega) only [wrap_id]) | (refine hJ _ _ (RunsL.call (ps := []) (rid := 16) rfl rfl rfl rfl rfl (by simp only [go_sem, Nat.reduceEqDiff]; first | done | rfl) (soct_ok n) rfl (by decide) ⟨by decide, by decide, rfl⟩ (by first | exact .inl rfl | exact .inr (.inl rfl) | exact .inr (.inr rfl)) ?_); clear hJ J; rintro r os' ros ⟨rfl, rfl, rfl⟩ _; refine RunsL.go tabOk fun J hJ => ?_; simp only [go_sem, ↓reduceIte, Nat.reduceAdd, Nat.reduceSub, Nat.reduceMul, Nat.reduceLT, Nat.reduceLeDiff, Nat.reduceEqDiff, Nat.reduceBEq, Int.reduceToNat, e, hg, toksA_len, ek, List.nil_append]; try simp (disch := omega) only [wrap_id]) | simp only [↓reduceIte, not_false_eq_true, e, hg, toksA_len, ek, List.nil_append])
          exact hK3 (i + 1) _ (by omega) (by omega) rfl (by simp [SubS, lookS, hsn]) trivial rfl
        · have e : decide ((0 : Int) < (i : Int)) = true := decide_eq_true (by omega)
          rw [if_neg (fun hc => by have := congrArg List.length hc; rw [List.length_take] at this; simp only [List.length_nil] at this; omega)] at hsn
          generalize lineW (l.take i) = A at *
          generalize hA' : lineW (l.take (i + 1)) = A' at *
          repeat' (first | refine ⟨by omega, ?_⟩ | (refine hJ _ _ (RunsL.nil ?_); clear hJ J) | refine RunsA.cond rfl (fun h => ?_) (fun h => absurd h (by decide)) | refine RunsA.cond rfl (fun h => absurd h (by decide)) (fun h => ?_) | (refine step_ ?_) | (refine RunsA.rk 5 [] tabOk fun J hJ => ?_; simp only [go_sem, ↓reduceIte, Nat.reduceAdd, Nat.reduceSub, Nat.reduceMul, Nat.reduceLT, Nat.reduceLeDiff, Nat.reduceEqDiff, Nat.reduceBEq, Int.reduceToNat, e, hg, toksA_len, ek, List.length_append, List.length_cons, List.length_nil]; try simp (disch := omega) only [wrap_id]) | (refine hJ _ _ (RunsL.call (ps := []) (rid := 16) rfl rfl rfl rfl rfl (by simp only [go_sem, Nat.reduceEqDiff]; first | done | rfl) (soct_ok n) rfl (by decide) ⟨by decide, by decide, rfl⟩ (by first | exact .inl rfl | exact .inr (.inl rfl) | exact .inr (.inr rfl)) ?_); clear hJ J; rintro r os' ros ⟨rfl, rfl, rfl⟩ _; refine RunsL.go tabOk fun J hJ => ?_; simp only [go_sem, ↓reduceIte, Nat.reduceAdd, Nat.reduceSub, Nat.reduceMul, Nat.reduceLT, Nat.reduceLeDiff, Nat.reduceEqDiff, Nat.reduceBEq, Int.reduceToNat, e, hg, toksA_len, ek, List.length_append, List.length_cons, List.length_nil]; try simp (disch := omega) only [wrap_id]) | simp only [↓reduceIte, not_false_eq_true, e, hg, toksA_len, ek, List.length_append, List.length_cons, List.length_nil])
          exact hK3 (i + 1) _ (by omega) (by omega) rfl (by simp [SubS, lookS, hA', hsn]) trivial rfl
      · rw [if_neg ck] at hlt2 hsn
        have ek : (k == 2) = false := by simpa using ck
        by_cases c : i = 0
        · have e : decide ((0 : Int) < (i : Int)) = false := decide_eq_false (by omega)
          rw [if_pos (by rw [c]; rfl)] at hsn
          have h0 : lineW (l.take i) = [] := by rw [c]; rfl
          rw [h0]
          repeat' (first | refine ⟨by omega, ?_⟩ | (refine hJ _ _ (RunsL.nil ?_); clear hJ J) | refine RunsA.cond rfl (fun h => ?_) (fun h => absurd h (by decide)) | refine RunsA.cond rfl (fun h => absurd h (by decide)) (fun h => ?_) | (refine step_ ?_) | (refine RunsA.rk 5 [] tabOk fun J hJ => ?_; simp only [go_sem, ↓reduceIte, Nat.reduceAdd, Nat.reduceSub, Nat.reduceMul, Nat.reduceLT, Nat.reduceLeDiff, Nat.reduceEqDiff, Nat.reduceBEq, Int.reduceToNat, e, hg, toksA_len, ek, List.nil_append]; try simp (disch := omega) only [wrap_id]) | simp only [↓reduceIte, not_false_eq_true, e, hg, toksA_len, ek, List.nil_append])
          exact hK3 (i + 1) _ (by omega) (by omega) rfl (by simp [SubS, lookS, hsn]) trivial rfl
        · have e : decide ((0 : Int) < (i : Int)) = true := decide_eq_true (by omega)
          rw [if_neg (fun hc => by have := congrArg List.length hc; rw [List.length_take] at this; simp only [List.length_nil] at this; omega)] at hsn
          generalize lineW (l.take i) = A at *
          generalize hA' : lineW (l.take (i + 1)) = A' at *
          repeat' (first | refine ⟨by omega, ?_⟩ | (refine hJ _ _ (RunsL.nil ?_); clear hJ J) | refine RunsA.cond rfl (fun h => ?_) (fun h => absurd h (by decide)) | refine RunsA.cond rfl (fun h => absurd h (by decide)) (fun h => ?_) | (refine step_ ?_) | (refine RunsA.rk 5 [] tabOk fun J hJ => ?_; simp only [go_sem, ↓reduceIte, Nat.reduceAdd, Nat.reduceSub, Nat.reduceMul, Nat.reduceLT, Nat.reduceLeDiff, Nat.reduceEqDiff, Nat.reduceBEq, Int.reduceToNat, e, hg, toksA_len, ek, List.length_append, List.length_cons, List.length_nil]; try simp (disch := omega) only [wrap_id]) | simp only [↓reduceIte, not_false_eq_true, e, hg, toksA_len, ek, List.length_append, List.length_cons, List.length_nil])
          exact hK3 (i + 1) _ (by omega) (by omega) rfl (by simp [SubS, lookS, hA', hsn]) trivial rfl
    · refine run_ ?_
      simp only [decide_eq_false_iff_not] at h2
      have : i = l.length := by omega
      subst this
      rw [List.take_length]
      exact RetA.mk tabOk 0 rfl rfl rfl (by omega) rfl rfl rfl ⟨rfl, rfl, rfl⟩
  · exact Nat.zero_le _
  · simp [SubS, lookS]; rfl
set_option maxHeartbeats 1000000 in
theorem lineWi_ok (l : List TokV) (hl : l.length ≤ 4398046511103) (ht : txtW l ≤ 140737488355328) :
    FnA Tryz.prog 67 false [.row .bo 3 (toksA l)] [] (fun r os ros => r = .str (lineW l) ∧ os = [] ∧ ros = []) := by
  have hJn := join_ok false (l.map tokW) [32] (by rw [List.length_map]; omega) (Nat.le_trans (lineW_len l) ht)
  refine FnA.of Tryz.func67 rfl (by decide) Tryz.ntmps67 (by simp) ?_
  refine run1_ @toksA_len ?_
  refine RunsA.loop ?_
  refine (LoopA.ind (fun i : Nat => ⟨30, [(3, .hd 1792 []), (7, .row .bo 3 (toksA l)), (8, .int .i64 (l.length : Nat)), (9, .int .i64 i)], [⟨1792, 1, strs ((l.take i).map tokW)⟩], false⟩) (fun i => l.length - i) (fun i => i ≤ l.length) ?_ 0 ?_).sub rfl ?_ ?_ rfl
  · intro i hi K3 hK3
    refine run_ ?_
    refine RunsA.cond rfl (fun h2 => ?_) (fun h2 => ?_)
    · simp only [decide_eq_true_eq] at h2
      have hilt : i < l.length := by omega
      have hg := toksA_get hilt
      have hts := take_snoc hilt
      have hll : (strs ((l.take i).map tokW)).length = (l.take i).length := by rw [strs_len, List.length_map]
      have htl : (l.take i).length ≤ l.length := by rw [List.length_take]; omega
      have hsn : strs ((l.take i).map tokW) ++ [.str (tokW l[i])] = strs ((l.take (i + 1)).map tokW) := by rw [hts, List.map_append]; exact strs_app _ [tokW l[i]]
      generalize l[i] = x at *
      generalize strs ((l.take i).map tokW) = A at *
      generalize hA' : strs ((l.take (i + 1)).map tokW) = A' at *
      obtain ⟨k, n, s⟩ := x
      simp only [tokA] at hg
      simp only [tokW] at hsn
      by_cases ck : k = 2
      · rw [if_pos ck] at hsn
        have ek : (k == 2) = true := by simpa using ck
        repeat' (first | refine ⟨by omega, ?_⟩ | (refine hJ _ _ (RunsL.nil ?_); clear hJ J) | refine RunsA.cond rfl (fun h => ?_) (fun h => absurd h (by decide)) | refine RunsA.cond rfl (fun h => absurd h (by decide)) (fun h => ?_) | (refine step_ ?_) | (refine RunsA.rk 10 [] tabOk fun J hJ => ?_; simp only [go_sem, ↓reduceIte, Nat.reduceAdd, Nat.reduceSub, Nat.reduceMul, Nat.reduceLT, Nat.reduceLeDiff, Nat.reduceEqDiff, Nat.reduceBEq, Int.reduceToNat, hg, toksA_len, ek, hll, hsn]; try simp (disch := omega) only [wrap_id]) | (refine hJ _ _ (RunsL.call (ps := []) (rid := 16) rfl rfl rfl rfl rfl (by simp only [go_sem, Nat.reduceEqDiff]; first | done | rfl) (ioct_ok n) rfl (by decide) ⟨by decide, by decide, rfl⟩ (by first | exact .inl rfl | exact .inr (.inl rfl) | exact .inr (.inr rfl)) ?_); clear hJ J; rintro r os' ros ⟨rfl, rfl, rfl⟩ _; refine RunsL.go tabOk fun J hJ => ?_; simp only [go_sem, ↓reduceIte, Nat.reduceAdd, Nat.reduceSub, Nat.reduceMul, Nat.reduceLT, Nat.reduceLeDiff, Nat.reduceEqDiff, Nat.reduceBEq, Int.reduceToNat, hg, toksA_len, ek, hll, hsn]; try simp (disch := omega) only [wrap_id]) | simp only [↓reduceIte, not_false_eq_true, hg, toksA_len, ek, hll, hsn])
        exact hK3 (i + 1) _ (by omega) (by omega) rfl (by simp [SubS, lookS]) (by simp only [hA']; simp [SubO, lookO]) rfl
      · rw [if_neg ck] at hsn
        have ek : (k == 2) = false := by simpa using ck
        repeat' (first | refine ⟨by omega, ?_⟩ | (refine hJ _ _ (RunsL.nil ?_); clear hJ J) | refine RunsA.cond rfl (fun h => ?_) (fun h => absurd h (by decide)) | refine RunsA.cond rfl (fun h => absurd h (by decide)) (fun h => ?_) | (refine step_ ?_) | (refine RunsA.rk 10 [] tabOk fun J hJ => ?_; simp only [go_sem, ↓reduceIte, Nat.reduceAdd, Nat.reduceSub, Nat.reduceMul, Nat.reduceLT, Nat.reduceLeDiff, Nat.reduceEqDiff, Nat.reduceBEq, Int.reduceToNat, hg, toksA_len, ek, hll, hsn]; try simp (disch := omega) only [wrap_id]) | simp only [↓reduceIte, not_false_eq_true, hg, toksA_len, ek, hll, hsn])
        exact hK3 (i + 1) _ (by omega) (by omega) rfl (by simp [SubS, lookS]) (by simp only [hA']; simp [SubO, lookO]) rfl
    · simp only [decide_eq_false_iff_not] at h2
      have : i = l.length := by omega
      subst this
      rw [List.take_length]
      refine run_ ?_
      refine RunsA.rq tabOk fun J hJ => ?_
      simp only [go_sem, ↓reduceIte, Nat.reduceAdd, Nat.reduceSub, Nat.reduceMul, Nat.reduceLT, Nat.reduceLeDiff, Nat.reduceEqDiff, Nat.reduceBEq, Int.reduceToNat]
      try simp (disch := omega) only [wrap_id]
      refine hJ _ _ (RunsL.call (ps := []) (rid := 16) rfl rfl rfl rfl rfl (by simp only [go_sem, Nat.reduceEqDiff, brw_strs]; first | done | rfl) (hJn) rfl (by decide) ⟨by decide, by decide, rfl⟩ (by first | exact .inl rfl | exact .inr (.inl rfl) | exact .inr (.inr rfl)) ?_); clear hJ J
      rintro r os' ros ⟨rfl, rfl, rfl⟩ _
      refine RunsL.go tabOk fun J hJ => ?_
      simp only [go_sem, ↓reduceIte, Nat.reduceAdd, Nat.reduceSub, Nat.reduceMul, Nat.reduceLT, Nat.reduceLeDiff, Nat.reduceEqDiff, Nat.reduceBEq, Int.reduceToNat]
      try simp (disch := omega) only [wrap_id]
      refine hJ _ _ (RunsL.nil ?_); clear hJ J
      refine run_ ?_
      exact RetA.mk tabOk 0 rfl rfl rfl (by omega) rfl rfl rfl ⟨rfl, rfl, rfl⟩
  · exact Nat.zero_le _
  · simp [SubS, lookS]
  · simp [SubO, lookO, strs]
end Go.Proofs.YtgjeemfggfhibaaGreatDoorFw
