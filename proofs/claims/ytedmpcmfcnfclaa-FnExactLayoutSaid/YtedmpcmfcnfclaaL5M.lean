/- Rows of numbers: marked. -/
import Derived.Test.YtedmpcmfcnfclaaB1
namespace Go.Proofs.YtedmpcmfcnfclaaFw
open Go Go.RowKit
set_option linter.unusedVariables false
set_option linter.unusedSimpArgs false
set_option maxRecDepth 4000
set_option pp.deepTerms.threshold 6
set_option pp.deepTerms false

/-- Numbers, one behind the other. -/
def ups (k : Int) (n : Nat) : List Int := (List.range n).map fun i => k + ((i : Nat) : Int)
theorem ups_len (k : Int) (n : Nat) : (ups k n).length = n := by simp [ups]
theorem ups_get (k : Int) (n i : Nat) (h : i < n) : (ups k n)[i]? = some (k + (i : Int)) := by simp [ups, h]

theorem markIntS_ok (q : Path) (rsz : Nat) (res : List AV) (l : List Int) (k : Int) (hn : navG res rsz q = some (1, nums l)) (hb : noBoL res = true) (h0 : 0 ≤ k) (h1 : k + l.length ≤ 4611686018427387904) :
    FnA Try.prog 18 true [.hd 0 q, .int .i64 k] [(rsz, res)] (fun r os ros => r = .int .i64 (k + l.length) ∧ os = [(rsz, navSet res q (nums (ups k l.length)))] ∧ ros = []) := by
  refine FnA.of Try.func18 rfl (by decide) Try.ntmps18 (by simp) ?_
  have hS := Spot.of hn
  rw [← navSet_self q res rsz 1 _ hn]
  repeat (first | refine RunsA.sq ?_ | refine RunsA.bk ?_ | refine RunsA.sk ?_ | refine RunsA.ex ?_ | refine RunsA.rt ?_ | refine At.n ?_ | refine At.x ?_ | refine At.r ?_ | refine At.bn ?_ | refine At.br ?_ | refine At.bx ?_ | refine At.by_ rfl ?_ | refine At.kx ?_ | refine At.kr ?_ | refine At.kn ?_ | refine At.er ?_ | refine At.en ?_ | (refine RunsA.rq tabOk fun J hJ => ?_; simp only [go_sem, ↓reduceIte, Nat.reduceAdd, Nat.reduceSub, Nat.reduceMul, Nat.reduceLT, Nat.reduceLeDiff, Nat.reduceEqDiff, Nat.reduceBEq, Int.reduceToNat]; (try simp (disch := omega) only [wrap_id]); (repeat refine ⟨by omega, ?_⟩); refine hJ _ _ (RunsL.nil ?_); clear hJ J) | (refine RunsA.dq mixed tabOk (by kernel_rfl) fun J hJ => ?_; simp only [go_sem, ↓reduceIte, Nat.reduceAdd, Nat.reduceSub, Nat.reduceMul, Nat.reduceLT, Nat.reduceLeDiff, Nat.reduceEqDiff, Nat.reduceBEq, Int.reduceToNat]; (try simp (disch := omega) only [wrap_id]); (repeat refine ⟨by omega, ?_⟩); refine hJ _ _ (QRuns.nil ?_); clear hJ J))
  refine RunsA.loop ?_
  refine (LoopA.ind (fun i : Nat => ⟨19, [(0, .hd 0 q), (1, .int .i64 (k + i)), (5, .int .i64 i)], [⟨0, rsz, navSet res q (nums ((ups k l.length).take i ++ l.drop i))⟩], true⟩) (fun i => l.length - i) (fun i => i ≤ l.length) ?_ 0 ?_).sub rfl ?_ ?_ rfl
  · intro i hi K3 hK3
    have hml := ups_len k l.length
    have hEl : (nums ((ups k l.length).take i ++ l.drop i)).length = l.length := by rw [nums_len, half_len hml hi]
    repeat (first | refine RunsA.sq ?_ | refine RunsA.bk ?_ | refine RunsA.sk ?_ | refine RunsA.ex ?_ | refine RunsA.rt ?_ | refine At.n ?_ | refine At.x ?_ | refine At.r ?_ | refine At.bn ?_ | refine At.br ?_ | refine At.bx ?_ | refine At.by_ rfl ?_ | refine At.kx ?_ | refine At.kr ?_ | refine At.kn ?_ | refine At.er ?_ | refine At.en ?_ | (refine RunsA.rq tabOk fun J hJ => ?_; simp only [go_sem, ↓reduceIte, Nat.reduceAdd, Nat.reduceSub, Nat.reduceMul, Nat.reduceLT, Nat.reduceLeDiff, Nat.reduceEqDiff, Nat.reduceBEq, Int.reduceToNat, hS.get, hEl]; (try simp (disch := omega) only [wrap_id]); (repeat refine ⟨by omega, ?_⟩); refine hJ _ _ (RunsL.nil ?_); clear hJ J) | (refine RunsA.dq mixed tabOk (by kernel_rfl) fun J hJ => ?_; simp only [go_sem, ↓reduceIte, Nat.reduceAdd, Nat.reduceSub, Nat.reduceMul, Nat.reduceLT, Nat.reduceLeDiff, Nat.reduceEqDiff, Nat.reduceBEq, Int.reduceToNat, hS.get, hEl]; (try simp (disch := omega) only [wrap_id]); (repeat refine ⟨by omega, ?_⟩); refine hJ _ _ (QRuns.nil ?_); clear hJ J))
    refine RunsA.cond rfl (fun h2 => ?_) (fun h2 => ?_)
    · simp only [decide_eq_true_eq] at h2
      have hilt : i < l.length := by omega
      have hE : (nums ((ups k l.length).take i ++ l.drop i))[i]? = some (.int .i64 l[i]) := by rw [nums, List.getElem?_map, half_get hml hilt]; rfl
      have hE2 : (nums ((ups k l.length).take i ++ l.drop i)).set i (.int .i64 (k + i)) = nums ((ups k l.length).take (i + 1) ++ l.drop (i + 1)) := by
        rw [nums, ← List.map_set (f := fun n => AV.int .i64 n), half_set hml hilt (ups_get k l.length i hilt)]; rfl
      repeat (first | refine RunsA.sq ?_ | refine RunsA.bk ?_ | refine RunsA.sk ?_ | refine RunsA.ex ?_ | refine RunsA.rt ?_ | refine At.n ?_ | refine At.x ?_ | refine At.r ?_ | refine At.bn ?_ | refine At.br ?_ | refine At.bx ?_ | refine At.by_ rfl ?_ | refine At.kx ?_ | refine At.kr ?_ | refine At.kn ?_ | refine At.er ?_ | refine At.en ?_ | (refine RunsA.rq tabOk fun J hJ => ?_; simp only [go_sem, ↓reduceIte, Nat.reduceAdd, Nat.reduceSub, Nat.reduceMul, Nat.reduceLT, Nat.reduceLeDiff, Nat.reduceEqDiff, Nat.reduceBEq, Int.reduceToNat, hS.get, hS.set, hE, hEl, hE2]; (try simp (disch := omega) only [wrap_id]); (repeat refine ⟨by omega, ?_⟩); refine hJ _ _ (RunsL.nil ?_); clear hJ J) | (refine RunsA.dq mixed tabOk (by kernel_rfl) fun J hJ => ?_; simp only [go_sem, ↓reduceIte, Nat.reduceAdd, Nat.reduceSub, Nat.reduceMul, Nat.reduceLT, Nat.reduceLeDiff, Nat.reduceEqDiff, Nat.reduceBEq, Int.reduceToNat, hS.get, hS.set, hE, hEl, hE2]; (try simp (disch := omega) only [wrap_id]); (repeat refine ⟨by omega, ?_⟩); refine hJ _ _ (QRuns.nil ?_); clear hJ J))
      exact hK3 (i + 1) _ (by omega) (by omega) rfl (by simp [SubS, lookS, Int.add_assoc]) (by simp [SubO, lookO]) rfl
    · repeat (first | refine RunsA.sq ?_ | refine RunsA.bk ?_ | refine RunsA.sk ?_ | refine RunsA.ex ?_ | refine RunsA.rt ?_ | refine At.n ?_ | refine At.x ?_ | refine At.r ?_ | refine At.bn ?_ | refine At.br ?_ | refine At.bx ?_ | refine At.by_ rfl ?_ | refine At.kx ?_ | refine At.kr ?_ | refine At.kn ?_ | refine At.er ?_ | refine At.en ?_ | (refine RunsA.rq tabOk fun J hJ => ?_; simp only [go_sem, ↓reduceIte, Nat.reduceAdd, Nat.reduceSub, Nat.reduceMul, Nat.reduceLT, Nat.reduceLeDiff, Nat.reduceEqDiff, Nat.reduceBEq, Int.reduceToNat]; (try simp (disch := omega) only [wrap_id]); (repeat refine ⟨by omega, ?_⟩); refine hJ _ _ (RunsL.nil ?_); clear hJ J) | (refine RunsA.dq mixed tabOk (by kernel_rfl) fun J hJ => ?_; simp only [go_sem, ↓reduceIte, Nat.reduceAdd, Nat.reduceSub, Nat.reduceMul, Nat.reduceLT, Nat.reduceLeDiff, Nat.reduceEqDiff, Nat.reduceBEq, Int.reduceToNat]; (try simp (disch := omega) only [wrap_id]); (repeat refine ⟨by omega, ?_⟩); refine hJ _ _ (QRuns.nil ?_); clear hJ J))
      simp only [decide_eq_false_iff_not] at h2
      have : i = l.length := by omega
      subst this
      have e : (ups k l.length).take l.length ++ l.drop l.length = ups k l.length := by rw [List.drop_length, List.append_nil, List.take_of_length_le (by omega)]
      rw [e]
      exact RetA.mk tabOk 0 rfl rfl rfl (by omega) (by simp only [noBoO, Bool.and_true]; exact noBo_navSet _ _ _ hb (noBo_nums _)) rfl rfl ⟨rfl, by rw [hS.set], rfl⟩
  · exact Nat.zero_le _
  · simp [SubS, lookS]
  · simp [SubO, lookO]


end Go.Proofs.YtedmpcmfcnfclaaFw
