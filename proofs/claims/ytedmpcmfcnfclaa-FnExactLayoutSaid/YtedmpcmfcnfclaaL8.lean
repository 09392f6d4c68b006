/- The law FnExactLayout, walked. -/
import Derived.Test.YtedmpcmfcnfclaaQ4
import Derived.Test.YtedmpcmfcnfclaaL5M
namespace Go.Proofs.YtedmpcmfcnfclaaFw
open Go Go.RowKit
set_option linter.unusedVariables false
set_option linter.unusedSimpArgs false
set_option maxRecDepth 4000
set_option pp.deepTerms.threshold 6
set_option pp.deepTerms false

set_option maxHeartbeats 4000000 in
theorem lawLayout_ok (s : SegV) (hf : s.fit) (names : List Str) (words : List Int) (hn : names.length ≤ 140737488355328) (hns : ∀ x ∈ names, x.length ≤ 140737488355328) (hw : words.length ≤ 140737488355328) (a : Int) :
    FnA Try.prog 7 false [segA .bo s, .row .bo 1 (strs names), .row .bo 1 (nums words), .int .i64 a] [] (fun r os ros => r = .bool true ∧ os = [] ∧ ros = []) := by
  have hsz := szSeg_ok s hf
  have hts := toSeg_ok s
  have hes := eqSeg_ok s
  obtain ⟨n, ms, ks⟩ := s
  have e0 : (SegV.mk n ms ks).tot = n.length + totS ms + (ks.length + SegV.totL ks) := rfl
  have e1 : totS ms = ms.length + totL ms := rfl
  rw [segA_mk] at *
  refine FnA.of Try.func7 rfl (by decide) Try.ntmps7 (by simp) ?_
  repeat (first | refine RunsA.sq ?_ | refine RunsA.bk ?_ | refine RunsA.sk ?_ | refine RunsA.ex ?_ | refine RunsA.rt ?_ | refine At.n ?_ | refine At.x ?_ | refine At.r ?_ | refine At.bn ?_ | refine At.br ?_ | refine At.bx ?_ | refine At.by_ rfl ?_ | refine At.kx ?_ | refine At.kr ?_ | refine At.kn ?_ | refine At.er ?_ | refine At.en ?_ | (refine RunsA.rq tabOk fun J hJ => ?_; simp only [go_sem, ↓reduceIte, Nat.reduceAdd, Nat.reduceSub, Nat.reduceMul, Nat.reduceLT, Nat.reduceLeDiff, Nat.reduceEqDiff, Nat.reduceBEq, Int.reduceToNat, nums_len]; (try simp (disch := omega) only [wrap_id]); (repeat refine ⟨by omega, ?_⟩); refine hJ _ _ (RunsL.nil ?_); clear hJ J) | (refine RunsA.dq mixed tabOk (by kernel_rfl) fun J hJ => ?_; simp only [go_sem, ↓reduceIte, Nat.reduceAdd, Nat.reduceSub, Nat.reduceMul, Nat.reduceLT, Nat.reduceLeDiff, Nat.reduceEqDiff, Nat.reduceBEq, Int.reduceToNat, nums_len]; (try simp (disch := omega) only [wrap_id]); (repeat refine ⟨by omega, ?_⟩); refine hJ _ _ (QRuns.nil ?_); clear hJ J))
  refine RunsA.cond rfl (fun h => ?_) (fun h => ?_)
  · repeat (first | refine RunsA.sq ?_ | refine RunsA.bk ?_ | refine RunsA.sk ?_ | refine RunsA.ex ?_ | refine RunsA.rt ?_ | refine At.n ?_ | refine At.x ?_ | refine At.r ?_ | refine At.bn ?_ | refine At.br ?_ | refine At.bx ?_ | refine At.by_ rfl ?_ | refine At.kx ?_ | refine At.kr ?_ | refine At.kn ?_ | refine At.er ?_ | refine At.en ?_ | (refine RunsA.rq tabOk fun J hJ => ?_; simp only [go_sem, ↓reduceIte, Nat.reduceAdd, Nat.reduceSub, Nat.reduceMul, Nat.reduceLT, Nat.reduceLeDiff, Nat.reduceEqDiff, Nat.reduceBEq, Int.reduceToNat]; (try simp (disch := omega) only [wrap_id]); (repeat refine ⟨by omega, ?_⟩); refine hJ _ _ (RunsL.nil ?_); clear hJ J) | (refine RunsA.dq mixed tabOk (by kernel_rfl) fun J hJ => ?_; simp only [go_sem, ↓reduceIte, Nat.reduceAdd, Nat.reduceSub, Nat.reduceMul, Nat.reduceLT, Nat.reduceLeDiff, Nat.reduceEqDiff, Nat.reduceBEq, Int.reduceToNat]; (try simp (disch := omega) only [wrap_id]); (repeat refine ⟨by omega, ?_⟩); refine hJ _ _ (QRuns.nil ?_); clear hJ J))
    exact RetA.mk tabOk 0 rfl rfl rfl (by omega) rfl rfl rfl ⟨rfl, rfl, rfl⟩
  have hw2 : words.length ≤ 1048576 := by simp only [decide_eq_false_iff_not] at h; omega
  clear h
  repeat (first | refine RunsA.sq ?_ | refine RunsA.bk ?_ | refine RunsA.sk ?_ | refine RunsA.ex ?_ | refine RunsA.rt ?_ | refine At.n ?_ | refine At.x ?_ | refine At.r ?_ | refine At.bn ?_ | refine At.br ?_ | refine At.bx ?_ | refine At.by_ rfl ?_ | refine At.kx ?_ | refine At.kr ?_ | refine At.kn ?_ | refine At.er ?_ | refine At.en ?_ | (refine RunsA.rq tabOk fun J hJ => ?_; simp only [go_sem, ↓reduceIte, Nat.reduceAdd, Nat.reduceSub, Nat.reduceMul, Nat.reduceLT, Nat.reduceLeDiff, Nat.reduceEqDiff, Nat.reduceBEq, Int.reduceToNat]; (try simp (disch := omega) only [wrap_id]); (repeat refine ⟨by omega, ?_⟩); refine hJ _ _ (RunsL.nil ?_); clear hJ J) | (refine RunsA.dq mixed tabOk (by kernel_rfl) fun J hJ => ?_; simp only [go_sem, ↓reduceIte, Nat.reduceAdd, Nat.reduceSub, Nat.reduceMul, Nat.reduceLT, Nat.reduceLeDiff, Nat.reduceEqDiff, Nat.reduceBEq, Int.reduceToNat]; (try simp (disch := omega) only [wrap_id]); (repeat refine ⟨by omega, ?_⟩); refine hJ _ _ (QRuns.nil ?_); clear hJ J))
  refine RunsA.rq tabOk fun J hJ => ?_
  simp only [go_sem, ↓reduceIte, Nat.reduceAdd, Nat.reduceSub, Nat.reduceMul, Nat.reduceLT, Nat.reduceLeDiff, Nat.reduceEqDiff, Nat.reduceBEq, Int.reduceToNat]
  try simp (disch := omega) only [wrap_id]
  refine hJ _ _ (RunsL.call (ps := []) (rid := 16) rfl rfl rfl rfl rfl (by simp only [go_sem, Nat.reduceEqDiff]; first | done | rfl) (hsz 1048576 (by omega) (by omega)) rfl (by decide) ⟨by decide, by decide, rfl⟩ (by first | exact .inl rfl | exact .inr (.inl rfl) | exact .inr (.inr rfl)) ?_); clear hJ J
  rintro r os' ros ⟨rfl, rfl, rfl⟩ _
  refine RunsL.go tabOk fun J hJ => ?_
  simp only [go_sem, ↓reduceIte, Nat.reduceAdd, Nat.reduceSub, Nat.reduceMul, Nat.reduceLT, Nat.reduceLeDiff, Nat.reduceEqDiff, Nat.reduceBEq, Int.reduceToNat]
  try simp (disch := omega) only [wrap_id]
  (repeat refine ⟨by omega, ?_⟩)
  refine hJ _ _ (RunsL.nil ?_); clear hJ J
  repeat (first | refine RunsA.sq ?_ | refine RunsA.bk ?_ | refine RunsA.sk ?_ | refine RunsA.ex ?_ | refine RunsA.rt ?_ | refine At.n ?_ | refine At.x ?_ | refine At.r ?_ | refine At.bn ?_ | refine At.br ?_ | refine At.bx ?_ | refine At.by_ rfl ?_ | refine At.kx ?_ | refine At.kr ?_ | refine At.kn ?_ | refine At.er ?_ | refine At.en ?_ | (refine RunsA.rq tabOk fun J hJ => ?_; simp only [go_sem, ↓reduceIte, Nat.reduceAdd, Nat.reduceSub, Nat.reduceMul, Nat.reduceLT, Nat.reduceLeDiff, Nat.reduceEqDiff, Nat.reduceBEq, Int.reduceToNat]; (try simp (disch := omega) only [wrap_id]); (repeat refine ⟨by omega, ?_⟩); refine hJ _ _ (RunsL.nil ?_); clear hJ J) | (refine RunsA.dq mixed tabOk (by kernel_rfl) fun J hJ => ?_; simp only [go_sem, ↓reduceIte, Nat.reduceAdd, Nat.reduceSub, Nat.reduceMul, Nat.reduceLT, Nat.reduceLeDiff, Nat.reduceEqDiff, Nat.reduceBEq, Int.reduceToNat]; (try simp (disch := omega) only [wrap_id]); (repeat refine ⟨by omega, ?_⟩); refine hJ _ _ (QRuns.nil ?_); clear hJ J))
  refine RunsA.cond rfl (fun h => ?_) (fun h => ?_)
  · repeat (first | refine RunsA.sq ?_ | refine RunsA.bk ?_ | refine RunsA.sk ?_ | refine RunsA.ex ?_ | refine RunsA.rt ?_ | refine At.n ?_ | refine At.x ?_ | refine At.r ?_ | refine At.bn ?_ | refine At.br ?_ | refine At.bx ?_ | refine At.by_ rfl ?_ | refine At.kx ?_ | refine At.kr ?_ | refine At.kn ?_ | refine At.er ?_ | refine At.en ?_ | (refine RunsA.rq tabOk fun J hJ => ?_; simp only [go_sem, ↓reduceIte, Nat.reduceAdd, Nat.reduceSub, Nat.reduceMul, Nat.reduceLT, Nat.reduceLeDiff, Nat.reduceEqDiff, Nat.reduceBEq, Int.reduceToNat]; (try simp (disch := omega) only [wrap_id]); (repeat refine ⟨by omega, ?_⟩); refine hJ _ _ (RunsL.nil ?_); clear hJ J) | (refine RunsA.dq mixed tabOk (by kernel_rfl) fun J hJ => ?_; simp only [go_sem, ↓reduceIte, Nat.reduceAdd, Nat.reduceSub, Nat.reduceMul, Nat.reduceLT, Nat.reduceLeDiff, Nat.reduceEqDiff, Nat.reduceBEq, Int.reduceToNat]; (try simp (disch := omega) only [wrap_id]); (repeat refine ⟨by omega, ?_⟩); refine hJ _ _ (QRuns.nil ?_); clear hJ J))
    exact RetA.mk tabOk 0 rfl rfl rfl (by omega) rfl rfl rfl ⟨rfl, rfl, rfl⟩
  have ht : (SegV.mk n ms ks).tot ≤ 1048576 := by
    rcases Nat.lt_or_ge 1048576 (SegV.mk n ms ks).tot with h1 | h1
    · rw [szR_gt (by omega)] at h; simp at h
    · exact h1
  clear h
  rw [szR_le (show (((SegV.mk n ms ks).tot : Nat) : Int) ≤ 1048576 by omega)]
  repeat (first | refine RunsA.sq ?_ | refine RunsA.bk ?_ | refine RunsA.sk ?_ | refine RunsA.ex ?_ | refine RunsA.rt ?_ | refine At.n ?_ | refine At.x ?_ | refine At.r ?_ | refine At.bn ?_ | refine At.br ?_ | refine At.bx ?_ | refine At.by_ rfl ?_ | refine At.kx ?_ | refine At.kr ?_ | refine At.kn ?_ | refine At.er ?_ | refine At.en ?_ | (refine RunsA.rq tabOk fun J hJ => ?_; simp only [go_sem, ↓reduceIte, Nat.reduceAdd, Nat.reduceSub, Nat.reduceMul, Nat.reduceLT, Nat.reduceLeDiff, Nat.reduceEqDiff, Nat.reduceBEq, Int.reduceToNat]; (try simp (disch := omega) only [wrap_id]); (repeat refine ⟨by omega, ?_⟩); refine hJ _ _ (RunsL.nil ?_); clear hJ J) | (refine RunsA.dq mixed tabOk (by kernel_rfl) fun J hJ => ?_; simp only [go_sem, ↓reduceIte, Nat.reduceAdd, Nat.reduceSub, Nat.reduceMul, Nat.reduceLT, Nat.reduceLeDiff, Nat.reduceEqDiff, Nat.reduceBEq, Int.reduceToNat]; (try simp (disch := omega) only [wrap_id]); (repeat refine ⟨by omega, ?_⟩); refine hJ _ _ (QRuns.nil ?_); clear hJ J))
  refine RunsA.rq tabOk fun J hJ => ?_
  simp only [go_sem, ↓reduceIte, Nat.reduceAdd, Nat.reduceSub, Nat.reduceMul, Nat.reduceLT, Nat.reduceLeDiff, Nat.reduceEqDiff, Nat.reduceBEq, Int.reduceToNat]
  try simp (disch := omega) only [wrap_id]
  refine hJ _ _ (RunsL.call (ps := []) (rid := 16) rfl rfl rfl rfl rfl (by simp only [go_sem, Nat.reduceEqDiff]; first | done | rfl) (szStringS_ok names (1048576 - ((SegV.mk n ms ks).tot : Nat)) hn hns (by omega) (by omega)) rfl (by decide) ⟨by decide, by decide, rfl⟩ (by first | exact .inl rfl | exact .inr (.inl rfl) | exact .inr (.inr rfl)) ?_); clear hJ J
  rintro r os' ros ⟨rfl, rfl, rfl⟩ _
  refine RunsL.go tabOk fun J hJ => ?_
  simp only [go_sem, ↓reduceIte, Nat.reduceAdd, Nat.reduceSub, Nat.reduceMul, Nat.reduceLT, Nat.reduceLeDiff, Nat.reduceEqDiff, Nat.reduceBEq, Int.reduceToNat]
  try simp (disch := omega) only [wrap_id]
  (repeat refine ⟨by omega, ?_⟩)
  refine hJ _ _ (RunsL.nil ?_); clear hJ J
  rw [szStrs_eq names _ (show (0 : Int) ≤ 1048576 - ((SegV.mk n ms ks).tot : Nat) by omega)]
  repeat (first | refine RunsA.sq ?_ | refine RunsA.bk ?_ | refine RunsA.sk ?_ | refine RunsA.ex ?_ | refine RunsA.rt ?_ | refine At.n ?_ | refine At.x ?_ | refine At.r ?_ | refine At.bn ?_ | refine At.br ?_ | refine At.bx ?_ | refine At.by_ rfl ?_ | refine At.kx ?_ | refine At.kr ?_ | refine At.kn ?_ | refine At.er ?_ | refine At.en ?_ | (refine RunsA.rq tabOk fun J hJ => ?_; simp only [go_sem, ↓reduceIte, Nat.reduceAdd, Nat.reduceSub, Nat.reduceMul, Nat.reduceLT, Nat.reduceLeDiff, Nat.reduceEqDiff, Nat.reduceBEq, Int.reduceToNat]; (try simp (disch := omega) only [wrap_id]); (repeat refine ⟨by omega, ?_⟩); refine hJ _ _ (RunsL.nil ?_); clear hJ J) | (refine RunsA.dq mixed tabOk (by kernel_rfl) fun J hJ => ?_; simp only [go_sem, ↓reduceIte, Nat.reduceAdd, Nat.reduceSub, Nat.reduceMul, Nat.reduceLT, Nat.reduceLeDiff, Nat.reduceEqDiff, Nat.reduceBEq, Int.reduceToNat]; (try simp (disch := omega) only [wrap_id]); (repeat refine ⟨by omega, ?_⟩); refine hJ _ _ (QRuns.nil ?_); clear hJ J))
  refine RunsA.cond rfl (fun h => ?_) (fun h => ?_)
  · repeat (first | refine RunsA.sq ?_ | refine RunsA.bk ?_ | refine RunsA.sk ?_ | refine RunsA.ex ?_ | refine RunsA.rt ?_ | refine At.n ?_ | refine At.x ?_ | refine At.r ?_ | refine At.bn ?_ | refine At.br ?_ | refine At.bx ?_ | refine At.by_ rfl ?_ | refine At.kx ?_ | refine At.kr ?_ | refine At.kn ?_ | refine At.er ?_ | refine At.en ?_ | (refine RunsA.rq tabOk fun J hJ => ?_; simp only [go_sem, ↓reduceIte, Nat.reduceAdd, Nat.reduceSub, Nat.reduceMul, Nat.reduceLT, Nat.reduceLeDiff, Nat.reduceEqDiff, Nat.reduceBEq, Int.reduceToNat]; (try simp (disch := omega) only [wrap_id]); (repeat refine ⟨by omega, ?_⟩); refine hJ _ _ (RunsL.nil ?_); clear hJ J) | (refine RunsA.dq mixed tabOk (by kernel_rfl) fun J hJ => ?_; simp only [go_sem, ↓reduceIte, Nat.reduceAdd, Nat.reduceSub, Nat.reduceMul, Nat.reduceLT, Nat.reduceLeDiff, Nat.reduceEqDiff, Nat.reduceBEq, Int.reduceToNat]; (try simp (disch := omega) only [wrap_id]); (repeat refine ⟨by omega, ?_⟩); refine hJ _ _ (QRuns.nil ?_); clear hJ J))
    exact RetA.mk tabOk 0 rfl rfl rfl (by omega) rfl rfl rfl ⟨rfl, rfl, rfl⟩
  have hnt : totS names ≤ 1048576 := by
    rcases Nat.lt_or_ge 1048576 ((SegV.mk n ms ks).tot + totS names) with h1 | h1
    · rw [szR_gt (by omega)] at h; simp at h
    · omega
  have hn2 : names.length ≤ 1048576 := by rw [totS] at hnt; omega
  clear h
  have hts2 := hts ht n ms ks rfl
  have hes2 := hes ht (.mk n ms ks)
  have hSp := layouts2_ok names words (by omega) (by omega) (.mk n ms ks) ht a
  have hIm := layouti2_ok names words (by omega) (by omega) (.mk n ms ks) ht a
  have hLl := layV_len (.mk n ms ks) names words a
  rw [segA_mk] at hts2 hes2 hSp hIm
  generalize layV (.mk n ms ks) names words a = L at *
  generalize layB (.mk n ms ks) names words a = B at *
  have hE := eqSpanS_ok L L (by omega)
  have hcnt := SegV.cntL_le ks
  have hMI : ∀ k : Int, 0 ≤ k → k + words.length ≤ 4611686018427387904 → FnA Try.prog 18 true [.hd 0 [], .int .i64 k] [(1, nums words)] (fun r os ros => r = .int .i64 (k + words.length) ∧ os = [(1, nums (ups k words.length))] ∧ ros = []) := fun k h0 h1 => markIntS_ok [] 1 (nums words) words k rfl (noBo_nums words) h0 h1
  have hMP : FnA Try.prog 39 true [.hd 0 [], .int .i64 1] [(3, spansA L)] (fun r os ros => r = .int .i64 (1 + 3 * L.length) ∧ os = [(3, spansA (markSp 1 L.length))] ∧ ros = []) := markSpanS_ok [] 3 (spansA L) L 1 rfl (noBo_spans L) (by omega) (by omega)
  have hHP := heldSpanS_ok L.length 1 (by omega) (by omega)
  repeat (first | refine RunsA.sq ?_ | refine RunsA.bk ?_ | refine RunsA.sk ?_ | refine RunsA.ex ?_ | refine RunsA.rt ?_ | refine At.n ?_ | refine At.x ?_ | refine At.r ?_ | refine At.bn ?_ | refine At.br ?_ | refine At.bx ?_ | refine At.by_ rfl ?_ | refine At.kx ?_ | refine At.kr ?_ | refine At.kn ?_ | refine At.er ?_ | refine At.en ?_ | (refine RunsA.rq tabOk fun J hJ => ?_; simp only [go_sem, ↓reduceIte, Nat.reduceAdd, Nat.reduceSub, Nat.reduceMul, Nat.reduceLT, Nat.reduceLeDiff, Nat.reduceEqDiff, Nat.reduceBEq, Int.reduceToNat]; (try simp (disch := omega) only [wrap_id]); (repeat refine ⟨by omega, ?_⟩); refine hJ _ _ (RunsL.nil ?_); clear hJ J) | (refine RunsA.dq mixed tabOk (by kernel_rfl) fun J hJ => ?_; simp only [go_sem, ↓reduceIte, Nat.reduceAdd, Nat.reduceSub, Nat.reduceMul, Nat.reduceLT, Nat.reduceLeDiff, Nat.reduceEqDiff, Nat.reduceBEq, Int.reduceToNat]; (try simp (disch := omega) only [wrap_id]); (repeat refine ⟨by omega, ?_⟩); refine hJ _ _ (QRuns.nil ?_); clear hJ J))
  refine RunsA.rq tabOk fun J hJ => ?_
  simp only [go_sem, ↓reduceIte, Nat.reduceAdd, Nat.reduceSub, Nat.reduceMul, Nat.reduceLT, Nat.reduceLeDiff, Nat.reduceEqDiff, Nat.reduceBEq, Int.reduceToNat]
  try simp (disch := omega) only [wrap_id]
  refine hJ _ _ (RunsL.call (ps := []) (rid := 9728) rfl rfl rfl rfl rfl (by simp only [go_sem, Nat.reduceEqDiff]; first | done | rfl) (hts2) rfl (by decide) ⟨by decide, by decide, rfl⟩ (by first | exact .inl rfl | exact .inr (.inl rfl) | exact .inr (.inr rfl)) ?_); clear hJ J
  rintro r os' ros ⟨rfl, rfl, rfl⟩ _
  refine RunsL.go tabOk fun J hJ => ?_
  simp only [go_sem, ↓reduceIte, Nat.reduceAdd, Nat.reduceSub, Nat.reduceMul, Nat.reduceLT, Nat.reduceLeDiff, Nat.reduceEqDiff, Nat.reduceBEq, Int.reduceToNat]
  try simp (disch := omega) only [wrap_id]
  refine hJ _ _ (RunsL.call (ps := []) (rid := 10240) rfl rfl rfl rfl rfl (by simp only [go_sem, Nat.reduceEqDiff]; first | done | rfl) (toStringS_ok names (by omega)) rfl (by decide) ⟨by decide, by decide, rfl⟩ (by first | exact .inl rfl | exact .inr (.inl rfl) | exact .inr (.inr rfl)) ?_); clear hJ J
  rintro r os' ros ⟨rfl, rfl, rfl⟩ _
  refine RunsL.go tabOk fun J hJ => ?_
  simp only [go_sem, ↓reduceIte, Nat.reduceAdd, Nat.reduceSub, Nat.reduceMul, Nat.reduceLT, Nat.reduceLeDiff, Nat.reduceEqDiff, Nat.reduceBEq, Int.reduceToNat]
  try simp (disch := omega) only [wrap_id]
  refine hJ _ _ (RunsL.call (ps := []) (rid := 10752) rfl rfl rfl rfl rfl (by simp only [go_sem, Nat.reduceEqDiff]; first | done | rfl) (toIntS_ok words (by omega)) rfl (by decide) ⟨by decide, by decide, rfl⟩ (by first | exact .inl rfl | exact .inr (.inl rfl) | exact .inr (.inr rfl)) ?_); clear hJ J
  rintro r os' ros ⟨rfl, rfl, rfl⟩ _
  refine RunsL.go tabOk fun J hJ => ?_
  simp only [go_sem, ↓reduceIte, Nat.reduceAdd, Nat.reduceSub, Nat.reduceMul, Nat.reduceLT, Nat.reduceLeDiff, Nat.reduceEqDiff, Nat.reduceBEq, Int.reduceToNat]
  try simp (disch := omega) only [wrap_id]
  refine hJ _ _ (RunsL.call (ps := []) (rid := 11264) rfl rfl rfl rfl rfl (by simp only [go_sem, Nat.reduceEqDiff, brw_strs, brw_segs, brw_nums]; first | done | rfl) (hSp) rfl (by decide) ⟨by decide, by decide, rfl⟩ (by first | exact .inl rfl | exact .inr (.inl rfl) | exact .inr (.inr rfl)) ?_); clear hJ J
  rintro r os' ros ⟨rfl, rfl, rfl⟩ _
  refine RunsL.go tabOk fun J hJ => ?_
  simp only [go_sem, ↓reduceIte, Nat.reduceAdd, Nat.reduceSub, Nat.reduceMul, Nat.reduceLT, Nat.reduceLeDiff, Nat.reduceEqDiff, Nat.reduceBEq, Int.reduceToNat]
  try simp (disch := omega) only [wrap_id]
  refine hJ _ _ (RunsL.nil ?_); clear hJ J
  repeat (first | refine RunsA.sq ?_ | refine RunsA.bk ?_ | refine RunsA.sk ?_ | refine RunsA.ex ?_ | refine RunsA.rt ?_ | refine At.n ?_ | refine At.x ?_ | refine At.r ?_ | refine At.bn ?_ | refine At.br ?_ | refine At.bx ?_ | refine At.by_ rfl ?_ | refine At.kx ?_ | refine At.kr ?_ | refine At.kn ?_ | refine At.er ?_ | refine At.en ?_ | (refine RunsA.rq tabOk fun J hJ => ?_; simp only [go_sem, ↓reduceIte, Nat.reduceAdd, Nat.reduceSub, Nat.reduceMul, Nat.reduceLT, Nat.reduceLeDiff, Nat.reduceEqDiff, Nat.reduceBEq, Int.reduceToNat]; (try simp (disch := omega) only [wrap_id]); (repeat refine ⟨by omega, ?_⟩); refine hJ _ _ (RunsL.nil ?_); clear hJ J) | (refine RunsA.dq mixed tabOk (by kernel_rfl) fun J hJ => ?_; simp only [go_sem, ↓reduceIte, Nat.reduceAdd, Nat.reduceSub, Nat.reduceMul, Nat.reduceLT, Nat.reduceLeDiff, Nat.reduceEqDiff, Nat.reduceBEq, Int.reduceToNat]; (try simp (disch := omega) only [wrap_id]); (repeat refine ⟨by omega, ?_⟩); refine hJ _ _ (QRuns.nil ?_); clear hJ J))
  refine RunsA.rq tabOk fun J hJ => ?_
  simp only [go_sem, ↓reduceIte, Nat.reduceAdd, Nat.reduceSub, Nat.reduceMul, Nat.reduceLT, Nat.reduceLeDiff, Nat.reduceEqDiff, Nat.reduceBEq, Int.reduceToNat]
  try simp (disch := omega) only [wrap_id]
  refine hJ _ _ (RunsL.call (ps := []) (rid := 12288) rfl rfl rfl rfl rfl (by simp only [go_sem, Nat.reduceEqDiff]; first | done | rfl) (hts2) rfl (by decide) ⟨by decide, by decide, rfl⟩ (by first | exact .inl rfl | exact .inr (.inl rfl) | exact .inr (.inr rfl)) ?_); clear hJ J
  rintro r os' ros ⟨rfl, rfl, rfl⟩ _
  refine RunsL.go tabOk fun J hJ => ?_
  simp only [go_sem, ↓reduceIte, Nat.reduceAdd, Nat.reduceSub, Nat.reduceMul, Nat.reduceLT, Nat.reduceLeDiff, Nat.reduceEqDiff, Nat.reduceBEq, Int.reduceToNat]
  try simp (disch := omega) only [wrap_id]
  refine hJ _ _ (RunsL.nil ?_); clear hJ J
  repeat (first | refine RunsA.sq ?_ | refine RunsA.bk ?_ | refine RunsA.sk ?_ | refine RunsA.ex ?_ | refine RunsA.rt ?_ | refine At.n ?_ | refine At.x ?_ | refine At.r ?_ | refine At.bn ?_ | refine At.br ?_ | refine At.bx ?_ | refine At.by_ rfl ?_ | refine At.kx ?_ | refine At.kr ?_ | refine At.kn ?_ | refine At.er ?_ | refine At.en ?_ | (refine RunsA.rq tabOk fun J hJ => ?_; simp only [go_sem, ↓reduceIte, Nat.reduceAdd, Nat.reduceSub, Nat.reduceMul, Nat.reduceLT, Nat.reduceLeDiff, Nat.reduceEqDiff, Nat.reduceBEq, Int.reduceToNat]; (try simp (disch := omega) only [wrap_id]); (repeat refine ⟨by omega, ?_⟩); refine hJ _ _ (RunsL.nil ?_); clear hJ J) | (refine RunsA.dq mixed tabOk (by kernel_rfl) fun J hJ => ?_; simp only [go_sem, ↓reduceIte, Nat.reduceAdd, Nat.reduceSub, Nat.reduceMul, Nat.reduceLT, Nat.reduceLeDiff, Nat.reduceEqDiff, Nat.reduceBEq, Int.reduceToNat]; (try simp (disch := omega) only [wrap_id]); (repeat refine ⟨by omega, ?_⟩); refine hJ _ _ (QRuns.nil ?_); clear hJ J))
  refine RunsA.rq tabOk fun J hJ => ?_
  simp only [go_sem, ↓reduceIte, Nat.reduceAdd, Nat.reduceSub, Nat.reduceMul, Nat.reduceLT, Nat.reduceLeDiff, Nat.reduceEqDiff, Nat.reduceBEq, Int.reduceToNat]
  try simp (disch := omega) only [wrap_id]
  refine hJ _ _ (RunsL.call (ps := []) (rid := 12800) rfl rfl rfl rfl rfl (by simp only [go_sem, Nat.reduceEqDiff]; first | done | rfl) (toStringS_ok names (by omega)) rfl (by decide) ⟨by decide, by decide, rfl⟩ (by first | exact .inl rfl | exact .inr (.inl rfl) | exact .inr (.inr rfl)) ?_); clear hJ J
  rintro r os' ros ⟨rfl, rfl, rfl⟩ _
  refine RunsL.go tabOk fun J hJ => ?_
  simp only [go_sem, ↓reduceIte, Nat.reduceAdd, Nat.reduceSub, Nat.reduceMul, Nat.reduceLT, Nat.reduceLeDiff, Nat.reduceEqDiff, Nat.reduceBEq, Int.reduceToNat]
  try simp (disch := omega) only [wrap_id]
  refine hJ _ _ (RunsL.nil ?_); clear hJ J
  repeat (first | refine RunsA.sq ?_ | refine RunsA.bk ?_ | refine RunsA.sk ?_ | refine RunsA.ex ?_ | refine RunsA.rt ?_ | refine At.n ?_ | refine At.x ?_ | refine At.r ?_ | refine At.bn ?_ | refine At.br ?_ | refine At.bx ?_ | refine At.by_ rfl ?_ | refine At.kx ?_ | refine At.kr ?_ | refine At.kn ?_ | refine At.er ?_ | refine At.en ?_ | (refine RunsA.rq tabOk fun J hJ => ?_; simp only [go_sem, ↓reduceIte, Nat.reduceAdd, Nat.reduceSub, Nat.reduceMul, Nat.reduceLT, Nat.reduceLeDiff, Nat.reduceEqDiff, Nat.reduceBEq, Int.reduceToNat]; (try simp (disch := omega) only [wrap_id]); (repeat refine ⟨by omega, ?_⟩); refine hJ _ _ (RunsL.nil ?_); clear hJ J) | (refine RunsA.dq mixed tabOk (by kernel_rfl) fun J hJ => ?_; simp only [go_sem, ↓reduceIte, Nat.reduceAdd, Nat.reduceSub, Nat.reduceMul, Nat.reduceLT, Nat.reduceLeDiff, Nat.reduceEqDiff, Nat.reduceBEq, Int.reduceToNat]; (try simp (disch := omega) only [wrap_id]); (repeat refine ⟨by omega, ?_⟩); refine hJ _ _ (QRuns.nil ?_); clear hJ J))
  refine RunsA.rq tabOk fun J hJ => ?_
  simp only [go_sem, ↓reduceIte, Nat.reduceAdd, Nat.reduceSub, Nat.reduceMul, Nat.reduceLT, Nat.reduceLeDiff, Nat.reduceEqDiff, Nat.reduceBEq, Int.reduceToNat]
  try simp (disch := omega) only [wrap_id]
  refine hJ _ _ (RunsL.call (ps := []) (rid := 13312) rfl rfl rfl rfl rfl (by simp only [go_sem, Nat.reduceEqDiff]; first | done | rfl) (toIntS_ok words (by omega)) rfl (by decide) ⟨by decide, by decide, rfl⟩ (by first | exact .inl rfl | exact .inr (.inl rfl) | exact .inr (.inr rfl)) ?_); clear hJ J
  rintro r os' ros ⟨rfl, rfl, rfl⟩ _
  refine RunsL.go tabOk fun J hJ => ?_
  simp only [go_sem, ↓reduceIte, Nat.reduceAdd, Nat.reduceSub, Nat.reduceMul, Nat.reduceLT, Nat.reduceLeDiff, Nat.reduceEqDiff, Nat.reduceBEq, Int.reduceToNat]
  try simp (disch := omega) only [wrap_id]
  refine hJ _ _ (RunsL.nil ?_); clear hJ J
  repeat (first | refine RunsA.sq ?_ | refine RunsA.bk ?_ | refine RunsA.sk ?_ | refine RunsA.ex ?_ | refine RunsA.rt ?_ | refine At.n ?_ | refine At.x ?_ | refine At.r ?_ | refine At.bn ?_ | refine At.br ?_ | refine At.bx ?_ | refine At.by_ rfl ?_ | refine At.kx ?_ | refine At.kr ?_ | refine At.kn ?_ | refine At.er ?_ | refine At.en ?_ | (refine RunsA.rq tabOk fun J hJ => ?_; simp only [go_sem, ↓reduceIte, Nat.reduceAdd, Nat.reduceSub, Nat.reduceMul, Nat.reduceLT, Nat.reduceLeDiff, Nat.reduceEqDiff, Nat.reduceBEq, Int.reduceToNat]; (try simp (disch := omega) only [wrap_id]); (repeat refine ⟨by omega, ?_⟩); refine hJ _ _ (RunsL.nil ?_); clear hJ J) | (refine RunsA.dq mixed tabOk (by kernel_rfl) fun J hJ => ?_; simp only [go_sem, ↓reduceIte, Nat.reduceAdd, Nat.reduceSub, Nat.reduceMul, Nat.reduceLT, Nat.reduceLeDiff, Nat.reduceEqDiff, Nat.reduceBEq, Int.reduceToNat]; (try simp (disch := omega) only [wrap_id]); (repeat refine ⟨by omega, ?_⟩); refine hJ _ _ (QRuns.nil ?_); clear hJ J))
  refine RunsA.rq tabOk fun J hJ => ?_
  simp only [go_sem, ↓reduceIte, Nat.reduceAdd, Nat.reduceSub, Nat.reduceMul, Nat.reduceLT, Nat.reduceLeDiff, Nat.reduceEqDiff, Nat.reduceBEq, Int.reduceToNat]
  try simp (disch := omega) only [wrap_id]
  refine hJ _ _ (RunsL.call (ps := []) (rid := 14848) rfl rfl rfl rfl rfl (by simp only [go_sem, Nat.reduceEqDiff, brw_strs, brw_segs, brw_nums]; first | done | rfl) (hIm) rfl (by decide) ⟨by decide, by decide, rfl⟩ (by first | exact .inl rfl | exact .inr (.inl rfl) | exact .inr (.inr rfl)) ?_); clear hJ J
  rintro r os' ros ⟨rfl, rfl, rfl⟩ _
  refine RunsL.go tabOk fun J hJ => ?_
  simp only [go_sem, ↓reduceIte, Nat.reduceAdd, Nat.reduceSub, Nat.reduceMul, Nat.reduceLT, Nat.reduceLeDiff, Nat.reduceEqDiff, Nat.reduceBEq, Int.reduceToNat]
  try simp (disch := omega) only [wrap_id]
  refine hJ _ _ (RunsL.nil ?_); clear hJ J
  repeat (first | refine RunsA.sq ?_ | refine RunsA.bk ?_ | refine RunsA.sk ?_ | refine RunsA.ex ?_ | refine RunsA.rt ?_ | refine At.n ?_ | refine At.x ?_ | refine At.r ?_ | refine At.bn ?_ | refine At.br ?_ | refine At.bx ?_ | refine At.by_ rfl ?_ | refine At.kx ?_ | refine At.kr ?_ | refine At.kn ?_ | refine At.er ?_ | refine At.en ?_ | (refine RunsA.rq tabOk fun J hJ => ?_; simp only [go_sem, ↓reduceIte, Nat.reduceAdd, Nat.reduceSub, Nat.reduceMul, Nat.reduceLT, Nat.reduceLeDiff, Nat.reduceEqDiff, Nat.reduceBEq, Int.reduceToNat]; (try simp (disch := omega) only [wrap_id]); (repeat refine ⟨by omega, ?_⟩); refine hJ _ _ (RunsL.nil ?_); clear hJ J) | (refine RunsA.dq mixed tabOk (by kernel_rfl) fun J hJ => ?_; simp only [go_sem, ↓reduceIte, Nat.reduceAdd, Nat.reduceSub, Nat.reduceMul, Nat.reduceLT, Nat.reduceLeDiff, Nat.reduceEqDiff, Nat.reduceBEq, Int.reduceToNat]; (try simp (disch := omega) only [wrap_id]); (repeat refine ⟨by omega, ?_⟩); refine hJ _ _ (QRuns.nil ?_); clear hJ J))
  refine RunsA.rq tabOk fun J hJ => ?_
  simp only [go_sem, ↓reduceIte, Nat.reduceAdd, Nat.reduceSub, Nat.reduceMul, Nat.reduceLT, Nat.reduceLeDiff, Nat.reduceEqDiff, Nat.reduceBEq, Int.reduceToNat]
  try simp (disch := omega) only [wrap_id]
  refine hJ _ _ (RunsL.call (ps := []) (rid := 16) rfl rfl rfl rfl rfl (by simp only [go_sem, Nat.reduceEqDiff, brw_spans]; first | done | rfl) (hE) rfl (by decide) ⟨by decide, by decide, rfl⟩ (by first | exact .inl rfl | exact .inr (.inl rfl) | exact .inr (.inr rfl)) ?_); clear hJ J
  rintro r os' ros ⟨rfl, rfl, rfl⟩ _
  refine RunsL.go tabOk fun J hJ => ?_
  simp only [go_sem, ↓reduceIte, Nat.reduceAdd, Nat.reduceSub, Nat.reduceMul, Nat.reduceLT, Nat.reduceLeDiff, Nat.reduceEqDiff, Nat.reduceBEq, Int.reduceToNat, decide_true, Bool.not_true, bne_self_eq_false]
  try simp (disch := omega) only [wrap_id]
  refine hJ _ _ (RunsL.nil ?_); clear hJ J
  repeat (first | refine RunsA.sq ?_ | refine RunsA.bk ?_ | refine RunsA.sk ?_ | refine RunsA.ex ?_ | refine RunsA.rt ?_ | refine At.n ?_ | refine At.x ?_ | refine At.r ?_ | refine At.bn ?_ | refine At.br ?_ | refine At.bx ?_ | refine At.by_ rfl ?_ | refine At.kx ?_ | refine At.kr ?_ | refine At.kn ?_ | refine At.er ?_ | refine At.en ?_ | (refine RunsA.rq tabOk fun J hJ => ?_; simp only [go_sem, ↓reduceIte, Nat.reduceAdd, Nat.reduceSub, Nat.reduceMul, Nat.reduceLT, Nat.reduceLeDiff, Nat.reduceEqDiff, Nat.reduceBEq, Int.reduceToNat]; (try simp (disch := omega) only [wrap_id]); (repeat refine ⟨by omega, ?_⟩); refine hJ _ _ (RunsL.nil ?_); clear hJ J) | (refine RunsA.dq mixed tabOk (by kernel_rfl) fun J hJ => ?_; simp only [go_sem, ↓reduceIte, Nat.reduceAdd, Nat.reduceSub, Nat.reduceMul, Nat.reduceLT, Nat.reduceLeDiff, Nat.reduceEqDiff, Nat.reduceBEq, Int.reduceToNat]; (try simp (disch := omega) only [wrap_id]); (repeat refine ⟨by omega, ?_⟩); refine hJ _ _ (QRuns.nil ?_); clear hJ J))
  refine RunsA.cond rfl (fun h => absurd h (by decide)) (fun h => ?_)
  refine RunsA.sk ?_
  refine At.n ?_
  refine RunsA.sq ?_
  refine RunsA.meet ⟨145, [(1, .row .bo 1 (strs names)), (2, .row .bo 1 (nums words)), (3, .int .i64 a), (4, .ptr 1280 [] 3 0 0), (10, .hd 11264 []), (11, .bool B), (12, .ptr 3328 [] 3 0 0), (13, .hd 12800 []), (14, .hd 13312 []), (15, .hd 14848 []), (16, .bool B), (73, .bool false)],
    [⟨1280, 3, [.agg [.str n, .row .bo 1 (strs ms), .row .bo 3 (segsA .bo ks)]]⟩, ⟨3328, 3, [.agg [.str n, .row .own 1 (strs ms), .row .own 3 (segsA .own ks)]]⟩, ⟨12800, 1, strs names⟩, ⟨13312, 1, nums words⟩, ⟨11264, 3, spansA L⟩, ⟨14848, 3, spansA L⟩], false⟩ ?_ ?_
  · refine RunsA.orders mixed [[0, 1, 2, 3, 4], [1, 0, 2, 3, 4], [1, 2, 0, 3, 4]] (by kernel_rfl) (by kernel_rfl) ?_; simp only [List.forall_mem_cons, List.not_mem_nil, false_implies, implies_true, and_true, List.filterMap_cons, List.filterMap_nil, List.getElem?_toArray, List.getElem?_cons_zero, List.getElem?_cons_succ]
    refine ⟨?_, ?_, ?_⟩
    · refine RunsL.go tabOk fun J hJ => ?_; simp only [go_sem, ↓reduceIte, Nat.reduceAdd, Nat.reduceSub, Nat.reduceMul, Nat.reduceLT, Nat.reduceLeDiff, Nat.reduceEqDiff, Nat.reduceBEq, Int.reduceToNat]; try simp (disch := omega) only [wrap_id]
      refine hJ _ _ (RunsL.call (ps := []) (rid := 18432) rfl rfl rfl rfl rfl (by simp only [go_sem, Nat.reduceEqDiff]; first | done | rfl) (hts2) rfl (by decide) ⟨by decide, by decide, rfl⟩ (by first | exact .inl rfl | exact .inr (.inl rfl) | exact .inr (.inr rfl)) ?_); clear hJ J
      rintro r os' ros ⟨rfl, rfl, rfl⟩ _
      refine RunsL.go tabOk fun J hJ => ?_
      simp only [go_sem, ↓reduceIte, Nat.reduceAdd, Nat.reduceSub, Nat.reduceMul, Nat.reduceLT, Nat.reduceLeDiff, Nat.reduceEqDiff, Nat.reduceBEq, Int.reduceToNat]
      try simp (disch := omega) only [wrap_id]
      refine hJ _ _ (RunsL.call (ps := []) (rid := 16) rfl rfl rfl rfl rfl (by simp only [go_sem, Nat.reduceEqDiff, brw_strs, brw_segs]; first | done | rfl) (hes2) rfl (by decide) ⟨by decide, by decide, rfl⟩ (by first | exact .inl rfl | exact .inr (.inl rfl) | exact .inr (.inr rfl)) ?_); clear hJ J
      rintro r os' ros ⟨rfl, rfl, rfl⟩ _
      refine RunsL.go tabOk fun J hJ => ?_
      simp only [go_sem, ↓reduceIte, Nat.reduceAdd, Nat.reduceSub, Nat.reduceMul, Nat.reduceLT, Nat.reduceLeDiff, Nat.reduceEqDiff, Nat.reduceBEq, Int.reduceToNat]
      try simp (disch := omega) only [wrap_id]
      refine hJ _ _ (RunsL.nil ?_); clear hJ J
      refine At.kn ?_
      exact ⟨rfl, by simp [SubS, lookS], by simp [SubO, lookO], rfl⟩
    · refine RunsL.go tabOk fun J hJ => ?_; simp only [go_sem, ↓reduceIte, Nat.reduceAdd, Nat.reduceSub, Nat.reduceMul, Nat.reduceLT, Nat.reduceLeDiff, Nat.reduceEqDiff, Nat.reduceBEq, Int.reduceToNat]; try simp (disch := omega) only [wrap_id]
      refine hJ _ _ (RunsL.call (ps := []) (rid := 18432) rfl rfl rfl rfl rfl (by simp only [go_sem, Nat.reduceEqDiff]; first | done | rfl) (hts2) rfl (by decide) ⟨by decide, by decide, rfl⟩ (by first | exact .inl rfl | exact .inr (.inl rfl) | exact .inr (.inr rfl)) ?_); clear hJ J
      rintro r os' ros ⟨rfl, rfl, rfl⟩ _
      refine RunsL.go tabOk fun J hJ => ?_
      simp only [go_sem, ↓reduceIte, Nat.reduceAdd, Nat.reduceSub, Nat.reduceMul, Nat.reduceLT, Nat.reduceLeDiff, Nat.reduceEqDiff, Nat.reduceBEq, Int.reduceToNat]
      try simp (disch := omega) only [wrap_id]
      refine hJ _ _ (RunsL.call (ps := []) (rid := 16) rfl rfl rfl rfl rfl (by simp only [go_sem, Nat.reduceEqDiff, brw_strs, brw_segs]; first | done | rfl) (hes2) rfl (by decide) ⟨by decide, by decide, rfl⟩ (by first | exact .inl rfl | exact .inr (.inl rfl) | exact .inr (.inr rfl)) ?_); clear hJ J
      rintro r os' ros ⟨rfl, rfl, rfl⟩ _
      refine RunsL.go tabOk fun J hJ => ?_
      simp only [go_sem, ↓reduceIte, Nat.reduceAdd, Nat.reduceSub, Nat.reduceMul, Nat.reduceLT, Nat.reduceLeDiff, Nat.reduceEqDiff, Nat.reduceBEq, Int.reduceToNat]
      try simp (disch := omega) only [wrap_id]
      refine hJ _ _ (RunsL.nil ?_); clear hJ J
      refine At.kn ?_
      exact ⟨rfl, by simp [SubS, lookS], by simp [SubO, lookO], rfl⟩
    · refine RunsL.go tabOk fun J hJ => ?_; simp only [go_sem, ↓reduceIte, Nat.reduceAdd, Nat.reduceSub, Nat.reduceMul, Nat.reduceLT, Nat.reduceLeDiff, Nat.reduceEqDiff, Nat.reduceBEq, Int.reduceToNat]; try simp (disch := omega) only [wrap_id]
      refine hJ _ _ (RunsL.call (ps := []) (rid := 18432) rfl rfl rfl rfl rfl (by simp only [go_sem, Nat.reduceEqDiff]; first | done | rfl) (hts2) rfl (by decide) ⟨by decide, by decide, rfl⟩ (by first | exact .inl rfl | exact .inr (.inl rfl) | exact .inr (.inr rfl)) ?_); clear hJ J
      rintro r os' ros ⟨rfl, rfl, rfl⟩ _
      refine RunsL.go tabOk fun J hJ => ?_
      simp only [go_sem, ↓reduceIte, Nat.reduceAdd, Nat.reduceSub, Nat.reduceMul, Nat.reduceLT, Nat.reduceLeDiff, Nat.reduceEqDiff, Nat.reduceBEq, Int.reduceToNat]
      try simp (disch := omega) only [wrap_id]
      refine hJ _ _ (RunsL.call (ps := []) (rid := 16) rfl rfl rfl rfl rfl (by simp only [go_sem, Nat.reduceEqDiff, brw_strs, brw_segs]; first | done | rfl) (hes2) rfl (by decide) ⟨by decide, by decide, rfl⟩ (by first | exact .inl rfl | exact .inr (.inl rfl) | exact .inr (.inr rfl)) ?_); clear hJ J
      rintro r os' ros ⟨rfl, rfl, rfl⟩ _
      refine RunsL.go tabOk fun J hJ => ?_
      simp only [go_sem, ↓reduceIte, Nat.reduceAdd, Nat.reduceSub, Nat.reduceMul, Nat.reduceLT, Nat.reduceLeDiff, Nat.reduceEqDiff, Nat.reduceBEq, Int.reduceToNat]
      try simp (disch := omega) only [wrap_id]
      refine hJ _ _ (RunsL.nil ?_); clear hJ J
      refine At.kn ?_
      exact ⟨rfl, by simp [SubS, lookS], by simp [SubO, lookO], rfl⟩
  refine RunsA.cond rfl (fun h => ?_) (fun h => ?_)
  · simp at h
  repeat (first | refine RunsA.sq ?_ | refine RunsA.bk ?_ | refine RunsA.sk ?_ | refine RunsA.ex ?_ | refine RunsA.rt ?_ | refine At.n ?_ | refine At.x ?_ | refine At.r ?_ | refine At.bn ?_ | refine At.br ?_ | refine At.bx ?_ | refine At.by_ rfl ?_ | refine At.kx ?_ | refine At.kr ?_ | refine At.kn ?_ | refine At.er ?_ | refine At.en ?_ | (refine RunsA.rq tabOk fun J hJ => ?_; simp only [go_sem, ↓reduceIte, Nat.reduceAdd, Nat.reduceSub, Nat.reduceMul, Nat.reduceLT, Nat.reduceLeDiff, Nat.reduceEqDiff, Nat.reduceBEq, Int.reduceToNat]; (try simp (disch := omega) only [wrap_id]); (repeat refine ⟨by omega, ?_⟩); refine hJ _ _ (RunsL.nil ?_); clear hJ J) | (refine RunsA.dq mixed tabOk (by kernel_rfl) fun J hJ => ?_; simp only [go_sem, ↓reduceIte, Nat.reduceAdd, Nat.reduceSub, Nat.reduceMul, Nat.reduceLT, Nat.reduceLeDiff, Nat.reduceEqDiff, Nat.reduceBEq, Int.reduceToNat]; (try simp (disch := omega) only [wrap_id]); (repeat refine ⟨by omega, ?_⟩); refine hJ _ _ (QRuns.nil ?_); clear hJ J))
  refine RunsA.rq tabOk fun J hJ => ?_
  simp only [go_sem, ↓reduceIte, Nat.reduceAdd, Nat.reduceSub, Nat.reduceMul, Nat.reduceLT, Nat.reduceLeDiff, Nat.reduceEqDiff, Nat.reduceBEq, Int.reduceToNat]
  try simp (disch := omega) only [wrap_id]
  refine hJ _ _ (RunsL.call (ps := []) (rid := 19712) rfl rfl rfl rfl rfl (by simp only [go_sem, Nat.reduceEqDiff]; first | done | rfl) (toStringS_ok names (by omega)) rfl (by decide) ⟨by decide, by decide, rfl⟩ (by first | exact .inl rfl | exact .inr (.inl rfl) | exact .inr (.inr rfl)) ?_); clear hJ J
  rintro r os' ros ⟨rfl, rfl, rfl⟩ _
  refine RunsL.go tabOk fun J hJ => ?_
  simp only [go_sem, ↓reduceIte, Nat.reduceAdd, Nat.reduceSub, Nat.reduceMul, Nat.reduceLT, Nat.reduceLeDiff, Nat.reduceEqDiff, Nat.reduceBEq, Int.reduceToNat]
  try simp (disch := omega) only [wrap_id]
  refine hJ _ _ (RunsL.call (ps := []) (rid := 16) rfl rfl rfl rfl rfl (by simp only [go_sem, Nat.reduceEqDiff, brw_strs]; first | done | rfl) (eqStringS_ok names names (by omega)) rfl (by decide) ⟨by decide, by decide, rfl⟩ (by first | exact .inl rfl | exact .inr (.inl rfl) | exact .inr (.inr rfl)) ?_); clear hJ J
  rintro r os' ros ⟨rfl, rfl, rfl⟩ _
  refine RunsL.go tabOk fun J hJ => ?_
  simp only [go_sem, ↓reduceIte, Nat.reduceAdd, Nat.reduceSub, Nat.reduceMul, Nat.reduceLT, Nat.reduceLeDiff, Nat.reduceEqDiff, Nat.reduceBEq, Int.reduceToNat]
  try simp (disch := omega) only [wrap_id]
  refine hJ _ _ (RunsL.nil ?_); clear hJ J
  repeat (first | refine RunsA.sq ?_ | refine RunsA.bk ?_ | refine RunsA.sk ?_ | refine RunsA.ex ?_ | refine RunsA.rt ?_ | refine At.n ?_ | refine At.x ?_ | refine At.r ?_ | refine At.bn ?_ | refine At.br ?_ | refine At.bx ?_ | refine At.by_ rfl ?_ | refine At.kx ?_ | refine At.kr ?_ | refine At.kn ?_ | refine At.er ?_ | refine At.en ?_ | (refine RunsA.rq tabOk fun J hJ => ?_; simp only [go_sem, ↓reduceIte, Nat.reduceAdd, Nat.reduceSub, Nat.reduceMul, Nat.reduceLT, Nat.reduceLeDiff, Nat.reduceEqDiff, Nat.reduceBEq, Int.reduceToNat]; (try simp (disch := omega) only [wrap_id]); (repeat refine ⟨by omega, ?_⟩); refine hJ _ _ (RunsL.nil ?_); clear hJ J) | (refine RunsA.dq mixed tabOk (by kernel_rfl) fun J hJ => ?_; simp only [go_sem, ↓reduceIte, Nat.reduceAdd, Nat.reduceSub, Nat.reduceMul, Nat.reduceLT, Nat.reduceLeDiff, Nat.reduceEqDiff, Nat.reduceBEq, Int.reduceToNat]; (try simp (disch := omega) only [wrap_id]); (repeat refine ⟨by omega, ?_⟩); refine hJ _ _ (QRuns.nil ?_); clear hJ J))
  refine RunsA.cond rfl (fun h => ?_) (fun h => ?_)
  · simp at h
  repeat (first | refine RunsA.sq ?_ | refine RunsA.bk ?_ | refine RunsA.sk ?_ | refine RunsA.ex ?_ | refine RunsA.rt ?_ | refine At.n ?_ | refine At.x ?_ | refine At.r ?_ | refine At.bn ?_ | refine At.br ?_ | refine At.bx ?_ | refine At.by_ rfl ?_ | refine At.kx ?_ | refine At.kr ?_ | refine At.kn ?_ | refine At.er ?_ | refine At.en ?_ | (refine RunsA.rq tabOk fun J hJ => ?_; simp only [go_sem, ↓reduceIte, Nat.reduceAdd, Nat.reduceSub, Nat.reduceMul, Nat.reduceLT, Nat.reduceLeDiff, Nat.reduceEqDiff, Nat.reduceBEq, Int.reduceToNat]; (try simp (disch := omega) only [wrap_id]); (repeat refine ⟨by omega, ?_⟩); refine hJ _ _ (RunsL.nil ?_); clear hJ J) | (refine RunsA.dq mixed tabOk (by kernel_rfl) fun J hJ => ?_; simp only [go_sem, ↓reduceIte, Nat.reduceAdd, Nat.reduceSub, Nat.reduceMul, Nat.reduceLT, Nat.reduceLeDiff, Nat.reduceEqDiff, Nat.reduceBEq, Int.reduceToNat]; (try simp (disch := omega) only [wrap_id]); (repeat refine ⟨by omega, ?_⟩); refine hJ _ _ (QRuns.nil ?_); clear hJ J))
  refine RunsA.rq tabOk fun J hJ => ?_
  simp only [go_sem, ↓reduceIte, Nat.reduceAdd, Nat.reduceSub, Nat.reduceMul, Nat.reduceLT, Nat.reduceLeDiff, Nat.reduceEqDiff, Nat.reduceBEq, Int.reduceToNat]
  try simp (disch := omega) only [wrap_id]
  refine hJ _ _ (RunsL.call (ps := []) (rid := 20992) rfl rfl rfl rfl rfl (by simp only [go_sem, Nat.reduceEqDiff]; first | done | rfl) (toIntS_ok words (by omega)) rfl (by decide) ⟨by decide, by decide, rfl⟩ (by first | exact .inl rfl | exact .inr (.inl rfl) | exact .inr (.inr rfl)) ?_); clear hJ J
  rintro r os' ros ⟨rfl, rfl, rfl⟩ _
  refine RunsL.go tabOk fun J hJ => ?_
  simp only [go_sem, ↓reduceIte, Nat.reduceAdd, Nat.reduceSub, Nat.reduceMul, Nat.reduceLT, Nat.reduceLeDiff, Nat.reduceEqDiff, Nat.reduceBEq, Int.reduceToNat]
  try simp (disch := omega) only [wrap_id]
  refine hJ _ _ (RunsL.call (ps := []) (rid := 16) rfl rfl rfl rfl rfl (by simp only [go_sem, Nat.reduceEqDiff, brw_nums]; first | done | rfl) (eqIntS_ok words words (by omega)) rfl (by decide) ⟨by decide, by decide, rfl⟩ (by first | exact .inl rfl | exact .inr (.inl rfl) | exact .inr (.inr rfl)) ?_); clear hJ J
  rintro r os' ros ⟨rfl, rfl, rfl⟩ _
  refine RunsL.go tabOk fun J hJ => ?_
  simp only [go_sem, ↓reduceIte, Nat.reduceAdd, Nat.reduceSub, Nat.reduceMul, Nat.reduceLT, Nat.reduceLeDiff, Nat.reduceEqDiff, Nat.reduceBEq, Int.reduceToNat]
  try simp (disch := omega) only [wrap_id]
  refine hJ _ _ (RunsL.nil ?_); clear hJ J
  repeat (first | refine RunsA.sq ?_ | refine RunsA.bk ?_ | refine RunsA.sk ?_ | refine RunsA.ex ?_ | refine RunsA.rt ?_ | refine At.n ?_ | refine At.x ?_ | refine At.r ?_ | refine At.bn ?_ | refine At.br ?_ | refine At.bx ?_ | refine At.by_ rfl ?_ | refine At.kx ?_ | refine At.kr ?_ | refine At.kn ?_ | refine At.er ?_ | refine At.en ?_ | (refine RunsA.rq tabOk fun J hJ => ?_; simp only [go_sem, ↓reduceIte, Nat.reduceAdd, Nat.reduceSub, Nat.reduceMul, Nat.reduceLT, Nat.reduceLeDiff, Nat.reduceEqDiff, Nat.reduceBEq, Int.reduceToNat]; (try simp (disch := omega) only [wrap_id]); (repeat refine ⟨by omega, ?_⟩); refine hJ _ _ (RunsL.nil ?_); clear hJ J) | (refine RunsA.dq mixed tabOk (by kernel_rfl) fun J hJ => ?_; simp only [go_sem, ↓reduceIte, Nat.reduceAdd, Nat.reduceSub, Nat.reduceMul, Nat.reduceLT, Nat.reduceLeDiff, Nat.reduceEqDiff, Nat.reduceBEq, Int.reduceToNat]; (try simp (disch := omega) only [wrap_id]); (repeat refine ⟨by omega, ?_⟩); refine hJ _ _ (QRuns.nil ?_); clear hJ J))
  refine RunsA.cond rfl (fun h => ?_) (fun h => ?_)
  · simp at h
  repeat (first | refine RunsA.sq ?_ | refine RunsA.bk ?_ | refine RunsA.sk ?_ | refine RunsA.ex ?_ | refine RunsA.rt ?_ | refine At.n ?_ | refine At.x ?_ | refine At.r ?_ | refine At.bn ?_ | refine At.br ?_ | refine At.bx ?_ | refine At.by_ rfl ?_ | refine At.kx ?_ | refine At.kr ?_ | refine At.kn ?_ | refine At.er ?_ | refine At.en ?_ | (refine RunsA.rq tabOk fun J hJ => ?_; simp only [go_sem, ↓reduceIte, Nat.reduceAdd, Nat.reduceSub, Nat.reduceMul, Nat.reduceLT, Nat.reduceLeDiff, Nat.reduceEqDiff, Nat.reduceBEq, Int.reduceToNat]; (try simp (disch := omega) only [wrap_id]); (repeat refine ⟨by omega, ?_⟩); refine hJ _ _ (RunsL.nil ?_); clear hJ J) | (refine RunsA.dq mixed tabOk (by kernel_rfl) fun J hJ => ?_; simp only [go_sem, ↓reduceIte, Nat.reduceAdd, Nat.reduceSub, Nat.reduceMul, Nat.reduceLT, Nat.reduceLeDiff, Nat.reduceEqDiff, Nat.reduceBEq, Int.reduceToNat]; (try simp (disch := omega) only [wrap_id]); (repeat refine ⟨by omega, ?_⟩); refine hJ _ _ (QRuns.nil ?_); clear hJ J))
  refine RunsA.rq tabOk fun J hJ => ?_
  simp only [go_sem, ↓reduceIte, Nat.reduceAdd, Nat.reduceSub, Nat.reduceMul, Nat.reduceLT, Nat.reduceLeDiff, Nat.reduceEqDiff, Nat.reduceBEq, Int.reduceToNat]
  try simp (disch := omega) only [wrap_id]
  refine hJ _ _ (RunsL.call (ps := [3328]) (rid := 16) rfl rfl rfl rfl rfl (by simp only [go_sem, Nat.reduceEqDiff]; first | done | rfl) (markSeg_ok n ms ks 1 (by omega) (by omega)) rfl (by decide) ⟨by decide, by decide, rfl⟩ (by first | exact .inl rfl | exact .inr (.inl rfl) | exact .inr (.inr rfl)) ?_); clear hJ J
  rintro r os' ros ⟨rfl, rfl, rfl⟩ _
  refine RunsL.go tabOk fun J hJ => ?_
  simp only [go_sem, ↓reduceIte, Nat.reduceAdd, Nat.reduceSub, Nat.reduceMul, Nat.reduceLT, Nat.reduceLeDiff, Nat.reduceEqDiff, Nat.reduceBEq, Int.reduceToNat]
  try simp (disch := omega) only [wrap_id]
  refine hJ _ _ (RunsL.nil ?_); clear hJ J
  repeat (first | refine RunsA.sq ?_ | refine RunsA.bk ?_ | refine RunsA.sk ?_ | refine RunsA.ex ?_ | refine RunsA.rt ?_ | refine At.n ?_ | refine At.x ?_ | refine At.r ?_ | refine At.bn ?_ | refine At.br ?_ | refine At.bx ?_ | refine At.by_ rfl ?_ | refine At.kx ?_ | refine At.kr ?_ | refine At.kn ?_ | refine At.er ?_ | refine At.en ?_ | (refine RunsA.rq tabOk fun J hJ => ?_; simp only [go_sem, ↓reduceIte, Nat.reduceAdd, Nat.reduceSub, Nat.reduceMul, Nat.reduceLT, Nat.reduceLeDiff, Nat.reduceEqDiff, Nat.reduceBEq, Int.reduceToNat]; (try simp (disch := omega) only [wrap_id]); (repeat refine ⟨by omega, ?_⟩); refine hJ _ _ (RunsL.nil ?_); clear hJ J) | (refine RunsA.dq mixed tabOk (by kernel_rfl) fun J hJ => ?_; simp only [go_sem, ↓reduceIte, Nat.reduceAdd, Nat.reduceSub, Nat.reduceMul, Nat.reduceLT, Nat.reduceLeDiff, Nat.reduceEqDiff, Nat.reduceBEq, Int.reduceToNat]; (try simp (disch := omega) only [wrap_id]); (repeat refine ⟨by omega, ?_⟩); refine hJ _ _ (QRuns.nil ?_); clear hJ J))
  refine RunsA.rq tabOk fun J hJ => ?_
  simp only [go_sem, ↓reduceIte, Nat.reduceAdd, Nat.reduceSub, Nat.reduceMul, Nat.reduceLT, Nat.reduceLeDiff, Nat.reduceEqDiff, Nat.reduceBEq, Int.reduceToNat]
  try simp (disch := omega) only [wrap_id]
  refine hJ _ _ (RunsL.call (ps := [12800]) (rid := 16) rfl rfl rfl rfl rfl (by simp only [go_sem, Nat.reduceEqDiff]; first | done | rfl) (markStringS_ok [] 1 _ names (1 + (ms.length : Int) + (SegV.cntL ks : Nat)) rfl (noBo_strs _) (by omega) (by omega)) rfl (by decide) ⟨by decide, by decide, rfl⟩ (by first | exact .inl rfl | exact .inr (.inl rfl) | exact .inr (.inr rfl)) ?_); clear hJ J
  rintro r os' ros ⟨rfl, rfl, rfl⟩ _
  refine RunsL.go tabOk fun J hJ => ?_
  simp only [go_sem, ↓reduceIte, Nat.reduceAdd, Nat.reduceSub, Nat.reduceMul, Nat.reduceLT, Nat.reduceLeDiff, Nat.reduceEqDiff, Nat.reduceBEq, Int.reduceToNat]
  try simp (disch := omega) only [wrap_id]
  refine hJ _ _ (RunsL.nil ?_); clear hJ J
  repeat (first | refine RunsA.sq ?_ | refine RunsA.bk ?_ | refine RunsA.sk ?_ | refine RunsA.ex ?_ | refine RunsA.rt ?_ | refine At.n ?_ | refine At.x ?_ | refine At.r ?_ | refine At.bn ?_ | refine At.br ?_ | refine At.bx ?_ | refine At.by_ rfl ?_ | refine At.kx ?_ | refine At.kr ?_ | refine At.kn ?_ | refine At.er ?_ | refine At.en ?_ | (refine RunsA.rq tabOk fun J hJ => ?_; simp only [go_sem, ↓reduceIte, Nat.reduceAdd, Nat.reduceSub, Nat.reduceMul, Nat.reduceLT, Nat.reduceLeDiff, Nat.reduceEqDiff, Nat.reduceBEq, Int.reduceToNat]; (try simp (disch := omega) only [wrap_id]); (repeat refine ⟨by omega, ?_⟩); refine hJ _ _ (RunsL.nil ?_); clear hJ J) | (refine RunsA.dq mixed tabOk (by kernel_rfl) fun J hJ => ?_; simp only [go_sem, ↓reduceIte, Nat.reduceAdd, Nat.reduceSub, Nat.reduceMul, Nat.reduceLT, Nat.reduceLeDiff, Nat.reduceEqDiff, Nat.reduceBEq, Int.reduceToNat]; (try simp (disch := omega) only [wrap_id]); (repeat refine ⟨by omega, ?_⟩); refine hJ _ _ (QRuns.nil ?_); clear hJ J))
  refine RunsA.rq tabOk fun J hJ => ?_
  simp only [go_sem, ↓reduceIte, Nat.reduceAdd, Nat.reduceSub, Nat.reduceMul, Nat.reduceLT, Nat.reduceLeDiff, Nat.reduceEqDiff, Nat.reduceBEq, Int.reduceToNat]
  try simp (disch := omega) only [wrap_id]
  refine hJ _ _ (RunsL.call (ps := [13312]) (rid := 16) rfl rfl rfl rfl rfl (by simp only [go_sem, Nat.reduceEqDiff]; first | done | rfl) (hMI (1 + (ms.length : Int) + (SegV.cntL ks : Nat) + (names.length : Nat)) (by omega) (by omega)) rfl (by decide) ⟨by decide, by decide, rfl⟩ (by first | exact .inl rfl | exact .inr (.inl rfl) | exact .inr (.inr rfl)) ?_); clear hJ J
  rintro r os' ros ⟨rfl, rfl, rfl⟩ _
  refine RunsL.go tabOk fun J hJ => ?_
  simp only [go_sem, ↓reduceIte, Nat.reduceAdd, Nat.reduceSub, Nat.reduceMul, Nat.reduceLT, Nat.reduceLeDiff, Nat.reduceEqDiff, Nat.reduceBEq, Int.reduceToNat]
  try simp (disch := omega) only [wrap_id]
  refine hJ _ _ (RunsL.nil ?_); clear hJ J
  repeat (first | refine RunsA.sq ?_ | refine RunsA.bk ?_ | refine RunsA.sk ?_ | refine RunsA.ex ?_ | refine RunsA.rt ?_ | refine At.n ?_ | refine At.x ?_ | refine At.r ?_ | refine At.bn ?_ | refine At.br ?_ | refine At.bx ?_ | refine At.by_ rfl ?_ | refine At.kx ?_ | refine At.kr ?_ | refine At.kn ?_ | refine At.er ?_ | refine At.en ?_ | (refine RunsA.rq tabOk fun J hJ => ?_; simp only [go_sem, ↓reduceIte, Nat.reduceAdd, Nat.reduceSub, Nat.reduceMul, Nat.reduceLT, Nat.reduceLeDiff, Nat.reduceEqDiff, Nat.reduceBEq, Int.reduceToNat]; (try simp (disch := omega) only [wrap_id]); (repeat refine ⟨by omega, ?_⟩); refine hJ _ _ (RunsL.nil ?_); clear hJ J) | (refine RunsA.dq mixed tabOk (by kernel_rfl) fun J hJ => ?_; simp only [go_sem, ↓reduceIte, Nat.reduceAdd, Nat.reduceSub, Nat.reduceMul, Nat.reduceLT, Nat.reduceLeDiff, Nat.reduceEqDiff, Nat.reduceBEq, Int.reduceToNat]; (try simp (disch := omega) only [wrap_id]); (repeat refine ⟨by omega, ?_⟩); refine hJ _ _ (QRuns.nil ?_); clear hJ J))
  have hneg : decide (1 + (ms.length : Int) + (SegV.cntL ks : Nat) + (names.length : Nat) + (words.length : Nat) < 0) = false := decide_eq_false (by omega)
  refine RunsA.rq tabOk fun J hJ => ?_
  simp only [go_sem, ↓reduceIte, Nat.reduceAdd, Nat.reduceSub, Nat.reduceMul, Nat.reduceLT, Nat.reduceLeDiff, Nat.reduceEqDiff, Nat.reduceBEq, Int.reduceToNat, hneg]
  try simp (disch := omega) only [wrap_id]
  refine hJ _ _ (RunsL.call (ps := []) (rid := 16) rfl rfl rfl rfl rfl (by simp only [go_sem, Nat.reduceEqDiff, brw_spans]; first | done | rfl) (hE) rfl (by decide) ⟨by decide, by decide, rfl⟩ (by first | exact .inl rfl | exact .inr (.inl rfl) | exact .inr (.inr rfl)) ?_); clear hJ J
  rintro r os' ros ⟨rfl, rfl, rfl⟩ _
  refine RunsL.go tabOk fun J hJ => ?_
  simp only [go_sem, ↓reduceIte, Nat.reduceAdd, Nat.reduceSub, Nat.reduceMul, Nat.reduceLT, Nat.reduceLeDiff, Nat.reduceEqDiff, Nat.reduceBEq, Int.reduceToNat, hneg, decide_true, Bool.not_true, bne_self_eq_false]
  try simp (disch := omega) only [wrap_id]
  refine hJ _ _ (RunsL.nil ?_); clear hJ J
  repeat (first | refine RunsA.sq ?_ | refine RunsA.bk ?_ | refine RunsA.sk ?_ | refine RunsA.ex ?_ | refine RunsA.rt ?_ | refine At.n ?_ | refine At.x ?_ | refine At.r ?_ | refine At.bn ?_ | refine At.br ?_ | refine At.bx ?_ | refine At.by_ rfl ?_ | refine At.kx ?_ | refine At.kr ?_ | refine At.kn ?_ | refine At.er ?_ | refine At.en ?_ | (refine RunsA.rq tabOk fun J hJ => ?_; simp only [go_sem, ↓reduceIte, Nat.reduceAdd, Nat.reduceSub, Nat.reduceMul, Nat.reduceLT, Nat.reduceLeDiff, Nat.reduceEqDiff, Nat.reduceBEq, Int.reduceToNat]; (try simp (disch := omega) only [wrap_id]); (repeat refine ⟨by omega, ?_⟩); refine hJ _ _ (RunsL.nil ?_); clear hJ J) | (refine RunsA.dq mixed tabOk (by kernel_rfl) fun J hJ => ?_; simp only [go_sem, ↓reduceIte, Nat.reduceAdd, Nat.reduceSub, Nat.reduceMul, Nat.reduceLT, Nat.reduceLeDiff, Nat.reduceEqDiff, Nat.reduceBEq, Int.reduceToNat]; (try simp (disch := omega) only [wrap_id]); (repeat refine ⟨by omega, ?_⟩); refine hJ _ _ (QRuns.nil ?_); clear hJ J))
  refine RunsA.cond rfl (fun h => absurd h (by decide)) (fun h => ?_)
  repeat (first | refine RunsA.sq ?_ | refine RunsA.bk ?_ | refine RunsA.sk ?_ | refine RunsA.ex ?_ | refine RunsA.rt ?_ | refine At.n ?_ | refine At.x ?_ | refine At.r ?_ | refine At.bn ?_ | refine At.br ?_ | refine At.bx ?_ | refine At.by_ rfl ?_ | refine At.kx ?_ | refine At.kr ?_ | refine At.kn ?_ | refine At.er ?_ | refine At.en ?_ | (refine RunsA.rq tabOk fun J hJ => ?_; simp only [go_sem, ↓reduceIte, Nat.reduceAdd, Nat.reduceSub, Nat.reduceMul, Nat.reduceLT, Nat.reduceLeDiff, Nat.reduceEqDiff, Nat.reduceBEq, Int.reduceToNat]; (try simp (disch := omega) only [wrap_id]); (repeat refine ⟨by omega, ?_⟩); refine hJ _ _ (RunsL.nil ?_); clear hJ J) | (refine RunsA.dq mixed tabOk (by kernel_rfl) fun J hJ => ?_; simp only [go_sem, ↓reduceIte, Nat.reduceAdd, Nat.reduceSub, Nat.reduceMul, Nat.reduceLT, Nat.reduceLeDiff, Nat.reduceEqDiff, Nat.reduceBEq, Int.reduceToNat]; (try simp (disch := omega) only [wrap_id]); (repeat refine ⟨by omega, ?_⟩); refine hJ _ _ (QRuns.nil ?_); clear hJ J))
  refine RunsA.rq tabOk fun J hJ => ?_
  simp only [go_sem, ↓reduceIte, Nat.reduceAdd, Nat.reduceSub, Nat.reduceMul, Nat.reduceLT, Nat.reduceLeDiff, Nat.reduceEqDiff, Nat.reduceBEq, Int.reduceToNat]
  try simp (disch := omega) only [wrap_id]
  refine hJ _ _ (RunsL.call (ps := [14848]) (rid := 16) rfl rfl rfl rfl rfl (by simp only [go_sem, Nat.reduceEqDiff]; first | done | rfl) (hMP) rfl (by decide) ⟨by decide, by decide, rfl⟩ (by first | exact .inl rfl | exact .inr (.inl rfl) | exact .inr (.inr rfl)) ?_); clear hJ J
  rintro r os' ros ⟨rfl, rfl, rfl⟩ _
  refine RunsL.go tabOk fun J hJ => ?_
  simp only [go_sem, ↓reduceIte, Nat.reduceAdd, Nat.reduceSub, Nat.reduceMul, Nat.reduceLT, Nat.reduceLeDiff, Nat.reduceEqDiff, Nat.reduceBEq, Int.reduceToNat]
  try simp (disch := omega) only [wrap_id]
  refine hJ _ _ (RunsL.nil ?_); clear hJ J
  repeat (first | refine RunsA.sq ?_ | refine RunsA.bk ?_ | refine RunsA.sk ?_ | refine RunsA.ex ?_ | refine RunsA.rt ?_ | refine At.n ?_ | refine At.x ?_ | refine At.r ?_ | refine At.bn ?_ | refine At.br ?_ | refine At.bx ?_ | refine At.by_ rfl ?_ | refine At.kx ?_ | refine At.kr ?_ | refine At.kn ?_ | refine At.er ?_ | refine At.en ?_ | (refine RunsA.rq tabOk fun J hJ => ?_; simp only [go_sem, ↓reduceIte, Nat.reduceAdd, Nat.reduceSub, Nat.reduceMul, Nat.reduceLT, Nat.reduceLeDiff, Nat.reduceEqDiff, Nat.reduceBEq, Int.reduceToNat]; (try simp (disch := omega) only [wrap_id]); (repeat refine ⟨by omega, ?_⟩); refine hJ _ _ (RunsL.nil ?_); clear hJ J) | (refine RunsA.dq mixed tabOk (by kernel_rfl) fun J hJ => ?_; simp only [go_sem, ↓reduceIte, Nat.reduceAdd, Nat.reduceSub, Nat.reduceMul, Nat.reduceLT, Nat.reduceLeDiff, Nat.reduceEqDiff, Nat.reduceBEq, Int.reduceToNat]; (try simp (disch := omega) only [wrap_id]); (repeat refine ⟨by omega, ?_⟩); refine hJ _ _ (QRuns.nil ?_); clear hJ J))
  refine RunsA.rq tabOk fun J hJ => ?_
  simp only [go_sem, ↓reduceIte, Nat.reduceAdd, Nat.reduceSub, Nat.reduceMul, Nat.reduceLT, Nat.reduceLeDiff, Nat.reduceEqDiff, Nat.reduceBEq, Int.reduceToNat]
  try simp (disch := omega) only [wrap_id]
  refine hJ _ _ (RunsL.call (ps := []) (rid := 16) rfl rfl rfl rfl rfl (by simp only [go_sem, Nat.reduceEqDiff, brw_spans]; first | done | rfl) (hHP) rfl (by decide) ⟨by decide, by decide, rfl⟩ (by first | exact .inl rfl | exact .inr (.inl rfl) | exact .inr (.inr rfl)) ?_); clear hJ J
  rintro r os' ros ⟨rfl, rfl, rfl⟩ _
  refine RunsL.go tabOk fun J hJ => ?_
  simp only [go_sem, ↓reduceIte, Nat.reduceAdd, Nat.reduceSub, Nat.reduceMul, Nat.reduceLT, Nat.reduceLeDiff, Nat.reduceEqDiff, Nat.reduceBEq, Int.reduceToNat]
  try simp (disch := omega) only [wrap_id]
  refine hJ _ _ (RunsL.nil ?_); clear hJ J
  repeat (first | refine RunsA.sq ?_ | refine RunsA.bk ?_ | refine RunsA.sk ?_ | refine RunsA.ex ?_ | refine RunsA.rt ?_ | refine At.n ?_ | refine At.x ?_ | refine At.r ?_ | refine At.bn ?_ | refine At.br ?_ | refine At.bx ?_ | refine At.by_ rfl ?_ | refine At.kx ?_ | refine At.kr ?_ | refine At.kn ?_ | refine At.er ?_ | refine At.en ?_ | (refine RunsA.rq tabOk fun J hJ => ?_; simp only [go_sem, ↓reduceIte, Nat.reduceAdd, Nat.reduceSub, Nat.reduceMul, Nat.reduceLT, Nat.reduceLeDiff, Nat.reduceEqDiff, Nat.reduceBEq, Int.reduceToNat]; (try simp (disch := omega) only [wrap_id]); (repeat refine ⟨by omega, ?_⟩); refine hJ _ _ (RunsL.nil ?_); clear hJ J) | (refine RunsA.dq mixed tabOk (by kernel_rfl) fun J hJ => ?_; simp only [go_sem, ↓reduceIte, Nat.reduceAdd, Nat.reduceSub, Nat.reduceMul, Nat.reduceLT, Nat.reduceLeDiff, Nat.reduceEqDiff, Nat.reduceBEq, Int.reduceToNat]; (try simp (disch := omega) only [wrap_id]); (repeat refine ⟨by omega, ?_⟩); refine hJ _ _ (QRuns.nil ?_); clear hJ J))
  refine RunsA.cond rfl (fun h => ?_) (fun h => ?_)
  · exfalso; simp only [decide_eq_true_eq] at h; omega
  repeat (first | refine RunsA.sq ?_ | refine RunsA.bk ?_ | refine RunsA.sk ?_ | refine RunsA.ex ?_ | refine RunsA.rt ?_ | refine At.n ?_ | refine At.x ?_ | refine At.r ?_ | refine At.bn ?_ | refine At.br ?_ | refine At.bx ?_ | refine At.by_ rfl ?_ | refine At.kx ?_ | refine At.kr ?_ | refine At.kn ?_ | refine At.er ?_ | refine At.en ?_ | (refine RunsA.rq tabOk fun J hJ => ?_; simp only [go_sem, ↓reduceIte, Nat.reduceAdd, Nat.reduceSub, Nat.reduceMul, Nat.reduceLT, Nat.reduceLeDiff, Nat.reduceEqDiff, Nat.reduceBEq, Int.reduceToNat]; (try simp (disch := omega) only [wrap_id]); (repeat refine ⟨by omega, ?_⟩); refine hJ _ _ (RunsL.nil ?_); clear hJ J) | (refine RunsA.dq mixed tabOk (by kernel_rfl) fun J hJ => ?_; simp only [go_sem, ↓reduceIte, Nat.reduceAdd, Nat.reduceSub, Nat.reduceMul, Nat.reduceLT, Nat.reduceLeDiff, Nat.reduceEqDiff, Nat.reduceBEq, Int.reduceToNat]; (try simp (disch := omega) only [wrap_id]); (repeat refine ⟨by omega, ?_⟩); refine hJ _ _ (QRuns.nil ?_); clear hJ J))
  refine RunsA.cond rfl (fun h => ?_) (fun h => ?_)
  · simp at h
  repeat (first | refine RunsA.sq ?_ | refine RunsA.bk ?_ | refine RunsA.sk ?_ | refine RunsA.ex ?_ | refine RunsA.rt ?_ | refine At.n ?_ | refine At.x ?_ | refine At.r ?_ | refine At.bn ?_ | refine At.br ?_ | refine At.bx ?_ | refine At.by_ rfl ?_ | refine At.kx ?_ | refine At.kr ?_ | refine At.kn ?_ | refine At.er ?_ | refine At.en ?_ | (refine RunsA.rq tabOk fun J hJ => ?_; simp only [go_sem, ↓reduceIte, Nat.reduceAdd, Nat.reduceSub, Nat.reduceMul, Nat.reduceLT, Nat.reduceLeDiff, Nat.reduceEqDiff, Nat.reduceBEq, Int.reduceToNat]; (try simp (disch := omega) only [wrap_id]); (repeat refine ⟨by omega, ?_⟩); refine hJ _ _ (RunsL.nil ?_); clear hJ J) | (refine RunsA.dq mixed tabOk (by kernel_rfl) fun J hJ => ?_; simp only [go_sem, ↓reduceIte, Nat.reduceAdd, Nat.reduceSub, Nat.reduceMul, Nat.reduceLT, Nat.reduceLeDiff, Nat.reduceEqDiff, Nat.reduceBEq, Int.reduceToNat]; (try simp (disch := omega) only [wrap_id]); (repeat refine ⟨by omega, ?_⟩); refine hJ _ _ (QRuns.nil ?_); clear hJ J))
  refine RunsA.rq tabOk fun J hJ => ?_
  simp only [go_sem, ↓reduceIte, Nat.reduceAdd, Nat.reduceSub, Nat.reduceMul, Nat.reduceLT, Nat.reduceLeDiff, Nat.reduceEqDiff, Nat.reduceBEq, Int.reduceToNat]
  try simp (disch := omega) only [wrap_id]
  refine hJ _ _ (RunsL.call (ps := []) (rid := 30720) rfl rfl rfl rfl rfl (by simp only [go_sem, Nat.reduceEqDiff]; first | done | rfl) (hts2) rfl (by decide) ⟨by decide, by decide, rfl⟩ (by first | exact .inl rfl | exact .inr (.inl rfl) | exact .inr (.inr rfl)) ?_); clear hJ J
  rintro r os' ros ⟨rfl, rfl, rfl⟩ _
  refine RunsL.go tabOk fun J hJ => ?_
  simp only [go_sem, ↓reduceIte, Nat.reduceAdd, Nat.reduceSub, Nat.reduceMul, Nat.reduceLT, Nat.reduceLeDiff, Nat.reduceEqDiff, Nat.reduceBEq, Int.reduceToNat]
  try simp (disch := omega) only [wrap_id]
  refine hJ _ _ (RunsL.call (ps := []) (rid := 31232) rfl rfl rfl rfl rfl (by simp only [go_sem, Nat.reduceEqDiff]; first | done | rfl) (toStringS_ok names (by omega)) rfl (by decide) ⟨by decide, by decide, rfl⟩ (by first | exact .inl rfl | exact .inr (.inl rfl) | exact .inr (.inr rfl)) ?_); clear hJ J
  rintro r os' ros ⟨rfl, rfl, rfl⟩ _
  refine RunsL.go tabOk fun J hJ => ?_
  simp only [go_sem, ↓reduceIte, Nat.reduceAdd, Nat.reduceSub, Nat.reduceMul, Nat.reduceLT, Nat.reduceLeDiff, Nat.reduceEqDiff, Nat.reduceBEq, Int.reduceToNat]
  try simp (disch := omega) only [wrap_id]
  refine hJ _ _ (RunsL.call (ps := []) (rid := 31744) rfl rfl rfl rfl rfl (by simp only [go_sem, Nat.reduceEqDiff]; first | done | rfl) (toIntS_ok words (by omega)) rfl (by decide) ⟨by decide, by decide, rfl⟩ (by first | exact .inl rfl | exact .inr (.inl rfl) | exact .inr (.inr rfl)) ?_); clear hJ J
  rintro r os' ros ⟨rfl, rfl, rfl⟩ _
  refine RunsL.go tabOk fun J hJ => ?_
  simp only [go_sem, ↓reduceIte, Nat.reduceAdd, Nat.reduceSub, Nat.reduceMul, Nat.reduceLT, Nat.reduceLeDiff, Nat.reduceEqDiff, Nat.reduceBEq, Int.reduceToNat]
  try simp (disch := omega) only [wrap_id]
  refine hJ _ _ (RunsL.call (ps := []) (rid := 32256) rfl rfl rfl rfl rfl (by simp only [go_sem, Nat.reduceEqDiff, brw_strs, brw_segs, brw_nums]; first | done | rfl) (hIm) rfl (by decide) ⟨by decide, by decide, rfl⟩ (by first | exact .inl rfl | exact .inr (.inl rfl) | exact .inr (.inr rfl)) ?_); clear hJ J
  rintro r os' ros ⟨rfl, rfl, rfl⟩ _
  refine RunsL.go tabOk fun J hJ => ?_
  simp only [go_sem, ↓reduceIte, Nat.reduceAdd, Nat.reduceSub, Nat.reduceMul, Nat.reduceLT, Nat.reduceLeDiff, Nat.reduceEqDiff, Nat.reduceBEq, Int.reduceToNat]
  try simp (disch := omega) only [wrap_id]
  refine hJ _ _ (RunsL.nil ?_); clear hJ J
  repeat (first | refine RunsA.sq ?_ | refine RunsA.bk ?_ | refine RunsA.sk ?_ | refine RunsA.ex ?_ | refine RunsA.rt ?_ | refine At.n ?_ | refine At.x ?_ | refine At.r ?_ | refine At.bn ?_ | refine At.br ?_ | refine At.bx ?_ | refine At.by_ rfl ?_ | refine At.kx ?_ | refine At.kr ?_ | refine At.kn ?_ | refine At.er ?_ | refine At.en ?_ | (refine RunsA.rq tabOk fun J hJ => ?_; simp only [go_sem, ↓reduceIte, Nat.reduceAdd, Nat.reduceSub, Nat.reduceMul, Nat.reduceLT, Nat.reduceLeDiff, Nat.reduceEqDiff, Nat.reduceBEq, Int.reduceToNat]; (try simp (disch := omega) only [wrap_id]); (repeat refine ⟨by omega, ?_⟩); refine hJ _ _ (RunsL.nil ?_); clear hJ J) | (refine RunsA.dq mixed tabOk (by kernel_rfl) fun J hJ => ?_; simp only [go_sem, ↓reduceIte, Nat.reduceAdd, Nat.reduceSub, Nat.reduceMul, Nat.reduceLT, Nat.reduceLeDiff, Nat.reduceEqDiff, Nat.reduceBEq, Int.reduceToNat]; (try simp (disch := omega) only [wrap_id]); (repeat refine ⟨by omega, ?_⟩); refine hJ _ _ (QRuns.nil ?_); clear hJ J))
  refine RunsA.rq tabOk fun J hJ => ?_
  simp only [go_sem, ↓reduceIte, Nat.reduceAdd, Nat.reduceSub, Nat.reduceMul, Nat.reduceLT, Nat.reduceLeDiff, Nat.reduceEqDiff, Nat.reduceBEq, Int.reduceToNat]
  try simp (disch := omega) only [wrap_id]
  refine hJ _ _ (RunsL.call (ps := []) (rid := 16) rfl rfl rfl rfl rfl (by simp only [go_sem, Nat.reduceEqDiff, brw_spans]; first | done | rfl) (hE) rfl (by decide) ⟨by decide, by decide, rfl⟩ (by first | exact .inl rfl | exact .inr (.inl rfl) | exact .inr (.inr rfl)) ?_); clear hJ J
  rintro r os' ros ⟨rfl, rfl, rfl⟩ _
  refine RunsL.go tabOk fun J hJ => ?_
  simp only [go_sem, ↓reduceIte, Nat.reduceAdd, Nat.reduceSub, Nat.reduceMul, Nat.reduceLT, Nat.reduceLeDiff, Nat.reduceEqDiff, Nat.reduceBEq, Int.reduceToNat, decide_true, Bool.not_true, bne_self_eq_false]
  try simp (disch := omega) only [wrap_id]
  refine hJ _ _ (RunsL.nil ?_); clear hJ J
  repeat (first | refine RunsA.sq ?_ | refine RunsA.bk ?_ | refine RunsA.sk ?_ | refine RunsA.ex ?_ | refine RunsA.rt ?_ | refine At.n ?_ | refine At.x ?_ | refine At.r ?_ | refine At.bn ?_ | refine At.br ?_ | refine At.bx ?_ | refine At.by_ rfl ?_ | refine At.kx ?_ | refine At.kr ?_ | refine At.kn ?_ | refine At.er ?_ | refine At.en ?_ | (refine RunsA.rq tabOk fun J hJ => ?_; simp only [go_sem, ↓reduceIte, Nat.reduceAdd, Nat.reduceSub, Nat.reduceMul, Nat.reduceLT, Nat.reduceLeDiff, Nat.reduceEqDiff, Nat.reduceBEq, Int.reduceToNat]; (try simp (disch := omega) only [wrap_id]); (repeat refine ⟨by omega, ?_⟩); refine hJ _ _ (RunsL.nil ?_); clear hJ J) | (refine RunsA.dq mixed tabOk (by kernel_rfl) fun J hJ => ?_; simp only [go_sem, ↓reduceIte, Nat.reduceAdd, Nat.reduceSub, Nat.reduceMul, Nat.reduceLT, Nat.reduceLeDiff, Nat.reduceEqDiff, Nat.reduceBEq, Int.reduceToNat]; (try simp (disch := omega) only [wrap_id]); (repeat refine ⟨by omega, ?_⟩); refine hJ _ _ (QRuns.nil ?_); clear hJ J))
  refine RunsA.cond rfl (fun h => absurd h (by decide)) (fun h => ?_)
  repeat (first | refine RunsA.sq ?_ | refine RunsA.bk ?_ | refine RunsA.sk ?_ | refine RunsA.ex ?_ | refine RunsA.rt ?_ | refine At.n ?_ | refine At.x ?_ | refine At.r ?_ | refine At.bn ?_ | refine At.br ?_ | refine At.bx ?_ | refine At.by_ rfl ?_ | refine At.kx ?_ | refine At.kr ?_ | refine At.kn ?_ | refine At.er ?_ | refine At.en ?_ | (refine RunsA.rq tabOk fun J hJ => ?_; simp only [go_sem, ↓reduceIte, Nat.reduceAdd, Nat.reduceSub, Nat.reduceMul, Nat.reduceLT, Nat.reduceLeDiff, Nat.reduceEqDiff, Nat.reduceBEq, Int.reduceToNat]; (try simp (disch := omega) only [wrap_id]); (repeat refine ⟨by omega, ?_⟩); refine hJ _ _ (RunsL.nil ?_); clear hJ J) | (refine RunsA.dq mixed tabOk (by kernel_rfl) fun J hJ => ?_; simp only [go_sem, ↓reduceIte, Nat.reduceAdd, Nat.reduceSub, Nat.reduceMul, Nat.reduceLT, Nat.reduceLeDiff, Nat.reduceEqDiff, Nat.reduceBEq, Int.reduceToNat]; (try simp (disch := omega) only [wrap_id]); (repeat refine ⟨by omega, ?_⟩); refine hJ _ _ (QRuns.nil ?_); clear hJ J))
  refine RunsA.rq tabOk fun J hJ => ?_
  simp only [go_sem, ↓reduceIte, Nat.reduceAdd, Nat.reduceSub, Nat.reduceMul, Nat.reduceLT, Nat.reduceLeDiff, Nat.reduceEqDiff, Nat.reduceBEq, Int.reduceToNat]
  try simp (disch := omega) only [wrap_id]
  refine hJ _ _ (RunsL.call (ps := []) (rid := 16) rfl rfl rfl rfl rfl (by simp only [go_sem, Nat.reduceEqDiff, brw_spans]; first | done | rfl) (hHP) rfl (by decide) ⟨by decide, by decide, rfl⟩ (by first | exact .inl rfl | exact .inr (.inl rfl) | exact .inr (.inr rfl)) ?_); clear hJ J
  rintro r os' ros ⟨rfl, rfl, rfl⟩ _
  refine RunsL.go tabOk fun J hJ => ?_
  simp only [go_sem, ↓reduceIte, Nat.reduceAdd, Nat.reduceSub, Nat.reduceMul, Nat.reduceLT, Nat.reduceLeDiff, Nat.reduceEqDiff, Nat.reduceBEq, Int.reduceToNat]
  try simp (disch := omega) only [wrap_id]
  refine hJ _ _ (RunsL.nil ?_); clear hJ J
  repeat (first | refine RunsA.sq ?_ | refine RunsA.bk ?_ | refine RunsA.sk ?_ | refine RunsA.ex ?_ | refine RunsA.rt ?_ | refine At.n ?_ | refine At.x ?_ | refine At.r ?_ | refine At.bn ?_ | refine At.br ?_ | refine At.bx ?_ | refine At.by_ rfl ?_ | refine At.kx ?_ | refine At.kr ?_ | refine At.kn ?_ | refine At.er ?_ | refine At.en ?_ | (refine RunsA.rq tabOk fun J hJ => ?_; simp only [go_sem, ↓reduceIte, Nat.reduceAdd, Nat.reduceSub, Nat.reduceMul, Nat.reduceLT, Nat.reduceLeDiff, Nat.reduceEqDiff, Nat.reduceBEq, Int.reduceToNat]; (try simp (disch := omega) only [wrap_id]); (repeat refine ⟨by omega, ?_⟩); refine hJ _ _ (RunsL.nil ?_); clear hJ J) | (refine RunsA.dq mixed tabOk (by kernel_rfl) fun J hJ => ?_; simp only [go_sem, ↓reduceIte, Nat.reduceAdd, Nat.reduceSub, Nat.reduceMul, Nat.reduceLT, Nat.reduceLeDiff, Nat.reduceEqDiff, Nat.reduceBEq, Int.reduceToNat]; (try simp (disch := omega) only [wrap_id]); (repeat refine ⟨by omega, ?_⟩); refine hJ _ _ (QRuns.nil ?_); clear hJ J))
  refine RunsA.cond rfl (fun h => ?_) (fun h => ?_)
  · exfalso; simp only [decide_eq_true_eq] at h; omega
  repeat (first | refine RunsA.sq ?_ | refine RunsA.bk ?_ | refine RunsA.sk ?_ | refine RunsA.ex ?_ | refine RunsA.rt ?_ | refine At.n ?_ | refine At.x ?_ | refine At.r ?_ | refine At.bn ?_ | refine At.br ?_ | refine At.bx ?_ | refine At.by_ rfl ?_ | refine At.kx ?_ | refine At.kr ?_ | refine At.kn ?_ | refine At.er ?_ | refine At.en ?_ | (refine RunsA.rq tabOk fun J hJ => ?_; simp only [go_sem, ↓reduceIte, Nat.reduceAdd, Nat.reduceSub, Nat.reduceMul, Nat.reduceLT, Nat.reduceLeDiff, Nat.reduceEqDiff, Nat.reduceBEq, Int.reduceToNat]; (try simp (disch := omega) only [wrap_id]); (repeat refine ⟨by omega, ?_⟩); refine hJ _ _ (RunsL.nil ?_); clear hJ J) | (refine RunsA.dq mixed tabOk (by kernel_rfl) fun J hJ => ?_; simp only [go_sem, ↓reduceIte, Nat.reduceAdd, Nat.reduceSub, Nat.reduceMul, Nat.reduceLT, Nat.reduceLeDiff, Nat.reduceEqDiff, Nat.reduceBEq, Int.reduceToNat]; (try simp (disch := omega) only [wrap_id]); (repeat refine ⟨by omega, ?_⟩); refine hJ _ _ (QRuns.nil ?_); clear hJ J))
  refine RunsA.cond rfl (fun h => ?_) (fun h => ?_)
  · simp at h
  repeat (first | refine RunsA.sq ?_ | refine RunsA.bk ?_ | refine RunsA.sk ?_ | refine RunsA.ex ?_ | refine RunsA.rt ?_ | refine At.n ?_ | refine At.x ?_ | refine At.r ?_ | refine At.bn ?_ | refine At.br ?_ | refine At.bx ?_ | refine At.by_ rfl ?_ | refine At.kx ?_ | refine At.kr ?_ | refine At.kn ?_ | refine At.er ?_ | refine At.en ?_ | (refine RunsA.rq tabOk fun J hJ => ?_; simp only [go_sem, ↓reduceIte, Nat.reduceAdd, Nat.reduceSub, Nat.reduceMul, Nat.reduceLT, Nat.reduceLeDiff, Nat.reduceEqDiff, Nat.reduceBEq, Int.reduceToNat]; (try simp (disch := omega) only [wrap_id]); (repeat refine ⟨by omega, ?_⟩); refine hJ _ _ (RunsL.nil ?_); clear hJ J) | (refine RunsA.dq mixed tabOk (by kernel_rfl) fun J hJ => ?_; simp only [go_sem, ↓reduceIte, Nat.reduceAdd, Nat.reduceSub, Nat.reduceMul, Nat.reduceLT, Nat.reduceLeDiff, Nat.reduceEqDiff, Nat.reduceBEq, Int.reduceToNat]; (try simp (disch := omega) only [wrap_id]); (repeat refine ⟨by omega, ?_⟩); refine hJ _ _ (QRuns.nil ?_); clear hJ J))
  exact RetA.mk tabOk 0 rfl rfl rfl (by omega) rfl rfl rfl ⟨rfl, rfl, rfl⟩

end Go.Proofs.YtedmpcmfcnfclaaFw
