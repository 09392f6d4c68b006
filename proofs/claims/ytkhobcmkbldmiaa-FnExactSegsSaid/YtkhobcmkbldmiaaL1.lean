/- The law FnExactSegs, walked. -/
import Derived.Test.YtkhobcmkbldmiaaA5
namespace Go.Proofs.YtkhobcmkbldmiaaFw
open Go Go.RowKit
set_option linter.unusedVariables false
set_option linter.unusedSimpArgs false
set_option maxRecDepth 4000
set_option pp.deepTerms.threshold 6
set_option pp.deepTerms false

theorem lawSegs_ok (s : SegV) (hf : s.fit) : FnA Try.prog 3 false [segA .bo s] [] (fun r os ros => r = .bool true ∧ os = [] ∧ ros = []) := by
  have hsz := szSeg_ok s hf
  have hts := toSeg_ok s
  have hes := eqSeg_ok s
  have hi := implSegs_ok s
  have hsp := specSegs_ok s
  have hnl := SegV.names_len s
  obtain ⟨n, ms, ks⟩ := s
  rw [segA_mk] at *
  refine FnA.of Try.func3 rfl (by decide) Try.ntmps3 (by simp) ?_
  repeat (first | refine RunsA.sq ?_ | refine RunsA.bk ?_ | refine RunsA.sk ?_ | refine RunsA.ex ?_ | refine RunsA.rt ?_ | refine At.n ?_ | refine At.x ?_ | refine At.r ?_ | refine At.bn ?_ | refine At.br ?_ | refine At.bx ?_ | refine At.by_ rfl ?_ | refine At.kx ?_ | refine At.kr ?_ | refine At.kn ?_ | refine At.er ?_ | refine At.en ?_ | (refine RunsA.rq tabOk fun J hJ => ?_; simp only [go_sem, Nat.reduceAdd, Nat.reduceSub, Nat.reduceMul, Nat.reduceLT, Nat.reduceLeDiff, Nat.reduceEqDiff, Nat.reduceBEq, Int.reduceToNat]; (try simp (disch := omega) only [wrap_id]); (repeat refine ⟨by omega, ?_⟩); refine hJ _ _ (RunsL.nil ?_); clear hJ J) | (refine RunsA.dq mixed tabOk (by kernel_rfl) fun J hJ => ?_; simp only [go_sem, Nat.reduceAdd, Nat.reduceSub, Nat.reduceMul, Nat.reduceLT, Nat.reduceLeDiff, Nat.reduceEqDiff, Nat.reduceBEq, Int.reduceToNat]; (try simp (disch := omega) only [wrap_id]); (repeat refine ⟨by omega, ?_⟩); refine hJ _ _ (QRuns.nil ?_); clear hJ J))
  refine RunsA.rq tabOk fun J hJ => ?_
  simp only [go_sem, Nat.reduceAdd, Nat.reduceSub, Nat.reduceMul, Nat.reduceLT, Nat.reduceLeDiff, Nat.reduceEqDiff, Nat.reduceBEq, Int.reduceToNat]
  try simp (disch := omega) only [wrap_id]
  refine hJ _ _ (RunsL.call (ps := []) (rid := 3584) rfl rfl rfl rfl rfl (by simp only [go_sem, Nat.reduceEqDiff]) (hsz 1048576 (by omega) (by omega)) rfl (by decide) ⟨by decide, by decide, rfl⟩ (by first | exact .inl rfl | exact .inr (.inl rfl) | exact .inr (.inr rfl)) ?_); clear hJ J
  rintro r os' ros ⟨rfl, rfl, rfl⟩ _
  refine RunsL.go tabOk fun J hJ => ?_
  simp only [go_sem, Nat.reduceAdd, Nat.reduceSub, Nat.reduceMul, Nat.reduceLT, Nat.reduceLeDiff, Nat.reduceEqDiff, Nat.reduceBEq, Int.reduceToNat]
  try simp (disch := omega) only [wrap_id]
  (repeat refine ⟨by omega, ?_⟩)
  refine hJ _ _ (RunsL.nil ?_); clear hJ J
  repeat (first | refine RunsA.sq ?_ | refine RunsA.bk ?_ | refine RunsA.sk ?_ | refine RunsA.ex ?_ | refine RunsA.rt ?_ | refine At.n ?_ | refine At.x ?_ | refine At.r ?_ | refine At.bn ?_ | refine At.br ?_ | refine At.bx ?_ | refine At.by_ rfl ?_ | refine At.kx ?_ | refine At.kr ?_ | refine At.kn ?_ | refine At.er ?_ | refine At.en ?_ | (refine RunsA.rq tabOk fun J hJ => ?_; simp only [go_sem, Nat.reduceAdd, Nat.reduceSub, Nat.reduceMul, Nat.reduceLT, Nat.reduceLeDiff, Nat.reduceEqDiff, Nat.reduceBEq, Int.reduceToNat]; (try simp (disch := omega) only [wrap_id]); (repeat refine ⟨by omega, ?_⟩); refine hJ _ _ (RunsL.nil ?_); clear hJ J) | (refine RunsA.dq mixed tabOk (by kernel_rfl) fun J hJ => ?_; simp only [go_sem, Nat.reduceAdd, Nat.reduceSub, Nat.reduceMul, Nat.reduceLT, Nat.reduceLeDiff, Nat.reduceEqDiff, Nat.reduceBEq, Int.reduceToNat]; (try simp (disch := omega) only [wrap_id]); (repeat refine ⟨by omega, ?_⟩); refine hJ _ _ (QRuns.nil ?_); clear hJ J))
  refine RunsA.cond rfl (fun h => ?_) (fun h => ?_)
  · repeat (first | refine RunsA.sq ?_ | refine RunsA.bk ?_ | refine RunsA.sk ?_ | refine RunsA.ex ?_ | refine RunsA.rt ?_ | refine At.n ?_ | refine At.x ?_ | refine At.r ?_ | refine At.bn ?_ | refine At.br ?_ | refine At.bx ?_ | refine At.by_ rfl ?_ | refine At.kx ?_ | refine At.kr ?_ | refine At.kn ?_ | refine At.er ?_ | refine At.en ?_ | (refine RunsA.rq tabOk fun J hJ => ?_; simp only [go_sem, Nat.reduceAdd, Nat.reduceSub, Nat.reduceMul, Nat.reduceLT, Nat.reduceLeDiff, Nat.reduceEqDiff, Nat.reduceBEq, Int.reduceToNat]; (try simp (disch := omega) only [wrap_id]); (repeat refine ⟨by omega, ?_⟩); refine hJ _ _ (RunsL.nil ?_); clear hJ J) | (refine RunsA.dq mixed tabOk (by kernel_rfl) fun J hJ => ?_; simp only [go_sem, Nat.reduceAdd, Nat.reduceSub, Nat.reduceMul, Nat.reduceLT, Nat.reduceLeDiff, Nat.reduceEqDiff, Nat.reduceBEq, Int.reduceToNat]; (try simp (disch := omega) only [wrap_id]); (repeat refine ⟨by omega, ?_⟩); refine hJ _ _ (QRuns.nil ?_); clear hJ J))
    exact RetA.mk tabOk 0 rfl rfl rfl (by omega) rfl rfl rfl ⟨rfl, rfl, rfl⟩
  · have ht : (SegV.mk n ms ks).tot ≤ 1048576 := by
      rcases Nat.lt_or_ge 1048576 (SegV.mk n ms ks).tot with h1 | h1
      · rw [szR_gt (by omega)] at h; simp at h
      · exact h1
    clear h
    have hts2 := hts ht n ms ks rfl
    have hes2 := hes ht (.mk n ms ks)
    rw [segA_mk] at hts2 hes2
    repeat (first | refine RunsA.sq ?_ | refine RunsA.bk ?_ | refine RunsA.sk ?_ | refine RunsA.ex ?_ | refine RunsA.rt ?_ | refine At.n ?_ | refine At.x ?_ | refine At.r ?_ | refine At.bn ?_ | refine At.br ?_ | refine At.bx ?_ | refine At.by_ rfl ?_ | refine At.kx ?_ | refine At.kr ?_ | refine At.kn ?_ | refine At.er ?_ | refine At.en ?_ | (refine RunsA.rq tabOk fun J hJ => ?_; simp only [go_sem, Nat.reduceAdd, Nat.reduceSub, Nat.reduceMul, Nat.reduceLT, Nat.reduceLeDiff, Nat.reduceEqDiff, Nat.reduceBEq, Int.reduceToNat]; (try simp (disch := omega) only [wrap_id]); (repeat refine ⟨by omega, ?_⟩); refine hJ _ _ (RunsL.nil ?_); clear hJ J) | (refine RunsA.dq mixed tabOk (by kernel_rfl) fun J hJ => ?_; simp only [go_sem, Nat.reduceAdd, Nat.reduceSub, Nat.reduceMul, Nat.reduceLT, Nat.reduceLeDiff, Nat.reduceEqDiff, Nat.reduceBEq, Int.reduceToNat]; (try simp (disch := omega) only [wrap_id]); (repeat refine ⟨by omega, ?_⟩); refine hJ _ _ (QRuns.nil ?_); clear hJ J))
    refine RunsA.rq tabOk fun J hJ => ?_
    simp only [go_sem, Nat.reduceAdd, Nat.reduceSub, Nat.reduceMul, Nat.reduceLT, Nat.reduceLeDiff, Nat.reduceEqDiff, Nat.reduceBEq, Int.reduceToNat]
    try simp (disch := omega) only [wrap_id]
    refine hJ _ _ (RunsL.call (ps := []) (rid := 4608) rfl rfl rfl rfl rfl (by simp only [go_sem, Nat.reduceEqDiff]) (hts2) rfl (by decide) ⟨by decide, by decide, rfl⟩ (by first | exact .inl rfl | exact .inr (.inl rfl) | exact .inr (.inr rfl)) ?_); clear hJ J
    rintro r os' ros ⟨rfl, rfl, rfl⟩ _
    refine RunsL.go tabOk fun J hJ => ?_
    simp only [go_sem, Nat.reduceAdd, Nat.reduceSub, Nat.reduceMul, Nat.reduceLT, Nat.reduceLeDiff, Nat.reduceEqDiff, Nat.reduceBEq, Int.reduceToNat]
    try simp (disch := omega) only [wrap_id]
    refine hJ _ _ (RunsL.call (ps := []) (rid := 4864) rfl rfl rfl rfl rfl (by simp only [go_sem, Nat.reduceEqDiff, brw_strs, brw_segs]) (hsp ht) rfl (by decide) ⟨by decide, by decide, rfl⟩ (by first | exact .inl rfl | exact .inr (.inl rfl) | exact .inr (.inr rfl)) ?_); clear hJ J
    rintro r os' ros ⟨rfl, rfl, rfl⟩ _
    refine RunsL.go tabOk fun J hJ => ?_
    simp only [go_sem, Nat.reduceAdd, Nat.reduceSub, Nat.reduceMul, Nat.reduceLT, Nat.reduceLeDiff, Nat.reduceEqDiff, Nat.reduceBEq, Int.reduceToNat]
    try simp (disch := omega) only [wrap_id]
    refine hJ _ _ (RunsL.nil ?_); clear hJ J
    repeat (first | refine RunsA.sq ?_ | refine RunsA.bk ?_ | refine RunsA.sk ?_ | refine RunsA.ex ?_ | refine RunsA.rt ?_ | refine At.n ?_ | refine At.x ?_ | refine At.r ?_ | refine At.bn ?_ | refine At.br ?_ | refine At.bx ?_ | refine At.by_ rfl ?_ | refine At.kx ?_ | refine At.kr ?_ | refine At.kn ?_ | refine At.er ?_ | refine At.en ?_ | (refine RunsA.rq tabOk fun J hJ => ?_; simp only [go_sem, Nat.reduceAdd, Nat.reduceSub, Nat.reduceMul, Nat.reduceLT, Nat.reduceLeDiff, Nat.reduceEqDiff, Nat.reduceBEq, Int.reduceToNat]; (try simp (disch := omega) only [wrap_id]); (repeat refine ⟨by omega, ?_⟩); refine hJ _ _ (RunsL.nil ?_); clear hJ J) | (refine RunsA.dq mixed tabOk (by kernel_rfl) fun J hJ => ?_; simp only [go_sem, Nat.reduceAdd, Nat.reduceSub, Nat.reduceMul, Nat.reduceLT, Nat.reduceLeDiff, Nat.reduceEqDiff, Nat.reduceBEq, Int.reduceToNat]; (try simp (disch := omega) only [wrap_id]); (repeat refine ⟨by omega, ?_⟩); refine hJ _ _ (QRuns.nil ?_); clear hJ J))
    refine RunsA.rq tabOk fun J hJ => ?_
    simp only [go_sem, Nat.reduceAdd, Nat.reduceSub, Nat.reduceMul, Nat.reduceLT, Nat.reduceLeDiff, Nat.reduceEqDiff, Nat.reduceBEq, Int.reduceToNat]
    try simp (disch := omega) only [wrap_id]
    refine hJ _ _ (RunsL.call (ps := []) (rid := 5376) rfl rfl rfl rfl rfl (by simp only [go_sem, Nat.reduceEqDiff]) (hts2) rfl (by decide) ⟨by decide, by decide, rfl⟩ (by first | exact .inl rfl | exact .inr (.inl rfl) | exact .inr (.inr rfl)) ?_); clear hJ J
    rintro r os' ros ⟨rfl, rfl, rfl⟩ _
    refine RunsL.go tabOk fun J hJ => ?_
    simp only [go_sem, Nat.reduceAdd, Nat.reduceSub, Nat.reduceMul, Nat.reduceLT, Nat.reduceLeDiff, Nat.reduceEqDiff, Nat.reduceBEq, Int.reduceToNat]
    try simp (disch := omega) only [wrap_id]
    refine hJ _ _ (RunsL.nil ?_); clear hJ J
    repeat (first | refine RunsA.sq ?_ | refine RunsA.bk ?_ | refine RunsA.sk ?_ | refine RunsA.ex ?_ | refine RunsA.rt ?_ | refine At.n ?_ | refine At.x ?_ | refine At.r ?_ | refine At.bn ?_ | refine At.br ?_ | refine At.bx ?_ | refine At.by_ rfl ?_ | refine At.kx ?_ | refine At.kr ?_ | refine At.kn ?_ | refine At.er ?_ | refine At.en ?_ | (refine RunsA.rq tabOk fun J hJ => ?_; simp only [go_sem, Nat.reduceAdd, Nat.reduceSub, Nat.reduceMul, Nat.reduceLT, Nat.reduceLeDiff, Nat.reduceEqDiff, Nat.reduceBEq, Int.reduceToNat]; (try simp (disch := omega) only [wrap_id]); (repeat refine ⟨by omega, ?_⟩); refine hJ _ _ (RunsL.nil ?_); clear hJ J) | (refine RunsA.dq mixed tabOk (by kernel_rfl) fun J hJ => ?_; simp only [go_sem, Nat.reduceAdd, Nat.reduceSub, Nat.reduceMul, Nat.reduceLT, Nat.reduceLeDiff, Nat.reduceEqDiff, Nat.reduceBEq, Int.reduceToNat]; (try simp (disch := omega) only [wrap_id]); (repeat refine ⟨by omega, ?_⟩); refine hJ _ _ (QRuns.nil ?_); clear hJ J))
    refine RunsA.rq tabOk fun J hJ => ?_
    simp only [go_sem, Nat.reduceAdd, Nat.reduceSub, Nat.reduceMul, Nat.reduceLT, Nat.reduceLeDiff, Nat.reduceEqDiff, Nat.reduceBEq, Int.reduceToNat]
    try simp (disch := omega) only [wrap_id]
    refine hJ _ _ (RunsL.call (ps := []) (rid := 5888) rfl rfl rfl rfl rfl (by simp only [go_sem, Nat.reduceEqDiff, brw_strs, brw_segs]) (hi ht) rfl (by decide) ⟨by decide, by decide, rfl⟩ (by first | exact .inl rfl | exact .inr (.inl rfl) | exact .inr (.inr rfl)) ?_); clear hJ J
    rintro r os' ros ⟨rfl, rfl, rfl⟩ _
    refine RunsL.go tabOk fun J hJ => ?_
    simp only [go_sem, Nat.reduceAdd, Nat.reduceSub, Nat.reduceMul, Nat.reduceLT, Nat.reduceLeDiff, Nat.reduceEqDiff, Nat.reduceBEq, Int.reduceToNat]
    try simp (disch := omega) only [wrap_id]
    refine hJ _ _ (RunsL.nil ?_); clear hJ J
    repeat (first | refine RunsA.sq ?_ | refine RunsA.bk ?_ | refine RunsA.sk ?_ | refine RunsA.ex ?_ | refine RunsA.rt ?_ | refine At.n ?_ | refine At.x ?_ | refine At.r ?_ | refine At.bn ?_ | refine At.br ?_ | refine At.bx ?_ | refine At.by_ rfl ?_ | refine At.kx ?_ | refine At.kr ?_ | refine At.kn ?_ | refine At.er ?_ | refine At.en ?_ | (refine RunsA.rq tabOk fun J hJ => ?_; simp only [go_sem, Nat.reduceAdd, Nat.reduceSub, Nat.reduceMul, Nat.reduceLT, Nat.reduceLeDiff, Nat.reduceEqDiff, Nat.reduceBEq, Int.reduceToNat]; (try simp (disch := omega) only [wrap_id]); (repeat refine ⟨by omega, ?_⟩); refine hJ _ _ (RunsL.nil ?_); clear hJ J) | (refine RunsA.dq mixed tabOk (by kernel_rfl) fun J hJ => ?_; simp only [go_sem, Nat.reduceAdd, Nat.reduceSub, Nat.reduceMul, Nat.reduceLT, Nat.reduceLeDiff, Nat.reduceEqDiff, Nat.reduceBEq, Int.reduceToNat]; (try simp (disch := omega) only [wrap_id]); (repeat refine ⟨by omega, ?_⟩); refine hJ _ _ (QRuns.nil ?_); clear hJ J))
    refine RunsA.rq tabOk fun J hJ => ?_
    simp only [go_sem, Nat.reduceAdd, Nat.reduceSub, Nat.reduceMul, Nat.reduceLT, Nat.reduceLeDiff, Nat.reduceEqDiff, Nat.reduceBEq, Int.reduceToNat]
    try simp (disch := omega) only [wrap_id]
    refine hJ _ _ (RunsL.call (ps := []) (rid := 6656) rfl rfl rfl rfl rfl (by simp only [go_sem, Nat.reduceEqDiff, brw_strs]) (eqStringS_ok (SegV.mk n ms ks).names (SegV.mk n ms ks).names (by omega)) rfl (by decide) ⟨by decide, by decide, rfl⟩ (by first | exact .inl rfl | exact .inr (.inl rfl) | exact .inr (.inr rfl)) ?_); clear hJ J
    rintro r os' ros ⟨rfl, rfl, rfl⟩ _
    refine RunsL.go tabOk fun J hJ => ?_
    simp only [go_sem, Nat.reduceAdd, Nat.reduceSub, Nat.reduceMul, Nat.reduceLT, Nat.reduceLeDiff, Nat.reduceEqDiff, Nat.reduceBEq, Int.reduceToNat]
    try simp (disch := omega) only [wrap_id]
    refine hJ _ _ (RunsL.nil ?_); clear hJ J
    repeat (first | refine RunsA.sq ?_ | refine RunsA.bk ?_ | refine RunsA.sk ?_ | refine RunsA.ex ?_ | refine RunsA.rt ?_ | refine At.n ?_ | refine At.x ?_ | refine At.r ?_ | refine At.bn ?_ | refine At.br ?_ | refine At.bx ?_ | refine At.by_ rfl ?_ | refine At.kx ?_ | refine At.kr ?_ | refine At.kn ?_ | refine At.er ?_ | refine At.en ?_ | (refine RunsA.rq tabOk fun J hJ => ?_; simp only [go_sem, Nat.reduceAdd, Nat.reduceSub, Nat.reduceMul, Nat.reduceLT, Nat.reduceLeDiff, Nat.reduceEqDiff, Nat.reduceBEq, Int.reduceToNat]; (try simp (disch := omega) only [wrap_id]); (repeat refine ⟨by omega, ?_⟩); refine hJ _ _ (RunsL.nil ?_); clear hJ J) | (refine RunsA.dq mixed tabOk (by kernel_rfl) fun J hJ => ?_; simp only [go_sem, Nat.reduceAdd, Nat.reduceSub, Nat.reduceMul, Nat.reduceLT, Nat.reduceLeDiff, Nat.reduceEqDiff, Nat.reduceBEq, Int.reduceToNat]; (try simp (disch := omega) only [wrap_id]); (repeat refine ⟨by omega, ?_⟩); refine hJ _ _ (QRuns.nil ?_); clear hJ J))
    refine RunsA.cond rfl (fun h => ?_) (fun h => ?_)
    · simp at h
    · refine RunsA.sk ?_
      refine At.n ?_
      refine RunsA.sq ?_
      refine RunsA.meet ⟨69, [(1, .ptr 512 [] 3 0 0), (4, .hd 4864 []), (5, .ptr 1536 [] 3 0 0), (6, .hd 5888 []), (31, .bool false)],
        [⟨5888, 1, strs (SegV.mk n ms ks).names⟩, ⟨1536, 3, [.agg [.str n, .row .own 1 (strs ms), .row .own 3 (segsA .own ks)]]⟩, ⟨4864, 1, strs (SegV.mk n ms ks).names⟩, ⟨512, 3, [.agg [.str n, .row .bo 1 (strs ms), .row .bo 3 (segsA .bo ks)]]⟩], false⟩ ?_ ?_
      · refine RunsA.orders mixed [[0, 1, 2, 3, 4], [1, 0, 2, 3, 4], [1, 2, 0, 3, 4]] (by kernel_rfl) (by kernel_rfl) ?_; simp only [List.forall_mem_cons, List.not_mem_nil, false_implies, implies_true, and_true, List.filterMap_cons, List.filterMap_nil, List.getElem?_toArray, List.getElem?_cons_zero, List.getElem?_cons_succ]
        refine ⟨?_, ?_, ?_⟩
        · refine RunsL.go tabOk fun J hJ => ?_; simp only [go_sem, Nat.reduceAdd, Nat.reduceSub, Nat.reduceMul, Nat.reduceLT, Nat.reduceLeDiff, Nat.reduceEqDiff, Nat.reduceBEq, Int.reduceToNat]; try simp (disch := omega) only [wrap_id]
          refine hJ _ _ (RunsL.call (ps := []) (rid := 7680) rfl rfl rfl rfl rfl (by simp only [go_sem, Nat.reduceEqDiff]) (hts2) rfl (by decide) ⟨by decide, by decide, rfl⟩ (by first | exact .inl rfl | exact .inr (.inl rfl) | exact .inr (.inr rfl)) ?_); clear hJ J
          rintro r os' ros ⟨rfl, rfl, rfl⟩ _
          refine RunsL.go tabOk fun J hJ => ?_
          simp only [go_sem, Nat.reduceAdd, Nat.reduceSub, Nat.reduceMul, Nat.reduceLT, Nat.reduceLeDiff, Nat.reduceEqDiff, Nat.reduceBEq, Int.reduceToNat]
          try simp (disch := omega) only [wrap_id]
          refine hJ _ _ (RunsL.call (ps := []) (rid := 7936) rfl rfl rfl rfl rfl (by simp only [go_sem, Nat.reduceEqDiff, brw_strs, brw_segs]) (hes2) rfl (by decide) ⟨by decide, by decide, rfl⟩ (by first | exact .inl rfl | exact .inr (.inl rfl) | exact .inr (.inr rfl)) ?_); clear hJ J
          rintro r os' ros ⟨rfl, rfl, rfl⟩ _
          refine RunsL.go tabOk fun J hJ => ?_
          simp only [go_sem, Nat.reduceAdd, Nat.reduceSub, Nat.reduceMul, Nat.reduceLT, Nat.reduceLeDiff, Nat.reduceEqDiff, Nat.reduceBEq, Int.reduceToNat]
          try simp (disch := omega) only [wrap_id]
          refine hJ _ _ (RunsL.nil ?_); clear hJ J
          refine At.kn ?_
          exact ⟨rfl, by simp [SubS, lookS], by simp [SubO, lookO], rfl⟩
        · refine RunsL.go tabOk fun J hJ => ?_; simp only [go_sem, Nat.reduceAdd, Nat.reduceSub, Nat.reduceMul, Nat.reduceLT, Nat.reduceLeDiff, Nat.reduceEqDiff, Nat.reduceBEq, Int.reduceToNat]; try simp (disch := omega) only [wrap_id]
          refine hJ _ _ (RunsL.call (ps := []) (rid := 7680) rfl rfl rfl rfl rfl (by simp only [go_sem, Nat.reduceEqDiff]) (hts2) rfl (by decide) ⟨by decide, by decide, rfl⟩ (by first | exact .inl rfl | exact .inr (.inl rfl) | exact .inr (.inr rfl)) ?_); clear hJ J
          rintro r os' ros ⟨rfl, rfl, rfl⟩ _
          refine RunsL.go tabOk fun J hJ => ?_
          simp only [go_sem, Nat.reduceAdd, Nat.reduceSub, Nat.reduceMul, Nat.reduceLT, Nat.reduceLeDiff, Nat.reduceEqDiff, Nat.reduceBEq, Int.reduceToNat]
          try simp (disch := omega) only [wrap_id]
          refine hJ _ _ (RunsL.call (ps := []) (rid := 7936) rfl rfl rfl rfl rfl (by simp only [go_sem, Nat.reduceEqDiff, brw_strs, brw_segs]) (hes2) rfl (by decide) ⟨by decide, by decide, rfl⟩ (by first | exact .inl rfl | exact .inr (.inl rfl) | exact .inr (.inr rfl)) ?_); clear hJ J
          rintro r os' ros ⟨rfl, rfl, rfl⟩ _
          refine RunsL.go tabOk fun J hJ => ?_
          simp only [go_sem, Nat.reduceAdd, Nat.reduceSub, Nat.reduceMul, Nat.reduceLT, Nat.reduceLeDiff, Nat.reduceEqDiff, Nat.reduceBEq, Int.reduceToNat]
          try simp (disch := omega) only [wrap_id]
          refine hJ _ _ (RunsL.nil ?_); clear hJ J
          refine At.kn ?_
          exact ⟨rfl, by simp [SubS, lookS], by simp [SubO, lookO], rfl⟩
        · refine RunsL.go tabOk fun J hJ => ?_; simp only [go_sem, Nat.reduceAdd, Nat.reduceSub, Nat.reduceMul, Nat.reduceLT, Nat.reduceLeDiff, Nat.reduceEqDiff, Nat.reduceBEq, Int.reduceToNat]; try simp (disch := omega) only [wrap_id]
          refine hJ _ _ (RunsL.call (ps := []) (rid := 7680) rfl rfl rfl rfl rfl (by simp only [go_sem, Nat.reduceEqDiff]) (hts2) rfl (by decide) ⟨by decide, by decide, rfl⟩ (by first | exact .inl rfl | exact .inr (.inl rfl) | exact .inr (.inr rfl)) ?_); clear hJ J
          rintro r os' ros ⟨rfl, rfl, rfl⟩ _
          refine RunsL.go tabOk fun J hJ => ?_
          simp only [go_sem, Nat.reduceAdd, Nat.reduceSub, Nat.reduceMul, Nat.reduceLT, Nat.reduceLeDiff, Nat.reduceEqDiff, Nat.reduceBEq, Int.reduceToNat]
          try simp (disch := omega) only [wrap_id]
          refine hJ _ _ (RunsL.call (ps := []) (rid := 7936) rfl rfl rfl rfl rfl (by simp only [go_sem, Nat.reduceEqDiff, brw_strs, brw_segs]) (hes2) rfl (by decide) ⟨by decide, by decide, rfl⟩ (by first | exact .inl rfl | exact .inr (.inl rfl) | exact .inr (.inr rfl)) ?_); clear hJ J
          rintro r os' ros ⟨rfl, rfl, rfl⟩ _
          refine RunsL.go tabOk fun J hJ => ?_
          simp only [go_sem, Nat.reduceAdd, Nat.reduceSub, Nat.reduceMul, Nat.reduceLT, Nat.reduceLeDiff, Nat.reduceEqDiff, Nat.reduceBEq, Int.reduceToNat]
          try simp (disch := omega) only [wrap_id]
          refine hJ _ _ (RunsL.nil ?_); clear hJ J
          refine At.kn ?_
          exact ⟨rfl, by simp [SubS, lookS], by simp [SubO, lookO], rfl⟩
      · refine RunsA.cond rfl (fun h => ?_) (fun h => ?_)
        · simp at h
        repeat (first | refine RunsA.sq ?_ | refine RunsA.bk ?_ | refine RunsA.sk ?_ | refine RunsA.ex ?_ | refine RunsA.rt ?_ | refine At.n ?_ | refine At.x ?_ | refine At.r ?_ | refine At.bn ?_ | refine At.br ?_ | refine At.bx ?_ | refine At.by_ rfl ?_ | refine At.kx ?_ | refine At.kr ?_ | refine At.kn ?_ | refine At.er ?_ | refine At.en ?_ | (refine RunsA.rq tabOk fun J hJ => ?_; simp only [go_sem, Nat.reduceAdd, Nat.reduceSub, Nat.reduceMul, Nat.reduceLT, Nat.reduceLeDiff, Nat.reduceEqDiff, Nat.reduceBEq, Int.reduceToNat]; (try simp (disch := omega) only [wrap_id]); (repeat refine ⟨by omega, ?_⟩); refine hJ _ _ (RunsL.nil ?_); clear hJ J) | (refine RunsA.dq mixed tabOk (by kernel_rfl) fun J hJ => ?_; simp only [go_sem, Nat.reduceAdd, Nat.reduceSub, Nat.reduceMul, Nat.reduceLT, Nat.reduceLeDiff, Nat.reduceEqDiff, Nat.reduceBEq, Int.reduceToNat]; (try simp (disch := omega) only [wrap_id]); (repeat refine ⟨by omega, ?_⟩); refine hJ _ _ (QRuns.nil ?_); clear hJ J))
        have hcnt := SegV.cntL_le ks
        have htt : (SegV.mk n ms ks).tot = n.length + totS ms + (ks.length + SegV.totL ks) := rfl
        have hts3 : totS ms = ms.length + totL ms := rfl
        refine RunsA.rq tabOk fun J hJ => ?_
        simp only [go_sem, Nat.reduceAdd, Nat.reduceSub, Nat.reduceMul, Nat.reduceLT, Nat.reduceLeDiff, Nat.reduceEqDiff, Nat.reduceBEq, Int.reduceToNat]
        try simp (disch := omega) only [wrap_id]
        refine hJ _ _ (RunsL.call (ps := [1536]) (rid := 8960) rfl rfl rfl rfl rfl (by simp only [go_sem, Nat.reduceEqDiff]) (markSeg_ok n ms ks 1 (by omega) (by omega)) rfl (by decide) ⟨by decide, by decide, rfl⟩ (by first | exact .inl rfl | exact .inr (.inl rfl) | exact .inr (.inr rfl)) ?_); clear hJ J
        rintro r os' ros ⟨rfl, rfl, rfl⟩ _
        refine RunsL.go tabOk fun J hJ => ?_
        simp only [go_sem, Nat.reduceAdd, Nat.reduceSub, Nat.reduceMul, Nat.reduceLT, Nat.reduceLeDiff, Nat.reduceEqDiff, Nat.reduceBEq, Int.reduceToNat]
        try simp (disch := omega) only [wrap_id]
        refine hJ _ _ (RunsL.nil ?_); clear hJ J
        repeat (first | refine RunsA.sq ?_ | refine RunsA.bk ?_ | refine RunsA.sk ?_ | refine RunsA.ex ?_ | refine RunsA.rt ?_ | refine At.n ?_ | refine At.x ?_ | refine At.r ?_ | refine At.bn ?_ | refine At.br ?_ | refine At.bx ?_ | refine At.by_ rfl ?_ | refine At.kx ?_ | refine At.kr ?_ | refine At.kn ?_ | refine At.er ?_ | refine At.en ?_ | (refine RunsA.rq tabOk fun J hJ => ?_; simp only [go_sem, Nat.reduceAdd, Nat.reduceSub, Nat.reduceMul, Nat.reduceLT, Nat.reduceLeDiff, Nat.reduceEqDiff, Nat.reduceBEq, Int.reduceToNat]; (try simp (disch := omega) only [wrap_id]); (repeat refine ⟨by omega, ?_⟩); refine hJ _ _ (RunsL.nil ?_); clear hJ J) | (refine RunsA.dq mixed tabOk (by kernel_rfl) fun J hJ => ?_; simp only [go_sem, Nat.reduceAdd, Nat.reduceSub, Nat.reduceMul, Nat.reduceLT, Nat.reduceLeDiff, Nat.reduceEqDiff, Nat.reduceBEq, Int.reduceToNat]; (try simp (disch := omega) only [wrap_id]); (repeat refine ⟨by omega, ?_⟩); refine hJ _ _ (QRuns.nil ?_); clear hJ J))
        have hneg : decide ((1 : Int) + ms.length + SegV.cntL ks < 0) = false := by rw [decide_eq_false_iff_not]; omega
        refine RunsA.rq tabOk fun J hJ => ?_
        simp only [go_sem, Nat.reduceAdd, Nat.reduceSub, Nat.reduceMul, Nat.reduceLT, Nat.reduceLeDiff, Nat.reduceEqDiff, Nat.reduceBEq, Int.reduceToNat, hneg]
        try simp (disch := omega) only [wrap_id]
        refine hJ _ _ (RunsL.call (ps := []) (rid := 10496) rfl rfl rfl rfl rfl (by simp only [go_sem, Nat.reduceEqDiff, brw_strs]) (eqStringS_ok (SegV.mk n ms ks).names (SegV.mk n ms ks).names (by omega)) rfl (by decide) ⟨by decide, by decide, rfl⟩ (by first | exact .inl rfl | exact .inr (.inl rfl) | exact .inr (.inr rfl)) ?_); clear hJ J
        rintro r os' ros ⟨rfl, rfl, rfl⟩ _
        refine RunsL.go tabOk fun J hJ => ?_
        simp only [go_sem, Nat.reduceAdd, Nat.reduceSub, Nat.reduceMul, Nat.reduceLT, Nat.reduceLeDiff, Nat.reduceEqDiff, Nat.reduceBEq, Int.reduceToNat]
        try simp (disch := omega) only [wrap_id]
        refine hJ _ _ (RunsL.nil ?_); clear hJ J
        repeat (first | refine RunsA.sq ?_ | refine RunsA.bk ?_ | refine RunsA.sk ?_ | refine RunsA.ex ?_ | refine RunsA.rt ?_ | refine At.n ?_ | refine At.x ?_ | refine At.r ?_ | refine At.bn ?_ | refine At.br ?_ | refine At.bx ?_ | refine At.by_ rfl ?_ | refine At.kx ?_ | refine At.kr ?_ | refine At.kn ?_ | refine At.er ?_ | refine At.en ?_ | (refine RunsA.rq tabOk fun J hJ => ?_; simp only [go_sem, Nat.reduceAdd, Nat.reduceSub, Nat.reduceMul, Nat.reduceLT, Nat.reduceLeDiff, Nat.reduceEqDiff, Nat.reduceBEq, Int.reduceToNat]; (try simp (disch := omega) only [wrap_id]); (repeat refine ⟨by omega, ?_⟩); refine hJ _ _ (RunsL.nil ?_); clear hJ J) | (refine RunsA.dq mixed tabOk (by kernel_rfl) fun J hJ => ?_; simp only [go_sem, Nat.reduceAdd, Nat.reduceSub, Nat.reduceMul, Nat.reduceLT, Nat.reduceLeDiff, Nat.reduceEqDiff, Nat.reduceBEq, Int.reduceToNat]; (try simp (disch := omega) only [wrap_id]); (repeat refine ⟨by omega, ?_⟩); refine hJ _ _ (QRuns.nil ?_); clear hJ J))
        refine RunsA.cond rfl (fun h => ?_) (fun h => ?_)
        · simp at h
        repeat (first | refine RunsA.sq ?_ | refine RunsA.bk ?_ | refine RunsA.sk ?_ | refine RunsA.ex ?_ | refine RunsA.rt ?_ | refine At.n ?_ | refine At.x ?_ | refine At.r ?_ | refine At.bn ?_ | refine At.br ?_ | refine At.bx ?_ | refine At.by_ rfl ?_ | refine At.kx ?_ | refine At.kr ?_ | refine At.kn ?_ | refine At.er ?_ | refine At.en ?_ | (refine RunsA.rq tabOk fun J hJ => ?_; simp only [go_sem, Nat.reduceAdd, Nat.reduceSub, Nat.reduceMul, Nat.reduceLT, Nat.reduceLeDiff, Nat.reduceEqDiff, Nat.reduceBEq, Int.reduceToNat]; (try simp (disch := omega) only [wrap_id]); (repeat refine ⟨by omega, ?_⟩); refine hJ _ _ (RunsL.nil ?_); clear hJ J) | (refine RunsA.dq mixed tabOk (by kernel_rfl) fun J hJ => ?_; simp only [go_sem, Nat.reduceAdd, Nat.reduceSub, Nat.reduceMul, Nat.reduceLT, Nat.reduceLeDiff, Nat.reduceEqDiff, Nat.reduceBEq, Int.reduceToNat]; (try simp (disch := omega) only [wrap_id]); (repeat refine ⟨by omega, ?_⟩); refine hJ _ _ (QRuns.nil ?_); clear hJ J))
        refine RunsA.rq tabOk fun J hJ => ?_
        simp only [go_sem, Nat.reduceAdd, Nat.reduceSub, Nat.reduceMul, Nat.reduceLT, Nat.reduceLeDiff, Nat.reduceEqDiff, Nat.reduceBEq, Int.reduceToNat]
        try simp (disch := omega) only [wrap_id]
        refine hJ _ _ (RunsL.call (ps := [5888]) (rid := 11776) rfl rfl rfl rfl rfl (by simp only [go_sem, Nat.reduceEqDiff]) (markStringS_ok [] 1 _ (SegV.mk n ms ks).names 1 rfl (noBo_strs _) (by omega) (by omega)) rfl (by decide) ⟨by decide, by decide, rfl⟩ (by first | exact .inl rfl | exact .inr (.inl rfl) | exact .inr (.inr rfl)) ?_); clear hJ J
        rintro r os' ros ⟨rfl, rfl, rfl⟩ _
        refine RunsL.go tabOk fun J hJ => ?_
        simp only [go_sem, Nat.reduceAdd, Nat.reduceSub, Nat.reduceMul, Nat.reduceLT, Nat.reduceLeDiff, Nat.reduceEqDiff, Nat.reduceBEq, Int.reduceToNat]
        try simp (disch := omega) only [wrap_id]
        refine hJ _ _ (RunsL.nil ?_); clear hJ J
        repeat (first | refine RunsA.sq ?_ | refine RunsA.bk ?_ | refine RunsA.sk ?_ | refine RunsA.ex ?_ | refine RunsA.rt ?_ | refine At.n ?_ | refine At.x ?_ | refine At.r ?_ | refine At.bn ?_ | refine At.br ?_ | refine At.bx ?_ | refine At.by_ rfl ?_ | refine At.kx ?_ | refine At.kr ?_ | refine At.kn ?_ | refine At.er ?_ | refine At.en ?_ | (refine RunsA.rq tabOk fun J hJ => ?_; simp only [go_sem, Nat.reduceAdd, Nat.reduceSub, Nat.reduceMul, Nat.reduceLT, Nat.reduceLeDiff, Nat.reduceEqDiff, Nat.reduceBEq, Int.reduceToNat]; (try simp (disch := omega) only [wrap_id]); (repeat refine ⟨by omega, ?_⟩); refine hJ _ _ (RunsL.nil ?_); clear hJ J) | (refine RunsA.dq mixed tabOk (by kernel_rfl) fun J hJ => ?_; simp only [go_sem, Nat.reduceAdd, Nat.reduceSub, Nat.reduceMul, Nat.reduceLT, Nat.reduceLeDiff, Nat.reduceEqDiff, Nat.reduceBEq, Int.reduceToNat]; (try simp (disch := omega) only [wrap_id]); (repeat refine ⟨by omega, ?_⟩); refine hJ _ _ (QRuns.nil ?_); clear hJ J))
        refine RunsA.rq tabOk fun J hJ => ?_
        simp only [go_sem, Nat.reduceAdd, Nat.reduceSub, Nat.reduceMul, Nat.reduceLT, Nat.reduceLeDiff, Nat.reduceEqDiff, Nat.reduceBEq, Int.reduceToNat]
        try simp (disch := omega) only [wrap_id]
        have hml := markStrs_len (SegV.mk n ms ks).names 1
        refine hJ _ _ (RunsL.call (ps := []) (rid := 12544) rfl rfl rfl rfl rfl (by simp only [go_sem, Nat.reduceEqDiff, brw_strs]) (heldMarks_ok (SegV.mk n ms ks).names 1 (by omega) (by omega)) rfl (by decide) ⟨by decide, by decide, rfl⟩ (by first | exact .inl rfl | exact .inr (.inl rfl) | exact .inr (.inr rfl)) ?_); clear hJ J
        rintro r os' ros ⟨rfl, rfl, rfl⟩ _
        refine RunsL.go tabOk fun J hJ => ?_
        simp only [go_sem, Nat.reduceAdd, Nat.reduceSub, Nat.reduceMul, Nat.reduceLT, Nat.reduceLeDiff, Nat.reduceEqDiff, Nat.reduceBEq, Int.reduceToNat]
        try simp (disch := omega) only [wrap_id]
        refine hJ _ _ (RunsL.nil ?_); clear hJ J
        repeat (first | refine RunsA.sq ?_ | refine RunsA.bk ?_ | refine RunsA.sk ?_ | refine RunsA.ex ?_ | refine RunsA.rt ?_ | refine At.n ?_ | refine At.x ?_ | refine At.r ?_ | refine At.bn ?_ | refine At.br ?_ | refine At.bx ?_ | refine At.by_ rfl ?_ | refine At.kx ?_ | refine At.kr ?_ | refine At.kn ?_ | refine At.er ?_ | refine At.en ?_ | (refine RunsA.rq tabOk fun J hJ => ?_; simp only [go_sem, Nat.reduceAdd, Nat.reduceSub, Nat.reduceMul, Nat.reduceLT, Nat.reduceLeDiff, Nat.reduceEqDiff, Nat.reduceBEq, Int.reduceToNat]; (try simp (disch := omega) only [wrap_id]); (repeat refine ⟨by omega, ?_⟩); refine hJ _ _ (RunsL.nil ?_); clear hJ J) | (refine RunsA.dq mixed tabOk (by kernel_rfl) fun J hJ => ?_; simp only [go_sem, Nat.reduceAdd, Nat.reduceSub, Nat.reduceMul, Nat.reduceLT, Nat.reduceLeDiff, Nat.reduceEqDiff, Nat.reduceBEq, Int.reduceToNat]; (try simp (disch := omega) only [wrap_id]); (repeat refine ⟨by omega, ?_⟩); refine hJ _ _ (QRuns.nil ?_); clear hJ J))
        refine RunsA.cond rfl (fun h => ?_) (fun h => ?_)
        · exfalso; simp only [decide_eq_true_eq] at h; omega
        repeat (first | refine RunsA.sq ?_ | refine RunsA.bk ?_ | refine RunsA.sk ?_ | refine RunsA.ex ?_ | refine RunsA.rt ?_ | refine At.n ?_ | refine At.x ?_ | refine At.r ?_ | refine At.bn ?_ | refine At.br ?_ | refine At.bx ?_ | refine At.by_ rfl ?_ | refine At.kx ?_ | refine At.kr ?_ | refine At.kn ?_ | refine At.er ?_ | refine At.en ?_ | (refine RunsA.rq tabOk fun J hJ => ?_; simp only [go_sem, Nat.reduceAdd, Nat.reduceSub, Nat.reduceMul, Nat.reduceLT, Nat.reduceLeDiff, Nat.reduceEqDiff, Nat.reduceBEq, Int.reduceToNat]; (try simp (disch := omega) only [wrap_id]); (repeat refine ⟨by omega, ?_⟩); refine hJ _ _ (RunsL.nil ?_); clear hJ J) | (refine RunsA.dq mixed tabOk (by kernel_rfl) fun J hJ => ?_; simp only [go_sem, Nat.reduceAdd, Nat.reduceSub, Nat.reduceMul, Nat.reduceLT, Nat.reduceLeDiff, Nat.reduceEqDiff, Nat.reduceBEq, Int.reduceToNat]; (try simp (disch := omega) only [wrap_id]); (repeat refine ⟨by omega, ?_⟩); refine hJ _ _ (QRuns.nil ?_); clear hJ J))
        refine RunsA.cond rfl (fun h => ?_) (fun h => ?_)
        · simp at h
        repeat (first | refine RunsA.sq ?_ | refine RunsA.bk ?_ | refine RunsA.sk ?_ | refine RunsA.ex ?_ | refine RunsA.rt ?_ | refine At.n ?_ | refine At.x ?_ | refine At.r ?_ | refine At.bn ?_ | refine At.br ?_ | refine At.bx ?_ | refine At.by_ rfl ?_ | refine At.kx ?_ | refine At.kr ?_ | refine At.kn ?_ | refine At.er ?_ | refine At.en ?_ | (refine RunsA.rq tabOk fun J hJ => ?_; simp only [go_sem, Nat.reduceAdd, Nat.reduceSub, Nat.reduceMul, Nat.reduceLT, Nat.reduceLeDiff, Nat.reduceEqDiff, Nat.reduceBEq, Int.reduceToNat]; (try simp (disch := omega) only [wrap_id]); (repeat refine ⟨by omega, ?_⟩); refine hJ _ _ (RunsL.nil ?_); clear hJ J) | (refine RunsA.dq mixed tabOk (by kernel_rfl) fun J hJ => ?_; simp only [go_sem, Nat.reduceAdd, Nat.reduceSub, Nat.reduceMul, Nat.reduceLT, Nat.reduceLeDiff, Nat.reduceEqDiff, Nat.reduceBEq, Int.reduceToNat]; (try simp (disch := omega) only [wrap_id]); (repeat refine ⟨by omega, ?_⟩); refine hJ _ _ (QRuns.nil ?_); clear hJ J))
        refine RunsA.rq tabOk fun J hJ => ?_
        simp only [go_sem, Nat.reduceAdd, Nat.reduceSub, Nat.reduceMul, Nat.reduceLT, Nat.reduceLeDiff, Nat.reduceEqDiff, Nat.reduceBEq, Int.reduceToNat]
        try simp (disch := omega) only [wrap_id]
        refine hJ _ _ (RunsL.call (ps := []) (rid := 14336) rfl rfl rfl rfl rfl (by simp only [go_sem, Nat.reduceEqDiff]) (hts2) rfl (by decide) ⟨by decide, by decide, rfl⟩ (by first | exact .inl rfl | exact .inr (.inl rfl) | exact .inr (.inr rfl)) ?_); clear hJ J
        rintro r os' ros ⟨rfl, rfl, rfl⟩ _
        refine RunsL.go tabOk fun J hJ => ?_
        simp only [go_sem, Nat.reduceAdd, Nat.reduceSub, Nat.reduceMul, Nat.reduceLT, Nat.reduceLeDiff, Nat.reduceEqDiff, Nat.reduceBEq, Int.reduceToNat]
        try simp (disch := omega) only [wrap_id]
        refine hJ _ _ (RunsL.call (ps := []) (rid := 14592) rfl rfl rfl rfl rfl (by simp only [go_sem, Nat.reduceEqDiff, brw_strs, brw_segs]) (hi ht) rfl (by decide) ⟨by decide, by decide, rfl⟩ (by first | exact .inl rfl | exact .inr (.inl rfl) | exact .inr (.inr rfl)) ?_); clear hJ J
        rintro r os' ros ⟨rfl, rfl, rfl⟩ _
        refine RunsL.go tabOk fun J hJ => ?_
        simp only [go_sem, Nat.reduceAdd, Nat.reduceSub, Nat.reduceMul, Nat.reduceLT, Nat.reduceLeDiff, Nat.reduceEqDiff, Nat.reduceBEq, Int.reduceToNat]
        try simp (disch := omega) only [wrap_id]
        refine hJ _ _ (RunsL.nil ?_); clear hJ J
        repeat (first | refine RunsA.sq ?_ | refine RunsA.bk ?_ | refine RunsA.sk ?_ | refine RunsA.ex ?_ | refine RunsA.rt ?_ | refine At.n ?_ | refine At.x ?_ | refine At.r ?_ | refine At.bn ?_ | refine At.br ?_ | refine At.bx ?_ | refine At.by_ rfl ?_ | refine At.kx ?_ | refine At.kr ?_ | refine At.kn ?_ | refine At.er ?_ | refine At.en ?_ | (refine RunsA.rq tabOk fun J hJ => ?_; simp only [go_sem, Nat.reduceAdd, Nat.reduceSub, Nat.reduceMul, Nat.reduceLT, Nat.reduceLeDiff, Nat.reduceEqDiff, Nat.reduceBEq, Int.reduceToNat]; (try simp (disch := omega) only [wrap_id]); (repeat refine ⟨by omega, ?_⟩); refine hJ _ _ (RunsL.nil ?_); clear hJ J) | (refine RunsA.dq mixed tabOk (by kernel_rfl) fun J hJ => ?_; simp only [go_sem, Nat.reduceAdd, Nat.reduceSub, Nat.reduceMul, Nat.reduceLT, Nat.reduceLeDiff, Nat.reduceEqDiff, Nat.reduceBEq, Int.reduceToNat]; (try simp (disch := omega) only [wrap_id]); (repeat refine ⟨by omega, ?_⟩); refine hJ _ _ (QRuns.nil ?_); clear hJ J))
        refine RunsA.rq tabOk fun J hJ => ?_
        simp only [go_sem, Nat.reduceAdd, Nat.reduceSub, Nat.reduceMul, Nat.reduceLT, Nat.reduceLeDiff, Nat.reduceEqDiff, Nat.reduceBEq, Int.reduceToNat]
        try simp (disch := omega) only [wrap_id]
        refine hJ _ _ (RunsL.call (ps := []) (rid := 15360) rfl rfl rfl rfl rfl (by simp only [go_sem, Nat.reduceEqDiff, brw_strs]) (eqStringS_ok (SegV.mk n ms ks).names (SegV.mk n ms ks).names (by omega)) rfl (by decide) ⟨by decide, by decide, rfl⟩ (by first | exact .inl rfl | exact .inr (.inl rfl) | exact .inr (.inr rfl)) ?_); clear hJ J
        rintro r os' ros ⟨rfl, rfl, rfl⟩ _
        refine RunsL.go tabOk fun J hJ => ?_
        simp only [go_sem, Nat.reduceAdd, Nat.reduceSub, Nat.reduceMul, Nat.reduceLT, Nat.reduceLeDiff, Nat.reduceEqDiff, Nat.reduceBEq, Int.reduceToNat]
        try simp (disch := omega) only [wrap_id]
        refine hJ _ _ (RunsL.nil ?_); clear hJ J
        repeat (first | refine RunsA.sq ?_ | refine RunsA.bk ?_ | refine RunsA.sk ?_ | refine RunsA.ex ?_ | refine RunsA.rt ?_ | refine At.n ?_ | refine At.x ?_ | refine At.r ?_ | refine At.bn ?_ | refine At.br ?_ | refine At.bx ?_ | refine At.by_ rfl ?_ | refine At.kx ?_ | refine At.kr ?_ | refine At.kn ?_ | refine At.er ?_ | refine At.en ?_ | (refine RunsA.rq tabOk fun J hJ => ?_; simp only [go_sem, Nat.reduceAdd, Nat.reduceSub, Nat.reduceMul, Nat.reduceLT, Nat.reduceLeDiff, Nat.reduceEqDiff, Nat.reduceBEq, Int.reduceToNat]; (try simp (disch := omega) only [wrap_id]); (repeat refine ⟨by omega, ?_⟩); refine hJ _ _ (RunsL.nil ?_); clear hJ J) | (refine RunsA.dq mixed tabOk (by kernel_rfl) fun J hJ => ?_; simp only [go_sem, Nat.reduceAdd, Nat.reduceSub, Nat.reduceMul, Nat.reduceLT, Nat.reduceLeDiff, Nat.reduceEqDiff, Nat.reduceBEq, Int.reduceToNat]; (try simp (disch := omega) only [wrap_id]); (repeat refine ⟨by omega, ?_⟩); refine hJ _ _ (QRuns.nil ?_); clear hJ J))
        refine RunsA.cond rfl (fun h => ?_) (fun h => ?_)
        · simp at h
        repeat (first | refine RunsA.sq ?_ | refine RunsA.bk ?_ | refine RunsA.sk ?_ | refine RunsA.ex ?_ | refine RunsA.rt ?_ | refine At.n ?_ | refine At.x ?_ | refine At.r ?_ | refine At.bn ?_ | refine At.br ?_ | refine At.bx ?_ | refine At.by_ rfl ?_ | refine At.kx ?_ | refine At.kr ?_ | refine At.kn ?_ | refine At.er ?_ | refine At.en ?_ | (refine RunsA.rq tabOk fun J hJ => ?_; simp only [go_sem, Nat.reduceAdd, Nat.reduceSub, Nat.reduceMul, Nat.reduceLT, Nat.reduceLeDiff, Nat.reduceEqDiff, Nat.reduceBEq, Int.reduceToNat]; (try simp (disch := omega) only [wrap_id]); (repeat refine ⟨by omega, ?_⟩); refine hJ _ _ (RunsL.nil ?_); clear hJ J) | (refine RunsA.dq mixed tabOk (by kernel_rfl) fun J hJ => ?_; simp only [go_sem, Nat.reduceAdd, Nat.reduceSub, Nat.reduceMul, Nat.reduceLT, Nat.reduceLeDiff, Nat.reduceEqDiff, Nat.reduceBEq, Int.reduceToNat]; (try simp (disch := omega) only [wrap_id]); (repeat refine ⟨by omega, ?_⟩); refine hJ _ _ (QRuns.nil ?_); clear hJ J))
        refine RunsA.rq tabOk fun J hJ => ?_
        simp only [go_sem, Nat.reduceAdd, Nat.reduceSub, Nat.reduceMul, Nat.reduceLT, Nat.reduceLeDiff, Nat.reduceEqDiff, Nat.reduceBEq, Int.reduceToNat]
        try simp (disch := omega) only [wrap_id]
        refine hJ _ _ (RunsL.call (ps := []) (rid := 16384) rfl rfl rfl rfl rfl (by simp only [go_sem, Nat.reduceEqDiff, brw_strs]) (heldMarks_ok (SegV.mk n ms ks).names 1 (by omega) (by omega)) rfl (by decide) ⟨by decide, by decide, rfl⟩ (by first | exact .inl rfl | exact .inr (.inl rfl) | exact .inr (.inr rfl)) ?_); clear hJ J
        rintro r os' ros ⟨rfl, rfl, rfl⟩ _
        refine RunsL.go tabOk fun J hJ => ?_
        simp only [go_sem, Nat.reduceAdd, Nat.reduceSub, Nat.reduceMul, Nat.reduceLT, Nat.reduceLeDiff, Nat.reduceEqDiff, Nat.reduceBEq, Int.reduceToNat]
        try simp (disch := omega) only [wrap_id]
        refine hJ _ _ (RunsL.nil ?_); clear hJ J
        repeat (first | refine RunsA.sq ?_ | refine RunsA.bk ?_ | refine RunsA.sk ?_ | refine RunsA.ex ?_ | refine RunsA.rt ?_ | refine At.n ?_ | refine At.x ?_ | refine At.r ?_ | refine At.bn ?_ | refine At.br ?_ | refine At.bx ?_ | refine At.by_ rfl ?_ | refine At.kx ?_ | refine At.kr ?_ | refine At.kn ?_ | refine At.er ?_ | refine At.en ?_ | (refine RunsA.rq tabOk fun J hJ => ?_; simp only [go_sem, Nat.reduceAdd, Nat.reduceSub, Nat.reduceMul, Nat.reduceLT, Nat.reduceLeDiff, Nat.reduceEqDiff, Nat.reduceBEq, Int.reduceToNat]; (try simp (disch := omega) only [wrap_id]); (repeat refine ⟨by omega, ?_⟩); refine hJ _ _ (RunsL.nil ?_); clear hJ J) | (refine RunsA.dq mixed tabOk (by kernel_rfl) fun J hJ => ?_; simp only [go_sem, Nat.reduceAdd, Nat.reduceSub, Nat.reduceMul, Nat.reduceLT, Nat.reduceLeDiff, Nat.reduceEqDiff, Nat.reduceBEq, Int.reduceToNat]; (try simp (disch := omega) only [wrap_id]); (repeat refine ⟨by omega, ?_⟩); refine hJ _ _ (QRuns.nil ?_); clear hJ J))
        refine RunsA.cond rfl (fun h => ?_) (fun h => ?_)
        · exfalso; simp only [decide_eq_true_eq] at h; omega
        repeat (first | refine RunsA.sq ?_ | refine RunsA.bk ?_ | refine RunsA.sk ?_ | refine RunsA.ex ?_ | refine RunsA.rt ?_ | refine At.n ?_ | refine At.x ?_ | refine At.r ?_ | refine At.bn ?_ | refine At.br ?_ | refine At.bx ?_ | refine At.by_ rfl ?_ | refine At.kx ?_ | refine At.kr ?_ | refine At.kn ?_ | refine At.er ?_ | refine At.en ?_ | (refine RunsA.rq tabOk fun J hJ => ?_; simp only [go_sem, Nat.reduceAdd, Nat.reduceSub, Nat.reduceMul, Nat.reduceLT, Nat.reduceLeDiff, Nat.reduceEqDiff, Nat.reduceBEq, Int.reduceToNat]; (try simp (disch := omega) only [wrap_id]); (repeat refine ⟨by omega, ?_⟩); refine hJ _ _ (RunsL.nil ?_); clear hJ J) | (refine RunsA.dq mixed tabOk (by kernel_rfl) fun J hJ => ?_; simp only [go_sem, Nat.reduceAdd, Nat.reduceSub, Nat.reduceMul, Nat.reduceLT, Nat.reduceLeDiff, Nat.reduceEqDiff, Nat.reduceBEq, Int.reduceToNat]; (try simp (disch := omega) only [wrap_id]); (repeat refine ⟨by omega, ?_⟩); refine hJ _ _ (QRuns.nil ?_); clear hJ J))
        refine RunsA.cond rfl (fun h => ?_) (fun h => ?_)
        · simp at h
        repeat (first | refine RunsA.sq ?_ | refine RunsA.bk ?_ | refine RunsA.sk ?_ | refine RunsA.ex ?_ | refine RunsA.rt ?_ | refine At.n ?_ | refine At.x ?_ | refine At.r ?_ | refine At.bn ?_ | refine At.br ?_ | refine At.bx ?_ | refine At.by_ rfl ?_ | refine At.kx ?_ | refine At.kr ?_ | refine At.kn ?_ | refine At.er ?_ | refine At.en ?_ | (refine RunsA.rq tabOk fun J hJ => ?_; simp only [go_sem, Nat.reduceAdd, Nat.reduceSub, Nat.reduceMul, Nat.reduceLT, Nat.reduceLeDiff, Nat.reduceEqDiff, Nat.reduceBEq, Int.reduceToNat]; (try simp (disch := omega) only [wrap_id]); (repeat refine ⟨by omega, ?_⟩); refine hJ _ _ (RunsL.nil ?_); clear hJ J) | (refine RunsA.dq mixed tabOk (by kernel_rfl) fun J hJ => ?_; simp only [go_sem, Nat.reduceAdd, Nat.reduceSub, Nat.reduceMul, Nat.reduceLT, Nat.reduceLeDiff, Nat.reduceEqDiff, Nat.reduceBEq, Int.reduceToNat]; (try simp (disch := omega) only [wrap_id]); (repeat refine ⟨by omega, ?_⟩); refine hJ _ _ (QRuns.nil ?_); clear hJ J))
        exact RetA.mk tabOk 0 rfl rfl rfl (by omega) rfl rfl rfl ⟨rfl, rfl, rfl⟩

end Go.Proofs.YtkhobcmkbldmiaaFw
