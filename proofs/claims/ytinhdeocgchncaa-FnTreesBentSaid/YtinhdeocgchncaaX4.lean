/- Drawn trees: the walk. -/
import Derived.Test.YtinhdeocgchncaaX3
namespace Go.Proofs.YtinhdeocgchncaaFw
open Go Go.RowKit
set_option linter.unusedVariables false
set_option linter.unusedSimpArgs false
set_option maxRecDepth 4000
set_option pp.deepTerms.threshold 6
set_option pp.deepTerms false

structure Dr where
  n : Str
  ms : List Str
  ks : List SegV
  ci : Nat
  ch : Int
def Dr.st (b : List Int) (more : List (Nat × AV)) (mo : List Go.Proofs.YtinhdeocgchncaaFw.Obj) (z : Dr) : St :=
  ⟨102, (0, .ptr 0 [] 3 0 0) :: (2, .ptr 768 [] 3 0 0) :: (3, .hd 2560 []) :: (4, .ptr 1280 [] 3 0 0) :: more,
    ⟨0, 3, [.agg [.row .ro 1 (bys b), .int .i64 z.ci, .int .i64 z.ch]]⟩ :: ⟨768, 3, [.agg [.str [], .row .own 1 [], .row .own 3 []]]⟩ :: ⟨2560, 1, strs nm7⟩ :: ⟨1280, 3, [.agg [.str z.n, .row .own 1 (strs z.ms), .row .own 3 (segsA .own z.ks)]]⟩ :: mo, false⟩

set_option maxHeartbeats 4000000 in
theorem l22Draw_ok (b : List Int) (hb : b.length ≤ 140737488355328) (i : Nat) (h : Int) (hi : i ≤ b.length) :
    FnA Try.prog 26 false [.ptr 0 [] 3 0 0] [(3, [.agg [.row .ro 1 (bys b), .int .i64 i, .int .i64 h]])]
      (fun r os ros => ∃ n ms ks k, k ≤ 7 ∧ DrP k (.mk n ms ks) ∧ r = .agg [.str n, .hd 100 [], .hd 101 []] ∧ (∃ (i' : Nat) (h' : Int), i' ≤ b.length ∧ os = [(3, [.agg [.row .ro 1 (bys b), .int .i64 i', .int .i64 h']])]) ∧
        ros = [(1, strs ms), (3, segsA .own ks)]) := by
  refine FnA.of Try.func26 rfl (by decide) Try.ntmps26 (by simp) ?_
  repeat (first | refine RunsA.sq ?_ | refine RunsA.bk ?_ | refine RunsA.sk ?_ | refine RunsA.ex ?_ | refine RunsA.rt ?_ | refine At.n ?_ | refine At.x ?_ | refine At.r ?_ | refine At.bn ?_ | refine At.br ?_ | refine At.bx ?_ | refine At.by_ rfl ?_ | refine At.kx ?_ | refine At.kr ?_ | refine At.kn ?_ | refine At.er ?_ | refine At.en ?_ | (refine RunsA.rq tabOk fun J hJ => ?_; simp only [go_sem, ↓reduceIte, Nat.reduceAdd, Nat.reduceSub, Nat.reduceMul, Nat.reduceLT, Nat.reduceLeDiff, Nat.reduceEqDiff, Nat.reduceBEq, Int.reduceToNat]; (try simp (disch := omega) only [wrap_id]); (repeat refine ⟨by omega, ?_⟩); refine hJ _ _ (RunsL.nil ?_); clear hJ J) | (refine RunsA.dq mixed tabOk (by kernel_rfl) fun J hJ => ?_; simp only [go_sem, ↓reduceIte, Nat.reduceAdd, Nat.reduceSub, Nat.reduceMul, Nat.reduceLT, Nat.reduceLeDiff, Nat.reduceEqDiff, Nat.reduceBEq, Int.reduceToNat]; (try simp (disch := omega) only [wrap_id]); (repeat refine ⟨by omega, ?_⟩); refine hJ _ _ (QRuns.nil ?_); clear hJ J))
  refine RunsA.loop ?_
  refine (LoopA.ind (fun p : Nat × Dr => p.2.st b [(5, .int .i64 p.1)] []) (fun p => 8 - p.1) (fun p => 1 ≤ p.1 ∧ p.1 ≤ 7 ∧ DrP p.1 (.mk p.2.n p.2.ms p.2.ks) ∧ p.2.ci ≤ b.length) ?_ (1, ⟨[114, 111, 111, 116], [[109, 48]], [], i, h⟩) ?_).sub rfl ?_ ?_ rfl
  rotate_left
  · exact ⟨by omega, by omega, DrP.start, hi⟩
  · simp [Dr.st, SubS, lookS]
  · simp [Dr.st, SubO, lookO, strs, segsA, nm7]
  rintro ⟨i, ⟨n, ms, ks, ci, ch⟩⟩ ⟨h1, h7, hP, hc⟩ K3 hK3
  simp only at h1 h7 hP hc
  simp only [Dr.st]
  repeat (first | refine RunsA.sq ?_ | refine RunsA.bk ?_ | refine RunsA.sk ?_ | refine RunsA.ex ?_ | refine RunsA.rt ?_ | refine At.n ?_ | refine At.x ?_ | refine At.r ?_ | refine At.bn ?_ | refine At.br ?_ | refine At.bx ?_ | refine At.by_ rfl ?_ | refine At.kx ?_ | refine At.kr ?_ | refine At.kn ?_ | refine At.er ?_ | refine At.en ?_ | (refine RunsA.rq tabOk fun J hJ => ?_; simp only [go_sem, ↓reduceIte, Nat.reduceAdd, Nat.reduceSub, Nat.reduceMul, Nat.reduceLT, Nat.reduceLeDiff, Nat.reduceEqDiff, Nat.reduceBEq, Int.reduceToNat]; (try simp (disch := omega) only [wrap_id]); (repeat refine ⟨by omega, ?_⟩); refine hJ _ _ (RunsL.nil ?_); clear hJ J) | (refine RunsA.dq mixed tabOk (by kernel_rfl) fun J hJ => ?_; simp only [go_sem, ↓reduceIte, Nat.reduceAdd, Nat.reduceSub, Nat.reduceMul, Nat.reduceLT, Nat.reduceLeDiff, Nat.reduceEqDiff, Nat.reduceBEq, Int.reduceToNat]; (try simp (disch := omega) only [wrap_id]); (repeat refine ⟨by omega, ?_⟩); refine hJ _ _ (QRuns.nil ?_); clear hJ J))
  refine RunsA.rq tabOk fun J hJ => ?_
  simp only [go_sem, ↓reduceIte, Nat.reduceAdd, Nat.reduceSub, Nat.reduceMul, Nat.reduceLT, Nat.reduceLeDiff, Nat.reduceEqDiff, Nat.reduceBEq, Int.reduceToNat]
  try simp (disch := omega) only [wrap_id]
  refine hJ _ _ (RunsL.call (ps := [0]) (rid := 16) rfl rfl rfl rfl rfl (by simp only [go_sem, Nat.reduceEqDiff]; first | done | rfl) (l1Below_ok b hb ci ch hc 6) rfl (by decide) ⟨by decide, by decide, rfl⟩ (by first | exact .inl rfl | exact .inr (.inl rfl) | exact .inr (.inr rfl)) ?_); clear hJ J
  rintro r os' ros ⟨⟨x6, hx6, rfl⟩, ⟨ci1, ch1, hc1, rfl⟩, rfl⟩ _
  refine RunsL.go tabOk fun J hJ => ?_
  simp only [go_sem, ↓reduceIte, Nat.reduceAdd, Nat.reduceSub, Nat.reduceMul, Nat.reduceLT, Nat.reduceLeDiff, Nat.reduceEqDiff, Nat.reduceBEq, Int.reduceToNat]
  try simp (disch := omega) only [wrap_id]
  refine hJ _ _ (RunsL.nil ?_); clear hJ J
  repeat (first | refine RunsA.sq ?_ | refine RunsA.bk ?_ | refine RunsA.sk ?_ | refine RunsA.ex ?_ | refine RunsA.rt ?_ | refine At.n ?_ | refine At.x ?_ | refine At.r ?_ | refine At.bn ?_ | refine At.br ?_ | refine At.bx ?_ | refine At.by_ rfl ?_ | refine At.kx ?_ | refine At.kr ?_ | refine At.kn ?_ | refine At.er ?_ | refine At.en ?_ | (refine RunsA.rq tabOk fun J hJ => ?_; simp only [go_sem, ↓reduceIte, Nat.reduceAdd, Nat.reduceSub, Nat.reduceMul, Nat.reduceLT, Nat.reduceLeDiff, Nat.reduceEqDiff, Nat.reduceBEq, Int.reduceToNat]; (try simp (disch := omega) only [wrap_id]); (repeat refine ⟨by omega, ?_⟩); refine hJ _ _ (RunsL.nil ?_); clear hJ J) | (refine RunsA.dq mixed tabOk (by kernel_rfl) fun J hJ => ?_; simp only [go_sem, ↓reduceIte, Nat.reduceAdd, Nat.reduceSub, Nat.reduceMul, Nat.reduceLT, Nat.reduceLeDiff, Nat.reduceEqDiff, Nat.reduceBEq, Int.reduceToNat]; (try simp (disch := omega) only [wrap_id]); (repeat refine ⟨by omega, ?_⟩); refine hJ _ _ (QRuns.nil ?_); clear hJ J))
  refine RunsA.cond rfl (fun h2 => ?_) (fun h2 => ?_)
  · simp only [decide_eq_true_eq] at h2
    have hi6 : i ≤ 6 := by omega
    have em : Int.tmod (i : Int) 7 = i := by rw [Int.tmod_eq_emod_of_nonneg (by omega)]; omega
    have hg : (strs nm7)[i]? = some (.str (nm7.getD i [])) := by
      rw [strs_get (show i < nm7.length by simp [nm7]; omega), List.getD_eq_getElem?_getD, List.getElem?_eq_getElem]; rfl
    have hnl : (strs nm7).length = 7 := rfl
    repeat (first | refine RunsA.sq ?_ | refine RunsA.bk ?_ | refine RunsA.sk ?_ | refine RunsA.ex ?_ | refine RunsA.rt ?_ | refine At.n ?_ | refine At.x ?_ | refine At.r ?_ | refine At.bn ?_ | refine At.br ?_ | refine At.bx ?_ | refine At.by_ rfl ?_ | refine At.kx ?_ | refine At.kr ?_ | refine At.kn ?_ | refine At.er ?_ | refine At.en ?_ | (refine RunsA.rq tabOk fun J hJ => ?_; simp only [go_sem, ↓reduceIte, Nat.reduceAdd, Nat.reduceSub, Nat.reduceMul, Nat.reduceLT, Nat.reduceLeDiff, Nat.reduceEqDiff, Nat.reduceBEq, Int.reduceToNat, em, hnl, hg]; (try simp (disch := omega) only [wrap_id]); (repeat refine ⟨by omega, ?_⟩); refine hJ _ _ (RunsL.nil ?_); clear hJ J) | (refine RunsA.dq mixed tabOk (by kernel_rfl) fun J hJ => ?_; simp only [go_sem, ↓reduceIte, Nat.reduceAdd, Nat.reduceSub, Nat.reduceMul, Nat.reduceLT, Nat.reduceLeDiff, Nat.reduceEqDiff, Nat.reduceBEq, Int.reduceToNat, em, hnl, hg]; (try simp (disch := omega) only [wrap_id]); (repeat refine ⟨by omega, ?_⟩); refine hJ _ _ (QRuns.nil ?_); clear hJ J))
    refine RunsA.rq tabOk fun J hJ => ?_
    simp only [go_sem, ↓reduceIte, Nat.reduceAdd, Nat.reduceSub, Nat.reduceMul, Nat.reduceLT, Nat.reduceLeDiff, Nat.reduceEqDiff, Nat.reduceBEq, Int.reduceToNat]
    try simp (disch := omega) only [wrap_id]
    refine hJ _ _ (RunsL.call (ps := [0]) (rid := 16) rfl rfl rfl rfl rfl (by simp only [go_sem, Nat.reduceEqDiff]; first | done | rfl) (l1Below_ok b hb ci1 ch1 hc1 3) rfl (by decide) ⟨by decide, by decide, rfl⟩ (by first | exact .inl rfl | exact .inr (.inl rfl) | exact .inr (.inr rfl)) ?_); clear hJ J
    rintro r os' ros ⟨⟨x3, hx3, rfl⟩, ⟨ci2, ch2, hc2, rfl⟩, rfl⟩ _
    refine RunsL.go tabOk fun J hJ => ?_
    simp only [go_sem, ↓reduceIte, Nat.reduceAdd, Nat.reduceSub, Nat.reduceMul, Nat.reduceLT, Nat.reduceLeDiff, Nat.reduceEqDiff, Nat.reduceBEq, Int.reduceToNat]
    try simp (disch := omega) only [wrap_id]
    refine hJ _ _ (RunsL.nil ?_); clear hJ J
    repeat (first | refine RunsA.sq ?_ | refine RunsA.bk ?_ | refine RunsA.sk ?_ | refine RunsA.ex ?_ | refine RunsA.rt ?_ | refine At.n ?_ | refine At.x ?_ | refine At.r ?_ | refine At.bn ?_ | refine At.br ?_ | refine At.bx ?_ | refine At.by_ rfl ?_ | refine At.kx ?_ | refine At.kr ?_ | refine At.kn ?_ | refine At.er ?_ | refine At.en ?_ | (refine RunsA.rq tabOk fun J hJ => ?_; simp only [go_sem, ↓reduceIte, Nat.reduceAdd, Nat.reduceSub, Nat.reduceMul, Nat.reduceLT, Nat.reduceLeDiff, Nat.reduceEqDiff, Nat.reduceBEq, Int.reduceToNat]; (try simp (disch := omega) only [wrap_id]); (repeat refine ⟨by omega, ?_⟩); refine hJ _ _ (RunsL.nil ?_); clear hJ J) | (refine RunsA.dq mixed tabOk (by kernel_rfl) fun J hJ => ?_; simp only [go_sem, ↓reduceIte, Nat.reduceAdd, Nat.reduceSub, Nat.reduceMul, Nat.reduceLT, Nat.reduceLeDiff, Nat.reduceEqDiff, Nat.reduceBEq, Int.reduceToNat]; (try simp (disch := omega) only [wrap_id]); (repeat refine ⟨by omega, ?_⟩); refine hJ _ _ (QRuns.nil ?_); clear hJ J))
    refine RunsA.loop ?_
    refine (LoopA.ind (fun p : Nat × List Str => Dr.st b [(5, .int .i64 i), (6, .ptr 1792 [] 3 0 0), (7, .int .i64 p.1)] [⟨1792, 3, [.agg [.str (nm7.getD i []), .row .own 1 (strs p.2), .row .own 3 []]]⟩] ⟨n, ms, ks, ci2, ch2⟩) (fun p => p.1) (fun p => p.2.Nodup ∧ p.2.length + p.1 ≤ 2 ∧ ∀ m ∈ p.2, ∃ j, p.1 < j ∧ j < 8 ∧ m = mtx i j) ?_ (x3, []) ?_).sub rfl ?_ ?_ rfl
    rotate_left
    · exact ⟨by simp, by simp only [List.length_nil]; omega, by simp⟩
    · simp [Dr.st, SubS, lookS]
    · simp [Dr.st, SubO, lookO, strs, segsA]
    rintro ⟨j, lm⟩ ⟨hln, hll, hlm⟩ K4 hK4
    simp only at hln hll hlm
    simp only [Dr.st]
    repeat (first | refine RunsA.sq ?_ | refine RunsA.bk ?_ | refine RunsA.sk ?_ | refine RunsA.ex ?_ | refine RunsA.rt ?_ | refine At.n ?_ | refine At.x ?_ | refine At.r ?_ | refine At.bn ?_ | refine At.br ?_ | refine At.bx ?_ | refine At.by_ rfl ?_ | refine At.kx ?_ | refine At.kr ?_ | refine At.kn ?_ | refine At.er ?_ | refine At.en ?_ | (refine RunsA.rq tabOk fun J hJ => ?_; simp only [go_sem, ↓reduceIte, Nat.reduceAdd, Nat.reduceSub, Nat.reduceMul, Nat.reduceLT, Nat.reduceLeDiff, Nat.reduceEqDiff, Nat.reduceBEq, Int.reduceToNat]; (try simp (disch := omega) only [wrap_id]); (repeat refine ⟨by omega, ?_⟩); refine hJ _ _ (RunsL.nil ?_); clear hJ J) | (refine RunsA.dq mixed tabOk (by kernel_rfl) fun J hJ => ?_; simp only [go_sem, ↓reduceIte, Nat.reduceAdd, Nat.reduceSub, Nat.reduceMul, Nat.reduceLT, Nat.reduceLeDiff, Nat.reduceEqDiff, Nat.reduceBEq, Int.reduceToNat]; (try simp (disch := omega) only [wrap_id]); (repeat refine ⟨by omega, ?_⟩); refine hJ _ _ (QRuns.nil ?_); clear hJ J))
    refine RunsA.cond rfl (fun h3 => ?_) (fun h3 => ?_)
    · simp only [decide_eq_true_eq] at h3
      repeat (first | refine RunsA.sq ?_ | refine RunsA.bk ?_ | refine RunsA.sk ?_ | refine RunsA.ex ?_ | refine RunsA.rt ?_ | refine At.n ?_ | refine At.x ?_ | refine At.r ?_ | refine At.bn ?_ | refine At.br ?_ | refine At.bx ?_ | refine At.by_ rfl ?_ | refine At.kx ?_ | refine At.kr ?_ | refine At.kn ?_ | refine At.er ?_ | refine At.en ?_ | (refine RunsA.rq tabOk fun J hJ => ?_; simp only [go_sem, ↓reduceIte, Nat.reduceAdd, Nat.reduceSub, Nat.reduceMul, Nat.reduceLT, Nat.reduceLeDiff, Nat.reduceEqDiff, Nat.reduceBEq, Int.reduceToNat]; (try simp (disch := omega) only [wrap_id]); (repeat refine ⟨by omega, ?_⟩); refine hJ _ _ (RunsL.nil ?_); clear hJ J) | (refine RunsA.dq mixed tabOk (by kernel_rfl) fun J hJ => ?_; simp only [go_sem, ↓reduceIte, Nat.reduceAdd, Nat.reduceSub, Nat.reduceMul, Nat.reduceLT, Nat.reduceLeDiff, Nat.reduceEqDiff, Nat.reduceBEq, Int.reduceToNat]; (try simp (disch := omega) only [wrap_id]); (repeat refine ⟨by omega, ?_⟩); refine hJ _ _ (QRuns.nil ?_); clear hJ J))
      refine RunsA.dag (Ω := Unit) mixed () [(1, [(0, 0)]), (4, [(0, 2)]), (32, [(0, 5)]), (3, [(1, 1)]), (5, [(1, 2), (4, 0)]), (33, [(1, 5), (32, 0)]), (12, [(4, 3)]), (36, [(4, 5), (32, 2)]), (7, [(3, 2), (5, 1)]), (35, [(3, 5), (33, 1)]), (13, [(5, 3), (12, 0)]), (37, [(5, 5), (33, 2), (36, 0)]), (28, [(12, 4)]), (44, [(12, 5), (36, 3)]), (15, [(7, 3), (13, 1)]), (39, [(7, 5), (35, 2), (37, 1)]), (29, [(13, 4), (28, 0)]), (45, [(13, 5), (37, 3), (44, 0)]), (60, [(28, 5), (44, 4)]), (108, [(44, 6)]), (31, [(15, 4), (29, 1)]), (47, [(15, 5), (39, 3), (45, 1)]), (61, [(29, 5), (45, 4), (60, 0)]), (109, [(45, 6), (108, 0)]), (124, [(60, 6), (108, 4)]), (63, [(31, 5), (47, 4), (61, 1)]), (111, [(47, 6), (109, 1)]), (125, [(61, 6), (109, 4), (124, 0)]), (252, [(124, 7)]), (127, [(63, 6), (111, 4), (125, 1)]), (253, [(125, 7), (252, 0)]), (508, [(252, 8)]), (255, [(127, 7), (253, 1)]), (509, [(253, 8), (508, 0)]), (511, [(255, 8), (509, 1)]), (1023, [(511, 9)]), (2047, [(1023, 10)]), (4095, [(2047, 11)])] (by kernel_rfl) ?_
      repeat
        (apply DagP.step
         · repeat
             (apply EdgesP.cons rfl rfl
              · intro ω
                refine RunsL.go tabOk fun J hJ => ?_
                simp only [go_sem, ↓reduceIte, Nat.reduceAdd, Nat.reduceSub, Nat.reduceMul, Nat.reduceLT, Nat.reduceLeDiff, Nat.reduceEqDiff, Nat.reduceBEq, Int.reduceToNat, dg, strs_len, List.length_cons, List.length_nil, List.length_append]
                try simp (disch := omega) only [wrap_id]
                (repeat refine ⟨by omega, ?_⟩)
                first
                  | (refine hJ _ _ (RunsL.nil ?_); clear hJ J; first | exact ⟨ω, LeS.refl _⟩ | exact ⟨ω, LeS.of rfl (by simp only [SubS, lookS, Nat.reduceEqDiff, ↓reduceIte, and_self]) (by simp only [SubO, lookO, Nat.reduceEqDiff, ↓reduceIte, and_self]) rfl⟩)
                  | (refine hJ _ _ (RunsL.call (ps := []) (rid := 16) rfl rfl rfl rfl rfl (by simp only [go_sem, Nat.reduceEqDiff, dg, strs_len, List.length_cons, List.length_nil, List.length_append]; first | done | rfl) (oct1_ok i (by omega)) rfl (by decide) ⟨by decide, by decide, rfl⟩ (by first | exact .inl rfl | exact .inr (.inl rfl) | exact .inr (.inr rfl)) ?_); clear hJ J
                     rintro r os' ros ⟨rfl, rfl, rfl⟩ _
                     refine RunsL.go tabOk fun J hJ => ?_
                     simp only [go_sem, ↓reduceIte, Nat.reduceAdd, Nat.reduceSub, Nat.reduceMul, Nat.reduceLT, Nat.reduceLeDiff, Nat.reduceEqDiff, Nat.reduceBEq, Int.reduceToNat, dg, strs_len, List.length_cons, List.length_nil, List.length_append]
                     try simp (disch := omega) only [wrap_id]
                     (repeat refine ⟨by omega, ?_⟩)
                     refine hJ _ _ (RunsL.nil ?_)
                     clear hJ J
                     first | exact ⟨ω, LeS.refl _⟩ | exact ⟨ω, LeS.of rfl (by simp only [SubS, lookS, Nat.reduceEqDiff, ↓reduceIte, and_self]) (by simp only [SubO, lookO, Nat.reduceEqDiff, ↓reduceIte, and_self]) rfl⟩)
                  | (refine hJ _ _ (RunsL.call (ps := []) (rid := 16) rfl rfl rfl rfl rfl (by simp only [go_sem, Nat.reduceEqDiff, dg, strs_len, List.length_cons, List.length_nil, List.length_append]; first | done | rfl) (oct1_ok j (by omega)) rfl (by decide) ⟨by decide, by decide, rfl⟩ (by first | exact .inl rfl | exact .inr (.inl rfl) | exact .inr (.inr rfl)) ?_); clear hJ J
                     rintro r os' ros ⟨rfl, rfl, rfl⟩ _
                     refine RunsL.go tabOk fun J hJ => ?_
                     simp only [go_sem, ↓reduceIte, Nat.reduceAdd, Nat.reduceSub, Nat.reduceMul, Nat.reduceLT, Nat.reduceLeDiff, Nat.reduceEqDiff, Nat.reduceBEq, Int.reduceToNat, dg, strs_len, List.length_cons, List.length_nil, List.length_append]
                     try simp (disch := omega) only [wrap_id]
                     (repeat refine ⟨by omega, ?_⟩)
                     refine hJ _ _ (RunsL.nil ?_)
                     clear hJ J
                     first | exact ⟨ω, LeS.refl _⟩ | exact ⟨ω, LeS.of rfl (by simp only [SubS, lookS, Nat.reduceEqDiff, ↓reduceIte, and_self]) (by simp only [SubO, lookO, Nat.reduceEqDiff, ↓reduceIte, and_self]) rfl⟩))
           exact EdgesP.nil)
      refine DagP.done fun ω => ?_
      obtain ⟨j', rfl⟩ : ∃ j', j = j' + 1 := ⟨j - 1, by omega⟩
      have e1 : ((j' + 1 : Nat) : Int) - 1 = (j' : Int) := by omega
      repeat (first | refine RunsA.sq ?_ | refine RunsA.bk ?_ | refine RunsA.sk ?_ | refine RunsA.ex ?_ | refine RunsA.rt ?_ | refine At.n ?_ | refine At.x ?_ | refine At.r ?_ | refine At.bn ?_ | refine At.br ?_ | refine At.bx ?_ | refine At.by_ rfl ?_ | refine At.kx ?_ | refine At.kr ?_ | refine At.kn ?_ | refine At.er ?_ | refine At.en ?_ | (refine RunsA.rq tabOk fun J hJ => ?_; simp only [go_sem, ↓reduceIte, Nat.reduceAdd, Nat.reduceSub, Nat.reduceMul, Nat.reduceLT, Nat.reduceLeDiff, Nat.reduceEqDiff, Nat.reduceBEq, Int.reduceToNat, e1]; (try simp (disch := omega) only [wrap_id]); (repeat refine ⟨by omega, ?_⟩); refine hJ _ _ (RunsL.nil ?_); clear hJ J) | (refine RunsA.dq mixed tabOk (by kernel_rfl) fun J hJ => ?_; simp only [go_sem, ↓reduceIte, Nat.reduceAdd, Nat.reduceSub, Nat.reduceMul, Nat.reduceLT, Nat.reduceLeDiff, Nat.reduceEqDiff, Nat.reduceBEq, Int.reduceToNat, e1]; (try simp (disch := omega) only [wrap_id]); (repeat refine ⟨by omega, ?_⟩); refine hJ _ _ (QRuns.nil ?_); clear hJ J))
      refine hK4 (j', lm ++ [mtx i (j' + 1)]) _ ⟨?_, ?_, ?_⟩ (by simp only; omega) rfl ?_ ?_ rfl
      · refine List.nodup_append.2 ⟨hln, by simp, ?_⟩
        intro a ha c hc' e
        rw [List.mem_singleton.1 hc'] at e
        obtain ⟨j2, g1, g2, g3⟩ := hlm a ha
        rw [e] at g3
        have := (mtx_inj (by omega) (by omega) (by omega) g2 g3).2
        omega
      · simp only [List.length_append, List.length_cons, List.length_nil]; omega
      · intro m hm
        rcases List.mem_append.1 hm with hm | hm
        · obtain ⟨j2, g1, g2, g3⟩ := hlm m hm
          exact ⟨j2, by omega, g2, g3⟩
        · rw [List.mem_singleton.1 hm]; exact ⟨j' + 1, by omega, by omega, rfl⟩
      · simp [Dr.st, SubS, lookS]
      · simp [Dr.st, SubO, lookO, strs, segsA, mtx, dg]
    · simp only [decide_eq_false_iff_not] at h3
      have hL : LfP i (nm7.getD i []) lm := ⟨by omega, rfl, hln, by omega, fun m hm => by obtain ⟨j2, _, g2, g3⟩ := hlm m hm; exact ⟨j2, g2, g3⟩⟩
      have hkl : ks.length ≤ 7 := by
        have g1 := namesL_ge ks
        have g2 := hP.nl
        simp only [SegV.names, List.length_cons] at g2
        omega
      by_cases hk : ks.length = 0
      · obtain rfl : ks = [] := List.eq_nil_of_length_eq_zero hk
        repeat (first | refine RunsA.sq ?_ | refine RunsA.bk ?_ | refine RunsA.sk ?_ | refine RunsA.ex ?_ | refine RunsA.rt ?_ | refine At.n ?_ | refine At.x ?_ | refine At.r ?_ | refine At.bn ?_ | refine At.br ?_ | refine At.bx ?_ | refine At.by_ rfl ?_ | refine At.kx ?_ | refine At.kr ?_ | refine At.kn ?_ | refine At.er ?_ | refine At.en ?_ | (refine RunsA.rq tabOk fun J hJ => ?_; simp only [go_sem, ↓reduceIte, Nat.reduceAdd, Nat.reduceSub, Nat.reduceMul, Nat.reduceLT, Nat.reduceLeDiff, Nat.reduceEqDiff, Nat.reduceBEq, Int.reduceToNat, segsA_len, List.length_nil]; (try simp (disch := omega) only [wrap_id]); (repeat refine ⟨by omega, ?_⟩); refine hJ _ _ (RunsL.nil ?_); clear hJ J) | (refine RunsA.dq mixed tabOk (by kernel_rfl) fun J hJ => ?_; simp only [go_sem, ↓reduceIte, Nat.reduceAdd, Nat.reduceSub, Nat.reduceMul, Nat.reduceLT, Nat.reduceLeDiff, Nat.reduceEqDiff, Nat.reduceBEq, Int.reduceToNat, segsA_len, List.length_nil]; (try simp (disch := omega) only [wrap_id]); (repeat refine ⟨by omega, ?_⟩); refine hJ _ _ (QRuns.nil ?_); clear hJ J))
        refine RunsA.cond rfl (fun h4 => absurd h4 (by simp)) (fun h4 => ?_)
        repeat (first | refine RunsA.sq ?_ | refine RunsA.bk ?_ | refine RunsA.sk ?_ | refine RunsA.ex ?_ | refine RunsA.rt ?_ | refine At.n ?_ | refine At.x ?_ | refine At.r ?_ | refine At.bn ?_ | refine At.br ?_ | refine At.bx ?_ | refine At.by_ rfl ?_ | refine At.kx ?_ | refine At.kr ?_ | refine At.kn ?_ | refine At.er ?_ | refine At.en ?_ | (refine RunsA.rq tabOk fun J hJ => ?_; simp only [go_sem, ↓reduceIte, Nat.reduceAdd, Nat.reduceSub, Nat.reduceMul, Nat.reduceLT, Nat.reduceLeDiff, Nat.reduceEqDiff, Nat.reduceBEq, Int.reduceToNat, segsA_len, List.length_nil]; (try simp (disch := omega) only [wrap_id]); (repeat refine ⟨by omega, ?_⟩); refine hJ _ _ (RunsL.nil ?_); clear hJ J) | (refine RunsA.dq mixed tabOk (by kernel_rfl) fun J hJ => ?_; simp only [go_sem, ↓reduceIte, Nat.reduceAdd, Nat.reduceSub, Nat.reduceMul, Nat.reduceLT, Nat.reduceLeDiff, Nat.reduceEqDiff, Nat.reduceBEq, Int.reduceToNat, segsA_len, List.length_nil]; (try simp (disch := omega) only [wrap_id]); (repeat refine ⟨by omega, ?_⟩); refine hJ _ _ (QRuns.nil ?_); clear hJ J))
        refine hK3 (i + 1, ⟨n, ms, [] ++ [.mk (nm7.getD i []) lm []], ci2, ch2⟩) _ ⟨by simp only; omega, by simp only; omega, hP.root hL, hc2⟩ (by simp only; omega) rfl ?_ ?_ rfl
        · simp [Dr.st, SubS, lookS]
        · simp [Dr.st, SubO, lookO, strs, segsA, segA_mk]
      · have c1 : decide ((0 : Int) < (ks.length : Int)) = true := decide_eq_true (by omega)
        repeat (first | refine RunsA.sq ?_ | refine RunsA.bk ?_ | refine RunsA.sk ?_ | refine RunsA.ex ?_ | refine RunsA.rt ?_ | refine At.n ?_ | refine At.x ?_ | refine At.r ?_ | refine At.bn ?_ | refine At.br ?_ | refine At.bx ?_ | refine At.by_ rfl ?_ | refine At.kx ?_ | refine At.kr ?_ | refine At.kn ?_ | refine At.er ?_ | refine At.en ?_ | (refine RunsA.rq tabOk fun J hJ => ?_; simp only [go_sem, ↓reduceIte, Nat.reduceAdd, Nat.reduceSub, Nat.reduceMul, Nat.reduceLT, Nat.reduceLeDiff, Nat.reduceEqDiff, Nat.reduceBEq, Int.reduceToNat, segsA_len, c1]; (try simp (disch := omega) only [wrap_id]); (repeat refine ⟨by omega, ?_⟩); refine hJ _ _ (RunsL.nil ?_); clear hJ J) | (refine RunsA.dq mixed tabOk (by kernel_rfl) fun J hJ => ?_; simp only [go_sem, ↓reduceIte, Nat.reduceAdd, Nat.reduceSub, Nat.reduceMul, Nat.reduceLT, Nat.reduceLeDiff, Nat.reduceEqDiff, Nat.reduceBEq, Int.reduceToNat, segsA_len, c1]; (try simp (disch := omega) only [wrap_id]); (repeat refine ⟨by omega, ?_⟩); refine hJ _ _ (QRuns.nil ?_); clear hJ J))
        refine RunsA.rq tabOk fun J hJ => ?_
        simp only [go_sem, ↓reduceIte, Nat.reduceAdd, Nat.reduceSub, Nat.reduceMul, Nat.reduceLT, Nat.reduceLeDiff, Nat.reduceEqDiff, Nat.reduceBEq, Int.reduceToNat, segsA_len, c1]
        try simp (disch := omega) only [wrap_id]
        refine hJ _ _ (RunsL.call (ps := [0]) (rid := 16) rfl rfl rfl rfl rfl (by simp only [go_sem, Nat.reduceEqDiff]; first | done | rfl) (l1Once_ok b hb ci2 ch2 hc2 2) rfl (by decide) ⟨by decide, by decide, rfl⟩ (by first | exact .inl rfl | exact .inr (.inl rfl) | exact .inr (.inr rfl)) ?_); clear hJ J
        rintro r os' ros ⟨⟨y, rfl⟩, ⟨ci3, ch3, hc3, rfl⟩, rfl⟩ _
        refine RunsL.go tabOk fun J hJ => ?_
        simp only [go_sem, ↓reduceIte, Nat.reduceAdd, Nat.reduceSub, Nat.reduceMul, Nat.reduceLT, Nat.reduceLeDiff, Nat.reduceEqDiff, Nat.reduceBEq, Int.reduceToNat]
        try simp (disch := omega) only [wrap_id]
        (repeat refine ⟨by omega, ?_⟩)
        refine hJ _ _ (RunsL.nil ?_); clear hJ J
        repeat (first | refine RunsA.sq ?_ | refine RunsA.bk ?_ | refine RunsA.sk ?_ | refine RunsA.ex ?_ | refine RunsA.rt ?_ | refine At.n ?_ | refine At.x ?_ | refine At.r ?_ | refine At.bn ?_ | refine At.br ?_ | refine At.bx ?_ | refine At.by_ rfl ?_ | refine At.kx ?_ | refine At.kr ?_ | refine At.kn ?_ | refine At.er ?_ | refine At.en ?_ | (refine RunsA.rq tabOk fun J hJ => ?_; simp only [go_sem, ↓reduceIte, Nat.reduceAdd, Nat.reduceSub, Nat.reduceMul, Nat.reduceLT, Nat.reduceLeDiff, Nat.reduceEqDiff, Nat.reduceBEq, Int.reduceToNat]; (try simp (disch := omega) only [wrap_id]); (repeat refine ⟨by omega, ?_⟩); refine hJ _ _ (RunsL.nil ?_); clear hJ J) | (refine RunsA.dq mixed tabOk (by kernel_rfl) fun J hJ => ?_; simp only [go_sem, ↓reduceIte, Nat.reduceAdd, Nat.reduceSub, Nat.reduceMul, Nat.reduceLT, Nat.reduceLeDiff, Nat.reduceEqDiff, Nat.reduceBEq, Int.reduceToNat]; (try simp (disch := omega) only [wrap_id]); (repeat refine ⟨by omega, ?_⟩); refine hJ _ _ (QRuns.nil ?_); clear hJ J))
        refine RunsA.cond rfl (fun h4 => ?_) (fun h4 => ?_)
        · refine RunsA.sq ?_
          refine RunsA.dag (Ω := {p : Nat × Nat × Int // p.1 < ks.length ∧ p.2.1 ≤ b.length}) mixed ⟨(0, ci3, ch3), by simp only; omega, hc3⟩ [(1, [(0, 0)]), (4, [(0, 2)]), (8, [(0, 3)]), (3, [(1, 1)]), (5, [(1, 2), (4, 0)]), (9, [(1, 3), (8, 0)]), (12, [(4, 3), (8, 2)]), (24, [(8, 4)]), (7, [(3, 2), (5, 1)]), (11, [(3, 3), (9, 1)]), (13, [(5, 3), (9, 2), (12, 0)]), (25, [(9, 4), (24, 0)]), (28, [(12, 4), (24, 2)]), (56, [(24, 5)]), (15, [(7, 3), (11, 2), (13, 1)]), (27, [(11, 4), (25, 1)]), (29, [(13, 4), (25, 2), (28, 0)]), (57, [(25, 5), (56, 0)]), (60, [(28, 5), (56, 2)]), (31, [(15, 4), (27, 2), (29, 1)]), (59, [(27, 5), (57, 1)]), (61, [(29, 5), (57, 2), (60, 0)]), (124, [(60, 6)]), (63, [(31, 5), (59, 2), (61, 1)]), (125, [(61, 6), (124, 0)]), (127, [(63, 6), (125, 1)]), (255, [(127, 7)]), (511, [(255, 8)])] (by kernel_rfl) ?_
          repeat
            (apply DagP.step
             · repeat
                 (apply EdgesP.cons rfl rfl
                  · intro ω
                    have hw : ω.1.1 < ks.length ∧ ω.1.2.1 ≤ b.length := ω.2
                    refine RunsL.go tabOk fun J hJ => ?_
                    simp only [go_sem, ↓reduceIte, Nat.reduceAdd, Nat.reduceSub, Nat.reduceMul, Nat.reduceLT, Nat.reduceLeDiff, Nat.reduceEqDiff, Nat.reduceBEq, Int.reduceToNat, segsA_len]
                    try simp (disch := omega) only [wrap_id]
                    (repeat refine ⟨by omega, ?_⟩)
                    first
                      | (refine hJ _ _ (RunsL.nil ?_); clear hJ J; first | exact ⟨ω, LeS.refl _⟩ | exact ⟨ω, LeS.of rfl (by simp only [SubS, lookS, Nat.reduceEqDiff, ↓reduceIte, and_self]) (by simp only [SubO, lookO, Nat.reduceEqDiff, ↓reduceIte, and_self]) rfl⟩)
                      | (refine hJ _ _ (RunsL.call (ps := [0]) (rid := 16) rfl rfl rfl rfl rfl (by simp only [go_sem, Nat.reduceEqDiff, segsA_len]; first | done | rfl) (l1Below_ok b hb ci3 ch3 hc3 ks.length) rfl (by decide) ⟨by decide, by decide, rfl⟩ (by first | exact .inl rfl | exact .inr (.inl rfl) | exact .inr (.inr rfl)) ?_); clear hJ J
                         rintro r os' ros ⟨⟨x, hx, rfl⟩, ⟨i', h', hi', rfl⟩, rfl⟩ _
                         obtain ⟨ω', rfl, rfl, rfl⟩ : ∃ ω' : {p : Nat × Nat × Int // p.1 < ks.length ∧ p.2.1 ≤ b.length}, ω'.1.1 = x ∧ ω'.1.2.1 = i' ∧ ω'.1.2.2 = h' := ⟨⟨(x, i', h'), by simp only; omega, hi'⟩, rfl, rfl, rfl⟩
                         refine RunsL.go tabOk fun J hJ => ?_
                         simp only [go_sem, ↓reduceIte, Nat.reduceAdd, Nat.reduceSub, Nat.reduceMul, Nat.reduceLT, Nat.reduceLeDiff, Nat.reduceEqDiff, Nat.reduceBEq, Int.reduceToNat, segsA_len]
                         try simp (disch := omega) only [wrap_id]
                         (repeat refine ⟨by omega, ?_⟩)
                         refine hJ _ _ (RunsL.nil ?_)
                         clear hJ J
                         first | exact ⟨ω', LeS.refl _⟩ | exact ⟨ω', LeS.of rfl (by simp only [SubS, lookS, Nat.reduceEqDiff, ↓reduceIte, and_self]) (by simp only [SubO, lookO, Nat.reduceEqDiff, ↓reduceIte, and_self]) rfl⟩))
               exact EdgesP.nil)
          refine DagP.done fun ω => ?_
          obtain ⟨⟨x, ci4, ch4⟩, hx, hc4⟩ := ω
          simp only at hx hc4
          rcases hkx : ks[x] with ⟨n1, m1, k1⟩
          have hgx : (segsA .own ks)[x]? = some (.agg [.str n1, .row .own 1 (strs m1), .row .own 3 (segsA .own k1)]) := by rw [segsA_get _ hx, hkx, segA_mk]
          have hset : ∀ v, ((segsA .own ks).set x v)[x]? = some v := fun v => List.getElem?_set_self (by rw [segsA_len]; exact hx)
          have hgn : (SegV.namesL k1).length + 2 ≤ i := by
            have g1 := namesL_mem ks ks[x] (List.getElem_mem hx)
            rw [hkx] at g1
            have g2 := hP.nl
            simp only [SegV.names, List.length_cons] at g1 g2
            omega
          have hk1l : k1.length ≤ 7 := by
            have g3 := namesL_ge k1
            omega
          refine At.n ?_
          refine RunsA.meetF (Ω := Option Nat × Nat × Int) (fun p => Dr.st b [(5, .int .i64 i), (6, .ptr 1792 [] 3 0 0), (8, match p.1 with | none => .ptr 1280 [(0, 2)] 3 x 0 | some y => .ptr 1280 [(0, 2), (x, 2)] 3 y 0)] [⟨1792, 3, [.agg [.str (nm7.getD i []), .row .own 1 (strs lm), .row .own 3 []]]⟩] ⟨n, ms, ks, p.2.1, p.2.2⟩)
            (fun p => p.2.1 ≤ b.length ∧ ∀ y, p.1 = some y → y < k1.length) ?_ ?_
          · by_cases hk1 : k1.length = 0
            · obtain rfl : k1 = [] := List.eq_nil_of_length_eq_zero hk1
              repeat (first | refine RunsA.sq ?_ | refine RunsA.bk ?_ | refine RunsA.sk ?_ | refine RunsA.ex ?_ | refine RunsA.rt ?_ | refine At.n ?_ | refine At.x ?_ | refine At.r ?_ | refine At.bn ?_ | refine At.br ?_ | refine At.bx ?_ | refine At.by_ rfl ?_ | refine At.kx ?_ | refine At.kr ?_ | refine At.kn ?_ | refine At.er ?_ | refine At.en ?_ | (refine RunsA.rq tabOk fun J hJ => ?_; simp only [go_sem, ↓reduceIte, Nat.reduceAdd, Nat.reduceSub, Nat.reduceMul, Nat.reduceLT, Nat.reduceLeDiff, Nat.reduceEqDiff, Nat.reduceBEq, Int.reduceToNat, segsA_len, hgx, List.length_nil]; (try simp (disch := omega) only [wrap_id]); (repeat refine ⟨by omega, ?_⟩); refine hJ _ _ (RunsL.nil ?_); clear hJ J) | (refine RunsA.dq mixed tabOk (by kernel_rfl) fun J hJ => ?_; simp only [go_sem, ↓reduceIte, Nat.reduceAdd, Nat.reduceSub, Nat.reduceMul, Nat.reduceLT, Nat.reduceLeDiff, Nat.reduceEqDiff, Nat.reduceBEq, Int.reduceToNat, segsA_len, hgx, List.length_nil]; (try simp (disch := omega) only [wrap_id]); (repeat refine ⟨by omega, ?_⟩); refine hJ _ _ (QRuns.nil ?_); clear hJ J))
              refine RunsA.cond rfl (fun h4 => absurd h4 (by simp)) (fun h4 => ?_)
              repeat (first | refine RunsA.sq ?_ | refine RunsA.bk ?_ | refine RunsA.sk ?_ | refine RunsA.ex ?_ | refine RunsA.rt ?_ | refine At.n ?_ | refine At.x ?_ | refine At.r ?_ | refine At.bn ?_ | refine At.br ?_ | refine At.bx ?_ | refine At.by_ rfl ?_ | refine At.kx ?_ | refine At.kr ?_ | refine At.kn ?_ | refine At.er ?_ | refine At.en ?_ | (refine RunsA.rq tabOk fun J hJ => ?_; simp only [go_sem, ↓reduceIte, Nat.reduceAdd, Nat.reduceSub, Nat.reduceMul, Nat.reduceLT, Nat.reduceLeDiff, Nat.reduceEqDiff, Nat.reduceBEq, Int.reduceToNat]; (try simp (disch := omega) only [wrap_id]); (repeat refine ⟨by omega, ?_⟩); refine hJ _ _ (RunsL.nil ?_); clear hJ J) | (refine RunsA.dq mixed tabOk (by kernel_rfl) fun J hJ => ?_; simp only [go_sem, ↓reduceIte, Nat.reduceAdd, Nat.reduceSub, Nat.reduceMul, Nat.reduceLT, Nat.reduceLeDiff, Nat.reduceEqDiff, Nat.reduceBEq, Int.reduceToNat]; (try simp (disch := omega) only [wrap_id]); (repeat refine ⟨by omega, ?_⟩); refine hJ _ _ (QRuns.nil ?_); clear hJ J))
              refine ⟨(none, ci4, ch4), ⟨hc4, fun y h => by simp at h⟩, rfl, ?_, ?_, rfl⟩
              · simp [Dr.st, SubS, lookS]
              · simp [Dr.st, SubO, lookO]
            · have c2 : decide ((0 : Int) < (k1.length : Int)) = true := decide_eq_true (by omega)
              repeat (first | refine RunsA.sq ?_ | refine RunsA.bk ?_ | refine RunsA.sk ?_ | refine RunsA.ex ?_ | refine RunsA.rt ?_ | refine At.n ?_ | refine At.x ?_ | refine At.r ?_ | refine At.bn ?_ | refine At.br ?_ | refine At.bx ?_ | refine At.by_ rfl ?_ | refine At.kx ?_ | refine At.kr ?_ | refine At.kn ?_ | refine At.er ?_ | refine At.en ?_ | (refine RunsA.rq tabOk fun J hJ => ?_; simp only [go_sem, ↓reduceIte, Nat.reduceAdd, Nat.reduceSub, Nat.reduceMul, Nat.reduceLT, Nat.reduceLeDiff, Nat.reduceEqDiff, Nat.reduceBEq, Int.reduceToNat, segsA_len, hgx, c2]; (try simp (disch := omega) only [wrap_id]); (repeat refine ⟨by omega, ?_⟩); refine hJ _ _ (RunsL.nil ?_); clear hJ J) | (refine RunsA.dq mixed tabOk (by kernel_rfl) fun J hJ => ?_; simp only [go_sem, ↓reduceIte, Nat.reduceAdd, Nat.reduceSub, Nat.reduceMul, Nat.reduceLT, Nat.reduceLeDiff, Nat.reduceEqDiff, Nat.reduceBEq, Int.reduceToNat, segsA_len, hgx, c2]; (try simp (disch := omega) only [wrap_id]); (repeat refine ⟨by omega, ?_⟩); refine hJ _ _ (QRuns.nil ?_); clear hJ J))
              refine RunsA.rq tabOk fun J hJ => ?_
              simp only [go_sem, ↓reduceIte, Nat.reduceAdd, Nat.reduceSub, Nat.reduceMul, Nat.reduceLT, Nat.reduceLeDiff, Nat.reduceEqDiff, Nat.reduceBEq, Int.reduceToNat, segsA_len, hgx, c2]
              try simp (disch := omega) only [wrap_id]
              refine hJ _ _ (RunsL.call (ps := [0]) (rid := 16) rfl rfl rfl rfl rfl (by simp only [go_sem, Nat.reduceEqDiff]; first | done | rfl) (l1Once_ok b hb ci4 ch4 hc4 3) rfl (by decide) ⟨by decide, by decide, rfl⟩ (by first | exact .inl rfl | exact .inr (.inl rfl) | exact .inr (.inr rfl)) ?_); clear hJ J
              rintro r os' ros ⟨⟨y2, rfl⟩, ⟨ci5, ch5, hc5, rfl⟩, rfl⟩ _
              refine RunsL.go tabOk fun J hJ => ?_
              simp only [go_sem, ↓reduceIte, Nat.reduceAdd, Nat.reduceSub, Nat.reduceMul, Nat.reduceLT, Nat.reduceLeDiff, Nat.reduceEqDiff, Nat.reduceBEq, Int.reduceToNat]
              try simp (disch := omega) only [wrap_id]
              (repeat refine ⟨by omega, ?_⟩)
              refine hJ _ _ (RunsL.nil ?_); clear hJ J
              repeat (first | refine RunsA.sq ?_ | refine RunsA.bk ?_ | refine RunsA.sk ?_ | refine RunsA.ex ?_ | refine RunsA.rt ?_ | refine At.n ?_ | refine At.x ?_ | refine At.r ?_ | refine At.bn ?_ | refine At.br ?_ | refine At.bx ?_ | refine At.by_ rfl ?_ | refine At.kx ?_ | refine At.kr ?_ | refine At.kn ?_ | refine At.er ?_ | refine At.en ?_ | (refine RunsA.rq tabOk fun J hJ => ?_; simp only [go_sem, ↓reduceIte, Nat.reduceAdd, Nat.reduceSub, Nat.reduceMul, Nat.reduceLT, Nat.reduceLeDiff, Nat.reduceEqDiff, Nat.reduceBEq, Int.reduceToNat]; (try simp (disch := omega) only [wrap_id]); (repeat refine ⟨by omega, ?_⟩); refine hJ _ _ (RunsL.nil ?_); clear hJ J) | (refine RunsA.dq mixed tabOk (by kernel_rfl) fun J hJ => ?_; simp only [go_sem, ↓reduceIte, Nat.reduceAdd, Nat.reduceSub, Nat.reduceMul, Nat.reduceLT, Nat.reduceLeDiff, Nat.reduceEqDiff, Nat.reduceBEq, Int.reduceToNat]; (try simp (disch := omega) only [wrap_id]); (repeat refine ⟨by omega, ?_⟩); refine hJ _ _ (QRuns.nil ?_); clear hJ J))
              refine RunsA.cond rfl (fun h4 => ?_) (fun h4 => ?_)
              · skip
                refine RunsA.dag (Ω := {p : Nat × Nat × Int // p.1 < k1.length ∧ p.2.1 ≤ b.length}) mixed ⟨(0, ci5, ch5), by simp only; omega, hc5⟩ [(1, [(0, 0)]), (16, [(0, 4)]), (32, [(0, 5)]), (3, [(1, 1)]), (17, [(1, 4), (16, 0)]), (33, [(1, 5), (32, 0)]), (48, [(16, 5), (32, 4)]), (96, [(32, 6)]), (7, [(3, 2)]), (19, [(3, 4), (17, 1)]), (35, [(3, 5), (33, 1)]), (49, [(17, 5), (33, 4), (48, 0)]), (97, [(33, 6), (96, 0)]), (112, [(48, 6), (96, 4)]), (224, [(96, 7)]), (15, [(7, 3)]), (23, [(7, 4), (19, 2)]), (39, [(7, 5), (35, 2)]), (51, [(19, 5), (35, 4), (49, 1)]), (99, [(35, 6), (97, 1)]), (113, [(49, 6), (97, 4), (112, 0)]), (225, [(97, 7), (224, 0)]), (240, [(112, 7), (224, 4)]), (480, [(224, 8)]), (31, [(15, 4), (23, 3)]), (47, [(15, 5), (39, 3)]), (55, [(23, 5), (39, 4), (51, 2)]), (103, [(39, 6), (99, 2)]), (115, [(51, 6), (99, 4), (113, 1)]), (227, [(99, 7), (225, 1)]), (241, [(113, 7), (225, 4), (240, 0)]), (481, [(225, 8), (480, 0)]), (496, [(240, 8), (480, 4)]), (992, [(480, 9)]), (63, [(31, 5), (47, 4), (55, 3)]), (111, [(47, 6), (103, 3)]), (119, [(55, 6), (103, 4), (115, 2)]), (231, [(103, 7), (227, 2)]), (243, [(115, 7), (227, 4), (241, 1)]), (483, [(227, 8), (481, 1)]), (497, [(241, 8), (481, 4), (496, 0)]), (993, [(481, 9), (992, 0)]), (1008, [(496, 9), (992, 4)]), (127, [(63, 6), (111, 4), (119, 3)]), (239, [(111, 7), (231, 3)]), (247, [(119, 7), (231, 4), (243, 2)]), (487, [(231, 8), (483, 2)]), (499, [(243, 8), (483, 4), (497, 1)]), (995, [(483, 9), (993, 1)]), (1009, [(497, 9), (993, 4), (1008, 0)]), (2032, [(1008, 10)]), (255, [(127, 7), (239, 4), (247, 3)]), (495, [(239, 8), (487, 3)]), (503, [(247, 8), (487, 4), (499, 2)]), (999, [(487, 9), (995, 2)]), (1011, [(499, 9), (995, 4), (1009, 1)]), (2033, [(1009, 10), (2032, 0)]), (511, [(255, 8), (495, 4), (503, 3)]), (1007, [(495, 9), (999, 3)]), (1015, [(503, 9), (999, 4), (1011, 2)]), (2035, [(1011, 10), (2033, 1)]), (1023, [(511, 9), (1007, 4), (1015, 3)]), (2039, [(1015, 10), (2035, 2)]), (2047, [(1023, 10), (2039, 3)]), (4095, [(2047, 11)]), (8191, [(4095, 12)])] (by kernel_rfl) ?_
                repeat
                  (apply DagP.step
                   · repeat
                       (apply EdgesP.cons rfl rfl
                        · intro ω
                          have hw : ω.1.1 < k1.length ∧ ω.1.2.1 ≤ b.length := ω.2
                          refine RunsL.go tabOk fun J hJ => ?_
                          simp only [go_sem, ↓reduceIte, Nat.reduceAdd, Nat.reduceSub, Nat.reduceMul, Nat.reduceLT, Nat.reduceLeDiff, Nat.reduceEqDiff, Nat.reduceBEq, Int.reduceToNat, segsA_len, hgx]
                          try simp (disch := omega) only [wrap_id]
                          (repeat refine ⟨by omega, ?_⟩)
                          first
                            | (refine hJ _ _ (RunsL.nil ?_); clear hJ J; first | exact ⟨ω, LeS.refl _⟩ | exact ⟨ω, LeS.of rfl (by simp only [SubS, lookS, Nat.reduceEqDiff, ↓reduceIte, and_self]) (by simp only [SubO, lookO, Nat.reduceEqDiff, ↓reduceIte, and_self]) rfl⟩)
                            | (refine hJ _ _ (RunsL.call (ps := [0]) (rid := 16) rfl rfl rfl rfl rfl (by simp only [go_sem, Nat.reduceEqDiff, segsA_len, hgx]; first | done | rfl) (l1Below_ok b hb ci5 ch5 hc5 k1.length) rfl (by decide) ⟨by decide, by decide, rfl⟩ (by first | exact .inl rfl | exact .inr (.inl rfl) | exact .inr (.inr rfl)) ?_); clear hJ J
                               rintro r os' ros ⟨⟨x, hx, rfl⟩, ⟨i', h', hi', rfl⟩, rfl⟩ _
                               obtain ⟨ω', rfl, rfl, rfl⟩ : ∃ ω' : {p : Nat × Nat × Int // p.1 < k1.length ∧ p.2.1 ≤ b.length}, ω'.1.1 = x ∧ ω'.1.2.1 = i' ∧ ω'.1.2.2 = h' := ⟨⟨(x, i', h'), by simp only; omega, hi'⟩, rfl, rfl, rfl⟩
                               refine RunsL.go tabOk fun J hJ => ?_
                               simp only [go_sem, ↓reduceIte, Nat.reduceAdd, Nat.reduceSub, Nat.reduceMul, Nat.reduceLT, Nat.reduceLeDiff, Nat.reduceEqDiff, Nat.reduceBEq, Int.reduceToNat, segsA_len, hgx]
                               try simp (disch := omega) only [wrap_id]
                               (repeat refine ⟨by omega, ?_⟩)
                               refine hJ _ _ (RunsL.nil ?_)
                               clear hJ J
                               first | exact ⟨ω', LeS.refl _⟩ | exact ⟨ω', LeS.of rfl (by simp only [SubS, lookS, Nat.reduceEqDiff, ↓reduceIte, and_self]) (by simp only [SubO, lookO, Nat.reduceEqDiff, ↓reduceIte, and_self]) rfl⟩))
                     exact EdgesP.nil)
                refine DagP.done fun ω => ?_
                obtain ⟨⟨y, ci6, ch6⟩, hy, hc6⟩ := ω
                simp only at hy hc6
                repeat (first | refine RunsA.sq ?_ | refine RunsA.bk ?_ | refine RunsA.sk ?_ | refine RunsA.ex ?_ | refine RunsA.rt ?_ | refine At.n ?_ | refine At.x ?_ | refine At.r ?_ | refine At.bn ?_ | refine At.br ?_ | refine At.bx ?_ | refine At.by_ rfl ?_ | refine At.kx ?_ | refine At.kr ?_ | refine At.kn ?_ | refine At.er ?_ | refine At.en ?_ | (refine RunsA.rq tabOk fun J hJ => ?_; simp only [go_sem, ↓reduceIte, Nat.reduceAdd, Nat.reduceSub, Nat.reduceMul, Nat.reduceLT, Nat.reduceLeDiff, Nat.reduceEqDiff, Nat.reduceBEq, Int.reduceToNat]; (try simp (disch := omega) only [wrap_id]); (repeat refine ⟨by omega, ?_⟩); refine hJ _ _ (RunsL.nil ?_); clear hJ J) | (refine RunsA.dq mixed tabOk (by kernel_rfl) fun J hJ => ?_; simp only [go_sem, ↓reduceIte, Nat.reduceAdd, Nat.reduceSub, Nat.reduceMul, Nat.reduceLT, Nat.reduceLeDiff, Nat.reduceEqDiff, Nat.reduceBEq, Int.reduceToNat]; (try simp (disch := omega) only [wrap_id]); (repeat refine ⟨by omega, ?_⟩); refine hJ _ _ (QRuns.nil ?_); clear hJ J))
                refine ⟨(some y, ci6, ch6), ⟨hc6, fun y h => by cases h; exact hy⟩, rfl, ?_, ?_, rfl⟩
                · simp [Dr.st, SubS, lookS]
                · simp [Dr.st, SubO, lookO]
              · repeat (first | refine RunsA.sq ?_ | refine RunsA.bk ?_ | refine RunsA.sk ?_ | refine RunsA.ex ?_ | refine RunsA.rt ?_ | refine At.n ?_ | refine At.x ?_ | refine At.r ?_ | refine At.bn ?_ | refine At.br ?_ | refine At.bx ?_ | refine At.by_ rfl ?_ | refine At.kx ?_ | refine At.kr ?_ | refine At.kn ?_ | refine At.er ?_ | refine At.en ?_ | (refine RunsA.rq tabOk fun J hJ => ?_; simp only [go_sem, ↓reduceIte, Nat.reduceAdd, Nat.reduceSub, Nat.reduceMul, Nat.reduceLT, Nat.reduceLeDiff, Nat.reduceEqDiff, Nat.reduceBEq, Int.reduceToNat]; (try simp (disch := omega) only [wrap_id]); (repeat refine ⟨by omega, ?_⟩); refine hJ _ _ (RunsL.nil ?_); clear hJ J) | (refine RunsA.dq mixed tabOk (by kernel_rfl) fun J hJ => ?_; simp only [go_sem, ↓reduceIte, Nat.reduceAdd, Nat.reduceSub, Nat.reduceMul, Nat.reduceLT, Nat.reduceLeDiff, Nat.reduceEqDiff, Nat.reduceBEq, Int.reduceToNat]; (try simp (disch := omega) only [wrap_id]); (repeat refine ⟨by omega, ?_⟩); refine hJ _ _ (QRuns.nil ?_); clear hJ J))
                refine ⟨(none, ci5, ch5), ⟨hc5, fun y h => by simp at h⟩, rfl, ?_, ?_, rfl⟩
                · simp [Dr.st, SubS, lookS]
                · simp [Dr.st, SubO, lookO]
          · rintro ⟨o, ci5, ch5⟩ ⟨hc5, ho⟩
            simp only [Dr.st]
            cases o with
            | none =>
              refine RunsA.dag (Ω := Unit) mixed () [(1, [(0, 0)]), (2, [(0, 1)]), (4, [(0, 2)]), (128, [(0, 7)]), (3, [(1, 1), (2, 0)]), (5, [(1, 2), (4, 0)]), (129, [(1, 7), (128, 0)]), (6, [(2, 2), (4, 1)]), (130, [(2, 7), (128, 1)]), (12, [(4, 3)]), (132, [(4, 7), (128, 2)]), (384, [(128, 8)]), (7, [(3, 2), (5, 1), (6, 0)]), (131, [(3, 7), (129, 1), (130, 0)]), (13, [(5, 3), (12, 0)]), (133, [(5, 7), (129, 2), (132, 0)]), (385, [(129, 8), (384, 0)]), (14, [(6, 3), (12, 1)]), (134, [(6, 7), (130, 2), (132, 1)]), (386, [(130, 8), (384, 1)]), (28, [(12, 4)]), (140, [(12, 7), (132, 3)]), (388, [(132, 8), (384, 2)]), (15, [(7, 3), (13, 1), (14, 0)]), (135, [(7, 7), (131, 2), (133, 1), (134, 0)]), (387, [(131, 8), (385, 1), (386, 0)]), (29, [(13, 4), (28, 0)]), (141, [(13, 7), (133, 3), (140, 0)]), (389, [(133, 8), (385, 2), (388, 0)]), (30, [(14, 4), (28, 1)]), (142, [(14, 7), (134, 3), (140, 1)]), (390, [(134, 8), (386, 2), (388, 1)]), (60, [(28, 5)]), (156, [(28, 7), (140, 4)]), (396, [(140, 8), (388, 3)]), (31, [(15, 4), (29, 1), (30, 0)]), (143, [(15, 7), (135, 3), (141, 1), (142, 0)]), (391, [(135, 8), (387, 2), (389, 1), (390, 0)]), (61, [(29, 5), (60, 0)]), (157, [(29, 7), (141, 4), (156, 0)]), (397, [(141, 8), (389, 3), (396, 0)]), (62, [(30, 5), (60, 1)]), (158, [(30, 7), (142, 4), (156, 1)]), (398, [(142, 8), (390, 3), (396, 1)]), (188, [(60, 7), (156, 5)]), (412, [(156, 8), (396, 4)]), (63, [(31, 5), (61, 1), (62, 0)]), (159, [(31, 7), (143, 4), (157, 1), (158, 0)]), (399, [(143, 8), (391, 3), (397, 1), (398, 0)]), (189, [(61, 7), (157, 5), (188, 0)]), (413, [(157, 8), (397, 4), (412, 0)]), (126, [(62, 6)]), (190, [(62, 7), (158, 5), (188, 1)]), (414, [(158, 8), (398, 4), (412, 1)]), (444, [(188, 8), (412, 5)]), (127, [(63, 6), (126, 0)]), (191, [(63, 7), (159, 5), (189, 1), (190, 0)]), (415, [(159, 8), (399, 4), (413, 1), (414, 0)]), (445, [(189, 8), (413, 5), (444, 0)]), (254, [(126, 7), (190, 6)]), (446, [(190, 8), (414, 5), (444, 1)]), (255, [(127, 7), (191, 6), (254, 0)]), (447, [(191, 8), (415, 5), (445, 1), (446, 0)]), (510, [(254, 8), (446, 6)]), (511, [(255, 8), (447, 6), (510, 0)]), (1022, [(510, 9)]), (1023, [(511, 9), (1022, 0)]), (2047, [(1023, 10)]), (4095, [(2047, 11)]), (8191, [(4095, 12)])] (by kernel_rfl) ?_
              repeat
                (apply DagP.step
                 · repeat
                     (apply EdgesP.cons rfl rfl
                      · first
                          | (intro ω
                             refine RunsL.go tabOk fun J hJ => ?_
                             simp only [go_sem, ↓reduceIte, Nat.reduceAdd, Nat.reduceSub, Nat.reduceMul, Nat.reduceLT, Nat.reduceLeDiff, Nat.reduceEqDiff, Nat.reduceBEq, Int.reduceToNat, segsA_len, hgx, List.length_nil, hset, List.set_set, List.length_set]
                             try simp (disch := omega) only [wrap_id]
                             (repeat refine ⟨by omega, ?_⟩)
                             first
                               | (refine hJ _ _ (RunsL.nil ?_); clear hJ J; first | exact ⟨ω, LeS.refl _⟩ | exact ⟨ω, LeS.of rfl (by simp only [SubS, lookS, Nat.reduceEqDiff, ↓reduceIte, and_self]) (by simp only [SubO, lookO, Nat.reduceEqDiff, ↓reduceIte, and_self]) rfl⟩))
                          | (intro ω
                             refine RunsL.ghost (fun a w g hs => detach_ok (id := 1280) (q := [(0, 2)]) (i := x) (k := 2) (tid := 90112) (by simp only [go_sem, ↓reduceIte, Nat.reduceAdd, Nat.reduceSub, Nat.reduceMul, Nat.reduceLT, Nat.reduceLeDiff, Nat.reduceEqDiff, Nat.reduceBEq, Int.reduceToNat, segsA_len, hgx]; rfl) a w g hs) ?_
                             refine RunsL.go tabOk fun J hJ => ?_
                             simp only [go_sem, ↓reduceIte, Nat.reduceAdd, Nat.reduceSub, Nat.reduceMul, Nat.reduceLT, Nat.reduceLeDiff, Nat.reduceEqDiff, Nat.reduceBEq, Int.reduceToNat, segsA_len, hgx, List.length_nil, hset, List.set_set, List.length_set]
                             try simp (disch := omega) only [wrap_id]
                             (repeat refine ⟨by omega, ?_⟩)
                             first
                               | (refine hJ _ _ (RunsL.nil ?_); clear hJ J; first | exact ⟨ω, LeS.refl _⟩ | exact ⟨ω, LeS.of rfl (by simp only [SubS, lookS, Nat.reduceEqDiff, ↓reduceIte, and_self]) (by simp only [SubO, lookO, Nat.reduceEqDiff, ↓reduceIte, and_self]) rfl⟩)))
                   exact EdgesP.nil)
              refine DagP.done fun ω => ?_
              repeat (first | refine RunsA.sq ?_ | refine RunsA.bk ?_ | refine RunsA.sk ?_ | refine RunsA.ex ?_ | refine RunsA.rt ?_ | refine At.n ?_ | refine At.x ?_ | refine At.r ?_ | refine At.bn ?_ | refine At.br ?_ | refine At.bx ?_ | refine At.by_ rfl ?_ | refine At.kx ?_ | refine At.kr ?_ | refine At.kn ?_ | refine At.er ?_ | refine At.en ?_ | (refine RunsA.rq tabOk fun J hJ => ?_; simp only [go_sem, ↓reduceIte, Nat.reduceAdd, Nat.reduceSub, Nat.reduceMul, Nat.reduceLT, Nat.reduceLeDiff, Nat.reduceEqDiff, Nat.reduceBEq, Int.reduceToNat]; (try simp (disch := omega) only [wrap_id]); (repeat refine ⟨by omega, ?_⟩); refine hJ _ _ (RunsL.nil ?_); clear hJ J) | (refine RunsA.dq mixed tabOk (by kernel_rfl) fun J hJ => ?_; simp only [go_sem, ↓reduceIte, Nat.reduceAdd, Nat.reduceSub, Nat.reduceMul, Nat.reduceLT, Nat.reduceLeDiff, Nat.reduceEqDiff, Nat.reduceBEq, Int.reduceToNat]; (try simp (disch := omega) only [wrap_id]); (repeat refine ⟨by omega, ?_⟩); refine hJ _ _ (QRuns.nil ?_); clear hJ J))
              refine hK3 (i + 1, ⟨n, ms, ks.set x (.mk n1 m1 (k1 ++ [.mk (nm7.getD i []) lm []])), ci5, ch5⟩) _ ⟨by simp only; omega, by simp only; omega, hP.kid hL hx hkx, hc5⟩ (by simp only; omega) rfl ?_ ?_ rfl
              · simp [Dr.st, SubS, lookS]
              · simp [Dr.st, SubO, lookO, strs, segsA_eq, segA_mk, segsA]
            | some y =>
              have hy := ho y rfl
              rcases hky : k1[y] with ⟨n2, m2, k2⟩
              have hgy : (segsA .own k1)[y]? = some (.agg [.str n2, .row .own 1 (strs m2), .row .own 3 (segsA .own k2)]) := by rw [segsA_get _ hy, hky, segA_mk]
              have hset2 : ∀ v, ((segsA .own k1).set y v)[y]? = some v := fun v => List.getElem?_set_self (by rw [segsA_len]; exact hy)
              have hk2l : k2.length ≤ 7 := by
                have g1 := namesL_mem k1 k1[y] (List.getElem_mem hy)
                rw [hky] at g1
                have g3 := namesL_ge k2
                simp only [SegV.names, List.length_cons] at g1
                omega
              refine RunsA.dag (Ω := Unit) mixed () [(1, [(0, 0)]), (2, [(0, 1)]), (4, [(0, 2)]), (128, [(0, 7)]), (3, [(1, 1), (2, 0)]), (5, [(1, 2), (4, 0)]), (129, [(1, 7), (128, 0)]), (6, [(2, 2), (4, 1)]), (130, [(2, 7), (128, 1)]), (12, [(4, 3)]), (132, [(4, 7), (128, 2)]), (384, [(128, 8)]), (7, [(3, 2), (5, 1), (6, 0)]), (131, [(3, 7), (129, 1), (130, 0)]), (13, [(5, 3), (12, 0)]), (133, [(5, 7), (129, 2), (132, 0)]), (385, [(129, 8), (384, 0)]), (14, [(6, 3), (12, 1)]), (134, [(6, 7), (130, 2), (132, 1)]), (386, [(130, 8), (384, 1)]), (28, [(12, 4)]), (140, [(12, 7), (132, 3)]), (388, [(132, 8), (384, 2)]), (15, [(7, 3), (13, 1), (14, 0)]), (135, [(7, 7), (131, 2), (133, 1), (134, 0)]), (387, [(131, 8), (385, 1), (386, 0)]), (29, [(13, 4), (28, 0)]), (141, [(13, 7), (133, 3), (140, 0)]), (389, [(133, 8), (385, 2), (388, 0)]), (30, [(14, 4), (28, 1)]), (142, [(14, 7), (134, 3), (140, 1)]), (390, [(134, 8), (386, 2), (388, 1)]), (60, [(28, 5)]), (156, [(28, 7), (140, 4)]), (396, [(140, 8), (388, 3)]), (31, [(15, 4), (29, 1), (30, 0)]), (143, [(15, 7), (135, 3), (141, 1), (142, 0)]), (391, [(135, 8), (387, 2), (389, 1), (390, 0)]), (61, [(29, 5), (60, 0)]), (157, [(29, 7), (141, 4), (156, 0)]), (397, [(141, 8), (389, 3), (396, 0)]), (62, [(30, 5), (60, 1)]), (158, [(30, 7), (142, 4), (156, 1)]), (398, [(142, 8), (390, 3), (396, 1)]), (188, [(60, 7), (156, 5)]), (412, [(156, 8), (396, 4)]), (63, [(31, 5), (61, 1), (62, 0)]), (159, [(31, 7), (143, 4), (157, 1), (158, 0)]), (399, [(143, 8), (391, 3), (397, 1), (398, 0)]), (189, [(61, 7), (157, 5), (188, 0)]), (413, [(157, 8), (397, 4), (412, 0)]), (126, [(62, 6)]), (190, [(62, 7), (158, 5), (188, 1)]), (414, [(158, 8), (398, 4), (412, 1)]), (444, [(188, 8), (412, 5)]), (127, [(63, 6), (126, 0)]), (191, [(63, 7), (159, 5), (189, 1), (190, 0)]), (415, [(159, 8), (399, 4), (413, 1), (414, 0)]), (445, [(189, 8), (413, 5), (444, 0)]), (254, [(126, 7), (190, 6)]), (446, [(190, 8), (414, 5), (444, 1)]), (255, [(127, 7), (191, 6), (254, 0)]), (447, [(191, 8), (415, 5), (445, 1), (446, 0)]), (510, [(254, 8), (446, 6)]), (511, [(255, 8), (447, 6), (510, 0)]), (1022, [(510, 9)]), (1023, [(511, 9), (1022, 0)]), (2047, [(1023, 10)]), (4095, [(2047, 11)]), (8191, [(4095, 12)])] (by kernel_rfl) ?_
              repeat
                (apply DagP.step
                 · repeat
                     (apply EdgesP.cons rfl rfl
                      · first
                          | (intro ω
                             refine RunsL.go tabOk fun J hJ => ?_
                             simp only [go_sem, ↓reduceIte, Nat.reduceAdd, Nat.reduceSub, Nat.reduceMul, Nat.reduceLT, Nat.reduceLeDiff, Nat.reduceEqDiff, Nat.reduceBEq, Int.reduceToNat, segsA_len, hgx, List.length_nil, hset, List.set_set, List.length_set, hgy, hset2]
                             try simp (disch := omega) only [wrap_id]
                             (repeat refine ⟨by omega, ?_⟩)
                             first
                               | (refine hJ _ _ (RunsL.nil ?_); clear hJ J; first | exact ⟨ω, LeS.refl _⟩ | exact ⟨ω, LeS.of rfl (by simp only [SubS, lookS, Nat.reduceEqDiff, ↓reduceIte, and_self]) (by simp only [SubO, lookO, Nat.reduceEqDiff, ↓reduceIte, and_self]) rfl⟩))
                          | (intro ω
                             refine RunsL.ghost (fun a w g hs => detach_ok (id := 1280) (q := [(0, 2), (x, 2)]) (i := y) (k := 2) (tid := 90112) (by simp only [go_sem, ↓reduceIte, Nat.reduceAdd, Nat.reduceSub, Nat.reduceMul, Nat.reduceLT, Nat.reduceLeDiff, Nat.reduceEqDiff, Nat.reduceBEq, Int.reduceToNat, segsA_len, hgx, hgy]; rfl) a w g hs) ?_
                             refine RunsL.go tabOk fun J hJ => ?_
                             simp only [go_sem, ↓reduceIte, Nat.reduceAdd, Nat.reduceSub, Nat.reduceMul, Nat.reduceLT, Nat.reduceLeDiff, Nat.reduceEqDiff, Nat.reduceBEq, Int.reduceToNat, segsA_len, hgx, List.length_nil, hset, List.set_set, List.length_set, hgy, hset2]
                             try simp (disch := omega) only [wrap_id]
                             (repeat refine ⟨by omega, ?_⟩)
                             first
                               | (refine hJ _ _ (RunsL.nil ?_); clear hJ J; first | exact ⟨ω, LeS.refl _⟩ | exact ⟨ω, LeS.of rfl (by simp only [SubS, lookS, Nat.reduceEqDiff, ↓reduceIte, and_self]) (by simp only [SubO, lookO, Nat.reduceEqDiff, ↓reduceIte, and_self]) rfl⟩)))
                   exact EdgesP.nil)
              refine DagP.done fun ω => ?_
              repeat (first | refine RunsA.sq ?_ | refine RunsA.bk ?_ | refine RunsA.sk ?_ | refine RunsA.ex ?_ | refine RunsA.rt ?_ | refine At.n ?_ | refine At.x ?_ | refine At.r ?_ | refine At.bn ?_ | refine At.br ?_ | refine At.bx ?_ | refine At.by_ rfl ?_ | refine At.kx ?_ | refine At.kr ?_ | refine At.kn ?_ | refine At.er ?_ | refine At.en ?_ | (refine RunsA.rq tabOk fun J hJ => ?_; simp only [go_sem, ↓reduceIte, Nat.reduceAdd, Nat.reduceSub, Nat.reduceMul, Nat.reduceLT, Nat.reduceLeDiff, Nat.reduceEqDiff, Nat.reduceBEq, Int.reduceToNat]; (try simp (disch := omega) only [wrap_id]); (repeat refine ⟨by omega, ?_⟩); refine hJ _ _ (RunsL.nil ?_); clear hJ J) | (refine RunsA.dq mixed tabOk (by kernel_rfl) fun J hJ => ?_; simp only [go_sem, ↓reduceIte, Nat.reduceAdd, Nat.reduceSub, Nat.reduceMul, Nat.reduceLT, Nat.reduceLeDiff, Nat.reduceEqDiff, Nat.reduceBEq, Int.reduceToNat]; (try simp (disch := omega) only [wrap_id]); (repeat refine ⟨by omega, ?_⟩); refine hJ _ _ (QRuns.nil ?_); clear hJ J))
              refine hK3 (i + 1, ⟨n, ms, ks.set x (.mk n1 m1 (k1.set y (.mk n2 m2 (k2 ++ [.mk (nm7.getD i []) lm []])))), ci5, ch5⟩) _ ⟨by simp only; omega, by simp only; omega, hP.kidkid hL hx hkx hy hky, hc5⟩ (by simp only; omega) rfl ?_ ?_ rfl
              · simp [Dr.st, SubS, lookS]
              · simp [Dr.st, SubO, lookO, strs, segsA_eq, segA_mk, segsA]
        · repeat (first | refine RunsA.sq ?_ | refine RunsA.bk ?_ | refine RunsA.sk ?_ | refine RunsA.ex ?_ | refine RunsA.rt ?_ | refine At.n ?_ | refine At.x ?_ | refine At.r ?_ | refine At.bn ?_ | refine At.br ?_ | refine At.bx ?_ | refine At.by_ rfl ?_ | refine At.kx ?_ | refine At.kr ?_ | refine At.kn ?_ | refine At.er ?_ | refine At.en ?_ | (refine RunsA.rq tabOk fun J hJ => ?_; simp only [go_sem, ↓reduceIte, Nat.reduceAdd, Nat.reduceSub, Nat.reduceMul, Nat.reduceLT, Nat.reduceLeDiff, Nat.reduceEqDiff, Nat.reduceBEq, Int.reduceToNat, segsA_len]; (try simp (disch := omega) only [wrap_id]); (repeat refine ⟨by omega, ?_⟩); refine hJ _ _ (RunsL.nil ?_); clear hJ J) | (refine RunsA.dq mixed tabOk (by kernel_rfl) fun J hJ => ?_; simp only [go_sem, ↓reduceIte, Nat.reduceAdd, Nat.reduceSub, Nat.reduceMul, Nat.reduceLT, Nat.reduceLeDiff, Nat.reduceEqDiff, Nat.reduceBEq, Int.reduceToNat, segsA_len]; (try simp (disch := omega) only [wrap_id]); (repeat refine ⟨by omega, ?_⟩); refine hJ _ _ (QRuns.nil ?_); clear hJ J))
          refine hK3 (i + 1, ⟨n, ms, ks ++ [.mk (nm7.getD i []) lm []], ci3, ch3⟩) _ ⟨by simp only; omega, by simp only; omega, hP.root hL, hc3⟩ (by simp only; omega) rfl ?_ ?_ rfl
          · simp [Dr.st, SubS, lookS]
          · simp [Dr.st, SubO, lookO, strs, segsA_eq, segA_mk, segsA]
  · repeat (first | refine RunsA.sq ?_ | refine RunsA.bk ?_ | refine RunsA.sk ?_ | refine RunsA.ex ?_ | refine RunsA.rt ?_ | refine At.n ?_ | refine At.x ?_ | refine At.r ?_ | refine At.bn ?_ | refine At.br ?_ | refine At.bx ?_ | refine At.by_ rfl ?_ | refine At.kx ?_ | refine At.kr ?_ | refine At.kn ?_ | refine At.er ?_ | refine At.en ?_ | (refine RunsA.rq tabOk fun J hJ => ?_; simp only [go_sem, ↓reduceIte, Nat.reduceAdd, Nat.reduceSub, Nat.reduceMul, Nat.reduceLT, Nat.reduceLeDiff, Nat.reduceEqDiff, Nat.reduceBEq, Int.reduceToNat]; (try simp (disch := omega) only [wrap_id]); (repeat refine ⟨by omega, ?_⟩); refine hJ _ _ (RunsL.nil ?_); clear hJ J) | (refine RunsA.dq mixed tabOk (by kernel_rfl) fun J hJ => ?_; simp only [go_sem, ↓reduceIte, Nat.reduceAdd, Nat.reduceSub, Nat.reduceMul, Nat.reduceLT, Nat.reduceLeDiff, Nat.reduceEqDiff, Nat.reduceBEq, Int.reduceToNat]; (try simp (disch := omega) only [wrap_id]); (repeat refine ⟨by omega, ?_⟩); refine hJ _ _ (QRuns.nil ?_); clear hJ J))
    refine RetA.v tabOk rfl ?_
    simp only [go_sem, ↓reduceIte, Nat.reduceAdd, Nat.reduceSub, Nat.reduceMul, Nat.reduceLT, Nat.reduceLeDiff, Nat.reduceEqDiff, Nat.reduceBEq, Int.reduceToNat]
    refine RetV.det (id := 768) (q := []) (i := 0) (k := 1) (tid := 100) (by simp only [go_sem, ↓reduceIte, Nat.reduceAdd, Nat.reduceSub, Nat.reduceMul, Nat.reduceLT, Nat.reduceLeDiff, Nat.reduceEqDiff, Nat.reduceBEq, Int.reduceToNat]; rfl) ?_
    simp only [go_sem, ↓reduceIte, Nat.reduceAdd, Nat.reduceSub, Nat.reduceMul, Nat.reduceLT, Nat.reduceLeDiff, Nat.reduceEqDiff, Nat.reduceBEq, Int.reduceToNat]
    refine RetV.det (id := 768) (q := []) (i := 0) (k := 2) (tid := 101) (by simp only [go_sem, ↓reduceIte, Nat.reduceAdd, Nat.reduceSub, Nat.reduceMul, Nat.reduceLT, Nat.reduceLeDiff, Nat.reduceEqDiff, Nat.reduceBEq, Int.reduceToNat]; rfl) ?_
    simp only [go_sem, ↓reduceIte, Nat.reduceAdd, Nat.reduceSub, Nat.reduceMul, Nat.reduceLT, Nat.reduceLeDiff, Nat.reduceEqDiff, Nat.reduceBEq, Int.reduceToNat]
    exact RetV.mk 2 rfl rfl (by omega) rfl (by simp [noBoO, noBo_segs, noBo_strs]) rfl ⟨_, _, _, i, h7, hP, rfl, ⟨_, _, hc1, rfl⟩, rfl⟩

end Go.Proofs.YtinhdeocgchncaaFw
