/- Trees of segments that are right: spec.SegOk. -/
import Derived.Test.YtiilnlihimdnlaaGreatDoorS7
namespace Go.Proofs.YtiilnlihimdnlaaGreatDoorFw
open Go Go.RowKit
set_option linter.unusedVariables false
set_option linter.unusedSimpArgs false
set_option maxRecDepth 4000
set_option pp.deepTerms.threshold 6
set_option pp.deepTerms false
theorem segOks_ok (s : SegV) (hf : s.tot ≤ 1048576) : FnA Tryz.prog 23 false [segA .bo s] [] (fun r os ros => r = .bool (decide (SegOkP s)) ∧ os = [] ∧ ros = []) := by
  have hnl := SegV.names_len s
  have hml := SegV.mods_len s
  have hW : FnA Tryz.prog 52 false [.ptr 0 [] 3 0 0, segA .bo s, .int .i64 1] [(3, [.agg [.row .own 1 [], .row .own 1 [], .bool false]])]
      (fun res os ros => res = .tup [] ∧ os = [(3, [.agg [.row .own 1 (strs (walkV s 1 ⟨[], [], false⟩).names), .row .own 1 (strs (walkV s 1 ⟨[], [], false⟩).mods), .bool (walkV s 1 ⟨[], [], false⟩).bad]])] ∧ ros = []) :=
    l22Walk_ok s hf 1 ⟨[], [], false⟩ (by omega) (by omega) (by simp only [List.length_nil]; omega)
  have hS := segOk_same s
  obtain ⟨n, ms, ks⟩ := s
  generalize walkV (.mk n ms ks) 1 ⟨[], [], false⟩ = W at *
  obtain ⟨wn, wm, wb⟩ := W
  simp only at hS hW
  rw [segA_mk] at *
  refine FnA.of Tryz.func23 rfl (by decide) Tryz.ntmps23 (by simp) ?_
  refine run_ ?_
  refine RunsA.rq tabOk fun J hJ => ?_
  simp only [go_sem, ↓reduceIte, Nat.reduceAdd, Nat.reduceSub, Nat.reduceMul, Nat.reduceLT, Nat.reduceLeDiff, Nat.reduceEqDiff, Nat.reduceBEq, Int.reduceToNat]
  try simp (disch := omega) only [wrap_id]
  refine hJ _ _ (RunsL.call (ps := [1536]) (rid := 16) rfl rfl rfl rfl rfl (by simp only [go_sem, Nat.reduceEqDiff]; first | done | rfl) (hW) rfl (by decide) ⟨by decide, by decide, rfl⟩ (by first | exact .inl rfl | exact .inr (.inl rfl) | exact .inr (.inr rfl)) ?_); clear hJ J
  rintro r os' ros ⟨rfl, rfl, rfl⟩ _
  refine RunsL.go tabOk fun J hJ => ?_
  simp only [go_sem, ↓reduceIte, Nat.reduceAdd, Nat.reduceSub, Nat.reduceMul, Nat.reduceLT, Nat.reduceLeDiff, Nat.reduceEqDiff, Nat.reduceBEq, Int.reduceToNat]
  try simp (disch := omega) only [wrap_id]
  refine hJ _ _ (RunsL.nil ?_); clear hJ J
  (repeat (refine step_ ?_))
  cases wb with
  | true =>
    rw [decide_eq_false (fun h => by have := (hS.2 h).1; cases this)]
    repeat' (first | refine ⟨by omega, ?_⟩ | (refine hJ _ _ (RunsL.nil ?_); clear hJ J) | refine RunsA.cond rfl (fun h => ?_) (fun h => absurd h (by decide)) | refine RunsA.cond rfl (fun h => absurd h (by decide)) (fun h => ?_) | (refine step_ ?_) | (refine RunsA.rk 4 [] tabOk fun J hJ => ?_; simp only [go_sem, ↓reduceIte, Nat.reduceAdd, Nat.reduceSub, Nat.reduceMul, Nat.reduceLT, Nat.reduceLeDiff, Nat.reduceEqDiff, Nat.reduceBEq, Int.reduceToNat, Bool.not_true]; try simp (disch := omega) only [wrap_id]) | simp only [↓reduceIte, not_false_eq_true, Bool.not_true])
    all_goals exact RetA.mk tabOk 0 rfl rfl rfl (by omega) rfl rfl rfl ⟨rfl, rfl, rfl⟩
  | false =>
    have e : decide (SegOkP (.mk n ms ks)) = decide ((wn.length : Int) ≤ 12) := by
      rw [decide_eq_decide, ← hS]
      exact ⟨fun h => by have := h.2; omega, fun h => ⟨rfl, by omega⟩⟩
    rw [e]
    repeat' (first | refine ⟨by omega, ?_⟩ | (refine hJ _ _ (RunsL.nil ?_); clear hJ J) | refine RunsA.cond rfl (fun h => ?_) (fun h => absurd h (by decide)) | refine RunsA.cond rfl (fun h => absurd h (by decide)) (fun h => ?_) | (refine step_ ?_) | (refine RunsA.rk 4 [] tabOk fun J hJ => ?_; simp only [go_sem, ↓reduceIte, Nat.reduceAdd, Nat.reduceSub, Nat.reduceMul, Nat.reduceLT, Nat.reduceLeDiff, Nat.reduceEqDiff, Nat.reduceBEq, Int.reduceToNat, Bool.not_false, strs_len]; try simp (disch := omega) only [wrap_id]) | simp only [↓reduceIte, not_false_eq_true, Bool.not_false, strs_len])
    all_goals exact RetA.mk tabOk 0 rfl rfl rfl (by omega) rfl rfl rfl ⟨rfl, rfl, rfl⟩
end Go.Proofs.YtiilnlihimdnlaaGreatDoorFw
