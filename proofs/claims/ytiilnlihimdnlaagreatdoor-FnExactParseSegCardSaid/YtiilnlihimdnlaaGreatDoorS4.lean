/- Trees of segments that are right: impl.SegOk. -/
import Derived.Test.YtiilnlihimdnlaaGreatDoorS3
namespace Go.Proofs.YtiilnlihimdnlaaGreatDoorFw
open Go Go.RowKit
set_option linter.unusedVariables false
set_option linter.unusedSimpArgs false
set_option maxRecDepth 4000
set_option pp.deepTerms.threshold 6
set_option pp.deepTerms false
def SegOkP (s : SegV) : Prop := TreeP 4 s ∧ s.names.length ≤ 12 ∧ s.names.Nodup ∧ s.mods.Nodup
open Classical in
noncomputable instance (s : SegV) : Decidable (SegOkP s) := inferInstance
set_option maxHeartbeats 1000000 in
theorem segOki_ok (s : SegV) (hf : s.tot ≤ 1048576) : FnA Tryz.prog 27 false [segA .bo s] [] (fun r os ros => r = .bool (decide (SegOkP s)) ∧ os = [] ∧ ros = []) := by
  have hT : FnA Tryz.prog 58 false [segA .bo s, .int .i64 4] [] (fun r os ros => r = .bool (decide (TreeP 4 s)) ∧ os = [] ∧ ros = []) := treeOk_ok 4 s hf (by omega)
  have hG := implSegs_ok s hf
  have hM := modsOf_ok s hf
  have hnl := SegV.names_len s
  have hml := SegV.mods_len s
  have hU := unlike_ok s.names (by omega)
  have hV := unlike_ok s.mods (by omega)
  have hP : SegOkP s ↔ TreeP 4 s ∧ s.names.length ≤ 12 ∧ s.names.Nodup ∧ s.mods.Nodup := Iff.rfl
  have hlen := strs_len s.names
  obtain ⟨n, ms, ks⟩ := s
  generalize (SegV.mk n ms ks).names = N at *
  generalize (SegV.mk n ms ks).mods = M at *
  rw [segA_mk] at *
  refine FnA.of Tryz.func27 rfl (by decide) Tryz.ntmps27 (by simp) ?_
  by_cases c1 : TreeP 4 (.mk n ms ks)
  · have e1 := decide_eq_true c1
    by_cases c2 : N.length ≤ 12
    · have e2 : decide ((N.length : Int) ≤ 12) = true := decide_eq_true (by omega)
      by_cases c3 : N.Nodup
      · have e3 := decide_eq_true c3
        by_cases c4 : M.Nodup
        · have e4 := decide_eq_true c4
          rw [decide_eq_true (hP.2 ⟨c1, c2, c3, c4⟩)]
          refine run_ ?_
          refine RunsA.rq tabOk fun J hJ => ?_
          simp only [go_sem, ↓reduceIte, Nat.reduceAdd, Nat.reduceSub, Nat.reduceMul, Nat.reduceLT, Nat.reduceLeDiff, Nat.reduceEqDiff, Nat.reduceBEq, Int.reduceToNat]
          try simp (disch := omega) only [wrap_id]
          refine hJ _ _ (RunsL.call (ps := []) (rid := 16) rfl rfl rfl rfl rfl (by simp only [go_sem, Nat.reduceEqDiff]; first | done | rfl) (hT) rfl (by decide) ⟨by decide, by decide, rfl⟩ (by first | exact .inl rfl | exact .inr (.inl rfl) | exact .inr (.inr rfl)) ?_); clear hJ J
          rintro r os' ros ⟨rfl, rfl, rfl⟩ _
          refine RunsL.go tabOk fun J hJ => ?_
          simp only [go_sem, ↓reduceIte, Nat.reduceAdd, Nat.reduceSub, Nat.reduceMul, Nat.reduceLT, Nat.reduceLeDiff, Nat.reduceEqDiff, Nat.reduceBEq, Int.reduceToNat, hlen, e1, e2, e3, e4]
          try simp (disch := omega) only [wrap_id]
          refine hJ _ _ (RunsL.call (ps := []) (rid := 2048) rfl rfl rfl rfl rfl (by simp only [go_sem, Nat.reduceEqDiff]; first | done | rfl) (hG) rfl (by decide) ⟨by decide, by decide, rfl⟩ (by first | exact .inl rfl | exact .inr (.inl rfl) | exact .inr (.inr rfl)) ?_); clear hJ J
          rintro r os' ros ⟨rfl, rfl, rfl⟩ _
          refine RunsL.go tabOk fun J hJ => ?_
          simp only [go_sem, ↓reduceIte, Nat.reduceAdd, Nat.reduceSub, Nat.reduceMul, Nat.reduceLT, Nat.reduceLeDiff, Nat.reduceEqDiff, Nat.reduceBEq, Int.reduceToNat, hlen, e1, e2, e3, e4]
          try simp (disch := omega) only [wrap_id]
          (repeat refine ⟨by omega, ?_⟩)
          refine hJ _ _ (RunsL.call (ps := []) (rid := 3584) rfl rfl rfl rfl rfl (by simp only [go_sem, Nat.reduceEqDiff]; first | done | rfl) (hG) rfl (by decide) ⟨by decide, by decide, rfl⟩ (by first | exact .inl rfl | exact .inr (.inl rfl) | exact .inr (.inr rfl)) ?_); clear hJ J
          rintro r os' ros ⟨rfl, rfl, rfl⟩ _
          refine RunsL.go tabOk fun J hJ => ?_
          simp only [go_sem, ↓reduceIte, Nat.reduceAdd, Nat.reduceSub, Nat.reduceMul, Nat.reduceLT, Nat.reduceLeDiff, Nat.reduceEqDiff, Nat.reduceBEq, Int.reduceToNat, hlen, e1, e2, e3, e4]
          try simp (disch := omega) only [wrap_id]
          refine hJ _ _ (RunsL.call (ps := []) (rid := 16) rfl rfl rfl rfl rfl (by simp only [go_sem, Nat.reduceEqDiff, brw_strs]; first | done | rfl) (hU) rfl (by decide) ⟨by decide, by decide, rfl⟩ (by first | exact .inl rfl | exact .inr (.inl rfl) | exact .inr (.inr rfl)) ?_); clear hJ J
          rintro r os' ros ⟨rfl, rfl, rfl⟩ _
          refine RunsL.go tabOk fun J hJ => ?_
          simp only [go_sem, ↓reduceIte, Nat.reduceAdd, Nat.reduceSub, Nat.reduceMul, Nat.reduceLT, Nat.reduceLeDiff, Nat.reduceEqDiff, Nat.reduceBEq, Int.reduceToNat, hlen, e1, e2, e3, e4]
          try simp (disch := omega) only [wrap_id]
          refine hJ _ _ (RunsL.call (ps := []) (rid := 4864) rfl rfl rfl rfl rfl (by simp only [go_sem, Nat.reduceEqDiff]; first | done | rfl) (hM) rfl (by decide) ⟨by decide, by decide, rfl⟩ (by first | exact .inl rfl | exact .inr (.inl rfl) | exact .inr (.inr rfl)) ?_); clear hJ J
          rintro r os' ros ⟨rfl, rfl, rfl⟩ _
          refine RunsL.go tabOk fun J hJ => ?_
          simp only [go_sem, ↓reduceIte, Nat.reduceAdd, Nat.reduceSub, Nat.reduceMul, Nat.reduceLT, Nat.reduceLeDiff, Nat.reduceEqDiff, Nat.reduceBEq, Int.reduceToNat, hlen, e1, e2, e3, e4]
          try simp (disch := omega) only [wrap_id]
          refine hJ _ _ (RunsL.call (ps := []) (rid := 16) rfl rfl rfl rfl rfl (by simp only [go_sem, Nat.reduceEqDiff, brw_strs]; first | done | rfl) (hV) rfl (by decide) ⟨by decide, by decide, rfl⟩ (by first | exact .inl rfl | exact .inr (.inl rfl) | exact .inr (.inr rfl)) ?_); clear hJ J
          rintro r os' ros ⟨rfl, rfl, rfl⟩ _
          refine RunsL.go tabOk fun J hJ => ?_
          simp only [go_sem, ↓reduceIte, Nat.reduceAdd, Nat.reduceSub, Nat.reduceMul, Nat.reduceLT, Nat.reduceLeDiff, Nat.reduceEqDiff, Nat.reduceBEq, Int.reduceToNat, hlen, e1, e2, e3, e4]
          try simp (disch := omega) only [wrap_id]
          refine hJ _ _ (RunsL.nil ?_); clear hJ J
          refine run_ ?_
          exact RetA.mk tabOk 0 rfl rfl rfl (by omega) rfl rfl rfl ⟨rfl, rfl, rfl⟩
        · have e4 := decide_eq_false c4
          rw [decide_eq_false (fun h => c4 (hP.1 h).2.2.2)]
          refine run_ ?_
          refine RunsA.rq tabOk fun J hJ => ?_
          simp only [go_sem, ↓reduceIte, Nat.reduceAdd, Nat.reduceSub, Nat.reduceMul, Nat.reduceLT, Nat.reduceLeDiff, Nat.reduceEqDiff, Nat.reduceBEq, Int.reduceToNat]
          try simp (disch := omega) only [wrap_id]
          refine hJ _ _ (RunsL.call (ps := []) (rid := 16) rfl rfl rfl rfl rfl (by simp only [go_sem, Nat.reduceEqDiff]; first | done | rfl) (hT) rfl (by decide) ⟨by decide, by decide, rfl⟩ (by first | exact .inl rfl | exact .inr (.inl rfl) | exact .inr (.inr rfl)) ?_); clear hJ J
          rintro r os' ros ⟨rfl, rfl, rfl⟩ _
          refine RunsL.go tabOk fun J hJ => ?_
          simp only [go_sem, ↓reduceIte, Nat.reduceAdd, Nat.reduceSub, Nat.reduceMul, Nat.reduceLT, Nat.reduceLeDiff, Nat.reduceEqDiff, Nat.reduceBEq, Int.reduceToNat, hlen, e1, e2, e3, e4]
          try simp (disch := omega) only [wrap_id]
          refine hJ _ _ (RunsL.call (ps := []) (rid := 2048) rfl rfl rfl rfl rfl (by simp only [go_sem, Nat.reduceEqDiff]; first | done | rfl) (hG) rfl (by decide) ⟨by decide, by decide, rfl⟩ (by first | exact .inl rfl | exact .inr (.inl rfl) | exact .inr (.inr rfl)) ?_); clear hJ J
          rintro r os' ros ⟨rfl, rfl, rfl⟩ _
          refine RunsL.go tabOk fun J hJ => ?_
          simp only [go_sem, ↓reduceIte, Nat.reduceAdd, Nat.reduceSub, Nat.reduceMul, Nat.reduceLT, Nat.reduceLeDiff, Nat.reduceEqDiff, Nat.reduceBEq, Int.reduceToNat, hlen, e1, e2, e3, e4]
          try simp (disch := omega) only [wrap_id]
          (repeat refine ⟨by omega, ?_⟩)
          refine hJ _ _ (RunsL.call (ps := []) (rid := 3584) rfl rfl rfl rfl rfl (by simp only [go_sem, Nat.reduceEqDiff]; first | done | rfl) (hG) rfl (by decide) ⟨by decide, by decide, rfl⟩ (by first | exact .inl rfl | exact .inr (.inl rfl) | exact .inr (.inr rfl)) ?_); clear hJ J
          rintro r os' ros ⟨rfl, rfl, rfl⟩ _
          refine RunsL.go tabOk fun J hJ => ?_
          simp only [go_sem, ↓reduceIte, Nat.reduceAdd, Nat.reduceSub, Nat.reduceMul, Nat.reduceLT, Nat.reduceLeDiff, Nat.reduceEqDiff, Nat.reduceBEq, Int.reduceToNat, hlen, e1, e2, e3, e4]
          try simp (disch := omega) only [wrap_id]
          refine hJ _ _ (RunsL.call (ps := []) (rid := 16) rfl rfl rfl rfl rfl (by simp only [go_sem, Nat.reduceEqDiff, brw_strs]; first | done | rfl) (hU) rfl (by decide) ⟨by decide, by decide, rfl⟩ (by first | exact .inl rfl | exact .inr (.inl rfl) | exact .inr (.inr rfl)) ?_); clear hJ J
          rintro r os' ros ⟨rfl, rfl, rfl⟩ _
          refine RunsL.go tabOk fun J hJ => ?_
          simp only [go_sem, ↓reduceIte, Nat.reduceAdd, Nat.reduceSub, Nat.reduceMul, Nat.reduceLT, Nat.reduceLeDiff, Nat.reduceEqDiff, Nat.reduceBEq, Int.reduceToNat, hlen, e1, e2, e3, e4]
          try simp (disch := omega) only [wrap_id]
          refine hJ _ _ (RunsL.call (ps := []) (rid := 4864) rfl rfl rfl rfl rfl (by simp only [go_sem, Nat.reduceEqDiff]; first | done | rfl) (hM) rfl (by decide) ⟨by decide, by decide, rfl⟩ (by first | exact .inl rfl | exact .inr (.inl rfl) | exact .inr (.inr rfl)) ?_); clear hJ J
          rintro r os' ros ⟨rfl, rfl, rfl⟩ _
          refine RunsL.go tabOk fun J hJ => ?_
          simp only [go_sem, ↓reduceIte, Nat.reduceAdd, Nat.reduceSub, Nat.reduceMul, Nat.reduceLT, Nat.reduceLeDiff, Nat.reduceEqDiff, Nat.reduceBEq, Int.reduceToNat, hlen, e1, e2, e3, e4]
          try simp (disch := omega) only [wrap_id]
          refine hJ _ _ (RunsL.call (ps := []) (rid := 16) rfl rfl rfl rfl rfl (by simp only [go_sem, Nat.reduceEqDiff, brw_strs]; first | done | rfl) (hV) rfl (by decide) ⟨by decide, by decide, rfl⟩ (by first | exact .inl rfl | exact .inr (.inl rfl) | exact .inr (.inr rfl)) ?_); clear hJ J
          rintro r os' ros ⟨rfl, rfl, rfl⟩ _
          refine RunsL.go tabOk fun J hJ => ?_
          simp only [go_sem, ↓reduceIte, Nat.reduceAdd, Nat.reduceSub, Nat.reduceMul, Nat.reduceLT, Nat.reduceLeDiff, Nat.reduceEqDiff, Nat.reduceBEq, Int.reduceToNat, hlen, e1, e2, e3, e4]
          try simp (disch := omega) only [wrap_id]
          refine hJ _ _ (RunsL.nil ?_); clear hJ J
          refine run_ ?_
          exact RetA.mk tabOk 0 rfl rfl rfl (by omega) rfl rfl rfl ⟨rfl, rfl, rfl⟩
      · have e3 := decide_eq_false c3
        rw [decide_eq_false (fun h => c3 (hP.1 h).2.2.1)]
        refine run_ ?_
        refine RunsA.rq tabOk fun J hJ => ?_
        simp only [go_sem, ↓reduceIte, Nat.reduceAdd, Nat.reduceSub, Nat.reduceMul, Nat.reduceLT, Nat.reduceLeDiff, Nat.reduceEqDiff, Nat.reduceBEq, Int.reduceToNat]
        try simp (disch := omega) only [wrap_id]
        refine hJ _ _ (RunsL.call (ps := []) (rid := 16) rfl rfl rfl rfl rfl (by simp only [go_sem, Nat.reduceEqDiff]; first | done | rfl) (hT) rfl (by decide) ⟨by decide, by decide, rfl⟩ (by first | exact .inl rfl | exact .inr (.inl rfl) | exact .inr (.inr rfl)) ?_); clear hJ J
        rintro r os' ros ⟨rfl, rfl, rfl⟩ _
        refine RunsL.go tabOk fun J hJ => ?_
        simp only [go_sem, ↓reduceIte, Nat.reduceAdd, Nat.reduceSub, Nat.reduceMul, Nat.reduceLT, Nat.reduceLeDiff, Nat.reduceEqDiff, Nat.reduceBEq, Int.reduceToNat, hlen, e1, e2, e3]
        try simp (disch := omega) only [wrap_id]
        refine hJ _ _ (RunsL.call (ps := []) (rid := 2048) rfl rfl rfl rfl rfl (by simp only [go_sem, Nat.reduceEqDiff]; first | done | rfl) (hG) rfl (by decide) ⟨by decide, by decide, rfl⟩ (by first | exact .inl rfl | exact .inr (.inl rfl) | exact .inr (.inr rfl)) ?_); clear hJ J
        rintro r os' ros ⟨rfl, rfl, rfl⟩ _
        refine RunsL.go tabOk fun J hJ => ?_
        simp only [go_sem, ↓reduceIte, Nat.reduceAdd, Nat.reduceSub, Nat.reduceMul, Nat.reduceLT, Nat.reduceLeDiff, Nat.reduceEqDiff, Nat.reduceBEq, Int.reduceToNat, hlen, e1, e2, e3]
        try simp (disch := omega) only [wrap_id]
        (repeat refine ⟨by omega, ?_⟩)
        refine hJ _ _ (RunsL.call (ps := []) (rid := 3584) rfl rfl rfl rfl rfl (by simp only [go_sem, Nat.reduceEqDiff]; first | done | rfl) (hG) rfl (by decide) ⟨by decide, by decide, rfl⟩ (by first | exact .inl rfl | exact .inr (.inl rfl) | exact .inr (.inr rfl)) ?_); clear hJ J
        rintro r os' ros ⟨rfl, rfl, rfl⟩ _
        refine RunsL.go tabOk fun J hJ => ?_
        simp only [go_sem, ↓reduceIte, Nat.reduceAdd, Nat.reduceSub, Nat.reduceMul, Nat.reduceLT, Nat.reduceLeDiff, Nat.reduceEqDiff, Nat.reduceBEq, Int.reduceToNat, hlen, e1, e2, e3]
        try simp (disch := omega) only [wrap_id]
        refine hJ _ _ (RunsL.call (ps := []) (rid := 16) rfl rfl rfl rfl rfl (by simp only [go_sem, Nat.reduceEqDiff, brw_strs]; first | done | rfl) (hU) rfl (by decide) ⟨by decide, by decide, rfl⟩ (by first | exact .inl rfl | exact .inr (.inl rfl) | exact .inr (.inr rfl)) ?_); clear hJ J
        rintro r os' ros ⟨rfl, rfl, rfl⟩ _
        refine RunsL.go tabOk fun J hJ => ?_
        simp only [go_sem, ↓reduceIte, Nat.reduceAdd, Nat.reduceSub, Nat.reduceMul, Nat.reduceLT, Nat.reduceLeDiff, Nat.reduceEqDiff, Nat.reduceBEq, Int.reduceToNat, hlen, e1, e2, e3]
        try simp (disch := omega) only [wrap_id]
        refine hJ _ _ (RunsL.nil ?_); clear hJ J
        refine run_ ?_
        exact RetA.mk tabOk 0 rfl rfl rfl (by omega) rfl rfl rfl ⟨rfl, rfl, rfl⟩
    · have e2 : decide ((N.length : Int) ≤ 12) = false := decide_eq_false (by omega)
      rw [decide_eq_false (fun h => c2 (hP.1 h).2.1)]
      refine run_ ?_
      refine RunsA.rq tabOk fun J hJ => ?_
      simp only [go_sem, ↓reduceIte, Nat.reduceAdd, Nat.reduceSub, Nat.reduceMul, Nat.reduceLT, Nat.reduceLeDiff, Nat.reduceEqDiff, Nat.reduceBEq, Int.reduceToNat]
      try simp (disch := omega) only [wrap_id]
      refine hJ _ _ (RunsL.call (ps := []) (rid := 16) rfl rfl rfl rfl rfl (by simp only [go_sem, Nat.reduceEqDiff]; first | done | rfl) (hT) rfl (by decide) ⟨by decide, by decide, rfl⟩ (by first | exact .inl rfl | exact .inr (.inl rfl) | exact .inr (.inr rfl)) ?_); clear hJ J
      rintro r os' ros ⟨rfl, rfl, rfl⟩ _
      refine RunsL.go tabOk fun J hJ => ?_
      simp only [go_sem, ↓reduceIte, Nat.reduceAdd, Nat.reduceSub, Nat.reduceMul, Nat.reduceLT, Nat.reduceLeDiff, Nat.reduceEqDiff, Nat.reduceBEq, Int.reduceToNat, hlen, e1, e2]
      try simp (disch := omega) only [wrap_id]
      refine hJ _ _ (RunsL.call (ps := []) (rid := 2048) rfl rfl rfl rfl rfl (by simp only [go_sem, Nat.reduceEqDiff]; first | done | rfl) (hG) rfl (by decide) ⟨by decide, by decide, rfl⟩ (by first | exact .inl rfl | exact .inr (.inl rfl) | exact .inr (.inr rfl)) ?_); clear hJ J
      rintro r os' ros ⟨rfl, rfl, rfl⟩ _
      refine RunsL.go tabOk fun J hJ => ?_
      simp only [go_sem, ↓reduceIte, Nat.reduceAdd, Nat.reduceSub, Nat.reduceMul, Nat.reduceLT, Nat.reduceLeDiff, Nat.reduceEqDiff, Nat.reduceBEq, Int.reduceToNat, hlen, e1, e2]
      try simp (disch := omega) only [wrap_id]
      (repeat refine ⟨by omega, ?_⟩)
      refine hJ _ _ (RunsL.nil ?_); clear hJ J
      refine run_ ?_
      exact RetA.mk tabOk 0 rfl rfl rfl (by omega) rfl rfl rfl ⟨rfl, rfl, rfl⟩
  · have e1 := decide_eq_false c1
    rw [decide_eq_false (fun h => c1 (hP.1 h).1)]
    refine run_ ?_
    refine RunsA.rq tabOk fun J hJ => ?_
    simp only [go_sem, ↓reduceIte, Nat.reduceAdd, Nat.reduceSub, Nat.reduceMul, Nat.reduceLT, Nat.reduceLeDiff, Nat.reduceEqDiff, Nat.reduceBEq, Int.reduceToNat]
    try simp (disch := omega) only [wrap_id]
    refine hJ _ _ (RunsL.call (ps := []) (rid := 16) rfl rfl rfl rfl rfl (by simp only [go_sem, Nat.reduceEqDiff]; first | done | rfl) (hT) rfl (by decide) ⟨by decide, by decide, rfl⟩ (by first | exact .inl rfl | exact .inr (.inl rfl) | exact .inr (.inr rfl)) ?_); clear hJ J
    rintro r os' ros ⟨rfl, rfl, rfl⟩ _
    refine RunsL.go tabOk fun J hJ => ?_
    simp only [go_sem, ↓reduceIte, Nat.reduceAdd, Nat.reduceSub, Nat.reduceMul, Nat.reduceLT, Nat.reduceLeDiff, Nat.reduceEqDiff, Nat.reduceBEq, Int.reduceToNat, e1]
    try simp (disch := omega) only [wrap_id]
    refine hJ _ _ (RunsL.nil ?_); clear hJ J
    refine run_ ?_
    exact RetA.mk tabOk 0 rfl rfl rfl (by omega) rfl rfl rfl ⟨rfl, rfl, rfl⟩
end Go.Proofs.YtiilnlihimdnlaaGreatDoorFw
