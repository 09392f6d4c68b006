/- Trees of segments that are right: the program. -/
import Derived.Test.YtiilnlihimdnlaaGreatDoorS2
namespace Go.Proofs.YtiilnlihimdnlaaGreatDoorFw
open Go Go.RowKit
set_option linter.unusedVariables false
set_option linter.unusedSimpArgs false
set_option maxRecDepth 4000
set_option pp.deepTerms.threshold 6
set_option pp.deepTerms false
theorem treeP_no1 {d : Nat} {n : Str} {ms : List Str} {ks : List SegV} (h : ¬ NameP n) : decide (TreeP (d + 1) (.mk n ms ks)) = false := decide_eq_false fun h2 => h h2.1
theorem treeP_no2 {d : Nat} {n : Str} {ms : List Str} {ks : List SegV} (h : ¬ ms.length ≤ 6) : decide (TreeP (d + 1) (.mk n ms ks)) = false := decide_eq_false fun h2 => h h2.2.1
theorem treeP_no3 {d : Nat} {n : Str} {ms : List Str} {ks : List SegV} (h : ¬ ks.length ≤ 12) : decide (TreeP (d + 1) (.mk n ms ks)) = false := decide_eq_false fun h2 => h h2.2.2.1
theorem totL_in : ∀ {l : List Str} (m : Str), m ∈ l → m.length ≤ totL l
  | x :: r, m, h => by
    simp only [totL]
    rcases List.mem_cons.1 h with e | e
    · subst e; omega
    · have := totL_in m e; omega
theorem totS_mem {l : List Str} (m : Str) (h : m ∈ l) : m.length ≤ totS l := by unfold totS; have := totL_in m h; omega
set_option maxHeartbeats 2000000 in
theorem treeOk_ok : ∀ (d : Nat) (s : SegV), s.tot ≤ 1048576 → d ≤ 4 → FnA Tryz.prog 58 false [segA .bo s, .int .i64 d] [] (fun r os ros => r = .bool (decide (TreeP d s)) ∧ os = [] ∧ ros = []) := by
  intro d
  induction d with
  | zero =>
    intro s hf _
    obtain ⟨n, ms, ks⟩ := s
    rw [segA_mk]
    have e0 : decide (TreeP 0 (.mk n ms ks)) = false := decide_eq_false id
    rw [e0]
    refine FnA.of Tryz.func58 rfl (by decide) Tryz.ntmps58 (by simp) ?_
    refine run_ ?_
    refine RunsA.cond rfl (fun h => ?_) (fun h => absurd h (by decide))
    refine run_ ?_
    exact RetA.mk tabOk 0 rfl rfl rfl (by omega) rfl rfl rfl ⟨rfl, rfl, rfl⟩
  | succ d ih =>
    intro s hf hd4
    obtain ⟨n, ms, ks⟩ := s
    rw [SegV.tot] at hf
    have hmem := @totS_mem ms
    have hmsl : ms.length ≤ totS ms := by unfold totS; omega
    rw [segA_mk]
    have hN := isName_ok n (by omega)
    obtain ⟨D, hD⟩ : ∃ D : Int, D = ((d + 1 : Nat) : Int) := ⟨_, rfl⟩
    rw [← hD]
    have hD1 : D - 1 = (d : Int) := by omega
    have e1 : decide (D < 1) = false := decide_eq_false (by omega)
    refine FnA.of Tryz.func58 rfl (by decide) Tryz.ntmps58 (by simp) ?_
    by_cases c1 : NameP n
    · have en := decide_eq_true c1
      by_cases c2 : ms.length ≤ 6
      · have em : decide ((6 : Int) < (ms.length : Int)) = false := decide_eq_false (by omega)
        by_cases c3 : ks.length ≤ 12
        · have ek : decide ((12 : Int) < (ks.length : Int)) = false := decide_eq_false (by omega)
          repeat' (first | refine ⟨by omega, ?_⟩ | (refine hJ _ _ (RunsL.nil ?_); clear hJ J) | refine RunsA.cond rfl (fun h => ?_) (fun h => absurd h (by decide)) | refine RunsA.cond rfl (fun h => absurd h (by decide)) (fun h => ?_) | (refine step_ ?_) | (refine RunsA.rk 4 [] tabOk fun J hJ => ?_; simp only [go_sem, ↓reduceIte, Nat.reduceAdd, Nat.reduceSub, Nat.reduceMul, Nat.reduceLT, Nat.reduceLeDiff, Nat.reduceEqDiff, Nat.reduceBEq, Int.reduceToNat, e1, en, em, ek, strs_len, segsA_len]; try simp (disch := omega) only [wrap_id]) | (refine hJ _ _ (RunsL.call (ps := []) (rid := 16) rfl rfl rfl rfl rfl (by simp only [go_sem, Nat.reduceEqDiff]; first | done | rfl) (hN) rfl (by decide) ⟨by decide, by decide, rfl⟩ (by first | exact .inl rfl | exact .inr (.inl rfl) | exact .inr (.inr rfl)) ?_); clear hJ J; rintro r os' ros ⟨rfl, rfl, rfl⟩ _; refine RunsL.go tabOk fun J hJ => ?_; simp only [go_sem, ↓reduceIte, Nat.reduceAdd, Nat.reduceSub, Nat.reduceMul, Nat.reduceLT, Nat.reduceLeDiff, Nat.reduceEqDiff, Nat.reduceBEq, Int.reduceToNat, e1, en, em, ek, strs_len, segsA_len]; try simp (disch := omega) only [wrap_id]) | simp only [↓reduceIte, not_false_eq_true, e1, en, em, ek, strs_len, segsA_len])
          refine RunsA.loop ?_
          refine (LoopA.ind (fun i : Nat => ⟨53, [(1, .int .i64 D), (2, .ptr 768 [] 3 0 0), (30, .row .bo 1 (strs ms)), (31, .int .i64 (ms.length : Nat)), (32, .int .i64 i)], [⟨768, 3, [.agg [.str n, .row .bo 1 (strs ms), .row .bo 3 (segsA .bo ks)]]⟩], false⟩) (fun i => ms.length - i) (fun i => i ≤ ms.length ∧ ∀ m ∈ ms.take i, NameP m) ?_ 0 ?_).sub rfl ?_ ?_ rfl
          · rintro i ⟨hi, ht⟩ K3 hK3
            refine run_ ?_
            refine RunsA.cond rfl (fun h2 => ?_) (fun h2 => ?_)
            · simp only [decide_eq_true_eq] at h2
              have hilt : i < ms.length := by omega
              have hg := strs_get hilt
              have hts := take_snoc hilt
              have hNi := isName_ok ms[i] (by have := hmem _ (List.getElem_mem hilt); omega)
              have hmi := List.getElem_mem hilt
              generalize ms[i] = m at *
              by_cases c : NameP m
              · have ec := decide_eq_true c
                repeat' (first | refine ⟨by omega, ?_⟩ | (refine hJ _ _ (RunsL.nil ?_); clear hJ J) | refine RunsA.cond rfl (fun h => ?_) (fun h => absurd h (by decide)) | refine RunsA.cond rfl (fun h => absurd h (by decide)) (fun h => ?_) | (refine step_ ?_) | (refine RunsA.rk 33 [] tabOk fun J hJ => ?_; simp only [go_sem, ↓reduceIte, Nat.reduceAdd, Nat.reduceSub, Nat.reduceMul, Nat.reduceLT, Nat.reduceLeDiff, Nat.reduceEqDiff, Nat.reduceBEq, Int.reduceToNat, hg, strs_len, ec]; try simp (disch := omega) only [wrap_id]) | (refine hJ _ _ (RunsL.call (ps := []) (rid := 16) rfl rfl rfl rfl rfl (by simp only [go_sem, Nat.reduceEqDiff]; first | done | rfl) (hNi) rfl (by decide) ⟨by decide, by decide, rfl⟩ (by first | exact .inl rfl | exact .inr (.inl rfl) | exact .inr (.inr rfl)) ?_); clear hJ J; rintro r os' ros ⟨rfl, rfl, rfl⟩ _; refine RunsL.go tabOk fun J hJ => ?_; simp only [go_sem, ↓reduceIte, Nat.reduceAdd, Nat.reduceSub, Nat.reduceMul, Nat.reduceLT, Nat.reduceLeDiff, Nat.reduceEqDiff, Nat.reduceBEq, Int.reduceToNat, hg, strs_len, ec]; try simp (disch := omega) only [wrap_id]) | simp only [↓reduceIte, not_false_eq_true, hg, strs_len, ec])
                refine hK3 (i + 1) _ ⟨by omega, ?_⟩ (by omega) rfl (by simp [SubS, lookS]) (by simp [SubO, lookO]) rfl
                rw [hts]
                intro x hx
                rcases List.mem_append.1 hx with hx | hx
                · exact ht x hx
                · rw [List.mem_singleton.1 hx]; exact c
              · have ec := decide_eq_false c
                repeat' (first | refine ⟨by omega, ?_⟩ | (refine hJ _ _ (RunsL.nil ?_); clear hJ J) | refine RunsA.cond rfl (fun h => ?_) (fun h => absurd h (by decide)) | refine RunsA.cond rfl (fun h => absurd h (by decide)) (fun h => ?_) | (refine step_ ?_) | (refine RunsA.rk 33 [] tabOk fun J hJ => ?_; simp only [go_sem, ↓reduceIte, Nat.reduceAdd, Nat.reduceSub, Nat.reduceMul, Nat.reduceLT, Nat.reduceLeDiff, Nat.reduceEqDiff, Nat.reduceBEq, Int.reduceToNat, hg, strs_len, ec]; try simp (disch := omega) only [wrap_id]) | (refine hJ _ _ (RunsL.call (ps := []) (rid := 16) rfl rfl rfl rfl rfl (by simp only [go_sem, Nat.reduceEqDiff]; first | done | rfl) (hNi) rfl (by decide) ⟨by decide, by decide, rfl⟩ (by first | exact .inl rfl | exact .inr (.inl rfl) | exact .inr (.inr rfl)) ?_); clear hJ J; rintro r os' ros ⟨rfl, rfl, rfl⟩ _; refine RunsL.go tabOk fun J hJ => ?_; simp only [go_sem, ↓reduceIte, Nat.reduceAdd, Nat.reduceSub, Nat.reduceMul, Nat.reduceLT, Nat.reduceLeDiff, Nat.reduceEqDiff, Nat.reduceBEq, Int.reduceToNat, hg, strs_len, ec]; try simp (disch := omega) only [wrap_id]) | simp only [↓reduceIte, not_false_eq_true, hg, strs_len, ec])
                have eT : decide (TreeP (d + 1) (.mk n ms ks)) = false := decide_eq_false fun h => c (h.2.2.2.1 m hmi)
                exact RetA.mk tabOk 0 rfl rfl rfl (by omega) rfl rfl rfl ⟨by rw [eT]; rfl, rfl, rfl⟩
            · simp only [decide_eq_false_iff_not] at h2
              have hallm : ∀ m ∈ ms, NameP m := by rwa [List.take_of_length_le (by omega)] at ht
              clear hK3
              refine run1_ @segsA_len ?_
              refine RunsA.loop ?_
              refine (LoopA.ind (fun i : Nat => ⟨53, [(1, .int .i64 D), (41, .row .bo 3 (segsA .bo ks)), (42, .int .i64 (ks.length : Nat)), (43, .int .i64 i)], [], false⟩) (fun i => ks.length - i) (fun i => i ≤ ks.length ∧ ∀ k ∈ ks.take i, TreeP d k) ?_ 0 ?_).sub rfl ?_ trivial rfl
              · rintro i ⟨hi, ht⟩ K3 hK3
                refine run_ ?_
                refine RunsA.cond rfl (fun h2 => ?_) (fun h2 => ?_)
                · simp only [decide_eq_true_eq] at h2
                  have hilt : i < ks.length := by omega
                  have hg := segsA_get .bo hilt
                  have hts := take_snoc hilt
                  have hmi := List.getElem_mem hilt
                  have htm := SegV.totL_mem hmi
                  have HH := ih ks[i] (by omega) (by omega)
                  generalize ks[i] = k at *
                  obtain ⟨n', ms', ks'⟩ := k
                  rw [segA_mk] at hg HH
                  by_cases c : TreeP d (.mk n' ms' ks')
                  · have ec := decide_eq_true c
                    repeat' (first | refine ⟨by omega, ?_⟩ | (refine hJ _ _ (RunsL.nil ?_); clear hJ J) | refine RunsA.cond rfl (fun h => ?_) (fun h => absurd h (by decide)) | refine RunsA.cond rfl (fun h => absurd h (by decide)) (fun h => ?_) | (refine step_ ?_) | (refine RunsA.rk 44 [] tabOk fun J hJ => ?_; simp only [go_sem, ↓reduceIte, Nat.reduceAdd, Nat.reduceSub, Nat.reduceMul, Nat.reduceLT, Nat.reduceLeDiff, Nat.reduceEqDiff, Nat.reduceBEq, Int.reduceToNat, hg, segsA_len, ec, hD1]; try simp (disch := omega) only [wrap_id]) | (refine hJ _ _ (RunsL.call (ps := []) (rid := 16) rfl rfl rfl rfl rfl (by simp only [go_sem, Nat.reduceEqDiff]; first | done | rfl) (HH) rfl (by decide) ⟨by decide, by decide, rfl⟩ (by first | exact .inl rfl | exact .inr (.inl rfl) | exact .inr (.inr rfl)) ?_); clear hJ J; rintro r os' ros ⟨rfl, rfl, rfl⟩ _; refine RunsL.go tabOk fun J hJ => ?_; simp only [go_sem, ↓reduceIte, Nat.reduceAdd, Nat.reduceSub, Nat.reduceMul, Nat.reduceLT, Nat.reduceLeDiff, Nat.reduceEqDiff, Nat.reduceBEq, Int.reduceToNat, hg, segsA_len, ec, hD1]; try simp (disch := omega) only [wrap_id]) | simp only [↓reduceIte, not_false_eq_true, hg, segsA_len, ec, hD1])
                    refine hK3 (i + 1) _ ⟨by omega, ?_⟩ (by omega) rfl (by simp [SubS, lookS]) trivial rfl
                    rw [hts]
                    intro x hx
                    rcases List.mem_append.1 hx with hx | hx
                    · exact ht x hx
                    · rw [List.mem_singleton.1 hx]; exact c
                  · have ec := decide_eq_false c
                    repeat' (first | refine ⟨by omega, ?_⟩ | (refine hJ _ _ (RunsL.nil ?_); clear hJ J) | refine RunsA.cond rfl (fun h => ?_) (fun h => absurd h (by decide)) | refine RunsA.cond rfl (fun h => absurd h (by decide)) (fun h => ?_) | (refine step_ ?_) | (refine RunsA.rk 44 [] tabOk fun J hJ => ?_; simp only [go_sem, ↓reduceIte, Nat.reduceAdd, Nat.reduceSub, Nat.reduceMul, Nat.reduceLT, Nat.reduceLeDiff, Nat.reduceEqDiff, Nat.reduceBEq, Int.reduceToNat, hg, segsA_len, ec, hD1]; try simp (disch := omega) only [wrap_id]) | (refine hJ _ _ (RunsL.call (ps := []) (rid := 16) rfl rfl rfl rfl rfl (by simp only [go_sem, Nat.reduceEqDiff]; first | done | rfl) (HH) rfl (by decide) ⟨by decide, by decide, rfl⟩ (by first | exact .inl rfl | exact .inr (.inl rfl) | exact .inr (.inr rfl)) ?_); clear hJ J; rintro r os' ros ⟨rfl, rfl, rfl⟩ _; refine RunsL.go tabOk fun J hJ => ?_; simp only [go_sem, ↓reduceIte, Nat.reduceAdd, Nat.reduceSub, Nat.reduceMul, Nat.reduceLT, Nat.reduceLeDiff, Nat.reduceEqDiff, Nat.reduceBEq, Int.reduceToNat, hg, segsA_len, ec, hD1]; try simp (disch := omega) only [wrap_id]) | simp only [↓reduceIte, not_false_eq_true, hg, segsA_len, ec, hD1])
                    have eT : decide (TreeP (d + 1) (.mk n ms ks)) = false := decide_eq_false fun h => c (h.2.2.2.2 _ hmi)
                    exact RetA.mk tabOk 0 rfl rfl rfl (by omega) rfl rfl rfl ⟨by rw [eT]; rfl, rfl, rfl⟩
                · simp only [decide_eq_false_iff_not] at h2
                  have hallk : ∀ k ∈ ks, TreeP d k := by rwa [List.take_of_length_le (by omega)] at ht
                  have eT : decide (TreeP (d + 1) (.mk n ms ks)) = true := decide_eq_true ⟨c1, c2, c3, hallm, hallk⟩
                  refine run_ ?_
                  exact RetA.mk tabOk 0 rfl rfl rfl (by omega) rfl rfl rfl ⟨by rw [eT]; rfl, rfl, rfl⟩
              · exact ⟨Nat.zero_le _, by simp⟩
              · simp [SubS, lookS]
          · exact ⟨Nat.zero_le _, by simp⟩
          · simp [SubS, lookS]
          · simp [SubO, lookO]
        · have ek : decide ((12 : Int) < (ks.length : Int)) = true := decide_eq_true (by omega)
          rw [treeP_no3 c3]
          repeat' (first | refine ⟨by omega, ?_⟩ | (refine hJ _ _ (RunsL.nil ?_); clear hJ J) | refine RunsA.cond rfl (fun h => ?_) (fun h => absurd h (by decide)) | refine RunsA.cond rfl (fun h => absurd h (by decide)) (fun h => ?_) | (refine step_ ?_) | (refine RunsA.rk 4 [] tabOk fun J hJ => ?_; simp only [go_sem, ↓reduceIte, Nat.reduceAdd, Nat.reduceSub, Nat.reduceMul, Nat.reduceLT, Nat.reduceLeDiff, Nat.reduceEqDiff, Nat.reduceBEq, Int.reduceToNat, e1, en, em, ek, strs_len, segsA_len]; try simp (disch := omega) only [wrap_id]) | (refine hJ _ _ (RunsL.call (ps := []) (rid := 16) rfl rfl rfl rfl rfl (by simp only [go_sem, Nat.reduceEqDiff]; first | done | rfl) (hN) rfl (by decide) ⟨by decide, by decide, rfl⟩ (by first | exact .inl rfl | exact .inr (.inl rfl) | exact .inr (.inr rfl)) ?_); clear hJ J; rintro r os' ros ⟨rfl, rfl, rfl⟩ _; refine RunsL.go tabOk fun J hJ => ?_; simp only [go_sem, ↓reduceIte, Nat.reduceAdd, Nat.reduceSub, Nat.reduceMul, Nat.reduceLT, Nat.reduceLeDiff, Nat.reduceEqDiff, Nat.reduceBEq, Int.reduceToNat, e1, en, em, ek, strs_len, segsA_len]; try simp (disch := omega) only [wrap_id]) | simp only [↓reduceIte, not_false_eq_true, e1, en, em, ek, strs_len, segsA_len])
          all_goals exact RetA.mk tabOk 0 rfl rfl rfl (by omega) rfl rfl rfl ⟨rfl, rfl, rfl⟩
      · have em : decide ((6 : Int) < (ms.length : Int)) = true := decide_eq_true (by omega)
        rw [treeP_no2 c2]
        repeat' (first | refine ⟨by omega, ?_⟩ | (refine hJ _ _ (RunsL.nil ?_); clear hJ J) | refine RunsA.cond rfl (fun h => ?_) (fun h => absurd h (by decide)) | refine RunsA.cond rfl (fun h => absurd h (by decide)) (fun h => ?_) | (refine step_ ?_) | (refine RunsA.rk 4 [] tabOk fun J hJ => ?_; simp only [go_sem, ↓reduceIte, Nat.reduceAdd, Nat.reduceSub, Nat.reduceMul, Nat.reduceLT, Nat.reduceLeDiff, Nat.reduceEqDiff, Nat.reduceBEq, Int.reduceToNat, e1, en, em, strs_len, segsA_len]; try simp (disch := omega) only [wrap_id]) | (refine hJ _ _ (RunsL.call (ps := []) (rid := 16) rfl rfl rfl rfl rfl (by simp only [go_sem, Nat.reduceEqDiff]; first | done | rfl) (hN) rfl (by decide) ⟨by decide, by decide, rfl⟩ (by first | exact .inl rfl | exact .inr (.inl rfl) | exact .inr (.inr rfl)) ?_); clear hJ J; rintro r os' ros ⟨rfl, rfl, rfl⟩ _; refine RunsL.go tabOk fun J hJ => ?_; simp only [go_sem, ↓reduceIte, Nat.reduceAdd, Nat.reduceSub, Nat.reduceMul, Nat.reduceLT, Nat.reduceLeDiff, Nat.reduceEqDiff, Nat.reduceBEq, Int.reduceToNat, e1, en, em, strs_len, segsA_len]; try simp (disch := omega) only [wrap_id]) | simp only [↓reduceIte, not_false_eq_true, e1, en, em, strs_len, segsA_len])
        all_goals exact RetA.mk tabOk 0 rfl rfl rfl (by omega) rfl rfl rfl ⟨rfl, rfl, rfl⟩
    · have en := decide_eq_false c1
      rw [treeP_no1 c1]
      repeat' (first | refine ⟨by omega, ?_⟩ | (refine hJ _ _ (RunsL.nil ?_); clear hJ J) | refine RunsA.cond rfl (fun h => ?_) (fun h => absurd h (by decide)) | refine RunsA.cond rfl (fun h => absurd h (by decide)) (fun h => ?_) | (refine step_ ?_) | (refine RunsA.rk 4 [] tabOk fun J hJ => ?_; simp only [go_sem, ↓reduceIte, Nat.reduceAdd, Nat.reduceSub, Nat.reduceMul, Nat.reduceLT, Nat.reduceLeDiff, Nat.reduceEqDiff, Nat.reduceBEq, Int.reduceToNat, e1, en, strs_len, segsA_len]; try simp (disch := omega) only [wrap_id]) | (refine hJ _ _ (RunsL.call (ps := []) (rid := 16) rfl rfl rfl rfl rfl (by simp only [go_sem, Nat.reduceEqDiff]; first | done | rfl) (hN) rfl (by decide) ⟨by decide, by decide, rfl⟩ (by first | exact .inl rfl | exact .inr (.inl rfl) | exact .inr (.inr rfl)) ?_); clear hJ J; rintro r os' ros ⟨rfl, rfl, rfl⟩ _; refine RunsL.go tabOk fun J hJ => ?_; simp only [go_sem, ↓reduceIte, Nat.reduceAdd, Nat.reduceSub, Nat.reduceMul, Nat.reduceLT, Nat.reduceLeDiff, Nat.reduceEqDiff, Nat.reduceBEq, Int.reduceToNat, e1, en, strs_len, segsA_len]; try simp (disch := omega) only [wrap_id]) | simp only [↓reduceIte, not_false_eq_true, e1, en, strs_len, segsA_len])
      all_goals exact RetA.mk tabOk 0 rfl rfl rfl (by omega) rfl rfl rfl ⟨rfl, rfl, rfl⟩
end Go.Proofs.YtiilnlihimdnlaaGreatDoorFw
