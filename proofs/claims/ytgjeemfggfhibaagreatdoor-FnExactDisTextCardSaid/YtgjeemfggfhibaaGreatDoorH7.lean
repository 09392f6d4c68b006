/- The text of lines: the reference's and the program's. -/
import Derived.Test.YtgjeemfggfhibaaGreatDoorH6
import Derived.Test.YtgjeemfggfhibaaGreatDoorDB
namespace Go.Proofs.YtgjeemfggfhibaaGreatDoorFw
open Go Go.RowKit
set_option linter.unusedVariables false
set_option linter.unusedSimpArgs false
set_option maxRecDepth 4000
set_option pp.deepTerms.threshold 6
set_option pp.deepTerms false
theorem lineTexts_ok (x : LineV) (ht : x.tot ≤ 1048576) : FnA Tryz.prog 31 false [lineA .bo x] [] (fun r os ros => r = .str x.text ∧ os = [] ∧ ros = []) := by
  have hS := lineOkS_ok x ht
  have hT := l12Tokens_ok x ht
  have hb : x.okB = true → txtW x.toks ≤ 140737488355328 := fun h => by have := lineT_txtW x h; omega
  have hL := fun h : x.okB = true => lineWs_ok x.toks (Nat.le_trans (txtW_len _) (hb h)) (hb h)
  have hY : x.okB = true → x.text = lineW x.toks := fun h => if_pos h
  have hN : x.okB = false → x.text = [] := fun h => if_neg (by rw [h]; simp)
  generalize x.text = tv at *
  generalize x.toks = tk at *
  generalize x.okB = bk at *
  obtain ⟨k, s, op, sf, sr, sk, sn, ss, sl, df, dr, dk, dn, ds, dl, n, l⟩ := x
  rw [lineA_mk] at *
  refine FnA.of Tryz.func31 rfl (by decide) Tryz.ntmps31 (by simp) ?_
  cases bk with
  | true =>
    have hT := hT rfl
    have hL := hL rfl
    rw [hY rfl]
    repeat' (first | refine ⟨by omega, ?_⟩ | (refine hJ _ _ (RunsL.nil ?_); clear hJ J) | refine RunsA.cond rfl (fun h => ?_) (fun h => absurd h (by decide)) | refine RunsA.cond rfl (fun h => absurd h (by decide)) (fun h => ?_) | (refine step_ ?_) | (refine RunsA.rk 3 [] tabOk fun J hJ => ?_; simp only [go_sem, ↓reduceIte, Nat.reduceAdd, Nat.reduceSub, Nat.reduceMul, Nat.reduceLT, Nat.reduceLeDiff, Nat.reduceEqDiff, Nat.reduceBEq, Int.reduceToNat, brw_exprs, Bool.not_true]; try simp (disch := omega) only [wrap_id]) | (refine hJ _ _ (RunsL.call (ps := []) (rid := 16) rfl rfl rfl rfl rfl (by simp only [go_sem, Nat.reduceEqDiff]; first | done | rfl) (hS) rfl (by decide) ⟨by decide, by decide, rfl⟩ (by first | exact .inl rfl | exact .inr (.inl rfl) | exact .inr (.inr rfl)) ?_); clear hJ J; rintro r os' ros ⟨rfl, rfl, rfl⟩ _; refine RunsL.go tabOk fun J hJ => ?_; simp only [go_sem, ↓reduceIte, Nat.reduceAdd, Nat.reduceSub, Nat.reduceMul, Nat.reduceLT, Nat.reduceLeDiff, Nat.reduceEqDiff, Nat.reduceBEq, Int.reduceToNat, brw_exprs, Bool.not_true]; try simp (disch := omega) only [wrap_id]) | simp only [↓reduceIte, not_false_eq_true, brw_exprs, Bool.not_true])
    refine hJ _ _ (RunsL.call (ps := []) (rid := 2048) rfl rfl rfl rfl rfl (by simp only [go_sem, Nat.reduceEqDiff, brw_exprs]; first | done | rfl) (hT) rfl (by decide) ⟨by decide, by decide, rfl⟩ (by first | exact .inl rfl | exact .inr (.inl rfl) | exact .inr (.inr rfl)) ?_); clear hJ J
    rintro r os' ros ⟨rfl, rfl, rfl⟩ _
    refine RunsL.go tabOk fun J hJ => ?_
    simp only [go_sem, ↓reduceIte, Nat.reduceAdd, Nat.reduceSub, Nat.reduceMul, Nat.reduceLT, Nat.reduceLeDiff, Nat.reduceEqDiff, Nat.reduceBEq, Int.reduceToNat]
    try simp (disch := omega) only [wrap_id]
    refine hJ _ _ (RunsL.call (ps := []) (rid := 16) rfl rfl rfl rfl rfl (by simp only [go_sem, Nat.reduceEqDiff, brw_toks]; first | done | rfl) (hL) rfl (by decide) ⟨by decide, by decide, rfl⟩ (by first | exact .inl rfl | exact .inr (.inl rfl) | exact .inr (.inr rfl)) ?_); clear hJ J
    rintro r os' ros ⟨rfl, rfl, rfl⟩ _
    refine RunsL.go tabOk fun J hJ => ?_
    simp only [go_sem, ↓reduceIte, Nat.reduceAdd, Nat.reduceSub, Nat.reduceMul, Nat.reduceLT, Nat.reduceLeDiff, Nat.reduceEqDiff, Nat.reduceBEq, Int.reduceToNat]
    try simp (disch := omega) only [wrap_id]
    refine hJ _ _ (RunsL.nil ?_); clear hJ J
    refine run_ ?_
    exact RetA.mk tabOk 0 rfl rfl rfl (by omega) rfl rfl rfl ⟨rfl, rfl, rfl⟩
  | false =>
    rw [hN rfl]
    repeat' (first | refine ⟨by omega, ?_⟩ | (refine hJ _ _ (RunsL.nil ?_); clear hJ J) | refine RunsA.cond rfl (fun h => ?_) (fun h => absurd h (by decide)) | refine RunsA.cond rfl (fun h => absurd h (by decide)) (fun h => ?_) | (refine step_ ?_) | (refine RunsA.rk 3 [] tabOk fun J hJ => ?_; simp only [go_sem, ↓reduceIte, Nat.reduceAdd, Nat.reduceSub, Nat.reduceMul, Nat.reduceLT, Nat.reduceLeDiff, Nat.reduceEqDiff, Nat.reduceBEq, Int.reduceToNat, brw_exprs, Bool.not_false]; try simp (disch := omega) only [wrap_id]) | (refine hJ _ _ (RunsL.call (ps := []) (rid := 16) rfl rfl rfl rfl rfl (by simp only [go_sem, Nat.reduceEqDiff]; first | done | rfl) (hS) rfl (by decide) ⟨by decide, by decide, rfl⟩ (by first | exact .inl rfl | exact .inr (.inl rfl) | exact .inr (.inr rfl)) ?_); clear hJ J; rintro r os' ros ⟨rfl, rfl, rfl⟩ _; refine RunsL.go tabOk fun J hJ => ?_; simp only [go_sem, ↓reduceIte, Nat.reduceAdd, Nat.reduceSub, Nat.reduceMul, Nat.reduceLT, Nat.reduceLeDiff, Nat.reduceEqDiff, Nat.reduceBEq, Int.reduceToNat, brw_exprs, Bool.not_false]; try simp (disch := omega) only [wrap_id]) | simp only [↓reduceIte, not_false_eq_true, brw_exprs, Bool.not_false])
    all_goals exact RetA.mk tabOk 0 rfl rfl rfl (by omega) rfl rfl rfl ⟨rfl, rfl, rfl⟩
theorem lineTexti_ok (x : LineV) (ht : x.tot ≤ 1048576) : FnA Tryz.prog 35 false [lineA .bo x] [] (fun r os ros => r = .str x.text ∧ os = [] ∧ ros = []) := by
  have hS := lineOkI_ok x ht
  have hT := lineTokens_ok x ht
  have hb : x.okB = true → txtW x.toks ≤ 20000000 := fun h => by have := lineT_txtW x h; omega
  have hL := fun h : x.okB = true => lineWi_ok x.toks (by have := txtW_len x.toks; have := hb h; omega) (by have := hb h; omega)
  have hY : x.okB = true → x.text = lineW x.toks := fun h => if_pos h
  have hN : x.okB = false → x.text = [] := fun h => if_neg (by rw [h]; simp)
  generalize x.text = tv at *
  generalize x.toks = tk at *
  generalize x.okB = bk at *
  obtain ⟨k, s, op, sf, sr, sk, sn, ss, sl, df, dr, dk, dn, ds, dl, n, l⟩ := x
  rw [lineA_mk] at *
  refine FnA.of Tryz.func35 rfl (by decide) Tryz.ntmps35 (by simp) ?_
  cases bk with
  | true =>
    have hT := hT rfl
    have hL := hL rfl
    rw [hY rfl]
    repeat' (first | refine ⟨by omega, ?_⟩ | (refine hJ _ _ (RunsL.nil ?_); clear hJ J) | refine RunsA.cond rfl (fun h => ?_) (fun h => absurd h (by decide)) | refine RunsA.cond rfl (fun h => absurd h (by decide)) (fun h => ?_) | (refine step_ ?_) | (refine RunsA.rk 3 [] tabOk fun J hJ => ?_; simp only [go_sem, ↓reduceIte, Nat.reduceAdd, Nat.reduceSub, Nat.reduceMul, Nat.reduceLT, Nat.reduceLeDiff, Nat.reduceEqDiff, Nat.reduceBEq, Int.reduceToNat, brw_exprs, Bool.not_true]; try simp (disch := omega) only [wrap_id]) | (refine hJ _ _ (RunsL.call (ps := []) (rid := 16) rfl rfl rfl rfl rfl (by simp only [go_sem, Nat.reduceEqDiff]; first | done | rfl) (hS) rfl (by decide) ⟨by decide, by decide, rfl⟩ (by first | exact .inl rfl | exact .inr (.inl rfl) | exact .inr (.inr rfl)) ?_); clear hJ J; rintro r os' ros ⟨rfl, rfl, rfl⟩ _; refine RunsL.go tabOk fun J hJ => ?_; simp only [go_sem, ↓reduceIte, Nat.reduceAdd, Nat.reduceSub, Nat.reduceMul, Nat.reduceLT, Nat.reduceLeDiff, Nat.reduceEqDiff, Nat.reduceBEq, Int.reduceToNat, brw_exprs, Bool.not_true]; try simp (disch := omega) only [wrap_id]) | simp only [↓reduceIte, not_false_eq_true, brw_exprs, Bool.not_true])
    refine hJ _ _ (RunsL.call (ps := []) (rid := 2048) rfl rfl rfl rfl rfl (by simp only [go_sem, Nat.reduceEqDiff, brw_exprs]; first | done | rfl) (hT) rfl (by decide) ⟨by decide, by decide, rfl⟩ (by first | exact .inl rfl | exact .inr (.inl rfl) | exact .inr (.inr rfl)) ?_); clear hJ J
    rintro r os' ros ⟨rfl, rfl, rfl⟩ _
    refine RunsL.go tabOk fun J hJ => ?_
    simp only [go_sem, ↓reduceIte, Nat.reduceAdd, Nat.reduceSub, Nat.reduceMul, Nat.reduceLT, Nat.reduceLeDiff, Nat.reduceEqDiff, Nat.reduceBEq, Int.reduceToNat]
    try simp (disch := omega) only [wrap_id]
    refine hJ _ _ (RunsL.call (ps := []) (rid := 16) rfl rfl rfl rfl rfl (by simp only [go_sem, Nat.reduceEqDiff, brw_toks]; first | done | rfl) (hL) rfl (by decide) ⟨by decide, by decide, rfl⟩ (by first | exact .inl rfl | exact .inr (.inl rfl) | exact .inr (.inr rfl)) ?_); clear hJ J
    rintro r os' ros ⟨rfl, rfl, rfl⟩ _
    refine RunsL.go tabOk fun J hJ => ?_
    simp only [go_sem, ↓reduceIte, Nat.reduceAdd, Nat.reduceSub, Nat.reduceMul, Nat.reduceLT, Nat.reduceLeDiff, Nat.reduceEqDiff, Nat.reduceBEq, Int.reduceToNat]
    try simp (disch := omega) only [wrap_id]
    refine hJ _ _ (RunsL.nil ?_); clear hJ J
    refine run_ ?_
    exact RetA.mk tabOk 0 rfl rfl rfl (by omega) rfl rfl rfl ⟨rfl, rfl, rfl⟩
  | false =>
    rw [hN rfl]
    repeat' (first | refine ⟨by omega, ?_⟩ | (refine hJ _ _ (RunsL.nil ?_); clear hJ J) | refine RunsA.cond rfl (fun h => ?_) (fun h => absurd h (by decide)) | refine RunsA.cond rfl (fun h => absurd h (by decide)) (fun h => ?_) | (refine step_ ?_) | (refine RunsA.rk 3 [] tabOk fun J hJ => ?_; simp only [go_sem, ↓reduceIte, Nat.reduceAdd, Nat.reduceSub, Nat.reduceMul, Nat.reduceLT, Nat.reduceLeDiff, Nat.reduceEqDiff, Nat.reduceBEq, Int.reduceToNat, brw_exprs, Bool.not_false]; try simp (disch := omega) only [wrap_id]) | (refine hJ _ _ (RunsL.call (ps := []) (rid := 16) rfl rfl rfl rfl rfl (by simp only [go_sem, Nat.reduceEqDiff]; first | done | rfl) (hS) rfl (by decide) ⟨by decide, by decide, rfl⟩ (by first | exact .inl rfl | exact .inr (.inl rfl) | exact .inr (.inr rfl)) ?_); clear hJ J; rintro r os' ros ⟨rfl, rfl, rfl⟩ _; refine RunsL.go tabOk fun J hJ => ?_; simp only [go_sem, ↓reduceIte, Nat.reduceAdd, Nat.reduceSub, Nat.reduceMul, Nat.reduceLT, Nat.reduceLeDiff, Nat.reduceEqDiff, Nat.reduceBEq, Int.reduceToNat, brw_exprs, Bool.not_false]; try simp (disch := omega) only [wrap_id]) | simp only [↓reduceIte, not_false_eq_true, brw_exprs, Bool.not_false])
    all_goals exact RetA.mk tabOk 0 rfl rfl rfl (by omega) rfl rfl rfl ⟨rfl, rfl, rfl⟩
theorem textW_take (L : List LineV) (i : Nat) : (textW (L.take i)).length ≤ (textW L).length := by
  have h : textW L = textW (L.take i) ++ textW (L.drop i) := by rw [← textW_app, List.take_append_drop]
  rw [h, List.length_append]; omega
set_option maxHeartbeats 2000000 in
theorem textOfs_ok (L : List LineV) (hL : L.length ≤ 1048576) (hx : ∀ x ∈ L, x.tot ≤ 1048576) :
    FnA Tryz.prog 14 false [.row .bo 17 (linesA .bo L)] [] (fun r os ros => r = .str (textW L) ∧ os = [] ∧ ros = []) := by
  have hlen := textW_len L hx
  refine FnA.of Tryz.func14 rfl (by decide) Tryz.ntmps14 (by simp) ?_
  refine run_ ?_
  refine RunsA.loop ?_
  refine (LoopA.ind (fun i : Nat => ⟨20, [(0, .row .bo 17 (linesA .bo L)), (3, .str (textW (L.take i))), (4, .int .i64 i)], [], false⟩) (fun i => L.length - i) (fun i => i ≤ L.length) ?_ 0 ?_).sub rfl ?_ trivial rfl
  · intro i hi K3 hK3
    refine run1_ @linesA_len ?_
    refine RunsA.cond rfl (fun h2 => ?_) (fun h2 => ?_)
    · simp only [decide_eq_true_eq] at h2
      have hilt : i < L.length := by omega
      have hg := linesA_get .bo hilt
      have hX := lineTexts_ok L[i] (hx _ (List.getElem_mem hilt))
      have hsn := textW_snoc (L.take i) L[i]
      rw [← take_snoc hilt] at hsn
      have h1 := textW_take L (i + 1)
      have h3 : (textW (L.take i)).length + (L[i].text.length + 1) = (textW (L.take (i + 1))).length := by rw [hsn]; simp
      generalize hA' : textW (L.take (i + 1)) = A' at *
      generalize textW (L.take i) = A at *
      generalize L[i] = x at *
      generalize x.text = tx at *
      obtain ⟨k, s, op, sf, sr, sk, sn, ss, sl, df, dr, dk, dn, ds, dl, n, l⟩ := x
      rw [lineA_mk] at hg hX
      rw [← List.append_assoc] at hsn
      repeat' (first | refine ⟨by omega, ?_⟩ | (refine hJ _ _ (RunsL.nil ?_); clear hJ J) | refine RunsA.cond rfl (fun h => ?_) (fun h => absurd h (by decide)) | refine RunsA.cond rfl (fun h => absurd h (by decide)) (fun h => ?_) | (refine step_ ?_) | (refine RunsA.rk 5 [] tabOk fun J hJ => ?_; simp only [go_sem, ↓reduceIte, Nat.reduceAdd, Nat.reduceSub, Nat.reduceMul, Nat.reduceLT, Nat.reduceLeDiff, Nat.reduceEqDiff, Nat.reduceBEq, Int.reduceToNat, hg, linesA_len, brw_exprs, List.length_append, List.length_cons, List.length_nil]; try simp (disch := omega) only [wrap_id]) | (refine hJ _ _ (RunsL.call (ps := []) (rid := 16) rfl rfl rfl rfl rfl (by simp only [go_sem, Nat.reduceEqDiff]; first | done | rfl) (hX) rfl (by decide) ⟨by decide, by decide, rfl⟩ (by first | exact .inl rfl | exact .inr (.inl rfl) | exact .inr (.inr rfl)) ?_); clear hJ J; rintro r os' ros ⟨rfl, rfl, rfl⟩ _; refine RunsL.go tabOk fun J hJ => ?_; simp only [go_sem, ↓reduceIte, Nat.reduceAdd, Nat.reduceSub, Nat.reduceMul, Nat.reduceLT, Nat.reduceLeDiff, Nat.reduceEqDiff, Nat.reduceBEq, Int.reduceToNat, hg, linesA_len, brw_exprs, List.length_append, List.length_cons, List.length_nil]; try simp (disch := omega) only [wrap_id]) | simp only [↓reduceIte, not_false_eq_true, hg, linesA_len, brw_exprs, List.length_append, List.length_cons, List.length_nil])
      exact hK3 (i + 1) _ (by omega) (by omega) rfl (by simp [SubS, lookS, hA', hsn]) trivial rfl
    · simp only [decide_eq_false_iff_not] at h2
      have : i = L.length := by omega
      subst this
      rw [List.take_length]
      refine run_ ?_
      exact RetA.mk tabOk 0 rfl rfl rfl (by omega) rfl rfl rfl ⟨rfl, rfl, rfl⟩
  · exact Nat.zero_le _
  · simp [SubS, lookS]; rfl
set_option maxHeartbeats 2000000 in
theorem textOfi_ok (L : List LineV) (hL : L.length ≤ 1048576) (hx : ∀ x ∈ L, x.tot ≤ 1048576) :
    FnA Tryz.prog 16 false [.row .bo 17 (linesA .bo L)] [] (fun r os ros => r = .str (textW L) ∧ os = [] ∧ ros = []) := by
  have hlen := textW_len L hx
  refine FnA.of Tryz.func16 rfl (by decide) Tryz.ntmps16 (by simp) ?_
  refine run1_ @linesA_len ?_
  refine RunsA.loop ?_
  refine (LoopA.ind (fun i : Nat => ⟨19, [(3, .str (textW (L.take i))), (6, .row .bo 17 (linesA .bo L)), (7, .int .i64 (L.length : Nat)), (8, .int .i64 i)], [], false⟩) (fun i => L.length - i) (fun i => i ≤ L.length) ?_ 0 ?_).sub rfl ?_ trivial rfl
  · intro i hi K3 hK3
    refine run1_ @linesA_len ?_
    refine RunsA.cond rfl (fun h2 => ?_) (fun h2 => ?_)
    · simp only [decide_eq_true_eq] at h2
      have hilt : i < L.length := by omega
      have hg := linesA_get .bo hilt
      have hX := lineTexti_ok L[i] (hx _ (List.getElem_mem hilt))
      have hsn := textW_snoc (L.take i) L[i]
      rw [← take_snoc hilt] at hsn
      have h1 := textW_take L (i + 1)
      have h3 : (textW (L.take i)).length + (L[i].text.length + 1) = (textW (L.take (i + 1))).length := by rw [hsn]; simp
      generalize hA' : textW (L.take (i + 1)) = A' at *
      generalize textW (L.take i) = A at *
      generalize L[i] = x at *
      generalize x.text = tx at *
      obtain ⟨k, s, op, sf, sr, sk, sn, ss, sl, df, dr, dk, dn, ds, dl, n, l⟩ := x
      rw [lineA_mk] at hg hX
      repeat' (first | refine ⟨by omega, ?_⟩ | (refine hJ _ _ (RunsL.nil ?_); clear hJ J) | refine RunsA.cond rfl (fun h => ?_) (fun h => absurd h (by decide)) | refine RunsA.cond rfl (fun h => absurd h (by decide)) (fun h => ?_) | (refine step_ ?_) | (refine RunsA.rk 9 [] tabOk fun J hJ => ?_; simp only [go_sem, ↓reduceIte, Nat.reduceAdd, Nat.reduceSub, Nat.reduceMul, Nat.reduceLT, Nat.reduceLeDiff, Nat.reduceEqDiff, Nat.reduceBEq, Int.reduceToNat, hg, linesA_len, brw_exprs, List.length_append, List.length_cons, List.length_nil]; try simp (disch := omega) only [wrap_id]) | (refine hJ _ _ (RunsL.call (ps := []) (rid := 16) rfl rfl rfl rfl rfl (by simp only [go_sem, Nat.reduceEqDiff]; first | done | rfl) (hX) rfl (by decide) ⟨by decide, by decide, rfl⟩ (by first | exact .inl rfl | exact .inr (.inl rfl) | exact .inr (.inr rfl)) ?_); clear hJ J; rintro r os' ros ⟨rfl, rfl, rfl⟩ _; refine RunsL.go tabOk fun J hJ => ?_; simp only [go_sem, ↓reduceIte, Nat.reduceAdd, Nat.reduceSub, Nat.reduceMul, Nat.reduceLT, Nat.reduceLeDiff, Nat.reduceEqDiff, Nat.reduceBEq, Int.reduceToNat, hg, linesA_len, brw_exprs, List.length_append, List.length_cons, List.length_nil]; try simp (disch := omega) only [wrap_id]) | simp only [↓reduceIte, not_false_eq_true, hg, linesA_len, brw_exprs, List.length_append, List.length_cons, List.length_nil])
      exact hK3 (i + 1) _ (by omega) (by omega) rfl (by simp [SubS, lookS, hA', hsn]) trivial rfl
    · simp only [decide_eq_false_iff_not] at h2
      have : i = L.length := by omega
      subst this
      rw [List.take_length]
      refine run_ ?_
      exact RetA.mk tabOk 0 rfl rfl rfl (by omega) rfl rfl rfl ⟨rfl, rfl, rfl⟩
  · exact Nat.zero_le _
  · simp [SubS, lookS]; rfl
end Go.Proofs.YtgjeemfggfhibaaGreatDoorFw
