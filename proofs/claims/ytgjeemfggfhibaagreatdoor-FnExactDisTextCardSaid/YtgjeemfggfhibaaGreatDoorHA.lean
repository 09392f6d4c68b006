/- Rows of tokens with commas between: the program's. -/
import Derived.Test.YtgjeemfggfhibaaGreatDoorG6
set_option linter.unusedVariables false
set_option linter.unusedSimpArgs false
set_option pp.deepTerms.threshold 6
set_option pp.deepTerms false
set_option maxRecDepth 4000
namespace Go.Proofs.YtgjeemfggfhibaaGreatDoorFw
open Go Go.RowKit
def sepL : List (List TokV) → List TokV
  | [] => []
  | x :: r => x ++ r.flatMap fun y => markT [44] :: y
theorem sepL_snoc (l : List (List TokV)) (x : List TokV) : sepL (l ++ [x]) = if l = [] then x else (sepL l ++ [markT [44]]) ++ x := by
  cases l with
  | nil => simp [sepL]
  | cons m r => simp [sepL]
def totT : List (List TokV) → Nat
  | [] => 0
  | x :: r => x.length + 1 + totT r
theorem sepL_len (l : List (List TokV)) : (sepL l).length ≤ totT l := by
  cases l with
  | nil => simp [sepL]
  | cons m r =>
    have h : ∀ r : List (List TokV), (r.flatMap fun y => markT [44] :: y).length = totT r := by
      intro r
      induction r with
      | nil => rfl
      | cons a t ih => rw [List.flatMap_cons, List.length_append, ih]; simp only [List.length_cons, totT]
    simp only [sepL, List.length_append, h, totT]; omega
theorem totT_take (l : List (List TokV)) (i : Nat) : totT (l.take i) ≤ totT l := by
  induction l generalizing i with
  | nil => simp [totT]
  | cons x r ih =>
    cases i with
    | zero => simp [totT]
    | succ i => simp only [List.take_succ_cons, totT]; have := ih i; omega
theorem totT_mem {l : List (List TokV)} {x : List TokV} (h : x ∈ l) : x.length + 1 ≤ totT l := by
  induction l with
  | nil => simp at h
  | cons a r ih =>
    simp only [totT]
    rcases List.mem_cons.1 h with rfl | h
    · omega
    · have := ih h; omega
def rowsT (m : Md) (L : List (List TokV)) : List AV := L.map fun l => .row m 3 (toksA l)
theorem rowsT_len (m : Md) (L : List (List TokV)) : (rowsT m L).length = L.length := by simp [rowsT]
theorem rowsT_get (m : Md) {l : List (List TokV)} {i : Nat} (h : i < l.length) : (rowsT m l)[i]? = some (.row m 3 (toksA l[i])) := by simp [rowsT, h]
theorem brw_rowsT (m : Md) : ∀ L : List (List TokV), brwL (rowsT m L) = rowsT .bo L
  | [] => rfl
  | x :: r => by
    have := brw_rowsT m r
    simp only [rowsT, List.map_cons, brwL, brw, brw_toks] at *
    rw [this]
theorem rowsT_snoc (m : Md) (L : List (List TokV)) (x : List TokV) : rowsT m L ++ [.row m 3 (toksA x)] = rowsT m (L ++ [x]) := by simp [rowsT]
set_option maxHeartbeats 2000000 in
theorem listed_ok (L : List (List TokV)) (hL : L.length ≤ 140737488355328) (ht : totT L ≤ 4398046511103) :
    FnA Tryz.prog 127 false [.row .bo 1 (rowsT .bo L)] [] (fun res os ros => res = .hd 100 [] ∧ os = [] ∧ ros = [(3, toksA (sepL L))]) := by
  refine FnA.of Tryz.func127 rfl (by decide) Tryz.ntmps127 (by simp) ?_
  refine run1_ @rowsT_len ?_
  refine RunsA.loop ?_
  refine (LoopA.ind (fun i : Nat => ⟨25, [(3, .hd 1792 []), (7, .row .bo 1 (rowsT .bo L)), (8, .int .i64 (L.length : Nat)), (9, .int .i64 i)], [⟨1792, 3, toksA (sepL (L.take i))⟩], false⟩) (fun i => L.length - i) (fun i => i ≤ L.length) ?_ 0 ?_).sub rfl ?_ ?_ rfl
  · intro i hi K3 hK3
    refine run1_ @rowsT_len ?_
    refine RunsA.cond rfl (fun h2 => ?_) (fun h2 => ?_)
    · simp only [decide_eq_true_eq] at h2
      have hilt : i < L.length := by omega
      have hg := rowsT_get .bo hilt
      have htm := totT_mem (List.getElem_mem hilt)
      have hsn := sepL_snoc (L.take i) L[i]
      rw [← take_snoc hilt] at hsn
      have hlen := sepL_len (L.take i)
      have hlt := totT_take L i
      have hlen2 := sepL_len (L.take (i + 1))
      have hlt2 := totT_take L (i + 1)
      generalize L[i] = x at *
      by_cases c : i = 0
      · have e : decide ((0 : Int) < (i : Int)) = false := decide_eq_false (by omega)
        rw [if_pos (by rw [c]; rfl)] at hsn
        have h0 : sepL (L.take i) = [] := by rw [c]; rfl
        rw [h0]
        have e0 : toksA ([] : List TokV) = [] := rfl
        repeat' (first | refine ⟨by omega, ?_⟩ | (refine hJ _ _ (RunsL.nil ?_); clear hJ J) | refine RunsA.cond rfl (fun h => ?_) (fun h => absurd h (by decide)) | refine RunsA.cond rfl (fun h => absurd h (by decide)) (fun h => ?_) | (refine step_ ?_) | (refine RunsA.rk 10 [] tabOk fun J hJ => ?_; simp only [go_sem, ↓reduceIte, Nat.reduceAdd, Nat.reduceSub, Nat.reduceMul, Nat.reduceLT, Nat.reduceLeDiff, Nat.reduceEqDiff, Nat.reduceBEq, Int.reduceToNat, e, hg, rowsT_len, toksA_len, e0, List.nil_append]; try simp (disch := omega) only [wrap_id]) | simp only [↓reduceIte, not_false_eq_true, e, hg, rowsT_len, toksA_len, e0, List.nil_append])
        exact hK3 (i + 1) _ (by omega) (by omega) rfl (by simp [SubS, lookS]) (by simp [SubO, lookO, hsn]) rfl
      · have e : decide ((0 : Int) < (i : Int)) = true := decide_eq_true (by omega)
        rw [if_neg (fun hc => by have := congrArg List.length hc; rw [List.length_take] at this; simp only [List.length_nil] at this; omega)] at hsn
        rw [hsn] at hlen2
        simp only [List.length_append, List.length_cons, List.length_nil] at hlen2
        have hsn2 : toksA (sepL (L.take i)) ++ [.agg [.int .i64 4, .int .i64 0, .str [44]]] ++ toksA x = toksA (sepL (L.take (i + 1))) := by
          rw [hsn, ← toksA_app, ← toksA_app]; rfl
        generalize sepL (L.take i) = A at *
        generalize hA' : sepL (L.take (i + 1)) = A' at *
        repeat' (first | refine ⟨by omega, ?_⟩ | (refine hJ _ _ (RunsL.nil ?_); clear hJ J) | refine RunsA.cond rfl (fun h => ?_) (fun h => absurd h (by decide)) | refine RunsA.cond rfl (fun h => absurd h (by decide)) (fun h => ?_) | (refine step_ ?_) | (refine RunsA.rk 10 [] tabOk fun J hJ => ?_; simp only [go_sem, ↓reduceIte, Nat.reduceAdd, Nat.reduceSub, Nat.reduceMul, Nat.reduceLT, Nat.reduceLeDiff, Nat.reduceEqDiff, Nat.reduceBEq, Int.reduceToNat, e, hg, rowsT_len, toksA_len, List.length_append, List.length_cons, List.length_nil, hsn2]; try simp (disch := omega) only [wrap_id]) | (refine hJ _ _ (RunsL.call (ps := []) (rid := 16) rfl rfl rfl rfl rfl (by simp only [go_sem, Nat.reduceEqDiff]; first | done | rfl) (markTi_ok _) rfl (by decide) ⟨by decide, by decide, rfl⟩ (by first | exact .inl rfl | exact .inr (.inl rfl) | exact .inr (.inr rfl)) ?_); clear hJ J; rintro r os' ros ⟨rfl, rfl, rfl⟩ _; refine RunsL.go tabOk fun J hJ => ?_; simp only [go_sem, ↓reduceIte, Nat.reduceAdd, Nat.reduceSub, Nat.reduceMul, Nat.reduceLT, Nat.reduceLeDiff, Nat.reduceEqDiff, Nat.reduceBEq, Int.reduceToNat, e, hg, rowsT_len, toksA_len, List.length_append, List.length_cons, List.length_nil, hsn2]; try simp (disch := omega) only [wrap_id]) | simp only [↓reduceIte, not_false_eq_true, e, hg, rowsT_len, toksA_len, List.length_append, List.length_cons, List.length_nil, hsn2])
        exact hK3 (i + 1) _ (by omega) (by omega) rfl (by simp [SubS, lookS]) (by simp [SubO, lookO, hA', hsn2]) rfl
    · simp only [decide_eq_false_iff_not] at h2
      have : i = L.length := by omega
      subst this
      rw [List.take_length]
      refine run_ ?_
      refine RetA.v tabOk rfl ?_
      simp only [go_sem, ↓reduceIte, Nat.reduceAdd, Nat.reduceSub, Nat.reduceMul, Nat.reduceLT, Nat.reduceLeDiff, Nat.reduceEqDiff, Nat.reduceBEq, Int.reduceToNat]
      refine RetV.ren (id := 1792) (id' := 100) (by simp only [go_sem, ↓reduceIte, Nat.reduceAdd, Nat.reduceSub, Nat.reduceMul, Nat.reduceLT, Nat.reduceLeDiff, Nat.reduceEqDiff, Nat.reduceBEq, Int.reduceToNat]; rfl) ?_
      simp only [go_sem, ↓reduceIte, Nat.reduceAdd, Nat.reduceSub, Nat.reduceMul, Nat.reduceLT, Nat.reduceLeDiff, Nat.reduceEqDiff, Nat.reduceBEq, Int.reduceToNat]
      exact RetV.mk 1 rfl rfl (by omega) rfl (by simp [noBoO, noBo_toks]) rfl ⟨rfl, rfl, rfl⟩
  · exact Nat.zero_le _
  · simp [SubS, lookS]
  · simp [SubO, lookO, sepL, toksA]
end Go.Proofs.YtgjeemfggfhibaaGreatDoorFw
namespace Go.Proofs.YtgjeemfggfhibaaGreatDoorFw
open Go Go.RowKit
def termsT (l : List ExprV) : List (List TokV) := l.map ExprV.toks
theorem termsT_len (l : List ExprV) : (termsT l).length = l.length := by simp [termsT]
theorem termsT_tot (l : List ExprV) (hg : ∀ e ∈ l, e.good) : totT (termsT l) ≤ 3 * ExprV.totL l + 4 * l.length := by
  induction l with
  | nil => simp [termsT, totT]
  | cons e r ih =>
    have h1 := ExprV.toks_len e (hg e (by simp))
    have h2 := ih (fun x hx => hg x (by simp [hx]))
    simp only [termsT, List.map_cons, totT, ExprV.totL, List.length_cons] at *
    omega
set_option maxHeartbeats 2000000 in
theorem l12Terms_ok (w : Str) (l : List ExprV) (hl : l.length ≤ 1048576 ∧ ExprV.totL l ≤ 1048576) (hgd : ∀ e ∈ l, e.good) :
    FnA Tryz.prog 115 false [.str w, .row .bo 4 (exprsA .bo l)] [] (fun res os ros => res = .hd 100 [] ∧ os = [] ∧ ros = [(3, toksA (⟨3, 0, w⟩ :: sepL (termsT l)))]) := by
  refine FnA.of Tryz.func115 rfl (by decide) Tryz.ntmps115 (by simp) ?_
  have htot := termsT_tot l hgd
  refine run_ ?_
  refine RunsA.loop ?_
  refine (LoopA.ind (fun i : Nat => ⟨30, [(1, .row .bo 4 (exprsA .bo l)), (5, .hd 2560 []), (6, .int .i64 i)], [⟨2560, 3, toksA (⟨3, 0, w⟩ :: sepL ((termsT l).take i))⟩], false⟩) (fun i => l.length - i) (fun i => i ≤ l.length) ?_ 0 ?_).sub rfl ?_ ?_ rfl
  · intro i hi K3 hK3
    refine run1_ @exprsA_len ?_
    refine RunsA.cond rfl (fun h2 => ?_) (fun h2 => ?_)
    · simp only [decide_eq_true_eq] at h2
      have hilt : i < l.length := by omega
      have hg := exprsA_get .bo hilt
      have htm := ExprV.totL_mem (List.getElem_mem hilt)
      have hT := l10Tokens_ok l[i] (hgd _ (List.getElem_mem hilt)) (by omega)
      have hTl := ExprV.toks_len l[i] (hgd _ (List.getElem_mem hilt))
      have hi2 : i < (termsT l).length := by rw [termsT_len]; exact hilt
      have hge : (termsT l)[i] = l[i].toks := by simp [termsT]
      have hsn := sepL_snoc ((termsT l).take i) (termsT l)[i]
      rw [← take_snoc hi2, hge] at hsn
      have hlen := sepL_len ((termsT l).take i)
      have hlt := totT_take (termsT l) i
      generalize l[i] = x at *
      rw [exprA_un] at hg hT
      generalize x.toks = X at *
      by_cases c : i = 0
      · have e : decide ((0 : Int) < (i : Int)) = false := decide_eq_false (by omega)
        rw [if_pos (by rw [c]; rfl)] at hsn
        have h0 : sepL ((termsT l).take i) = [] := by rw [c]; rfl
        rw [h0]
        repeat' (first | refine ⟨by omega, ?_⟩ | (refine hJ _ _ (RunsL.nil ?_); clear hJ J) | refine RunsA.cond rfl (fun h => ?_) (fun h => absurd h (by decide)) | refine RunsA.cond rfl (fun h => absurd h (by decide)) (fun h => ?_) | (refine step_ ?_) | (refine RunsA.rk 7 [] tabOk fun J hJ => ?_; simp only [go_sem, ↓reduceIte, Nat.reduceAdd, Nat.reduceSub, Nat.reduceMul, Nat.reduceLT, Nat.reduceLeDiff, Nat.reduceEqDiff, Nat.reduceBEq, Int.reduceToNat, e, hg, exprsA_len, toksA_len, List.length_cons, List.length_nil]; try simp (disch := omega) only [wrap_id]) | simp only [↓reduceIte, not_false_eq_true, e, hg, exprsA_len, toksA_len, List.length_cons, List.length_nil])
        refine hJ _ _ (RunsL.call (ps := []) (rid := 7168) rfl rfl rfl rfl rfl (by simp only [go_sem, Nat.reduceEqDiff, brw_exprs]; first | done | rfl) (hT) rfl (by decide) ⟨by decide, by decide, rfl⟩ (by first | exact .inl rfl | exact .inr (.inl rfl) | exact .inr (.inr rfl)) ?_); clear hJ J
        rintro r os' ros ⟨rfl, rfl, rfl⟩ _
        refine RunsL.go tabOk fun J hJ => ?_
        simp only [go_sem, ↓reduceIte, Nat.reduceAdd, Nat.reduceSub, Nat.reduceMul, Nat.reduceLT, Nat.reduceLeDiff, Nat.reduceEqDiff, Nat.reduceBEq, Int.reduceToNat, toksA_len, List.length_cons, List.length_nil]
        try simp (disch := omega) only [wrap_id]
        (repeat refine ⟨by omega, ?_⟩)
        refine hJ _ _ (RunsL.nil ?_); clear hJ J
        refine run_ ?_
        exact hK3 (i + 1) _ (by omega) (by omega) rfl (by simp [SubS, lookS]) (by simp [SubO, lookO, hsn, toksA]) rfl
      · have e : decide ((0 : Int) < (i : Int)) = true := decide_eq_true (by omega)
        rw [if_neg (fun hc => by have := congrArg List.length hc; rw [List.length_take, termsT_len] at this; simp only [List.length_nil] at this; omega)] at hsn
        have hsn2 : toksA (⟨3, 0, w⟩ :: sepL ((termsT l).take i)) ++ [.agg [.int .i64 4, .int .i64 0, .str [44]]] ++ toksA X = toksA (⟨3, 0, w⟩ :: sepL ((termsT l).take (i + 1))) := by
          rw [hsn]; simp [toksA, tokA, markT]
        have hAl : (⟨3, 0, w⟩ :: sepL ((termsT l).take i) : List TokV).length = (sepL ((termsT l).take i)).length + 1 := rfl
        generalize (⟨3, 0, w⟩ :: sepL ((termsT l).take i) : List TokV) = A at *
        generalize hA' : (⟨3, 0, w⟩ :: sepL ((termsT l).take (i + 1)) : List TokV) = A' at *
        repeat' (first | refine ⟨by omega, ?_⟩ | (refine hJ _ _ (RunsL.nil ?_); clear hJ J) | refine RunsA.cond rfl (fun h => ?_) (fun h => absurd h (by decide)) | refine RunsA.cond rfl (fun h => absurd h (by decide)) (fun h => ?_) | (refine step_ ?_) | (refine RunsA.rk 7 [] tabOk fun J hJ => ?_; simp only [go_sem, ↓reduceIte, Nat.reduceAdd, Nat.reduceSub, Nat.reduceMul, Nat.reduceLT, Nat.reduceLeDiff, Nat.reduceEqDiff, Nat.reduceBEq, Int.reduceToNat, e, hg, exprsA_len, toksA_len, List.length_append, List.length_cons, List.length_nil]; try simp (disch := omega) only [wrap_id]) | (refine hJ _ _ (RunsL.call (ps := []) (rid := 16) rfl rfl rfl rfl rfl (by simp only [go_sem, Nat.reduceEqDiff]; first | done | rfl) (l10Mark_ok _) rfl (by decide) ⟨by decide, by decide, rfl⟩ (by first | exact .inl rfl | exact .inr (.inl rfl) | exact .inr (.inr rfl)) ?_); clear hJ J; rintro r os' ros ⟨rfl, rfl, rfl⟩ _; refine RunsL.go tabOk fun J hJ => ?_; simp only [go_sem, ↓reduceIte, Nat.reduceAdd, Nat.reduceSub, Nat.reduceMul, Nat.reduceLT, Nat.reduceLeDiff, Nat.reduceEqDiff, Nat.reduceBEq, Int.reduceToNat, e, hg, exprsA_len, toksA_len, List.length_append, List.length_cons, List.length_nil]; try simp (disch := omega) only [wrap_id]) | simp only [↓reduceIte, not_false_eq_true, e, hg, exprsA_len, toksA_len, List.length_append, List.length_cons, List.length_nil])
        refine hJ _ _ (RunsL.call (ps := []) (rid := 7168) rfl rfl rfl rfl rfl (by simp only [go_sem, Nat.reduceEqDiff, brw_exprs]; first | done | rfl) (hT) rfl (by decide) ⟨by decide, by decide, rfl⟩ (by first | exact .inl rfl | exact .inr (.inl rfl) | exact .inr (.inr rfl)) ?_); clear hJ J
        rintro r os' ros ⟨rfl, rfl, rfl⟩ _
        refine RunsL.go tabOk fun J hJ => ?_
        simp only [go_sem, ↓reduceIte, Nat.reduceAdd, Nat.reduceSub, Nat.reduceMul, Nat.reduceLT, Nat.reduceLeDiff, Nat.reduceEqDiff, Nat.reduceBEq, Int.reduceToNat, toksA_len, List.length_append, List.length_cons, List.length_nil]
        try simp (disch := omega) only [wrap_id]
        (repeat refine ⟨by omega, ?_⟩)
        refine hJ _ _ (RunsL.nil ?_); clear hJ J
        refine run_ ?_
        exact hK3 (i + 1) _ (by omega) (by omega) rfl (by simp [SubS, lookS]) (by simp only [hsn2, hA']; simp [SubO, lookO]) rfl
    · simp only [decide_eq_false_iff_not] at h2
      have : i = l.length := by omega
      subst this
      rw [← termsT_len l, List.take_length]
      refine run_ ?_
      refine RetA.v tabOk rfl ?_
      simp only [go_sem, ↓reduceIte, Nat.reduceAdd, Nat.reduceSub, Nat.reduceMul, Nat.reduceLT, Nat.reduceLeDiff, Nat.reduceEqDiff, Nat.reduceBEq, Int.reduceToNat]
      refine RetV.ren (id := 2560) (id' := 100) (by simp only [go_sem, ↓reduceIte, Nat.reduceAdd, Nat.reduceSub, Nat.reduceMul, Nat.reduceLT, Nat.reduceLeDiff, Nat.reduceEqDiff, Nat.reduceBEq, Int.reduceToNat]; rfl) ?_
      simp only [go_sem, ↓reduceIte, Nat.reduceAdd, Nat.reduceSub, Nat.reduceMul, Nat.reduceLT, Nat.reduceLeDiff, Nat.reduceEqDiff, Nat.reduceBEq, Int.reduceToNat]
      exact RetV.mk 1 rfl rfl (by omega) rfl (by simp [noBoO, noBo_toks]) rfl ⟨rfl, rfl, rfl⟩
  · exact Nat.zero_le _
  · simp [SubS, lookS]
  · simp [SubO, lookO, sepL, toksA, tokA]
end Go.Proofs.YtgjeemfggfhibaaGreatDoorFw
