/- Terms: marks. -/
import Derived.Test.YtedmpcmfcnfclaaD1
namespace Go.Proofs.YtedmpcmfcnfclaaFw
open Go Go.RowKit
set_option linter.unusedVariables false
set_option linter.unusedSimpArgs false
set_option maxRecDepth 4000
set_option pp.deepTerms.threshold 6
set_option pp.deepTerms false

mutual
def ExprV.cnt : ExprV → Nat
  | .mk k n s l => 3 + ExprV.cntL l
def ExprV.cntL : List ExprV → Nat
  | [] => 0
  | s :: r => s.cnt + ExprV.cntL r
end
mutual
def ExprV.mark : ExprV → Int → ExprV
  | .mk _ _ _ l, k => .mk k (k + 1) (markTxt (k + 2)) (ExprV.marks l (k + 3))
def ExprV.marks : List ExprV → Int → List ExprV
  | [], _ => []
  | s :: r, k => s.mark k :: ExprV.marks r (k + s.cnt)
end

theorem ExprV.marks_len : ∀ (l : List ExprV) (k : Int), (ExprV.marks l k).length = l.length
  | [], k => rfl
  | s :: r, k => by simp [ExprV.marks, ExprV.marks_len r]

theorem ExprV.marks_get : ∀ (l : List ExprV) (k : Int) (i : Nat) (h : i < l.length), (ExprV.marks l k)[i]? = some (l[i].mark (k + ExprV.cntL (l.take i)))
  | s :: r, k, 0, h => by simp [ExprV.marks, ExprV.cntL]
  | s :: r, k, i + 1, h => by
    simp only [ExprV.marks, List.getElem?_cons_succ]
    rw [ExprV.marks_get r _ i (by simpa using h)]
    simp only [List.getElem_cons_succ, List.take_succ_cons, ExprV.cntL]
    congr 2; omega

theorem ExprV.cntL_snoc : ∀ (l : List ExprV) (i : Nat) (h : i < l.length), ExprV.cntL (l.take (i + 1)) = ExprV.cntL (l.take i) + l[i].cnt
  | s :: r, 0, h => by simp [ExprV.cntL]
  | s :: r, i + 1, h => by
    simp only [List.take_succ_cons, ExprV.cntL, List.getElem_cons_succ]
    rw [ExprV.cntL_snoc r i (by simpa using h)]; omega

mutual
theorem ExprV.cnt_le : ∀ s : ExprV, s.cnt ≤ 3 * s.tot + 3
  | .mk k n s l => by simp only [ExprV.cnt, ExprV.tot]; have := ExprV.cntL_le l; omega
theorem ExprV.cntL_le : ∀ l : List ExprV, ExprV.cntL l ≤ 3 * ExprV.totL l + 3 * l.length
  | [] => by simp [ExprV.cntL]
  | s :: r => by simp only [ExprV.cntL, ExprV.totL, List.length_cons]; have := ExprV.cnt_le s; have := ExprV.cntL_le r; omega
end

theorem ExprV.cnt_pos (s : ExprV) : 3 ≤ s.cnt := by obtain ⟨k, n, s, l⟩ := s; simp only [ExprV.cnt]; omega
theorem ExprV.cntL_len : ∀ l : List ExprV, l.length ≤ ExprV.cntL l
  | [] => by simp [ExprV.cntL]
  | s :: r => by simp only [ExprV.cntL, List.length_cons]; have := ExprV.cnt_pos s; have := ExprV.cntL_len r; omega

theorem ExprV.cntL_take (l : List ExprV) (i : Nat) : ExprV.cntL (l.take i) ≤ ExprV.cntL l := by
  induction l generalizing i with
  | nil => simp [ExprV.cntL]
  | cons s r ih =>
    cases i with
    | zero => simp [ExprV.cntL]
    | succ i => simp only [List.take_succ_cons, ExprV.cntL]; have := ih i; omega

mutual
theorem ExprV.mark_cnt : ∀ (s : ExprV) (k : Int), (s.mark k).cnt = s.cnt
  | .mk _ _ _ l, k => by simp only [ExprV.mark, ExprV.cnt, ExprV.marks_cnt l]
theorem ExprV.marks_cnt : ∀ (l : List ExprV) (k : Int), ExprV.cntL (ExprV.marks l k) = ExprV.cntL l
  | [], k => rfl
  | s :: r, k => by simp only [ExprV.marks, ExprV.cntL, ExprV.mark_cnt s, ExprV.marks_cnt r]
end

mutual
theorem ExprV.mark_idem : ∀ (s : ExprV) (k : Int), (s.mark k).mark k = s.mark k
  | .mk _ _ _ l, k => by simp only [ExprV.mark, ExprV.marks_idem l]
theorem ExprV.marks_idem : ∀ (l : List ExprV) (k : Int), ExprV.marks (ExprV.marks l k) k = ExprV.marks l k
  | [], k => rfl
  | s :: r, k => by simp only [ExprV.marks, ExprV.mark_idem s, ExprV.mark_cnt s, ExprV.marks_idem r]
end

theorem markExprS_ok : ∀ l : List ExprV, ∀ (q : Path) (rsz : Nat) (res : List AV) (k : Int), navG res rsz q = some (4, exprsA .own l) → noBoL res = true → 0 ≤ k → k + ExprV.cntL l ≤ 4611686018427387904 →
    FnA Try.prog 56 true [.hd 0 q, .int .i64 k] [(rsz, res)] (fun r os ros => r = .int .i64 (k + ExprV.cntL l) ∧ os = [(rsz, navSet res q (exprsA .own (ExprV.marks l k)))] ∧ ros = []) := by
  refine ExprV.indL fun l ih => ?_
  intro q rsz res k hn hb h0 h1
  refine FnA.of Try.func56 rfl (by decide) Try.ntmps56 (by simp) ?_
  have hS := Spot.of hn
  rw [← navSet_self q res rsz 4 _ hn]
  repeat (first | refine RunsA.sq ?_ | refine RunsA.bk ?_ | refine RunsA.sk ?_ | refine RunsA.ex ?_ | refine RunsA.rt ?_ | refine At.n ?_ | refine At.x ?_ | refine At.r ?_ | refine At.bn ?_ | refine At.br ?_ | refine At.bx ?_ | refine At.by_ rfl ?_ | refine At.kx ?_ | refine At.kr ?_ | refine At.kn ?_ | refine At.er ?_ | refine At.en ?_ | (refine RunsA.rq tabOk fun J hJ => ?_; simp only [go_sem, ↓reduceIte, Nat.reduceAdd, Nat.reduceSub, Nat.reduceMul, Nat.reduceLT, Nat.reduceLeDiff, Nat.reduceEqDiff, Nat.reduceBEq, Int.reduceToNat]; (try simp (disch := omega) only [wrap_id]); (repeat refine ⟨by omega, ?_⟩); refine hJ _ _ (RunsL.nil ?_); clear hJ J) | (refine RunsA.dq mixed tabOk (by kernel_rfl) fun J hJ => ?_; simp only [go_sem, ↓reduceIte, Nat.reduceAdd, Nat.reduceSub, Nat.reduceMul, Nat.reduceLT, Nat.reduceLeDiff, Nat.reduceEqDiff, Nat.reduceBEq, Int.reduceToNat]; (try simp (disch := omega) only [wrap_id]); (repeat refine ⟨by omega, ?_⟩); refine hJ _ _ (QRuns.nil ?_); clear hJ J))
  refine RunsA.loop ?_
  refine (LoopA.ind (fun i : Nat => ⟨42, [(0, .hd 0 q), (1, .int .i64 (k + ExprV.cntL (l.take i))), (5, .int .i64 i)], [⟨0, rsz, navSet res q (exprsA .own ((ExprV.marks l k).take i ++ l.drop i))⟩], true⟩) (fun i => l.length - i) (fun i => i ≤ l.length) ?_ 0 ?_).sub rfl ?_ ?_ rfl
  · intro i hi K3 hK3
    have hml := ExprV.marks_len l k
    have hEl : (exprsA .own ((ExprV.marks l k).take i ++ l.drop i)).length = l.length := by rw [exprsA_len, half_len hml hi]
    repeat (first | refine RunsA.sq ?_ | refine RunsA.bk ?_ | refine RunsA.sk ?_ | refine RunsA.ex ?_ | refine RunsA.rt ?_ | refine At.n ?_ | refine At.x ?_ | refine At.r ?_ | refine At.bn ?_ | refine At.br ?_ | refine At.bx ?_ | refine At.by_ rfl ?_ | refine At.kx ?_ | refine At.kr ?_ | refine At.kn ?_ | refine At.er ?_ | refine At.en ?_ | (refine RunsA.rq tabOk fun J hJ => ?_; simp only [go_sem, ↓reduceIte, Nat.reduceAdd, Nat.reduceSub, Nat.reduceMul, Nat.reduceLT, Nat.reduceLeDiff, Nat.reduceEqDiff, Nat.reduceBEq, Int.reduceToNat, hS.get, hEl]; (try simp (disch := omega) only [wrap_id]); (repeat refine ⟨by omega, ?_⟩); refine hJ _ _ (RunsL.nil ?_); clear hJ J) | (refine RunsA.dq mixed tabOk (by kernel_rfl) fun J hJ => ?_; simp only [go_sem, ↓reduceIte, Nat.reduceAdd, Nat.reduceSub, Nat.reduceMul, Nat.reduceLT, Nat.reduceLeDiff, Nat.reduceEqDiff, Nat.reduceBEq, Int.reduceToNat, hS.get, hEl]; (try simp (disch := omega) only [wrap_id]); (repeat refine ⟨by omega, ?_⟩); refine hJ _ _ (QRuns.nil ?_); clear hJ J))
    refine RunsA.cond rfl (fun h2 => ?_) (fun h2 => ?_)
    · simp only [decide_eq_true_eq] at h2
      have hilt : i < l.length := by omega
      have hE : (exprsA .own ((ExprV.marks l k).take i ++ l.drop i))[i]? = some (exprA .own l[i]) := by rw [exprsA_eq, List.getElem?_map, half_get hml hilt]; rfl
      have hE2 : (exprsA .own ((ExprV.marks l k).take i ++ l.drop i)).set i (exprA .own (l[i].mark (k + ExprV.cntL (l.take i)))) = exprsA .own ((ExprV.marks l k).take (i + 1) ++ l.drop (i + 1)) := by
        rw [exprsA_eq, ← List.map_set, half_set hml hilt (ExprV.marks_get l k i hilt), ← exprsA_eq]
      have hc := ExprV.cntL_snoc l i hilt
      have hmem := List.getElem_mem hilt
      have hct := ExprV.cntL_take l (i + 1)
      have hcl := ExprV.cntL_len l
      have hnb : ∀ E, noBoL E = true → noBoL (navSet res q E) = true := fun E h => noBo_navSet _ _ _ hb h
      have hnE := noBo_exprs ((ExprV.marks l k).take i ++ l.drop i)
      generalize exprsA .own ((ExprV.marks l k).take i ++ l.drop i) = E at *
      generalize l[i] = s at *
      obtain ⟨ek, en, es, el⟩ := s
      rw [exprA_mk] at hE
      simp only [ExprV.mark, exprA_mk] at hE2
      simp only [ExprV.cnt] at hc
      have hlt : i < E.length := by omega
      have hEs : ∀ x, (E.set i x)[i]? = some x := fun x => List.getElem?_set_self hlt
      repeat (first | refine RunsA.sq ?_ | refine RunsA.bk ?_ | refine RunsA.sk ?_ | refine RunsA.ex ?_ | refine RunsA.rt ?_ | refine At.n ?_ | refine At.x ?_ | refine At.r ?_ | refine At.bn ?_ | refine At.br ?_ | refine At.bx ?_ | refine At.by_ rfl ?_ | refine At.kx ?_ | refine At.kr ?_ | refine At.kn ?_ | refine At.er ?_ | refine At.en ?_ | (refine RunsA.rq tabOk fun J hJ => ?_; simp only [go_sem, ↓reduceIte, Nat.reduceAdd, Nat.reduceSub, Nat.reduceMul, Nat.reduceLT, Nat.reduceLeDiff, Nat.reduceEqDiff, Nat.reduceBEq, Int.reduceToNat, hS.get, hS.set, hE, hEs, hEl, List.length_set, List.set_set]; (try simp (disch := omega) only [wrap_id]); (repeat refine ⟨by omega, ?_⟩); refine hJ _ _ (RunsL.nil ?_); clear hJ J) | (refine RunsA.dq mixed tabOk (by kernel_rfl) fun J hJ => ?_; simp only [go_sem, ↓reduceIte, Nat.reduceAdd, Nat.reduceSub, Nat.reduceMul, Nat.reduceLT, Nat.reduceLeDiff, Nat.reduceEqDiff, Nat.reduceBEq, Int.reduceToNat, hS.get, hS.set, hE, hEs, hEl, List.length_set, List.set_set]; (try simp (disch := omega) only [wrap_id]); (repeat refine ⟨by omega, ?_⟩); refine hJ _ _ (QRuns.nil ?_); clear hJ J))
      refine RunsA.rq tabOk fun J hJ => ?_
      simp only [go_sem, ↓reduceIte, Nat.reduceAdd, Nat.reduceSub, Nat.reduceMul, Nat.reduceLT, Nat.reduceLeDiff, Nat.reduceEqDiff, Nat.reduceBEq, Int.reduceToNat]
      try simp (disch := omega) only [wrap_id]
      refine hJ _ _ (RunsL.call (ps := []) (rid := 7680) rfl rfl rfl rfl rfl (by simp only [go_sem, Nat.reduceEqDiff]; first | done | rfl) (markText_ok (k + ExprV.cntL (l.take i) + 1 + 1) (by omega) (by omega)) rfl (by decide) ⟨by decide, by decide, rfl⟩ (by first | exact .inl rfl | exact .inr (.inl rfl) | exact .inr (.inr rfl)) ?_); clear hJ J
      rintro r os' ros ⟨rfl, rfl, rfl⟩ _
      refine RunsL.go tabOk fun J hJ => ?_
      simp only [go_sem, ↓reduceIte, Nat.reduceAdd, Nat.reduceSub, Nat.reduceMul, Nat.reduceLT, Nat.reduceLeDiff, Nat.reduceEqDiff, Nat.reduceBEq, Int.reduceToNat, hS.get, hS.set, hE, hEs, hEl, List.length_set, List.set_set]
      try simp (disch := omega) only [wrap_id]
      (repeat refine ⟨by omega, ?_⟩)
      refine hJ _ _ (RunsL.nil ?_); clear hJ J
      repeat (first | refine RunsA.sq ?_ | refine RunsA.bk ?_ | refine RunsA.sk ?_ | refine RunsA.ex ?_ | refine RunsA.rt ?_ | refine At.n ?_ | refine At.x ?_ | refine At.r ?_ | refine At.bn ?_ | refine At.br ?_ | refine At.bx ?_ | refine At.by_ rfl ?_ | refine At.kx ?_ | refine At.kr ?_ | refine At.kn ?_ | refine At.er ?_ | refine At.en ?_ | (refine RunsA.rq tabOk fun J hJ => ?_; simp only [go_sem, ↓reduceIte, Nat.reduceAdd, Nat.reduceSub, Nat.reduceMul, Nat.reduceLT, Nat.reduceLeDiff, Nat.reduceEqDiff, Nat.reduceBEq, Int.reduceToNat]; (try simp (disch := omega) only [wrap_id]); (repeat refine ⟨by omega, ?_⟩); refine hJ _ _ (RunsL.nil ?_); clear hJ J) | (refine RunsA.dq mixed tabOk (by kernel_rfl) fun J hJ => ?_; simp only [go_sem, ↓reduceIte, Nat.reduceAdd, Nat.reduceSub, Nat.reduceMul, Nat.reduceLT, Nat.reduceLeDiff, Nat.reduceEqDiff, Nat.reduceBEq, Int.reduceToNat]; (try simp (disch := omega) only [wrap_id]); (repeat refine ⟨by omega, ?_⟩); refine hJ _ _ (QRuns.nil ?_); clear hJ J))
      refine RunsA.rq tabOk fun J hJ => ?_
      simp only [go_sem, ↓reduceIte, Nat.reduceAdd, Nat.reduceSub, Nat.reduceMul, Nat.reduceLT, Nat.reduceLeDiff, Nat.reduceEqDiff, Nat.reduceBEq, Int.reduceToNat, hS.get, hEs, hEl, List.length_set]
      try simp (disch := omega) only [wrap_id]
      refine ⟨by omega, ?_⟩
      refine hJ _ _ (RunsL.call (ps := [0]) (rid := 10496) rfl rfl rfl rfl rfl (by simp only [go_sem, Nat.reduceEqDiff]; first | done | rfl) (ih ek en es el hmem (q ++ [(i, 3)]) rsz _ (k + ExprV.cntL (l.take i) + 1 + 1 + 1) (hS.inG _ i 3 _ _ _ (hEs _) rfl) (hnb _ (noBoL_set hnE (by simp only [noBo, noBoL, noBo_exprs, Bool.and_self]))) (by omega) (by omega)) rfl (by decide) ⟨by decide, by decide, rfl⟩ (by first | exact .inl rfl | exact .inr (.inl rfl) | exact .inr (.inr rfl)) ?_); clear hJ J
      rintro r os' ros ⟨rfl, rfl, rfl⟩ _
      rw [hS.inS _ i 3 _ _ _ _ (hEs _) rfl]
      simp only [AV.setC, List.set_cons_zero, List.set_cons_succ, List.set_set]
      rw [show k + (ExprV.cntL (l.take i) : Int) + 1 + 1 + 1 = k + ExprV.cntL (l.take i) + 3 by omega, show k + (ExprV.cntL (l.take i) : Int) + 1 + 1 = k + ExprV.cntL (l.take i) + 2 by omega, hE2]
      refine RunsL.go tabOk fun J hJ => ?_
      simp only [go_sem, ↓reduceIte, Nat.reduceAdd, Nat.reduceSub, Nat.reduceMul, Nat.reduceLT, Nat.reduceLeDiff, Nat.reduceEqDiff, Nat.reduceBEq, Int.reduceToNat]
      try simp (disch := omega) only [wrap_id]
      refine hJ _ _ (RunsL.nil ?_); clear hJ J
      repeat (first | refine RunsA.sq ?_ | refine RunsA.bk ?_ | refine RunsA.sk ?_ | refine RunsA.ex ?_ | refine RunsA.rt ?_ | refine At.n ?_ | refine At.x ?_ | refine At.r ?_ | refine At.bn ?_ | refine At.br ?_ | refine At.bx ?_ | refine At.by_ rfl ?_ | refine At.kx ?_ | refine At.kr ?_ | refine At.kn ?_ | refine At.er ?_ | refine At.en ?_ | (refine RunsA.rq tabOk fun J hJ => ?_; simp only [go_sem, ↓reduceIte, Nat.reduceAdd, Nat.reduceSub, Nat.reduceMul, Nat.reduceLT, Nat.reduceLeDiff, Nat.reduceEqDiff, Nat.reduceBEq, Int.reduceToNat]; (try simp (disch := omega) only [wrap_id]); (repeat refine ⟨by omega, ?_⟩); refine hJ _ _ (RunsL.nil ?_); clear hJ J) | (refine RunsA.dq mixed tabOk (by kernel_rfl) fun J hJ => ?_; simp only [go_sem, ↓reduceIte, Nat.reduceAdd, Nat.reduceSub, Nat.reduceMul, Nat.reduceLT, Nat.reduceLeDiff, Nat.reduceEqDiff, Nat.reduceBEq, Int.reduceToNat]; (try simp (disch := omega) only [wrap_id]); (repeat refine ⟨by omega, ?_⟩); refine hJ _ _ (QRuns.nil ?_); clear hJ J))
      have e3 : k + (ExprV.cntL (l.take i) : Int) + 3 + ExprV.cntL el = k + ExprV.cntL (l.take (i + 1)) := by omega
      rw [e3]
      exact hK3 (i + 1) _ (by omega) (by omega) rfl (by simp [SubS, lookS]) (by simp [SubO, lookO]) rfl
    · repeat (first | refine RunsA.sq ?_ | refine RunsA.bk ?_ | refine RunsA.sk ?_ | refine RunsA.ex ?_ | refine RunsA.rt ?_ | refine At.n ?_ | refine At.x ?_ | refine At.r ?_ | refine At.bn ?_ | refine At.br ?_ | refine At.bx ?_ | refine At.by_ rfl ?_ | refine At.kx ?_ | refine At.kr ?_ | refine At.kn ?_ | refine At.er ?_ | refine At.en ?_ | (refine RunsA.rq tabOk fun J hJ => ?_; simp only [go_sem, ↓reduceIte, Nat.reduceAdd, Nat.reduceSub, Nat.reduceMul, Nat.reduceLT, Nat.reduceLeDiff, Nat.reduceEqDiff, Nat.reduceBEq, Int.reduceToNat]; (try simp (disch := omega) only [wrap_id]); (repeat refine ⟨by omega, ?_⟩); refine hJ _ _ (RunsL.nil ?_); clear hJ J) | (refine RunsA.dq mixed tabOk (by kernel_rfl) fun J hJ => ?_; simp only [go_sem, ↓reduceIte, Nat.reduceAdd, Nat.reduceSub, Nat.reduceMul, Nat.reduceLT, Nat.reduceLeDiff, Nat.reduceEqDiff, Nat.reduceBEq, Int.reduceToNat]; (try simp (disch := omega) only [wrap_id]); (repeat refine ⟨by omega, ?_⟩); refine hJ _ _ (QRuns.nil ?_); clear hJ J))
      simp only [decide_eq_false_iff_not] at h2
      have : i = l.length := by omega
      subst this
      have e : (ExprV.marks l k).take l.length ++ l.drop l.length = ExprV.marks l k := by rw [List.drop_length, List.append_nil, List.take_of_length_le (by omega)]
      rw [e, List.take_length]
      exact RetA.mk tabOk 0 rfl rfl rfl (by omega) (by simp only [noBoO, Bool.and_true]; exact noBo_navSet _ _ _ hb (noBo_exprs _)) rfl rfl ⟨rfl, by rw [hS.set], rfl⟩
  · exact Nat.zero_le _
  · simp [SubS, lookS, ExprV.cntL]
  · simp [SubO, lookO]

end Go.Proofs.YtedmpcmfcnfclaaFw
