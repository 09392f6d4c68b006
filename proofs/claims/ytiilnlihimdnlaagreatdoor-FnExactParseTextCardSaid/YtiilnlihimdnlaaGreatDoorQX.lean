/- Lists of lines: told apart, marked, held. -/
import Derived.Test.YtiilnlihimdnlaaGreatDoorQM
set_option linter.unusedVariables false
set_option linter.unusedSimpArgs false
set_option maxRecDepth 4000
namespace Go.Proofs.YtiilnlihimdnlaaGreatDoorFw
open Go Go.RowKit
def linesA (m : Md) (l : List LineV) : List AV := l.map (lineA m)
theorem linesA_len (m : Md) (l : List LineV) : (linesA m l).length = l.length := by simp [linesA]
theorem linesA_get (m : Md) {l : List LineV} {i : Nat} (h : i < l.length) : (linesA m l)[i]? = some (lineA m l[i]) := by simp [linesA, h]
theorem brw_lines (m : Md) : ∀ l : List LineV, brwL (linesA m l) = linesA .bo l
 | [] => rfl
 | e :: r => by
  have := brw_lines m r
  simp only [linesA, List.map_cons, brwL, brw_line] at *
  rw [this]
theorem noBo_lines : ∀ l : List LineV, noBoL (linesA .own l) = true
 | [] => rfl
 | e :: r => by
  have := noBo_lines r
  simp only [linesA, List.map_cons, noBoL, noBo_line, Bool.and_self] at *
  rw [this]; rfl
def LineV.totL : List LineV → Nat
 | [] => 0
 | e :: r => e.tot + LineV.totL r
theorem LineV.totL_mem : ∀ {l : List LineV} {e : LineV}, e ∈ l → e.tot ≤ LineV.totL l
 | x :: r, s, h => by
  simp only [LineV.totL]
  rcases List.mem_cons.1 h with e | e
  ·subst e; omega
  ·have := LineV.totL_mem e; omega
set_option maxHeartbeats 1000000 in
theorem eqLineS_ok (l l' : List LineV) (hl : l.length ≤ 140737488355328) (ht : LineV.totL l ≤ 140737488355328) :
 FnA Tryz.prog 18 false [.row .bo 17 (linesA .bo l), .row .bo 17 (linesA .bo l')] [] (fun r os ros => r = .bool (decide (l = l')) ∧ os = [] ∧ ros = []) := by
 refine FnA.of Tryz.func18 rfl (by decide) Tryz.ntmps18 (by simp) ?_
 refine run1_ @linesA_len ?_
 refine RunsA.cond rfl (fun h => ?_) (fun h => ?_)
 ·refine run_ ?_
  have : l ≠ l' := by rintro rfl; simp at h
  exact RetA.mk tabOk 0 rfl rfl rfl (by omega) rfl rfl rfl ⟨by simp [res1, this], rfl, rfl⟩
 ·have hll : l.length = l'.length := by simp at h; omega
  refine run_ ?_
  refine RunsA.loop ?_
  refine (LoopA.ind (fun i : Nat => ⟨27, [(0, .row .bo 17 (linesA .bo l)), (1, .row .bo 17 (linesA .bo l')), (5, .int .i64 i)], [], false⟩) (fun i => l.length - i) (fun i => i ≤ l.length ∧ l.take i = l'.take i) ?_ 0 ?_).sub rfl ?_ trivial rfl
  ·rintro i ⟨hi, ht'⟩ K3 hK3
   refine run1_ @linesA_len ?_
   refine RunsA.cond rfl (fun h2 => ?_) (fun h2 => ?_)
   ·simp only [decide_eq_true_eq] at h2
    have hilt : i < l.length := by omega
    have hilt' : i < l'.length := by omega
    have e1 := take_snoc hilt
    have e2 := take_snoc hilt'
    have HH := eqLine_ok l[i] (by have := LineV.totL_mem (List.getElem_mem hilt); omega) l'[i]
    have hg := linesA_get .bo hilt
    have hg' := linesA_get .bo hilt'
    generalize l[i] = s at HH hg e1
    generalize l'[i] = s' at HH hg' e2
    obtain ⟨k, m, op, sf, sr, sk, sn, ss, sl, df, dr, dk, dn, ds, dl, n, ll⟩ := s
    obtain ⟨k', m', op', sf', sr', sk', sn', ss', sl', df', dr', dk', dn', ds', dl', n', ll'⟩ := s'
    rw [lineA_mk, lineA_mk] at HH
    rw [lineA_mk] at hg hg'
    refine run_ ?_
    refine RunsA.dq mixed tabOk (by kernel_rfl) fun J hJ => ?_
    simp only [go_sem, ↓reduceIte, Nat.reduceAdd, Nat.reduceSub, Nat.reduceMul, Nat.reduceLT, Nat.reduceLeDiff, Nat.reduceEqDiff, Nat.reduceBEq, Int.reduceToNat, hg, hg']
    try simp (disch := omega) only [wrap_id]
    (repeat refine ⟨by omega, ?_⟩)
    refine hJ _ _ (QRuns.call (y := .bool (decide (LineV.mk k m op sf sr sk sn ss sl df dr dk dn ds dl n ll = LineV.mk k' m' op' sf' sr' sk' sn' ss' sl' df' dr' dk' dn' ds' dl' n' ll'))) rfl rfl rfl rfl (by simp only [go_sem, Nat.reduceEqDiff]) (HH) rfl (fun r os' ros h => ⟨by exact h.1, h.2.2⟩) rfl ?_); clear hJ J
    refine QRuns.go tabOk fun J hJ => ?_
    simp only [go_sem, ↓reduceIte, Nat.reduceAdd, Nat.reduceSub, Nat.reduceMul, Nat.reduceLT, Nat.reduceLeDiff, Nat.reduceEqDiff, Nat.reduceBEq, Int.reduceToNat]
    try simp (disch := omega) only [wrap_id]
    refine hJ _ _ (QRuns.nil ?_); clear hJ J
    refine run_ ?_
    generalize LineV.mk k m op sf sr sk sn ss sl df dr dk dn ds dl n ll = A at *
    generalize LineV.mk k' m' op' sf' sr' sk' sn' ss' sl' df' dr' dk' dn' ds' dl' n' ll' = B at *
    refine RunsA.cond rfl (fun h3 => ?_) (fun h3 => ?_)
    ·refine run_ ?_
     have h4 : A ≠ B := by intro e; rw [e] at h3; simp at h3
     have : l ≠ l' := by
      rintro rfl
      rw [e1] at e2
      exact h4 (by simpa using e2)
     exact RetA.mk tabOk 0 rfl rfl rfl (by omega) rfl rfl rfl ⟨by simp [res1, this], rfl, rfl⟩
    ·refine run_ ?_
     have h4 : A = B := by simpa using h3
     exact hK3 (i + 1) _ ⟨by omega, by rw [e1, e2, ht', h4]⟩ (by omega) rfl (by simp [SubS, lookS]) (by simp [SubO, lookO]) rfl
   ·refine run_ ?_
    have : l = l' := by
     simp only [decide_eq_false_iff_not] at h2
     rw [List.take_of_length_le (by omega), List.take_of_length_le (by omega)] at ht'
     exact ht'
    exact RetA.mk tabOk 0 rfl rfl rfl (by omega) rfl rfl rfl ⟨by simp [res1, this], rfl, rfl⟩
  ·exact ⟨Nat.zero_le _, by simp⟩
  ·simp [SubS, lookS]
def LineV.cntA : LineV → Nat
 | .mk k s op sf sr sk sn ss sl df dr dk dn ds dl n l => 8 + (ExprV.cntL sl + (5 + (ExprV.cntL dl + (1 + ExprV.cntL l))))
def LineV.markA : LineV → Int → LineV
 | .mk _ _ _ _ _ _ _ _ sl _ _ _ _ _ dl _ l, q => .mk q (markTxt (q + 1)) (q + 2) (q + 3) (q + 4) (q + 5) (q + 6) (markTxt (q + 7)) (ExprV.marks sl (q + 8))
  (q + 8 + ExprV.cntL sl) (q + 8 + ExprV.cntL sl + 1) (q + 8 + ExprV.cntL sl + 2) (q + 8 + ExprV.cntL sl + 3) (markTxt (q + 8 + ExprV.cntL sl + 4)) (ExprV.marks dl (q + 8 + ExprV.cntL sl + 5))
  (q + 8 + ExprV.cntL sl + 5 + ExprV.cntL dl) (ExprV.marks l (q + 8 + ExprV.cntL sl + 5 + ExprV.cntL dl + 1))
def LineV.cntL : List LineV → Nat
 | [] => 0
 | s :: r => s.cntA + LineV.cntL r
def LineV.marks : List LineV → Int → List LineV
 | [], _ => []
 | s :: r, k => s.markA k :: LineV.marks r (k + s.cntA)
theorem LineV.marks_len : ∀ (l : List LineV) (k : Int), (LineV.marks l k).length = l.length
 | [], k => rfl
 | s :: r, k => by simp [LineV.marks, LineV.marks_len r]
theorem LineV.marks_get : ∀ (l : List LineV) (k : Int) (i : Nat) (h : i < l.length), (LineV.marks l k)[i]? = some (l[i].markA (k + LineV.cntL (l.take i)))
 | s :: r, k, 0, h => by simp [LineV.marks, LineV.cntL]
 | s :: r, k, i + 1, h => by
  simp only [LineV.marks, List.getElem?_cons_succ]
  rw [LineV.marks_get r _ i (by simpa using h)]
  simp only [List.getElem_cons_succ, List.take_succ_cons, LineV.cntL]
  congr 2; omega
theorem LineV.cntL_snoc : ∀ (l : List LineV) (i : Nat) (h : i < l.length), LineV.cntL (l.take (i + 1)) = LineV.cntL (l.take i) + l[i].cntA
 | s :: r, 0, h => by simp [LineV.cntL]
 | s :: r, i + 1, h => by
  simp only [List.take_succ_cons, LineV.cntL, List.getElem_cons_succ]
  rw [LineV.cntL_snoc r i (by simpa using h)]; omega
theorem LineV.cntL_take (l : List LineV) (i : Nat) : LineV.cntL (l.take i) ≤ LineV.cntL l := by
 induction l generalizing i with
 | nil => simp [LineV.cntL]
 | cons s r ih =>
  cases i with
  | zero => simp [LineV.cntL]
  | succ i => simp only [List.take_succ_cons, LineV.cntL]; have := ih i; omega
theorem LineV.cntA_pos (s : LineV) : 14 ≤ s.cntA := by obtain ⟨k, m, op, sf, sr, sk, sn, ss, sl, df, dr, dk, dn, ds, dl, n, ll⟩ := s; simp only [LineV.cntA]; omega
theorem LineV.cntL_len : ∀ l : List LineV, l.length ≤ LineV.cntL l
 | [] => by simp [LineV.cntL]
 | s :: r => by simp only [LineV.cntL, List.length_cons]; have := LineV.cntA_pos s; have := LineV.cntL_len r; omega
set_option maxHeartbeats 4000000 in
theorem markLineS_ok (l : List LineV) (q : Path) (rsz : Nat) (res : List AV) (k : Int) (hn : navG res rsz q = some (17, linesA .own l)) (hb : noBoL res = true) (h0 : 0 ≤ k) (h1 : k + LineV.cntL l ≤ 4611686018427387904) :
 FnA Tryz.prog 19 true [.hd 0 q, .int .i64 k] [(rsz, res)] (fun r os ros => r = .int .i64 (k + LineV.cntL l) ∧ os = [(rsz, navSet res q (linesA .own (LineV.marks l k)))] ∧ ros = []) := by
 refine FnA.of Tryz.func19 rfl (by decide) Tryz.ntmps19 (by simp) ?_
 have hS := Spot.of hn
 rw [← navSet_self q res rsz 17 _ hn]
 refine run_ ?_
 refine RunsA.loop ?_
 refine (LoopA.ind (fun i : Nat => ⟨155, [(0, .hd 0 q), (1, .int .i64 (k + LineV.cntL (l.take i))), (5, .int .i64 i)], [⟨0, rsz, navSet res q (linesA .own ((LineV.marks l k).take i ++ l.drop i))⟩], true⟩) (fun i => l.length - i) (fun i => i ≤ l.length) ?_ 0 ?_).sub rfl ?_ ?_ rfl
 ·intro i hi K3 hK3
  have hml := LineV.marks_len l k
  have hEl : (linesA .own ((LineV.marks l k).take i ++ l.drop i)).length = l.length := by rw [linesA_len, half_len hml hi]
  repeat (first | refine RunsA.sq ?_ | refine RunsA.bk ?_ | refine RunsA.sk ?_ | refine RunsA.ex ?_ | refine RunsA.rt ?_ | refine At.n ?_ | refine At.x ?_ | refine At.r ?_ | refine At.bn ?_ | refine At.br ?_ | refine At.bx ?_ | refine At.by_ rfl ?_ | refine At.kx ?_ | refine At.kr ?_ | refine At.kn ?_ | refine At.er ?_ | refine At.en ?_ | (refine RunsA.rq tabOk fun J hJ => ?_; simp only [go_sem, ↓reduceIte, Nat.reduceAdd, Nat.reduceSub, Nat.reduceMul, Nat.reduceLT, Nat.reduceLeDiff, Nat.reduceEqDiff, Nat.reduceBEq, Int.reduceToNat, hS.get, hEl]; (try simp (disch := omega) only [wrap_id]); (repeat refine ⟨by omega, ?_⟩); refine hJ _ _ (RunsL.nil ?_); clear hJ J) | (refine RunsA.dq mixed tabOk (by kernel_rfl) fun J hJ => ?_; simp only [go_sem, ↓reduceIte, Nat.reduceAdd, Nat.reduceSub, Nat.reduceMul, Nat.reduceLT, Nat.reduceLeDiff, Nat.reduceEqDiff, Nat.reduceBEq, Int.reduceToNat, hS.get, hEl]; (try simp (disch := omega) only [wrap_id]); (repeat refine ⟨by omega, ?_⟩); refine hJ _ _ (QRuns.nil ?_); clear hJ J))
  refine RunsA.cond rfl (fun h2 => ?_) (fun h2 => ?_)
  ·simp only [decide_eq_true_eq] at h2
   have hilt : i < l.length := by omega
   have hE : (linesA .own ((LineV.marks l k).take i ++ l.drop i))[i]? = some (lineA .own l[i]) := by rw [linesA, List.getElem?_map, half_get hml hilt]; rfl
   have hE2 : (linesA .own ((LineV.marks l k).take i ++ l.drop i)).set i (lineA .own (l[i].markA (k + LineV.cntL (l.take i)))) = linesA .own ((LineV.marks l k).take (i + 1) ++ l.drop (i + 1)) := by
    rw [linesA, ← List.map_set, half_set hml hilt (LineV.marks_get l k i hilt)]; rfl
   have hc := LineV.cntL_snoc l i hilt
   have hct := LineV.cntL_take l (i + 1)
   have hcl := LineV.cntL_len l
   have hnb : ∀ E, noBoL E = true → noBoL (navSet res q E) = true := fun E h => noBo_navSet _ _ _ hb h
   have hnE := noBo_lines ((LineV.marks l k).take i ++ l.drop i)
   generalize linesA .own ((LineV.marks l k).take i ++ l.drop i) = E at *
   generalize l[i] = s at *
   obtain ⟨ek, em, eop, sf, sr, sk, sn, ss, sl, df, dr, dk, dn, ds, dl, en, ll⟩ := s
   rw [lineA_mk] at hE
   simp only [LineV.markA, lineA_mk] at hE2
   simp only [LineV.cntA] at hc
   have hlt : i < E.length := by omega
   have hEs : ∀ x, (E.set i x)[i]? = some x := fun x => List.getElem?_set_self hlt
   have hend : k + ((LineV.cntL (l.take (i + 1)) : Nat) : Int) = k + (LineV.cntL (l.take i) : Nat) + 8 + (ExprV.cntL sl : Nat) + 5 + (ExprV.cntL dl : Nat) + 1 + (ExprV.cntL ll : Nat) := by omega
   have hbd : k + (LineV.cntL (l.take i) : Nat) + 8 + (ExprV.cntL sl : Nat) + 5 + (ExprV.cntL dl : Nat) + 1 + (ExprV.cntL ll : Nat) ≤ 4611686018427387904 := by omega
   have hK0 : 0 ≤ k + ((LineV.cntL (l.take i) : Nat) : Int) := by omega
   generalize k + ((LineV.cntL (l.take i) : Nat) : Int) = K at *
   repeat' (first | refine ⟨by omega, ?_⟩ | (refine hJ _ _ (RunsL.nil ?_); clear hJ J) | refine RunsA.cond rfl (fun h => ?_) (fun h => absurd h (by decide)) | refine RunsA.cond rfl (fun h => absurd h (by decide)) (fun h => ?_) | (refine step_ ?_) | (refine RunsA.rk 6 [] tabOk fun J hJ => ?_; simp only [go_sem, ↓reduceIte, Nat.reduceAdd, Nat.reduceSub, Nat.reduceMul, Nat.reduceLT, Nat.reduceLeDiff, Nat.reduceEqDiff, Nat.reduceBEq, Int.reduceToNat, hS.get, hS.set, hE, hEs, hEl, List.length_set, List.set_set, Int.add_assoc, Int.reduceAdd]; try simp (disch := omega) only [wrap_id]) | (refine hJ _ _ (RunsL.call (ps := []) (rid := 16) rfl rfl rfl rfl rfl (by simp only [go_sem, Nat.reduceEqDiff]; first | done | rfl) (markText_ok _ (by omega) (by omega)) rfl (by decide) ⟨by decide, by decide, rfl⟩ (by first | exact .inl rfl | exact .inr (.inl rfl) | exact .inr (.inr rfl)) ?_); clear hJ J; rintro r os' ros ⟨rfl, rfl, rfl⟩ _; refine RunsL.go tabOk fun J hJ => ?_; simp only [go_sem, ↓reduceIte, Nat.reduceAdd, Nat.reduceSub, Nat.reduceMul, Nat.reduceLT, Nat.reduceLeDiff, Nat.reduceEqDiff, Nat.reduceBEq, Int.reduceToNat, hS.get, hS.set, hE, hEs, hEl, List.length_set, List.set_set, Int.add_assoc, Int.reduceAdd]; try simp (disch := omega) only [wrap_id]) | simp only [↓reduceIte, not_false_eq_true, hS.get, hS.set, hE, hEs, hEl, List.length_set, List.set_set, Int.add_assoc, Int.reduceAdd])
   refine hJ _ _ (call_ (ps := [0]) (rid := 16) rfl rfl rfl rfl rfl (markExprS_ok sl (q ++ [(i, 8)]) rsz _ (K + 8) (hS.inG _ i 8 _ _ _ (hEs _) rfl) (hnb _ (noBoL_set hnE (by simp only [noBo, noBoL, noBo_exprs, Bool.and_self]))) (by omega) (by omega)) ?_); clear hJ J
   rintro r os' ros ⟨rfl, rfl, rfl⟩ _
   rw [hS.inS _ i 8 _ _ _ _ (hEs _) rfl]
   simp only [AV.setC, List.set_cons_zero, List.set_cons_succ, List.set_set]
   generalize hK2 : K + 8 + (ExprV.cntL sl : Int) = K2 at *
   refine RunsL.go tabOk fun J hJ => ?_
   simp only [go_sem, ↓reduceIte, Nat.reduceAdd, Nat.reduceSub, Nat.reduceMul, Nat.reduceLT, Nat.reduceLeDiff, Nat.reduceEqDiff, Nat.reduceBEq, Int.reduceToNat]
   try simp (disch := omega) only [wrap_id]
   repeat' (first | refine ⟨by omega, ?_⟩ | (refine hJ _ _ (RunsL.nil ?_); clear hJ J) | refine RunsA.cond rfl (fun h => ?_) (fun h => absurd h (by decide)) | refine RunsA.cond rfl (fun h => absurd h (by decide)) (fun h => ?_) | (refine step_ ?_) | (refine RunsA.rk 6 [] tabOk fun J hJ => ?_; simp only [go_sem, ↓reduceIte, Nat.reduceAdd, Nat.reduceSub, Nat.reduceMul, Nat.reduceLT, Nat.reduceLeDiff, Nat.reduceEqDiff, Nat.reduceBEq, Int.reduceToNat, hS.get, hS.set, hE, hEs, hEl, List.length_set, List.set_set, Int.add_assoc, Int.reduceAdd]; try simp (disch := omega) only [wrap_id]) | (refine hJ _ _ (RunsL.call (ps := []) (rid := 16) rfl rfl rfl rfl rfl (by simp only [go_sem, Nat.reduceEqDiff]; first | done | rfl) (markText_ok _ (by omega) (by omega)) rfl (by decide) ⟨by decide, by decide, rfl⟩ (by first | exact .inl rfl | exact .inr (.inl rfl) | exact .inr (.inr rfl)) ?_); clear hJ J; rintro r os' ros ⟨rfl, rfl, rfl⟩ _; refine RunsL.go tabOk fun J hJ => ?_; simp only [go_sem, ↓reduceIte, Nat.reduceAdd, Nat.reduceSub, Nat.reduceMul, Nat.reduceLT, Nat.reduceLeDiff, Nat.reduceEqDiff, Nat.reduceBEq, Int.reduceToNat, hS.get, hS.set, hE, hEs, hEl, List.length_set, List.set_set, Int.add_assoc, Int.reduceAdd]; try simp (disch := omega) only [wrap_id]) | simp only [↓reduceIte, not_false_eq_true, hS.get, hS.set, hE, hEs, hEl, List.length_set, List.set_set, Int.add_assoc, Int.reduceAdd])
   refine hJ _ _ (call_ (ps := [0]) (rid := 16) rfl rfl rfl rfl rfl (markExprS_ok dl (q ++ [(i, 14)]) rsz _ (K2 + 5) (hS.inG _ i 14 _ _ _ (hEs _) rfl) (hnb _ (noBoL_set hnE (by simp only [noBo, noBoL, noBo_exprs, Bool.and_self]))) (by omega) (by omega)) ?_); clear hJ J
   rintro r os' ros ⟨rfl, rfl, rfl⟩ _
   rw [hS.inS _ i 14 _ _ _ _ (hEs _) rfl]
   simp only [AV.setC, List.set_cons_zero, List.set_cons_succ, List.set_set]
   generalize hK3' : K2 + 5 + (ExprV.cntL dl : Int) = K5 at *
   refine RunsL.go tabOk fun J hJ => ?_
   simp only [go_sem, ↓reduceIte, Nat.reduceAdd, Nat.reduceSub, Nat.reduceMul, Nat.reduceLT, Nat.reduceLeDiff, Nat.reduceEqDiff, Nat.reduceBEq, Int.reduceToNat]
   try simp (disch := omega) only [wrap_id]
   repeat' (first | refine ⟨by omega, ?_⟩ | (refine hJ _ _ (RunsL.nil ?_); clear hJ J) | refine RunsA.cond rfl (fun h => ?_) (fun h => absurd h (by decide)) | refine RunsA.cond rfl (fun h => absurd h (by decide)) (fun h => ?_) | (refine step_ ?_) | (refine RunsA.rk 6 [] tabOk fun J hJ => ?_; simp only [go_sem, ↓reduceIte, Nat.reduceAdd, Nat.reduceSub, Nat.reduceMul, Nat.reduceLT, Nat.reduceLeDiff, Nat.reduceEqDiff, Nat.reduceBEq, Int.reduceToNat, hS.get, hS.set, hE, hEs, hEl, List.length_set, List.set_set, Int.add_assoc, Int.reduceAdd]; try simp (disch := omega) only [wrap_id]) | (refine hJ _ _ (RunsL.call (ps := []) (rid := 16) rfl rfl rfl rfl rfl (by simp only [go_sem, Nat.reduceEqDiff]; first | done | rfl) (markText_ok _ (by omega) (by omega)) rfl (by decide) ⟨by decide, by decide, rfl⟩ (by first | exact .inl rfl | exact .inr (.inl rfl) | exact .inr (.inr rfl)) ?_); clear hJ J; rintro r os' ros ⟨rfl, rfl, rfl⟩ _; refine RunsL.go tabOk fun J hJ => ?_; simp only [go_sem, ↓reduceIte, Nat.reduceAdd, Nat.reduceSub, Nat.reduceMul, Nat.reduceLT, Nat.reduceLeDiff, Nat.reduceEqDiff, Nat.reduceBEq, Int.reduceToNat, hS.get, hS.set, hE, hEs, hEl, List.length_set, List.set_set, Int.add_assoc, Int.reduceAdd]; try simp (disch := omega) only [wrap_id]) | simp only [↓reduceIte, not_false_eq_true, hS.get, hS.set, hE, hEs, hEl, List.length_set, List.set_set, Int.add_assoc, Int.reduceAdd])
   refine hJ _ _ (call_ (ps := [0]) (rid := 16) rfl rfl rfl rfl rfl (markExprS_ok ll (q ++ [(i, 16)]) rsz _ (K5 + 1) (hS.inG _ i 16 _ _ _ (hEs _) rfl) (hnb _ (noBoL_set hnE (by simp only [noBo, noBoL, noBo_exprs, Bool.and_self]))) (by omega) (by omega)) ?_); clear hJ J
   rintro r os' ros ⟨rfl, rfl, rfl⟩ _
   rw [hS.inS _ i 16 _ _ _ _ (hEs _) rfl]
   simp only [AV.setC, List.set_cons_zero, List.set_cons_succ, List.set_set]
   rw [hE2, ← hend]
   refine cg_ ?_
   refine RunsL.nil ?_
   refine run_ ?_
   exact hK3 (i + 1) _ (by omega) (by omega) rfl (by simp [SubS, lookS]) (by simp [SubO, lookO]) rfl
  ·refine run_ ?_
   simp only [decide_eq_false_iff_not] at h2
   have : i = l.length := by omega
   subst this
   have e : (LineV.marks l k).take l.length ++ l.drop l.length = LineV.marks l k := by rw [List.drop_length, List.append_nil, List.take_of_length_le (by omega)]
   rw [e, List.take_length]
   exact RetA.mk tabOk 0 rfl rfl rfl (by omega) (by simp only [noBoO, Bool.and_true]; exact noBo_navSet _ _ _ hb (noBo_lines _)) rfl rfl ⟨rfl, by rw [hS.set], rfl⟩
 ·exact Nat.zero_le _
 ·simp [SubS, lookS, LineV.cntL]
 ·simp [SubO, lookO]
end Go.Proofs.YtiilnlihimdnlaaGreatDoorFw
namespace Go.Proofs.YtiilnlihimdnlaaGreatDoorFw
open Go Go.RowKit
set_option maxHeartbeats 4000000 in
theorem heldLineS_ok (l : List LineV) (k : Int) (h0 : 0 ≤ k) (h1 : k + LineV.cntL l ≤ 4611686018427387904) :
 FnA Tryz.prog 20 false [.row .bo 17 (linesA .bo (LineV.marks l k)), .int .i64 k] [] (fun r os ros => r = .int .i64 (k + LineV.cntL l) ∧ os = [] ∧ ros = []) := by
 refine FnA.of Tryz.func20 rfl (by decide) Tryz.ntmps20 (by simp) ?_
 have hml := LineV.marks_len l k
 refine run_ ?_
 refine RunsA.loop ?_
 refine (LoopA.ind (fun i : Nat => ⟨189, [(0, .row .bo 17 (linesA .bo (LineV.marks l k))), (1, .int .i64 (k + LineV.cntL (l.take i))), (5, .int .i64 i)], [], false⟩) (fun i => l.length - i) (fun i => i ≤ l.length) ?_ 0 ?_).sub rfl ?_ ?_ rfl
 ·intro i hi K3 hK3
  refine run1_ @linesA_len ?_
  refine RunsA.cond rfl (fun h2 => ?_) (fun h2 => ?_)
  ·simp only [decide_eq_true_eq] at h2
   have hilt : i < l.length := by omega
   have hg : (linesA .bo (LineV.marks l k))[i]? = some (lineA .bo (l[i].markA (k + LineV.cntL (l.take i)))) := by rw [linesA, List.getElem?_map, LineV.marks_get l k i hilt]; rfl
   have hll : (linesA .bo (LineV.marks l k)).length = l.length := by rw [linesA_len, hml]
   have hc := LineV.cntL_snoc l i hilt
   have hct := LineV.cntL_take l (i + 1)
   have hcl := LineV.cntL_len l
   generalize linesA .bo (LineV.marks l k) = E at *
   generalize l[i] = s at *
   obtain ⟨ek, em, eop, sf, sr, sk, sn, ss, sl, df, dr, dk, dn, ds, dl, en, ll⟩ := s
   simp only [LineV.markA, lineA_mk] at hg
   simp only [LineV.cntA] at hc
   have hend : k + ((LineV.cntL (l.take (i + 1)) : Nat) : Int) = k + (LineV.cntL (l.take i) : Nat) + 8 + (ExprV.cntL sl : Nat) + 5 + (ExprV.cntL dl : Nat) + 1 + (ExprV.cntL ll : Nat) := by omega
   have hbd : k + (LineV.cntL (l.take i) : Nat) + 8 + (ExprV.cntL sl : Nat) + 5 + (ExprV.cntL dl : Nat) + 1 + (ExprV.cntL ll : Nat) ≤ 4611686018427387904 := by omega
   have hK0 : 0 ≤ k + ((LineV.cntL (l.take i) : Nat) : Int) := by omega
   generalize k + ((LineV.cntL (l.take i) : Nat) : Int) = K at *
   generalize hK2 : K + 8 + (ExprV.cntL sl : Int) = K2 at *
   generalize hK5 : K2 + 5 + (ExprV.cntL dl : Int) = K5 at *
   repeat' (first | refine ⟨by omega, ?_⟩ | (refine hJ _ _ (RunsL.nil ?_); clear hJ J) | refine RunsA.cond rfl (fun h => ?_) (fun h => absurd h (by decide)) | refine RunsA.cond rfl (fun h => absurd h (by decide)) (fun h => ?_) | (refine step_ ?_) | (refine RunsA.rk 6 [] tabOk fun J hJ => ?_; simp only [go_sem, ↓reduceIte, Nat.reduceAdd, Nat.reduceSub, Nat.reduceMul, Nat.reduceLT, Nat.reduceLeDiff, Nat.reduceEqDiff, Nat.reduceBEq, Int.reduceToNat, hg, hll, Int.add_assoc, Int.reduceAdd, bne_self_eq_false]; try simp (disch := omega) only [wrap_id]) | simp only [↓reduceIte, not_false_eq_true, hg, hll, Int.add_assoc, Int.reduceAdd, bne_self_eq_false])
   refine RunsA.dq mixed tabOk (by kernel_rfl) fun J hJ => ?_
   simp only [go_sem, ↓reduceIte, Nat.reduceAdd, Nat.reduceSub, Nat.reduceMul, Nat.reduceLT, Nat.reduceLeDiff, Nat.reduceEqDiff, Nat.reduceBEq, Int.reduceToNat, hg, hll]
   try simp (disch := omega) only [wrap_id]
   (repeat refine ⟨by omega, ?_⟩)
   refine hJ _ _ (QRuns.call (y := .str (markTxt (K + 1))) rfl rfl rfl rfl (by simp only [go_sem, Nat.reduceEqDiff]) (markText_ok (K + 1) (by omega) (by omega)) rfl (fun r os' ros h => ⟨by exact h.1, h.2.2⟩) rfl ?_); clear hJ J
   refine QRuns.go tabOk fun J hJ => ?_
   simp only [go_sem, ↓reduceIte, Nat.reduceAdd, Nat.reduceSub, Nat.reduceMul, Nat.reduceLT, Nat.reduceLeDiff, Nat.reduceEqDiff, Nat.reduceBEq, Int.reduceToNat, bne_self_eq_false]
   try simp (disch := omega) only [wrap_id]
   refine hJ _ _ (QRuns.nil ?_); clear hJ J
   repeat' (first | refine ⟨by omega, ?_⟩ | (refine hJ _ _ (RunsL.nil ?_); clear hJ J) | refine RunsA.cond rfl (fun h => ?_) (fun h => absurd h (by decide)) | refine RunsA.cond rfl (fun h => absurd h (by decide)) (fun h => ?_) | (refine step_ ?_) | (refine RunsA.rk 6 [] tabOk fun J hJ => ?_; simp only [go_sem, ↓reduceIte, Nat.reduceAdd, Nat.reduceSub, Nat.reduceMul, Nat.reduceLT, Nat.reduceLeDiff, Nat.reduceEqDiff, Nat.reduceBEq, Int.reduceToNat, hg, hll, Int.add_assoc, Int.reduceAdd, bne_self_eq_false]; try simp (disch := omega) only [wrap_id]) | simp only [↓reduceIte, not_false_eq_true, hg, hll, Int.add_assoc, Int.reduceAdd, bne_self_eq_false])
   refine RunsA.dq mixed tabOk (by kernel_rfl) fun J hJ => ?_
   simp only [go_sem, ↓reduceIte, Nat.reduceAdd, Nat.reduceSub, Nat.reduceMul, Nat.reduceLT, Nat.reduceLeDiff, Nat.reduceEqDiff, Nat.reduceBEq, Int.reduceToNat, hg, hll]
   try simp (disch := omega) only [wrap_id]
   (repeat refine ⟨by omega, ?_⟩)
   refine hJ _ _ (QRuns.call (y := .str (markTxt (K + 7))) rfl rfl rfl rfl (by simp only [go_sem, Nat.reduceEqDiff]) (markText_ok (K + 7) (by omega) (by omega)) rfl (fun r os' ros h => ⟨by exact h.1, h.2.2⟩) rfl ?_); clear hJ J
   refine QRuns.go tabOk fun J hJ => ?_
   simp only [go_sem, ↓reduceIte, Nat.reduceAdd, Nat.reduceSub, Nat.reduceMul, Nat.reduceLT, Nat.reduceLeDiff, Nat.reduceEqDiff, Nat.reduceBEq, Int.reduceToNat, bne_self_eq_false]
   try simp (disch := omega) only [wrap_id]
   refine hJ _ _ (QRuns.nil ?_); clear hJ J
   repeat' (first | refine ⟨by omega, ?_⟩ | (refine hJ _ _ (RunsL.nil ?_); clear hJ J) | refine RunsA.cond rfl (fun h => ?_) (fun h => absurd h (by decide)) | refine RunsA.cond rfl (fun h => absurd h (by decide)) (fun h => ?_) | (refine step_ ?_) | (refine RunsA.rk 6 [] tabOk fun J hJ => ?_; simp only [go_sem, ↓reduceIte, Nat.reduceAdd, Nat.reduceSub, Nat.reduceMul, Nat.reduceLT, Nat.reduceLeDiff, Nat.reduceEqDiff, Nat.reduceBEq, Int.reduceToNat, hg, hll, Int.add_assoc, Int.reduceAdd, bne_self_eq_false]; try simp (disch := omega) only [wrap_id]) | simp only [↓reduceIte, not_false_eq_true, hg, hll, Int.add_assoc, Int.reduceAdd, bne_self_eq_false])
   refine hJ _ _ (call_ (ps := []) (rid := 16) rfl rfl rfl rfl rfl (heldExprS_ok sl (K + 8) (by omega) (by omega)) ?_); clear hJ J
   rintro r os' ros ⟨rfl, rfl, rfl⟩ _
   rw [hK2]
   refine cg_ ?_
   refine RunsL.nil ?_
   refine run_ ?_
   refine RunsA.cond rfl (fun h => ?_) (fun h => ?_)
   ·exfalso; simp only [decide_eq_true_eq] at h; omega
   repeat' (first | refine ⟨by omega, ?_⟩ | (refine hJ _ _ (RunsL.nil ?_); clear hJ J) | refine RunsA.cond rfl (fun h => ?_) (fun h => absurd h (by decide)) | refine RunsA.cond rfl (fun h => absurd h (by decide)) (fun h => ?_) | (refine step_ ?_) | (refine RunsA.rk 6 [] tabOk fun J hJ => ?_; simp only [go_sem, ↓reduceIte, Nat.reduceAdd, Nat.reduceSub, Nat.reduceMul, Nat.reduceLT, Nat.reduceLeDiff, Nat.reduceEqDiff, Nat.reduceBEq, Int.reduceToNat, hg, hll, Int.add_assoc, Int.reduceAdd, bne_self_eq_false]; try simp (disch := omega) only [wrap_id]) | simp only [↓reduceIte, not_false_eq_true, hg, hll, Int.add_assoc, Int.reduceAdd, bne_self_eq_false])
   refine RunsA.dq mixed tabOk (by kernel_rfl) fun J hJ => ?_
   simp only [go_sem, ↓reduceIte, Nat.reduceAdd, Nat.reduceSub, Nat.reduceMul, Nat.reduceLT, Nat.reduceLeDiff, Nat.reduceEqDiff, Nat.reduceBEq, Int.reduceToNat, hg, hll]
   try simp (disch := omega) only [wrap_id]
   (repeat refine ⟨by omega, ?_⟩)
   refine hJ _ _ (QRuns.call (y := .str (markTxt (K2 + 4))) rfl rfl rfl rfl (by simp only [go_sem, Nat.reduceEqDiff]) (markText_ok (K2 + 4) (by omega) (by omega)) rfl (fun r os' ros h => ⟨by exact h.1, h.2.2⟩) rfl ?_); clear hJ J
   refine QRuns.go tabOk fun J hJ => ?_
   simp only [go_sem, ↓reduceIte, Nat.reduceAdd, Nat.reduceSub, Nat.reduceMul, Nat.reduceLT, Nat.reduceLeDiff, Nat.reduceEqDiff, Nat.reduceBEq, Int.reduceToNat, bne_self_eq_false]
   try simp (disch := omega) only [wrap_id]
   refine hJ _ _ (QRuns.nil ?_); clear hJ J
   repeat' (first | refine ⟨by omega, ?_⟩ | (refine hJ _ _ (RunsL.nil ?_); clear hJ J) | refine RunsA.cond rfl (fun h => ?_) (fun h => absurd h (by decide)) | refine RunsA.cond rfl (fun h => absurd h (by decide)) (fun h => ?_) | (refine step_ ?_) | (refine RunsA.rk 6 [] tabOk fun J hJ => ?_; simp only [go_sem, ↓reduceIte, Nat.reduceAdd, Nat.reduceSub, Nat.reduceMul, Nat.reduceLT, Nat.reduceLeDiff, Nat.reduceEqDiff, Nat.reduceBEq, Int.reduceToNat, hg, hll, Int.add_assoc, Int.reduceAdd, bne_self_eq_false]; try simp (disch := omega) only [wrap_id]) | simp only [↓reduceIte, not_false_eq_true, hg, hll, Int.add_assoc, Int.reduceAdd, bne_self_eq_false])
   refine hJ _ _ (call_ (ps := []) (rid := 16) rfl rfl rfl rfl rfl (heldExprS_ok dl (K2 + 5) (by omega) (by omega)) ?_); clear hJ J
   rintro r os' ros ⟨rfl, rfl, rfl⟩ _
   rw [hK5]
   refine cg_ ?_
   refine RunsL.nil ?_
   refine run_ ?_
   refine RunsA.cond rfl (fun h => ?_) (fun h => ?_)
   ·exfalso; simp only [decide_eq_true_eq] at h; omega
   repeat' (first | refine ⟨by omega, ?_⟩ | (refine hJ _ _ (RunsL.nil ?_); clear hJ J) | refine RunsA.cond rfl (fun h => ?_) (fun h => absurd h (by decide)) | refine RunsA.cond rfl (fun h => absurd h (by decide)) (fun h => ?_) | (refine step_ ?_) | (refine RunsA.rk 6 [] tabOk fun J hJ => ?_; simp only [go_sem, ↓reduceIte, Nat.reduceAdd, Nat.reduceSub, Nat.reduceMul, Nat.reduceLT, Nat.reduceLeDiff, Nat.reduceEqDiff, Nat.reduceBEq, Int.reduceToNat, hg, hll, Int.add_assoc, Int.reduceAdd, bne_self_eq_false]; try simp (disch := omega) only [wrap_id]) | simp only [↓reduceIte, not_false_eq_true, hg, hll, Int.add_assoc, Int.reduceAdd, bne_self_eq_false])
   refine hJ _ _ (call_ (ps := []) (rid := 16) rfl rfl rfl rfl rfl (heldExprS_ok ll (K5 + 1) (by omega) (by omega)) ?_); clear hJ J
   rintro r os' ros ⟨rfl, rfl, rfl⟩ _
   rw [← hend]
   refine cg_ ?_
   refine RunsL.nil ?_
   refine run_ ?_
   refine RunsA.cond rfl (fun h => ?_) (fun h => ?_)
   ·exfalso; simp only [decide_eq_true_eq] at h; omega
   refine run_ ?_
   exact hK3 (i + 1) _ (by omega) (by omega) rfl (by simp [SubS, lookS]) (by simp [SubO, lookO]) rfl
  ·refine run_ ?_
   simp only [decide_eq_false_iff_not] at h2
   have : i = l.length := by omega
   subst this
   rw [List.take_length]
   exact RetA.mk tabOk 0 rfl rfl rfl (by omega) rfl rfl rfl ⟨rfl, rfl, rfl⟩
 ·exact Nat.zero_le _
 ·simp [SubS, lookS, LineV.cntL]
 ·trivial
end Go.Proofs.YtiilnlihimdnlaaGreatDoorFw
