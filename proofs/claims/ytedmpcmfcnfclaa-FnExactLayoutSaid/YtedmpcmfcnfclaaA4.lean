/- Trees of segments: marks; the names in order. -/
import Derived.Test.YtedmpcmfcnfclaaA3
namespace Go.Proofs.YtedmpcmfcnfclaaFw
open Go Go.RowKit
set_option linter.unusedVariables false
set_option linter.unusedSimpArgs false
set_option maxRecDepth 4000
set_option pp.deepTerms.threshold 6
set_option pp.deepTerms false

mutual
def SegV.cnt : SegV → Nat
  | .mk n ms ks => 1 + ms.length + SegV.cntL ks
def SegV.cntL : List SegV → Nat
  | [] => 0
  | s :: r => s.cnt + SegV.cntL r
end
mutual
def SegV.mark : SegV → Int → SegV
  | .mk n ms ks, k => .mk (markTxt k) (markStrs ms (k + 1)) (SegV.marks ks (k + 1 + ms.length))
def SegV.marks : List SegV → Int → List SegV
  | [], _ => []
  | s :: r, k => s.mark k :: SegV.marks r (k + s.cnt)
end

theorem SegV.marks_len : ∀ (l : List SegV) (k : Int), (SegV.marks l k).length = l.length
  | [], k => rfl
  | s :: r, k => by simp [SegV.marks, SegV.marks_len r]

theorem SegV.marks_get : ∀ (l : List SegV) (k : Int) (i : Nat) (h : i < l.length), (SegV.marks l k)[i]? = some (l[i].mark (k + SegV.cntL (l.take i)))
  | s :: r, k, 0, h => by simp [SegV.marks, SegV.cntL]
  | s :: r, k, i + 1, h => by
    simp only [SegV.marks, List.getElem?_cons_succ]
    rw [SegV.marks_get r _ i (by simpa using h)]
    simp only [List.getElem_cons_succ, List.take_succ_cons, SegV.cntL]
    congr 2; omega

theorem SegV.cntL_snoc : ∀ (l : List SegV) (i : Nat) (h : i < l.length), SegV.cntL (l.take (i + 1)) = SegV.cntL (l.take i) + l[i].cnt
  | s :: r, 0, h => by simp [SegV.cntL]
  | s :: r, i + 1, h => by
    simp only [List.take_succ_cons, SegV.cntL, List.getElem_cons_succ]
    rw [SegV.cntL_snoc r i (by simpa using h)]; omega

mutual
theorem SegV.cnt_le : ∀ s : SegV, s.cnt ≤ s.tot + 1
  | .mk n ms ks => by simp only [SegV.cnt, SegV.tot, totS]; have := SegV.cntL_le ks; omega
theorem SegV.cntL_le : ∀ l : List SegV, SegV.cntL l ≤ SegV.totL l + l.length
  | [] => by simp [SegV.cntL]
  | s :: r => by simp only [SegV.cntL, SegV.totL, List.length_cons]; have := SegV.cnt_le s; have := SegV.cntL_le r; omega
end

theorem SegV.cnt_pos (s : SegV) : 1 ≤ s.cnt := by obtain ⟨n, ms, ks⟩ := s; simp only [SegV.cnt]; omega
theorem SegV.cntL_len : ∀ l : List SegV, l.length ≤ SegV.cntL l
  | [] => by simp [SegV.cntL]
  | s :: r => by simp only [SegV.cntL, List.length_cons]; have := SegV.cnt_pos s; have := SegV.cntL_len r; omega

theorem SegV.indL {P : List SegV → Prop} (h : ∀ l, (∀ n ms ks, SegV.mk n ms ks ∈ l → P ks) → P l) : ∀ l, P l := by
  have key : ∀ (n : Nat) (l : List SegV), SizeOf.sizeOf l < n → P l := by
    intro n
    induction n with
    | zero => intro s hs; omega
    | succ n ih =>
      intro l hs
      refine h l fun a ms ks hk => ih ks ?_
      have h1 := List.sizeOf_lt_of_mem hk
      simp only [SegV.mk.sizeOf_spec] at h1
      omega
  exact fun l => key (SizeOf.sizeOf l + 1) l (by omega)

theorem SegV.cntL_mem : ∀ {l : List SegV} {s : SegV}, s ∈ l → s.cnt ≤ SegV.cntL l
  | x :: r, s, h => by
    simp only [SegV.cntL]
    rcases List.mem_cons.1 h with e | e
    · subst e; omega
    · have := SegV.cntL_mem e; omega

theorem SegV.cntL_take (l : List SegV) (i : Nat) : SegV.cntL (l.take i) ≤ SegV.cntL l := by
  induction l generalizing i with
  | nil => simp [SegV.cntL]
  | cons s r ih =>
    cases i with
    | zero => simp [SegV.cntL]
    | succ i => simp only [List.take_succ_cons, SegV.cntL]; have := ih i; omega

theorem markSegS_ok : ∀ l : List SegV, ∀ (q : Path) (rsz : Nat) (res : List AV) (k : Int), navG res rsz q = some (3, segsA .own l) → noBoL res = true → 0 ≤ k → k + SegV.cntL l ≤ 4611686018427387904 →
    FnA Try.prog 73 true [.hd 0 q, .int .i64 k] [(rsz, res)] (fun r os ros => r = .int .i64 (k + SegV.cntL l) ∧ os = [(rsz, navSet res q (segsA .own (SegV.marks l k)))] ∧ ros = []) := by
  refine SegV.indL fun l ih => ?_
  intro q rsz res k hn hb h0 h1
  refine FnA.of Try.func73 rfl (by decide) Try.ntmps73 (by simp) ?_
  have hS := Spot.of hn
  rw [← navSet_self q res rsz 3 _ hn]
  repeat (first | refine RunsA.sq ?_ | refine RunsA.bk ?_ | refine RunsA.sk ?_ | refine RunsA.ex ?_ | refine RunsA.rt ?_ | refine At.n ?_ | refine At.x ?_ | refine At.r ?_ | refine At.bn ?_ | refine At.br ?_ | refine At.bx ?_ | refine At.by_ rfl ?_ | refine At.kx ?_ | refine At.kr ?_ | refine At.kn ?_ | refine At.er ?_ | refine At.en ?_ | (refine RunsA.rq tabOk fun J hJ => ?_; simp only [go_sem, ↓reduceIte, Nat.reduceAdd, Nat.reduceSub, Nat.reduceMul, Nat.reduceLT, Nat.reduceLeDiff, Nat.reduceEqDiff, Nat.reduceBEq, Int.reduceToNat]; (try simp (disch := omega) only [wrap_id]); (repeat refine ⟨by omega, ?_⟩); refine hJ _ _ (RunsL.nil ?_); clear hJ J) | (refine RunsA.dq mixed tabOk (by kernel_rfl) fun J hJ => ?_; simp only [go_sem, ↓reduceIte, Nat.reduceAdd, Nat.reduceSub, Nat.reduceMul, Nat.reduceLT, Nat.reduceLeDiff, Nat.reduceEqDiff, Nat.reduceBEq, Int.reduceToNat]; (try simp (disch := omega) only [wrap_id]); (repeat refine ⟨by omega, ?_⟩); refine hJ _ _ (QRuns.nil ?_); clear hJ J))
  refine RunsA.loop ?_
  refine (LoopA.ind (fun i : Nat => ⟨35, [(0, .hd 0 q), (1, .int .i64 (k + SegV.cntL (l.take i))), (5, .int .i64 i)], [⟨0, rsz, navSet res q (segsA .own ((SegV.marks l k).take i ++ l.drop i))⟩], true⟩) (fun i => l.length - i) (fun i => i ≤ l.length) ?_ 0 ?_).sub rfl ?_ ?_ rfl
  · intro i hi K3 hK3
    have hml := SegV.marks_len l k
    have hEl : (segsA .own ((SegV.marks l k).take i ++ l.drop i)).length = l.length := by rw [segsA_len, half_len hml hi]
    repeat (first | refine RunsA.sq ?_ | refine RunsA.bk ?_ | refine RunsA.sk ?_ | refine RunsA.ex ?_ | refine RunsA.rt ?_ | refine At.n ?_ | refine At.x ?_ | refine At.r ?_ | refine At.bn ?_ | refine At.br ?_ | refine At.bx ?_ | refine At.by_ rfl ?_ | refine At.kx ?_ | refine At.kr ?_ | refine At.kn ?_ | refine At.er ?_ | refine At.en ?_ | (refine RunsA.rq tabOk fun J hJ => ?_; simp only [go_sem, ↓reduceIte, Nat.reduceAdd, Nat.reduceSub, Nat.reduceMul, Nat.reduceLT, Nat.reduceLeDiff, Nat.reduceEqDiff, Nat.reduceBEq, Int.reduceToNat, hS.get, hEl]; (try simp (disch := omega) only [wrap_id]); (repeat refine ⟨by omega, ?_⟩); refine hJ _ _ (RunsL.nil ?_); clear hJ J) | (refine RunsA.dq mixed tabOk (by kernel_rfl) fun J hJ => ?_; simp only [go_sem, ↓reduceIte, Nat.reduceAdd, Nat.reduceSub, Nat.reduceMul, Nat.reduceLT, Nat.reduceLeDiff, Nat.reduceEqDiff, Nat.reduceBEq, Int.reduceToNat, hS.get, hEl]; (try simp (disch := omega) only [wrap_id]); (repeat refine ⟨by omega, ?_⟩); refine hJ _ _ (QRuns.nil ?_); clear hJ J))
    refine RunsA.cond rfl (fun h2 => ?_) (fun h2 => ?_)
    · simp only [decide_eq_true_eq] at h2
      have hilt : i < l.length := by omega
      have hE : (segsA .own ((SegV.marks l k).take i ++ l.drop i))[i]? = some (segA .own l[i]) := by rw [segsA_eq, List.getElem?_map, half_get hml hilt]; rfl
      have hE2 : (segsA .own ((SegV.marks l k).take i ++ l.drop i)).set i (segA .own (l[i].mark (k + SegV.cntL (l.take i)))) = segsA .own ((SegV.marks l k).take (i + 1) ++ l.drop (i + 1)) := by
        rw [segsA_eq, ← List.map_set, half_set hml hilt (SegV.marks_get l k i hilt), ← segsA_eq]
      have hc := SegV.cntL_snoc l i hilt
      have hmem := List.getElem_mem hilt
      have hct := SegV.cntL_take l (i + 1)
      have hcl := SegV.cntL_len l
      have hnb : ∀ E, noBoL E = true → noBoL (navSet res q E) = true := fun E h => noBo_navSet _ _ _ hb h
      have hnE := noBo_segs ((SegV.marks l k).take i ++ l.drop i)
      generalize segsA .own ((SegV.marks l k).take i ++ l.drop i) = E at *
      generalize l[i] = s at *
      obtain ⟨n, ms, ks⟩ := s
      rw [segA_mk] at hE
      simp only [SegV.mark, segA_mk] at hE2
      simp only [SegV.cnt] at hc
      have hlt : i < E.length := by omega
      have hEs : ∀ x, (E.set i x)[i]? = some x := fun x => List.getElem?_set_self hlt
      repeat (first | refine RunsA.sq ?_ | refine RunsA.bk ?_ | refine RunsA.sk ?_ | refine RunsA.ex ?_ | refine RunsA.rt ?_ | refine At.n ?_ | refine At.x ?_ | refine At.r ?_ | refine At.bn ?_ | refine At.br ?_ | refine At.bx ?_ | refine At.by_ rfl ?_ | refine At.kx ?_ | refine At.kr ?_ | refine At.kn ?_ | refine At.er ?_ | refine At.en ?_ | (refine RunsA.rq tabOk fun J hJ => ?_; simp only [go_sem, ↓reduceIte, Nat.reduceAdd, Nat.reduceSub, Nat.reduceMul, Nat.reduceLT, Nat.reduceLeDiff, Nat.reduceEqDiff, Nat.reduceBEq, Int.reduceToNat]; (try simp (disch := omega) only [wrap_id]); (repeat refine ⟨by omega, ?_⟩); refine hJ _ _ (RunsL.nil ?_); clear hJ J) | (refine RunsA.dq mixed tabOk (by kernel_rfl) fun J hJ => ?_; simp only [go_sem, ↓reduceIte, Nat.reduceAdd, Nat.reduceSub, Nat.reduceMul, Nat.reduceLT, Nat.reduceLeDiff, Nat.reduceEqDiff, Nat.reduceBEq, Int.reduceToNat]; (try simp (disch := omega) only [wrap_id]); (repeat refine ⟨by omega, ?_⟩); refine hJ _ _ (QRuns.nil ?_); clear hJ J))
      refine RunsA.rq tabOk fun J hJ => ?_
      simp only [go_sem, ↓reduceIte, Nat.reduceAdd, Nat.reduceSub, Nat.reduceMul, Nat.reduceLT, Nat.reduceLeDiff, Nat.reduceEqDiff, Nat.reduceBEq, Int.reduceToNat]
      try simp (disch := omega) only [wrap_id]
      refine hJ _ _ (RunsL.call (ps := []) (rid := 4096) rfl rfl rfl rfl rfl (by simp only [go_sem, Nat.reduceEqDiff]; first | done | rfl) (markText_ok (k + SegV.cntL (l.take i)) (by omega) (by omega)) rfl (by decide) ⟨by decide, by decide, rfl⟩ (by first | exact .inl rfl | exact .inr (.inl rfl) | exact .inr (.inr rfl)) ?_); clear hJ J
      rintro r os' ros ⟨rfl, rfl, rfl⟩ _
      refine RunsL.go tabOk fun J hJ => ?_
      simp only [go_sem, ↓reduceIte, Nat.reduceAdd, Nat.reduceSub, Nat.reduceMul, Nat.reduceLT, Nat.reduceLeDiff, Nat.reduceEqDiff, Nat.reduceBEq, Int.reduceToNat, hS.get, hS.set, hE, hEl]
      try simp (disch := omega) only [wrap_id]
      (repeat refine ⟨by omega, ?_⟩)
      refine hJ _ _ (RunsL.nil ?_); clear hJ J
      repeat (first | refine RunsA.sq ?_ | refine RunsA.bk ?_ | refine RunsA.sk ?_ | refine RunsA.ex ?_ | refine RunsA.rt ?_ | refine At.n ?_ | refine At.x ?_ | refine At.r ?_ | refine At.bn ?_ | refine At.br ?_ | refine At.bx ?_ | refine At.by_ rfl ?_ | refine At.kx ?_ | refine At.kr ?_ | refine At.kn ?_ | refine At.er ?_ | refine At.en ?_ | (refine RunsA.rq tabOk fun J hJ => ?_; simp only [go_sem, ↓reduceIte, Nat.reduceAdd, Nat.reduceSub, Nat.reduceMul, Nat.reduceLT, Nat.reduceLeDiff, Nat.reduceEqDiff, Nat.reduceBEq, Int.reduceToNat]; (try simp (disch := omega) only [wrap_id]); (repeat refine ⟨by omega, ?_⟩); refine hJ _ _ (RunsL.nil ?_); clear hJ J) | (refine RunsA.dq mixed tabOk (by kernel_rfl) fun J hJ => ?_; simp only [go_sem, ↓reduceIte, Nat.reduceAdd, Nat.reduceSub, Nat.reduceMul, Nat.reduceLT, Nat.reduceLeDiff, Nat.reduceEqDiff, Nat.reduceBEq, Int.reduceToNat]; (try simp (disch := omega) only [wrap_id]); (repeat refine ⟨by omega, ?_⟩); refine hJ _ _ (QRuns.nil ?_); clear hJ J))
      refine RunsA.rq tabOk fun J hJ => ?_
      simp only [go_sem, ↓reduceIte, Nat.reduceAdd, Nat.reduceSub, Nat.reduceMul, Nat.reduceLT, Nat.reduceLeDiff, Nat.reduceEqDiff, Nat.reduceBEq, Int.reduceToNat, hS.get, hEs, hEl, List.length_set]
      try simp (disch := omega) only [wrap_id]
      refine ⟨by omega, ?_⟩
      refine hJ _ _ (RunsL.call (ps := [0]) (rid := 6912) rfl rfl rfl rfl rfl (by simp only [go_sem, Nat.reduceEqDiff]; first | done | rfl) (markStringS_ok (q ++ [(i, 1)]) rsz _ ms (k + SegV.cntL (l.take i) + 1) (hS.inG _ i 1 _ _ _ (hEs _) rfl) (hnb _ (noBoL_set hnE (by simp only [noBo, noBoL, noBo_strs, noBo_segs, Bool.and_self]))) (by omega) (by omega)) rfl (by decide) ⟨by decide, by decide, rfl⟩ (by first | exact .inl rfl | exact .inr (.inl rfl) | exact .inr (.inr rfl)) ?_); clear hJ J
      rintro r os' ros ⟨rfl, rfl, rfl⟩ _
      rw [hS.inS _ i 1 _ _ _ _ (hEs _) rfl]
      simp only [AV.setC, List.set_cons_zero, List.set_cons_succ, List.set_set]
      refine RunsL.go tabOk fun J hJ => ?_
      simp only [go_sem, ↓reduceIte, Nat.reduceAdd, Nat.reduceSub, Nat.reduceMul, Nat.reduceLT, Nat.reduceLeDiff, Nat.reduceEqDiff, Nat.reduceBEq, Int.reduceToNat]
      try simp (disch := omega) only [wrap_id]
      refine hJ _ _ (RunsL.nil ?_); clear hJ J
      repeat (first | refine RunsA.sq ?_ | refine RunsA.bk ?_ | refine RunsA.sk ?_ | refine RunsA.ex ?_ | refine RunsA.rt ?_ | refine At.n ?_ | refine At.x ?_ | refine At.r ?_ | refine At.bn ?_ | refine At.br ?_ | refine At.bx ?_ | refine At.by_ rfl ?_ | refine At.kx ?_ | refine At.kr ?_ | refine At.kn ?_ | refine At.er ?_ | refine At.en ?_ | (refine RunsA.rq tabOk fun J hJ => ?_; simp only [go_sem, ↓reduceIte, Nat.reduceAdd, Nat.reduceSub, Nat.reduceMul, Nat.reduceLT, Nat.reduceLeDiff, Nat.reduceEqDiff, Nat.reduceBEq, Int.reduceToNat]; (try simp (disch := omega) only [wrap_id]); (repeat refine ⟨by omega, ?_⟩); refine hJ _ _ (RunsL.nil ?_); clear hJ J) | (refine RunsA.dq mixed tabOk (by kernel_rfl) fun J hJ => ?_; simp only [go_sem, ↓reduceIte, Nat.reduceAdd, Nat.reduceSub, Nat.reduceMul, Nat.reduceLT, Nat.reduceLeDiff, Nat.reduceEqDiff, Nat.reduceBEq, Int.reduceToNat]; (try simp (disch := omega) only [wrap_id]); (repeat refine ⟨by omega, ?_⟩); refine hJ _ _ (QRuns.nil ?_); clear hJ J))
      refine RunsA.rq tabOk fun J hJ => ?_
      simp only [go_sem, ↓reduceIte, Nat.reduceAdd, Nat.reduceSub, Nat.reduceMul, Nat.reduceLT, Nat.reduceLeDiff, Nat.reduceEqDiff, Nat.reduceBEq, Int.reduceToNat, hS.get, hEs, hEl, List.length_set]
      try simp (disch := omega) only [wrap_id]
      refine ⟨by omega, ?_⟩
      refine hJ _ _ (RunsL.call (ps := [0]) (rid := 8704) rfl rfl rfl rfl rfl (by simp only [go_sem, Nat.reduceEqDiff]; first | done | rfl) (ih n ms ks hmem (q ++ [(i, 2)]) rsz _ (k + SegV.cntL (l.take i) + 1 + ms.length) (hS.inG _ i 2 _ _ _ (hEs _) rfl) (hnb _ (noBoL_set hnE (by simp only [noBo, noBoL, noBo_strs, noBo_segs, Bool.and_self]))) (by omega) (by omega)) rfl (by decide) ⟨by decide, by decide, rfl⟩ (by first | exact .inl rfl | exact .inr (.inl rfl) | exact .inr (.inr rfl)) ?_); clear hJ J
      rintro r os' ros ⟨rfl, rfl, rfl⟩ _
      rw [hS.inS _ i 2 _ _ _ _ (hEs _) rfl]
      simp only [AV.setC, List.set_cons_zero, List.set_cons_succ, List.set_set]
      rw [show k + (SegV.cntL (l.take i) : Int) + 1 = k + SegV.cntL (l.take i) + 1 from rfl, hE2]
      refine RunsL.go tabOk fun J hJ => ?_
      simp only [go_sem, ↓reduceIte, Nat.reduceAdd, Nat.reduceSub, Nat.reduceMul, Nat.reduceLT, Nat.reduceLeDiff, Nat.reduceEqDiff, Nat.reduceBEq, Int.reduceToNat]
      try simp (disch := omega) only [wrap_id]
      refine hJ _ _ (RunsL.nil ?_); clear hJ J
      repeat (first | refine RunsA.sq ?_ | refine RunsA.bk ?_ | refine RunsA.sk ?_ | refine RunsA.ex ?_ | refine RunsA.rt ?_ | refine At.n ?_ | refine At.x ?_ | refine At.r ?_ | refine At.bn ?_ | refine At.br ?_ | refine At.bx ?_ | refine At.by_ rfl ?_ | refine At.kx ?_ | refine At.kr ?_ | refine At.kn ?_ | refine At.er ?_ | refine At.en ?_ | (refine RunsA.rq tabOk fun J hJ => ?_; simp only [go_sem, ↓reduceIte, Nat.reduceAdd, Nat.reduceSub, Nat.reduceMul, Nat.reduceLT, Nat.reduceLeDiff, Nat.reduceEqDiff, Nat.reduceBEq, Int.reduceToNat]; (try simp (disch := omega) only [wrap_id]); (repeat refine ⟨by omega, ?_⟩); refine hJ _ _ (RunsL.nil ?_); clear hJ J) | (refine RunsA.dq mixed tabOk (by kernel_rfl) fun J hJ => ?_; simp only [go_sem, ↓reduceIte, Nat.reduceAdd, Nat.reduceSub, Nat.reduceMul, Nat.reduceLT, Nat.reduceLeDiff, Nat.reduceEqDiff, Nat.reduceBEq, Int.reduceToNat]; (try simp (disch := omega) only [wrap_id]); (repeat refine ⟨by omega, ?_⟩); refine hJ _ _ (QRuns.nil ?_); clear hJ J))
      have e3 : k + (SegV.cntL (l.take i) : Int) + 1 + ms.length + SegV.cntL ks = k + SegV.cntL (l.take (i + 1)) := by omega
      rw [e3]
      exact hK3 (i + 1) _ (by omega) (by omega) rfl (by simp [SubS, lookS]) (by simp [SubO, lookO]) rfl
    · repeat (first | refine RunsA.sq ?_ | refine RunsA.bk ?_ | refine RunsA.sk ?_ | refine RunsA.ex ?_ | refine RunsA.rt ?_ | refine At.n ?_ | refine At.x ?_ | refine At.r ?_ | refine At.bn ?_ | refine At.br ?_ | refine At.bx ?_ | refine At.by_ rfl ?_ | refine At.kx ?_ | refine At.kr ?_ | refine At.kn ?_ | refine At.er ?_ | refine At.en ?_ | (refine RunsA.rq tabOk fun J hJ => ?_; simp only [go_sem, ↓reduceIte, Nat.reduceAdd, Nat.reduceSub, Nat.reduceMul, Nat.reduceLT, Nat.reduceLeDiff, Nat.reduceEqDiff, Nat.reduceBEq, Int.reduceToNat]; (try simp (disch := omega) only [wrap_id]); (repeat refine ⟨by omega, ?_⟩); refine hJ _ _ (RunsL.nil ?_); clear hJ J) | (refine RunsA.dq mixed tabOk (by kernel_rfl) fun J hJ => ?_; simp only [go_sem, ↓reduceIte, Nat.reduceAdd, Nat.reduceSub, Nat.reduceMul, Nat.reduceLT, Nat.reduceLeDiff, Nat.reduceEqDiff, Nat.reduceBEq, Int.reduceToNat]; (try simp (disch := omega) only [wrap_id]); (repeat refine ⟨by omega, ?_⟩); refine hJ _ _ (QRuns.nil ?_); clear hJ J))
      simp only [decide_eq_false_iff_not] at h2
      have : i = l.length := by omega
      subst this
      have e : (SegV.marks l k).take l.length ++ l.drop l.length = SegV.marks l k := by rw [List.drop_length, List.append_nil, List.take_of_length_le (by omega)]
      rw [e, List.take_length]
      exact RetA.mk tabOk 0 rfl rfl rfl (by omega) (by simp only [noBoO, Bool.and_true]; exact noBo_navSet _ _ _ hb (noBo_segs _)) rfl rfl ⟨rfl, by rw [hS.set], rfl⟩
  · exact Nat.zero_le _
  · simp [SubS, lookS, SegV.cntL]
  · simp [SubO, lookO]

theorem markSeg_ok (n : Str) (ms : List Str) (ks : List SegV) (k : Int) (h0 : 0 ≤ k) (hk : k + ms.length + SegV.cntL ks ≤ 4611686018427387904) :
    FnA Try.prog 37 true [.agg [.str n, .hd 0 [(0, 1)], .hd 0 [(0, 2)]], .int .i64 k] [(3, [.agg [.str n, .row .own 1 (strs ms), .row .own 3 (segsA .own ks)]])]
      (fun r os ros => r = .int .i64 (k + ms.length + SegV.cntL ks) ∧ os = [(3, [.agg [.str n, .row .own 1 (strs (markStrs ms k)), .row .own 3 (segsA .own (SegV.marks ks (k + ms.length)))]])] ∧ ros = []) := by
  refine FnA.of Try.func37 rfl (by decide) Try.ntmps37 (by simp) ?_
  repeat (first | refine RunsA.sq ?_ | refine RunsA.bk ?_ | refine RunsA.sk ?_ | refine RunsA.ex ?_ | refine RunsA.rt ?_ | refine At.n ?_ | refine At.x ?_ | refine At.r ?_ | refine At.bn ?_ | refine At.br ?_ | refine At.bx ?_ | refine At.by_ rfl ?_ | refine At.kx ?_ | refine At.kr ?_ | refine At.kn ?_ | refine At.er ?_ | refine At.en ?_ | (refine RunsA.rq tabOk fun J hJ => ?_; simp only [go_sem, ↓reduceIte, Nat.reduceAdd, Nat.reduceSub, Nat.reduceMul, Nat.reduceLT, Nat.reduceLeDiff, Nat.reduceEqDiff, Nat.reduceBEq, Int.reduceToNat]; (try simp (disch := omega) only [wrap_id]); (repeat refine ⟨by omega, ?_⟩); refine hJ _ _ (RunsL.nil ?_); clear hJ J) | (refine RunsA.dq mixed tabOk (by kernel_rfl) fun J hJ => ?_; simp only [go_sem, ↓reduceIte, Nat.reduceAdd, Nat.reduceSub, Nat.reduceMul, Nat.reduceLT, Nat.reduceLeDiff, Nat.reduceEqDiff, Nat.reduceBEq, Int.reduceToNat]; (try simp (disch := omega) only [wrap_id]); (repeat refine ⟨by omega, ?_⟩); refine hJ _ _ (QRuns.nil ?_); clear hJ J))
  refine RunsA.rq tabOk fun J hJ => ?_
  simp only [go_sem, ↓reduceIte, Nat.reduceAdd, Nat.reduceSub, Nat.reduceMul, Nat.reduceLT, Nat.reduceLeDiff, Nat.reduceEqDiff, Nat.reduceBEq, Int.reduceToNat]
  try simp (disch := omega) only [wrap_id]
  refine hJ _ _ (RunsL.call (ps := [0]) (rid := 2304) rfl rfl rfl rfl rfl (by simp only [go_sem, Nat.reduceEqDiff]; first | done | rfl) (markStringS_ok [(0, 1)] 3 _ ms k rfl (by simp only [noBo, noBoL, noBo_strs, noBo_segs, Bool.and_self]) (by omega) (by omega)) rfl (by decide) ⟨by decide, by decide, rfl⟩ (by first | exact .inl rfl | exact .inr (.inl rfl) | exact .inr (.inr rfl)) ?_); clear hJ J
  rintro r os' ros ⟨rfl, rfl, rfl⟩ _
  refine RunsL.go tabOk fun J hJ => ?_
  simp only [go_sem, ↓reduceIte, Nat.reduceAdd, Nat.reduceSub, Nat.reduceMul, Nat.reduceLT, Nat.reduceLeDiff, Nat.reduceEqDiff, Nat.reduceBEq, Int.reduceToNat]
  try simp (disch := omega) only [wrap_id]
  refine hJ _ _ (RunsL.nil ?_); clear hJ J
  repeat (first | refine RunsA.sq ?_ | refine RunsA.bk ?_ | refine RunsA.sk ?_ | refine RunsA.ex ?_ | refine RunsA.rt ?_ | refine At.n ?_ | refine At.x ?_ | refine At.r ?_ | refine At.bn ?_ | refine At.br ?_ | refine At.bx ?_ | refine At.by_ rfl ?_ | refine At.kx ?_ | refine At.kr ?_ | refine At.kn ?_ | refine At.er ?_ | refine At.en ?_ | (refine RunsA.rq tabOk fun J hJ => ?_; simp only [go_sem, ↓reduceIte, Nat.reduceAdd, Nat.reduceSub, Nat.reduceMul, Nat.reduceLT, Nat.reduceLeDiff, Nat.reduceEqDiff, Nat.reduceBEq, Int.reduceToNat]; (try simp (disch := omega) only [wrap_id]); (repeat refine ⟨by omega, ?_⟩); refine hJ _ _ (RunsL.nil ?_); clear hJ J) | (refine RunsA.dq mixed tabOk (by kernel_rfl) fun J hJ => ?_; simp only [go_sem, ↓reduceIte, Nat.reduceAdd, Nat.reduceSub, Nat.reduceMul, Nat.reduceLT, Nat.reduceLeDiff, Nat.reduceEqDiff, Nat.reduceBEq, Int.reduceToNat]; (try simp (disch := omega) only [wrap_id]); (repeat refine ⟨by omega, ?_⟩); refine hJ _ _ (QRuns.nil ?_); clear hJ J))
  refine RunsA.rq tabOk fun J hJ => ?_
  simp only [go_sem, ↓reduceIte, Nat.reduceAdd, Nat.reduceSub, Nat.reduceMul, Nat.reduceLT, Nat.reduceLeDiff, Nat.reduceEqDiff, Nat.reduceBEq, Int.reduceToNat]
  try simp (disch := omega) only [wrap_id]
  refine hJ _ _ (RunsL.call (ps := [0]) (rid := 3328) rfl rfl rfl rfl rfl (by simp only [go_sem, Nat.reduceEqDiff]; first | done | rfl) (markSegS_ok ks [(0, 2)] 3 _ (k + ms.length) rfl (by simp only [noBo, noBoL, noBo_strs, noBo_segs, Bool.and_self]) (by omega) (by omega)) rfl (by decide) ⟨by decide, by decide, rfl⟩ (by first | exact .inl rfl | exact .inr (.inl rfl) | exact .inr (.inr rfl)) ?_); clear hJ J
  rintro r os' ros ⟨rfl, rfl, rfl⟩ _
  refine RunsL.go tabOk fun J hJ => ?_
  simp only [go_sem, ↓reduceIte, Nat.reduceAdd, Nat.reduceSub, Nat.reduceMul, Nat.reduceLT, Nat.reduceLeDiff, Nat.reduceEqDiff, Nat.reduceBEq, Int.reduceToNat]
  try simp (disch := omega) only [wrap_id]
  refine hJ _ _ (RunsL.nil ?_); clear hJ J
  repeat (first | refine RunsA.sq ?_ | refine RunsA.bk ?_ | refine RunsA.sk ?_ | refine RunsA.ex ?_ | refine RunsA.rt ?_ | refine At.n ?_ | refine At.x ?_ | refine At.r ?_ | refine At.bn ?_ | refine At.br ?_ | refine At.bx ?_ | refine At.by_ rfl ?_ | refine At.kx ?_ | refine At.kr ?_ | refine At.kn ?_ | refine At.er ?_ | refine At.en ?_ | (refine RunsA.rq tabOk fun J hJ => ?_; simp only [go_sem, ↓reduceIte, Nat.reduceAdd, Nat.reduceSub, Nat.reduceMul, Nat.reduceLT, Nat.reduceLeDiff, Nat.reduceEqDiff, Nat.reduceBEq, Int.reduceToNat]; (try simp (disch := omega) only [wrap_id]); (repeat refine ⟨by omega, ?_⟩); refine hJ _ _ (RunsL.nil ?_); clear hJ J) | (refine RunsA.dq mixed tabOk (by kernel_rfl) fun J hJ => ?_; simp only [go_sem, ↓reduceIte, Nat.reduceAdd, Nat.reduceSub, Nat.reduceMul, Nat.reduceLT, Nat.reduceLeDiff, Nat.reduceEqDiff, Nat.reduceBEq, Int.reduceToNat]; (try simp (disch := omega) only [wrap_id]); (repeat refine ⟨by omega, ?_⟩); refine hJ _ _ (QRuns.nil ?_); clear hJ J))
  refine RetA.mk tabOk 0 rfl rfl rfl (by omega) (by simp [noBoO, noBo, noBoL, noBo_strs, noBo_segs, navSet, AV.cells, AV.setC]) rfl rfl ⟨rfl, rfl, rfl⟩

end Go.Proofs.YtedmpcmfcnfclaaFw
