/- Pure facts on lists and values, and how data is told as abstract values. -/
import Derived.Test.YtiilnlihimdnlaaGreatDoorTab
set_option linter.unusedVariables false
set_option linter.unusedSimpArgs false
set_option pp.deepTerms.threshold 6
set_option pp.deepTerms false
set_option maxRecDepth 4000
namespace Go.Proofs.YtiilnlihimdnlaaGreatDoorFw
open Go Go.RowKit
abbrev Str := List UInt8
def strs (l : List Str) : List AV := l.map .str
theorem strs_len (l : List Str) : (strs l).length = l.length := by simp [strs]
theorem strs_get {l : List Str} {i : Nat} (h : i < l.length) : (strs l)[i]? = some (.str l[i]) := by simp [strs, h]
theorem take_snoc {α : Type} {l : List α} {i : Nat} (h : i < l.length) : l.take (i + 1) = l.take i ++ [l[i]] := by rw [List.take_add_one, List.getElem?_eq_getElem h]; rfl
theorem drop_get {α : Type} {l : List α} {i : Nat} (h : i < l.length) : l.drop i = l[i] :: l.drop (i + 1) := List.drop_eq_getElem_cons h
theorem noBo_strs (l : List Str) : noBoL (strs l) = true := by induction l <;> simp_all [strs, noBoL, noBo]
theorem brw_strs (l : List Str) : brwL (strs l) = strs l := by induction l <;> simp_all [strs, brwL, brw]
/-! ### ways into trees -/
theorem stripP_both : ∀ (p a b : Path), stripP (p ++ a) (p ++ b) = stripP a b
  | [], a, b => rfl
  | x :: p, a, b => by simp only [List.cons_append, stripP, if_true, stripP_both p a b]
theorem stripP_long (p r : Path) (x : Nat × Nat) : stripP (p ++ x :: r) p = none := by
  have := stripP_both p (x :: r) []
  rw [List.append_nil] at this
  rw [this]; rfl
attribute [go_sem] stripP_both stripP_long Prod.mk.injEq maxLen
theorem navSet_set : ∀ (q : Path) (res : List AV) (rsz sz : Nat) (es a b : List AV), navG res rsz q = some (sz, es) → navSet (navSet res q a) q b = navSet res q b := by
  intro q
  induction q with
  | nil => intro res rsz sz es a b h; rfl
  | cons ik q ih =>
    obtain ⟨i, k⟩ := ik
    intro res rsz sz es a b h
    simp only [navG] at h
    cases hx : res[i]? with
    | none => simp [hx] at h
    | some x =>
      cases hy : x.cells[k]? with
      | none => simp [hx, hy] at h
      | some y =>
        simp only [hx, hy] at h
        split at h
        · rename_i sz2 es2 he
          obtain rfl := Option.some.inj he
          simp only [navSet, hx, hy]
          rw [List.getElem?_set_self (lt_of_get hx)]
          simp only [setC_cells _ _ _ (row_cells _ _ _) (lt_of_get hy), if_true, List.set_set]
          rw [ih _ _ _ _ _ _ h]
          congr 1
          cases x with
          | agg cs => simp only [AV.setC, List.set_set]
          | _ => rfl
        · simp at h
theorem navSet_self : ∀ (q : Path) (res : List AV) (rsz sz : Nat) (es : List AV), navG res rsz q = some (sz, es) → navSet res q es = res := by
  intro q
  induction q with
  | nil => intro res rsz sz es h; simp only [navG, Option.some.injEq, Prod.mk.injEq] at h; exact h.2.symm
  | cons ik q ih =>
    obtain ⟨i, k⟩ := ik
    intro res rsz sz es h
    simp only [navG] at h
    cases hx : res[i]? with
    | none => simp [hx] at h
    | some x =>
      cases hy : x.cells[k]? with
      | none => simp [hx, hy] at h
      | some y =>
        simp only [hx, hy] at h
        split at h
        · rename_i sz2 es2 he
          obtain rfl := Option.some.inj he
          simp only [navSet, hx, hy]
          rw [ih _ _ _ _ h]
          have hxx : x.setC k (.row .own sz2 es2) = x := by
            cases x with
            | agg cs =>
              simp only [AV.setC, AV.cells] at hy ⊢
              congr 1
              apply List.ext_getElem?
              intro j
              by_cases hj : k = j
              · subst hj; rw [List.getElem?_set_self (lt_of_get hy), hy]
              · rw [List.getElem?_set_ne hj]
            | row m sz es => cases k <;> simp only [AV.cells, List.getElem?_cons_zero, List.getElem?_cons_succ, List.getElem?_nil, Option.some.injEq, reduceCtorEq] at hy; rw [hy]; rfl
            | _ => cases k <;> simp [AV.cells] at hy
          rw [hxx]
          apply List.ext_getElem?
          intro j
          by_cases hj : i = j
          · subst hj; rw [List.getElem?_set_self (lt_of_get hx), hx]
          · rw [List.getElem?_set_ne hj]
        · simp at h
theorem navG_app : ∀ (q : Path) (res : List AV) (rsz sz : Nat) (es : List AV) (i k : Nat) (x : AV) (sz' : Nat) (es' : List AV), navG res rsz q = some (sz, es) → es[i]? = some x → x.cells[k]? = some (.row .own sz' es') →
    navG res rsz (q ++ [(i, k)]) = some (sz', es') ∧ ∀ new, navSet res (q ++ [(i, k)]) new = navSet res q (es.set i (x.setC k (.row .own sz' new))) := by
  intro q
  induction q with
  | nil =>
    intro res rsz sz es i k x sz' es' h hx hy
    simp only [navG, Option.some.injEq, Prod.mk.injEq] at h
    obtain ⟨rfl, rfl⟩ := h
    simp only [List.nil_append, navG, navSet, hx, hy, true_and, implies_true]
  | cons ik q ih =>
    obtain ⟨i0, k0⟩ := ik
    intro res rsz sz es i k x sz' es' h hx hy
    simp only [navG] at h
    cases hx0 : res[i0]? with
    | none => simp [hx0] at h
    | some x0 =>
      cases hy0 : x0.cells[k0]? with
      | none => simp [hx0, hy0] at h
      | some y0 =>
        simp only [hx0, hy0] at h
        split at h
        · rename_i sz2 es2 he
          obtain rfl := Option.some.inj he
          obtain ⟨h1, h2⟩ := ih _ _ _ _ i k x sz' es' h hx hy
          simp only [List.cons_append, navG, navSet, hx0, hy0]
          exact ⟨h1, fun new => by rw [h2]⟩
        · simp at h
structure Spot (res : List AV) (rsz : Nat) (q : Path) (sz : Nat) : Prop where
  get : ∀ es, navG (navSet res q es) rsz q = some (sz, es)
  set : ∀ a b, navSet (navSet res q a) q b = navSet res q b
  inG : ∀ (E : List AV) (i k : Nat) (x : AV) (sz' : Nat) (es' : List AV), E[i]? = some x → x.cells[k]? = some (.row .own sz' es') → navG (navSet res q E) rsz (q ++ [(i, k)]) = some (sz', es')
  inS : ∀ (E : List AV) (i k : Nat) (x : AV) (sz' : Nat) (es' new : List AV), E[i]? = some x → x.cells[k]? = some (.row .own sz' es') → navSet (navSet res q E) (q ++ [(i, k)]) new = navSet res q (E.set i (x.setC k (.row .own sz' new)))
theorem Spot.of {res : List AV} {rsz : Nat} {q : Path} {sz : Nat} {es : List AV} (h : navG res rsz q = some (sz, es)) : Spot res rsz q sz where
  get := fun es' => navG_set q res rsz sz es es' h
  set := fun a b => navSet_set q res rsz sz es a b h
  inG := fun E i k x sz' es' hx hy => (navG_app q _ rsz sz E i k x sz' es' (navG_set q res rsz sz es E h) hx hy).1
  inS := fun E i k x sz' es' new hx hy => by
    rw [(navG_app q _ rsz sz E i k x sz' es' (navG_set q res rsz sz es E h) hx hy).2, navSet_set q res rsz sz es _ _ h]
theorem noBoL_all {l : List AV} : noBoL l = true ↔ ∀ x ∈ l, noBo x = true := by
  induction l with
  | nil => simp [noBoL]
  | cons x r ih => simp [noBoL, ih]
theorem noBoL_set {l : List AV} {i : Nat} {x : AV} (h : noBoL l = true) (hx : noBo x = true) : noBoL (l.set i x) = true := by
  rw [noBoL_all] at h ⊢
  intro y hy
  rcases List.mem_or_eq_of_mem_set hy with h1 | h1
  · exact h y h1
  · rw [h1]; exact hx
theorem noBo_setC {x c : AV} {k : Nat} (hx : noBo x = true) (hc : noBo c = true) : noBo (x.setC k c) = true := by
  cases x with
  | agg cs =>
    simp only [AV.setC, noBo] at hx ⊢
    rw [noBoL_all] at hx ⊢
    intro y hy
    rcases List.mem_or_eq_of_mem_set hy with h | h
    · exact hx y h
    · rw [h]; exact hc
  | _ => exact hc
theorem noBo_navSet : ∀ (q : Path) (res new : List AV), noBoL res = true → noBoL new = true → noBoL (navSet res q new) = true := by
  intro q
  induction q with
  | nil => intro res new h1 h2; exact h2
  | cons ik q ih =>
    obtain ⟨i, k⟩ := ik
    intro res new h1 h2
    simp only [navSet]
    split
    · rename_i x hx
      split
      · rename_i sz' es' hy
        have hnx := noBoL_get h1 hx
        have hny := noBo_cells hnx hy
        rw [noBoL_all] at h1 ⊢
        intro y hy2
        rcases List.mem_or_eq_of_mem_set hy2 with h | h
        · exact h1 y h
        · rw [h]
          refine noBo_setC hnx ?_
          simp only [noBo] at hny ⊢
          exact ih _ _ hny h2
      · exact h1
    · exact h1
theorem half_get {α : Type} {m l : List α} {i : Nat} (h : m.length = l.length) (hi : i < l.length) : (m.take i ++ l.drop i)[i]? = some l[i] := by
  rw [List.getElem?_append_right (by simp; omega), List.length_take, Nat.min_eq_left (by omega), Nat.sub_self, drop_get hi]; rfl
theorem half_set {α : Type} {m l : List α} {i : Nat} {x : α} (h : m.length = l.length) (hi : i < l.length) (hx : m[i]? = some x) : (m.take i ++ l.drop i).set i x = m.take (i + 1) ++ l.drop (i + 1) := by
  have hl : (m.take i).length = i := by rw [List.length_take]; omega
  rw [List.set_append_right _ _ (by omega), hl, Nat.sub_self, drop_get hi, List.set_cons_zero, List.take_add_one, hx]
  simp
theorem half_len {α : Type} {m l : List α} {i : Nat} (h : m.length = l.length) (hi : i ≤ l.length) : (m.take i ++ l.drop i).length = l.length := by simp; omega
theorem strs_set (l : List Str) (i : Nat) (x : Str) : (strs l).set i (.str x) = strs (l.set i x) := by simp [strs, List.map_set]
theorem strs_get' {l : List Str} {i : Nat} {x : Str} (h : l[i]? = some x) : (strs l)[i]? = some (.str x) := by simp [strs, h]
def totL : List Str → Nat
  | [] => 0
  | s :: r => s.length + totL r
def totS (l : List Str) : Nat := l.length + totL l
def digs (k : Nat) (acc : Str) : Str :=
  if h : k = 0 then acc else digs (k / 10) (UInt8.ofNat (48 + k % 10) :: acc)
termination_by k
decreasing_by omega
def markTxt (k : Int) : Str := if k ≤ 0 then [109, 48] else 109 :: digs k.toNat []
theorem digs_pos {k : Nat} {acc : Str} (h : k ≠ 0) : digs k acc = digs (k / 10) (UInt8.ofNat (48 + k % 10) :: acc) := by rw [digs, dif_neg h]
theorem digs_zero (acc : Str) : digs 0 acc = acc := by rw [digs, dif_pos rfl]
theorem tmod_nn {k : Int} (h : 0 ≤ k) : Int.tmod k 10 = k % 10 := Int.tmod_eq_emod_of_nonneg h
theorem tdiv_nn {k : Int} (h : 0 ≤ k) : Int.tdiv k 10 = k / 10 := Int.tdiv_eq_ediv_of_nonneg h
theorem u8_wrap {n : Int} (h0 : 0 ≤ n) (h1 : n < 256) : IntKind.u8.wrap n = n := by unfold IntKind.wrap; simp [IntKind.bits, IntKind.signed]; omega
end Go.Proofs.YtiilnlihimdnlaaGreatDoorFw
namespace Go.Proofs.YtiilnlihimdnlaaGreatDoorFw
open Go Go.RowKit
theorem eqStringS_ok (l l' : List Str) (hl : l.length ≤ 140737488355328) :
  FnA Tryz.prog 28 false [.row .bo 1 (strs l), .row .bo 1 (strs l')] [] (fun r os ros => r = .bool (decide (l = l')) ∧ os = [] ∧ ros = []) := by
  refine FnA.of Tryz.func28 rfl (by decide) Tryz.ntmps28 (by simp) ?_
  refine run1_ @strs_len ?_
  refine RunsA.cond rfl (fun h => ?_) (fun h => ?_)
  · refine run_ ?_
    refine RetA.mk tabOk 0 rfl rfl rfl (by omega) rfl rfl rfl ?_
    have : l ≠ l' := by rintro rfl; simp at h
    simp [res1, this]
  · have hll : l.length = l'.length := by simp at h; omega
    refine run_ ?_
    refine RunsA.loop ?_
    refine (LoopA.ind (fun i : Nat => ⟨26, [(0, .row .bo 1 (strs l)), (1, .row .bo 1 (strs l')), (5, .int .i64 i)], [], false⟩) (fun i => l.length - i) (fun i => i ≤ l.length ∧ l.take i = l'.take i) ?_ 0 ?_).sub rfl ?_ trivial rfl
    · rintro i ⟨hi, ht⟩ K3 hK3
      refine run1_ @strs_len ?_
      refine RunsA.cond rfl (fun h2 => ?_) (fun h2 => ?_)
      · simp only [decide_eq_true_eq] at h2
        have hilt : i < l.length := by omega
        have hilt' : i < l'.length := by omega
        repeat (first | refine RunsA.sq ?_ | refine RunsA.bk ?_ | refine RunsA.sk ?_ | refine RunsA.ex ?_ | refine RunsA.rt ?_ | refine At.n ?_ | refine At.x ?_ | refine At.r ?_ | refine At.bn ?_ | refine At.br ?_ | refine At.bx ?_ | refine At.by_ rfl ?_ | refine At.kx ?_ | refine At.kr ?_ | refine At.kn ?_ | refine At.er ?_ | refine At.en ?_ | (refine RunsA.rq tabOk fun J hJ => ?_; simp only [go_sem, ↓reduceIte, Nat.reduceAdd, Nat.reduceSub, Nat.reduceMul, Nat.reduceLT, Nat.reduceLeDiff, Nat.reduceEqDiff, Nat.reduceBEq, Int.reduceToNat, strs_get hilt, strs_get hilt']; (try simp (disch := omega) only [wrap_id]); (repeat refine ⟨by omega, ?_⟩); refine hJ _ _ (RunsL.nil ?_); clear hJ J) | (refine RunsA.dq mixed tabOk (by kernel_rfl) fun J hJ => ?_; simp only [go_sem, ↓reduceIte, Nat.reduceAdd, Nat.reduceSub, Nat.reduceMul, Nat.reduceLT, Nat.reduceLeDiff, Nat.reduceEqDiff, Nat.reduceBEq, Int.reduceToNat, strs_get hilt, strs_get hilt']; (try simp (disch := omega) only [wrap_id]); (repeat refine ⟨by omega, ?_⟩); refine hJ _ _ (QRuns.nil ?_); clear hJ J))
        have e1 : l.take (i + 1) = l.take i ++ [l[i]] := take_snoc hilt
        have e2 : l'.take (i + 1) = l'.take i ++ [l'[i]] := take_snoc hilt'
        refine RunsA.cond rfl (fun h3 => ?_) (fun h3 => ?_)
        · refine run_ ?_
          have : l ≠ l' := by rintro rfl; simp at h3
          exact RetA.mk tabOk 0 rfl rfl rfl (by omega) rfl rfl rfl (by simp [res1, this])
        · refine run_ ?_
          have h4 : l[i] = l'[i] := by simpa using h3
          exact hK3 (i + 1) _ ⟨by omega, by rw [e1, e2, ht, h4]⟩ (by omega) rfl (by simp [SubS, lookS]) trivial rfl
      · refine run_ ?_
        have : l = l' := by
          simp only [decide_eq_false_iff_not] at h2
          rw [List.take_of_length_le (by omega), List.take_of_length_le (by omega)] at ht
          exact ht
        exact RetA.mk tabOk 0 rfl rfl rfl (by omega) rfl rfl rfl (by simp [res1, this])
    · exact ⟨Nat.zero_le _, by simp⟩
    · simp [SubS, lookS]
theorem markText_ok (k : Int) (h0 : 0 ≤ k) (h1 : k ≤ 4611686018427387904) :
    FnA Tryz.prog 45 false [.int .i64 k] [] (fun r os ros => r = .str (markTxt k) ∧ os = [] ∧ ros = []) := by
  refine FnA.of Tryz.func45 rfl (by decide) Tryz.ntmps45 (by simp) ?_
  refine run_ ?_
  refine RunsA.cond rfl (fun h => ?_) (fun h => ?_)
  · simp only [decide_eq_true_eq] at h
    refine run_ ?_
    exact RetA.mk tabOk 0 rfl rfl rfl (by omega) rfl rfl rfl (by simp [res1, markTxt, h])
  · simp only [decide_eq_false_iff_not] at h
    refine run_ ?_
    refine RunsA.loop ?_
    refine (LoopA.ind (fun p : Nat × Str => ⟨20, [(0, .int .i64 p.1), (3, .str p.2)], [], false⟩) (fun p => p.1) (fun p => p.2.length + p.1 ≤ 4611686018427387904 ∧ digs p.1 p.2 = digs k.toNat []) ?_ (k.toNat, []) ?_).sub rfl ?_ ?_ rfl
    · rintro ⟨n, acc⟩ ⟨hn, hd⟩ K3 hK3
      simp only at hn hd
      refine run_ ?_
      refine RunsA.cond rfl (fun h2 => ?_) (fun h2 => ?_)
      · simp only [decide_eq_true_eq] at h2
        repeat (first | refine RunsA.sq ?_ | refine RunsA.bk ?_ | refine RunsA.sk ?_ | refine RunsA.ex ?_ | refine RunsA.rt ?_ | refine At.n ?_ | refine At.x ?_ | refine At.r ?_ | refine At.bn ?_ | refine At.br ?_ | refine At.bx ?_ | refine At.by_ rfl ?_ | refine At.kx ?_ | refine At.kr ?_ | refine At.kn ?_ | refine At.er ?_ | refine At.en ?_ | (refine RunsA.rq tabOk fun J hJ => ?_; simp only [go_sem, ↓reduceIte, Nat.reduceAdd, Nat.reduceSub, Nat.reduceMul, Nat.reduceLT, Nat.reduceLeDiff, Nat.reduceEqDiff, Nat.reduceBEq, Int.reduceToNat, tmod_nn (show (0 : Int) ≤ (n : Int) by omega), tdiv_nn (show (0 : Int) ≤ (n : Int) by omega)]; (try simp (disch := omega) only [wrap_id]); (repeat refine ⟨by omega, ?_⟩); refine hJ _ _ (RunsL.nil ?_); clear hJ J) | (refine RunsA.dq mixed tabOk (by kernel_rfl) fun J hJ => ?_; simp only [go_sem, ↓reduceIte, Nat.reduceAdd, Nat.reduceSub, Nat.reduceMul, Nat.reduceLT, Nat.reduceLeDiff, Nat.reduceEqDiff, Nat.reduceBEq, Int.reduceToNat, tmod_nn (show (0 : Int) ≤ (n : Int) by omega), tdiv_nn (show (0 : Int) ≤ (n : Int) by omega)]; (try simp (disch := omega) only [wrap_id]); (repeat refine ⟨by omega, ?_⟩); refine hJ _ _ (QRuns.nil ?_); clear hJ J))
        rw [digs_pos (by omega)] at hd
        have e1 : IntKind.u8.wrap (48 + (n : Int) % 10) = ((48 + n % 10 : Nat) : Int) := by rw [u8_wrap (by omega) (by omega)]; omega
        have e2 : (n : Int) / 10 = ((n / 10 : Nat) : Int) := by omega
        rw [e1, e2, Int.toNat_natCast]
        exact hK3 (n / 10, _) _ ⟨by simp only [List.length_cons]; omega, hd⟩ (by simp only; omega) rfl (by simp [SubS, lookS]) trivial rfl
      · refine run_ ?_
        simp only [decide_eq_false_iff_not] at h2
        have : n = 0 := by omega
        subst this
        rw [digs_zero] at hd
        exact RetA.mk tabOk 0 rfl rfl rfl (by omega) rfl rfl rfl (by simp [res1, markTxt, h, hd])
    · exact ⟨by simp; omega, rfl⟩
    · simp only [Int.toNat_of_nonneg h0]; simp [SubS, lookS]
    · trivial
def markStrs : List Str → Int → List Str
  | [], _ => []
  | _ :: r, k => markTxt k :: markStrs r (k + 1)
theorem markStrs_len : ∀ (l : List Str) (k : Int), (markStrs l k).length = l.length
  | [], k => rfl
  | _ :: r, k => by simp [markStrs, markStrs_len r]
theorem markStrs_get : ∀ (l : List Str) (k : Int) (i : Nat) (h : i < l.length), (markStrs l k)[i]? = some (markTxt (k + i))
  | [], k, i, h => by simp at h
  | _ :: r, k, 0, h => by simp [markStrs]
  | _ :: r, k, i + 1, h => by
    simp only [markStrs, List.getElem?_cons_succ]
    rw [markStrs_get r (k + 1) i (by simpa using h)]
    congr 2; omega
theorem markStringS_ok (q : Path) (rsz : Nat) (res : List AV) (l : List Str) (k : Int) (hn : navG res rsz q = some (1, strs l)) (hb : noBoL res = true) (h0 : 0 ≤ k) (h1 : k + l.length ≤ 4611686018427387904) :
    FnA Tryz.prog 30 true [.hd 0 q, .int .i64 k] [(rsz, res)] (fun r os ros => r = .int .i64 (k + l.length) ∧ os = [(rsz, navSet res q (strs (markStrs l k)))] ∧ ros = []) := by
  refine FnA.of Tryz.func30 rfl (by decide) Tryz.ntmps30 (by simp) ?_
  have hN : ∀ es, navG (navSet res q es) rsz q = some (1, es) := fun es => navG_set q res rsz 1 _ es hn
  have hS : ∀ a b, navSet (navSet res q a) q b = navSet res q b := fun a b => navSet_set q res rsz 1 _ a b hn
  rw [← navSet_self q res rsz 1 _ hn]
  refine run_ ?_
  refine RunsA.loop ?_
  refine (LoopA.ind (fun i : Nat => ⟨20, [(0, .hd 0 q), (1, .int .i64 (k + i)), (5, .int .i64 i)], [⟨0, rsz, navSet res q (strs ((markStrs l k).take i ++ l.drop i))⟩], true⟩) (fun i => l.length - i) (fun i => i ≤ l.length) ?_ 0 ?_).sub rfl ?_ ?_ rfl
  · intro i hi K3 hK3
    have hml := markStrs_len l k
    have hll : ((markStrs l k).take i ++ l.drop i).length = l.length := by simp; omega
    refine run3_ @hN @strs_len @hll ?_
    refine RunsA.cond rfl (fun h2 => ?_) (fun h2 => ?_)
    · simp only [decide_eq_true_eq] at h2
      have hilt : i < l.length := by omega
      refine run_ ?_
      refine RunsA.rq tabOk fun J hJ => ?_
      simp only [go_sem, ↓reduceIte, Nat.reduceAdd, Nat.reduceSub, Nat.reduceMul, Nat.reduceLT, Nat.reduceLeDiff, Nat.reduceEqDiff, Nat.reduceBEq, Int.reduceToNat]
      try simp (disch := omega) only [wrap_id]
      refine hJ _ _ (RunsL.call (ps := []) (rid := 4096) rfl rfl rfl rfl rfl (by simp only [go_sem, Nat.reduceEqDiff]; first | done | rfl) (markText_ok (k + i) (by omega) (by omega)) rfl (by decide) ⟨by decide, by decide, rfl⟩ (by first | exact .inl rfl | exact .inr (.inl rfl) | exact .inr (.inr rfl)) ?_); clear hJ J
      rintro r os' ros ⟨rfl, rfl, rfl⟩ _
      refine RunsL.go tabOk fun J hJ => ?_
      simp only [go_sem, ↓reduceIte, Nat.reduceAdd, Nat.reduceSub, Nat.reduceMul, Nat.reduceLT, Nat.reduceLeDiff, Nat.reduceEqDiff, Nat.reduceBEq, Int.reduceToNat, hN, hS, strs_len, hll, strs_get' (half_get hml hilt), strs_set, half_set hml hilt (markStrs_get l k i hilt)]
      try simp (disch := omega) only [wrap_id]
      refine ⟨by omega, ?_⟩
      refine hJ _ _ (RunsL.nil ?_); clear hJ J
      refine run_ ?_
      exact hK3 (i + 1) _ (by omega) (by omega) rfl (by simp [SubS, lookS, Int.add_assoc]) (by simp [SubO, lookO]) rfl
    · refine run_ ?_
      simp only [decide_eq_false_iff_not] at h2
      have : i = l.length := by omega
      subst this
      have e : (markStrs l k).take l.length ++ l.drop l.length = markStrs l k := by rw [List.drop_length, List.append_nil, List.take_of_length_le (by omega)]
      rw [e]
      exact RetA.mk tabOk 0 rfl rfl rfl (by omega) (by simp only [noBoO, Bool.and_true]; exact noBo_navSet _ _ _ hb (noBo_strs _)) rfl rfl ⟨rfl, by rw [hS], rfl⟩
  · exact Nat.zero_le _
  · simp [SubS, lookS]
  · simp [SubO, lookO]
theorem heldStringS_ok (l : List Str) (k : Int) (h0 : 0 ≤ k) (h1 : k + l.length ≤ 4611686018427387904) :
    FnA Tryz.prog 32 false [.row .bo 1 (strs l), .int .i64 k] [] (fun r os ros => (l = markStrs l k → r = .int .i64 (k + l.length)) ∧ os = [] ∧ ros = []) := by
  refine FnA.of Tryz.func32 rfl (by decide) Tryz.ntmps32 (by simp) ?_
  refine run_ ?_
  refine RunsA.loop ?_
  refine (LoopA.ind (fun i : Nat => ⟨22, [(0, .row .bo 1 (strs l)), (1, .int .i64 (k + i)), (5, .int .i64 i)], [], false⟩) (fun i => l.length - i) (fun i => i ≤ l.length) ?_ 0 ?_).sub rfl ?_ ?_ rfl
  · intro i hi K3 hK3
    refine run1_ @strs_len ?_
    refine RunsA.cond rfl (fun h2 => ?_) (fun h2 => ?_)
    · simp only [decide_eq_true_eq] at h2
      have hilt : i < l.length := by omega
      refine run_ ?_
      refine RunsA.dq mixed tabOk (by kernel_rfl) fun J hJ => ?_
      simp only [go_sem, ↓reduceIte, Nat.reduceAdd, Nat.reduceSub, Nat.reduceMul, Nat.reduceLT, Nat.reduceLeDiff, Nat.reduceEqDiff, Nat.reduceBEq, Int.reduceToNat, strs_get hilt]
      try simp (disch := omega) only [wrap_id]
      refine hJ _ _ (QRuns.call (y := .str (markTxt (k + i))) rfl rfl rfl rfl (by simp only [go_sem, Nat.reduceEqDiff]) (markText_ok (k + i) (by omega) (by omega)) rfl (fun r os' ros h => ⟨by exact h.1, h.2.2⟩) rfl ?_); clear hJ J
      refine QRuns.go tabOk fun J hJ => ?_
      simp only [go_sem, ↓reduceIte, Nat.reduceAdd, Nat.reduceSub, Nat.reduceMul, Nat.reduceLT, Nat.reduceLeDiff, Nat.reduceEqDiff, Nat.reduceBEq, Int.reduceToNat]
      try simp (disch := omega) only [wrap_id]
      refine hJ _ _ (QRuns.nil ?_); clear hJ J
      refine run_ ?_
      refine RunsA.cond rfl (fun h3 => ?_) (fun h3 => ?_)
      · refine run_ ?_
        refine RetA.mk tabOk 0 rfl rfl rfl (by omega) rfl rfl rfl ⟨fun e => ?_, rfl, rfl⟩
        exfalso
        have h4 := markStrs_get l k i hilt
        rw [← e, List.getElem?_eq_getElem hilt] at h4
        simp only [Option.some.injEq] at h4
        rw [h4] at h3
        simp at h3
      · refine run_ ?_
        exact hK3 (i + 1) _ (by omega) (by omega) rfl (by simp [SubS, lookS, Int.add_assoc]) trivial rfl
    · refine run_ ?_
      simp only [decide_eq_false_iff_not] at h2
      have : i = l.length := by omega
      subst this
      exact RetA.mk tabOk 0 rfl rfl rfl (by omega) rfl rfl rfl ⟨fun _ => rfl, rfl, rfl⟩
  · exact Nat.zero_le _
  · simp [SubS, lookS]
  · trivial
theorem markStrs_idem : ∀ (l : List Str) (k : Int), markStrs (markStrs l k) k = markStrs l k
  | [], k => rfl
  | _ :: r, k => by simp only [markStrs, markStrs_idem r]
theorem heldMarks_ok (l : List Str) (k : Int) (h0 : 0 ≤ k) (h1 : k + l.length ≤ 4611686018427387904) :
    FnA Tryz.prog 32 false [.row .bo 1 (strs (markStrs l k)), .int .i64 k] [] (fun r os ros => r = .int .i64 (k + l.length) ∧ os = [] ∧ ros = []) :=
  (heldStringS_ok (markStrs l k) k h0 (by rw [markStrs_len]; exact h1)).mono fun r os ros h => ⟨by rw [h.1 (markStrs_idem l k).symm, markStrs_len], h.2⟩
end Go.Proofs.YtiilnlihimdnlaaGreatDoorFw
namespace Go.Proofs.YtiilnlihimdnlaaGreatDoorFw
open Go Go.RowKit
inductive SegV where
  | mk (name : Str) (mods : List Str) (kids : List SegV)
mutual
def segA (m : Md) : SegV → AV
  | .mk n ms ks => .agg [.str n, .row m 1 (strs ms), .row m 3 (segsA m ks)]
def segsA (m : Md) : List SegV → List AV
  | [] => []
  | s :: r => segA m s :: segsA m r
end
theorem segsA_eq (m : Md) (l : List SegV) : segsA m l = l.map (segA m) := by induction l <;> simp [segsA, *]
theorem segsA_len (m : Md) (l : List SegV) : (segsA m l).length = l.length := by simp [segsA_eq]
theorem segsA_get (m : Md) {l : List SegV} {i : Nat} (h : i < l.length) : (segsA m l)[i]? = some (segA m l[i]) := by simp [segsA_eq, h]
theorem segA_mk (m : Md) (n : Str) (ms : List Str) (ks : List SegV) : segA m (.mk n ms ks) = .agg [.str n, .row m 1 (strs ms), .row m 3 (segsA m ks)] := by simp only [segA]
mutual
theorem brw_seg : ∀ (m : Md) (s : SegV), brw (segA m s) = segA .bo s
  | m, .mk n ms ks => by simp only [segA, brw, brwL, brw_strs, brw_segs m ks]
theorem brw_segs : ∀ (m : Md) (l : List SegV), brwL (segsA m l) = segsA .bo l
  | m, [] => rfl
  | m, s :: r => by simp only [segsA, brwL, brw_seg m s, brw_segs m r]
end
mutual
theorem noBo_seg : ∀ (s : SegV), noBo (segA .own s) = true
  | .mk n ms ks => by simp only [segA, noBo, noBoL, noBo_strs, noBo_segs ks, Bool.and_self]
theorem noBo_segs : ∀ (l : List SegV), noBoL (segsA .own l) = true
  | [] => rfl
  | s :: r => by simp only [segsA, noBoL, noBo_seg s, noBo_segs r, Bool.and_self]
end
mutual
def SegV.tot : SegV → Nat
  | .mk n ms ks => n.length + totS ms + (ks.length + SegV.totL ks)
def SegV.totL : List SegV → Nat
  | [] => 0
  | s :: r => s.tot + SegV.totL r
end
theorem SegV.totL_mem : ∀ {l : List SegV} {s : SegV}, s ∈ l → s.tot ≤ SegV.totL l
  | x :: r, s, h => by
    simp only [SegV.totL]
    rcases List.mem_cons.1 h with e | e
    · subst e; omega
    · have := SegV.totL_mem e; omega
theorem SegV.ind {P : SegV → Prop} (h : ∀ n ms ks, (∀ k ∈ ks, P k) → P (.mk n ms ks)) : ∀ s, P s := by
  have key : ∀ (n : Nat) (s : SegV), SizeOf.sizeOf s < n → P s := by
    intro n
    induction n with
    | zero => intro s hs; omega
    | succ n ih =>
      intro s hs
      cases s with
      | mk a ms ks =>
        refine h a ms ks fun k hk => ih k ?_
        have h1 := List.sizeOf_lt_of_mem hk
        simp only [SegV.mk.sizeOf_spec] at hs
        omega
  exact fun s => key (SizeOf.sizeOf s + 1) s (by omega)
end Go.Proofs.YtiilnlihimdnlaaGreatDoorFw
namespace Go.Proofs.YtiilnlihimdnlaaGreatDoorFw
open Go Go.RowKit
open Classical in
noncomputable instance : DecidableEq SegV := fun a b => inferInstance
theorem eqSegS_of (l l' : List SegV) (hl : l.length ≤ 140737488355328)
    (H : ∀ s ∈ l, ∀ s', FnA Tryz.prog 8 false [segA .bo s, segA .bo s'] [] (fun r os ros => r = .bool (decide (s = s')) ∧ os = [] ∧ ros = [])) :
    FnA Tryz.prog 29 false [.row .bo 3 (segsA .bo l), .row .bo 3 (segsA .bo l')] [] (fun r os ros => r = .bool (decide (l = l')) ∧ os = [] ∧ ros = []) := by
  refine FnA.of Tryz.func29 rfl (by decide) Tryz.ntmps29 (by simp) ?_
  refine run1_ @segsA_len ?_
  refine RunsA.cond rfl (fun h => ?_) (fun h => ?_)
  · refine run_ ?_
    have : l ≠ l' := by rintro rfl; simp at h
    exact RetA.mk tabOk 0 rfl rfl rfl (by omega) rfl rfl rfl ⟨by simp [res1, this], rfl, rfl⟩
  · have hll : l.length = l'.length := by simp at h; omega
    refine run_ ?_
    refine RunsA.loop ?_
    refine (LoopA.ind (fun i : Nat => ⟨27, [(0, .row .bo 3 (segsA .bo l)), (1, .row .bo 3 (segsA .bo l')), (5, .int .i64 i)], [], false⟩) (fun i => l.length - i) (fun i => i ≤ l.length ∧ l.take i = l'.take i) ?_ 0 ?_).sub rfl ?_ trivial rfl
    · rintro i ⟨hi, ht⟩ K3 hK3
      refine run1_ @segsA_len ?_
      refine RunsA.cond rfl (fun h2 => ?_) (fun h2 => ?_)
      · simp only [decide_eq_true_eq] at h2
        have hilt : i < l.length := by omega
        have hilt' : i < l'.length := by omega
        have e1 := take_snoc hilt
        have e2 := take_snoc hilt'
        have HH := H l[i] (List.getElem_mem hilt) l'[i]
        have hg := segsA_get .bo hilt
        have hg' := segsA_get .bo hilt'
        generalize l[i] = s at HH hg e1
        generalize l'[i] = s' at HH hg' e2
        obtain ⟨n, ms, ks⟩ := s
        obtain ⟨n', ms', ks'⟩ := s'
        rw [segA_mk, segA_mk] at HH
        rw [segA_mk] at hg hg'
        refine run_ ?_
        refine RunsA.dq mixed tabOk (by kernel_rfl) fun J hJ => ?_
        simp only [go_sem, ↓reduceIte, Nat.reduceAdd, Nat.reduceSub, Nat.reduceMul, Nat.reduceLT, Nat.reduceLeDiff, Nat.reduceEqDiff, Nat.reduceBEq, Int.reduceToNat, hg, hg']
        try simp (disch := omega) only [wrap_id]
        (repeat refine ⟨by omega, ?_⟩)
        refine hJ _ _ (QRuns.call (y := .bool (decide (SegV.mk n ms ks = SegV.mk n' ms' ks'))) rfl rfl rfl rfl (by simp only [go_sem, Nat.reduceEqDiff]) (HH) rfl (fun r os' ros h => ⟨by exact h.1, h.2.2⟩) rfl ?_); clear hJ J
        refine QRuns.go tabOk fun J hJ => ?_
        simp only [go_sem, ↓reduceIte, Nat.reduceAdd, Nat.reduceSub, Nat.reduceMul, Nat.reduceLT, Nat.reduceLeDiff, Nat.reduceEqDiff, Nat.reduceBEq, Int.reduceToNat]
        try simp (disch := omega) only [wrap_id]
        refine hJ _ _ (QRuns.nil ?_); clear hJ J
        refine run_ ?_
        refine RunsA.cond rfl (fun h3 => ?_) (fun h3 => ?_)
        · refine run_ ?_
          have h4 : SegV.mk n ms ks ≠ SegV.mk n' ms' ks' := by intro e; rw [e] at h3; simp at h3
          have : l ≠ l' := by
            rintro rfl
            rw [e1] at e2
            exact h4 (by simpa using e2)
          exact RetA.mk tabOk 0 rfl rfl rfl (by omega) rfl rfl rfl ⟨by simp [res1, this], rfl, rfl⟩
        · refine run_ ?_
          have h4 : SegV.mk n ms ks = SegV.mk n' ms' ks' := by simpa using h3
          exact hK3 (i + 1) _ ⟨by omega, by rw [e1, e2, ht, h4]⟩ (by omega) rfl (by simp [SubS, lookS]) (by simp [SubO, lookO]) rfl
      · refine run_ ?_
        have : l = l' := by
          simp only [decide_eq_false_iff_not] at h2
          rw [List.take_of_length_le (by omega), List.take_of_length_le (by omega)] at ht
          exact ht
        exact RetA.mk tabOk 0 rfl rfl rfl (by omega) rfl rfl rfl ⟨by simp [res1, this], rfl, rfl⟩
    · exact ⟨Nat.zero_le _, by simp⟩
    · simp [SubS, lookS]
theorem eqSeg_ok : ∀ s : SegV, s.tot ≤ 1048576 → ∀ s', FnA Tryz.prog 8 false [segA .bo s, segA .bo s'] [] (fun r os ros => r = .bool (decide (s = s')) ∧ os = [] ∧ ros = []) := by
  refine SegV.ind fun n ms ks ih => ?_
  intro hf s'
  obtain ⟨n', ms', ks'⟩ := s'
  rw [SegV.tot, totS] at hf
  rw [segA_mk, segA_mk]
  refine FnA.of Tryz.func8 rfl (by decide) Tryz.ntmps8 (by simp) ?_
  refine run_ ?_
  refine RunsA.cond rfl (fun h => ?_) (fun h => ?_)
  · refine run_ ?_
    have h4 : n ≠ n' := by rintro rfl; simp at h
    exact RetA.mk tabOk 0 rfl rfl rfl (by omega) rfl rfl rfl ⟨by simp [res1, h4], rfl, rfl⟩
  · have h4 : n = n' := by simpa using h
    refine run_ ?_
    refine RunsA.rq tabOk fun J hJ => ?_
    simp only [go_sem, ↓reduceIte, Nat.reduceAdd, Nat.reduceSub, Nat.reduceMul, Nat.reduceLT, Nat.reduceLeDiff, Nat.reduceEqDiff, Nat.reduceBEq, Int.reduceToNat]
    try simp (disch := omega) only [wrap_id]
    refine hJ _ _ (RunsL.call (ps := []) (rid := 3840) rfl rfl rfl rfl rfl (by simp only [go_sem, Nat.reduceEqDiff]; first | done | rfl) (eqStringS_ok ms ms' (by omega)) rfl (by decide) ⟨by decide, by decide, rfl⟩ (by first | exact .inl rfl | exact .inr (.inl rfl) | exact .inr (.inr rfl)) ?_); clear hJ J
    rintro r os' ros ⟨rfl, rfl, rfl⟩ _
    refine RunsL.go tabOk fun J hJ => ?_
    simp only [go_sem, ↓reduceIte, Nat.reduceAdd, Nat.reduceSub, Nat.reduceMul, Nat.reduceLT, Nat.reduceLeDiff, Nat.reduceEqDiff, Nat.reduceBEq, Int.reduceToNat]
    try simp (disch := omega) only [wrap_id]
    (repeat refine ⟨by omega, ?_⟩)
    refine hJ _ _ (RunsL.nil ?_); clear hJ J
    refine run_ ?_
    refine RunsA.cond rfl (fun h => ?_) (fun h => ?_)
    · refine run_ ?_
      have h5 : ms ≠ ms' := by rintro rfl; simp at h
      exact RetA.mk tabOk 0 rfl rfl rfl (by omega) rfl rfl rfl ⟨by simp [res1, h5], rfl, rfl⟩
    · have h5 : ms = ms' := by simpa using h
      refine run_ ?_
      refine RunsA.rq tabOk fun J hJ => ?_
      simp only [go_sem, ↓reduceIte, Nat.reduceAdd, Nat.reduceSub, Nat.reduceMul, Nat.reduceLT, Nat.reduceLeDiff, Nat.reduceEqDiff, Nat.reduceBEq, Int.reduceToNat]
      try simp (disch := omega) only [wrap_id]
      refine hJ _ _ (RunsL.call (ps := []) (rid := 5376) rfl rfl rfl rfl rfl (by simp only [go_sem, Nat.reduceEqDiff]; first | done | rfl) (eqSegS_of ks ks' (by omega) (fun s hs => ih s hs (by have := SegV.totL_mem hs; omega))) rfl (by decide) ⟨by decide, by decide, rfl⟩ (by first | exact .inl rfl | exact .inr (.inl rfl) | exact .inr (.inr rfl)) ?_); clear hJ J
      rintro r os' ros ⟨rfl, rfl, rfl⟩ _
      refine RunsL.go tabOk fun J hJ => ?_
      simp only [go_sem, ↓reduceIte, Nat.reduceAdd, Nat.reduceSub, Nat.reduceMul, Nat.reduceLT, Nat.reduceLeDiff, Nat.reduceEqDiff, Nat.reduceBEq, Int.reduceToNat]
      try simp (disch := omega) only [wrap_id]
      (repeat refine ⟨by omega, ?_⟩)
      refine hJ _ _ (RunsL.nil ?_); clear hJ J
      refine run_ ?_
      refine RunsA.cond rfl (fun h => ?_) (fun h => ?_)
      · refine run_ ?_
        have h6 : ks ≠ ks' := by rintro rfl; simp at h
        exact RetA.mk tabOk 0 rfl rfl rfl (by omega) rfl rfl rfl ⟨by simp [res1, h6], rfl, rfl⟩
      · refine run_ ?_
        have h6 : ks = ks' := by simpa using h
        exact RetA.mk tabOk 0 rfl rfl rfl (by omega) rfl rfl rfl ⟨by simp [res1, h4, h5, h6], rfl, rfl⟩
end Go.Proofs.YtiilnlihimdnlaaGreatDoorFw
namespace Go.Proofs.YtiilnlihimdnlaaGreatDoorFw
open Go Go.RowKit
mutual
def SegV.cnt : SegV → Nat
  | .mk n ms ks => 1 + ms.length + SegV.cntL ks
def SegV.cntL : List SegV → Nat
  | [] => 0
  | s :: r => s.cnt + SegV.cntL r
end
mutual
def SegV.mark : SegV → Int → SegV
  | .mk n ms ks, k => .mk (markTxt k) (markStrs ms (k + 1)) (SegV.marks ks (k + 1 + ms.length))
def SegV.marks : List SegV → Int → List SegV
  | [], _ => []
  | s :: r, k => s.mark k :: SegV.marks r (k + s.cnt)
end
theorem SegV.marks_len : ∀ (l : List SegV) (k : Int), (SegV.marks l k).length = l.length
  | [], k => rfl
  | s :: r, k => by simp [SegV.marks, SegV.marks_len r]
theorem SegV.marks_get : ∀ (l : List SegV) (k : Int) (i : Nat) (h : i < l.length), (SegV.marks l k)[i]? = some (l[i].mark (k + SegV.cntL (l.take i)))
  | s :: r, k, 0, h => by simp [SegV.marks, SegV.cntL]
  | s :: r, k, i + 1, h => by
    simp only [SegV.marks, List.getElem?_cons_succ]
    rw [SegV.marks_get r _ i (by simpa using h)]
    simp only [List.getElem_cons_succ, List.take_succ_cons, SegV.cntL]
    congr 2; omega
theorem SegV.cntL_snoc : ∀ (l : List SegV) (i : Nat) (h : i < l.length), SegV.cntL (l.take (i + 1)) = SegV.cntL (l.take i) + l[i].cnt
  | s :: r, 0, h => by simp [SegV.cntL]
  | s :: r, i + 1, h => by
    simp only [List.take_succ_cons, SegV.cntL, List.getElem_cons_succ]
    rw [SegV.cntL_snoc r i (by simpa using h)]; omega
theorem SegV.cnt_pos (s : SegV) : 1 ≤ s.cnt := by obtain ⟨n, ms, ks⟩ := s; simp only [SegV.cnt]; omega
theorem SegV.cntL_len : ∀ l : List SegV, l.length ≤ SegV.cntL l
  | [] => by simp [SegV.cntL]
  | s :: r => by simp only [SegV.cntL, List.length_cons]; have := SegV.cnt_pos s; have := SegV.cntL_len r; omega
theorem SegV.indL {P : List SegV → Prop} (h : ∀ l, (∀ n ms ks, SegV.mk n ms ks ∈ l → P ks) → P l) : ∀ l, P l := by
  have key : ∀ (n : Nat) (l : List SegV), SizeOf.sizeOf l < n → P l := by
    intro n
    induction n with
    | zero => intro s hs; omega
    | succ n ih =>
      intro l hs
      refine h l fun a ms ks hk => ih ks ?_
      have h1 := List.sizeOf_lt_of_mem hk
      simp only [SegV.mk.sizeOf_spec] at h1
      omega
  exact fun l => key (SizeOf.sizeOf l + 1) l (by omega)
theorem SegV.cntL_take (l : List SegV) (i : Nat) : SegV.cntL (l.take i) ≤ SegV.cntL l := by
  induction l generalizing i with
  | nil => simp [SegV.cntL]
  | cons s r ih =>
    cases i with
    | zero => simp [SegV.cntL]
    | succ i => simp only [List.take_succ_cons, SegV.cntL]; have := ih i; omega
theorem markSegS_ok : ∀ l : List SegV, ∀ (q : Path) (rsz : Nat) (res : List AV) (k : Int), navG res rsz q = some (3, segsA .own l) → noBoL res = true → 0 ≤ k → k + SegV.cntL l ≤ 4611686018427387904 →
    FnA Tryz.prog 31 true [.hd 0 q, .int .i64 k] [(rsz, res)] (fun r os ros => r = .int .i64 (k + SegV.cntL l) ∧ os = [(rsz, navSet res q (segsA .own (SegV.marks l k)))] ∧ ros = []) := by
  refine SegV.indL fun l ih => ?_
  intro q rsz res k hn hb h0 h1
  refine FnA.of Tryz.func31 rfl (by decide) Tryz.ntmps31 (by simp) ?_
  have hS := Spot.of hn
  rw [← navSet_self q res rsz 3 _ hn]
  refine run_ ?_
  refine RunsA.loop ?_
  refine (LoopA.ind (fun i : Nat => ⟨35, [(0, .hd 0 q), (1, .int .i64 (k + SegV.cntL (l.take i))), (5, .int .i64 i)], [⟨0, rsz, navSet res q (segsA .own ((SegV.marks l k).take i ++ l.drop i))⟩], true⟩) (fun i => l.length - i) (fun i => i ≤ l.length) ?_ 0 ?_).sub rfl ?_ ?_ rfl
  · intro i hi K3 hK3
    have hml := SegV.marks_len l k
    have hEl : (segsA .own ((SegV.marks l k).take i ++ l.drop i)).length = l.length := by rw [segsA_len, half_len hml hi]
    repeat (first | refine RunsA.sq ?_ | refine RunsA.bk ?_ | refine RunsA.sk ?_ | refine RunsA.ex ?_ | refine RunsA.rt ?_ | refine At.n ?_ | refine At.x ?_ | refine At.r ?_ | refine At.bn ?_ | refine At.br ?_ | refine At.bx ?_ | refine At.by_ rfl ?_ | refine At.kx ?_ | refine At.kr ?_ | refine At.kn ?_ | refine At.er ?_ | refine At.en ?_ | (refine RunsA.rq tabOk fun J hJ => ?_; simp only [go_sem, ↓reduceIte, Nat.reduceAdd, Nat.reduceSub, Nat.reduceMul, Nat.reduceLT, Nat.reduceLeDiff, Nat.reduceEqDiff, Nat.reduceBEq, Int.reduceToNat, hS.get, hEl]; (try simp (disch := omega) only [wrap_id]); (repeat refine ⟨by omega, ?_⟩); refine hJ _ _ (RunsL.nil ?_); clear hJ J) | (refine RunsA.dq mixed tabOk (by kernel_rfl) fun J hJ => ?_; simp only [go_sem, ↓reduceIte, Nat.reduceAdd, Nat.reduceSub, Nat.reduceMul, Nat.reduceLT, Nat.reduceLeDiff, Nat.reduceEqDiff, Nat.reduceBEq, Int.reduceToNat, hS.get, hEl]; (try simp (disch := omega) only [wrap_id]); (repeat refine ⟨by omega, ?_⟩); refine hJ _ _ (QRuns.nil ?_); clear hJ J))
    refine RunsA.cond rfl (fun h2 => ?_) (fun h2 => ?_)
    · simp only [decide_eq_true_eq] at h2
      have hilt : i < l.length := by omega
      have hE : (segsA .own ((SegV.marks l k).take i ++ l.drop i))[i]? = some (segA .own l[i]) := by rw [segsA_eq, List.getElem?_map, half_get hml hilt]; rfl
      have hE2 : (segsA .own ((SegV.marks l k).take i ++ l.drop i)).set i (segA .own (l[i].mark (k + SegV.cntL (l.take i)))) = segsA .own ((SegV.marks l k).take (i + 1) ++ l.drop (i + 1)) := by
        rw [segsA_eq, ← List.map_set, half_set hml hilt (SegV.marks_get l k i hilt), ← segsA_eq]
      have hc := SegV.cntL_snoc l i hilt
      have hmem := List.getElem_mem hilt
      have hct := SegV.cntL_take l (i + 1)
      have hcl := SegV.cntL_len l
      have hnb : ∀ E, noBoL E = true → noBoL (navSet res q E) = true := fun E h => noBo_navSet _ _ _ hb h
      have hnE := noBo_segs ((SegV.marks l k).take i ++ l.drop i)
      generalize segsA .own ((SegV.marks l k).take i ++ l.drop i) = E at *
      generalize l[i] = s at *
      obtain ⟨n, ms, ks⟩ := s
      rw [segA_mk] at hE
      simp only [SegV.mark, segA_mk] at hE2
      simp only [SegV.cnt] at hc
      have hlt : i < E.length := by omega
      have hEs : ∀ x, (E.set i x)[i]? = some x := fun x => List.getElem?_set_self hlt
      refine run_ ?_
      refine RunsA.rq tabOk fun J hJ => ?_
      simp only [go_sem, ↓reduceIte, Nat.reduceAdd, Nat.reduceSub, Nat.reduceMul, Nat.reduceLT, Nat.reduceLeDiff, Nat.reduceEqDiff, Nat.reduceBEq, Int.reduceToNat]
      try simp (disch := omega) only [wrap_id]
      refine hJ _ _ (RunsL.call (ps := []) (rid := 4096) rfl rfl rfl rfl rfl (by simp only [go_sem, Nat.reduceEqDiff]; first | done | rfl) (markText_ok (k + SegV.cntL (l.take i)) (by omega) (by omega)) rfl (by decide) ⟨by decide, by decide, rfl⟩ (by first | exact .inl rfl | exact .inr (.inl rfl) | exact .inr (.inr rfl)) ?_); clear hJ J
      rintro r os' ros ⟨rfl, rfl, rfl⟩ _
      refine RunsL.go tabOk fun J hJ => ?_
      simp only [go_sem, ↓reduceIte, Nat.reduceAdd, Nat.reduceSub, Nat.reduceMul, Nat.reduceLT, Nat.reduceLeDiff, Nat.reduceEqDiff, Nat.reduceBEq, Int.reduceToNat, hS.get, hS.set, hE, hEl]
      try simp (disch := omega) only [wrap_id]
      (repeat refine ⟨by omega, ?_⟩)
      refine hJ _ _ (RunsL.nil ?_); clear hJ J
      refine run_ ?_
      refine RunsA.rq tabOk fun J hJ => ?_
      simp only [go_sem, ↓reduceIte, Nat.reduceAdd, Nat.reduceSub, Nat.reduceMul, Nat.reduceLT, Nat.reduceLeDiff, Nat.reduceEqDiff, Nat.reduceBEq, Int.reduceToNat, hS.get, hEs, hEl, List.length_set]
      try simp (disch := omega) only [wrap_id]
      refine ⟨by omega, ?_⟩
      refine hJ _ _ (RunsL.call (ps := [0]) (rid := 6912) rfl rfl rfl rfl rfl (by simp only [go_sem, Nat.reduceEqDiff]; first | done | rfl) (markStringS_ok (q ++ [(i, 1)]) rsz _ ms (k + SegV.cntL (l.take i) + 1) (hS.inG _ i 1 _ _ _ (hEs _) rfl) (hnb _ (noBoL_set hnE (by simp only [noBo, noBoL, noBo_strs, noBo_segs, Bool.and_self]))) (by omega) (by omega)) rfl (by decide) ⟨by decide, by decide, rfl⟩ (by first | exact .inl rfl | exact .inr (.inl rfl) | exact .inr (.inr rfl)) ?_); clear hJ J
      rintro r os' ros ⟨rfl, rfl, rfl⟩ _
      rw [hS.inS _ i 1 _ _ _ _ (hEs _) rfl]
      simp only [AV.setC, List.set_cons_zero, List.set_cons_succ, List.set_set]
      refine RunsL.go tabOk fun J hJ => ?_
      simp only [go_sem, ↓reduceIte, Nat.reduceAdd, Nat.reduceSub, Nat.reduceMul, Nat.reduceLT, Nat.reduceLeDiff, Nat.reduceEqDiff, Nat.reduceBEq, Int.reduceToNat]
      try simp (disch := omega) only [wrap_id]
      refine hJ _ _ (RunsL.nil ?_); clear hJ J
      refine run_ ?_
      refine RunsA.rq tabOk fun J hJ => ?_
      simp only [go_sem, ↓reduceIte, Nat.reduceAdd, Nat.reduceSub, Nat.reduceMul, Nat.reduceLT, Nat.reduceLeDiff, Nat.reduceEqDiff, Nat.reduceBEq, Int.reduceToNat, hS.get, hEs, hEl, List.length_set]
      try simp (disch := omega) only [wrap_id]
      refine ⟨by omega, ?_⟩
      refine hJ _ _ (RunsL.call (ps := [0]) (rid := 8704) rfl rfl rfl rfl rfl (by simp only [go_sem, Nat.reduceEqDiff]; first | done | rfl) (ih n ms ks hmem (q ++ [(i, 2)]) rsz _ (k + SegV.cntL (l.take i) + 1 + ms.length) (hS.inG _ i 2 _ _ _ (hEs _) rfl) (hnb _ (noBoL_set hnE (by simp only [noBo, noBoL, noBo_strs, noBo_segs, Bool.and_self]))) (by omega) (by omega)) rfl (by decide) ⟨by decide, by decide, rfl⟩ (by first | exact .inl rfl | exact .inr (.inl rfl) | exact .inr (.inr rfl)) ?_); clear hJ J
      rintro r os' ros ⟨rfl, rfl, rfl⟩ _
      rw [hS.inS _ i 2 _ _ _ _ (hEs _) rfl]
      simp only [AV.setC, List.set_cons_zero, List.set_cons_succ, List.set_set]
      rw [show k + (SegV.cntL (l.take i) : Int) + 1 = k + SegV.cntL (l.take i) + 1 from rfl, hE2]
      refine RunsL.go tabOk fun J hJ => ?_
      simp only [go_sem, ↓reduceIte, Nat.reduceAdd, Nat.reduceSub, Nat.reduceMul, Nat.reduceLT, Nat.reduceLeDiff, Nat.reduceEqDiff, Nat.reduceBEq, Int.reduceToNat]
      try simp (disch := omega) only [wrap_id]
      refine hJ _ _ (RunsL.nil ?_); clear hJ J
      refine run_ ?_
      have e3 : k + (SegV.cntL (l.take i) : Int) + 1 + ms.length + SegV.cntL ks = k + SegV.cntL (l.take (i + 1)) := by omega
      rw [e3]
      exact hK3 (i + 1) _ (by omega) (by omega) rfl (by simp [SubS, lookS]) (by simp [SubO, lookO]) rfl
    · refine run_ ?_
      simp only [decide_eq_false_iff_not] at h2
      have : i = l.length := by omega
      subst this
      have e : (SegV.marks l k).take l.length ++ l.drop l.length = SegV.marks l k := by rw [List.drop_length, List.append_nil, List.take_of_length_le (by omega)]
      rw [e, List.take_length]
      exact RetA.mk tabOk 0 rfl rfl rfl (by omega) (by simp only [noBoO, Bool.and_true]; exact noBo_navSet _ _ _ hb (noBo_segs _)) rfl rfl ⟨rfl, by rw [hS.set], rfl⟩
  · exact Nat.zero_le _
  · simp [SubS, lookS, SegV.cntL]
  · simp [SubO, lookO]
theorem markSeg_ok (n : Str) (ms : List Str) (ks : List SegV) (k : Int) (h0 : 0 ≤ k) (hk : k + ms.length + SegV.cntL ks ≤ 4611686018427387904) :
    FnA Tryz.prog 9 true [.agg [.str n, .hd 0 [(0, 1)], .hd 0 [(0, 2)]], .int .i64 k] [(3, [.agg [.str n, .row .own 1 (strs ms), .row .own 3 (segsA .own ks)]])]
      (fun r os ros => r = .int .i64 (k + ms.length + SegV.cntL ks) ∧ os = [(3, [.agg [.str n, .row .own 1 (strs (markStrs ms k)), .row .own 3 (segsA .own (SegV.marks ks (k + ms.length)))]])] ∧ ros = []) := by
  refine FnA.of Tryz.func9 rfl (by decide) Tryz.ntmps9 (by simp) ?_
  refine run_ ?_
  refine RunsA.rq tabOk fun J hJ => ?_
  simp only [go_sem, ↓reduceIte, Nat.reduceAdd, Nat.reduceSub, Nat.reduceMul, Nat.reduceLT, Nat.reduceLeDiff, Nat.reduceEqDiff, Nat.reduceBEq, Int.reduceToNat]
  try simp (disch := omega) only [wrap_id]
  refine hJ _ _ (RunsL.call (ps := [0]) (rid := 2304) rfl rfl rfl rfl rfl (by simp only [go_sem, Nat.reduceEqDiff]; first | done | rfl) (markStringS_ok [(0, 1)] 3 _ ms k rfl (by simp only [noBo, noBoL, noBo_strs, noBo_segs, Bool.and_self]) (by omega) (by omega)) rfl (by decide) ⟨by decide, by decide, rfl⟩ (by first | exact .inl rfl | exact .inr (.inl rfl) | exact .inr (.inr rfl)) ?_); clear hJ J
  rintro r os' ros ⟨rfl, rfl, rfl⟩ _
  refine RunsL.go tabOk fun J hJ => ?_
  simp only [go_sem, ↓reduceIte, Nat.reduceAdd, Nat.reduceSub, Nat.reduceMul, Nat.reduceLT, Nat.reduceLeDiff, Nat.reduceEqDiff, Nat.reduceBEq, Int.reduceToNat]
  try simp (disch := omega) only [wrap_id]
  refine hJ _ _ (RunsL.nil ?_); clear hJ J
  refine run_ ?_
  refine RunsA.rq tabOk fun J hJ => ?_
  simp only [go_sem, ↓reduceIte, Nat.reduceAdd, Nat.reduceSub, Nat.reduceMul, Nat.reduceLT, Nat.reduceLeDiff, Nat.reduceEqDiff, Nat.reduceBEq, Int.reduceToNat]
  try simp (disch := omega) only [wrap_id]
  refine hJ _ _ (RunsL.call (ps := [0]) (rid := 3328) rfl rfl rfl rfl rfl (by simp only [go_sem, Nat.reduceEqDiff]; first | done | rfl) (markSegS_ok ks [(0, 2)] 3 _ (k + ms.length) rfl (by simp only [noBo, noBoL, noBo_strs, noBo_segs, Bool.and_self]) (by omega) (by omega)) rfl (by decide) ⟨by decide, by decide, rfl⟩ (by first | exact .inl rfl | exact .inr (.inl rfl) | exact .inr (.inr rfl)) ?_); clear hJ J
  rintro r os' ros ⟨rfl, rfl, rfl⟩ _
  refine RunsL.go tabOk fun J hJ => ?_
  simp only [go_sem, ↓reduceIte, Nat.reduceAdd, Nat.reduceSub, Nat.reduceMul, Nat.reduceLT, Nat.reduceLeDiff, Nat.reduceEqDiff, Nat.reduceBEq, Int.reduceToNat]
  try simp (disch := omega) only [wrap_id]
  refine hJ _ _ (RunsL.nil ?_); clear hJ J
  refine run_ ?_
  refine RetA.mk tabOk 0 rfl rfl rfl (by omega) (by simp [noBoO, noBo, noBoL, noBo_strs, noBo_segs, navSet, AV.cells, AV.setC]) rfl rfl ⟨rfl, rfl, rfl⟩
end Go.Proofs.YtiilnlihimdnlaaGreatDoorFw
namespace Go.Proofs.YtiilnlihimdnlaaGreatDoorFw
open Go Go.RowKit
mutual
def SegV.names : SegV → List Str
  | .mk n ms ks => n :: SegV.namesL ks
def SegV.namesL : List SegV → List Str
  | [] => []
  | s :: r => s.names ++ SegV.namesL r
end
theorem SegV.namesL_snoc : ∀ (l : List SegV) (i : Nat) (h : i < l.length), SegV.namesL (l.take (i + 1)) = SegV.namesL (l.take i) ++ l[i].names
  | s :: r, 0, h => by simp [SegV.namesL]
  | s :: r, i + 1, h => by
    simp only [List.take_succ_cons, SegV.namesL, List.getElem_cons_succ]
    rw [SegV.namesL_snoc r i (by simpa using h), List.append_assoc]
mutual
theorem SegV.names_len : ∀ s : SegV, s.names.length ≤ s.tot + 1
  | .mk n ms ks => by simp only [SegV.names, SegV.tot, List.length_cons]; have := SegV.namesL_len ks; omega
theorem SegV.namesL_len : ∀ l : List SegV, (SegV.namesL l).length ≤ SegV.totL l + l.length
  | [] => by simp [SegV.namesL]
  | s :: r => by simp only [SegV.namesL, SegV.totL, List.length_cons, List.length_append]; have := SegV.names_len s; have := SegV.namesL_len r; omega
end
theorem SegV.totL_take (l : List SegV) (i : Nat) : SegV.totL (l.take i) ≤ SegV.totL l := by
  induction l generalizing i with
  | nil => simp [SegV.totL]
  | cons s r ih =>
    cases i with
    | zero => simp [SegV.totL]
    | succ i => simp only [List.take_succ_cons, SegV.totL]; have := ih i; omega
theorem strs_app (a b : List Str) : strs a ++ strs b = strs (a ++ b) := by simp [strs]
theorem implSegs_ok : ∀ s : SegV, s.tot ≤ 1048576 → FnA Tryz.prog 59 false [segA .bo s] [] (fun r os ros => r = .hd 100 [] ∧ os = [] ∧ ros = [(1, strs s.names)]) := by
  refine SegV.ind fun n ms ks ih => ?_
  intro hf
  rw [SegV.tot, totS] at hf
  rw [segA_mk]
  refine FnA.of Tryz.func59 rfl (by decide) Tryz.ntmps59 (by simp) ?_
  refine run1_ @segsA_len ?_
  refine RunsA.loop ?_
  refine (LoopA.ind (fun i : Nat => ⟨22, [(3, .hd 2304 []), (10, .row .bo 3 (segsA .bo ks)), (11, .int .i64 (ks.length : Nat)), (12, .int .i64 i)], [⟨2304, 1, strs (n :: SegV.namesL (ks.take i))⟩], false⟩) (fun i => ks.length - i) (fun i => i ≤ ks.length) ?_ 0 ?_).sub rfl ?_ ?_ rfl
  · intro i hi K3 hK3
    refine run_ ?_
    refine RunsA.cond rfl (fun h2 => ?_) (fun h2 => ?_)
    · simp only [decide_eq_true_eq] at h2
      have hilt : i < ks.length := by omega
      have hg := segsA_get .bo hilt
      have hmem := List.getElem_mem hilt
      have hsn := SegV.namesL_snoc ks i hilt
      have hlen := SegV.namesL_len (ks.take i)
      have hl2 := SegV.names_len ks[i]
      have htm := SegV.totL_mem hmem
      have htt := SegV.totL_take ks i
      have htk : (ks.take i).length ≤ ks.length := by rw [List.length_take]; omega
      have HH := ih _ hmem
      generalize ks[i] = s at *
      obtain ⟨n', ms', ks'⟩ := s
      rw [segA_mk] at hg HH
      refine run1_ @hg ?_
      refine RunsA.rq tabOk fun J hJ => ?_
      simp only [go_sem, ↓reduceIte, Nat.reduceAdd, Nat.reduceSub, Nat.reduceMul, Nat.reduceLT, Nat.reduceLeDiff, Nat.reduceEqDiff, Nat.reduceBEq, Int.reduceToNat]
      try simp (disch := omega) only [wrap_id]
      refine hJ _ _ (RunsL.call (ps := []) (rid := 4864) rfl rfl rfl rfl rfl (by simp only [go_sem, Nat.reduceEqDiff]; first | done | rfl) (HH (by omega)) rfl (by decide) ⟨by decide, by decide, rfl⟩ (by first | exact .inl rfl | exact .inr (.inl rfl) | exact .inr (.inr rfl)) ?_); clear hJ J
      rintro r os' ros ⟨rfl, rfl, rfl⟩ _
      refine RunsL.go tabOk fun J hJ => ?_
      simp only [go_sem, ↓reduceIte, Nat.reduceAdd, Nat.reduceSub, Nat.reduceMul, Nat.reduceLT, Nat.reduceLeDiff, Nat.reduceEqDiff, Nat.reduceBEq, Int.reduceToNat, strs_app, strs_len]
      try simp (disch := omega) only [wrap_id]
      (repeat refine ⟨by omega, ?_⟩)
      refine hJ _ _ (RunsL.nil ?_); clear hJ J
      refine run_ ?_
      exact hK3 (i + 1) _ (by omega) (by omega) rfl (by simp [SubS, lookS]) (by simp [SubO, lookO, hsn]) rfl
    · refine run_ ?_
      simp only [decide_eq_false_iff_not] at h2
      have : i = ks.length := by omega
      subst this
      rw [List.take_length]
      refine RetA.v tabOk rfl ?_
      simp only [go_sem, ↓reduceIte, Nat.reduceAdd, Nat.reduceSub, Nat.reduceMul, Nat.reduceLT, Nat.reduceLeDiff, Nat.reduceEqDiff, Nat.reduceBEq, Int.reduceToNat]
      refine RetV.ren (id := 2304) (id' := 100) (by simp only [go_sem, ↓reduceIte, Nat.reduceAdd, Nat.reduceSub, Nat.reduceMul, Nat.reduceLT, Nat.reduceLeDiff, Nat.reduceEqDiff, Nat.reduceBEq, Int.reduceToNat]; rfl) ?_
      simp only [go_sem, ↓reduceIte, Nat.reduceAdd, Nat.reduceSub, Nat.reduceMul, Nat.reduceLT, Nat.reduceLeDiff, Nat.reduceEqDiff, Nat.reduceBEq, Int.reduceToNat]
      exact RetV.mk 1 rfl rfl (by omega) rfl (by simp [noBoO, noBo_strs]) rfl ⟨rfl, rfl, by rw [SegV.names]⟩
  · exact Nat.zero_le _
  · simp [SubS, lookS]
  · simp [SubO, lookO, SegV.namesL, strs]
end Go.Proofs.YtiilnlihimdnlaaGreatDoorFw
