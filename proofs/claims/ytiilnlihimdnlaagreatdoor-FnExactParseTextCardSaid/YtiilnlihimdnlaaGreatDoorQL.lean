/- Pure facts on lists and values, and how data is told as abstract values. -/
import Derived.Test.YtiilnlihimdnlaaGreatDoorTab
set_option linter.unusedVariables false
set_option linter.unusedSimpArgs false
set_option maxRecDepth 4000
namespace Go.Proofs.YtiilnlihimdnlaaGreatDoorFw
open Go Go.RowKit
abbrev Str := List UInt8
def strs (l : List Str) : List AV := l.map .str
theorem strs_len (l : List Str) : (strs l).length = l.length := by simp [strs]
theorem strs_get {l : List Str} {i : Nat} (h : i < l.length) : (strs l)[i]? = some (.str l[i]) := by simp [strs, h]
theorem take_snoc {α : Type} {l : List α} {i : Nat} (h : i < l.length) : l.take (i + 1) = l.take i ++ [l[i]] := by rw [List.take_add_one, List.getElem?_eq_getElem h]; rfl
theorem drop_get {α : Type} {l : List α} {i : Nat} (h : i < l.length) : l.drop i = l[i] :: l.drop (i + 1) := List.drop_eq_getElem_cons h
def fill (n : Nat) (done : List AV) (z : AV) : List AV := done ++ List.replicate (n - done.length) z
theorem fill_len {n : Nat} {done : List AV} {z : AV} (h : done.length ≤ n) : (fill n done z).length = n := by simp [fill]; omega
theorem fill_get {n : Nat} {done : List AV} {z : AV} (h : done.length < n) : (fill n done z)[done.length]? = some z := by
 simp [fill, List.getElem?_append_right, List.getElem?_replicate]; omega
theorem fill_set {n : Nat} {done : List AV} {z x : AV} (h : done.length < n) : (fill n done z).set done.length x = fill n (done ++ [x]) z := by
 have : n - done.length = (n - (done.length + 1)) + 1 := by omega
 simp only [fill, List.length_append, List.length_singleton, this, List.replicate_succ]
 rw [List.set_append_right _ _ (Nat.le_refl _)]
 simp
theorem fill_all {n : Nat} {done : List AV} {z : AV} (h : done.length = n) : fill n done z = done := by simp [fill, h]
theorem fill_nil {n : Nat} {z : AV} : fill n [] z = List.replicate n z := by simp [fill]
theorem noBo_strs (l : List Str) : noBoL (strs l) = true := by induction l <;> simp_all [strs, noBoL, noBo]
theorem brw_strs (l : List Str) : brwL (strs l) = strs l := by induction l <;> simp_all [strs, brwL, brw]
/-! ### ways into trees -/
theorem stripP_both : ∀ (p a b : Path), stripP (p ++ a) (p ++ b) = stripP a b
 | [], a, b => rfl
 | x :: p, a, b => by simp only [List.cons_append, stripP, if_true, stripP_both p a b]
theorem stripP_long (p r : Path) (x : Nat × Nat) : stripP (p ++ x :: r) p = none := by
 have := stripP_both p (x :: r) []
 rw [List.append_nil] at this
 rw [this]; rfl
attribute [go_sem] stripP_both stripP_long Prod.mk.injEq maxLen
theorem navSet_set : ∀ (q : Path) (res : List AV) (rsz sz : Nat) (es a b : List AV), navG res rsz q = some (sz, es) → navSet (navSet res q a) q b = navSet res q b := by
 intro q
 induction q with
 | nil => intro res rsz sz es a b h; rfl
 | cons ik q ih =>
  obtain ⟨i, k⟩ := ik
  intro res rsz sz es a b h
  simp only [navG] at h
  cases hx : res[i]? with
  | none => simp [hx] at h
  | some x =>
   cases hy : x.cells[k]? with
   | none => simp [hx, hy] at h
   | some y =>
    simp only [hx, hy] at h
    split at h
    ·rename_i sz2 es2 he
     obtain rfl := Option.some.inj he
     simp only [navSet, hx, hy]
     rw [List.getElem?_set_self (lt_of_get hx)]
     simp only [setC_cells _ _ _ (row_cells _ _ _) (lt_of_get hy), if_true, List.set_set]
     rw [ih _ _ _ _ _ _ h]
     congr 1
     cases x with
     | agg cs => simp only [AV.setC, List.set_set]
     | _ => rfl
    ·simp at h
theorem navSet_self : ∀ (q : Path) (res : List AV) (rsz sz : Nat) (es : List AV), navG res rsz q = some (sz, es) → navSet res q es = res := by
 intro q
 induction q with
 | nil => intro res rsz sz es h; simp only [navG, Option.some.injEq, Prod.mk.injEq] at h; exact h.2.symm
 | cons ik q ih =>
  obtain ⟨i, k⟩ := ik
  intro res rsz sz es h
  simp only [navG] at h
  cases hx : res[i]? with
  | none => simp [hx] at h
  | some x =>
   cases hy : x.cells[k]? with
   | none => simp [hx, hy] at h
   | some y =>
    simp only [hx, hy] at h
    split at h
    ·rename_i sz2 es2 he
     obtain rfl := Option.some.inj he
     simp only [navSet, hx, hy]
     rw [ih _ _ _ _ h]
     have hxx : x.setC k (.row .own sz2 es2) = x := by
      cases x with
      | agg cs =>
       simp only [AV.setC, AV.cells] at hy ⊢
       congr 1
       apply List.ext_getElem?
       intro j
       by_cases hj : k = j
       ·subst hj; rw [List.getElem?_set_self (lt_of_get hy), hy]
       ·rw [List.getElem?_set_ne hj]
      | row m sz es => cases k <;> simp only [AV.cells, List.getElem?_cons_zero, List.getElem?_cons_succ, List.getElem?_nil, Option.some.injEq, reduceCtorEq] at hy; rw [hy]; rfl
      | _ => cases k <;> simp [AV.cells] at hy
     rw [hxx]
     apply List.ext_getElem?
     intro j
     by_cases hj : i = j
     ·subst hj; rw [List.getElem?_set_self (lt_of_get hx), hx]
     ·rw [List.getElem?_set_ne hj]
    ·simp at h
theorem navG_app : ∀ (q : Path) (res : List AV) (rsz sz : Nat) (es : List AV) (i k : Nat) (x : AV) (sz' : Nat) (es' : List AV), navG res rsz q = some (sz, es) → es[i]? = some x → x.cells[k]? = some (.row .own sz' es') →
 navG res rsz (q ++ [(i, k)]) = some (sz', es') ∧ ∀ new, navSet res (q ++ [(i, k)]) new = navSet res q (es.set i (x.setC k (.row .own sz' new))) := by
 intro q
 induction q with
 | nil =>
  intro res rsz sz es i k x sz' es' h hx hy
  simp only [navG, Option.some.injEq, Prod.mk.injEq] at h
  obtain ⟨rfl, rfl⟩ := h
  simp only [List.nil_append, navG, navSet, hx, hy, true_and, implies_true]
 | cons ik q ih =>
  obtain ⟨i0, k0⟩ := ik
  intro res rsz sz es i k x sz' es' h hx hy
  simp only [navG] at h
  cases hx0 : res[i0]? with
  | none => simp [hx0] at h
  | some x0 =>
   cases hy0 : x0.cells[k0]? with
   | none => simp [hx0, hy0] at h
   | some y0 =>
    simp only [hx0, hy0] at h
    split at h
    ·rename_i sz2 es2 he
     obtain rfl := Option.some.inj he
     obtain ⟨h1, h2⟩ := ih _ _ _ _ i k x sz' es' h hx hy
     simp only [List.cons_append, navG, navSet, hx0, hy0]
     exact ⟨h1, fun new => by rw [h2]⟩
    ·simp at h
structure Spot (res : List AV) (rsz : Nat) (q : Path) (sz : Nat) : Prop where
 get : ∀ es, navG (navSet res q es) rsz q = some (sz, es)
 set : ∀ a b, navSet (navSet res q a) q b = navSet res q b
 inG : ∀ (E : List AV) (i k : Nat) (x : AV) (sz' : Nat) (es' : List AV), E[i]? = some x → x.cells[k]? = some (.row .own sz' es') → navG (navSet res q E) rsz (q ++ [(i, k)]) = some (sz', es')
 inS : ∀ (E : List AV) (i k : Nat) (x : AV) (sz' : Nat) (es' new : List AV), E[i]? = some x → x.cells[k]? = some (.row .own sz' es') → navSet (navSet res q E) (q ++ [(i, k)]) new = navSet res q (E.set i (x.setC k (.row .own sz' new)))
theorem Spot.of {res : List AV} {rsz : Nat} {q : Path} {sz : Nat} {es : List AV} (h : navG res rsz q = some (sz, es)) : Spot res rsz q sz where
 get := fun es' => navG_set q res rsz sz es es' h
 set := fun a b => navSet_set q res rsz sz es a b h
 inG := fun E i k x sz' es' hx hy => (navG_app q _ rsz sz E i k x sz' es' (navG_set q res rsz sz es E h) hx hy).1
 inS := fun E i k x sz' es' new hx hy => by
  rw [(navG_app q _ rsz sz E i k x sz' es' (navG_set q res rsz sz es E h) hx hy).2, navSet_set q res rsz sz es _ _ h]
theorem noBoL_all {l : List AV} : noBoL l = true ↔ ∀ x ∈ l, noBo x = true := by
 induction l with
 | nil => simp [noBoL]
 | cons x r ih => simp [noBoL, ih]
theorem noBoL_set {l : List AV} {i : Nat} {x : AV} (h : noBoL l = true) (hx : noBo x = true) : noBoL (l.set i x) = true := by
 rw [noBoL_all] at h ⊢
 intro y hy
 rcases List.mem_or_eq_of_mem_set hy with h1 | h1
 ·exact h y h1
 ·rw [h1]; exact hx
theorem noBo_setC {x c : AV} {k : Nat} (hx : noBo x = true) (hc : noBo c = true) : noBo (x.setC k c) = true := by
 cases x with
 | agg cs =>
  simp only [AV.setC, noBo] at hx ⊢
  rw [noBoL_all] at hx ⊢
  intro y hy
  rcases List.mem_or_eq_of_mem_set hy with h | h
  ·exact hx y h
  ·rw [h]; exact hc
 | _ => exact hc
theorem noBo_navSet : ∀ (q : Path) (res new : List AV), noBoL res = true → noBoL new = true → noBoL (navSet res q new) = true := by
 intro q
 induction q with
 | nil => intro res new h1 h2; exact h2
 | cons ik q ih =>
  obtain ⟨i, k⟩ := ik
  intro res new h1 h2
  simp only [navSet]
  split
  ·rename_i x hx
   split
   ·rename_i sz' es' hy
    have hnx := noBoL_get h1 hx
    have hny := noBo_cells hnx hy
    rw [noBoL_all] at h1 ⊢
    intro y hy2
    rcases List.mem_or_eq_of_mem_set hy2 with h | h
    ·exact h1 y h
    ·rw [h]
     refine noBo_setC hnx ?_
     simp only [noBo] at hny ⊢
     exact ih _ _ hny h2
   ·exact h1
  ·exact h1
theorem half_get {α : Type} {m l : List α} {i : Nat} (h : m.length = l.length) (hi : i < l.length) : (m.take i ++ l.drop i)[i]? = some l[i] := by
 rw [List.getElem?_append_right (by simp; omega), List.length_take, Nat.min_eq_left (by omega), Nat.sub_self, drop_get hi]; rfl
theorem half_set {α : Type} {m l : List α} {i : Nat} {x : α} (h : m.length = l.length) (hi : i < l.length) (hx : m[i]? = some x) : (m.take i ++ l.drop i).set i x = m.take (i + 1) ++ l.drop (i + 1) := by
 have hl : (m.take i).length = i := by rw [List.length_take]; omega
 rw [List.set_append_right _ _ (by omega), hl, Nat.sub_self, drop_get hi, List.set_cons_zero, List.take_add_one, hx]
 simp
theorem half_len {α : Type} {m l : List α} {i : Nat} (h : m.length = l.length) (hi : i ≤ l.length) : (m.take i ++ l.drop i).length = l.length := by simp; omega
def totL : List Str → Nat
 | [] => 0
 | s :: r => s.length + totL r
def totS (l : List Str) : Nat := l.length + totL l
def digs (k : Nat) (acc : Str) : Str :=
 if h : k = 0 then acc else digs (k / 10) (UInt8.ofNat (48 + k % 10) :: acc)
termination_by k
decreasing_by omega
def markTxt (k : Int) : Str := if k ≤ 0 then [109, 48] else 109 :: digs k.toNat []
theorem digs_pos {k : Nat} {acc : Str} (h : k ≠ 0) : digs k acc = digs (k / 10) (UInt8.ofNat (48 + k % 10) :: acc) := by rw [digs, dif_neg h]
theorem digs_zero (acc : Str) : digs 0 acc = acc := by rw [digs, dif_pos rfl]
theorem tmod_nn {k : Int} (h : 0 ≤ k) : Int.tmod k 10 = k % 10 := Int.tmod_eq_emod_of_nonneg h
theorem tdiv_nn {k : Int} (h : 0 ≤ k) : Int.tdiv k 10 = k / 10 := Int.tdiv_eq_ediv_of_nonneg h
theorem u8_wrap {n : Int} (h0 : 0 ≤ n) (h1 : n < 256) : IntKind.u8.wrap n = n := by unfold IntKind.wrap; simp [IntKind.bits, IntKind.signed]; omega
end Go.Proofs.YtiilnlihimdnlaaGreatDoorFw
namespace Go.Proofs.YtiilnlihimdnlaaGreatDoorFw
open Go Go.RowKit
theorem markText_ok (k : Int) (h0 : 0 ≤ k) (h1 : k ≤ 4611686018427387904) :
 FnA Tryz.prog 45 false [.int .i64 k] [] (fun r os ros => r = .str (markTxt k) ∧ os = [] ∧ ros = []) := by
 refine FnA.of Tryz.func45 rfl (by decide) Tryz.ntmps45 (by simp) ?_
 refine run_ ?_
 refine RunsA.cond rfl (fun h => ?_) (fun h => ?_)
 ·simp only [decide_eq_true_eq] at h
  refine run_ ?_
  exact RetA.mk tabOk 0 rfl rfl rfl (by omega) rfl rfl rfl (by simp [res1, markTxt, h])
 ·simp only [decide_eq_false_iff_not] at h
  refine run_ ?_
  refine RunsA.loop ?_
  refine (LoopA.ind (fun p : Nat × Str => ⟨20, [(0, .int .i64 p.1), (3, .str p.2)], [], false⟩) (fun p => p.1) (fun p => p.2.length + p.1 ≤ 4611686018427387904 ∧ digs p.1 p.2 = digs k.toNat []) ?_ (k.toNat, []) ?_).sub rfl ?_ ?_ rfl
  ·rintro ⟨n, acc⟩ ⟨hn, hd⟩ K3 hK3
   simp only at hn hd
   refine run_ ?_
   refine RunsA.cond rfl (fun h2 => ?_) (fun h2 => ?_)
   ·simp only [decide_eq_true_eq] at h2
    repeat (first | refine RunsA.sq ?_ | refine RunsA.bk ?_ | refine RunsA.sk ?_ | refine RunsA.ex ?_ | refine RunsA.rt ?_ | refine At.n ?_ | refine At.x ?_ | refine At.r ?_ | refine At.bn ?_ | refine At.br ?_ | refine At.bx ?_ | refine At.by_ rfl ?_ | refine At.kx ?_ | refine At.kr ?_ | refine At.kn ?_ | refine At.er ?_ | refine At.en ?_ | (refine RunsA.rq tabOk fun J hJ => ?_; simp only [go_sem, ↓reduceIte, Nat.reduceAdd, Nat.reduceSub, Nat.reduceMul, Nat.reduceLT, Nat.reduceLeDiff, Nat.reduceEqDiff, Nat.reduceBEq, Int.reduceToNat, tmod_nn (show (0 : Int) ≤ (n : Int) by omega), tdiv_nn (show (0 : Int) ≤ (n : Int) by omega)]; (try simp (disch := omega) only [wrap_id]); (repeat refine ⟨by omega, ?_⟩); refine hJ _ _ (RunsL.nil ?_); clear hJ J) | (refine RunsA.dq mixed tabOk (by kernel_rfl) fun J hJ => ?_; simp only [go_sem, ↓reduceIte, Nat.reduceAdd, Nat.reduceSub, Nat.reduceMul, Nat.reduceLT, Nat.reduceLeDiff, Nat.reduceEqDiff, Nat.reduceBEq, Int.reduceToNat, tmod_nn (show (0 : Int) ≤ (n : Int) by omega), tdiv_nn (show (0 : Int) ≤ (n : Int) by omega)]; (try simp (disch := omega) only [wrap_id]); (repeat refine ⟨by omega, ?_⟩); refine hJ _ _ (QRuns.nil ?_); clear hJ J))
    rw [digs_pos (by omega)] at hd
    have e1 : IntKind.u8.wrap (48 + (n : Int) % 10) = ((48 + n % 10 : Nat) : Int) := by rw [u8_wrap (by omega) (by omega)]; omega
    have e2 : (n : Int) / 10 = ((n / 10 : Nat) : Int) := by omega
    rw [e1, e2, Int.toNat_natCast]
    exact hK3 (n / 10, _) _ ⟨by simp only [List.length_cons]; omega, hd⟩ (by simp only; omega) rfl (by simp [SubS, lookS]) trivial rfl
   ·refine run_ ?_
    simp only [decide_eq_false_iff_not] at h2
    have : n = 0 := by omega
    subst this
    rw [digs_zero] at hd
    exact RetA.mk tabOk 0 rfl rfl rfl (by omega) rfl rfl rfl (by simp [res1, markTxt, h, hd])
  ·exact ⟨by simp; omega, rfl⟩
  ·simp only [Int.toNat_of_nonneg h0]; simp [SubS, lookS]
  ·trivial
def markStrs : List Str → Int → List Str
 | [], _ => []
 | _ :: r, k => markTxt k :: markStrs r (k + 1)
end Go.Proofs.YtiilnlihimdnlaaGreatDoorFw
namespace Go.Proofs.YtiilnlihimdnlaaGreatDoorFw
open Go Go.RowKit
inductive SegV where
 | mk (name : Str) (mods : List Str) (kids : List SegV)
mutual
def SegV.tot : SegV → Nat
 | .mk n ms ks => n.length + totS ms + (ks.length + SegV.totL ks)
def SegV.totL : List SegV → Nat
 | [] => 0
 | s :: r => s.tot + SegV.totL r
end
end Go.Proofs.YtiilnlihimdnlaaGreatDoorFw
namespace Go.Proofs.YtiilnlihimdnlaaGreatDoorFw
open Go Go.RowKit
open Classical in
noncomputable instance : DecidableEq SegV := fun a b => inferInstance
end Go.Proofs.YtiilnlihimdnlaaGreatDoorFw
namespace Go.Proofs.YtiilnlihimdnlaaGreatDoorFw
open Go Go.RowKit
mutual
def SegV.cnt : SegV → Nat
 | .mk n ms ks => 1 + ms.length + SegV.cntL ks
def SegV.cntL : List SegV → Nat
 | [] => 0
 | s :: r => s.cnt + SegV.cntL r
end
mutual
def SegV.mark : SegV → Int → SegV
 | .mk n ms ks, k => .mk (markTxt k) (markStrs ms (k + 1)) (SegV.marks ks (k + 1 + ms.length))
def SegV.marks : List SegV → Int → List SegV
 | [], _ => []
 | s :: r, k => s.mark k :: SegV.marks r (k + s.cnt)
end
end Go.Proofs.YtiilnlihimdnlaaGreatDoorFw
namespace Go.Proofs.YtiilnlihimdnlaaGreatDoorFw
open Go Go.RowKit
end Go.Proofs.YtiilnlihimdnlaaGreatDoorFw
