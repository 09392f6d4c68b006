/- Pure facts on lists and values, and how data is told as abstract values. -/
import Derived.Test.YtgjeemfggfhibaaGreatDoorTab
set_option linter.unusedVariables false
set_option linter.unusedSimpArgs false
set_option pp.deepTerms.threshold 6
set_option pp.deepTerms false
set_option maxRecDepth 4000
namespace Go.Proofs.YtgjeemfggfhibaaGreatDoorFw
open Go Go.RowKit
abbrev Str := List UInt8
def strs (l : List Str) : List AV := l.map .str
def nums (l : List Int) : List AV := l.map (.int .i64)
theorem strs_len (l : List Str) : (strs l).length = l.length := by simp [strs]
theorem strs_get {l : List Str} {i : Nat} (h : i < l.length) : (strs l)[i]? = some (.str l[i]) := by simp [strs, h]
theorem nums_len (l : List Int) : (nums l).length = l.length := by simp [nums]
theorem nums_get {l : List Int} {i : Nat} (h : i < l.length) : (nums l)[i]? = some (.int .i64 l[i]) := by simp [nums, h]
theorem take_snoc {α : Type} {l : List α} {i : Nat} (h : i < l.length) : l.take (i + 1) = l.take i ++ [l[i]] := by rw [List.take_add_one, List.getElem?_eq_getElem h]; rfl
theorem drop_get {α : Type} {l : List α} {i : Nat} (h : i < l.length) : l.drop i = l[i] :: l.drop (i + 1) := List.drop_eq_getElem_cons h
def fill (n : Nat) (done : List AV) (z : AV) : List AV := done ++ List.replicate (n - done.length) z
theorem fill_len {n : Nat} {done : List AV} {z : AV} (h : done.length ≤ n) : (fill n done z).length = n := by simp [fill]; omega
theorem fill_get {n : Nat} {done : List AV} {z : AV} (h : done.length < n) : (fill n done z)[done.length]? = some z := by
  simp [fill, List.getElem?_append_right, List.getElem?_replicate]; omega
theorem fill_set {n : Nat} {done : List AV} {z x : AV} (h : done.length < n) : (fill n done z).set done.length x = fill n (done ++ [x]) z := by
  have : n - done.length = (n - (done.length + 1)) + 1 := by omega
  simp only [fill, List.length_append, List.length_singleton, this, List.replicate_succ]
  rw [List.set_append_right _ _ (Nat.le_refl _)]
  simp
theorem fill_all {n : Nat} {done : List AV} {z : AV} (h : done.length = n) : fill n done z = done := by simp [fill, h]
theorem fill_nil {n : Nat} {z : AV} : fill n [] z = List.replicate n z := by simp [fill]
theorem noBo_nums (l : List Int) : noBoL (nums l) = true := by induction l <;> simp_all [nums, noBoL, noBo]
theorem brw_strs (l : List Str) : brwL (strs l) = strs l := by induction l <;> simp_all [strs, brwL, brw]
theorem brw_nums (l : List Int) : brwL (nums l) = nums l := by induction l <;> simp_all [nums, brwL, brw]
/-! ### ways into trees -/
theorem stripP_both : ∀ (p a b : Path), stripP (p ++ a) (p ++ b) = stripP a b
  | [], a, b => rfl
  | x :: p, a, b => by simp only [List.cons_append, stripP, if_true, stripP_both p a b]
theorem stripP_long (p r : Path) (x : Nat × Nat) : stripP (p ++ x :: r) p = none := by
  have := stripP_both p (x :: r) []
  rw [List.append_nil] at this
  rw [this]; rfl
attribute [go_sem] stripP_both stripP_long Prod.mk.injEq maxLen
structure Spot (res : List AV) (rsz : Nat) (q : Path) (sz : Nat) : Prop where
  get : ∀ es, navG (navSet res q es) rsz q = some (sz, es)
  set : ∀ a b, navSet (navSet res q a) q b = navSet res q b
  inG : ∀ (E : List AV) (i k : Nat) (x : AV) (sz' : Nat) (es' : List AV), E[i]? = some x → x.cells[k]? = some (.row .own sz' es') → navG (navSet res q E) rsz (q ++ [(i, k)]) = some (sz', es')
  inS : ∀ (E : List AV) (i k : Nat) (x : AV) (sz' : Nat) (es' new : List AV), E[i]? = some x → x.cells[k]? = some (.row .own sz' es') → navSet (navSet res q E) (q ++ [(i, k)]) new = navSet res q (E.set i (x.setC k (.row .own sz' new)))
theorem strs_get' {l : List Str} {i : Nat} {x : Str} (h : l[i]? = some x) : (strs l)[i]? = some (.str x) := by simp [strs, h]
def totL : List Str → Nat
  | [] => 0
  | s :: r => s.length + totL r
def totS (l : List Str) : Nat := l.length + totL l
end Go.Proofs.YtgjeemfggfhibaaGreatDoorFw
namespace Go.Proofs.YtgjeemfggfhibaaGreatDoorFw
open Go Go.RowKit
end Go.Proofs.YtgjeemfggfhibaaGreatDoorFw
namespace Go.Proofs.YtgjeemfggfhibaaGreatDoorFw
open Go Go.RowKit
inductive SegV where
  | mk (name : Str) (mods : List Str) (kids : List SegV)
mutual
def SegV.tot : SegV → Nat
  | .mk n ms ks => n.length + totS ms + (ks.length + SegV.totL ks)
def SegV.totL : List SegV → Nat
  | [] => 0
  | s :: r => s.tot + SegV.totL r
end
end Go.Proofs.YtgjeemfggfhibaaGreatDoorFw
namespace Go.Proofs.YtgjeemfggfhibaaGreatDoorFw
open Go Go.RowKit
open Classical in
noncomputable instance : DecidableEq SegV := fun a b => inferInstance
end Go.Proofs.YtgjeemfggfhibaaGreatDoorFw
namespace Go.Proofs.YtgjeemfggfhibaaGreatDoorFw
open Go Go.RowKit
mutual
def SegV.cnt : SegV → Nat
  | .mk n ms ks => 1 + ms.length + SegV.cntL ks
def SegV.cntL : List SegV → Nat
  | [] => 0
  | s :: r => s.cnt + SegV.cntL r
end
end Go.Proofs.YtgjeemfggfhibaaGreatDoorFw
namespace Go.Proofs.YtgjeemfggfhibaaGreatDoorFw
open Go Go.RowKit
theorem strs_app (a b : List Str) : strs a ++ strs b = strs (a ++ b) := by simp [strs]
end Go.Proofs.YtgjeemfggfhibaaGreatDoorFw
