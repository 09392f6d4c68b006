/- Pure facts on lists and values, and how data is told as abstract values. -/
import Derived.Test.YtinhdeocgchncaaTab
namespace Go.Proofs.YtinhdeocgchncaaFw
open Go Go.RowKit
set_option linter.unusedVariables false
set_option linter.unusedSimpArgs false

abbrev Str := List UInt8
def strs (l : List Str) : List AV := l.map .str
def nums (l : List Int) : List AV := l.map (.int .i64)

theorem strs_len (l : List Str) : (strs l).length = l.length := by simp [strs]
theorem strs_get {l : List Str} {i : Nat} (h : i < l.length) : (strs l)[i]? = some (.str l[i]) := by simp [strs, h]
theorem nums_len (l : List Int) : (nums l).length = l.length := by simp [nums]
theorem nums_get {l : List Int} {i : Nat} (h : i < l.length) : (nums l)[i]? = some (.int .i64 l[i]) := by simp [nums, h]

theorem take_snoc {α : Type} {l : List α} {i : Nat} (h : i < l.length) : l.take (i + 1) = l.take i ++ [l[i]] := by rw [List.take_add_one, List.getElem?_eq_getElem h]; rfl
theorem drop_get {α : Type} {l : List α} {i : Nat} (h : i < l.length) : l.drop i = l[i] :: l.drop (i + 1) := List.drop_eq_getElem_cons h

theorem noBo_strs (l : List Str) : noBoL (strs l) = true := by induction l <;> simp_all [strs, noBoL, noBo]
theorem noBo_nums (l : List Int) : noBoL (nums l) = true := by induction l <;> simp_all [nums, noBoL, noBo]
theorem brw_strs (l : List Str) : brwL (strs l) = strs l := by induction l <;> simp_all [strs, brwL, brw]
theorem brw_nums (l : List Int) : brwL (nums l) = nums l := by induction l <;> simp_all [nums, brwL, brw]

/-! ### ways into trees -/
theorem stripP_both : ∀ (p a b : Path), stripP (p ++ a) (p ++ b) = stripP a b
  | [], a, b => rfl
  | x :: p, a, b => by simp only [List.cons_append, stripP, if_true, stripP_both p a b]
theorem stripP_long (p r : Path) (x : Nat × Nat) : stripP (p ++ x :: r) p = none := by
  have := stripP_both p (x :: r) []
  rw [List.append_nil] at this
  rw [this]; rfl
attribute [go_sem] stripP_both stripP_long Prod.mk.injEq maxLen

/-- A row within an object: what is read and written there, in short. -/
structure Spot (res : List AV) (rsz : Nat) (q : Path) (sz : Nat) : Prop where
  get : ∀ es, navG (navSet res q es) rsz q = some (sz, es)
  set : ∀ a b, navSet (navSet res q a) q b = navSet res q b
  inG : ∀ (E : List AV) (i k : Nat) (x : AV) (sz' : Nat) (es' : List AV), E[i]? = some x → x.cells[k]? = some (.row .own sz' es') → navG (navSet res q E) rsz (q ++ [(i, k)]) = some (sz', es')
  inS : ∀ (E : List AV) (i k : Nat) (x : AV) (sz' : Nat) (es' new : List AV), E[i]? = some x → x.cells[k]? = some (.row .own sz' es') → navSet (navSet res q E) (q ++ [(i, k)]) new = navSet res q (E.set i (x.setC k (.row .own sz' new)))

def totL : List Str → Nat
  | [] => 0
  | s :: r => s.length + totL r
def totS (l : List Str) : Nat := l.length + totL l

end Go.Proofs.YtinhdeocgchncaaFw
