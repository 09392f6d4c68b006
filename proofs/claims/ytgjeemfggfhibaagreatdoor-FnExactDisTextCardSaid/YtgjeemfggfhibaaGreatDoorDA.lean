/- Terms: how they are told; told apart. -/
import Derived.Test.YtgjeemfggfhibaaGreatDoorLA
import Derived.Test.YtgjeemfggfhibaaGreatDoorFwD
set_option linter.unusedVariables false
set_option linter.unusedSimpArgs false
set_option pp.deepTerms.threshold 6
set_option pp.deepTerms false
set_option maxRecDepth 4000
namespace Go.Proofs.YtgjeemfggfhibaaGreatDoorFw
open Go Go.RowKit
inductive ExprV where
  | mk (k n : Int) (s : Str) (l : List ExprV)
mutual
def exprA (m : Md) : ExprV → AV
  | .mk k n s l => .agg [.int .i64 k, .int .i64 n, .str s, .row m 4 (exprsA m l)]
def exprsA (m : Md) : List ExprV → List AV
  | [] => []
  | e :: r => exprA m e :: exprsA m r
end
theorem exprsA_eq (m : Md) (l : List ExprV) : exprsA m l = l.map (exprA m) := by induction l <;> simp [exprsA, *]
theorem exprsA_len (m : Md) (l : List ExprV) : (exprsA m l).length = l.length := by simp [exprsA_eq]
theorem exprsA_get (m : Md) {l : List ExprV} {i : Nat} (h : i < l.length) : (exprsA m l)[i]? = some (exprA m l[i]) := by simp [exprsA_eq, h]
theorem exprA_mk (m : Md) (k n : Int) (s : Str) (l : List ExprV) : exprA m (.mk k n s l) = .agg [.int .i64 k, .int .i64 n, .str s, .row m 4 (exprsA m l)] := by simp only [exprA]
mutual
theorem brw_expr : ∀ (m : Md) (e : ExprV), brw (exprA m e) = exprA .bo e
  | m, .mk k n s l => by simp only [exprA, brw, brwL, brw_exprs m l]
theorem brw_exprs : ∀ (m : Md) (l : List ExprV), brwL (exprsA m l) = exprsA .bo l
  | m, [] => rfl
  | m, e :: r => by simp only [exprsA, brwL, brw_expr m e, brw_exprs m r]
end
mutual
theorem noBo_expr : ∀ (e : ExprV), noBo (exprA .own e) = true
  | .mk k n s l => by simp only [exprA, noBo, noBoL, noBo_exprs l, Bool.and_self]
theorem noBo_exprs : ∀ (l : List ExprV), noBoL (exprsA .own l) = true
  | [] => rfl
  | e :: r => by simp only [exprsA, noBoL, noBo_expr e, noBo_exprs r, Bool.and_self]
end
mutual
def ExprV.tot : ExprV → Nat
  | .mk k n s l => s.length + (l.length + ExprV.totL l)
def ExprV.totL : List ExprV → Nat
  | [] => 0
  | e :: r => e.tot + ExprV.totL r
end
theorem ExprV.totL_mem : ∀ {l : List ExprV} {e : ExprV}, e ∈ l → e.tot ≤ ExprV.totL l
  | x :: r, s, h => by
    simp only [ExprV.totL]
    rcases List.mem_cons.1 h with e | e
    · subst e; omega
    · have := ExprV.totL_mem e; omega
theorem ExprV.ind {P : ExprV → Prop} (h : ∀ k n s l, (∀ e ∈ l, P e) → P (.mk k n s l)) : ∀ e, P e := by
  have key : ∀ (n : Nat) (s : ExprV), SizeOf.sizeOf s < n → P s := by
    intro n
    induction n with
    | zero => intro s hs; omega
    | succ n ih =>
      intro s hs
      cases s with
      | mk k a b l =>
        refine h k a b l fun e he => ih e ?_
        have h1 := List.sizeOf_lt_of_mem he
        simp only [ExprV.mk.sizeOf_spec] at hs
        omega
  exact fun s => key (SizeOf.sizeOf s + 1) s (by omega)
open Classical in
noncomputable instance : DecidableEq ExprV := fun a b => inferInstance
end Go.Proofs.YtgjeemfggfhibaaGreatDoorFw
namespace Go.Proofs.YtgjeemfggfhibaaGreatDoorFw
open Go Go.RowKit
mutual
def ExprV.cnt : ExprV → Nat
  | .mk k n s l => 3 + ExprV.cntL l
def ExprV.cntL : List ExprV → Nat
  | [] => 0
  | s :: r => s.cnt + ExprV.cntL r
end
end Go.Proofs.YtgjeemfggfhibaaGreatDoorFw
namespace Go.Proofs.YtgjeemfggfhibaaGreatDoorFw
open Go Go.RowKit
end Go.Proofs.YtgjeemfggfhibaaGreatDoorFw
namespace Go.Proofs.YtgjeemfggfhibaaGreatDoorFw
open Go Go.RowKit
inductive LineV where
  | mk (k : Int) (s : Str) (op : Int) (sf sr sk sn : Int) (ss : Str) (sl : List ExprV) (df dr dk dn : Int) (ds : Str) (dl : List ExprV) (n : Int) (l : List ExprV)
def lineA (m : Md) : LineV → AV
  | .mk k s op sf sr sk sn ss sl df dr dk dn ds dl n l => .agg [.int .i64 k, .str s, .int .i64 op, .int .i64 sf, .int .i64 sr, .int .i64 sk, .int .i64 sn, .str ss, .row m 4 (exprsA m sl),
      .int .i64 df, .int .i64 dr, .int .i64 dk, .int .i64 dn, .str ds, .row m 4 (exprsA m dl), .int .i64 n, .row m 4 (exprsA m l)]
theorem lineA_mk (m : Md) (k : Int) (s : Str) (op : Int) (sf sr sk sn : Int) (ss : Str) (sl : List ExprV) (df dr dk dn : Int) (ds : Str) (dl : List ExprV) (n : Int) (l : List ExprV) :
    lineA m (.mk k s op sf sr sk sn ss sl df dr dk dn ds dl n l) = .agg [.int .i64 k, .str s, .int .i64 op, .int .i64 sf, .int .i64 sr, .int .i64 sk, .int .i64 sn, .str ss, .row m 4 (exprsA m sl),
      .int .i64 df, .int .i64 dr, .int .i64 dk, .int .i64 dn, .str ds, .row m 4 (exprsA m dl), .int .i64 n, .row m 4 (exprsA m l)] := rfl
def LineV.tot : LineV → Nat
  | .mk k s op sf sr sk sn ss sl df dr dk dn ds dl n l => s.length + ((ExprV.mk sk sn ss sl).tot + ((ExprV.mk dk dn ds dl).tot + (l.length + ExprV.totL l)))
open Classical in
noncomputable instance : DecidableEq LineV := fun a b => inferInstance
theorem brw_line (m : Md) (x : LineV) : brw (lineA m x) = lineA .bo x := by
  obtain ⟨k, s, op, sf, sr, sk, sn, ss, sl, df, dr, dk, dn, ds, dl, n, l⟩ := x
  simp only [lineA, brw, brwL, brw_exprs]
theorem noBo_line (x : LineV) : noBo (lineA .own x) = true := by
  obtain ⟨k, s, op, sf, sr, sk, sn, ss, sl, df, dr, dk, dn, ds, dl, n, l⟩ := x
  simp only [lineA, noBo, noBoL, noBo_exprs, Bool.and_self]
end Go.Proofs.YtgjeemfggfhibaaGreatDoorFw
