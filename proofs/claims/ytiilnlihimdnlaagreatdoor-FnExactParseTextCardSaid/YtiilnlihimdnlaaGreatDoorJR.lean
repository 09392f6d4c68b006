/- The law FnExactParseLine, walked. -/
import Derived.Test.YtiilnlihimdnlaaGreatDoorJQ
import Derived.Test.YtiilnlihimdnlaaGreatDoorQM
namespace Go.Proofs.YtiilnlihimdnlaaGreatDoorFw
open Go Go.RowKit
set_option linter.unusedVariables false
set_option linter.unusedSimpArgs false
set_option maxRecDepth 4000
mutual
theorem ExprV.cnt_tot : ∀ s : ExprV, s.cnt ≤ 3 + 3 * s.tot
 | .mk k n s l => by
  have := ExprV.cntL_tot l
  simp only [ExprV.cnt, ExprV.tot]
  omega
theorem ExprV.cntL_tot : ∀ l : List ExprV, ExprV.cntL l ≤ 3 * l.length + 3 * ExprV.totL l
 | [] => by simp [ExprV.cntL]
 | s :: r => by
  have := ExprV.cnt_tot s
  have := ExprV.cntL_tot r
  simp only [ExprV.cntL, ExprV.totL, List.length_cons]
  omega
end
theorem LineV.cnt_tot (x : LineV) : x.cnt ≤ 3 * x.tot := by
 obtain ⟨kk, ss, oo, sf, sr, sk, sn, st, sl, df, dr, dk, dn, dt, dl, nn, ll⟩ := x
 have h1 := ExprV.cntL_tot sl
 have h2 := ExprV.cntL_tot dl
 have h3 := ExprV.cntL_tot ll
 simp only [LineV.cnt, LineV.tot, ExprV.tot]
 omega
theorem parseLineV_small (s : Str) : ((parseLineV s).getD zeroL).tot ≤ 6400 := by
 cases e : parseLineV s with
 | none => exact Nat.zero_le _
 | some x => exact parseLineV_tot e
set_option maxHeartbeats 16000000 in
theorem lawParseLine_ok (s : Str) : FnA Tryz.prog 4 false [.str s] [] (fun r os ros => r = .bool true ∧ os = [] ∧ ros = []) := by
 refine FnA.of Tryz.func4 rfl (by decide) Tryz.ntmps4 (by simp) ?_
 refine run_ ?_
 refine RunsA.cond rfl (fun h => ?_) (fun h => ?_)
 ·refine run_ ?_
  exact RetA.mk tabOk 0 rfl rfl rfl (by omega) rfl rfl rfl ⟨rfl, rfl, rfl⟩
 have hl : s.length ≤ 1048576 := by
  have : (s.length : Int) ≤ 1048576 := by simpa using h
  omega
 have hS := parseLineS_ok s hl
 have hI := parseLineI_ok s hl
 have ht := parseLineV_small s
 unfold PLR at hS hI
 generalize (parseLineV s).isSome = ok at *
 generalize (parseLineV s).getD zeroL = x at *
 have hc := LineV.cnt_tot x
 have hE := eqLine_ok x (by omega) x
 have hH := heldLine_ok x 1 (by omega) (by omega)
 obtain ⟨k, s, o, sf, sg, sk, sn, ss, sl, df, dg, dk, dn, ds, dl, nn, l⟩ := x
 have hM := markLine_ok k s o sf sg sk sn ss sl df dg dk dn ds dl nn l 1 (by omega) (by omega)
 generalize hcc : (LineV.mk k s o sf sg sk sn ss sl df dg dk dn ds dl nn l).cnt = cc at *
 simp only [lineR, lineO] at hS hI
 have e1 : (LineV.mk k s o sf sg sk sn ss sl df dg dk dn ds dl nn l).markIn 1 = .mk k s o sf sg sk sn ss (ExprV.marks sl 1) df dg dk dn ds (ExprV.marks dl (1 + ExprV.cntL sl)) nn (ExprV.marks l (1 + ExprV.cntL sl + ExprV.cntL dl)) := rfl
 rw [e1] at hM hH
 rw [lineA_mk] at hE hH hM
 rw [lineA_mk] at hM
 have eb : (ok != ok) = false := by cases ok <;> rfl
 clear h
 refine run_ ?_
 refine rg_ ?_
 refine call_ (ps := []) (rid := 4352) rfl rfl rfl rfl rfl (hS) ?_
 refine cr_ ?_
 refine run_ ?_
 refine rg_ ?_
 refine call_ (ps := []) (rid := 5632) rfl rfl rfl rfl rfl (hI) ?_
 refine cr_ ?_
 refine run_ ?_
 refine rg1_ @eb ?_
 refine call_ (ps := []) (rid := 16) (hy := by simp only [go_sem, Nat.reduceEqDiff, brw_exprs]; first | done | rfl) rfl rfl rfl rfl rfl (hE) ?_
 refine cr1_ @eb ?_
 refine run_ ?_
 refine RunsA.cond rfl (fun h => ?_) (fun h => ?_)
 ·simp at h
 refine run_ ?_
 refine rg_ ?_
 refine call_ (ps := [1536]) (rid := 16) rfl rfl rfl rfl rfl (hM) ?_
 refine cr_ ?_
 refine run_ ?_
 refine rg_ ?_
 refine call_ (ps := []) (rid := 16) (hy := by simp only [go_sem, Nat.reduceEqDiff, brw_exprs]; first | done | rfl) rfl rfl rfl rfl rfl (hH) ?_
 refine cr_ ?_
 refine run_ ?_
 refine RunsA.cond rfl (fun h => ?_) (fun h => ?_)
 ·exfalso; simp only [decide_eq_true_eq] at h; omega
 refine run_ ?_
 refine RunsA.cond rfl (fun h => ?_) (fun h => ?_)
 ·simp at h
 refine run_ ?_
 refine rg_ ?_
 refine call_ (ps := []) (rid := 12032) rfl rfl rfl rfl rfl (hI) ?_
 refine cr_ ?_
 refine run_ ?_
 refine rg1_ @eb ?_
 refine call_ (ps := []) (rid := 16) (hy := by simp only [go_sem, Nat.reduceEqDiff, brw_exprs]; first | done | rfl) rfl rfl rfl rfl rfl (hE) ?_
 refine cr1_ @eb ?_
 refine run_ ?_
 refine RunsA.cond rfl (fun h => ?_) (fun h => ?_)
 ·simp at h
 refine run_ ?_
 refine rg_ ?_
 refine call_ (ps := []) (rid := 16) (hy := by simp only [go_sem, Nat.reduceEqDiff, brw_exprs]; first | done | rfl) rfl rfl rfl rfl rfl (hH) ?_
 refine cr_ ?_
 refine run_ ?_
 refine RunsA.cond rfl (fun h => ?_) (fun h => ?_)
 ·exfalso; simp only [decide_eq_true_eq] at h; omega
 refine run_ ?_
 refine RunsA.cond rfl (fun h => ?_) (fun h => ?_)
 ·simp at h
 refine run_ ?_
 exact RetA.mk tabOk 0 rfl rfl rfl (by omega) rfl rfl rfl ⟨rfl, rfl, rfl⟩
end Go.Proofs.YtiilnlihimdnlaaGreatDoorFw
