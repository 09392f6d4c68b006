/- The law FnExactParseText, walked. -/
import Derived.Test.YtiilnlihimdnlaaGreatDoorKC
import Derived.Test.YtiilnlihimdnlaaGreatDoorQX
import Derived.Test.YtiilnlihimdnlaaGreatDoorJR
namespace Go.Proofs.YtiilnlihimdnlaaGreatDoorFw
open Go Go.RowKit
set_option linter.unusedVariables false
set_option linter.unusedSimpArgs false
set_option maxRecDepth 4000
theorem textG_small : ∀ (rs : List Str) (i : Nat) (acc : List LineV), (∀ x ∈ acc, x.tot ≤ 6400) → acc.length = i → i ≤ 100 → (textG rs i acc).1.length ≤ 100 ∧ ∀ x ∈ (textG rs i acc).1, x.tot ≤ 6400
 | [], i, acc, h1, h2, h3 => by rw [textG]; exact ⟨by simp only; omega, h1⟩
 | r :: rs, i, acc, h1, h2, h3 => by
  rw [textG]
  split
  ·rename_i x hx
   split
   ·exact ⟨by simp, by simp⟩
   ·refine textG_small rs (i + 1) _ (fun y hy => ?_) (by simp only [List.length_append, List.length_cons, List.length_nil]; omega) (by omega)
    rcases List.mem_append.1 hy with hy | hy
    ·exact h1 y hy
    ·rw [List.mem_singleton.1 hy]; exact parseLineV_tot hx
  ·exact ⟨by simp, by simp⟩
theorem lines_small : ∀ (L : List LineV), (∀ x ∈ L, x.tot ≤ 6400) → LineV.totL L ≤ 6400 * L.length ∧ LineV.cntL L ≤ 20000 * L.length
 | [], _ => by simp [LineV.totL, LineV.cntL]
 | x :: r, h => by
  obtain ⟨a, b⟩ := lines_small r (fun y hy => h y (by simp [hy]))
  have h1 := h x (by simp)
  have h2 := LineV.cnt_tot x
  have h3 : x.cntA = 14 + x.cnt := by
   obtain ⟨kk, ss, oo, sf, sr, sk, sn, st, sl, df, dr, dk, dn, dt, dl, nn, ll⟩ := x
   simp only [LineV.cntA, LineV.cnt]; omega
  simp only [LineV.totL, LineV.cntL, List.length_cons]
  omega
theorem textV_small (s : Str) : (textV s).1.length ≤ 100 ∧ LineV.totL (textV s).1 ≤ 640000 ∧ LineV.cntL (textV s).1 ≤ 2000000 := by
 obtain ⟨a, b⟩ := textG_small (rowsV s) 0 [] (by simp) rfl (by omega)
 obtain ⟨c, d⟩ := lines_small _ b
 unfold textV
 omega
set_option maxHeartbeats 16000000 in
theorem lawParseText_ok (s : Str) : FnA Tryz.prog 5 false [.str s] [] (fun r os ros => r = .bool true ∧ os = [] ∧ ros = []) := by
 refine FnA.of Tryz.func5 rfl (by decide) Tryz.ntmps5 (by simp) ?_
 refine run_ ?_
 refine RunsA.cond rfl (fun h => ?_) (fun h => ?_)
 ·refine run_ ?_
  exact RetA.mk tabOk 0 rfl rfl rfl (by omega) rfl rfl rfl ⟨rfl, rfl, rfl⟩
 have hl : s.length ≤ 1048576 := by
  have : (s.length : Int) ≤ 1048576 := by simpa using h
  omega
 have hS := parseTextS_ok s hl
 have hI := parseTextI_ok s hl
 obtain ⟨b1, b2, b3⟩ := textV_small s
 unfold TxR at hS hI
 generalize (textV s).2 = p at *
 generalize (textV s).1 = L at *
 have hE := eqLineS_ok L L (by omega) (by omega)
 rw [decide_eq_true rfl] at hE
 have hM : FnA Tryz.prog 19 true [.hd 0 [], .int .i64 1] [(17, linesA .own L)] (fun r os ros => r = .int .i64 (1 + LineV.cntL L) ∧ os = [(17, linesA .own (LineV.marks L 1))] ∧ ros = []) := markLineS_ok L [] 17 (linesA .own L) 1 rfl (noBo_lines L) (by omega) (by omega)
 have hH := heldLineS_ok L 1 (by omega) (by omega)
 generalize LineV.cntL L = cc at *
 have eb : (p != p) = false := by simp
 have e12 : decide ((1 : Int) + cc < 0) = false := decide_eq_false (by omega)
 clear h
 refine run_ ?_
 refine rg_ ?_
 refine call_ (ps := []) (rid := 4352) rfl rfl rfl rfl rfl (hS) ?_
 refine cr_ ?_
 refine run_ ?_
 refine rg_ ?_
 refine call_ (ps := []) (rid := 5632) rfl rfl rfl rfl rfl (hI) ?_
 refine cr_ ?_
 refine run_ ?_
 refine rg1_ @eb ?_
 refine call_ (ps := []) (rid := 16) (hy := by simp only [go_sem, Nat.reduceEqDiff, brw_lines]; first | done | rfl) rfl rfl rfl rfl rfl (hE) ?_
 refine cr1_ @eb ?_
 refine run_ ?_
 refine RunsA.cond rfl (fun h => ?_) (fun h => ?_)
 ·simp at h
 refine run_ ?_
 refine rg_ ?_
 refine call_ (ps := [5632]) (rid := 16) rfl rfl rfl rfl rfl (hM) ?_
 refine cr_ ?_
 refine run_ ?_
 refine rg_ ?_
 refine call_ (ps := []) (rid := 16) (hy := by simp only [go_sem, Nat.reduceEqDiff, brw_lines]; first | done | rfl) rfl rfl rfl rfl rfl (hH) ?_
 refine cr_ ?_
 refine run_ ?_
 refine RunsA.cond rfl (fun h => ?_) (fun h => ?_)
 ·exfalso; simp only [decide_eq_true_eq] at h; omega
 refine run_ ?_
 refine RunsA.cond rfl (fun h => ?_) (fun h => ?_)
 ·simp at h
 refine run_ ?_
 refine rg_ ?_
 refine call_ (ps := []) (rid := 12032) rfl rfl rfl rfl rfl (hI) ?_
 refine cr_ ?_
 refine run_ ?_
 refine rg1_ @eb ?_
 refine call_ (ps := []) (rid := 16) (hy := by simp only [go_sem, Nat.reduceEqDiff, brw_lines]; first | done | rfl) rfl rfl rfl rfl rfl (hE) ?_
 refine cr1_ @eb ?_
 refine run_ ?_
 refine RunsA.cond rfl (fun h => ?_) (fun h => ?_)
 ·simp at h
 refine run_ ?_
 refine rg_ ?_
 refine call_ (ps := []) (rid := 16) (hy := by simp only [go_sem, Nat.reduceEqDiff, brw_lines]; first | done | rfl) rfl rfl rfl rfl rfl (hH) ?_
 refine cr_ ?_
 refine run_ ?_
 refine RunsA.cond rfl (fun h => ?_) (fun h => ?_)
 ·exfalso; simp only [decide_eq_true_eq] at h; omega
 refine run_ ?_
 refine RunsA.cond rfl (fun h => ?_) (fun h => ?_)
 ·simp at h
 refine run_ ?_
 exact RetA.mk tabOk 0 rfl rfl rfl (by omega) rfl rfl rfl ⟨rfl, rfl, rfl⟩
end Go.Proofs.YtiilnlihimdnlaaGreatDoorFw
