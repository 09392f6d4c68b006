/- An operand out of tokens: the program's walk. -/
import Derived.Test.YtiilnlihimdnlaaGreatDoorJH
namespace Go.Proofs.YtiilnlihimdnlaaGreatDoorFw
open Go Go.RowKit
set_option linter.unusedVariables false
set_option linter.unusedSimpArgs false
set_option maxRecDepth 4000
def argR (a : AgV) : AV := .agg [.int .i64 a.f, .int .i64 a.r, .int .i64 a.e.1, .int .i64 a.e.2, .str a.e.3, .hd 100 []]
def ArPR (V : AgV × List TokV × Bool) (r : AV) (os ros : List (Nat × List AV)) : Prop := r = argR V.1 ∧ os = prO V.2.1 V.2.2 ∧ ros = [(4, exprsA .own V.1.e.4)]
theorem arg_case {at' : Bool} {l1 : List TokV} (hz : ¬ (at' = false ∧ hdK l1 = 5)) : ∃ (x : Bool) (k n : Int) (s : Str), decide ((0 : Int) < ((l1.length : Nat) : Int)) = x ∧ ((0 : Int) < ((l1.length : Nat) : Int)) = (x = true) ∧
 (x = true → (toksA l1)[0]? = some (.agg [.int .i64 k, .int .i64 n, .str s])) ∧ (at' = true ∨ ((k == 5) = false ∧ (k = 5) = False)) := by
 match l1 with
 | [] => exact ⟨false, 0, 0, [], by simp, by simp, fun h => (by cases h), .inr ⟨rfl, by simp⟩⟩
 | ⟨k, n, s⟩ :: r =>
  refine ⟨true, k, n, s, decide_eq_true (by simp only [List.length_cons]; omega), ?_, fun _ => rfl, ?_⟩
  ·simp only [List.length_cons, eq_iff_iff, iff_true]; omega
  ·cases at' with
   | true => exact .inl rfl
   | false =>
    have hk : k ≠ 5 := fun h => hz ⟨rfl, h⟩
    exact .inr ⟨by simp [hk], eq_false hk⟩
set_option maxHeartbeats 16000000 in
theorem pArg_reg (l : List TokV) (b : Bool) (hl : l.length ≤ 1048576) (hat : isM l [64] = false) (l1 : List TokV) (hl1 : tkL l [64] = l1) (hz : hdK l1 = 5) :
 FnA Tryz.prog 111 false [.ptr 0 [] 2 0 0] (prO l b) (ArPR (mpI (fun r => (⟨0, r, nothE⟩ : AgV)) (regI l1 b))) := by
 have hT := pTake_ok l b [64] (by omega)
 have lt := tkL_len l [64]
 rw [hat, hl1] at hT
 rw [hl1] at lt
 have hR := pReg_ok l1 b (by omega)
 generalize regI l1 b = R at *
 obtain ⟨v, l2, b2⟩ := R
 simp only [mpI] at *
 obtain ⟨q, q', n, s, hg⟩ : decide ((0 : Int) < ((l1.length : Nat) : Int)) = true ∧ ((0 : Int) < ((l1.length : Nat) : Int)) = True ∧ ∃ n s, (toksA l1)[0]? = some (.agg [.int .i64 5, .int .i64 n, .str s]) := by
  match l1, hz with
  | ⟨k, n, s⟩ :: r, hz =>
   simp only [hdK] at hz
   subst hz
   exact ⟨decide_eq_true (by simp only [List.length_cons]; omega), eq_true (by simp only [List.length_cons]; omega), n, s, rfl⟩
 clear hat hl1 hz
 refine FnA.of Tryz.func111 rfl (by decide) Tryz.ntmps111 (by simp [prO]) ?_
 unfold ArPR prO at *
 refine run_ ?_
 refine rg_ ?_
 refine call_ (ps := [0]) (rid := 16) rfl rfl rfl rfl rfl (hT) ?_
 refine cr_ ?_
 refine auto4_ 7 [] @q @q' @hg @toksA_len ?_
 refine call_ (ps := [0]) (rid := 16) rfl rfl rfl rfl rfl (hR) ?_
 refine cr_ ?_
 refine run_ ?_
 refine rv_ ?_
 refine vdet_ 768 [] 0 5 100 ?_
 exact RetV.mk 1 rfl rfl (by omega) rfl (by simp [noBoO, noBo, noBoL, noBo_exprs]) rfl ⟨rfl, rfl, rfl⟩
set_option maxHeartbeats 16000000 in
theorem pArg_cb (l : List TokV) (b : Bool) (hl : l.length ≤ 1048576) (at' : Bool) (hat : isM l [64] = at') (l1 : List TokV) (hl1 : tkL l [64] = l1) (hz : ¬ (at' = false ∧ hdK l1 = 5)) (hc : cbI l1 = true) :
 FnA Tryz.prog 111 false [.ptr 0 [] 2 0 0] (prO l b) (ArPR (mpI (fun r => (⟨4 + mo at', r, nothE⟩ : AgV)) (inbI (tkL l1 [45]) (b || !isM l1 [45])))) := by
 have hT := pTake_ok l b [64] (by omega)
 have lt := tkL_len l [64]
 rw [hat, hl1] at hT
 rw [hl1] at lt
 obtain ⟨x, k, n, s, q, q', hg, qk⟩ := arg_case hz
 have hCb := pCb_ok l1 b (by omega)
 rw [hc] at hCb
 have hW := pWant_ok l1 b [45] (by omega)
 have hI := pInB_ok (tkL l1 [45]) (b || !isM l1 [45]) (by have := tkL_len l1 [45]; omega)
 generalize inbI (tkL l1 [45]) (b || !isM l1 [45]) = R at *
 obtain ⟨v, l3, b3⟩ := R
 generalize tkL l1 [45] = l2 at *
 generalize (b || !isM l1 [45]) = b2 at *
 simp only [mpI] at *
 clear hz hat hl1
 refine FnA.of Tryz.func111 rfl (by decide) Tryz.ntmps111 (by simp [prO]) ?_
 unfold ArPR prO at *
 cases at' <;> cases x
 all_goals (
  simp only [Bool.false_eq_true, false_or, true_or] at qk
  refine run_ ?_
  refine rg_ ?_
  refine call_ (ps := [0]) (rid := 16) rfl rfl rfl rfl rfl (hT) ?_
  refine cr_ ?_
  refine auto6_ 7 [] @q @q' @hg @qk @toksA_len @toksA_len ?_
  refine call_ (ps := [0]) (rid := 16) rfl rfl rfl rfl rfl (hCb) ?_
  refine cr_ ?_
  refine auto0_ 7 [] ?_
  refine call_ (ps := [0]) (rid := 16) rfl rfl rfl rfl rfl (hW) ?_
  refine cr_ ?_
  refine auto0_ 7 [] ?_
  refine call_ (ps := [0]) (rid := 16) rfl rfl rfl rfl rfl (hI) ?_
  refine cr_ ?_
  refine run_ ?_
  refine rv_ ?_
  refine vdet_ 768 [] 0 5 100 ?_
  exact RetV.mk 1 rfl rfl (by omega) rfl (by simp [noBoO, noBo, noBoL, noBo_exprs]) rfl ⟨rfl, rfl, rfl⟩)
set_option maxHeartbeats 16000000 in
theorem pArg_br_true (l : List TokV) (b : Bool) (hl : l.length ≤ 1048576) (at' : Bool) (hat : isM l [64] = at') (l1 : List TokV) (hl1 : tkL l [64] = l1) (hz : ¬ (at' = false ∧ hdK l1 = 5)) (hc : ¬ cbI l1 = true) (h40 : isM l1 [40] = true) (hy : isM (inbI l1 b).2.1 [43] = true) :
 FnA Tryz.prog 111 false [.ptr 0 [] 2 0 0] (prO l b) (ArPR (plI at' (inbI l1 b))) := by
 have hT := pTake_ok l b [64] (by omega)
 have lt := tkL_len l [64]
 rw [hat, hl1] at hT
 rw [hl1] at lt
 obtain ⟨x, k, n, s, q, q', hg, qk⟩ := arg_case hz
 have hCb := pCb_ok l1 b (by omega)
 have hcf : cbI l1 = false := by simpa using hc
 rw [hcf] at hCb
 have hM := pIsMark_ok l1 b [40] (by omega)
 rw [h40] at hM
 have hI := pInB_ok l1 b (by omega)
 have li := inb_len l1 b
 unfold plI
 generalize inbI l1 b = R at *
 obtain ⟨v, l3, b3⟩ := R
 simp only at *
 have hP := pTake_ok l3 b3 [43] (by omega)
 rw [hy] at hP ⊢
 generalize tkL l3 [43] = l4 at *
 simp only [if_true, Bool.false_eq_true, if_false]
 clear hz hat hl1
 refine FnA.of Tryz.func111 rfl (by decide) Tryz.ntmps111 (by simp [prO]) ?_
 unfold ArPR prO at *
 cases at' <;> cases x
 all_goals (
  simp only [Bool.false_eq_true, false_or, true_or] at qk
  refine run_ ?_
  refine rg_ ?_
  refine call_ (ps := [0]) (rid := 16) rfl rfl rfl rfl rfl (hT) ?_
  refine cr_ ?_
  refine auto6_ 7 [] @q @q' @hg @qk @toksA_len @toksA_len ?_
  refine call_ (ps := [0]) (rid := 16) rfl rfl rfl rfl rfl (hCb) ?_
  refine cr_ ?_
  refine auto0_ 7 [] ?_
  refine call_ (ps := [0]) (rid := 16) rfl rfl rfl rfl rfl (hM) ?_
  refine cr_ ?_
  refine auto0_ 7 [] ?_
  refine call_ (ps := [0]) (rid := 16) rfl rfl rfl rfl rfl (hI) ?_
  refine cr_ ?_
  refine auto0_ 7 [] ?_
  refine call_ (ps := [0]) (rid := 16) rfl rfl rfl rfl rfl (hP) ?_
  refine cr_ ?_
  refine auto0_ 7 [] ?_
  refine rv_ ?_
  refine vdet_ 768 [] 0 5 100 ?_
  exact RetV.mk 1 rfl rfl (by omega) rfl (by simp [noBoO, noBo, noBoL, noBo_exprs]) rfl ⟨rfl, rfl, rfl⟩)
set_option maxHeartbeats 16000000 in
theorem pArg_br_false (l : List TokV) (b : Bool) (hl : l.length ≤ 1048576) (at' : Bool) (hat : isM l [64] = at') (l1 : List TokV) (hl1 : tkL l [64] = l1) (hz : ¬ (at' = false ∧ hdK l1 = 5)) (hc : ¬ cbI l1 = true) (h40 : isM l1 [40] = true) (hy : isM (inbI l1 b).2.1 [43] = false) :
 FnA Tryz.prog 111 false [.ptr 0 [] 2 0 0] (prO l b) (ArPR (plI at' (inbI l1 b))) := by
 have hT := pTake_ok l b [64] (by omega)
 have lt := tkL_len l [64]
 rw [hat, hl1] at hT
 rw [hl1] at lt
 obtain ⟨x, k, n, s, q, q', hg, qk⟩ := arg_case hz
 have hCb := pCb_ok l1 b (by omega)
 have hcf : cbI l1 = false := by simpa using hc
 rw [hcf] at hCb
 have hM := pIsMark_ok l1 b [40] (by omega)
 rw [h40] at hM
 have hI := pInB_ok l1 b (by omega)
 have li := inb_len l1 b
 unfold plI
 generalize inbI l1 b = R at *
 obtain ⟨v, l3, b3⟩ := R
 simp only at *
 have hP := pTake_ok l3 b3 [43] (by omega)
 rw [hy] at hP ⊢
 generalize tkL l3 [43] = l4 at *
 simp only [if_true, Bool.false_eq_true, if_false]
 clear hz hat hl1
 refine FnA.of Tryz.func111 rfl (by decide) Tryz.ntmps111 (by simp [prO]) ?_
 unfold ArPR prO at *
 cases at' <;> cases x
 all_goals (
  simp only [Bool.false_eq_true, false_or, true_or] at qk
  refine run_ ?_
  refine rg_ ?_
  refine call_ (ps := [0]) (rid := 16) rfl rfl rfl rfl rfl (hT) ?_
  refine cr_ ?_
  refine auto6_ 7 [] @q @q' @hg @qk @toksA_len @toksA_len ?_
  refine call_ (ps := [0]) (rid := 16) rfl rfl rfl rfl rfl (hCb) ?_
  refine cr_ ?_
  refine auto0_ 7 [] ?_
  refine call_ (ps := [0]) (rid := 16) rfl rfl rfl rfl rfl (hM) ?_
  refine cr_ ?_
  refine auto0_ 7 [] ?_
  refine call_ (ps := [0]) (rid := 16) rfl rfl rfl rfl rfl (hI) ?_
  refine cr_ ?_
  refine auto0_ 7 [] ?_
  refine call_ (ps := [0]) (rid := 16) rfl rfl rfl rfl rfl (hP) ?_
  refine cr_ ?_
  cases b3
  all_goals (
   refine auto0_ 7 [] ?_
   refine rv_ ?_
   refine vdet_ 768 [] 0 5 100 ?_
   exact RetV.mk 1 rfl rfl (by omega) rfl (by simp [noBoO, noBo, noBoL, noBo_exprs]) rfl ⟨rfl, rfl, rfl⟩))
set_option maxHeartbeats 16000000 in
theorem pArg_imm (l : List TokV) (b : Bool) (hl : l.length ≤ 1048576) (at' : Bool) (hat : isM l [64] = at') (l1 : List TokV) (hl1 : tkL l [64] = l1) (hz : ¬ (at' = false ∧ hdK l1 = 5)) (hc : ¬ cbI l1 = true) (h40 : ¬ isM l1 [40] = true) (h35 : isM l1 [35] = true) :
 FnA Tryz.prog 111 false [.ptr 0 [] 2 0 0] (prO l b) (ArPR (mpI (fun e => (⟨8 + mo at', 0, e⟩ : AgV)) (exI 6 (tkL l1 [35]) b))) := by
 have hT := pTake_ok l b [64] (by omega)
 have lt := tkL_len l [64]
 rw [hat, hl1] at hT
 rw [hl1] at lt
 obtain ⟨x, k, n, s, q, q', hg, qk⟩ := arg_case hz
 have hCb := pCb_ok l1 b (by omega)
 have hcf : cbI l1 = false := by simpa using hc
 rw [hcf] at hCb
 have hM := pIsMark_ok l1 b [40] (by omega)
 have h40f : isM l1 [40] = false := by simpa using h40
 rw [h40f] at hM
 have hT5 := pTake_ok l1 b [35] (by omega)
 rw [h35] at hT5
 have hE := pExpr_ok 6 (by omega) (tkL l1 [35]) b (by have := tkL_len l1 [35]; omega)
 generalize exI 6 (tkL l1 [35]) b = R at *
 obtain ⟨⟨ka, na, sa, xa⟩, l3, b3⟩ := R
 generalize tkL l1 [35] = l2 at *
 unfold ExPR exprR at hE
 simp only [mpI] at *
 clear hz hat hl1
 refine FnA.of Tryz.func111 rfl (by decide) Tryz.ntmps111 (by simp [prO]) ?_
 unfold ArPR prO at *
 cases at' <;> cases x
 all_goals (
  simp only [Bool.false_eq_true, false_or, true_or] at qk
  refine run_ ?_
  refine rg_ ?_
  refine call_ (ps := [0]) (rid := 16) rfl rfl rfl rfl rfl (hT) ?_
  refine cr_ ?_
  refine auto6_ 7 [] @q @q' @hg @qk @toksA_len @toksA_len ?_
  refine call_ (ps := [0]) (rid := 16) rfl rfl rfl rfl rfl (hCb) ?_
  refine cr_ ?_
  refine auto0_ 7 [] ?_
  refine call_ (ps := [0]) (rid := 16) rfl rfl rfl rfl rfl (hM) ?_
  refine cr_ ?_
  refine auto0_ 7 [] ?_
  refine call_ (ps := [0]) (rid := 16) rfl rfl rfl rfl rfl (hT5) ?_
  refine cr_ ?_
  refine auto0_ 7 [] ?_
  refine call_ (ps := [0]) (rid := 23296) rfl rfl rfl rfl rfl (hE) ?_
  refine cr_ ?_
  refine run_ ?_
  refine rv_ ?_
  refine vdet_ 768 [] 0 5 100 ?_
  exact RetV.mk 1 rfl rfl (by omega) rfl (by simp [noBoO, noBo, noBoL, noBo_exprs]) rfl ⟨rfl, rfl, rfl⟩)
set_option maxHeartbeats 16000000 in
theorem pArg_id_true (l : List TokV) (b : Bool) (hl : l.length ≤ 1048576) (at' : Bool) (hat : isM l [64] = at') (l1 : List TokV) (hl1 : tkL l [64] = l1) (hz : ¬ (at' = false ∧ hdK l1 = 5)) (hc : ¬ cbI l1 = true) (h40 : ¬ isM l1 [40] = true) (h35 : ¬ isM l1 [35] = true) (hy : isM (exI 6 l1 b).2.1 [40] = true) :
 FnA Tryz.prog 111 false [.ptr 0 [] 2 0 0] (prO l b) (ArPR (idI at' (exI 6 l1 b))) := by
 have hT := pTake_ok l b [64] (by omega)
 have lt := tkL_len l [64]
 rw [hat, hl1] at hT
 rw [hl1] at lt
 obtain ⟨x, k, n, s, q, q', hg, qk⟩ := arg_case hz
 have hCb := pCb_ok l1 b (by omega)
 have hcf : cbI l1 = false := by simpa using hc
 rw [hcf] at hCb
 have hM := pIsMark_ok l1 b [40] (by omega)
 have h40f : isM l1 [40] = false := by simpa using h40
 rw [h40f] at hM
 have h35f : isM l1 [35] = false := by simpa using h35
 have hT5 := pTake_ok l1 b [35] (by omega)
 have e5 : tkL l1 [35] = l1 := by unfold tkL; rw [if_neg h35]
 rw [h35f, e5] at hT5
 have hE := pExpr_ok 6 (by omega) l1 b (by omega)
 have le := exI_len 6 l1 b
 unfold idI
 unfold ExPR exprR at hE
 generalize exI 6 l1 b = R at *
 obtain ⟨⟨ka, na, sa, xa⟩, l3, b3⟩ := R
 simp only at *
 have hM4 := pIsMark_ok l3 b3 [40] (by omega)
 rw [hy] at hM4 ⊢
 simp only [if_true, Bool.false_eq_true, if_false]
 have hI := pInB_ok l3 b3 (by omega)
 generalize inbI l3 b3 = R at *
 obtain ⟨v, l4, b4⟩ := R
 simp only [mpI] at *
 clear hz hat hl1
 refine FnA.of Tryz.func111 rfl (by decide) Tryz.ntmps111 (by simp [prO]) ?_
 unfold ArPR prO at *
 cases at' <;> cases x
 all_goals (
  simp only [Bool.false_eq_true, false_or, true_or] at qk
  refine run_ ?_
  refine rg_ ?_
  refine call_ (ps := [0]) (rid := 16) rfl rfl rfl rfl rfl (hT) ?_
  refine cr_ ?_
  refine auto6_ 7 [] @q @q' @hg @qk @toksA_len @toksA_len ?_
  refine call_ (ps := [0]) (rid := 16) rfl rfl rfl rfl rfl (hCb) ?_
  refine cr_ ?_
  refine auto0_ 7 [] ?_
  refine call_ (ps := [0]) (rid := 16) rfl rfl rfl rfl rfl (hM) ?_
  refine cr_ ?_
  refine auto0_ 7 [] ?_
  refine call_ (ps := [0]) (rid := 16) rfl rfl rfl rfl rfl (hT5) ?_
  refine cr_ ?_
  refine auto0_ 7 [] ?_
  refine call_ (ps := [0]) (rid := 3328) rfl rfl rfl rfl rfl (hE) ?_
  refine cr_ ?_
  refine auto0_ 7 [] ?_
  refine call_ (ps := [0]) (rid := 16) rfl rfl rfl rfl rfl (hM4) ?_
  refine cr_ ?_
  refine auto0_ 7 [] ?_
  refine call_ (ps := [0]) (rid := 16) rfl rfl rfl rfl rfl (hI) ?_
  refine cr_ ?_
  refine run_ ?_
  refine rv_ ?_
  refine vdet_ 768 [] 0 5 100 ?_
  exact RetV.mk 1 rfl rfl (by omega) rfl (by simp [noBoO, noBo, noBoL, noBo_exprs]) rfl ⟨rfl, rfl, rfl⟩)
set_option maxHeartbeats 16000000 in
theorem pArg_id_false (l : List TokV) (b : Bool) (hl : l.length ≤ 1048576) (at' : Bool) (hat : isM l [64] = at') (l1 : List TokV) (hl1 : tkL l [64] = l1) (hz : ¬ (at' = false ∧ hdK l1 = 5)) (hc : ¬ cbI l1 = true) (h40 : ¬ isM l1 [40] = true) (h35 : ¬ isM l1 [35] = true) (hy : isM (exI 6 l1 b).2.1 [40] = false) :
 FnA Tryz.prog 111 false [.ptr 0 [] 2 0 0] (prO l b) (ArPR (idI at' (exI 6 l1 b))) := by
 have hT := pTake_ok l b [64] (by omega)
 have lt := tkL_len l [64]
 rw [hat, hl1] at hT
 rw [hl1] at lt
 obtain ⟨x, k, n, s, q, q', hg, qk⟩ := arg_case hz
 have hCb := pCb_ok l1 b (by omega)
 have hcf : cbI l1 = false := by simpa using hc
 rw [hcf] at hCb
 have hM := pIsMark_ok l1 b [40] (by omega)
 have h40f : isM l1 [40] = false := by simpa using h40
 rw [h40f] at hM
 have h35f : isM l1 [35] = false := by simpa using h35
 have hT5 := pTake_ok l1 b [35] (by omega)
 have e5 : tkL l1 [35] = l1 := by unfold tkL; rw [if_neg h35]
 rw [h35f, e5] at hT5
 have hE := pExpr_ok 6 (by omega) l1 b (by omega)
 have le := exI_len 6 l1 b
 unfold idI
 unfold ExPR exprR at hE
 generalize exI 6 l1 b = R at *
 obtain ⟨⟨ka, na, sa, xa⟩, l3, b3⟩ := R
 simp only at *
 have hM4 := pIsMark_ok l3 b3 [40] (by omega)
 rw [hy] at hM4 ⊢
 simp only [if_true, Bool.false_eq_true, if_false]
 clear hz hat hl1
 refine FnA.of Tryz.func111 rfl (by decide) Tryz.ntmps111 (by simp [prO]) ?_
 unfold ArPR prO at *
 cases at' <;> cases x
 all_goals (
  simp only [Bool.false_eq_true, false_or, true_or] at qk
  refine run_ ?_
  refine rg_ ?_
  refine call_ (ps := [0]) (rid := 16) rfl rfl rfl rfl rfl (hT) ?_
  refine cr_ ?_
  refine auto6_ 7 [] @q @q' @hg @qk @toksA_len @toksA_len ?_
  refine call_ (ps := [0]) (rid := 16) rfl rfl rfl rfl rfl (hCb) ?_
  refine cr_ ?_
  refine auto0_ 7 [] ?_
  refine call_ (ps := [0]) (rid := 16) rfl rfl rfl rfl rfl (hM) ?_
  refine cr_ ?_
  refine auto0_ 7 [] ?_
  refine call_ (ps := [0]) (rid := 16) rfl rfl rfl rfl rfl (hT5) ?_
  refine cr_ ?_
  refine auto0_ 7 [] ?_
  refine call_ (ps := [0]) (rid := 3328) rfl rfl rfl rfl rfl (hE) ?_
  refine cr_ ?_
  refine auto0_ 7 [] ?_
  refine call_ (ps := [0]) (rid := 16) rfl rfl rfl rfl rfl (hM4) ?_
  refine cr_ ?_
  refine auto0_ 7 [] ?_
  refine rv_ ?_
  refine vdet_ 768 [] 0 5 100 ?_
  exact RetV.mk 1 rfl rfl (by omega) rfl (by simp [noBoO, noBo, noBoL, noBo_exprs]) rfl ⟨rfl, rfl, rfl⟩)
theorem pArg_ok (l : List TokV) (b : Bool) (hl : l.length ≤ 1048576) : FnA Tryz.prog 111 false [.ptr 0 [] 2 0 0] (prO l b) (ArPR (argI l b)) := by
 unfold argI
 obtain ⟨at', hat⟩ : ∃ x, isM l [64] = x := ⟨_, rfl⟩
 obtain ⟨l1, hl1⟩ : ∃ x, tkL l [64] = x := ⟨_, rfl⟩
 rw [hat, hl1]
 unfold argI2
 by_cases hz : at' = false ∧ hdK l1 = 5
 ·rw [if_pos hz]
  obtain ⟨rfl, hz⟩ := hz
  exact pArg_reg l b hl hat l1 hl1 hz
 rw [if_neg hz]
 by_cases hc : cbI l1 = true
 ·rw [if_pos hc]
  exact pArg_cb l b hl at' hat l1 hl1 hz hc
 rw [if_neg hc]
 by_cases h40 : isM l1 [40] = true
 ·rw [if_pos h40]
  cases hy : isM (inbI l1 b).2.1 [43] with
  | true => exact pArg_br_true l b hl at' hat l1 hl1 hz hc h40 hy
  | false => exact pArg_br_false l b hl at' hat l1 hl1 hz hc h40 hy
 rw [if_neg h40]
 by_cases h35 : isM l1 [35] = true
 ·rw [if_pos h35]
  exact pArg_imm l b hl at' hat l1 hl1 hz hc h40 h35
 rw [if_neg h35]
 cases hy : isM (exI 6 l1 b).2.1 [40] with
 | true => exact pArg_id_true l b hl at' hat l1 hl1 hz hc h40 h35 hy
 | false => exact pArg_id_false l b hl at' hat l1 hl1 hz hc h40 h35 hy
end Go.Proofs.YtiilnlihimdnlaaGreatDoorFw
