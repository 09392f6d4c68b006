/- Places, built. -/
import Derived.Test.YtiilnlihimdnlaaGreatDoorQM
import Derived.Test.YtiilnlihimdnlaaGreatDoorQD
import Derived.Test.YtiilnlihimdnlaaGreatDoorJI
import Derived.Test.YtiilnlihimdnlaaGreatDoorQC
import Derived.Test.YtiilnlihimdnlaaGreatDoorG14
set_option linter.unusedVariables false
set_option linter.unusedSimpArgs false
set_option maxRecDepth 4000
namespace Go.Proofs.YtiilnlihimdnlaaGreatDoorFw
open Go Go.RowKit
end Go.Proofs.YtiilnlihimdnlaaGreatDoorFw
namespace Go.Proofs.YtiilnlihimdnlaaGreatDoorFw
open Go Go.RowKit
structure ArgR where
 f : Int
 r : Int
 k : Int
 n : Int
 l : List ExprV
end Go.Proofs.YtiilnlihimdnlaaGreatDoorFw
namespace Go.Proofs.YtiilnlihimdnlaaGreatDoorFw
open Go Go.RowKit
def lineR : LineV → AV
 | .mk k s op sf sr sk sn ss sl df dr dk dn ds dl n l => .agg [.int .i64 k, .str s, .int .i64 op, .int .i64 sf, .int .i64 sr, .int .i64 sk, .int .i64 sn, .str ss, .hd 100 [],
  .int .i64 df, .int .i64 dr, .int .i64 dk, .int .i64 dn, .str ds, .hd 101 [], .int .i64 n, .hd 102 []]
def lineO : LineV → List (Nat × List AV)
 | .mk k s op sf sr sk sn ss sl df dr dk dn ds dl n l => [(4, exprsA .own sl), (4, exprsA .own dl), (4, exprsA .own l)]
end Go.Proofs.YtiilnlihimdnlaaGreatDoorFw
namespace Go.Proofs.YtiilnlihimdnlaaGreatDoorFw
open Go Go.RowKit
structure TS where
 l : List TokV
 b : Bool
 more : Bool
 acc : List ExprV
def TS.inv (V : List ExprV × List TokV × Bool) (N : Nat) (p : TS) : Prop := (p.more = true → trm p.l p.b p.acc = V) ∧ (p.more = false → (p.acc, p.l, p.b) = V) ∧ p.l.length ≤ N ∧ p.acc.length + p.l.length ≤ N + (if p.b = true then 1 else 0)
def TS.m (p : TS) : Nat := if p.b = true ∨ p.more = false then 0 else p.l.length + 1
theorem TS.step {V : List ExprV × List TokV × Bool} {N : Nat} {l : List TokV} {acc : List ExprV} (h : TS.inv V N ⟨l, false, true, acc⟩) :
 TS.inv V N ⟨tkL (exI 6 l false).2.1 [44], (exI 6 l false).2.2, isM (exI 6 l false).2.1 [44], acc ++ [(exI 6 l false).1]⟩ ∧ TS.m ⟨tkL (exI 6 l false).2.1 [44], (exI 6 l false).2.2, isM (exI 6 l false).2.1 [44], acc ++ [(exI 6 l false).1]⟩ < TS.m ⟨l, false, true, acc⟩ := by
 obtain ⟨h1, _, h3, h4⟩ := h
 have h1 := h1 rfl
 simp only [Bool.false_eq_true, if_false] at h1 h3 h4
 have e1 := trm_more (l := l) (acc := acc)
 have e2 := trm_last (l := l) (acc := acc)
 have hlt := exI_lt (d := 6) (l := l) (by omega)
 have hle := exI_len 6 l false
 generalize exI 6 l false = e at *
 have ht := tkL_len e.2.1 [44]
 refine ⟨⟨fun hm => ?_, fun hm => ?_, ?_, ?_⟩, ?_⟩
 ·simp only at hm ⊢
  rw [← e1 hm, h1]
 ·simp only at hm ⊢
  rw [← e2 hm, h1]
 ·simp only; omega
 ·simp only [List.length_append, List.length_cons, List.length_nil]
  cases hb : e.2.2 with
  | true => simp only [if_true]; omega
  | false => have := hlt hb; simp only [Bool.false_eq_true, if_false]; omega
 ·have e0 : TS.m ⟨l, false, true, acc⟩ = l.length + 1 := by simp [TS.m]
  rw [e0]
  unfold TS.m
  simp only
  split
  ·omega
  ·rename_i c
   have hb : e.2.2 = false := by
    cases e2 : e.2.2 with
    | true => exact absurd (.inl e2) c
    | false => rfl
   have := hlt hb
   omega
theorem TS.done {V : List ExprV × List TokV × Bool} {N : Nat} {p : TS} (h : p.inv V N) (hc : ¬ (p.b = false ∧ p.more = true)) : (p.acc, p.l, p.b) = V := by
 obtain ⟨l, b, more, acc⟩ := p
 obtain ⟨h1, h2, _, _⟩ := h
 simp only at *
 cases more with
 | false => exact h2 rfl
 | true =>
  cases b with
  | false => exact absurd ⟨rfl, rfl⟩ hc
  | true => rw [← h1 rfl, trm_bad]
theorem exprsA_snoc (m : Md) (l : List ExprV) (x : ExprV) : exprsA m l ++ [exprA m x] = exprsA m (l ++ [x]) := by
 simp [exprsA_eq]
def TrPR (V : List ExprV × List TokV × Bool) (r : AV) (os ros : List (Nat × List AV)) : Prop := r = .hd 100 [] ∧ os = prO V.2.1 V.2.2 ∧ ros = [(4, exprsA .own V.1)]
set_option maxHeartbeats 16000000 in
theorem pTerms_ok (l : List TokV) (b : Bool) (hl : l.length ≤ 1048576) : FnA Tryz.prog 108 false [.ptr 0 [] 2 0 0] (prO l b) (TrPR (trm l b [])) := by
 have hi0 : TS.inv (trm l b []) l.length ⟨l, b, true, []⟩ := ⟨fun _ => rfl, fun h => (by cases h), Nat.le_refl _, by simp only [List.length_nil]; omega⟩
 generalize trm l b [] = V at *
 refine FnA.of Tryz.func108 rfl (by decide) Tryz.ntmps108 (by simp [prO]) ?_
 unfold TrPR prO
 refine run_ ?_
 refine RunsA.loop ?_
 refine (LoopA.ind (fun p : TS => ⟨24, [(0, .ptr 0 [] 2 0 0), (3, .hd 1792 []), (4, .bool p.more)], [⟨0, 2, [.agg [.row .ro 3 (toksA p.l), .bool p.b]]⟩, ⟨1792, 4, exprsA .own p.acc⟩], false⟩)
  (fun p => p.m) (fun p => p.inv V l.length) ?_ ⟨l, b, true, []⟩ hi0).sub rfl ?_ ?_ rfl
 ·intro p hp K3 hK3
  by_cases c : p.b = false ∧ p.more = true
  ·obtain ⟨pl, pb, more, acc⟩ := p
   simp only at c
   obtain ⟨rfl, rfl⟩ := c
   have hst := TS.step hp
   have hb1 := hp.2.2.1
   have hb2 := hp.2.2.2
   simp only [Bool.false_eq_true, if_false] at hb1 hb2
   have hE := pExpr_ok 6 (by omega) pl false (by omega)
   have hle := exI_len 6 pl false
   generalize exI 6 pl false = E at *
   obtain ⟨⟨ka, na, sa, xa⟩, l2, b2⟩ := E
   simp only at hst hle
   have hT := pTake_ok l2 b2 [44] (by omega)
   unfold ExPR at hE
   simp only [exprR] at hE
   have hsn := exprsA_snoc .own acc (.mk ka na sa xa)
   rw [exprA_mk] at hsn
   clear hp
   unfold prO at *
   refine auto0_ 6 [] ?_
   refine call_ (ps := [0]) (rid := 4864) rfl rfl rfl rfl rfl (hE) ?_
   refine cr_ ?_
   repeat' (first | refine ⟨by omega, ?_⟩ | (refine hJ _ _ (RunsL.nil ?_); clear hJ J) | refine RunsA.cond rfl (fun h => ?_) (fun h => absurd h (by decide)) | refine RunsA.cond rfl (fun h => absurd h (by decide)) (fun h => ?_) | (refine step_ ?_) | (refine RunsA.rk 6 [] tabOk fun J hJ => ?_; simp only [go_sem, ↓reduceIte, Nat.reduceAdd, Nat.reduceSub, Nat.reduceMul, Nat.reduceLT, Nat.reduceLeDiff, Nat.reduceEqDiff, Nat.reduceBEq, Int.reduceToNat, exprsA_len, List.length_cons, List.length_nil, hsn]; try simp (disch := omega) only [wrap_id]) | simp only [↓reduceIte, not_false_eq_true, exprsA_len, List.length_cons, List.length_nil, hsn])
   refine hJ _ _ (call_ (ps := [0]) (rid := 16) rfl rfl rfl rfl rfl (hT) ?_); clear hJ J
   rintro r os' ros ⟨rfl, rfl, rfl⟩ _
   refine cg_ ?_
   refine RunsL.nil ?_
   refine run_ ?_
   exact hK3 _ _ hst.1 hst.2 rfl (by simp [SubS, lookS]) (by simp [SubO, lookO, hsn]) rfl
  ·have hV := TS.done hp c
   obtain ⟨pl, pb, more, acc⟩ := p
   subst hV
   simp only at c ⊢
   have hm : (pb = true ∧ more = true) ∨ (pb = true ∧ more = false) ∨ (pb = false ∧ more = false) := by
    cases pb <;> cases more <;> simp at c ⊢
   clear c hp
   rcases hm with ⟨rfl, rfl⟩ | ⟨rfl, rfl⟩ | ⟨rfl, rfl⟩
   all_goals (
    refine auto0_ 6 [] ?_
    refine rv_ ?_
    refine vren_ 1792 100 ?_
    exact RetV.mk 1 rfl rfl (by omega) rfl (by simp [noBoO, noBoL, noBo, noBo_exprs]) rfl ⟨rfl, rfl, rfl⟩)
 ·simp [SubS, lookS]
 ·simp [SubO, lookO, exprsA]
def LiPR (V : LineV × List TokV × Bool) (r : AV) (os ros : List (Nat × List AV)) : Prop := r = lineR V.1 ∧ os = prO V.2.1 V.2.2 ∧ ros = lineO V.1
set_option maxHeartbeats 16000000 in
theorem pIns_two (l : List TokV) (b : Bool) (hl : l.length ≤ 1048576) (op : Int) (h : 1 ≤ op ∧ op ≤ 6) : FnA Tryz.prog 69 false [.ptr 0 [] 2 0 0, .int .i64 op] (prO l b) (LiPR (cmI (fun a d => lnV 3 [] op a d 0 []) (argI l b))) := by
 have hA := pArg_ok l b hl
 have la := arg_len l b
 generalize argI l b = A at *
 have hW := pWant_ok A.2.1 A.2.2 [44] (by omega)
 have lw := tkL_len A.2.1 [44]
 unfold cmI
 have hB := pArg_ok (tkL A.2.1 [44]) (A.2.2 || !isM A.2.1 [44]) (by omega)
 unfold mpI
 generalize argI (tkL A.2.1 [44]) (A.2.2 || !isM A.2.1 [44]) = B at *
 generalize (A.2.2 || !isM A.2.1 [44]) = b3 at *
 generalize tkL A.2.1 [44] = l3 at *
 obtain ⟨⟨fa, ra, ⟨ka, na, sa, xa⟩⟩, l2, b2⟩ := A
 obtain ⟨⟨fd, rd, ⟨kd, nd, sd, xd⟩⟩, l4, b4⟩ := B
 unfold ArPR argR at hA hB
 simp only at hA hB hW ⊢
 have hs := hasSrc_ok op
 rw [decide_eq_true (show 1 ≤ op ∧ op ≤ 6 by omega)] at hs
 refine FnA.of Tryz.func69 rfl (by decide) Tryz.ntmps69 (by simp [prO]) ?_
 unfold LiPR lnV prO at *
 try unfold azV at *
 try unfold nothE at *
 simp only [lineR, lineO] at *
 refine run_ ?_
 refine rg_ ?_
 refine call_ (ps := []) (rid := 16) rfl rfl rfl rfl rfl (hs) ?_
 refine cr_ ?_
 refine auto0_ 7 [] ?_
 refine call_ (ps := [0]) (rid := 3584) rfl rfl rfl rfl rfl (hA) ?_
 refine cr_ ?_
 refine auto0_ 7 [] ?_
 refine call_ (ps := [0]) (rid := 16) rfl rfl rfl rfl rfl (hW) ?_
 refine cr_ ?_
 refine auto0_ 7 [] ?_
 refine call_ (ps := [0]) (rid := 4864) rfl rfl rfl rfl rfl (hB) ?_
 refine cr_ ?_
 refine run_ ?_
 refine rv_ ?_
 refine vdet_ 1280 [] 0 8 100 ?_
 refine vdet_ 1280 [] 0 14 101 ?_
 refine vdet_ 1280 [] 0 16 102 ?_
 exact RetV.mk 3 rfl rfl (by omega) rfl (by simp [noBoO, noBo, noBoL, noBo_exprs]) rfl ⟨rfl, rfl, rfl⟩
set_option maxHeartbeats 16000000 in
theorem pIns_jsr (l : List TokV) (b : Bool) (hl : l.length ≤ 1048576) (op : Int) (h : op = 15) : FnA Tryz.prog 69 false [.ptr 0 [] 2 0 0, .int .i64 op] (prO l b) (LiPR (cmI (fun r d => lnV 3 [] op azV d r []) (regI l b))) := by
 have hA := pReg_ok l b hl
 have la := reg_len l b
 generalize regI l b = A at *
 have hW := pWant_ok A.2.1 A.2.2 [44] (by omega)
 have lw := tkL_len A.2.1 [44]
 unfold cmI
 have hB := pArg_ok (tkL A.2.1 [44]) (A.2.2 || !isM A.2.1 [44]) (by omega)
 unfold mpI
 generalize argI (tkL A.2.1 [44]) (A.2.2 || !isM A.2.1 [44]) = B at *
 generalize (A.2.2 || !isM A.2.1 [44]) = b3 at *
 generalize tkL A.2.1 [44] = l3 at *
 obtain ⟨va, l2, b2⟩ := A
 obtain ⟨⟨fd, rd, ⟨kd, nd, sd, xd⟩⟩, l4, b4⟩ := B
 unfold ArPR argR at hB
 simp only at hA hB hW ⊢
 have hs := hasSrc_ok op
 rw [decide_eq_false (show ¬ (1 ≤ op ∧ op ≤ 6) by omega)] at hs
 have qj : (op == 15) = true := by rw [h]; rfl
 have qj' : (op = 15) = True := eq_true h
 refine FnA.of Tryz.func69 rfl (by decide) Tryz.ntmps69 (by simp [prO]) ?_
 unfold LiPR lnV prO at *
 try unfold azV at *
 try unfold nothE at *
 simp only [lineR, lineO] at *
 refine run_ ?_
 refine rg_ ?_
 refine call_ (ps := []) (rid := 16) rfl rfl rfl rfl rfl (hs) ?_
 refine cr_ ?_
 refine auto2_ 7 [] @qj @qj' ?_
 refine call_ (ps := [0]) (rid := 16) rfl rfl rfl rfl rfl (hA) ?_
 refine cr_ ?_
 refine auto0_ 7 [] ?_
 refine call_ (ps := [0]) (rid := 16) rfl rfl rfl rfl rfl (hW) ?_
 refine cr_ ?_
 refine auto0_ 7 [] ?_
 refine call_ (ps := [0]) (rid := 7680) rfl rfl rfl rfl rfl (hB) ?_
 refine cr_ ?_
 refine run_ ?_
 refine rv_ ?_
 refine vdet_ 1280 [] 0 8 100 ?_
 refine vdet_ 1280 [] 0 14 101 ?_
 refine vdet_ 1280 [] 0 16 102 ?_
 exact RetV.mk 3 rfl rfl (by omega) rfl (by simp [noBoO, noBo, noBoL, noBo_exprs]) rfl ⟨rfl, rfl, rfl⟩
set_option maxHeartbeats 16000000 in
theorem pIns_one (l : List TokV) (b : Bool) (hl : l.length ≤ 1048576) (op : Int) (h : 7 ≤ op ∧ op ≤ 14) : FnA Tryz.prog 69 false [.ptr 0 [] 2 0 0, .int .i64 op] (prO l b) (LiPR (mpI (fun d => lnV 3 [] op azV d 0 []) (argI l b))) := by
 have hB := pArg_ok l b hl
 unfold mpI
 generalize argI l b = B at *
 obtain ⟨⟨fd, rd, ⟨kd, nd, sd, xd⟩⟩, l4, b4⟩ := B
 unfold ArPR argR at hB
 simp only at hB ⊢
 have hs := hasSrc_ok op
 rw [decide_eq_false (show ¬ (1 ≤ op ∧ op ≤ 6) by omega)] at hs
 have qj : (op == 15) = false := beq_eq_false_iff_ne.2 (by omega)
 have qj' : (op = 15) = False := eq_false (by omega)
 have hd := hasDst_ok op
 rw [decide_eq_true (show 1 ≤ op ∧ op ≤ 15 by omega)] at hd
 refine FnA.of Tryz.func69 rfl (by decide) Tryz.ntmps69 (by simp [prO]) ?_
 unfold LiPR lnV prO at *
 try unfold azV at *
 try unfold nothE at *
 simp only [lineR, lineO] at *
 refine run_ ?_
 refine rg_ ?_
 refine call_ (ps := []) (rid := 16) rfl rfl rfl rfl rfl (hs) ?_
 refine cr_ ?_
 refine auto2_ 7 [] @qj @qj' ?_
 refine call_ (ps := []) (rid := 16) rfl rfl rfl rfl rfl (hd) ?_
 refine cr_ ?_
 refine auto0_ 7 [] ?_
 refine call_ (ps := [0]) (rid := 9216) rfl rfl rfl rfl rfl (hB) ?_
 refine cr_ ?_
 refine run_ ?_
 refine rv_ ?_
 refine vdet_ 1280 [] 0 8 100 ?_
 refine vdet_ 1280 [] 0 14 101 ?_
 refine vdet_ 1280 [] 0 16 102 ?_
 exact RetV.mk 3 rfl rfl (by omega) rfl (by simp [noBoO, noBo, noBoL, noBo_exprs]) rfl ⟨rfl, rfl, rfl⟩
set_option maxHeartbeats 16000000 in
theorem pIns_rts (l : List TokV) (b : Bool) (hl : l.length ≤ 1048576) (op : Int) (h : op = 16) : FnA Tryz.prog 69 false [.ptr 0 [] 2 0 0, .int .i64 op] (prO l b) (LiPR (mpI (fun r => lnV 3 [] op azV azV r []) (regI l b))) := by
 have hA := pReg_ok l b hl
 unfold mpI
 generalize regI l b = A at *
 obtain ⟨va, l2, b2⟩ := A
 simp only at hA ⊢
 have hs := hasSrc_ok op
 rw [decide_eq_false (show ¬ (1 ≤ op ∧ op ≤ 6) by omega)] at hs
 have qj : (op == 15) = false := beq_eq_false_iff_ne.2 (by omega)
 have qj' : (op = 15) = False := eq_false (by omega)
 have hd := hasDst_ok op
 rw [decide_eq_false (show ¬ (1 ≤ op ∧ op ≤ 15) by omega)] at hd
 have qk : (op == 16) = true := by rw [h]; rfl
 have qk' : (op = 16) = True := eq_true h
 refine FnA.of Tryz.func69 rfl (by decide) Tryz.ntmps69 (by simp [prO]) ?_
 unfold LiPR lnV prO at *
 try unfold azV at *
 try unfold nothE at *
 simp only [lineR, lineO] at *
 refine run_ ?_
 refine rg_ ?_
 refine call_ (ps := []) (rid := 16) rfl rfl rfl rfl rfl (hs) ?_
 refine cr_ ?_
 refine auto2_ 7 [] @qj @qj' ?_
 refine call_ (ps := []) (rid := 16) rfl rfl rfl rfl rfl (hd) ?_
 refine cr_ ?_
 refine auto2_ 7 [] @qk @qk' ?_
 refine call_ (ps := [0]) (rid := 16) rfl rfl rfl rfl rfl (hA) ?_
 refine cr_ ?_
 refine run_ ?_
 refine rv_ ?_
 refine vdet_ 1280 [] 0 8 100 ?_
 refine vdet_ 1280 [] 0 14 101 ?_
 refine vdet_ 1280 [] 0 16 102 ?_
 exact RetV.mk 3 rfl rfl (by omega) rfl (by simp [noBoO, noBo, noBoL, noBo_exprs]) rfl ⟨rfl, rfl, rfl⟩
set_option maxHeartbeats 16000000 in
theorem pIns_term (l : List TokV) (b : Bool) (hl : l.length ≤ 1048576) (op : Int) (h : (17 ≤ op ∧ op ≤ 21) ∨ op = 23) : FnA Tryz.prog 69 false [.ptr 0 [] 2 0 0, .int .i64 op] (prO l b) (LiPR (mpI (fun e => lnV 3 [] op azV azV 0 [e]) (exI 6 l b))) := by
 have hE := pExpr_ok 6 (by omega) l b hl
 unfold mpI
 generalize exI 6 l b = E at *
 obtain ⟨⟨ka, na, sa, xa⟩, l2, b2⟩ := E
 unfold ExPR exprR at hE
 simp only at hE ⊢
 have hs := hasSrc_ok op
 rw [decide_eq_false (show ¬ (1 ≤ op ∧ op ≤ 6) by omega)] at hs
 have qj : (op == 15) = false := beq_eq_false_iff_ne.2 (by omega)
 have qj' : (op = 15) = False := eq_false (by omega)
 have hd := hasDst_ok op
 rw [decide_eq_false (show ¬ (1 ≤ op ∧ op ≤ 15) by omega)] at hd
 have qk : (op == 16) = false := beq_eq_false_iff_ne.2 (by omega)
 have qk' : (op = 16) = False := eq_false (by omega)
 have ht := hasTerm_ok op
 rw [decide_eq_true (show (17 ≤ op ∧ op ≤ 21) ∨ op = 23 by omega)] at ht
 refine FnA.of Tryz.func69 rfl (by decide) Tryz.ntmps69 (by simp [prO]) ?_
 unfold LiPR lnV prO at *
 try unfold azV at *
 try unfold nothE at *
 simp only [lineR, lineO] at *
 refine run_ ?_
 refine rg_ ?_
 refine call_ (ps := []) (rid := 16) rfl rfl rfl rfl rfl (hs) ?_
 refine cr_ ?_
 refine auto2_ 7 [] @qj @qj' ?_
 refine call_ (ps := []) (rid := 16) rfl rfl rfl rfl rfl (hd) ?_
 refine cr_ ?_
 refine auto2_ 7 [] @qk @qk' ?_
 refine call_ (ps := []) (rid := 16) rfl rfl rfl rfl rfl (ht) ?_
 refine cr_ ?_
 refine auto0_ 7 [] ?_
 refine call_ (ps := [0]) (rid := 12288) rfl rfl rfl rfl rfl (hE) ?_
 refine cr_ ?_
 refine run_ ?_
 refine rv_ ?_
 refine vdet_ 1280 [] 0 8 100 ?_
 refine vdet_ 1280 [] 0 14 101 ?_
 refine vdet_ 1280 [] 0 16 102 ?_
 exact RetV.mk 3 rfl rfl (by omega) rfl (by simp [noBoO, noBo, noBoL, noBo_exprs]) rfl ⟨rfl, rfl, rfl⟩
set_option maxHeartbeats 16000000 in
theorem pIns_no (l : List TokV) (b : Bool) (hl : l.length ≤ 1048576) (op : Int) (h1 : ¬ (1 ≤ op ∧ op ≤ 15)) (h2 : op ≠ 16) (h3 : ¬ ((17 ≤ op ∧ op ≤ 21) ∨ op = 23)) : FnA Tryz.prog 69 false [.ptr 0 [] 2 0 0, .int .i64 op] (prO l b) (LiPR (lnV 3 [] op azV azV 0 [], l, b)) := by
 have hs := hasSrc_ok op
 rw [decide_eq_false (show ¬ (1 ≤ op ∧ op ≤ 6) by omega)] at hs
 have qj : (op == 15) = false := beq_eq_false_iff_ne.2 (by omega)
 have qj' : (op = 15) = False := eq_false (by omega)
 have hd := hasDst_ok op
 rw [decide_eq_false (show ¬ (1 ≤ op ∧ op ≤ 15) by omega)] at hd
 have qk : (op == 16) = false := beq_eq_false_iff_ne.2 (by omega)
 have qk' : (op = 16) = False := eq_false (by omega)
 have ht := hasTerm_ok op
 rw [decide_eq_false (show ¬ ((17 ≤ op ∧ op ≤ 21) ∨ op = 23) by omega)] at ht
 refine FnA.of Tryz.func69 rfl (by decide) Tryz.ntmps69 (by simp [prO]) ?_
 unfold LiPR lnV prO at *
 try unfold azV at *
 try unfold nothE at *
 simp only [lineR, lineO] at *
 refine run_ ?_
 refine rg_ ?_
 refine call_ (ps := []) (rid := 16) rfl rfl rfl rfl rfl (hs) ?_
 refine cr_ ?_
 refine auto2_ 7 [] @qj @qj' ?_
 refine call_ (ps := []) (rid := 16) rfl rfl rfl rfl rfl (hd) ?_
 refine cr_ ?_
 refine auto2_ 7 [] @qk @qk' ?_
 refine call_ (ps := []) (rid := 16) rfl rfl rfl rfl rfl (ht) ?_
 refine cr_ ?_
 refine auto0_ 7 [] ?_
 refine rv_ ?_
 refine vdet_ 1280 [] 0 8 100 ?_
 refine vdet_ 1280 [] 0 14 101 ?_
 refine vdet_ 1280 [] 0 16 102 ?_
 exact RetV.mk 3 rfl rfl (by omega) rfl (by simp [noBoO, noBo, noBoL, noBo_exprs]) rfl ⟨rfl, rfl, rfl⟩
theorem pIns_ok (l : List TokV) (b : Bool) (hl : l.length ≤ 1048576) (op : Int) : FnA Tryz.prog 69 false [.ptr 0 [] 2 0 0, .int .i64 op] (prO l b) (LiPR (insI op l b)) := by
 unfold insI
 by_cases c1 : 1 ≤ op ∧ op ≤ 6
 ·rw [if_pos c1]; exact pIns_two l b hl op c1
 rw [if_neg c1]
 by_cases c2 : op = 15
 ·rw [if_pos c2]; exact pIns_jsr l b hl op c2
 rw [if_neg c2]
 by_cases c3 : 1 ≤ op ∧ op ≤ 15
 ·rw [if_pos c3]; exact pIns_one l b hl op (by omega)
 rw [if_neg c3]
 by_cases c4 : op = 16
 ·rw [if_pos c4]; exact pIns_rts l b hl op c4
 rw [if_neg c4]
 by_cases c5 : (17 ≤ op ∧ op ≤ 21) ∨ op = 23
 ·rw [if_pos c5]; exact pIns_term l b hl op c5
 rw [if_neg c5]
 exact pIns_no l b hl op c3 c4 c5
end Go.Proofs.YtiilnlihimdnlaaGreatDoorFw
