/- Lines out of tokens: the reference's walk. -/
import Derived.Test.YtiilnlihimdnlaaGreatDoorJO
import Derived.Test.YtiilnlihimdnlaaGreatDoorJM
namespace Go.Proofs.YtiilnlihimdnlaaGreatDoorFw
open Go Go.RowKit
set_option linter.unusedVariables false
set_option linter.unusedSimpArgs false
set_option maxRecDepth 4000
structure RTS where
 i : Nat
 b : Bool
 more : Bool
 acc : List ExprV
def RTS.inv (L : List TokV) (V : List ExprV × Nat × Bool) (p : RTS) : Prop := (p.more = true → trms L p.i p.b p.acc = V) ∧ (p.more = false → (p.acc, p.i, p.b) = V) ∧ p.i ≤ L.length ∧ p.acc.length ≤ (if p.b = true then L.length + 1 else p.i)
def RTS.m (L : List TokV) (p : RTS) : Nat := if p.b = true ∨ p.more = false then 0 else L.length - p.i + 1
theorem RTS.step {L : List TokV} (hL : MarkOk2 L) {V : List ExprV × Nat × Bool} {i : Nat} {acc : List ExprV} (h : RTS.inv L V ⟨i, false, true, acc⟩) :
 RTS.inv L V ⟨tkI L (exS L 6 i false).2.1 (exS L 6 i false).2.2 [44], (exS L 6 i false).2.2, seS L (exS L 6 i false).2.1 (exS L 6 i false).2.2 [44], acc ++ [(exS L 6 i false).1]⟩ ∧
  RTS.m L ⟨tkI L (exS L 6 i false).2.1 (exS L 6 i false).2.2 [44], (exS L 6 i false).2.2, seS L (exS L 6 i false).2.1 (exS L 6 i false).2.2 [44], acc ++ [(exS L 6 i false).1]⟩ < RTS.m L ⟨i, false, true, acc⟩ := by
 obtain ⟨h1, _, h3, h4⟩ := h
 have h1 := h1 rfl
 simp only [Bool.false_eq_true, if_false] at h1 h3 h4
 have e1 := trms_more hL (i := i) (acc := acc)
 have e2 := trms_last (L := L) (i := i) (acc := acc)
 have hgt := exS_gt hL (d := 6) (i := i) (by omega)
 have hle := exS_le (L := L) 6 i false h3
 generalize exS L 6 i false = e at *
 have ht := tkI_le (L := L) (i := e.2.1) e.2.2 [44] hle
 refine ⟨⟨fun hm => ?_, fun hm => ?_, ht.2, ?_⟩, ?_⟩
 ·simp only at hm ⊢
  rw [← e1 hm, h1]
 ·simp only at hm ⊢
  rw [← e2 hm, h1]
 ·simp only [List.length_append, List.length_cons, List.length_nil]
  cases hb : e.2.2 with
  | true => simp only [if_true]; omega
  | false => have := hgt hb; rw [hb] at ht; simp only [Bool.false_eq_true, if_false]; omega
 ·have e0 : RTS.m L ⟨i, false, true, acc⟩ = L.length - i + 1 := by simp [RTS.m]
  rw [e0]
  unfold RTS.m
  simp only
  split
  ·omega
  ·rename_i c
   have hb : e.2.2 = false := by
    cases e2 : e.2.2 with
    | true => exact absurd (.inl e2) c
    | false => rfl
   have := hgt hb
   omega
theorem RTS.done {L : List TokV} {V : List ExprV × Nat × Bool} {p : RTS} (h : p.inv L V) (hc : ¬ (p.b = false ∧ p.more = true)) : (p.acc, p.i, p.b) = V := by
 obtain ⟨i, b, more, acc⟩ := p
 obtain ⟨h1, h2, _, _⟩ := h
 simp only at *
 cases more with
 | false => exact h2 rfl
 | true =>
  cases b with
  | false => exact absurd ⟨rfl, rfl⟩ hc
  | true => rw [← h1 rfl, trms_bad]
def TrSR (L : List TokV) (V : List ExprV × Nat × Bool) (r : AV) (os ros : List (Nat × List AV)) : Prop := r = .hd 100 [] ∧ os = rdO L V.2.1 V.2.2 ∧ ros = [(4, exprsA .own V.1)]
set_option maxHeartbeats 16000000 in
theorem rList_ok (L : List TokV) (hL : L.length ≤ 1048576) (hM : MarkOk2 L) (i : Nat) (b : Bool) (hi : i ≤ L.length) : FnA Tryz.prog 129 false [.ptr 0 [] 3 0 0] (rdO L i b) (TrSR L (trms L i b [])) := by
 have hi0 : RTS.inv L (trms L i b []) ⟨i, b, true, []⟩ := ⟨fun _ => rfl, fun h => (by cases h), hi, by simp only [List.length_nil]; exact Nat.zero_le _⟩
 generalize trms L i b [] = V at *
 refine FnA.of Tryz.func129 rfl (by decide) Tryz.ntmps129 (by simp [rdO]) ?_
 unfold TrSR rdO
 refine run_ ?_
 refine RunsA.loop ?_
 refine (LoopA.ind (fun p : RTS => ⟨24, [(0, .ptr 0 [] 3 0 0), (3, .hd 1792 []), (4, .bool p.more)], [⟨0, 3, [.agg [.row .ro 3 (toksA L), .int .i64 (p.i : Nat), .bool p.b]]⟩, ⟨1792, 4, exprsA .own p.acc⟩], false⟩)
  (fun p => p.m L) (fun p => p.inv L V) ?_ ⟨i, b, true, []⟩ hi0).sub rfl ?_ ?_ rfl
 ·intro p hp K3 hK3
  by_cases c : p.b = false ∧ p.more = true
  ·obtain ⟨pi, pb, more, acc⟩ := p
   simp only at c
   obtain ⟨rfl, rfl⟩ := c
   have hst := RTS.step hM hp
   have hb1 := hp.2.2.1
   have hb2 := hp.2.2.2
   simp only [Bool.false_eq_true, if_false] at hb1 hb2
   have hE := rExpr_ok L hL 6 (by omega) 1 (by omega) pi false hb1
   have hle := exS_le (L := L) 6 pi false hb1
   generalize exS L 6 pi false = E at *
   obtain ⟨⟨ka, na, sa, xa⟩, i2, b2⟩ := E
   simp only at hst hle
   have hT := rIs3_ok L i2 b2 [44] hL hle
   unfold ExSR at hE
   simp only [exprR] at hE
   have hsn := exprsA_snoc .own acc (.mk ka na sa xa)
   rw [exprA_mk] at hsn
   clear hp
   unfold rdO at *
   refine auto0_ 6 [] ?_
   refine call_ (ps := [0]) (rid := 4352) rfl rfl rfl rfl rfl (hE) ?_
   refine cr_ ?_
   repeat' (first | refine ⟨by omega, ?_⟩ | (refine hJ _ _ (RunsL.nil ?_); clear hJ J) | refine RunsA.cond rfl (fun h => ?_) (fun h => absurd h (by decide)) | refine RunsA.cond rfl (fun h => absurd h (by decide)) (fun h => ?_) | (refine step_ ?_) | (refine RunsA.rk 6 [] tabOk fun J hJ => ?_; simp only [go_sem, ↓reduceIte, Nat.reduceAdd, Nat.reduceSub, Nat.reduceMul, Nat.reduceLT, Nat.reduceLeDiff, Nat.reduceEqDiff, Nat.reduceBEq, Int.reduceToNat, exprsA_len, List.length_cons, List.length_nil, hsn]; try simp (disch := omega) only [wrap_id]) | simp only [↓reduceIte, not_false_eq_true, exprsA_len, List.length_cons, List.length_nil, hsn])
   refine hJ _ _ (call_ (ps := [0]) (rid := 16) rfl rfl rfl rfl rfl (hT) ?_); clear hJ J
   rintro r os' ros ⟨rfl, rfl, rfl⟩ _
   refine cg_ ?_
   refine RunsL.nil ?_
   refine run_ ?_
   exact hK3 _ _ hst.1 hst.2 rfl (by simp [SubS, lookS]) (by simp [SubO, lookO, hsn]) rfl
  ·have hV := RTS.done hp c
   obtain ⟨pi, pb, more, acc⟩ := p
   subst hV
   simp only at c ⊢
   have hm : (pb = true ∧ more = true) ∨ (pb = true ∧ more = false) ∨ (pb = false ∧ more = false) := by
    cases pb <;> cases more <;> simp at c ⊢
   clear c hp
   rcases hm with ⟨rfl, rfl⟩ | ⟨rfl, rfl⟩ | ⟨rfl, rfl⟩
   all_goals (
    refine auto0_ 6 [] ?_
    refine rv_ ?_
    refine vren_ 1792 100 ?_
    exact RetV.mk 1 rfl rfl (by omega) rfl (by simp [noBoO, noBoL, noBo, noBo_exprs]) rfl ⟨rfl, rfl, rfl⟩)
 ·simp [SubS, lookS]
 ·simp [SubO, lookO, exprsA]
def LiSR (L : List TokV) (V : LineV × Nat × Bool) (r : AV) (os ros : List (Nat × List AV)) : Prop := r = lineR V.1 ∧ os = rdO L V.2.1 V.2.2 ∧ ros = lineO V.1
set_option maxHeartbeats 16000000 in
theorem rIns_two (L : List TokV) (hL : L.length ≤ 1048576) (i : Nat) (b : Bool) (hi : i ≤ L.length) (op : Int) (h : op ≤ 6) : FnA Tryz.prog 101 false [.ptr 0 [] 3 0 0, .int .i64 op] (rdO L i b) (LiSR L (cmS L (fun a d => lnV 3 [] op a d 0 []) (argS L i b))) := by
 have hA := rArg_ok L hL i b hi
 have la := argS_le (L := L) b hi
 generalize argS L i b = A at *
 have hW := rMust3_ok L A.2.1 A.2.2 [44] hL la
 unfold cmS
 have hB := rArg_ok L hL (tkI L A.2.1 A.2.2 [44]) (A.2.2 || !seS L A.2.1 A.2.2 [44]) (tkS_le _ _ la)
 unfold mpS
 generalize argS L (tkI L A.2.1 A.2.2 [44]) (A.2.2 || !seS L A.2.1 A.2.2 [44]) = B at *
 generalize (A.2.2 || !seS L A.2.1 A.2.2 [44]) = b3 at *
 generalize tkI L A.2.1 A.2.2 [44] = i3 at *
 obtain ⟨⟨fa, ra, ⟨ka, na, sa, xa⟩⟩, i2, b2⟩ := A
 obtain ⟨⟨fd, rd, ⟨kd, nd, sd, xd⟩⟩, i4, b4⟩ := B
 unfold ArSR argR at hA hB
 simp only at hA hB hW ⊢
 have q6 : decide (op ≤ 6) = true := decide_eq_true (by omega)
 have q6' : (op ≤ 6) = True := eq_true (by omega)
 refine FnA.of Tryz.func101 rfl (by decide) Tryz.ntmps101 (by simp [rdO]) ?_
 unfold LiSR rdO at *
 try unfold lnV at *
 try unfold azV at *
 try unfold nothE at *
 simp only [lineR, lineO] at *
 refine auto2_ 7 [] @q6 @q6' ?_
 refine call_ (ps := [0]) (rid := 3584) rfl rfl rfl rfl rfl (hA) ?_
 refine cr_ ?_
 refine auto0_ 7 [] ?_
 refine call_ (ps := [0]) (rid := 16) rfl rfl rfl rfl rfl (hW) ?_
 refine cr_ ?_
 refine auto0_ 7 [] ?_
 refine call_ (ps := [0]) (rid := 4864) rfl rfl rfl rfl rfl (hB) ?_
 refine cr_ ?_
 refine run_ ?_
 refine rv_ ?_
 refine vdet_ 1280 [] 0 8 100 ?_
 refine vdet_ 1280 [] 0 14 101 ?_
 refine vdet_ 1280 [] 0 16 102 ?_
 exact RetV.mk 3 rfl rfl (by omega) rfl (by simp [noBoO, noBo, noBoL, noBo_exprs]) rfl ⟨rfl, rfl, rfl⟩
set_option maxHeartbeats 16000000 in
theorem rIns_one (L : List TokV) (hL : L.length ≤ 1048576) (i : Nat) (b : Bool) (hi : i ≤ L.length) (op : Int) (h : ¬ op ≤ 6) (h2 : op ≤ 14) : FnA Tryz.prog 101 false [.ptr 0 [] 3 0 0, .int .i64 op] (rdO L i b) (LiSR L (mpS (fun d => lnV 3 [] op azV d 0 []) (argS L i b))) := by
 have hB := rArg_ok L hL i b hi
 unfold mpS
 generalize argS L i b = B at *
 obtain ⟨⟨fd, rd, ⟨kd, nd, sd, xd⟩⟩, i4, b4⟩ := B
 unfold ArSR argR at hB
 simp only at hB ⊢
 have q6 : decide (op ≤ 6) = false := decide_eq_false (by omega)
 have q6' : (op ≤ 6) = False := eq_false (by omega)
 have q14 : decide (op ≤ 14) = true := decide_eq_true (by omega)
 have q14' : (op ≤ 14) = True := eq_true (by omega)
 refine FnA.of Tryz.func101 rfl (by decide) Tryz.ntmps101 (by simp [rdO]) ?_
 unfold LiSR rdO at *
 try unfold lnV at *
 try unfold azV at *
 try unfold nothE at *
 simp only [lineR, lineO] at *
 refine auto4_ 7 [] @q6 @q6' @q14 @q14' ?_
 refine call_ (ps := [0]) (rid := 6400) rfl rfl rfl rfl rfl (hB) ?_
 refine cr_ ?_
 refine run_ ?_
 refine rv_ ?_
 refine vdet_ 1280 [] 0 8 100 ?_
 refine vdet_ 1280 [] 0 14 101 ?_
 refine vdet_ 1280 [] 0 16 102 ?_
 exact RetV.mk 3 rfl rfl (by omega) rfl (by simp [noBoO, noBo, noBoL, noBo_exprs]) rfl ⟨rfl, rfl, rfl⟩
set_option maxHeartbeats 16000000 in
theorem rIns_jsr (L : List TokV) (hL : L.length ≤ 1048576) (i : Nat) (b : Bool) (hi : i ≤ L.length) (op : Int) (h : op = 15) : FnA Tryz.prog 101 false [.ptr 0 [] 3 0 0, .int .i64 op] (rdO L i b) (LiSR L (cmS L (fun t d => lnV 3 [] op azV d (rgS t) []) (nxS L i b))) := by
 have hN := rNext_ok L i b (by omega) hi
 have la := nxS_le (L := L) b hi
 generalize nxS L i b = A at *
 have hW := rMust3_ok L A.2.1 A.2.2 [44] hL la
 unfold cmS
 have hB := rArg_ok L hL (tkI L A.2.1 A.2.2 [44]) (A.2.2 || !seS L A.2.1 A.2.2 [44]) (tkS_le _ _ la)
 unfold mpS
 generalize argS L (tkI L A.2.1 A.2.2 [44]) (A.2.2 || !seS L A.2.1 A.2.2 [44]) = B at *
 generalize (A.2.2 || !seS L A.2.1 A.2.2 [44]) = b3 at *
 generalize tkI L A.2.1 A.2.2 [44] = i3 at *
 obtain ⟨⟨kt, nt, st⟩, i2, b2⟩ := A
 have hR := rReg_ok kt nt st
 obtain ⟨⟨fd, rd, ⟨kd, nd, sd, xd⟩⟩, i4, b4⟩ := B
 unfold ArSR argR at hB
 simp only [tokA] at hN hB hW ⊢
 generalize rgS ⟨kt, nt, st⟩ = v at *
 have q6 : decide (op ≤ 6) = false := decide_eq_false (by omega)
 have q6' : (op ≤ 6) = False := eq_false (by omega)
 have q14 : decide (op ≤ 14) = false := decide_eq_false (by omega)
 have q14' : (op ≤ 14) = False := eq_false (by omega)
 have q15 : (op == 15) = true := beq_iff_eq.2 (by omega)
 have q15' : (op = 15) = True := eq_true (by omega)
 refine FnA.of Tryz.func101 rfl (by decide) Tryz.ntmps101 (by simp [rdO]) ?_
 unfold LiSR rdO at *
 try unfold lnV at *
 try unfold azV at *
 try unfold nothE at *
 simp only [lineR, lineO] at *
 refine auto6_ 7 [] @q6 @q6' @q14 @q14' @q15 @q15' ?_
 refine call_ (ps := [0]) (rid := 16) rfl rfl rfl rfl rfl (hN) ?_
 rintro r os' ros ⟨rfl, rfl, rfl⟩ _
 refine cg_ ?_
 refine call_ (ps := []) (rid := 16) rfl rfl rfl rfl rfl (hR) ?_
 refine cr_ ?_
 refine auto0_ 7 [] ?_
 refine call_ (ps := [0]) (rid := 16) rfl rfl rfl rfl rfl (hW) ?_
 refine cr_ ?_
 refine auto0_ 7 [] ?_
 refine call_ (ps := [0]) (rid := 9472) rfl rfl rfl rfl rfl (hB) ?_
 refine cr_ ?_
 refine run_ ?_
 refine rv_ ?_
 refine vdet_ 1280 [] 0 8 100 ?_
 refine vdet_ 1280 [] 0 14 101 ?_
 refine vdet_ 1280 [] 0 16 102 ?_
 exact RetV.mk 3 rfl rfl (by omega) rfl (by simp [noBoO, noBo, noBoL, noBo_exprs]) rfl ⟨rfl, rfl, rfl⟩
set_option maxHeartbeats 16000000 in
theorem rIns_rts (L : List TokV) (hL : L.length ≤ 1048576) (i : Nat) (b : Bool) (hi : i ≤ L.length) (op : Int) (h : op = 16) : FnA Tryz.prog 101 false [.ptr 0 [] 3 0 0, .int .i64 op] (rdO L i b) (LiSR L (mpS (fun t => lnV 3 [] op azV azV (rgS t) []) (nxS L i b))) := by
 have hN := rNext_ok L i b (by omega) hi
 have la := nxS_le (L := L) b hi
 generalize nxS L i b = A at *
 unfold mpS
 obtain ⟨⟨kt, nt, st⟩, i2, b2⟩ := A
 have hR := rReg_ok kt nt st
 simp only [tokA] at hN ⊢
 generalize rgS ⟨kt, nt, st⟩ = v at *
 have q6 : decide (op ≤ 6) = false := decide_eq_false (by omega)
 have q6' : (op ≤ 6) = False := eq_false (by omega)
 have q14 : decide (op ≤ 14) = false := decide_eq_false (by omega)
 have q14' : (op ≤ 14) = False := eq_false (by omega)
 have q15 : (op == 15) = false := beq_eq_false_iff_ne.2 (by omega)
 have q15' : (op = 15) = False := eq_false (by omega)
 have q16 : (op == 16) = true := beq_iff_eq.2 (by omega)
 have q16' : (op = 16) = True := eq_true (by omega)
 refine FnA.of Tryz.func101 rfl (by decide) Tryz.ntmps101 (by simp [rdO]) ?_
 unfold LiSR rdO at *
 try unfold lnV at *
 try unfold azV at *
 try unfold nothE at *
 simp only [lineR, lineO] at *
 refine auto8_ 7 [] @q6 @q6' @q14 @q14' @q15 @q15' @q16 @q16' ?_
 refine call_ (ps := [0]) (rid := 16) rfl rfl rfl rfl rfl (hN) ?_
 rintro r os' ros ⟨rfl, rfl, rfl⟩ _
 refine cg_ ?_
 refine call_ (ps := []) (rid := 16) rfl rfl rfl rfl rfl (hR) ?_
 refine cr_ ?_
 refine run_ ?_
 refine rv_ ?_
 refine vdet_ 1280 [] 0 8 100 ?_
 refine vdet_ 1280 [] 0 14 101 ?_
 refine vdet_ 1280 [] 0 16 102 ?_
 exact RetV.mk 3 rfl rfl (by omega) rfl (by simp [noBoO, noBo, noBoL, noBo_exprs]) rfl ⟨rfl, rfl, rfl⟩
set_option maxHeartbeats 16000000 in
theorem rIns_term (L : List TokV) (hL : L.length ≤ 1048576) (i : Nat) (b : Bool) (hi : i ≤ L.length) (op : Int) (h1 : ¬ op ≤ 14) (h2 : op ≠ 15) (h3 : op ≠ 16) (h4 : op ≠ 22) : FnA Tryz.prog 101 false [.ptr 0 [] 3 0 0, .int .i64 op] (rdO L i b) (LiSR L (mpS (fun e => lnV 3 [] op azV azV 0 [e]) (exS L 6 i b))) := by
 have hE := rExpr_ok L hL 6 (by omega) 1 (by omega) i b hi
 unfold mpS
 generalize exS L 6 i b = E at *
 obtain ⟨⟨ka, na, sa, xa⟩, i2, b2⟩ := E
 unfold ExSR exprR at hE
 simp only at hE ⊢
 have q6 : decide (op ≤ 6) = false := decide_eq_false (by omega)
 have q6' : (op ≤ 6) = False := eq_false (by omega)
 have q14 : decide (op ≤ 14) = false := decide_eq_false (by omega)
 have q14' : (op ≤ 14) = False := eq_false (by omega)
 have q15 : (op == 15) = false := beq_eq_false_iff_ne.2 (by omega)
 have q15' : (op = 15) = False := eq_false (by omega)
 have q16 : (op == 16) = false := beq_eq_false_iff_ne.2 (by omega)
 have q16' : (op = 16) = False := eq_false (by omega)
 have q22 : (op != 22) = true := bne_iff_ne.2 (by omega)
 have q22' : (op = 22) = False := eq_false (by omega)
 refine FnA.of Tryz.func101 rfl (by decide) Tryz.ntmps101 (by simp [rdO]) ?_
 unfold LiSR rdO at *
 try unfold lnV at *
 try unfold azV at *
 try unfold nothE at *
 simp only [lineR, lineO] at *
 refine auto11_ 7 [] @q6 @q6' @q14 @q14' @q15 @q15' @q16 @q16' @q22 @q22' @q22' ?_
 refine call_ (ps := [0]) (rid := 12800) rfl rfl rfl rfl rfl (hE) ?_
 refine cr_ ?_
 refine run_ ?_
 refine rv_ ?_
 refine vdet_ 1280 [] 0 8 100 ?_
 refine vdet_ 1280 [] 0 14 101 ?_
 refine vdet_ 1280 [] 0 16 102 ?_
 exact RetV.mk 3 rfl rfl (by omega) rfl (by simp [noBoO, noBo, noBoL, noBo_exprs]) rfl ⟨rfl, rfl, rfl⟩
set_option maxHeartbeats 16000000 in
theorem rIns_no (L : List TokV) (hL : L.length ≤ 1048576) (i : Nat) (b : Bool) (hi : i ≤ L.length) (op : Int) (h : op = 22) : FnA Tryz.prog 101 false [.ptr 0 [] 3 0 0, .int .i64 op] (rdO L i b) (LiSR L (lnV 3 [] op azV azV 0 [], i, b)) := by
 have q6 : decide (op ≤ 6) = false := decide_eq_false (by omega)
 have q6' : (op ≤ 6) = False := eq_false (by omega)
 have q14 : decide (op ≤ 14) = false := decide_eq_false (by omega)
 have q14' : (op ≤ 14) = False := eq_false (by omega)
 have q15 : (op == 15) = false := beq_eq_false_iff_ne.2 (by omega)
 have q15' : (op = 15) = False := eq_false (by omega)
 have q16 : (op == 16) = false := beq_eq_false_iff_ne.2 (by omega)
 have q16' : (op = 16) = False := eq_false (by omega)
 have q22 : (op != 22) = false := by rw [h]; rfl
 have q22' : (op = 22) = True := eq_true h
 refine FnA.of Tryz.func101 rfl (by decide) Tryz.ntmps101 (by simp [rdO]) ?_
 unfold LiSR rdO at *
 try unfold lnV at *
 try unfold azV at *
 try unfold nothE at *
 simp only [lineR, lineO] at *
 refine auto11_ 7 [] @q6 @q6' @q14 @q14' @q15 @q15' @q16 @q16' @q22 @q22' @q22' ?_
 refine rv_ ?_
 refine vdet_ 1280 [] 0 8 100 ?_
 refine vdet_ 1280 [] 0 14 101 ?_
 refine vdet_ 1280 [] 0 16 102 ?_
 exact RetV.mk 3 rfl rfl (by omega) rfl (by simp [noBoO, noBo, noBoL, noBo_exprs]) rfl ⟨rfl, rfl, rfl⟩
theorem rIns_ok (L : List TokV) (hL : L.length ≤ 1048576) (i : Nat) (b : Bool) (hi : i ≤ L.length) (op : Int) : FnA Tryz.prog 101 false [.ptr 0 [] 3 0 0, .int .i64 op] (rdO L i b) (LiSR L (insS L op i b)) := by
 unfold insS
 by_cases c1 : op ≤ 6
 ·rw [if_pos c1]; exact rIns_two L hL i b hi op c1
 rw [if_neg c1]
 by_cases c2 : op ≤ 14
 ·rw [if_pos c2]; exact rIns_one L hL i b hi op c1 c2
 rw [if_neg c2]
 by_cases c3 : op = 15
 ·rw [if_pos c3]; exact rIns_jsr L hL i b hi op c3
 rw [if_neg c3]
 by_cases c4 : op = 16
 ·rw [if_pos c4]; exact rIns_rts L hL i b hi op c4
 rw [if_neg c4]
 by_cases c5 : op ≠ 22
 ·rw [if_pos c5]; exact rIns_term L hL i b hi op c2 c3 c4 c5
 rw [if_neg c5]
 exact rIns_no L hL i b hi op (by omega)
set_option maxHeartbeats 16000000 in
theorem rDot_0 (L : List TokV) (hL : L.length ≤ 1048576) (hM : MarkOk2 L) (i : Nat) (b : Bool) (hi : i ≤ L.length) (w : Str)  (h : w = wordW) : FnA Tryz.prog 102 false [.ptr 0 [] 3 0 0, .str w] (rdO L i b) (LiSR L (mpS (fun x => lnV 4 [] 0 azV azV 0 x) (trmS L (L.length - i + 1) i b []))) := by
 have q0 : (w == [46, 119, 111, 114, 100]) = true := by rw [h]; rfl
 have q0' : (w = [46, 119, 111, 114, 100]) = True := eq_true h
 have hT := rList_ok L hL hM i b hi
 unfold trms at hT
 unfold mpS
 generalize trmS L (L.length - i + 1) i b [] = T at *
 obtain ⟨x, i2, b2⟩ := T
 unfold TrSR at hT
 simp only at hT ⊢
 refine FnA.of Tryz.func102 rfl (by decide) Tryz.ntmps102 (by simp [rdO]) ?_
 unfold LiSR rdO at *
 try unfold lnV at *
 try unfold azV at *
 try unfold nothE at *
 simp only [lineR, lineO] at *
 refine auto2_ 6 [6] @q0 @q0' ?_
 refine call_ (ps := [0]) (rid := 2816) rfl rfl rfl rfl rfl (hT) ?_
 refine cr_ ?_
 refine run_ ?_
 refine rv_ ?_
 refine vdet_ 1280 [] 0 8 100 ?_
 refine vdet_ 1280 [] 0 14 101 ?_
 refine vdet_ 1280 [] 0 16 102 ?_
 exact RetV.mk 3 rfl rfl (by omega) rfl (by simp [noBoO, noBo, noBoL, noBo_exprs]) rfl ⟨rfl, rfl, rfl⟩
set_option maxHeartbeats 16000000 in
theorem rDot_1 (L : List TokV) (hL : L.length ≤ 1048576) (hM : MarkOk2 L) (i : Nat) (b : Bool) (hi : i ≤ L.length) (w : Str) (n0 : w ≠ wordW) (h : w = blkW) : FnA Tryz.prog 102 false [.ptr 0 [] 3 0 0, .str w] (rdO L i b) (LiSR L (mpS (fun x => lnV 5 [] 0 azV azV 0 x) (trmS L (L.length - i + 1) i b []))) := by
 have q0 : (w == [46, 119, 111, 114, 100]) = false := beq_eq_false_iff_ne.2 n0
 have q0' : (w = [46, 119, 111, 114, 100]) = False := eq_false n0
 have q1 : (w == [46, 98, 108, 107, 119]) = true := by rw [h]; rfl
 have q1' : (w = [46, 98, 108, 107, 119]) = True := eq_true h
 have hT := rList_ok L hL hM i b hi
 unfold trms at hT
 unfold mpS
 generalize trmS L (L.length - i + 1) i b [] = T at *
 obtain ⟨x, i2, b2⟩ := T
 unfold TrSR at hT
 simp only at hT ⊢
 refine FnA.of Tryz.func102 rfl (by decide) Tryz.ntmps102 (by simp [rdO]) ?_
 unfold LiSR rdO at *
 try unfold lnV at *
 try unfold azV at *
 try unfold nothE at *
 simp only [lineR, lineO] at *
 refine auto4_ 6 [6] @q0 @q0' @q1 @q1' ?_
 refine call_ (ps := [0]) (rid := 4096) rfl rfl rfl rfl rfl (hT) ?_
 refine cr_ ?_
 refine run_ ?_
 refine rv_ ?_
 refine vdet_ 1280 [] 0 8 100 ?_
 refine vdet_ 1280 [] 0 14 101 ?_
 refine vdet_ 1280 [] 0 16 102 ?_
 exact RetV.mk 3 rfl rfl (by omega) rfl (by simp [noBoO, noBo, noBoL, noBo_exprs]) rfl ⟨rfl, rfl, rfl⟩
set_option maxHeartbeats 16000000 in
theorem rDot_2 (L : List TokV) (hL : L.length ≤ 1048576) (hM : MarkOk2 L) (i : Nat) (b : Bool) (hi : i ≤ L.length) (w : Str) (n0 : w ≠ wordW) (n1 : w ≠ blkW) (h : w = globW) : FnA Tryz.prog 102 false [.ptr 0 [] 3 0 0, .str w] (rdO L i b) (LiSR L (mpS (fun x => lnV 7 [] 0 azV azV 0 x) (trmS L (L.length - i + 1) i b []))) := by
 have q0 : (w == [46, 119, 111, 114, 100]) = false := beq_eq_false_iff_ne.2 n0
 have q0' : (w = [46, 119, 111, 114, 100]) = False := eq_false n0
 have q1 : (w == [46, 98, 108, 107, 119]) = false := beq_eq_false_iff_ne.2 n1
 have q1' : (w = [46, 98, 108, 107, 119]) = False := eq_false n1
 have q2 : (w == [46, 103, 108, 111, 98, 108]) = true := by rw [h]; rfl
 have q2' : (w = [46, 103, 108, 111, 98, 108]) = True := eq_true h
 have hT := rList_ok L hL hM i b hi
 unfold trms at hT
 unfold mpS
 generalize trmS L (L.length - i + 1) i b [] = T at *
 obtain ⟨x, i2, b2⟩ := T
 unfold TrSR at hT
 simp only at hT ⊢
 refine FnA.of Tryz.func102 rfl (by decide) Tryz.ntmps102 (by simp [rdO]) ?_
 unfold LiSR rdO at *
 try unfold lnV at *
 try unfold azV at *
 try unfold nothE at *
 simp only [lineR, lineO] at *
 refine auto6_ 6 [6] @q0 @q0' @q1 @q1' @q2 @q2' ?_
 refine call_ (ps := [0]) (rid := 5376) rfl rfl rfl rfl rfl (hT) ?_
 refine cr_ ?_
 refine run_ ?_
 refine rv_ ?_
 refine vdet_ 1280 [] 0 8 100 ?_
 refine vdet_ 1280 [] 0 14 101 ?_
 refine vdet_ 1280 [] 0 16 102 ?_
 exact RetV.mk 3 rfl rfl (by omega) rfl (by simp [noBoO, noBo, noBoL, noBo_exprs]) rfl ⟨rfl, rfl, rfl⟩
set_option maxHeartbeats 16000000 in
theorem rDot_3 (L : List TokV) (hL : L.length ≤ 1048576) (hM : MarkOk2 L) (i : Nat) (b : Bool) (hi : i ≤ L.length) (w : Str) (n0 : w ≠ wordW) (n1 : w ≠ blkW) (n2 : w ≠ globW) (h : w = endW) : FnA Tryz.prog 102 false [.ptr 0 [] 3 0 0, .str w] (rdO L i b) (LiSR L (lnV 8 [] 0 azV azV 0 [], i, b)) := by
 have q0 : (w == [46, 119, 111, 114, 100]) = false := beq_eq_false_iff_ne.2 n0
 have q0' : (w = [46, 119, 111, 114, 100]) = False := eq_false n0
 have q1 : (w == [46, 98, 108, 107, 119]) = false := beq_eq_false_iff_ne.2 n1
 have q1' : (w = [46, 98, 108, 107, 119]) = False := eq_false n1
 have q2 : (w == [46, 103, 108, 111, 98, 108]) = false := beq_eq_false_iff_ne.2 n2
 have q2' : (w = [46, 103, 108, 111, 98, 108]) = False := eq_false n2
 have q3 : (w == [46, 101, 110, 100]) = true := by rw [h]; rfl
 have q3' : (w = [46, 101, 110, 100]) = True := eq_true h
 refine FnA.of Tryz.func102 rfl (by decide) Tryz.ntmps102 (by simp [rdO]) ?_
 unfold LiSR rdO at *
 try unfold lnV at *
 try unfold azV at *
 try unfold nothE at *
 simp only [lineR, lineO] at *
 refine auto8_ 6 [6] @q0 @q0' @q1 @q1' @q2 @q2' @q3 @q3' ?_
 refine rv_ ?_
 refine vdet_ 1280 [] 0 8 100 ?_
 refine vdet_ 1280 [] 0 14 101 ?_
 refine vdet_ 1280 [] 0 16 102 ?_
 exact RetV.mk 3 rfl rfl (by omega) rfl (by simp [noBoO, noBo, noBoL, noBo_exprs]) rfl ⟨rfl, rfl, rfl⟩
set_option maxHeartbeats 16000000 in
theorem rDot_4true (L : List TokV) (hL : L.length ≤ 1048576) (hM : MarkOk2 L) (i : Nat) (b : Bool) (hi : i ≤ L.length) (w : Str) (n0 : w ≠ wordW) (n1 : w ≠ blkW) (n2 : w ≠ globW) (n3 : w ≠ endW) (h : w = sectW) (hy : seS L (nxS L i b).2.1 (nxS L i b).2.2 [44] = true) : FnA Tryz.prog 102 false [.ptr 0 [] 3 0 0, .str w] (rdO L i b) (LiSR L (sctS L (nxS L i b))) := by
 have q0 : (w == [46, 119, 111, 114, 100]) = false := beq_eq_false_iff_ne.2 n0
 have q0' : (w = [46, 119, 111, 114, 100]) = False := eq_false n0
 have q1 : (w == [46, 98, 108, 107, 119]) = false := beq_eq_false_iff_ne.2 n1
 have q1' : (w = [46, 98, 108, 107, 119]) = False := eq_false n1
 have q2 : (w == [46, 103, 108, 111, 98, 108]) = false := beq_eq_false_iff_ne.2 n2
 have q2' : (w = [46, 103, 108, 111, 98, 108]) = False := eq_false n2
 have q3 : (w == [46, 101, 110, 100]) = false := beq_eq_false_iff_ne.2 n3
 have q3' : (w = [46, 101, 110, 100]) = False := eq_false n3
 have q4 : (w == [46, 115, 101, 99, 116]) = true := by rw [h]; rfl
 have q4' : (w = [46, 115, 101, 99, 116]) = True := eq_true h
 have hN := rNext_ok L i b (by omega) hi
 have la := nxS_le (L := L) b hi
 unfold sctS
 generalize nxS L i b = A at *
 have hT := rIs3_ok L A.2.1 A.2.2 [44] hL la
 rw [hy] at hT ⊢
 have hW := rMust3_ok L (tkI L A.2.1 A.2.2 [44]) A.2.2 [111, 118, 101, 114] hL (tkS_le _ _ la)
 simp only [if_true]
 have eo : overW = [111, 118, 101, 114] := rfl
 rw [eo]
 obtain ⟨⟨kt, nt, st⟩, i2, b2⟩ := A
 simp only [tokA] at *
 generalize (b2 || !seS L (tkI L i2 b2 [44]) b2 [111, 118, 101, 114]) = b4 at *
 generalize tkI L (tkI L i2 b2 [44]) b2 [111, 118, 101, 114] = i4 at *
 generalize tkI L i2 b2 [44] = i3 at *
 refine FnA.of Tryz.func102 rfl (by decide) Tryz.ntmps102 (by simp [rdO]) ?_
 unfold LiSR rdO at *
 try unfold lnV at *
 try unfold azV at *
 try unfold nothE at *
 simp only [lineR, lineO] at *
 refine auto11_ 6 [6] @q0 @q0' @q1 @q1' @q2 @q2' @q3 @q3' @q4 @q4' @q4' ?_
 refine call_ (ps := [0]) (rid := 16) rfl rfl rfl rfl rfl (hN) ?_
 refine cr_ ?_
 refine auto0_ 6 [6] ?_
 refine call_ (ps := [0]) (rid := 16) rfl rfl rfl rfl rfl (hT) ?_
 refine cr_ ?_
 refine auto0_ 6 [6] ?_
 refine call_ (ps := [0]) (rid := 16) rfl rfl rfl rfl rfl (hW) ?_
 refine cr_ ?_
 refine auto0_ 6 [6] ?_
 refine rv_ ?_
 refine vdet_ 1280 [] 0 8 100 ?_
 refine vdet_ 1280 [] 0 14 101 ?_
 refine vdet_ 1280 [] 0 16 102 ?_
 exact RetV.mk 3 rfl rfl (by omega) rfl (by simp [noBoO, noBo, noBoL, noBo_exprs]) rfl ⟨rfl, rfl, rfl⟩
set_option maxHeartbeats 16000000 in
theorem rDot_4false (L : List TokV) (hL : L.length ≤ 1048576) (hM : MarkOk2 L) (i : Nat) (b : Bool) (hi : i ≤ L.length) (w : Str) (n0 : w ≠ wordW) (n1 : w ≠ blkW) (n2 : w ≠ globW) (n3 : w ≠ endW) (h : w = sectW) (hy : seS L (nxS L i b).2.1 (nxS L i b).2.2 [44] = false) : FnA Tryz.prog 102 false [.ptr 0 [] 3 0 0, .str w] (rdO L i b) (LiSR L (sctS L (nxS L i b))) := by
 have q0 : (w == [46, 119, 111, 114, 100]) = false := beq_eq_false_iff_ne.2 n0
 have q0' : (w = [46, 119, 111, 114, 100]) = False := eq_false n0
 have q1 : (w == [46, 98, 108, 107, 119]) = false := beq_eq_false_iff_ne.2 n1
 have q1' : (w = [46, 98, 108, 107, 119]) = False := eq_false n1
 have q2 : (w == [46, 103, 108, 111, 98, 108]) = false := beq_eq_false_iff_ne.2 n2
 have q2' : (w = [46, 103, 108, 111, 98, 108]) = False := eq_false n2
 have q3 : (w == [46, 101, 110, 100]) = false := beq_eq_false_iff_ne.2 n3
 have q3' : (w = [46, 101, 110, 100]) = False := eq_false n3
 have q4 : (w == [46, 115, 101, 99, 116]) = true := by rw [h]; rfl
 have q4' : (w = [46, 115, 101, 99, 116]) = True := eq_true h
 have hN := rNext_ok L i b (by omega) hi
 have la := nxS_le (L := L) b hi
 unfold sctS
 generalize nxS L i b = A at *
 have hT := rIs3_ok L A.2.1 A.2.2 [44] hL la
 rw [hy] at hT ⊢
 simp only [Bool.false_eq_true, if_false]
 obtain ⟨⟨kt, nt, st⟩, i2, b2⟩ := A
 simp only [tokA] at *
 generalize tkI L i2 b2 [44] = i3 at *
 refine FnA.of Tryz.func102 rfl (by decide) Tryz.ntmps102 (by simp [rdO]) ?_
 unfold LiSR rdO at *
 try unfold lnV at *
 try unfold azV at *
 try unfold nothE at *
 simp only [lineR, lineO] at *
 refine auto11_ 6 [6] @q0 @q0' @q1 @q1' @q2 @q2' @q3 @q3' @q4 @q4' @q4' ?_
 refine call_ (ps := [0]) (rid := 16) rfl rfl rfl rfl rfl (hN) ?_
 refine cr_ ?_
 refine auto0_ 6 [6] ?_
 refine call_ (ps := [0]) (rid := 16) rfl rfl rfl rfl rfl (hT) ?_
 refine cr_ ?_
 refine auto0_ 6 [6] ?_
 refine rv_ ?_
 refine vdet_ 1280 [] 0 8 100 ?_
 refine vdet_ 1280 [] 0 14 101 ?_
 refine vdet_ 1280 [] 0 16 102 ?_
 exact RetV.mk 3 rfl rfl (by omega) rfl (by simp [noBoO, noBo, noBoL, noBo_exprs]) rfl ⟨rfl, rfl, rfl⟩
set_option maxHeartbeats 16000000 in
theorem rDot_5 (L : List TokV) (hL : L.length ≤ 1048576) (hM : MarkOk2 L) (i : Nat) (b : Bool) (hi : i ≤ L.length) (w : Str) (n0 : w ≠ wordW) (n1 : w ≠ blkW) (n2 : w ≠ globW) (n3 : w ≠ endW) (n4 : w ≠ sectW) : FnA Tryz.prog 102 false [.ptr 0 [] 3 0 0, .str w] (rdO L i b) (LiSR L (lnV 0 [] 0 azV azV 0 [], i, true)) := by
 have q0 : (w == [46, 119, 111, 114, 100]) = false := beq_eq_false_iff_ne.2 n0
 have q0' : (w = [46, 119, 111, 114, 100]) = False := eq_false n0
 have q1 : (w == [46, 98, 108, 107, 119]) = false := beq_eq_false_iff_ne.2 n1
 have q1' : (w = [46, 98, 108, 107, 119]) = False := eq_false n1
 have q2 : (w == [46, 103, 108, 111, 98, 108]) = false := beq_eq_false_iff_ne.2 n2
 have q2' : (w = [46, 103, 108, 111, 98, 108]) = False := eq_false n2
 have q3 : (w == [46, 101, 110, 100]) = false := beq_eq_false_iff_ne.2 n3
 have q3' : (w = [46, 101, 110, 100]) = False := eq_false n3
 have q4 : (w == [46, 115, 101, 99, 116]) = false := beq_eq_false_iff_ne.2 n4
 have q4' : (w = [46, 115, 101, 99, 116]) = False := eq_false n4
 refine FnA.of Tryz.func102 rfl (by decide) Tryz.ntmps102 (by simp [rdO]) ?_
 unfold LiSR rdO at *
 try unfold lnV at *
 try unfold azV at *
 try unfold nothE at *
 simp only [lineR, lineO] at *
 refine auto11_ 6 [6] @q0 @q0' @q1 @q1' @q2 @q2' @q3 @q3' @q4 @q4' @q4' ?_
 refine rv_ ?_
 refine vdet_ 1280 [] 0 8 100 ?_
 refine vdet_ 1280 [] 0 14 101 ?_
 refine vdet_ 1280 [] 0 16 102 ?_
 exact RetV.mk 3 rfl rfl (by omega) rfl (by simp [noBoO, noBo, noBoL, noBo_exprs]) rfl ⟨rfl, rfl, rfl⟩
theorem rDot_ok (L : List TokV) (hL : L.length ≤ 1048576) (hM : MarkOk2 L) (i : Nat) (b : Bool) (hi : i ≤ L.length) (w : Str) : FnA Tryz.prog 102 false [.ptr 0 [] 3 0 0, .str w] (rdO L i b) (LiSR L (dotS L w i b)) := by
 unfold dotS
 by_cases n0 : w = wordW
 ·rw [if_pos n0]; exact rDot_0 L hL hM i b hi w n0
 rw [if_neg n0]
 by_cases n1 : w = blkW
 ·rw [if_pos n1]; exact rDot_1 L hL hM i b hi w n0 n1
 rw [if_neg n1]
 by_cases n2 : w = globW
 ·rw [if_pos n2]; exact rDot_2 L hL hM i b hi w n0 n1 n2
 rw [if_neg n2]
 by_cases n3 : w = endW
 ·rw [if_pos n3]; exact rDot_3 L hL hM i b hi w n0 n1 n2 n3
 rw [if_neg n3]
 by_cases n4 : w = sectW
 ·rw [if_pos n4]
  cases hy : seS L (nxS L i b).2.1 (nxS L i b).2.2 [44] with
  | true => exact rDot_4true L hL hM i b hi w n0 n1 n2 n3 n4 hy
  | false => exact rDot_4false L hL hM i b hi w n0 n1 n2 n3 n4 hy
 rw [if_neg n4]
 exact rDot_5 L hL hM i b hi w n0 n1 n2 n3 n4
end Go.Proofs.YtiilnlihimdnlaaGreatDoorFw
