/- Lines out of texts: both ParseLine. -/
import Derived.Test.YtiilnlihimdnlaaGreatDoorJP
import Derived.Test.YtiilnlihimdnlaaGreatDoorQK
import Derived.Test.YtiilnlihimdnlaaGreatDoorG15
namespace Go.Proofs.YtiilnlihimdnlaaGreatDoorFw
open Go Go.RowKit
set_option linter.unusedVariables false
set_option linter.unusedSimpArgs false
set_option maxRecDepth 4000
theorem frzL_toks2 : ∀ l : List TokV, frzL (toksA l) = toksA l
 | [] => rfl
 | t :: r => by
  have := frzL_toks2 r
  simp only [toksA, List.map_cons, frzL, tokA, frz] at *
  rw [this]
set_option maxHeartbeats 16000000 in
theorem rLine_ins (L : List TokV) (hL : L.length ≤ 1048576) (hM : MarkOk2 L) (i : Nat) (b : Bool) (hi : i ≤ L.length) (h : (nxS L i b).1.k = 5) (hv : atI (opW ++ regW) (nxS L i b).1.s 0 < 23) : FnA Tryz.prog 62 false [.ptr 0 [] 3 0 0] (rdO L i b) (LiSR L (insS L (atI (opW ++ regW) (nxS L i b).1.s 0 + 1) (nxS L i b).2.1 (nxS L i b).2.2)) := by
 have hN := rNext_ok L i b (by omega) hi
 have ln := nxS_le (L := L) b hi
 generalize nxS L i b = T at *
 obtain ⟨⟨k, n, s⟩, i1, b1⟩ := T
 simp only [tokA] at *
 subst h
 have hO := l9Kept_ok
 have hP := l9At_ok (opW ++ regW) s (by decide)
 have hb := atI_cases (opW ++ regW) s 0 (by omega)
 have hbl : (opW ++ regW).length = 31 := rfl
 generalize atI (opW ++ regW) s 0 = v at *
 have hw1 : IntKind.i64.wrap (v + 1) = v + 1 := wrap_id (by omega) (by omega)
 generalize opW ++ regW = W at *
 have qv : decide (v < 23) = true := decide_eq_true (hv)
 have qv' : (v < 23) = True := eq_true (hv)
 have hA := rIns_ok L hL i1 b1 ln (v + 1)
 generalize insS L (v + 1) i1 b1 = A at *
 obtain ⟨⟨kk, ss, oo, sf, sr, sk, sn, st, sl, df, dr, dk, dn, dt, dl, nn, ll⟩, i4, b4⟩ := A
 refine FnA.of Tryz.func62 rfl (by decide) Tryz.ntmps62 (by simp [rdO]) ?_
 unfold LiSR rdO at *
 try unfold lnV at *
 try unfold azV at *
 try unfold nothE at *
 simp only [lineR, lineO] at *
 refine run_ ?_
 refine rg_ ?_
 refine call_ (ps := [0]) (rid := 16) rfl rfl rfl rfl rfl (hN) ?_
 refine cr_ ?_
 refine auto0_ 6 [9] ?_
 refine RunsA.dag (Ω := Unit) mixed () [(1, [(0, 0)]), (2, [(0, 1)]), (3, [(1, 1), (2, 0)]), (6, [(2, 2)]), (7, [(3, 2), (6, 0)]), (15, [(7, 3)]), (31, [(15, 4)])] (by kernel_rfl) ?_
 repeat
  (apply DagP.step
   ·repeat
     (apply EdgesP.cons rfl rfl
      ·intro ω
       refine cgo1_ @brw_strs ?_
       first
        | (refine RunsL.nil ?_; first | exact ⟨ω, LeS.refl _⟩ | exact ⟨ω, les_⟩)
        | (refine call_ (ps := []) (rid := 3328) (hy := by simp only [go_sem, Nat.reduceEqDiff, brw_strs]; first | done | rfl) rfl rfl rfl rfl rfl (hO) ?_
           refine cro1_ @brw_strs ?_
           first | exact ⟨ω, LeS.refl _⟩ | exact ⟨ω, les_⟩)
        | (refine call_ (ps := []) (rid := 16) (hy := by simp only [go_sem, Nat.reduceEqDiff, brw_strs]; first | done | rfl) rfl rfl rfl rfl rfl (hP) ?_
           refine cro1_ @brw_strs ?_
           first | exact ⟨ω, LeS.refl _⟩ | exact ⟨ω, les_⟩))
    exact EdgesP.nil)
 refine DagP.done fun ω => ?_
 refine auto3_ 6 [9] @qv @qv' @hw1 ?_
 refine call_ (ps := [0]) (rid := 5632) rfl rfl rfl rfl rfl (hA) ?_
 refine cr_ ?_
 refine run_ ?_
 refine rv_ ?_
 refine vdet_ 768 [] 0 8 100 ?_
 refine vdet_ 768 [] 0 14 101 ?_
 refine vdet_ 768 [] 0 16 102 ?_
 exact RetV.mk 3 rfl rfl (by omega) rfl (by simp [noBoO, noBo, noBoL, noBo_exprs]) rfl ⟨rfl, rfl, rfl⟩
set_option maxHeartbeats 16000000 in
theorem rLine_bad5 (L : List TokV) (hL : L.length ≤ 1048576) (hM : MarkOk2 L) (i : Nat) (b : Bool) (hi : i ≤ L.length) (h : (nxS L i b).1.k = 5) (hv : ¬ atI (opW ++ regW) (nxS L i b).1.s 0 < 23) : FnA Tryz.prog 62 false [.ptr 0 [] 3 0 0] (rdO L i b) (LiSR L (lnV 0 [] 0 azV azV 0 [], (nxS L i b).2.1, true)) := by
 have hN := rNext_ok L i b (by omega) hi
 have ln := nxS_le (L := L) b hi
 generalize nxS L i b = T at *
 obtain ⟨⟨k, n, s⟩, i1, b1⟩ := T
 simp only [tokA] at *
 subst h
 have hO := l9Kept_ok
 have hP := l9At_ok (opW ++ regW) s (by decide)
 have hb := atI_cases (opW ++ regW) s 0 (by omega)
 have hbl : (opW ++ regW).length = 31 := rfl
 generalize atI (opW ++ regW) s 0 = v at *
 have hw1 : IntKind.i64.wrap (v + 1) = v + 1 := wrap_id (by omega) (by omega)
 generalize opW ++ regW = W at *
 have qv : decide (v < 23) = false := decide_eq_false (hv)
 have qv' : (v < 23) = False := eq_false (hv)
 refine FnA.of Tryz.func62 rfl (by decide) Tryz.ntmps62 (by simp [rdO]) ?_
 unfold LiSR rdO at *
 try unfold lnV at *
 try unfold azV at *
 try unfold nothE at *
 simp only [lineR, lineO] at *
 refine run_ ?_
 refine rg_ ?_
 refine call_ (ps := [0]) (rid := 16) rfl rfl rfl rfl rfl (hN) ?_
 refine cr_ ?_
 refine auto0_ 6 [9] ?_
 refine RunsA.dag (Ω := Unit) mixed () [(1, [(0, 0)]), (2, [(0, 1)]), (3, [(1, 1), (2, 0)]), (6, [(2, 2)]), (7, [(3, 2), (6, 0)]), (15, [(7, 3)]), (31, [(15, 4)])] (by kernel_rfl) ?_
 repeat
  (apply DagP.step
   ·repeat
     (apply EdgesP.cons rfl rfl
      ·intro ω
       refine cgo1_ @brw_strs ?_
       first
        | (refine RunsL.nil ?_; first | exact ⟨ω, LeS.refl _⟩ | exact ⟨ω, les_⟩)
        | (refine call_ (ps := []) (rid := 3328) (hy := by simp only [go_sem, Nat.reduceEqDiff, brw_strs]; first | done | rfl) rfl rfl rfl rfl rfl (hO) ?_
           refine cro1_ @brw_strs ?_
           first | exact ⟨ω, LeS.refl _⟩ | exact ⟨ω, les_⟩)
        | (refine call_ (ps := []) (rid := 16) (hy := by simp only [go_sem, Nat.reduceEqDiff, brw_strs]; first | done | rfl) rfl rfl rfl rfl rfl (hP) ?_
           refine cro1_ @brw_strs ?_
           first | exact ⟨ω, LeS.refl _⟩ | exact ⟨ω, les_⟩))
    exact EdgesP.nil)
 refine DagP.done fun ω => ?_
 refine auto2_ 6 [9] @qv @qv' ?_
 refine rv_ ?_
 refine vdet_ 768 [] 0 8 100 ?_
 refine vdet_ 768 [] 0 14 101 ?_
 refine vdet_ 768 [] 0 16 102 ?_
 exact RetV.mk 3 rfl rfl (by omega) rfl (by simp [noBoO, noBo, noBoL, noBo_exprs]) rfl ⟨rfl, rfl, rfl⟩
set_option maxHeartbeats 16000000 in
theorem rLine_dot (L : List TokV) (hL : L.length ≤ 1048576) (hM : MarkOk2 L) (i : Nat) (b : Bool) (hi : i ≤ L.length) (h : (nxS L i b).1.k = 3) : FnA Tryz.prog 62 false [.ptr 0 [] 3 0 0] (rdO L i b) (LiSR L (dotS L (nxS L i b).1.s (nxS L i b).2.1 (nxS L i b).2.2)) := by
 have hN := rNext_ok L i b (by omega) hi
 have ln := nxS_le (L := L) b hi
 generalize nxS L i b = T at *
 obtain ⟨⟨k, n, s⟩, i1, b1⟩ := T
 simp only [tokA] at *
 subst h
 have hA := rDot_ok L hL hM i1 b1 ln s
 generalize dotS L s i1 b1 = A at *
 obtain ⟨⟨kk, ss, oo, sf, sr, sk, sn, st, sl, df, dr, dk, dn, dt, dl, nn, ll⟩, i4, b4⟩ := A
 refine FnA.of Tryz.func62 rfl (by decide) Tryz.ntmps62 (by simp [rdO]) ?_
 unfold LiSR rdO at *
 try unfold lnV at *
 try unfold azV at *
 try unfold nothE at *
 simp only [lineR, lineO] at *
 refine run_ ?_
 refine rg_ ?_
 refine call_ (ps := [0]) (rid := 16) rfl rfl rfl rfl rfl (hN) ?_
 refine cr_ ?_
 refine auto0_ 6 [9] ?_
 refine call_ (ps := [0]) (rid := 7168) rfl rfl rfl rfl rfl (hA) ?_
 refine cr_ ?_
 refine run_ ?_
 refine rv_ ?_
 refine vdet_ 768 [] 0 8 100 ?_
 refine vdet_ 768 [] 0 14 101 ?_
 refine vdet_ 768 [] 0 16 102 ?_
 exact RetV.mk 3 rfl rfl (by omega) rfl (by simp [noBoO, noBo, noBoL, noBo_exprs]) rfl ⟨rfl, rfl, rfl⟩
set_option maxHeartbeats 16000000 in
theorem rLine_lab (L : List TokV) (hL : L.length ≤ 1048576) (hM : MarkOk2 L) (i : Nat) (b : Bool) (hi : i ≤ L.length) (h : (nxS L i b).1.k = 1) (hy : seS L (nxS L i b).2.1 (nxS L i b).2.2 [58] = true) : FnA Tryz.prog 62 false [.ptr 0 [] 3 0 0] (rdO L i b) (LiSR L (lnV 1 (nxS L i b).1.s 0 azV azV 0 [], tkI L (nxS L i b).2.1 (nxS L i b).2.2 [58], (nxS L i b).2.2)) := by
 have hN := rNext_ok L i b (by omega) hi
 have ln := nxS_le (L := L) b hi
 generalize nxS L i b = T at *
 obtain ⟨⟨k, n, s⟩, i1, b1⟩ := T
 simp only [tokA] at *
 subst h
 have hT := rIs3_ok L i1 b1 [58] hL ln
 rw [hy] at hT
 generalize tkI L i1 b1 [58] = i2 at *
 refine FnA.of Tryz.func62 rfl (by decide) Tryz.ntmps62 (by simp [rdO]) ?_
 unfold LiSR rdO at *
 try unfold lnV at *
 try unfold azV at *
 try unfold nothE at *
 simp only [lineR, lineO] at *
 refine run_ ?_
 refine rg_ ?_
 refine call_ (ps := [0]) (rid := 16) rfl rfl rfl rfl rfl (hN) ?_
 refine cr_ ?_
 refine auto0_ 6 [9] ?_
 refine call_ (ps := [0]) (rid := 16) rfl rfl rfl rfl rfl (hT) ?_
 refine cr_ ?_
 refine auto0_ 6 [9] ?_
 refine rv_ ?_
 refine vdet_ 768 [] 0 8 100 ?_
 refine vdet_ 768 [] 0 14 101 ?_
 refine vdet_ 768 [] 0 16 102 ?_
 exact RetV.mk 3 rfl rfl (by omega) rfl (by simp [noBoO, noBo, noBoL, noBo_exprs]) rfl ⟨rfl, rfl, rfl⟩
set_option maxHeartbeats 16000000 in
theorem rLine_set (L : List TokV) (hL : L.length ≤ 1048576) (hM : MarkOk2 L) (i : Nat) (b : Bool) (hi : i ≤ L.length) (h : (nxS L i b).1.k = 1) (hy : seS L (nxS L i b).2.1 (nxS L i b).2.2 [58] = false) (hz : seS L (tkI L (nxS L i b).2.1 (nxS L i b).2.2 [58]) (nxS L i b).2.2 [61] = true) : FnA Tryz.prog 62 false [.ptr 0 [] 3 0 0] (rdO L i b) (LiSR L (mpS (fun e => lnV 2 (nxS L i b).1.s 0 azV azV 0 [e]) (exS L 6 (tkI L (tkI L (nxS L i b).2.1 (nxS L i b).2.2 [58]) (nxS L i b).2.2 [61]) (nxS L i b).2.2))) := by
 have hN := rNext_ok L i b (by omega) hi
 have ln := nxS_le (L := L) b hi
 generalize nxS L i b = T at *
 obtain ⟨⟨k, n, s⟩, i1, b1⟩ := T
 simp only [tokA] at *
 subst h
 have hT := rIs3_ok L i1 b1 [58] hL ln
 rw [hy] at hT
 have l2 := tkS_le b1 [58] ln
 generalize tkI L i1 b1 [58] = i2 at *
 have hW := rIs3_ok L i2 b1 [61] hL l2
 rw [hz] at hW
 have hE := rExpr_ok L hL 6 (by omega) 1 (by omega) (tkI L i2 b1 [61]) b1 (tkS_le _ _ l2)
 generalize tkI L i2 b1 [61] = i3 at *
 unfold mpS
 generalize exS L 6 i3 b1 = E at *
 obtain ⟨⟨ka, na, sa, xa⟩, i4, b4⟩ := E
 unfold ExSR exprR at hE
 simp only at hE ⊢
 refine FnA.of Tryz.func62 rfl (by decide) Tryz.ntmps62 (by simp [rdO]) ?_
 unfold LiSR rdO at *
 try unfold lnV at *
 try unfold azV at *
 try unfold nothE at *
 simp only [lineR, lineO] at *
 refine run_ ?_
 refine rg_ ?_
 refine call_ (ps := [0]) (rid := 16) rfl rfl rfl rfl rfl (hN) ?_
 refine cr_ ?_
 refine auto0_ 6 [9] ?_
 refine call_ (ps := [0]) (rid := 16) rfl rfl rfl rfl rfl (hT) ?_
 refine cr_ ?_
 refine auto0_ 6 [9] ?_
 refine call_ (ps := [0]) (rid := 16) rfl rfl rfl rfl rfl (hW) ?_
 refine cr_ ?_
 refine auto0_ 6 [9] ?_
 refine call_ (ps := [0]) (rid := 9984) rfl rfl rfl rfl rfl (hE) ?_
 refine cr_ ?_
 refine run_ ?_
 refine rv_ ?_
 refine vdet_ 768 [] 0 8 100 ?_
 refine vdet_ 768 [] 0 14 101 ?_
 refine vdet_ 768 [] 0 16 102 ?_
 exact RetV.mk 3 rfl rfl (by omega) rfl (by simp [noBoO, noBo, noBoL, noBo_exprs]) rfl ⟨rfl, rfl, rfl⟩
set_option maxHeartbeats 16000000 in
theorem rLine_nam (L : List TokV) (hL : L.length ≤ 1048576) (hM : MarkOk2 L) (i : Nat) (b : Bool) (hi : i ≤ L.length) (h : (nxS L i b).1.k = 1) (hy : seS L (nxS L i b).2.1 (nxS L i b).2.2 [58] = false) (hz : seS L (tkI L (nxS L i b).2.1 (nxS L i b).2.2 [58]) (nxS L i b).2.2 [61] = false) : FnA Tryz.prog 62 false [.ptr 0 [] 3 0 0] (rdO L i b) (LiSR L (lnV 0 [] 0 azV azV 0 [], tkI L (tkI L (nxS L i b).2.1 (nxS L i b).2.2 [58]) (nxS L i b).2.2 [61], true)) := by
 have hN := rNext_ok L i b (by omega) hi
 have ln := nxS_le (L := L) b hi
 generalize nxS L i b = T at *
 obtain ⟨⟨k, n, s⟩, i1, b1⟩ := T
 simp only [tokA] at *
 subst h
 have hT := rIs3_ok L i1 b1 [58] hL ln
 rw [hy] at hT
 have l2 := tkS_le b1 [58] ln
 generalize tkI L i1 b1 [58] = i2 at *
 have hW := rIs3_ok L i2 b1 [61] hL l2
 rw [hz] at hW
 generalize tkI L i2 b1 [61] = i3 at *
 refine FnA.of Tryz.func62 rfl (by decide) Tryz.ntmps62 (by simp [rdO]) ?_
 unfold LiSR rdO at *
 try unfold lnV at *
 try unfold azV at *
 try unfold nothE at *
 simp only [lineR, lineO] at *
 refine run_ ?_
 refine rg_ ?_
 refine call_ (ps := [0]) (rid := 16) rfl rfl rfl rfl rfl (hN) ?_
 refine cr_ ?_
 refine auto0_ 6 [9] ?_
 refine call_ (ps := [0]) (rid := 16) rfl rfl rfl rfl rfl (hT) ?_
 refine cr_ ?_
 refine auto0_ 6 [9] ?_
 refine call_ (ps := [0]) (rid := 16) rfl rfl rfl rfl rfl (hW) ?_
 refine cr_ ?_
 refine auto0_ 6 [9] ?_
 refine rv_ ?_
 refine vdet_ 768 [] 0 8 100 ?_
 refine vdet_ 768 [] 0 14 101 ?_
 refine vdet_ 768 [] 0 16 102 ?_
 exact RetV.mk 3 rfl rfl (by omega) rfl (by simp [noBoO, noBo, noBoL, noBo_exprs]) rfl ⟨rfl, rfl, rfl⟩
set_option maxHeartbeats 16000000 in
theorem rLine_bad (L : List TokV) (hL : L.length ≤ 1048576) (hM : MarkOk2 L) (i : Nat) (b : Bool) (hi : i ≤ L.length) (h5 : (nxS L i b).1.k ≠ 5) (h3 : (nxS L i b).1.k ≠ 3) (h1 : (nxS L i b).1.k ≠ 1) : FnA Tryz.prog 62 false [.ptr 0 [] 3 0 0] (rdO L i b) (LiSR L (lnV 0 [] 0 azV azV 0 [], (nxS L i b).2.1, true)) := by
 have hN := rNext_ok L i b (by omega) hi
 have ln := nxS_le (L := L) b hi
 generalize nxS L i b = T at *
 obtain ⟨⟨k, n, s⟩, i1, b1⟩ := T
 simp only [tokA] at *
 have e5 : (k == 5) = false := beq_eq_false_iff_ne.2 (by omega)
 have e5' : (k = 5) = False := eq_false (by omega)
 have e3 : (k == 3) = false := beq_eq_false_iff_ne.2 (by omega)
 have e3' : (k = 3) = False := eq_false (by omega)
 have e1 : (k == 1) = false := beq_eq_false_iff_ne.2 (by omega)
 have e1' : (k = 1) = False := eq_false (by omega)
 refine FnA.of Tryz.func62 rfl (by decide) Tryz.ntmps62 (by simp [rdO]) ?_
 unfold LiSR rdO at *
 try unfold lnV at *
 try unfold azV at *
 try unfold nothE at *
 simp only [lineR, lineO] at *
 refine run_ ?_
 refine rg_ ?_
 refine call_ (ps := [0]) (rid := 16) rfl rfl rfl rfl rfl (hN) ?_
 refine cr_ ?_
 refine auto6_ 6 [9] @e3 @e3' @e1 @e1' @e5 @e5' ?_
 refine rv_ ?_
 refine vdet_ 768 [] 0 8 100 ?_
 refine vdet_ 768 [] 0 14 101 ?_
 refine vdet_ 768 [] 0 16 102 ?_
 exact RetV.mk 3 rfl rfl (by omega) rfl (by simp [noBoO, noBo, noBoL, noBo_exprs]) rfl ⟨rfl, rfl, rfl⟩
theorem rLine_ok (L : List TokV) (hL : L.length ≤ 1048576) (hM : MarkOk2 L) (i : Nat) (b : Bool) (hi : i ≤ L.length) : FnA Tryz.prog 62 false [.ptr 0 [] 3 0 0] (rdO L i b) (LiSR L (lineS L i b)) := by
 unfold lineS lineS2
 by_cases h5 : (nxS L i b).1.k = 5
 ·by_cases hv : atI (opW ++ regW) (nxS L i b).1.s 0 < 23
  ·rw [if_pos ⟨h5, hv⟩]; exact rLine_ins L hL hM i b hi h5 hv
  ·rw [if_neg (fun h => hv h.2), if_neg (by omega), if_neg (by omega)]; exact rLine_bad5 L hL hM i b hi h5 hv
 rw [if_neg (fun h => h5 h.1)]
 by_cases h3 : (nxS L i b).1.k = 3
 ·rw [if_pos h3]; exact rLine_dot L hL hM i b hi h3
 rw [if_neg h3]
 by_cases h1 : (nxS L i b).1.k = 1
 ·rw [if_pos h1]
  unfold namS
  cases hy : seS L (nxS L i b).2.1 (nxS L i b).2.2 [58] with
  | true => rw [if_pos rfl]; exact rLine_lab L hL hM i b hi h1 hy
  | false =>
   rw [if_neg (by simp)]
   cases hz : seS L (tkI L (nxS L i b).2.1 (nxS L i b).2.2 [58]) (nxS L i b).2.2 [61] with
   | true => rw [if_pos rfl]; exact rLine_set L hL hM i b hi h1 hy hz
   | false => rw [if_neg (by simp)]; exact rLine_nam L hL hM i b hi h1 hy hz
 rw [if_neg h1]
 exact rLine_bad L hL hM i b hi h5 h3 h1
def PLR (o : Option LineV) (r : AV) (os ros : List (Nat × List AV)) : Prop := r = .tup [lineR (o.getD zeroL), .bool o.isSome] ∧ os = [] ∧ ros = lineO (o.getD zeroL)
set_option maxHeartbeats 16000000 in
theorem rOf_ok (L : List TokV) (hOk : ∀ t ∈ L, OkT t.k t.n t.s) (hL : L.length ≤ 800) : FnA Tryz.prog 34 false [.row .ro 3 (toksA L)] [] (PLR (lineOfT L)) := by
 refine FnA.of Tryz.func34 rfl (by decide) Tryz.ntmps34 (by simp) ?_
 by_cases hne : L = []
 ·subst hne
  rw [lineOfT_nil]
  have e0 : toksA ([] : List TokV) = [] := rfl
  have hR : PLR (some zeroL) (.tup [.agg [.int .i64 0, .str [], .int .i64 0, .int .i64 0, .int .i64 0, .int .i64 0, .int .i64 0, .str [], .hd 100 [], .int .i64 0, .int .i64 0, .int .i64 0, .int .i64 0, .str [], .hd 101 [], .int .i64 0, .hd 102 []], .bool true]) [] [(4, exprsA .own []), (4, exprsA .own []), (4, exprsA .own [])] := ⟨rfl, rfl, rfl⟩
  repeat' (first | refine ⟨by omega, ?_⟩ | (refine hJ _ _ (RunsL.nil ?_); clear hJ J) | refine RunsA.cond rfl (fun h => ?_) (fun h => absurd h (by decide)) | refine RunsA.cond rfl (fun h => absurd h (by decide)) (fun h => ?_) | (refine step_ ?_) | (refine RunsA.rk 6 [] tabOk fun J hJ => ?_; simp only [go_sem, ↓reduceIte, Nat.reduceAdd, Nat.reduceSub, Nat.reduceMul, Nat.reduceLT, Nat.reduceLeDiff, Nat.reduceEqDiff, Nat.reduceBEq, Int.reduceToNat, e0, List.length_nil, Int.reduceBEq]; try simp (disch := omega) only [wrap_id]) | simp only [↓reduceIte, not_false_eq_true, e0, List.length_nil, Int.reduceBEq])
  refine rv_ ?_
  refine vdet_ 768 [] 0 8 100 ?_
  refine vdet_ 768 [] 0 14 101 ?_
  refine vdet_ 768 [] 0 16 102 ?_
  exact RetV.mk 3 rfl rfl (by omega) rfl (by simp [noBoO, noBo, noBoL, noBo_exprs]) rfl hR
 have hM : MarkOk2 L := hOk
 have hA := rLine_ok L (by omega) hM 0 false (Nat.zero_le _)
 have hle := lineS_le (L := L) (i := 0) false (Nat.zero_le _)
 obtain ⟨P, hP⟩ : ∃ P, lineOfT L = P := ⟨_, rfl⟩
 rw [hP]
 rw [lineOfT_ref hM hne hle] at hP
 have hw := lineS_w hM (i := 0) (b := false)
 have hwt := wt_le hOk
 simp only [List.drop_zero] at hw
 have q0 : (((L.length : Nat) : Int) == 0) = false := beq_eq_false_iff_ne.2 (by have := List.length_pos_iff.2 hne; omega)
 have q00 : (((L.length : Nat) : Int) = 0) = False := eq_false (by have := List.length_pos_iff.2 hne; omega)
 generalize lineS L 0 false = A at *
 obtain ⟨x, i1, b1⟩ := A
 unfold LiSR at hA
 simp only at hA hP hle hw
 by_cases c : b1 = false ∧ i1 = L.length ∧ x.okB = true
 ·rw [if_pos c] at hP
  have hLO := lineOkS_ok x (by have := hw c.1; omega)
  obtain ⟨rfl, rfl, cx⟩ := c
  rw [cx] at hLO
  have hPs : P = some x := hP.symm
  clear hP hw hwt cx
  obtain ⟨kk, ss, oo, sf, sr, sk, sn, st, sl, df, dr, dk, dn, dt, dl, nn, ll⟩ := x
  rw [lineA_mk] at hLO
  have hR : PLR P (.tup [.agg [.int .i64 kk, .str ss, .int .i64 oo, .int .i64 sf, .int .i64 sr, .int .i64 sk, .int .i64 sn, .str st, .hd 100 [], .int .i64 df, .int .i64 dr, .int .i64 dk, .int .i64 dn, .str dt, .hd 101 [], .int .i64 nn, .hd 102 []], .bool true]) [] [(4, exprsA .own sl), (4, exprsA .own dl), (4, exprsA .own ll)] := by rw [hPs]; exact ⟨rfl, rfl, rfl⟩
  have q : (((L.length : Nat) : Int) != ((L.length : Nat) : Int)) = false := by simp
  simp only [lineR, lineO] at hA
  unfold rdO at hA
  refine auto3_ 6 [] @q0 @q00 @toksA_len ?_
  refine call_ (ps := [3328]) (rid := 3840) rfl rfl rfl rfl rfl (hA) ?_
  refine cr_ ?_
  refine auto2_ 6 [] @q @toksA_len ?_
  refine call_ (ps := []) (rid := 16) (hy := by simp only [go_sem, Nat.reduceEqDiff, brw_exprs]; first | done | rfl) rfl rfl rfl rfl rfl (hLO) ?_
  refine cr1_ @Bool.not_true ?_
  refine auto0_ 6 [] ?_
  refine rv_ ?_
  refine vdet_ 768 [] 0 8 100 ?_
  refine vdet_ 768 [] 0 14 101 ?_
  refine vdet_ 768 [] 0 16 102 ?_
  exact RetV.mk 3 rfl rfl (by omega) rfl (by simp [noBoO, noBo, noBoL, noBo_exprs]) rfl hR
 ·rw [if_neg c] at hP
  have hPn : P = none := hP.symm
  clear hP
  have hR : PLR P (.tup [.agg [.int .i64 0, .str [], .int .i64 0, .int .i64 0, .int .i64 0, .int .i64 0, .int .i64 0, .str [], .hd 100 [], .int .i64 0, .int .i64 0, .int .i64 0, .int .i64 0, .str [], .hd 101 [], .int .i64 0, .hd 102 []], .bool false]) [] [(4, exprsA .own []), (4, exprsA .own []), (4, exprsA .own [])] := by rw [hPn]; exact ⟨rfl, rfl, rfl⟩
  by_cases c1 : b1 = true
  ·subst c1
   clear hw c hPn
   obtain ⟨kk, ss, oo, sf, sr, sk, sn, st, sl, df, dr, dk, dn, dt, dl, nn, ll⟩ := x
   simp only [lineR, lineO] at hA
   unfold rdO at hA
   refine auto3_ 6 [] @q0 @q00 @toksA_len ?_
   refine call_ (ps := [3328]) (rid := 3840) rfl rfl rfl rfl rfl (hA) ?_
   refine cr_ ?_
   refine auto1_ 6 [] @toksA_len ?_
   refine rv_ ?_
   refine vdet_ 768 [] 0 8 100 ?_
   refine vdet_ 768 [] 0 14 101 ?_
   refine vdet_ 768 [] 0 16 102 ?_
   exact RetV.mk 3 rfl rfl (by omega) rfl (by simp [noBoO, noBo, noBoL, noBo_exprs]) rfl hR
  have c1 : b1 = false := by simpa using c1
  subst c1
  by_cases c2 : i1 = L.length
  ·have cx : x.okB = false := by
    cases e : x.okB with
    | false => rfl
    | true => exact absurd ⟨rfl, c2, e⟩ c
   have hLO := lineOkS_ok x (by have := hw rfl; omega)
   rw [cx] at hLO
   subst c2
   clear hw c hPn cx
   obtain ⟨kk, ss, oo, sf, sr, sk, sn, st, sl, df, dr, dk, dn, dt, dl, nn, ll⟩ := x
   rw [lineA_mk] at hLO
   have q : (((L.length : Nat) : Int) != ((L.length : Nat) : Int)) = false := by simp
   simp only [lineR, lineO] at hA
   unfold rdO at hA
   refine auto3_ 6 [] @q0 @q00 @toksA_len ?_
   refine call_ (ps := [3328]) (rid := 3840) rfl rfl rfl rfl rfl (hA) ?_
   refine cr_ ?_
   refine auto2_ 6 [] @q @toksA_len ?_
   refine call_ (ps := []) (rid := 16) (hy := by simp only [go_sem, Nat.reduceEqDiff, brw_exprs]; first | done | rfl) rfl rfl rfl rfl rfl (hLO) ?_
   refine cr1_ @Bool.not_false ?_
   refine auto0_ 6 [] ?_
   refine rv_ ?_
   refine vdet_ 768 [] 0 8 100 ?_
   refine vdet_ 768 [] 0 14 101 ?_
   refine vdet_ 768 [] 0 16 102 ?_
   exact RetV.mk 3 rfl rfl (by omega) rfl (by simp [noBoO, noBo, noBoL, noBo_exprs]) rfl hR
  ·have q : (((i1 : Nat) : Int) != ((L.length : Nat) : Int)) = true := bne_iff_ne.2 (by omega)
   have q' : (((i1 : Nat) : Int) = ((L.length : Nat) : Int)) = False := eq_false (by omega)
   clear hw c hPn
   obtain ⟨kk, ss, oo, sf, sr, sk, sn, st, sl, df, dr, dk, dn, dt, dl, nn, ll⟩ := x
   simp only [lineR, lineO] at hA
   unfold rdO at hA
   refine auto3_ 6 [] @q0 @q00 @toksA_len ?_
   refine call_ (ps := [3328]) (rid := 3840) rfl rfl rfl rfl rfl (hA) ?_
   refine cr_ ?_
   refine auto3_ 6 [] @q @q' @toksA_len ?_
   refine rv_ ?_
   refine vdet_ 768 [] 0 8 100 ?_
   refine vdet_ 768 [] 0 14 101 ?_
   refine vdet_ 768 [] 0 16 102 ?_
   exact RetV.mk 3 rfl rfl (by omega) rfl (by simp [noBoO, noBo, noBoL, noBo_exprs]) rfl hR
set_option maxHeartbeats 16000000 in
theorem parseLineS_ok (s : Str) (hl : s.length ≤ 1048576) : FnA Tryz.prog 11 false [.str s] [] (PLR (parseLineV s)) := by
 have hLex := lexS_ok s (by omega)
 obtain ⟨P, hP⟩ : ∃ P, parseLineV s = P := ⟨_, rfl⟩
 rw [hP]
 unfold parseLineV at hP
 refine FnA.of Tryz.func11 rfl (by decide) Tryz.ntmps11 (by simp) ?_
 cases e : lexV s with
 | none =>
  rw [e] at hP hLex
  simp only [Option.isSome_none, Option.getD_none] at hLex
  have hPn : P = none := hP.symm
  have hR : PLR P (.tup [.agg [.int .i64 0, .str [], .int .i64 0, .int .i64 0, .int .i64 0, .int .i64 0, .int .i64 0, .str [], .hd 100 [], .int .i64 0, .int .i64 0, .int .i64 0, .int .i64 0, .str [], .hd 101 [], .int .i64 0, .hd 102 []], .bool false]) [] [(4, exprsA .own []), (4, exprsA .own []), (4, exprsA .own [])] := by rw [hPn]; exact ⟨rfl, rfl, rfl⟩
  clear hP hPn
  refine run_ ?_
  refine rg_ ?_
  refine call_ (ps := []) (rid := 2304) rfl rfl rfl rfl rfl (hLex) ?_
  refine cr_ ?_
  refine auto0_ 6 [] ?_
  refine rv_ ?_
  refine vdet_ 768 [] 0 8 100 ?_
  refine vdet_ 768 [] 0 14 101 ?_
  refine vdet_ 768 [] 0 16 102 ?_
  exact RetV.mk 3 rfl rfl (by omega) rfl (by simp [noBoO, noBo, noBoL, noBo_exprs]) rfl hR
 | some L =>
  rw [e] at hP hLex
  simp only [Option.isSome_some, Option.getD_some] at hLex
  obtain ⟨f1, _, f3⟩ := lexV_facts e
  have hA := rOf_ok L f1 f3
  rw [show lineOfT L = P from hP] at hA
  unfold PLR lineR lineO at hA
  unfold PLR lineR lineO
  obtain ⟨x, hx⟩ : ∃ x, P.getD zeroL = x := ⟨_, rfl⟩
  rw [hx] at hA ⊢
  generalize P.isSome = ok at *
  clear hP hx e f1
  obtain ⟨kk, ss, oo, sf, sr, sk, sn, st, sl, df, dr, dk, dn, dt, dl, nn, ll⟩ := x
  simp only at hA ⊢
  refine run_ ?_
  refine rg_ ?_
  refine call_ (ps := []) (rid := 2304) rfl rfl rfl rfl rfl (hLex) ?_
  refine cr_ ?_
  refine At.n ?_
  refine RunsA.sq ?_
  refine RunsA.ghost (GhostStep.freeze (id := 2304) rfl (noBo_toks _)) ?_
  simp only [go_sem, ↓reduceIte, Nat.reduceAdd, Nat.reduceSub, Nat.reduceMul, Nat.reduceLT, Nat.reduceLeDiff, Nat.reduceEqDiff, Nat.reduceBEq, Int.reduceToNat, frzS, frzV, frzVL, frzL_toks2, dropO]
  refine auto0_ 6 [] ?_
  refine call_ (ps := []) (rid := 4096) rfl rfl rfl rfl rfl (hA) ?_
  refine cr_ ?_
  refine run_ ?_
  refine rv_ ?_
  refine vdet_ 768 [] 0 8 100 ?_
  refine vdet_ 768 [] 0 14 101 ?_
  refine vdet_ 768 [] 0 16 102 ?_
  exact RetV.mk 3 rfl rfl (by omega) rfl (by simp [noBoO, noBo, noBoL, noBo_exprs]) rfl ⟨rfl, rfl, rfl⟩
theorem parse_impl (s : Str) : parseLineV s = (if (lineI ((lexV s).getD []) (!(lexV s).isSome)).2.2 = false ∧ (lineI ((lexV s).getD []) (!(lexV s).isSome)).2.1 = [] ∧ (lineI ((lexV s).getD []) (!(lexV s).isSome)).1.okB = true then some (lineI ((lexV s).getD []) (!(lexV s).isSome)).1 else none)
 ∧ ((lineI ((lexV s).getD []) (!(lexV s).isSome)).2.2 = false → (lineI ((lexV s).getD []) (!(lexV s).isSome)).1.tot ≤ 6400) := by
 unfold parseLineV
 cases e : lexV s with
 | none =>
  refine ⟨?_, fun h => ?_⟩
  ·rw [if_neg (by simp [lineI])]; rfl
  ·simp [lineI] at h
 | some L =>
  obtain ⟨h1, _, h3⟩ := lexV_facts e
  exact ⟨rfl, fun h => lineOfT_tot h1 h3 h⟩
set_option maxHeartbeats 16000000 in
theorem parseLineI_ok (s : Str) (hl : s.length ≤ 1048576) : FnA Tryz.prog 12 false [.str s] [] (PLR (parseLineV s)) := by
 have hLex := lexI_ok s (by omega)
 have hll : ((lexV s).getD []).length ≤ 1048576 := by
  cases e : lexV s with
  | none => simp
  | some l => have := (lexV_facts e).2.2; simp only [Option.getD_some]; omega
 obtain ⟨hP, hw⟩ := parse_impl s
 have hA := pLine_ok ((lexV s).getD []) (!(lexV s).isSome) hll
 have hle := lineI_len ((lexV s).getD []) (!(lexV s).isSome)
 generalize parseLineV s = P at *
 generalize lineI ((lexV s).getD []) (!(lexV s).isSome) = V at *
 generalize (lexV s).getD [] = l at *
 generalize (lexV s).isSome = ok at *
 obtain ⟨x, l1, b1⟩ := V
 unfold LiPR at hA
 simp only at hA hP hle hw
 have hDn := pDone_ok l1 b1 (by omega)
 refine FnA.of Tryz.func12 rfl (by decide) Tryz.ntmps12 (by simp) ?_
 by_cases d : b1 = false ∧ l1 = []
 ·obtain ⟨rfl, rfl⟩ := d
  simp only [Bool.not_false, List.isEmpty_nil, Bool.and_self] at hDn
  have hLO := lineOkI_ok x (by have := hw rfl; omega)
  have e0 : toksA ([] : List TokV) = [] := rfl
  simp only [true_and] at hP
  cases cx : x.okB with
  | true =>
   rw [cx] at hLO
   rw [if_pos cx] at hP
   have hPs : P = some x := hP
   obtain ⟨kk, ss, oo, sf, sr, sk, sn, st, sl, df, dr, dk, dn, dt, dl, nn, ll⟩ := x
   rw [lineA_mk] at hLO
   have hR : PLR P (.tup [.agg [.int .i64 kk, .str ss, .int .i64 oo, .int .i64 sf, .int .i64 sr, .int .i64 sk, .int .i64 sn, .str st, .hd 100 [], .int .i64 df, .int .i64 dr, .int .i64 dk, .int .i64 dn, .str dt, .hd 101 [], .int .i64 nn, .hd 102 []], .bool true]) [] [(4, exprsA .own sl), (4, exprsA .own dl), (4, exprsA .own ll)] := by rw [hPs]; exact ⟨rfl, rfl, rfl⟩
   clear hP hPs hw cx
   simp only [lineR, lineO] at hA
   unfold prO at hA hDn
   refine run_ ?_
   refine rg_ ?_
   refine call_ (ps := []) (rid := 2816) rfl rfl rfl rfl rfl (hLex) ?_
   refine cr_ ?_
   refine At.n ?_
   refine RunsA.sq ?_
   refine RunsA.ghost (GhostStep.freeze (id := 2816) rfl (noBo_toks _)) ?_
   simp only [go_sem, ↓reduceIte, Nat.reduceAdd, Nat.reduceSub, Nat.reduceMul, Nat.reduceLT, Nat.reduceLeDiff, Nat.reduceEqDiff, Nat.reduceBEq, Int.reduceToNat, frzS, frzV, frzVL, frzL_toks2, dropO]
   refine run_ ?_
   refine rg_ ?_
   refine call_ (ps := [4608]) (rid := 5120) rfl rfl rfl rfl rfl (hA) ?_
   refine cr_ ?_
   refine run_ ?_
   refine rg_ ?_
   refine call_ (ps := [4608]) (rid := 16) rfl rfl rfl rfl rfl (hDn) ?_
   rintro r os' ros ⟨rfl, rfl, rfl⟩ _
   refine cg1_ @Bool.not_true ?_
   refine call_ (ps := []) (rid := 16) (hy := by simp only [go_sem, Nat.reduceEqDiff, brw_exprs]; first | done | rfl) rfl rfl rfl rfl rfl (hLO) ?_
   refine cr1_ @Bool.not_true ?_
   refine auto0_ 9 [] ?_
   refine rv_ ?_
   refine vdet_ 768 [] 0 8 100 ?_
   refine vdet_ 768 [] 0 14 101 ?_
   refine vdet_ 768 [] 0 16 102 ?_
   exact RetV.mk 3 rfl rfl (by omega) rfl (by simp [noBoO, noBo, noBoL, noBo_exprs]) rfl hR
  | false =>
   rw [cx] at hLO
   rw [if_neg (by rw [cx]; simp)] at hP
   have hPn : P = none := hP
   obtain ⟨kk, ss, oo, sf, sr, sk, sn, st, sl, df, dr, dk, dn, dt, dl, nn, ll⟩ := x
   rw [lineA_mk] at hLO
   have hR : PLR P (.tup [.agg [.int .i64 0, .str [], .int .i64 0, .int .i64 0, .int .i64 0, .int .i64 0, .int .i64 0, .str [], .hd 100 [], .int .i64 0, .int .i64 0, .int .i64 0, .int .i64 0, .str [], .hd 101 [], .int .i64 0, .hd 102 []], .bool false]) [] [(4, exprsA .own []), (4, exprsA .own []), (4, exprsA .own [])] := by rw [hPn]; exact ⟨rfl, rfl, rfl⟩
   clear hP hPn hw cx
   simp only [lineR, lineO] at hA
   unfold prO at hA hDn
   refine run_ ?_
   refine rg_ ?_
   refine call_ (ps := []) (rid := 2816) rfl rfl rfl rfl rfl (hLex) ?_
   refine cr_ ?_
   refine At.n ?_
   refine RunsA.sq ?_
   refine RunsA.ghost (GhostStep.freeze (id := 2816) rfl (noBo_toks _)) ?_
   simp only [go_sem, ↓reduceIte, Nat.reduceAdd, Nat.reduceSub, Nat.reduceMul, Nat.reduceLT, Nat.reduceLeDiff, Nat.reduceEqDiff, Nat.reduceBEq, Int.reduceToNat, frzS, frzV, frzVL, frzL_toks2, dropO]
   refine run_ ?_
   refine rg_ ?_
   refine call_ (ps := [4608]) (rid := 5120) rfl rfl rfl rfl rfl (hA) ?_
   refine cr_ ?_
   refine run_ ?_
   refine rg_ ?_
   refine call_ (ps := [4608]) (rid := 16) rfl rfl rfl rfl rfl (hDn) ?_
   rintro r os' ros ⟨rfl, rfl, rfl⟩ _
   refine cg1_ @Bool.not_true ?_
   refine call_ (ps := []) (rid := 16) (hy := by simp only [go_sem, Nat.reduceEqDiff, brw_exprs]; first | done | rfl) rfl rfl rfl rfl rfl (hLO) ?_
   refine cr1_ @Bool.not_false ?_
   refine auto0_ 9 [] ?_
   refine rv_ ?_
   refine vdet_ 768 [] 0 8 100 ?_
   refine vdet_ 768 [] 0 14 101 ?_
   refine vdet_ 768 [] 0 16 102 ?_
   exact RetV.mk 3 rfl rfl (by omega) rfl (by simp [noBoO, noBo, noBoL, noBo_exprs]) rfl hR
 ·have hPn : P = none := by
   rw [hP, if_neg (fun h => d ⟨h.1, h.2.1⟩)]
  have hd : (!b1 && l1.isEmpty) = false := by
   cases b1 with
   | true => rfl
   | false =>
    cases l1 with
    | nil => exact absurd ⟨rfl, rfl⟩ d
    | cons t r => rfl
  rw [hd] at hDn
  obtain ⟨kk, ss, oo, sf, sr, sk, sn, st, sl, df, dr, dk, dn, dt, dl, nn, ll⟩ := x
  have hR : PLR P (.tup [.agg [.int .i64 0, .str [], .int .i64 0, .int .i64 0, .int .i64 0, .int .i64 0, .int .i64 0, .str [], .hd 100 [], .int .i64 0, .int .i64 0, .int .i64 0, .int .i64 0, .str [], .hd 101 [], .int .i64 0, .hd 102 []], .bool false]) [] [(4, exprsA .own []), (4, exprsA .own []), (4, exprsA .own [])] := by rw [hPn]; exact ⟨rfl, rfl, rfl⟩
  clear hP hPn hw d
  simp only [lineR, lineO] at hA
  unfold prO at hA hDn
  refine run_ ?_
  refine rg_ ?_
  refine call_ (ps := []) (rid := 2816) rfl rfl rfl rfl rfl (hLex) ?_
  refine cr_ ?_
  refine At.n ?_
  refine RunsA.sq ?_
  refine RunsA.ghost (GhostStep.freeze (id := 2816) rfl (noBo_toks _)) ?_
  simp only [go_sem, ↓reduceIte, Nat.reduceAdd, Nat.reduceSub, Nat.reduceMul, Nat.reduceLT, Nat.reduceLeDiff, Nat.reduceEqDiff, Nat.reduceBEq, Int.reduceToNat, frzS, frzV, frzVL, frzL_toks2, dropO]
  refine run_ ?_
  refine rg_ ?_
  refine call_ (ps := [4608]) (rid := 5120) rfl rfl rfl rfl rfl (hA) ?_
  refine cr_ ?_
  refine run_ ?_
  refine rg_ ?_
  refine call_ (ps := [4608]) (rid := 16) rfl rfl rfl rfl rfl (hDn) ?_
  refine cr1_ @Bool.not_false ?_
  refine auto0_ 9 [] ?_
  refine rv_ ?_
  refine vdet_ 768 [] 0 8 100 ?_
  refine vdet_ 768 [] 0 14 101 ?_
  refine vdet_ 768 [] 0 16 102 ?_
  exact RetV.mk 3 rfl rfl (by omega) rfl (by simp [noBoO, noBo, noBoL, noBo_exprs]) rfl hR
end Go.Proofs.YtiilnlihimdnlaaGreatDoorFw
