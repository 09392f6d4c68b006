/- Terms that are right, with their parts: the reference's. -/
import Derived.Test.YtiilnlihimdnlaaGreatDoorG7
namespace Go.Proofs.YtiilnlihimdnlaaGreatDoorFw
open Go Go.RowKit
set_option linter.unusedVariables false
set_option linter.unusedSimpArgs false
set_option maxRecDepth 4000
def TermP : Nat → Bool → ExprV → Prop
 | 0, _, _ => False
 | d + 1, p, .mk k n s l => HereP k n s l.length ∧ (p = true → k ≠ 11 ∧ k ≠ 12) ∧ ∀ e ∈ l, TermP d p e
open Classical in
noncomputable instance (d : Nat) (p : Bool) (e : ExprV) : Decidable (TermP d p e) := inferInstance
theorem exprA_un2 (m : Md) (e : ExprV) : exprA m e = .agg [.int .i64 e.1, .int .i64 e.2, .str e.3, .row m 4 (exprsA m e.4)] := by cases e; exact exprA_mk _ _ _ _ _
set_option maxHeartbeats 2000000 in
theorem l10Ok_ok (p : Bool) : ∀ (d : Nat), d ≤ 6 → ∀ e : ExprV, e.tot ≤ 1048576 →
 FnA Tryz.prog 160 false [exprA .bo e, .int .i64 (7 - (d : Int)), .bool p] [] (fun r os ros => r = .bool (decide (TermP d p e)) ∧ os = [] ∧ ros = [])
 | 0, hd, .mk k n s l, hf => by
  rw [exprA_mk]
  have h7 : decide ((6 : Int) < 7 - ((0 : Nat) : Int)) = true := by decide
  refine FnA.of Tryz.func160 rfl (by decide) Tryz.ntmps160 (by simp) ?_
  refine run1_ @h7 ?_
  refine RunsA.cond rfl (fun h => ?_) (fun h => absurd h (by simp))
  refine run_ ?_
  exact RetA.mk tabOk 0 rfl rfl rfl (by omega) rfl rfl rfl ⟨by rw [decide_eq_false (by simp [TermP])]; rfl, rfl, rfl⟩
 | d + 1, hd, .mk k n s l, hf => by
  have ht : (ExprV.mk k n s l).tot = s.length + (l.length + ExprV.totL l) := rfl
  have hH := l10Here_ok k n s l (by omega)
  have hK : ∀ e ∈ l, FnA Tryz.prog 160 false [exprA .bo e, .int .i64 (7 - (d : Int)), .bool p] [] (fun r os ros => r = .bool (decide (TermP d p e)) ∧ os = [] ∧ ros = []) :=
   fun e he => l10Ok_ok p d (by omega) e (by have := ExprV.totL_mem he; omega)
  rw [exprA_mk]
  have h7 : decide ((6 : Int) < 7 - ((d + 1 : Nat) : Int)) = false := decide_eq_false (by omega)
  have h8 : (7 - ((d + 1 : Nat) : Int)) + 1 = 7 - (d : Int) := by omega
  refine FnA.of Tryz.func160 rfl (by decide) Tryz.ntmps160 (by simp) ?_
  by_cases hh : HereP k n s l.length
  ·rw [decide_eq_true hh] at hH
   cases p with
   | false =>
    have hT : TermP (d + 1) false (.mk k n s l) ↔ ∀ e ∈ l, TermP d false e := by
     rw [TermP]
     exact ⟨fun h => h.2.2, fun h => ⟨hh, fun h => by simp at h, h⟩⟩
    refine run1_ @h7 ?_
    refine rg1_ @h7 ?_
    refine call_ (ps := []) (rid := 16) (hy := by simp only [go_sem, Nat.reduceEqDiff, brw_exprs]; first | done | rfl) rfl rfl rfl rfl rfl (hH) ?_
    refine cro_ ?_
    refine run_ ?_
    refine RunsA.cond rfl (fun h => absurd h (by simp)) (fun h => ?_)
    refine run_ ?_
    refine RunsA.loop ?_
    refine (LoopA.ind (fun i : Nat => ⟨45, [(1, .int .i64 (7 - ((d + 1 : Nat) : Int))), (2, .bool false), (3, .ptr 1024 [] 4 0 0), (7, .int .i64 i)], [⟨1024, 4, [.agg [.int .i64 k, .int .i64 n, .str s, .row .bo 4 (exprsA .bo l)]]⟩], false⟩) (fun i => l.length - i) (fun i => i ≤ l.length ∧ ∀ e ∈ l.take i, TermP d false e) ?_ 0 ?_).sub rfl ?_ ?_ rfl
    ·rintro i ⟨hi, hall⟩ K3 hK3
     refine run1_ @exprsA_len ?_
     refine RunsA.cond rfl (fun h2 => ?_) (fun h2 => ?_)
     ·simp only [decide_eq_true_eq] at h2
      have hilt : i < l.length := by omega
      have hg := exprsA_get .bo hilt
      have HH := hK _ (List.getElem_mem hilt)
      have hmem := List.getElem_mem hilt
      have htk : l.take (i + 1) = l.take i ++ [l[i]] := take_snoc hilt
      generalize l[i] = e at *
      rw [exprA_un2] at hg HH
      refine run_ ?_
      refine rg3_ @hg @exprsA_len @h8 ?_
      refine call_ (ps := []) (rid := 16) (hy := by simp only [go_sem, Nat.reduceEqDiff, brw_exprs, h8]; first | done | rfl) rfl rfl rfl rfl rfl (HH) ?_
      rintro r os' ros ⟨rfl, rfl, rfl⟩ _
      by_cases ce : TermP d false e
      ·rw [decide_eq_true ce]
       refine cg_ ?_
       refine RunsL.nil ?_
       refine run_ ?_
       refine RunsA.cond rfl (fun h => absurd h (by simp)) (fun h => ?_)
       refine run_ ?_
       refine hK3 (i + 1) _ ⟨by omega, fun x hx => ?_⟩ (by omega) rfl (by simp [SubS, lookS]) (by simp [SubO, lookO]) rfl
       rw [htk] at hx
       rcases List.mem_append.1 hx with hx | hx
       ·exact hall x hx
       ·rw [List.mem_singleton.1 hx]; exact ce
      ·rw [decide_eq_false ce]
       refine cg_ ?_
       refine RunsL.nil ?_
       refine run_ ?_
       refine RunsA.cond rfl (fun h => ?_) (fun h => absurd h (by simp))
       refine run_ ?_
       exact RetA.mk tabOk 0 rfl rfl rfl (by omega) rfl rfl rfl ⟨by rw [decide_eq_false (fun hc => ce (hT.1 hc e hmem))]; rfl, rfl, rfl⟩
     ·simp only [decide_eq_false_iff_not] at h2
      have hil : i = l.length := by omega
      subst hil
      rw [List.take_length] at hall
      refine run_ ?_
      exact RetA.mk tabOk 0 rfl rfl rfl (by omega) rfl rfl rfl ⟨by rw [decide_eq_true (hT.2 hall)]; rfl, rfl, rfl⟩
    ·exact ⟨Nat.zero_le _, by simp⟩
    ·simp [SubS, lookS]
    ·simp [SubO, lookO]
   | true =>
    by_cases hp : k = 11 ∨ k = 12
    ·have hT : ¬ TermP (d + 1) true (.mk k n s l) := by
      rw [TermP]
      rintro ⟨_, h2, _⟩
      have := h2 rfl
      omega
     refine run1_ @h7 ?_
     refine rg1_ @h7 ?_
     refine call_ (ps := []) (rid := 16) (hy := by simp only [go_sem, Nat.reduceEqDiff, brw_exprs]; first | done | rfl) rfl rfl rfl rfl rfl (hH) ?_
     rintro r os' ros ⟨rfl, rfl, rfl⟩ _
     rcases hp with rfl | rfl
     ·refine RunsL.go tabOk fun J hJ => ?_; simp only [go_sem, ↓reduceIte, Nat.reduceAdd, Nat.reduceSub, Nat.reduceMul, Nat.reduceLT, Nat.reduceLeDiff, Nat.reduceEqDiff, Nat.reduceBEq, Int.reduceToNat, Int.reduceBEq]; try simp (disch := omega) only [wrap_id]
      refine hJ _ _ (RunsL.nil ?_); clear hJ J
      refine run_ ?_
      refine RunsA.cond rfl (fun h => ?_) (fun h => absurd h (by decide))
      refine run_ ?_
      exact RetA.mk tabOk 0 rfl rfl rfl (by omega) rfl rfl rfl ⟨by rw [decide_eq_false hT]; rfl, rfl, rfl⟩
     ·refine RunsL.go tabOk fun J hJ => ?_; simp only [go_sem, ↓reduceIte, Nat.reduceAdd, Nat.reduceSub, Nat.reduceMul, Nat.reduceLT, Nat.reduceLeDiff, Nat.reduceEqDiff, Nat.reduceBEq, Int.reduceToNat, Int.reduceBEq]; try simp (disch := omega) only [wrap_id]
      refine hJ _ _ (RunsL.nil ?_); clear hJ J
      refine run_ ?_
      refine RunsA.cond rfl (fun h => ?_) (fun h => absurd h (by decide))
      refine run_ ?_
      exact RetA.mk tabOk 0 rfl rfl rfl (by omega) rfl rfl rfl ⟨by rw [decide_eq_false hT]; rfl, rfl, rfl⟩
    have q11 : (k == 11) = false := by simp; omega
    have q12 : (k == 12) = false := by simp; omega
    have hT : TermP (d + 1) true (.mk k n s l) ↔ ∀ e ∈ l, TermP d true e := by
     rw [TermP]
     exact ⟨fun h => h.2.2, fun h => ⟨hh, fun _ => by omega, h⟩⟩
    refine run1_ @h7 ?_
    refine rg1_ @h7 ?_
    refine call_ (ps := []) (rid := 16) (hy := by simp only [go_sem, Nat.reduceEqDiff, brw_exprs]; first | done | rfl) rfl rfl rfl rfl rfl (hH) ?_
    refine cro2_ @q11 @q12 ?_
    refine run_ ?_
    refine RunsA.cond rfl (fun h => absurd h (by simp)) (fun h => ?_)
    refine run_ ?_
    refine RunsA.loop ?_
    refine (LoopA.ind (fun i : Nat => ⟨45, [(1, .int .i64 (7 - ((d + 1 : Nat) : Int))), (2, .bool true), (3, .ptr 1024 [] 4 0 0), (7, .int .i64 i)], [⟨1024, 4, [.agg [.int .i64 k, .int .i64 n, .str s, .row .bo 4 (exprsA .bo l)]]⟩], false⟩) (fun i => l.length - i) (fun i => i ≤ l.length ∧ ∀ e ∈ l.take i, TermP d true e) ?_ 0 ?_).sub rfl ?_ ?_ rfl
    ·rintro i ⟨hi, hall⟩ K3 hK3
     refine run1_ @exprsA_len ?_
     refine RunsA.cond rfl (fun h2 => ?_) (fun h2 => ?_)
     ·simp only [decide_eq_true_eq] at h2
      have hilt : i < l.length := by omega
      have hg := exprsA_get .bo hilt
      have HH := hK _ (List.getElem_mem hilt)
      have hmem := List.getElem_mem hilt
      have htk : l.take (i + 1) = l.take i ++ [l[i]] := take_snoc hilt
      generalize l[i] = e at *
      rw [exprA_un2] at hg HH
      refine run_ ?_
      refine rg3_ @hg @exprsA_len @h8 ?_
      refine call_ (ps := []) (rid := 16) (hy := by simp only [go_sem, Nat.reduceEqDiff, brw_exprs, h8]; first | done | rfl) rfl rfl rfl rfl rfl (HH) ?_
      rintro r os' ros ⟨rfl, rfl, rfl⟩ _
      by_cases ce : TermP d true e
      ·rw [decide_eq_true ce]
       refine cg_ ?_
       refine RunsL.nil ?_
       refine run_ ?_
       refine RunsA.cond rfl (fun h => absurd h (by simp)) (fun h => ?_)
       refine run_ ?_
       refine hK3 (i + 1) _ ⟨by omega, fun x hx => ?_⟩ (by omega) rfl (by simp [SubS, lookS]) (by simp [SubO, lookO]) rfl
       rw [htk] at hx
       rcases List.mem_append.1 hx with hx | hx
       ·exact hall x hx
       ·rw [List.mem_singleton.1 hx]; exact ce
      ·rw [decide_eq_false ce]
       refine cg_ ?_
       refine RunsL.nil ?_
       refine run_ ?_
       refine RunsA.cond rfl (fun h => ?_) (fun h => absurd h (by simp))
       refine run_ ?_
       exact RetA.mk tabOk 0 rfl rfl rfl (by omega) rfl rfl rfl ⟨by rw [decide_eq_false (fun hc => ce (hT.1 hc e hmem))]; rfl, rfl, rfl⟩
     ·simp only [decide_eq_false_iff_not] at h2
      have hil : i = l.length := by omega
      subst hil
      rw [List.take_length] at hall
      refine run_ ?_
      exact RetA.mk tabOk 0 rfl rfl rfl (by omega) rfl rfl rfl ⟨by rw [decide_eq_true (hT.2 hall)]; rfl, rfl, rfl⟩
    ·exact ⟨Nat.zero_le _, by simp⟩
    ·simp [SubS, lookS]
    ·simp [SubO, lookO]
  ·rw [decide_eq_false hh] at hH
   have hT : ¬ TermP (d + 1) p (.mk k n s l) := by rw [TermP]; exact fun h => hh h.1
   refine run1_ @h7 ?_
   refine rg1_ @h7 ?_
   refine call_ (ps := []) (rid := 16) (hy := by simp only [go_sem, Nat.reduceEqDiff, brw_exprs]; first | done | rfl) rfl rfl rfl rfl rfl (hH) ?_
   refine cr_ ?_
   refine run_ ?_
   refine RunsA.cond rfl (fun h => ?_) (fun h => absurd h (by decide))
   refine run_ ?_
   exact RetA.mk tabOk 0 rfl rfl rfl (by omega) rfl rfl rfl ⟨by rw [decide_eq_false hT]; rfl, rfl, rfl⟩
theorem plainS_ok (e : ExprV) (hf : e.tot ≤ 1048576) : FnA Tryz.prog 133 false [exprA .bo e] [] (fun r os ros => r = .bool (decide (TermP 6 true e)) ∧ os = [] ∧ ros = []) := by
 have h := l10Ok_ok true 6 (by omega) e hf
 rw [exprA_un2] at *
 refine FnA.of Tryz.func133 rfl (by decide) Tryz.ntmps133 (by simp) ?_
 refine run_ ?_
 refine rg_ ?_
 refine call_ (ps := []) (rid := 16) (hy := by simp only [go_sem, Nat.reduceEqDiff, brw_exprs]; first | done | rfl) rfl rfl rfl rfl rfl (h) ?_
 refine cr_ ?_
 refine run_ ?_
 exact RetA.mk tabOk 0 rfl rfl rfl (by omega) rfl rfl rfl ⟨rfl, rfl, rfl⟩
end Go.Proofs.YtiilnlihimdnlaaGreatDoorFw
