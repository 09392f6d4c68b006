/- Lines that are right: the program's LineOk. -/
import Derived.Test.YtiilnlihimdnlaaGreatDoorG14
namespace Go.Proofs.YtiilnlihimdnlaaGreatDoorFw
open Go Go.RowKit
set_option linter.unusedVariables false
set_option linter.unusedSimpArgs false
set_option maxRecDepth 4000
theorem lineB_bad (k : Int) (s : Str) (op n : Int) (c : Nat) (sn dn nm pl nl ib : Bool) (hc : 1 ≤ c) (h : (pl = false ∧ nl = false ∧ ((s == []) && ib) = false) ∨ (k = 7 ∧ nl = false)) : lineB k s op n c sn dn nm pl nl ib = false := by
 have hc0 : ((c : Int) == 0) = false := by rw [beq_eq_false_iff_ne]; omega
 unfold lineB
 rw [hc0]
 rcases h with ⟨h1, h2, h3⟩ | ⟨h1, h2⟩
 ·rw [h1, h2, h3]
  simp
 ·rw [h2]
  subst h1
  simp
set_option maxHeartbeats 8000000 in
theorem lineOkI_ok (x : LineV) (hx : x.tot ≤ 1048576) : FnA Tryz.prog 36 false [lineA .bo x] [] (fun res os ros => res = .bool x.okB ∧ os = [] ∧ ros = []) := by
 obtain ⟨k, s, op, sf, sr, sk, sn, ss, sl, df, dr, dk, dn, ds, dl, n, l⟩ := x
 simp only [LineV.tot] at hx
 have hN1 : FnA Tryz.prog 72 false [.agg [.int .i64 sf, .int .i64 sr, .int .i64 sk, .int .i64 sn, .str ss, .row .bo 4 (exprsA .bo sl)]] [] (fun res os ros => res = .bool (decide (ArgB.mk sf sr sk sn ss sl).no) ∧ os = [] ∧ ros = []) := by
  refine (noneI_ok sf sr sk sn ss sl).mono ?_
  rintro r os ros ⟨rfl, h2, h3⟩
  exact ⟨congrArg AV.bool (decide_eq_decide.2 Iff.rfl), h2, h3⟩
 have hN2 : FnA Tryz.prog 72 false [.agg [.int .i64 df, .int .i64 dr, .int .i64 dk, .int .i64 dn, .str ds, .row .bo 4 (exprsA .bo dl)]] [] (fun res os ros => res = .bool (decide (ArgB.mk df dr dk dn ds dl).no) ∧ os = [] ∧ ros = []) := by
  refine (noneI_ok df dr dk dn ds dl).mono ?_
  rintro r os ros ⟨rfl, h2, h3⟩
  exact ⟨congrArg AV.bool (decide_eq_decide.2 Iff.rfl), h2, h3⟩
 have hI := insLineOk_ok k s op n ⟨sf, sr, sk, sn, ss, sl⟩ ⟨df, dr, dk, dn, ds, dl⟩ l (by simp only; omega) (by simp only; omega)
 have hM := isName_ok s (by omega)
 have hQ : ∀ i (h : i < l.length), FnA Tryz.prog 70 false [exprA .bo l[i]] [] (fun r os ros => r = .bool (decide (TermP 6 true l[i])) ∧ os = [] ∧ ros = []) := fun i h => plainI_ok l[i] (by have := ExprV.totL_mem (List.getElem_mem h); omega)
 have hel := exprsA_len .bo l
 rw [lineA_mk] at hI ⊢
 simp only [LineV.okB, LineV.insP]
 simp only at hI
 have e1 := insIB_eq op n l.length s (decide (ArgB.mk sf sr sk sn ss sl).ok) (decide (ArgB.mk df dr dk dn ds dl).ok) (decide (ArgB.mk sf sr sk sn ss sl).no) (decide (ArgB.mk df dr dk dn ds dl).no) (decide (∀ e ∈ l, TermP 6 true e))
  (fun h => decide_eq_true ((ArgB.mk sf sr sk sn ss sl).no_ok (of_decide_eq_true h))) (fun h => decide_eq_true ((ArgB.mk df dr dk dn ds dl).no_ok (of_decide_eq_true h)))
  (fun h => by
    have h := of_decide_eq_false h
    cases l with
    | nil => exact absurd (fun e he => absurd he (by simp)) h
    | cons a t => simp)
 have e2 : insB op n l.length (decide (ArgB.mk sf sr sk sn ss sl).ok) (decide (ArgB.mk df dr dk dn ds dl).ok) (decide (ArgB.mk sf sr sk sn ss sl).no) (decide (ArgB.mk df dr dk dn ds dl).no) (decide (∀ e ∈ l, TermP 6 true e))
  = decide (InsLP op (ArgB.mk sf sr sk sn ss sl).ok (ArgB.mk df dr dk dn ds dl).ok (ArgB.mk sf sr sk sn ss sl).no (ArgB.mk df dr dk dn ds dl).no n l.length (∀ e ∈ l, TermP 6 true e)) := by
  rw [insB_eq]
  refine decide_eq_decide.2 ?_
  simp only [decide_eq_true_eq]
 rw [e2] at e1
 clear e2
 generalize decide (InsLP op (ArgB.mk sf sr sk sn ss sl).ok (ArgB.mk df dr dk dn ds dl).ok (ArgB.mk sf sr sk sn ss sl).no (ArgB.mk df dr dk dn ds dl).no n l.length (∀ e ∈ l, TermP 6 true e)) = ib at *
 generalize insIB op n l.length s (decide (ArgB.mk sf sr sk sn ss sl).ok) (decide (ArgB.mk df dr dk dn ds dl).ok) (decide (ArgB.mk sf sr sk sn ss sl).no) (decide (ArgB.mk df dr dk dn ds dl).no) = iB at *
 generalize decide (ArgB.mk sf sr sk sn ss sl).no = psn at *
 generalize decide (ArgB.mk df dr dk dn ds dl).no = pdn at *
 generalize decide (NameP s) = nm at *
 obtain ⟨ppl, hppl⟩ : ∃ p : Bool, decide (∀ e ∈ l, TermP 6 true e) = p := ⟨_, rfl⟩
 obtain ⟨nl, hnl⟩ : ∃ p : Bool, decide ((∀ e ∈ l, TermP 6 true e ∧ e.1 = 2) ∧ 1 ≤ l.length ∧ l.length ≤ 6) = p := ⟨_, rfl⟩
 rw [hppl, hnl]
 rw [hppl] at e1
 obtain ⟨R, hR⟩ : ∃ R, lineB k s op n l.length psn pdn nm ppl nl ib = R := ⟨_, rfl⟩
 rw [hR]
 generalize exprsA .bo sl = RA at *
 generalize exprsA .bo dl = RB at *
 refine FnA.of Tryz.func36 rfl (by decide) Tryz.ntmps36 (by simp) ?_
 refine run1_ @exprsA_len ?_
 refine RunsA.loop ?_
 refine (LoopA.ind (fun i : Nat => ⟨123, [(1, .ptr 512 [] 17 0 0), (7, .row .bo 4 (exprsA .bo l)), (8, .int .i64 (l.length : Nat)), (9, .int .i64 i)], [⟨512, 17, [.agg [.int .i64 k, .str s, .int .i64 op, .int .i64 sf, .int .i64 sr, .int .i64 sk, .int .i64 sn, .str ss, .row .bo 4 RA,
  .int .i64 df, .int .i64 dr, .int .i64 dk, .int .i64 dn, .str ds, .row .bo 4 RB, .int .i64 n, .row .bo 4 (exprsA .bo l)]]⟩], false⟩) (fun i => l.length - i) (fun i => i ≤ l.length ∧ ∀ e ∈ l.take i, TermP 6 true e ∧ (k = 7 → e.1 = 2)) ?_ 0 ?_).sub rfl ?_ ?_ rfl
 ·rintro i ⟨hi, hall⟩ K3 hK3
  refine run1_ @exprsA_len ?_
  refine RunsA.cond rfl (fun h2 => ?_) (fun h2 => ?_)
  ·simp only [decide_eq_true_eq] at h2
   have hilt : i < l.length := by omega
   have hg := exprsA_get .bo hilt
   have hmem := List.getElem_mem hilt
   have HH := hQ i hilt
   have htk : l.take (i + 1) = l.take i ++ [l[i]] := take_snoc hilt
   have hbad : ¬ (TermP 6 true l[i] ∧ (k = 7 → l[i].1 = 2)) → R = false := by
    intro hb
    rw [← hR]
    refine lineB_bad _ _ _ _ _ _ _ _ _ _ _ (by omega) ?_
    by_cases cp : TermP 6 true l[i]
    ·have ck : k = 7 ∧ ¬ l[i].1 = 2 := by
      by_cases c7 : k = 7
      ·exact ⟨c7, fun c => hb ⟨cp, fun _ => c⟩⟩
      ·exact absurd ⟨cp, fun c => absurd c c7⟩ hb
     refine .inr ⟨ck.1, ?_⟩
     rw [← hnl]
     exact decide_eq_false fun hc => ck.2 (hc.1 _ hmem).2
    ·refine .inl ?_
     have h1 : ppl = false := by rw [← hppl]; exact decide_eq_false fun hc => cp (hc _ hmem)
     refine ⟨h1, ?_, ?_⟩
     ·rw [← hnl]; exact decide_eq_false fun hc => cp (hc.1 _ hmem).1
     ·rw [← e1, h1]; rfl
   clear hQ hI hN1 hN2 hM
   generalize l[i] = e at *
   rw [exprA_un2] at hg HH
   by_cases ce : TermP 6 true e
   ·rw [decide_eq_true ce] at HH
    by_cases c7 : k = 7
    ·have b7 : (k == 7) = true := by simp [c7]
     by_cases c2 : e.1 = 2
     ·have b2 : (e.1 != 2) = false := by simp [c2]
      refine run2_ @hg @exprsA_len ?_
      refine rg4_ @hg @exprsA_len @b2 @b7 ?_
      refine call_ (ps := []) (rid := 16) (hy := by simp only [go_sem, Nat.reduceEqDiff, brw_exprs]; first | done | rfl) rfl rfl rfl rfl rfl (HH) ?_
      refine cro4_ @hg @exprsA_len @b2 @b7 ?_
      refine run_ ?_
      refine RunsA.cond rfl (fun h => absurd h (by simp [c2])) (fun h => ?_)
      refine run_ ?_
      refine hK3 (i + 1) _ ⟨by omega, fun x hx => ?_⟩ (by omega) rfl (by simp [SubS, lookS]) (by simp [SubO, lookO]) rfl
      rw [htk] at hx
      rcases List.mem_append.1 hx with hx | hx
      ·exact hall x hx
      ·rw [List.mem_singleton.1 hx]; exact ⟨ce, fun _ => c2⟩
     ·have b2 : (e.1 != 2) = true := by simp [c2]
      refine run2_ @hg @exprsA_len ?_
      refine rg4_ @hg @exprsA_len @b2 @b7 ?_
      refine call_ (ps := []) (rid := 16) (hy := by simp only [go_sem, Nat.reduceEqDiff, brw_exprs]; first | done | rfl) rfl rfl rfl rfl rfl (HH) ?_
      refine cro4_ @hg @exprsA_len @b2 @b7 ?_
      refine run_ ?_
      refine RunsA.cond rfl (fun h => ?_) (fun h => absurd h (by simp [c2]))
      refine run_ ?_
      exact RetA.mk tabOk 0 rfl rfl rfl (by omega) rfl rfl rfl ⟨by rw [hbad (fun hc => c2 (hc.2 c7))]; rfl, rfl, rfl⟩
    ·have b7 : (k == 7) = false := by simp [c7]
     refine run2_ @hg @exprsA_len ?_
     refine rg3_ @hg @exprsA_len @b7 ?_
     refine call_ (ps := []) (rid := 16) (hy := by simp only [go_sem, Nat.reduceEqDiff, brw_exprs]; first | done | rfl) rfl rfl rfl rfl rfl (HH) ?_
     refine cro3_ @hg @exprsA_len @b7 ?_
     refine run_ ?_
     refine RunsA.cond rfl (fun h => absurd h (by simp)) (fun h => ?_)
     refine run_ ?_
     refine hK3 (i + 1) _ ⟨by omega, fun x hx => ?_⟩ (by omega) rfl (by simp [SubS, lookS]) (by simp [SubO, lookO]) rfl
     rw [htk] at hx
     rcases List.mem_append.1 hx with hx | hx
     ·exact hall x hx
     ·rw [List.mem_singleton.1 hx]; exact ⟨ce, fun c => absurd c c7⟩
   ·rw [decide_eq_false ce] at HH
    refine run2_ @hg @exprsA_len ?_
    refine rg2_ @hg @exprsA_len ?_
    refine call_ (ps := []) (rid := 16) (hy := by simp only [go_sem, Nat.reduceEqDiff, brw_exprs]; first | done | rfl) rfl rfl rfl rfl rfl (HH) ?_
    refine cro2_ @hg @exprsA_len ?_
    refine run_ ?_
    refine RunsA.cond rfl (fun h => ?_) (fun h => absurd h (by simp))
    refine run_ ?_
    exact RetA.mk tabOk 0 rfl rfl rfl (by omega) rfl rfl rfl ⟨by rw [hbad (fun hc => ce hc.1)]; rfl, rfl, rfl⟩
  ·simp only [decide_eq_false_iff_not] at h2
   have hil : i = l.length := by omega
   subst hil
   rw [List.take_length] at hall
   have hp : ppl = true := by rw [← hppl]; exact decide_eq_true fun e he => (hall e he).1
   have hn7 : k = 7 → nl = decide (1 ≤ (l.length : Int) ∧ (l.length : Int) ≤ 6) := by
    intro c7
    rw [← hnl]
    exact decide_eq_decide.2 ⟨fun h => ⟨by omega, by omega⟩, fun h => ⟨fun e he => ⟨(hall e he).1, (hall e he).2 c7⟩, by omega, by omega⟩⟩
   rw [hp, Bool.true_and] at e1
   rw [hp] at hR
   clear hQ hall hppl hnl hK3 hp
   generalize l.length = c at *
   generalize exprsA .bo l = RL at *
   repeat' (first | refine ⟨by omega, ?_⟩ | (refine hJ _ _ (RunsL.nil ?_); clear hJ J) | refine RunsA.cond rfl (fun h => ?_) (fun h => absurd h (by decide)) | refine RunsA.cond rfl (fun h => absurd h (by decide)) (fun h => ?_) | refine RunsA.cond rfl (fun h => ?_) (fun h => ?_) | (refine step_ ?_) | (refine RunsA.rk 2 [5, 61, 62, 72, 81, 90, 100, 109] tabOk fun J hJ => ?_; simp only [go_sem, ↓reduceIte, Nat.reduceAdd, Nat.reduceSub, Nat.reduceMul, Nat.reduceLT, Nat.reduceLeDiff, Nat.reduceEqDiff, Nat.reduceBEq, Int.reduceToNat]; try simp (disch := omega) only [wrap_id]) | (refine hJ _ _ (call_ (ps := []) (rid := 16) rfl rfl rfl rfl rfl (hI) ?_); clear hJ J; rintro r os' ros ⟨rfl, rfl, rfl⟩ _; refine RunsL.go tabOk fun J hJ => ?_; simp only [go_sem, ↓reduceIte, Nat.reduceAdd, Nat.reduceSub, Nat.reduceMul, Nat.reduceLT, Nat.reduceLeDiff, Nat.reduceEqDiff, Nat.reduceBEq, Int.reduceToNat]; try simp (disch := omega) only [wrap_id]) | (refine hJ _ _ (call_ (ps := []) (rid := 16) rfl rfl rfl rfl rfl (hN1) ?_); clear hJ J; rintro r os' ros ⟨rfl, rfl, rfl⟩ _; refine RunsL.go tabOk fun J hJ => ?_; simp only [go_sem, ↓reduceIte, Nat.reduceAdd, Nat.reduceSub, Nat.reduceMul, Nat.reduceLT, Nat.reduceLeDiff, Nat.reduceEqDiff, Nat.reduceBEq, Int.reduceToNat]; try simp (disch := omega) only [wrap_id]) | (refine hJ _ _ (call_ (ps := []) (rid := 16) rfl rfl rfl rfl rfl (hN2) ?_); clear hJ J; rintro r os' ros ⟨rfl, rfl, rfl⟩ _; refine RunsL.go tabOk fun J hJ => ?_; simp only [go_sem, ↓reduceIte, Nat.reduceAdd, Nat.reduceSub, Nat.reduceMul, Nat.reduceLT, Nat.reduceLeDiff, Nat.reduceEqDiff, Nat.reduceBEq, Int.reduceToNat]; try simp (disch := omega) only [wrap_id]) | (refine hJ _ _ (call_ (ps := []) (rid := 16) rfl rfl rfl rfl rfl (hM) ?_); clear hJ J; rintro r os' ros ⟨rfl, rfl, rfl⟩ _; refine RunsL.go tabOk fun J hJ => ?_; simp only [go_sem, ↓reduceIte, Nat.reduceAdd, Nat.reduceSub, Nat.reduceMul, Nat.reduceLT, Nat.reduceLeDiff, Nat.reduceEqDiff, Nat.reduceBEq, Int.reduceToNat]; try simp (disch := omega) only [wrap_id]) | (refine hJ _ _ (call_ (ps := []) (rid := 16) rfl rfl rfl rfl rfl (within_ok _ _ _) ?_); clear hJ J; rintro r os' ros ⟨rfl, rfl, rfl⟩ _; refine RunsL.go tabOk fun J hJ => ?_; simp only [go_sem, ↓reduceIte, Nat.reduceAdd, Nat.reduceSub, Nat.reduceMul, Nat.reduceLT, Nat.reduceLeDiff, Nat.reduceEqDiff, Nat.reduceBEq, Int.reduceToNat]; try simp (disch := omega) only [wrap_id]) | split)
   all_goals (
    clear hI hN1 hN2 hM
    refine RetA.mk tabOk 0 rfl rfl rfl (by omega) rfl rfl rfl ?_
    refine ⟨?_, rfl, rfl⟩
    rw [← hR]
    clear hR
    simp only [res1, AV.bool.injEq, lineB]
    simp_all
    all_goals (first | done | (intros; omega)))
 ·exact ⟨Nat.zero_le _, by simp⟩
 ·simp [SubS, lookS]
 ·simp [SubO, lookO]
end Go.Proofs.YtiilnlihimdnlaaGreatDoorFw
