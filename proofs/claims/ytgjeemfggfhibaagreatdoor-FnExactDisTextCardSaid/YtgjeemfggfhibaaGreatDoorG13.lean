/- Lines that are right: the reference's. -/
import Derived.Test.YtgjeemfggfhibaaGreatDoorG12
import Derived.Test.YtgjeemfggfhibaaGreatDoorNA
namespace Go.Proofs.YtgjeemfggfhibaaGreatDoorFw
open Go Go.RowKit
set_option linter.unusedVariables false
set_option linter.unusedSimpArgs false
set_option maxRecDepth 4000
set_option pp.deepTerms.threshold 6
set_option pp.deepTerms false
def lineB (k : Int) (s : Str) (op n : Int) (c : Nat) (sn dn nm pl nl ib : Bool) : Bool :=
  if (k == 3) = true then (s == []) && ib
  else if (op != 0) = true then false
  else if sn = false then false
  else if dn = false then false
  else if (k == 0) = true then (s == []) && ((n == 0) && ((c : Int) == 0))
  else if (k == 8) = true then (s == []) && ((n == 0) && ((c : Int) == 0))
  else if (k == 1) = true then nm && ((n == 0) && ((c : Int) == 0))
  else if (k == 2) = true then nm && ((n == 0) && (((c : Int) == 1) && pl))
  else if (k == 4) = true then (s == []) && ((n == 0) && (decide (1 ≤ (c : Int) ∧ (c : Int) ≤ 6) && pl))
  else if (k == 5) = true then (s == []) && ((n == 0) && (((c : Int) == 1) && pl))
  else if (k == 6) = true then nm && (decide (0 ≤ n ∧ n ≤ 1) && ((c : Int) == 0))
  else if (k == 7) = true then (s == []) && ((n == 0) && nl)
  else false
noncomputable def LineV.insP : LineV → Bool
  | .mk k s op sf sr sk sn ss sl df dr dk dn ds dl n l => decide (InsLP op (ArgB.mk sf sr sk sn ss sl).ok (ArgB.mk df dr dk dn ds dl).ok (ArgB.mk sf sr sk sn ss sl).no (ArgB.mk df dr dk dn ds dl).no n l.length (∀ e ∈ l, TermP 6 true e))
noncomputable def LineV.okB : LineV → Bool
  | .mk k s op sf sr sk sn ss sl df dr dk dn ds dl n l => lineB k s op n l.length (decide (ArgB.mk sf sr sk sn ss sl).no) (decide (ArgB.mk df dr dk dn ds dl).no) (decide (NameP s)) (decide (∀ e ∈ l, TermP 6 true e))
      (decide ((∀ e ∈ l, TermP 6 true e ∧ e.1 = 2) ∧ 1 ≤ l.length ∧ l.length ≤ 6)) (LineV.insP (.mk k s op sf sr sk sn ss sl df dr dk dn ds dl n l))
set_option maxHeartbeats 8000000 in
theorem lineOkS_ok (x : LineV) (hx : x.tot ≤ 1048576) : FnA Tryz.prog 56 false [lineA .bo x] [] (fun res os ros => res = .bool x.okB ∧ os = [] ∧ ros = []) := by
  obtain ⟨k, s, op, sf, sr, sk, sn, ss, sl, df, dr, dk, dn, ds, dl, n, l⟩ := x
  simp only [LineV.tot] at hx
  have hN1 : FnA Tryz.prog 108 false [.agg [.int .i64 sf, .int .i64 sr, .int .i64 sk, .int .i64 sn, .str ss, .row .bo 4 (exprsA .bo sl)]] [] (fun res os ros => res = .bool (decide (ArgB.mk sf sr sk sn ss sl).no) ∧ os = [] ∧ ros = []) := by
    refine (noneS_ok sf sr sk sn ss sl).mono ?_
    rintro r os ros ⟨rfl, h2, h3⟩
    exact ⟨congrArg AV.bool (decide_eq_decide.2 Iff.rfl), h2, h3⟩
  have hN2 : FnA Tryz.prog 108 false [.agg [.int .i64 df, .int .i64 dr, .int .i64 dk, .int .i64 dn, .str ds, .row .bo 4 (exprsA .bo dl)]] [] (fun res os ros => res = .bool (decide (ArgB.mk df dr dk dn ds dl).no) ∧ os = [] ∧ ros = []) := by
    refine (noneS_ok df dr dk dn ds dl).mono ?_
    rintro r os ros ⟨rfl, h2, h3⟩
    exact ⟨congrArg AV.bool (decide_eq_decide.2 Iff.rfl), h2, h3⟩
  have hI := l12Ins_ok k s op n ⟨sf, sr, sk, sn, ss, sl⟩ ⟨df, dr, dk, dn, ds, dl⟩ l (by simp only; omega) (by simp only; omega) (by omega)
  have hM := l9Name_ok s (by omega)
  have hPl := l12Plain_ok l (by omega)
  have hNl := l12Names_ok l (by omega)
  have hel := exprsA_len .bo l
  rw [lineA_mk] at hI ⊢
  simp only [LineV.okB, LineV.insP]
  simp only at hI
  generalize decide (InsLP op (ArgB.mk sf sr sk sn ss sl).ok (ArgB.mk df dr dk dn ds dl).ok (ArgB.mk sf sr sk sn ss sl).no (ArgB.mk df dr dk dn ds dl).no n l.length (∀ e ∈ l, TermP 6 true e)) = ib at *
  generalize decide (ArgB.mk sf sr sk sn ss sl).no = psn at *
  generalize decide (ArgB.mk df dr dk dn ds dl).no = pdn at *
  generalize decide (NameP s) = nm at *
  generalize decide (∀ e ∈ l, TermP 6 true e) = ppl at *
  generalize decide ((∀ e ∈ l, TermP 6 true e ∧ e.1 = 2) ∧ 1 ≤ l.length ∧ l.length ≤ 6) = nl at *
  generalize exprsA .bo l = RL at *
  generalize exprsA .bo sl = RA at *
  generalize exprsA .bo dl = RB at *
  generalize l.length = c at *
  obtain ⟨R, hR⟩ : ∃ R, lineB k s op n c psn pdn nm ppl nl ib = R := ⟨_, rfl⟩
  rw [hR]
  refine FnA.of Tryz.func56 rfl (by decide) Tryz.ntmps56 (by simp) ?_
  repeat' (first | refine ⟨by omega, ?_⟩ | (refine hJ _ _ (RunsL.nil ?_); clear hJ J) | refine RunsA.cond rfl (fun h => ?_) (fun h => absurd h (by decide)) | refine RunsA.cond rfl (fun h => absurd h (by decide)) (fun h => ?_) | refine RunsA.cond rfl (fun h => ?_) (fun h => ?_) | (refine step_ ?_) | (refine RunsA.rk 4 [33, 34] tabOk fun J hJ => ?_; simp only [go_sem, ↓reduceIte, Nat.reduceAdd, Nat.reduceSub, Nat.reduceMul, Nat.reduceLT, Nat.reduceLeDiff, Nat.reduceEqDiff, Nat.reduceBEq, Int.reduceToNat]; try simp (disch := omega) only [wrap_id]) | (refine hJ _ _ (RunsL.call (ps := []) (rid := 16) rfl rfl rfl rfl rfl (by simp only [go_sem, Nat.reduceEqDiff]; first | done | rfl) (hI) rfl (by decide) ⟨by decide, by decide, rfl⟩ (by first | exact .inl rfl | exact .inr (.inl rfl) | exact .inr (.inr rfl)) ?_); clear hJ J; rintro r os' ros ⟨rfl, rfl, rfl⟩ _; refine RunsL.go tabOk fun J hJ => ?_; simp only [go_sem, ↓reduceIte, Nat.reduceAdd, Nat.reduceSub, Nat.reduceMul, Nat.reduceLT, Nat.reduceLeDiff, Nat.reduceEqDiff, Nat.reduceBEq, Int.reduceToNat]; try simp (disch := omega) only [wrap_id]) | (refine hJ _ _ (RunsL.call (ps := []) (rid := 16) rfl rfl rfl rfl rfl (by simp only [go_sem, Nat.reduceEqDiff]; first | done | rfl) (hN1) rfl (by decide) ⟨by decide, by decide, rfl⟩ (by first | exact .inl rfl | exact .inr (.inl rfl) | exact .inr (.inr rfl)) ?_); clear hJ J; rintro r os' ros ⟨rfl, rfl, rfl⟩ _; refine RunsL.go tabOk fun J hJ => ?_; simp only [go_sem, ↓reduceIte, Nat.reduceAdd, Nat.reduceSub, Nat.reduceMul, Nat.reduceLT, Nat.reduceLeDiff, Nat.reduceEqDiff, Nat.reduceBEq, Int.reduceToNat]; try simp (disch := omega) only [wrap_id]) | (refine hJ _ _ (RunsL.call (ps := []) (rid := 16) rfl rfl rfl rfl rfl (by simp only [go_sem, Nat.reduceEqDiff]; first | done | rfl) (hN2) rfl (by decide) ⟨by decide, by decide, rfl⟩ (by first | exact .inl rfl | exact .inr (.inl rfl) | exact .inr (.inr rfl)) ?_); clear hJ J; rintro r os' ros ⟨rfl, rfl, rfl⟩ _; refine RunsL.go tabOk fun J hJ => ?_; simp only [go_sem, ↓reduceIte, Nat.reduceAdd, Nat.reduceSub, Nat.reduceMul, Nat.reduceLT, Nat.reduceLeDiff, Nat.reduceEqDiff, Nat.reduceBEq, Int.reduceToNat]; try simp (disch := omega) only [wrap_id]) | (refine hJ _ _ (RunsL.call (ps := []) (rid := 16) rfl rfl rfl rfl rfl (by simp only [go_sem, Nat.reduceEqDiff]; first | done | rfl) (hM) rfl (by decide) ⟨by decide, by decide, rfl⟩ (by first | exact .inl rfl | exact .inr (.inl rfl) | exact .inr (.inr rfl)) ?_); clear hJ J; rintro r os' ros ⟨rfl, rfl, rfl⟩ _; refine RunsL.go tabOk fun J hJ => ?_; simp only [go_sem, ↓reduceIte, Nat.reduceAdd, Nat.reduceSub, Nat.reduceMul, Nat.reduceLT, Nat.reduceLeDiff, Nat.reduceEqDiff, Nat.reduceBEq, Int.reduceToNat]; try simp (disch := omega) only [wrap_id]) | (refine hJ _ _ (RunsL.call (ps := []) (rid := 16) rfl rfl rfl rfl rfl (by simp only [go_sem, Nat.reduceEqDiff]; first | done | rfl) (hPl) rfl (by decide) ⟨by decide, by decide, rfl⟩ (by first | exact .inl rfl | exact .inr (.inl rfl) | exact .inr (.inr rfl)) ?_); clear hJ J; rintro r os' ros ⟨rfl, rfl, rfl⟩ _; refine RunsL.go tabOk fun J hJ => ?_; simp only [go_sem, ↓reduceIte, Nat.reduceAdd, Nat.reduceSub, Nat.reduceMul, Nat.reduceLT, Nat.reduceLeDiff, Nat.reduceEqDiff, Nat.reduceBEq, Int.reduceToNat]; try simp (disch := omega) only [wrap_id]) | (refine hJ _ _ (RunsL.call (ps := []) (rid := 16) rfl rfl rfl rfl rfl (by simp only [go_sem, Nat.reduceEqDiff]; first | done | rfl) (hNl) rfl (by decide) ⟨by decide, by decide, rfl⟩ (by first | exact .inl rfl | exact .inr (.inl rfl) | exact .inr (.inr rfl)) ?_); clear hJ J; rintro r os' ros ⟨rfl, rfl, rfl⟩ _; refine RunsL.go tabOk fun J hJ => ?_; simp only [go_sem, ↓reduceIte, Nat.reduceAdd, Nat.reduceSub, Nat.reduceMul, Nat.reduceLT, Nat.reduceLeDiff, Nat.reduceEqDiff, Nat.reduceBEq, Int.reduceToNat]; try simp (disch := omega) only [wrap_id]) | (refine hJ _ _ (RunsL.call (ps := []) (rid := 16) rfl rfl rfl rfl rfl (by simp only [go_sem, Nat.reduceEqDiff]; first | done | rfl) (l1In_ok _ _ _) rfl (by decide) ⟨by decide, by decide, rfl⟩ (by first | exact .inl rfl | exact .inr (.inl rfl) | exact .inr (.inr rfl)) ?_); clear hJ J; rintro r os' ros ⟨rfl, rfl, rfl⟩ _; refine RunsL.go tabOk fun J hJ => ?_; simp only [go_sem, ↓reduceIte, Nat.reduceAdd, Nat.reduceSub, Nat.reduceMul, Nat.reduceLT, Nat.reduceLeDiff, Nat.reduceEqDiff, Nat.reduceBEq, Int.reduceToNat]; try simp (disch := omega) only [wrap_id]) | split)
  all_goals (
    clear hI hN1 hN2 hM hPl hNl
    refine RetA.mk tabOk 0 rfl rfl rfl (by omega) rfl rfl rfl ?_
    refine ⟨?_, rfl, rfl⟩
    rw [← hR]
    clear hR
    simp only [res1, AV.bool.injEq, lineB]
    simp_all
    all_goals (first | done | (intros; omega)))
end Go.Proofs.YtgjeemfggfhibaaGreatDoorFw
