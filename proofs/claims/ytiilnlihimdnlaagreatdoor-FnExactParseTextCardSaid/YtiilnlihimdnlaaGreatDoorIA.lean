/- Tokens read at a place: the program's. -/
import Derived.Test.YtiilnlihimdnlaaGreatDoorI9
import Derived.Lib.IndexAny
import Derived.Shelf.Small.Strs
namespace Go.Proofs.YtiilnlihimdnlaaGreatDoorFw
open Go Go.RowKit Go.Proofs
set_option linter.unusedVariables false
set_option linter.unusedSimpArgs false
set_option maxRecDepth 4000
theorem idxByte_ok (s : Str) (c : UInt8) : FnA Tryz.prog 94 false [.str s, .int .u8 (c.toNat : Nat)] [] (fun res os ros => res = .int .i64 (Lib.indexByte s c) ∧ os = [] ∧ ros = []) := by
 refine FnA.of_below ⟨_, Tryz.func94, rfl, by decide⟩ ?_ rfl
 intro vs w g hvl hv hrd
 obtain ⟨v1, v2, rfl⟩ : ∃ v1 v2, vs = #[v1, v2] := by
  obtain ⟨vl⟩ := vs
  match vl, hvl with
  | [v1, v2], _ => exact ⟨v1, v2, rfl⟩
 obtain rfl := (hv 0 _ v1 rfl rfl).str_inv
 obtain rfl := (hv 1 _ v2 rfl rfl).int_inv
 refine (Any.strings_IndexByte Tryz.lays137 ⟨⟨s⟩⟩ (c.toNat : Nat) w).mono ?_
 rintro e w' ⟨rfl, rfl⟩
 refine ⟨⟨_, rfl, fun _ _ => ?_⟩, Below.refl _ _⟩
 have e1 : ((c.toNat : Nat) : Int).toNat.toUInt8 = c := by simp
 have e2 : (⟨⟨s⟩⟩ : ByteArray).data.toList = s := rfl
 rw [e1, e2]
 exact Val.mkInt _ _ _ _
theorem idx_marks (c : UInt8) : decide (Lib.indexByte marksS c < 0) = !decide (c ∈ marksS) := by
 have h := Lib.contains_iff_indexByte marksS c
 by_cases hc : c ∈ marksS
 ·rw [List.contains_iff_mem.2 hc] at h
  have := of_decide_eq_true h.symm
  rw [decide_eq_true hc, decide_eq_false (by omega)]; rfl
 ·have hn : marksS.contains c = false := by
   rw [← Bool.not_eq_true, List.contains_iff_mem]; exact hc
  rw [hn] at h
  have := of_decide_eq_false h.symm
  rw [decide_eq_false hc, decide_eq_true (by omega)]; rfl
noncomputable def numR (w : Str) : AV := match octV w with
 | some n => .tup [.agg [.int .i64 2, .int .i64 n, .str []], .int .i64 (w.length : Nat)]
 | none => .tup [.agg [.int .i64 0, .int .i64 0, .str []], .int .i64 0]
set_option maxHeartbeats 4000000 in
theorem numberAt_ok (s : Str) (a : Nat) (ha : a ≤ s.length) (hl : s.length ≤ 140737488355328) : FnA Tryz.prog 95 false [.str s, .int .i64 a] [] (fun res os ros => res = numR (runQ false s a) ∧ os = [] ∧ ros = []) := by
 refine FnA.of Tryz.func95 rfl (by decide) Tryz.ntmps95 (by simp) ?_
 refine run_ ?_
 refine RunsA.loop ?_
 refine (LoopA.ind (fun i : Nat => ⟨39, [(0, .str s), (1, .int .i64 a), (4, .ptr 1280 [] 3 0 0), (5, .int .i64 0), (6, .int .i64 i)], [⟨1280, 3, [.agg [.int .i64 0, .int .i64 0, .str []]]⟩], false⟩) (fun i => s.length - i) (fun i => a ≤ i ∧ i ≤ s.length ∧ ∀ j (h : j < s.length), a ≤ j → j < i → ptQ false s[j] = true) ?_ a ?_).sub rfl ?_ ?_ rfl
 ·rintro i ⟨h0, hi, ht⟩ K3 hK3
  have hfin := runQ_eq false s a i h0 hi ht
  have hfl := runQ_len false s a i h0 hi ht
  by_cases h2 : i < s.length ∧ ptQ false (s.getD i 0) = true
  ·have hilt := h2.1
   have hg : s[i]? = some s[i] := List.getElem?_eq_getElem hilt
   have hgd : s.getD i 0 = s[i] := by rw [List.getD_eq_getElem?_getD, hg]; rfl
   have hp := h2.2
   rw [hgd] at hp
   have hb := byte_lt s[i]
   have e2 : decide ((i : Int) < (s.length : Int)) = true := decide_eq_true (by omega)
   have e22 : ((i : Int) < (s.length : Int)) = True := eq_true (by omega)
   have hyes : ∀ j (h : j < s.length), a ≤ j → j < i + 1 → ptQ false s[j] = true := fun j hj h3 hji => by
    rcases Nat.lt_or_eq_of_le (Nat.lt_succ_iff.1 hji) with h4 | h4
    ·exact ht j hj h3 h4
    ·subst h4; exact hp
   have hd : DigP s[i].toNat := by simpa [ptQ] using hp
   clear hfin hfl ht h2 hgd
   generalize s[i] = c at *
   generalize hn : c.toNat = n at *
   have ed : decide ((48 : Int) ≤ (n : Nat) ∧ ((n : Nat) : Int) ≤ 57) = true := decide_eq_true hd
   repeat' (first | refine ⟨by omega, ?_⟩ | (refine hJ _ _ (RunsL.nil ?_); clear hJ J) | refine RunsA.cond rfl (fun h => ?_) (fun h => absurd h (by decide)) | refine RunsA.cond rfl (fun h => absurd h (by decide)) (fun h => ?_) | (refine step_ ?_) | (refine RunsA.rk 7 [] tabOk fun J hJ => ?_; simp only [go_sem, ↓reduceIte, Nat.reduceAdd, Nat.reduceSub, Nat.reduceMul, Nat.reduceLT, Nat.reduceLeDiff, Nat.reduceEqDiff, Nat.reduceBEq, Int.reduceToNat, e2, e22, hg, hn, ed]; try simp (disch := omega) only [wrap_id]) | (refine hJ _ _ (call_ (ps := []) (rid := 16) rfl rfl rfl rfl rfl (within_ok _ _ _) ?_); clear hJ J; rintro r os' ros ⟨rfl, rfl, rfl⟩ _; refine RunsL.go tabOk fun J hJ => ?_; simp only [go_sem, ↓reduceIte, Nat.reduceAdd, Nat.reduceSub, Nat.reduceMul, Nat.reduceLT, Nat.reduceLeDiff, Nat.reduceEqDiff, Nat.reduceBEq, Int.reduceToNat, e2, e22, hg, hn, ed]; try simp (disch := omega) only [wrap_id]) | simp only [↓reduceIte, not_false_eq_true, e2, e22, hg, hn, ed])
   exact hK3 (i + 1) _ ⟨by omega, by omega, hyes⟩ (by omega) rfl (by simp [SubS, lookS]) (by simp [SubO, lookO]) rfl
  ·have hstop : ∀ h : i < s.length, ptQ false s[i] = false := fun h => by
    have hgd : s.getD i 0 = s[i] := by rw [List.getD_eq_getElem?_getD, List.getElem?_eq_getElem h]; rfl
    have : ¬ ptQ false (s.getD i 0) = true := fun hc => h2 ⟨h, hc⟩
    rw [hgd] at this
    simpa using this
   have hw := hfin hstop
   have hwl := hfl hstop
   have hO := ioctP_ok (runQ false s a) (by have := runQ_le false s a ha; omega)
   have hii : ((i : Nat) : Int) - (a : Nat) = ((runQ false s a).length : Nat) := by omega
   have hR : ∀ n, octV (runQ false s a) = some n → numR (runQ false s a) = .tup [.agg [.int .i64 2, .int .i64 n, .str []], .int .i64 ((runQ false s a).length : Nat)] := fun n h => by rw [numR, h]
   have hR0 : octV (runQ false s a) = none → numR (runQ false s a) = .tup [.agg [.int .i64 0, .int .i64 0, .str []], .int .i64 0] := fun h => by rw [numR, h]
   have hsl := hw.symm
   clear hw hfin hfl h2 ht
   generalize runQ false s a = w at *
   by_cases h3 : i < s.length
   ·have hg : s[i]? = some s[i] := List.getElem?_eq_getElem h3
    have hp := hstop h3
    have e2 : decide ((i : Int) < (s.length : Int)) = true := decide_eq_true (by omega)
    have e22 : ((i : Int) < (s.length : Int)) = True := eq_true (by omega)
    have hd : ¬ DigP s[i].toNat := by simpa [ptQ] using hp
    have hb := byte_lt s[i]
    generalize s[i] = c at *
    generalize hn : c.toNat = n at *
    have ed : decide ((48 : Int) ≤ (n : Nat) ∧ ((n : Nat) : Int) ≤ 57) = false := decide_eq_false hd
    cases ev : octV w with
    | some m =>
     rw [octR_some ev] at hO
     rw [hR m ev]
     repeat' (first | refine ⟨by omega, ?_⟩ | (refine hJ _ _ (RunsL.nil ?_); clear hJ J) | refine RunsA.cond rfl (fun h => ?_) (fun h => absurd h (by decide)) | refine RunsA.cond rfl (fun h => absurd h (by decide)) (fun h => ?_) | (refine step_ ?_) | (refine RunsA.rk 9 [] tabOk fun J hJ => ?_; simp only [go_sem, ↓reduceIte, Nat.reduceAdd, Nat.reduceSub, Nat.reduceMul, Nat.reduceLT, Nat.reduceLeDiff, Nat.reduceEqDiff, Nat.reduceBEq, Int.reduceToNat, e2, e22, hg, hn, ed, hsl, Bool.not_true, hii]; try simp (disch := omega) only [wrap_id]) | (refine hJ _ _ (call_ (ps := []) (rid := 16) rfl rfl rfl rfl rfl (within_ok _ _ _) ?_); clear hJ J; rintro r os' ros ⟨rfl, rfl, rfl⟩ _; refine RunsL.go tabOk fun J hJ => ?_; simp only [go_sem, ↓reduceIte, Nat.reduceAdd, Nat.reduceSub, Nat.reduceMul, Nat.reduceLT, Nat.reduceLeDiff, Nat.reduceEqDiff, Nat.reduceBEq, Int.reduceToNat, e2, e22, hg, hn, ed, hsl, Bool.not_true, hii]; try simp (disch := omega) only [wrap_id]) | (refine hJ _ _ (call_ (ps := []) (rid := 16) rfl rfl rfl rfl rfl (hO) ?_); clear hJ J; rintro r os' ros ⟨rfl, rfl, rfl⟩ _; refine RunsL.go tabOk fun J hJ => ?_; simp only [go_sem, ↓reduceIte, Nat.reduceAdd, Nat.reduceSub, Nat.reduceMul, Nat.reduceLT, Nat.reduceLeDiff, Nat.reduceEqDiff, Nat.reduceBEq, Int.reduceToNat, e2, e22, hg, hn, ed, hsl, Bool.not_true, hii]; try simp (disch := omega) only [wrap_id]) | simp only [↓reduceIte, not_false_eq_true, e2, e22, hg, hn, ed, hsl, Bool.not_true, hii])
     exact RetA.mk tabOk 0 rfl rfl rfl (by omega) rfl rfl rfl ⟨rfl, rfl, rfl⟩
    | none =>
     rw [octR_none ev] at hO
     rw [hR0 ev]
     repeat' (first | refine ⟨by omega, ?_⟩ | (refine hJ _ _ (RunsL.nil ?_); clear hJ J) | refine RunsA.cond rfl (fun h => ?_) (fun h => absurd h (by decide)) | refine RunsA.cond rfl (fun h => absurd h (by decide)) (fun h => ?_) | (refine step_ ?_) | (refine RunsA.rk 9 [] tabOk fun J hJ => ?_; simp only [go_sem, ↓reduceIte, Nat.reduceAdd, Nat.reduceSub, Nat.reduceMul, Nat.reduceLT, Nat.reduceLeDiff, Nat.reduceEqDiff, Nat.reduceBEq, Int.reduceToNat, e2, e22, hg, hn, ed, hsl, Bool.not_false, hii]; try simp (disch := omega) only [wrap_id]) | (refine hJ _ _ (call_ (ps := []) (rid := 16) rfl rfl rfl rfl rfl (within_ok _ _ _) ?_); clear hJ J; rintro r os' ros ⟨rfl, rfl, rfl⟩ _; refine RunsL.go tabOk fun J hJ => ?_; simp only [go_sem, ↓reduceIte, Nat.reduceAdd, Nat.reduceSub, Nat.reduceMul, Nat.reduceLT, Nat.reduceLeDiff, Nat.reduceEqDiff, Nat.reduceBEq, Int.reduceToNat, e2, e22, hg, hn, ed, hsl, Bool.not_false, hii]; try simp (disch := omega) only [wrap_id]) | (refine hJ _ _ (call_ (ps := []) (rid := 16) rfl rfl rfl rfl rfl (hO) ?_); clear hJ J; rintro r os' ros ⟨rfl, rfl, rfl⟩ _; refine RunsL.go tabOk fun J hJ => ?_; simp only [go_sem, ↓reduceIte, Nat.reduceAdd, Nat.reduceSub, Nat.reduceMul, Nat.reduceLT, Nat.reduceLeDiff, Nat.reduceEqDiff, Nat.reduceBEq, Int.reduceToNat, e2, e22, hg, hn, ed, hsl, Bool.not_false, hii]; try simp (disch := omega) only [wrap_id]) | simp only [↓reduceIte, not_false_eq_true, e2, e22, hg, hn, ed, hsl, Bool.not_false, hii])
     exact RetA.mk tabOk 0 rfl rfl rfl (by omega) rfl rfl rfl ⟨rfl, rfl, rfl⟩
   ·have e2 : decide ((i : Int) < (s.length : Int)) = false := decide_eq_false (by omega)
    have e22 : ((i : Int) < (s.length : Int)) = False := eq_false (by omega)
    cases ev : octV w with
    | some m =>
     rw [octR_some ev] at hO
     rw [hR m ev]
     refine auto4c1_ 9 [] @hO @e2 @e22 @hsl @hii ?_
     exact RetA.mk tabOk 0 rfl rfl rfl (by omega) rfl rfl rfl ⟨rfl, rfl, rfl⟩
    | none =>
     rw [octR_none ev] at hO
     rw [hR0 ev]
     refine auto4c1_ 9 [] @hO @e2 @e22 @hsl @hii ?_
     exact RetA.mk tabOk 0 rfl rfl rfl (by omega) rfl rfl rfl ⟨rfl, rfl, rfl⟩
 ·exact ⟨Nat.le_refl _, ha, fun j _ h1 h2 => by omega⟩
 ·simp [SubS, lookS]
 ·simp [SubO, lookO]
end Go.Proofs.YtiilnlihimdnlaaGreatDoorFw
