/- Rows of a text, as the library and both sides split it. -/
import Derived.Test.YtiilnlihimdnlaaGreatDoorI4
import Derived.Test.YtiilnlihimdnlaaGreatDoorSN
import Derived.Shelf.Strings.Search3
import Derived.Shelf.Strings.Count
set_option linter.unusedVariables false
set_option linter.unusedSimpArgs false
set_option maxRecDepth 4000
namespace Go.Proofs.YtiilnlihimdnlaaGreatDoorFw
open Go Go.RowKit Go.Proofs
theorem idx10_ok (s : Str) : FnA Tryz.prog 142 false [.str s, .str [10]] [] (fun res os ros => res = .int .i64 (Lib.indexByte s 10) ∧ os = [] ∧ ros = []) := by
 refine FnA.of_below ⟨_, Tryz.func142, rfl, by decide⟩ ?_ rfl
 intro vs w g hvl hv hrd
 obtain ⟨v1, v2, rfl⟩ : ∃ v1 v2, vs = #[v1, v2] := by
  obtain ⟨vl⟩ := vs
  match vl, hvl with
  | [v1, v2], _ => exact ⟨v1, v2, rfl⟩
 obtain rfl := (hv 0 _ v1 rfl rfl).str_inv
 obtain rfl := (hv 1 _ v2 rfl rfl).str_inv
 refine (Any.strings_Index_one Tryz.lays143 ⟨⟨s⟩⟩ 10 w).mono ?_
 rintro e w' ⟨rfl, rfl⟩
 exact ⟨⟨_, rfl, fun _ _ => Val.mkInt _ _ _ _⟩, Below.refl _ _⟩
theorem cnt10_ok (s : Str) : FnA Tryz.prog 141 false [.str s, .str [10]] [] (fun res os ros => res = .int .i64 (((Lib.countByte s 10 : Nat) : Int)) ∧ os = [] ∧ ros = []) := by
 refine FnA.of_below ⟨_, Tryz.func141, rfl, by decide⟩ ?_ rfl
 intro vs w g hvl hv hrd
 obtain ⟨v1, v2, rfl⟩ : ∃ v1 v2, vs = #[v1, v2] := by
  obtain ⟨vl⟩ := vs
  match vl, hvl with
  | [v1, v2], _ => exact ⟨v1, v2, rfl⟩
 obtain rfl := (hv 0 _ v1 rfl rfl).str_inv
 obtain rfl := (hv 1 _ v2 rfl rfl).str_inv
 refine (Any.strings_Count_one Tryz.lays138 ⟨⟨s⟩⟩ 10 w).mono ?_
 rintro e w' ⟨rfl, rfl⟩
 exact ⟨⟨_, rfl, fun _ _ => Val.mkInt _ _ _ _⟩, Below.refl _ _⟩
def splitL : Str → List Str
 | [] => [[]]
 | c :: r => if c = 10 then [] :: splitL r else match splitL r with
  | [] => [[c]]
  | h :: t => (c :: h) :: t
theorem splitL_len : ∀ s : Str, (splitL s).length = Lib.countByte s 10 + 1
 | [] => rfl
 | c :: r => by
  have ih := splitL_len r
  rw [splitL]
  by_cases hc : c = 10
  ·rw [if_pos hc, hc]
   simp only [List.length_cons, ih, Lib.countByte, List.count_cons_self]
  ·rw [if_neg hc]
   have e : Lib.countByte (c :: r) 10 = Lib.countByte r 10 := by
    unfold Lib.countByte
    rw [List.count_cons_of_ne (by simpa using hc)]
   rw [e]
   cases h : splitL r with
   | nil => rw [h] at ih; simp at ih
   | cons a t => rw [h] at ih; simpa using ih
theorem splitL_cut : ∀ (s : Str) (m : Nat), Lib.indexByte s 10 = (m : Int) → m < s.length ∧ splitL s = s.take m :: splitL (s.drop (m + 1)) ∧ Lib.countByte s 10 = Lib.countByte (s.drop (m + 1)) 10 + 1
 | [], m, h => by rw [Lib.indexByte] at h; omega
 | c :: r, m, h => by
  rw [Lib.indexByte] at h
  rw [splitL]
  by_cases hc : c = 10
  ·rw [if_pos (by simp [hc])] at h
   obtain rfl : m = 0 := by omega
   rw [if_pos hc, hc]
   simp [Lib.countByte, List.count_cons_self]
  ·rw [if_neg (by simp [hc])] at h
   split at h
   ·omega
   ·rename_i hn
    have hge := Lib.indexByte_ge r 10
    have hne : Lib.indexByte r 10 ≠ -1 := fun h2 => hn (by rw [h2]; rfl)
    obtain ⟨k, hk⟩ : ∃ k : Nat, Lib.indexByte r 10 = (k : Int) := ⟨(Lib.indexByte r 10).toNat, by omega⟩
    obtain rfl : m = k + 1 := by omega
    obtain ⟨a1, a2, a3⟩ := splitL_cut r k hk
    rw [if_neg hc, a2]
    refine ⟨by simp only [List.length_cons]; omega, by simp, ?_⟩
    have e : Lib.countByte (c :: r) 10 = Lib.countByte r 10 := by
     unfold Lib.countByte
     rw [List.count_cons_of_ne (by simpa using hc)]
    rw [e, a3]; rfl
theorem splitL_no : ∀ (s : Str), Lib.countByte s 10 = 0 → splitL s = [s]
 | [], h => rfl
 | c :: r, h => by
  rw [splitL]
  by_cases hc : c = 10
  ·rw [hc] at h
   simp [Lib.countByte, List.count_cons_self] at h
  ·have e : Lib.countByte (c :: r) 10 = Lib.countByte r 10 := by
    unfold Lib.countByte
    rw [List.count_cons_of_ne (by simpa using hc)]
   rw [e] at h
   rw [if_neg hc, splitL_no r h]
theorem idx_some {s : Str} (h : 0 < Lib.countByte s 10) : ∃ m : Nat, Lib.indexByte s 10 = (m : Int) := by
 induction s with
 | nil => simp [Lib.countByte] at h
 | cons c r ih =>
  rw [Lib.indexByte]
  by_cases hc : c = 10
  ·exact ⟨0, by rw [if_pos (by simp [hc])]; rfl⟩
  ·have e : Lib.countByte (c :: r) 10 = Lib.countByte r 10 := by
    unfold Lib.countByte
    rw [List.count_cons_of_ne (by simpa using hc)]
   rw [e] at h
   obtain ⟨m, hm⟩ := ih h
   refine ⟨m + 1, ?_⟩
   rw [if_neg (by simp [hc]), hm, if_neg (by simp)]
   rfl
theorem cnt_le (s : Str) : Lib.countByte s 10 ≤ s.length := List.count_le_length
theorem frzL_strs : ∀ l : List Str, frzL (strs l) = strs l
 | [] => rfl
 | t :: r => by
  have := frzL_strs r
  simp only [strs, List.map_cons, frzL, frz] at *
  rw [this]
def rowsV (s : Str) : List Str := if (splitL s).getLast? = some [] then (splitL s).dropLast else splitL s
theorem rowsV_eq {s : Str} {Q : List Str} {x : Str} (h : splitL s = Q ++ [x]) : rowsV s = if x = [] then Q else Q ++ [x] := by
 unfold rowsV
 rw [h]
 simp
theorem splitL_last (s : Str) : ∃ Q x, splitL s = Q ++ [x] := by
 have h := splitL_len s
 rcases List.eq_nil_or_concat (splitL s) with h2 | ⟨Q, x, h2⟩
 ·rw [h2] at h; simp at h
 ·exact ⟨Q, x, by rw [h2, List.concat_eq_append]⟩
set_option maxHeartbeats 8000000 in
theorem genSplit_ok (s : Str) (hl : s.length ≤ 1048576) : FnA Tryz.prog 119 false [.str s, .str [10], .int .i64 0, .int .i64 (-1)] [] (fun r os ros => r = .row .ro 1 (strs (splitL s)) ∧ os = [] ∧ ros = []) := by
 have hC := cnt10_ok s
 have hcl := cnt_le s
 have hsl := splitL_len s
 have h0c : 0 + (Lib.countByte s 10 + 1) = Lib.countByte s 10 + 1 := by omega
 refine FnA.of Tryz.func119 rfl (by decide) Tryz.ntmps119 (by simp) ?_
 obtain ⟨c, hc⟩ : ∃ c, Lib.countByte s 10 = c := ⟨_, rfl⟩
 rw [hc] at hC hcl hsl
 have qs : (([10] : Str) == []) = false := rfl
 have qn : decide ((-1 : Int) < 0) = true := rfl
 have qm : (((s.length : Nat) : Int) + 1 < (c : Int) + 1) = False := eq_false (by omega)
 have hcn : ((c : Int) + 1).toNat = c + 1 := by omega
 have hcm : (c : Int) + 1 - 1 = (c : Nat) := by omega
 repeat' (first | refine ⟨by omega, ?_⟩ | (refine hJ _ _ (RunsL.nil ?_); clear hJ J) | refine RunsA.cond rfl (fun h => ?_) (fun h => absurd h (by decide)) | refine RunsA.cond rfl (fun h => absurd h (by decide)) (fun h => ?_) | (refine step_ ?_) | (refine RunsA.rk 12 [] tabOk fun J hJ => ?_; simp only [go_sem, ↓reduceIte, Nat.reduceAdd, Nat.reduceSub, Nat.reduceMul, Nat.reduceLT, Nat.reduceLeDiff, Nat.reduceEqDiff, Nat.reduceBEq, Int.reduceToNat, qs, qn, Int.reduceBEq, Int.reduceNeg]; try simp (disch := omega) only [wrap_id]) | simp only [↓reduceIte, not_false_eq_true, qs, qn, Int.reduceBEq, Int.reduceNeg])
 refine hJ _ _ (call_ (ps := []) (rid := 16) rfl rfl rfl rfl rfl (hC) ?_); clear hJ J
 rintro r os' ros ⟨rfl, rfl, rfl⟩ _
 refine cg_ ?_
 refine RunsL.nil ?_
 refine auto3_ 12 [] @qm @hcn @hcm ?_
 refine RunsA.loop ?_
 rw [← fill_nil]
 refine (LoopA.ind (fun p : Nat × Str × List Str => ⟨66, [(0, .str p.2.1), (1, .str [10]), (2, .int .i64 0), (3, .int .i64 (c : Nat)), (9, .hd 8192 []), (10, .int .i64 (p.1 : Nat))], [⟨8192, 1, fill (c + 1) (strs p.2.2) (.str [])⟩], false⟩)
  (fun p => c - p.1) (fun p => p.1 ≤ c ∧ p.2.2.length = p.1 ∧ p.2.2 ++ splitL p.2.1 = splitL s ∧ p.1 + Lib.countByte p.2.1 10 = c ∧ p.2.1.length ≤ s.length) ?_ (0, s, []) ?_).sub rfl ?_ ?_ rfl
 ·rintro ⟨i, cur, P⟩ ⟨h1, h2, h3, h4, h5⟩ K3 hK3
  simp only at h1 h2 h3 h4 h5 hK3 ⊢
  have hPl : (strs P).length = i := by rw [strs_len, h2]
  have hg : (fill (c + 1) (strs P) (.str []))[i]? = some (.str []) := by have := fill_get (n := c + 1) (done := strs P) (z := .str []) (by omega); rwa [hPl] at this
  have hfl : (fill (c + 1) (strs P) (.str [])).length = c + 1 := fill_len (by omega)
  have hst : ∀ x : Str, (fill (c + 1) (strs P) (.str [])).set i (.str x) = fill (c + 1) (strs (P ++ [x])) (.str []) := fun x => by
   have := fill_set (n := c + 1) (done := strs P) (z := .str []) (x := .str x) (by omega)
   rw [hPl] at this
   rw [this]; simp [strs]
  by_cases hi : i < c
  ·have q1 : decide ((i : Int) < (c : Nat)) = true := decide_eq_true (by omega)
   have q11 : ((i : Int) < (c : Nat)) = True := eq_true (by omega)
   obtain ⟨m, hm⟩ := idx_some (s := cur) (by omega)
   obtain ⟨m1, m2, m3⟩ := splitL_cut cur m hm
   have hI := idx10_ok cur
   rw [hm] at hI
   have q2 : decide ((m : Int) < 0) = false := decide_eq_false (by omega)
   have q22 : ((m : Int) < 0) = False := eq_false (by omega)
   have q3 : (m : Int) + 0 = (m : Nat) := by omega
   have q4 : ((m : Int) + 1).toNat = m + 1 := by omega
   have q5 : (cur.drop (m + 1)).take (cur.length - (m + 1)) = cur.drop (m + 1) := List.take_of_length_le (by rw [List.length_drop]; exact Nat.le_refl _)
   have q6 : ((m : Int) + ((1 : Nat) : Int)).toNat = m + 1 := by omega
   have hs2 := hst (cur.take m)
   refine auto2_ 12 [] @q1 @q11 ?_
   refine call_ (ps := []) (rid := 16) rfl rfl rfl rfl rfl (hI) ?_
   refine cr_ ?_
   repeat' (first | refine ⟨by omega, ?_⟩ | (refine hJ _ _ (RunsL.nil ?_); clear hJ J) | refine RunsA.cond rfl (fun h => ?_) (fun h => absurd h (by decide)) | refine RunsA.cond rfl (fun h => absurd h (by decide)) (fun h => ?_) | (refine step_ ?_) | (refine RunsA.rk 12 [] tabOk fun J hJ => ?_; simp only [go_sem, ↓reduceIte, Nat.reduceAdd, Nat.reduceSub, Nat.reduceMul, Nat.reduceLT, Nat.reduceLeDiff, Nat.reduceEqDiff, Nat.reduceBEq, Int.reduceToNat, q2, q22, q3, q4, q6, q5, hg, hfl, hs2, List.length_cons, List.length_nil, List.drop_zero, Nat.sub_zero, Int.toNat_natCast]; try simp (disch := omega) only [wrap_id]) | simp only [↓reduceIte, not_false_eq_true, q2, q22, q3, q4, q6, q5, hg, hfl, hs2, List.length_cons, List.length_nil, List.drop_zero, Nat.sub_zero, Int.toNat_natCast])
   refine hK3 (i + 1, cur.drop (m + 1), P ++ [cur.take m]) _ ⟨by simp only; omega, by simp only [List.length_append, List.length_cons, List.length_nil]; omega, ?_, by simp only; omega, by simp only [List.length_drop]; omega⟩ (by simp only; omega) rfl (by simp [SubS, lookS]) (by simp [SubO, lookO]) rfl
   rw [← h3, m2]
   simp
  ·obtain rfl : i = c := by omega
   have hno := splitL_no cur (by omega)
   rw [hno] at h3
   have q1 : decide ((i : Int) < (i : Nat)) = false := decide_eq_false (by omega)
   have q11 : ((i : Int) < (i : Nat)) = False := eq_false (by omega)
   have hs2 : (fill (i + 1) (strs P) (.str [])).set i (.str cur) = strs (splitL s) := by rw [hst cur, h3]; exact fill_all (by rw [strs_len, hsl])
   have hsl2 : (strs (splitL s)).length = i + 1 := by rw [strs_len, hsl]
   have htk : (strs (splitL s)).take (i + 1) = strs (splitL s) := List.take_of_length_le (by omega)
   have q3 : ((i : Int) + 1).toNat = i + 1 := by omega
   refine run1_ @q1 ?_
   refine RunsA.cond rfl (fun h => absurd h (by decide)) (fun h => ?_)
   repeat (refine step_ ?_)
   refine RunsA.rq tabOk fun J hJ => ?_
   simp only [go_sem, ↓reduceIte, Nat.reduceAdd, Nat.reduceSub, Nat.reduceMul, Nat.reduceLT, Nat.reduceLeDiff, Nat.reduceEqDiff, Nat.reduceBEq, Int.reduceToNat, hg, hfl, hs2]
   try simp (disch := omega) only [wrap_id]
   refine ⟨by omega, ?_⟩
   refine hJ _ _ (RunsL.nil ?_); clear hJ J
   repeat (refine step_ ?_)
   refine RunsA.ghost (GhostStep.freeze (id := 8192) rfl (noBo_strs _)) ?_
   simp only [go_sem, ↓reduceIte, Nat.reduceAdd, Nat.reduceSub, Nat.reduceMul, Nat.reduceLT, Nat.reduceLeDiff, Nat.reduceEqDiff, Nat.reduceBEq, Int.reduceToNat, frzS, frzV, frzVL, frzL_strs, dropO]
   refine run3_ @hsl2 @htk @q3 ?_
   exact RetA.mk tabOk 0 rfl rfl rfl (by omega) rfl rfl rfl ⟨by rw [q3, Nat.sub_zero, htk]; rfl, rfl, rfl⟩
 ·exact ⟨Nat.zero_le _, rfl, rfl, by simp only; omega, Nat.le_refl _⟩
 ·simp [SubS, lookS]
 ·simp [SubO, lookO, strs, fill, List.replicate_succ]
theorem split_ok (s : Str) (hl : s.length ≤ 1048576) : FnA Tryz.prog 78 false [.str s, .str [10]] [] (fun r os ros => r = .row .ro 1 (strs (splitL s)) ∧ os = [] ∧ ros = []) := by
 have hG := genSplit_ok s hl
 refine FnA.of Tryz.func78 rfl (by decide) Tryz.ntmps78 (by simp) ?_
 refine run_ ?_
 refine rg_ ?_
 refine call_ (ps := []) (rid := 16) rfl rfl rfl rfl rfl (hG) ?_
 refine cr_ ?_
 refine run_ ?_
 exact RetA.mk tabOk 0 rfl rfl rfl (by omega) rfl rfl rfl ⟨rfl, rfl, rfl⟩
set_option maxHeartbeats 4000000 in
theorem rowsOf_ok (s : Str) (hl : s.length ≤ 1048576) : FnA Tryz.prog 44 false [.str s] [] (fun r os ros => r = .row .ro 1 (strs (rowsV s)) ∧ os = [] ∧ ros = []) := by
 have hS := split_ok s hl
 have hsl := splitL_len s
 have hcl := cnt_le s
 obtain ⟨Q, x, hQ⟩ := splitL_last s
 rw [rowsV_eq hQ]
 rw [hQ] at hS hsl
 simp only [List.length_append, List.length_cons, List.length_nil] at hsl
 have hn : (strs (Q ++ [x])).length = Q.length + 1 := by rw [strs_len]; simp
 have hg : (strs (Q ++ [x]))[Q.length]? = some (.str x) := by simp [strs]
 have hw : IntKind.i64.wrap ((Q.length : Nat) : Int) = (Q.length : Nat) := wrap_id (by omega) (by omega)
 have ht : (strs (Q ++ [x])).take Q.length = strs Q := by simp [strs]
 have q1 : ((Q.length + 1 : Nat) : Int) - 1 = (Q.length : Nat) := by omega
 refine FnA.of Tryz.func44 rfl (by decide) Tryz.ntmps44 (by simp) ?_
 by_cases c : x = []
 ·have q2 : (x == []) = true := by simp [c]
  have q3 : (x = []) = True := eq_true c
  rw [if_pos c]
  refine run_ ?_
  refine rg_ ?_
  refine call_ (ps := []) (rid := 16) rfl rfl rfl rfl rfl (hS) ?_
  refine cr_ ?_
  refine auto8_ 4 [] @hn @q1 @hw @Int.toNat_natCast @hg @q2 @q3 @ht ?_
  exact RetA.mk tabOk 0 rfl rfl rfl (by omega) rfl rfl rfl ⟨by rw [Nat.sub_zero, ht]; rfl, rfl, rfl⟩
 ·have q2 : (x == []) = false := by simp [c]
  have q3 : (x = []) = False := eq_false c
  rw [if_neg c]
  refine run_ ?_
  refine rg_ ?_
  refine call_ (ps := []) (rid := 16) rfl rfl rfl rfl rfl (hS) ?_
  refine cr_ ?_
  refine auto8_ 4 [] @hn @q1 @hw @Int.toNat_natCast @hg @q2 @q3 @ht ?_
  exact RetA.mk tabOk 0 rfl rfl rfl (by omega) rfl rfl rfl ⟨rfl, rfl, rfl⟩
end Go.Proofs.YtiilnlihimdnlaaGreatDoorFw
namespace Go.Proofs.YtiilnlihimdnlaaGreatDoorFw
open Go Go.RowKit Go.Proofs
theorem idx_at : ∀ (u : Str) (k : Nat), u[k]? = some 10 → (∀ j, j < k → u[j]? ≠ some 10) → Lib.indexByte u 10 = (k : Int)
 | [], k, h, _ => by simp at h
 | c :: r, 0, h, _ => by
  simp only [List.getElem?_cons_zero, Option.some.injEq] at h
  rw [Lib.indexByte, if_pos (by simp [h])]; rfl
 | c :: r, k + 1, h, h2 => by
  have hc : c ≠ 10 := fun e => h2 0 (by omega) (by simp [e])
  have ih := idx_at r k (by simpa using h) (fun j hj => by have := h2 (j + 1) (by omega); simpa using this)
  rw [Lib.indexByte, if_neg (by simp [hc]), ih, if_neg (by simp)]
  rfl
theorem cnt_zero : ∀ (u : Str), (∀ j : Nat, u[j]? ≠ some 10) → Lib.countByte u 10 = 0
 | [], _ => rfl
 | c :: r, h => by
  have hc : c ≠ 10 := fun e => h 0 (by simp [e])
  have ih := cnt_zero r (fun j => by have := h (j + 1); simpa using this)
  unfold Lib.countByte at *
  rw [List.count_cons_of_ne (by simpa using hc), ih]
theorem strs_snoc2 (l : List Str) (x : Str) : strs l ++ [.str x] = strs (l ++ [x]) := by simp [strs]
def rowInv (s : Str) (p : Nat × Nat × List Str) : Prop := (p.1 ≤ s.length ∧ p.2.1 ≤ p.1 ∧ p.2.2.length ≤ p.2.1 ∧ p.2.2 ++ splitL (s.drop p.2.1) = splitL s ∧ ∀ j, p.2.1 ≤ j → j < p.1 → s[j]? ≠ some 10) ∨ (p.1 = s.length + 1 ∧ p.2.2 = rowsV s)
theorem rowInv_last {s : Str} {out : List Str} {f : Nat} (h : rowInv s (s.length, f, out)) : f ≤ s.length ∧ out.length ≤ f ∧ (f = s.length → rowsV s = out) ∧ (f < s.length → rowsV s = out ++ [s.drop f]) := by
 rcases h with ⟨h1, h2, h3, h4, h5⟩ | ⟨h1, _⟩
 ·simp only at h1 h2 h3 h4 h5
  have hno : splitL (s.drop f) = [s.drop f] := splitL_no _ (cnt_zero _ fun j hj => by
   rw [List.getElem?_drop] at hj
   have := (List.getElem?_eq_some_iff.1 hj).1
   exact h5 (f + j) (by omega) this hj)
  rw [hno] at h4
  refine ⟨h2, h3, fun hf => ?_, fun hf => ?_⟩
  ·rw [rowsV_eq h4.symm, if_pos (by rw [hf, List.drop_length])]
  ·rw [rowsV_eq h4.symm, if_neg (fun h => by have := congrArg List.length h; rw [List.length_drop, List.length_nil] at this; omega)]
 ·simp only at h1; omega
theorem rowInv_cut {s : Str} {out : List Str} {i f : Nat} (h : rowInv s (i, f, out)) (hc : s[i]? = some 10) : f ≤ i ∧ out.length ≤ f ∧ rowInv s (i + 1, i + 1, out ++ [(s.drop f).take (i - f)]) := by
 have hlt := (List.getElem?_eq_some_iff.1 hc).1
 rcases h with ⟨h1, h2, h3, h4, h5⟩ | ⟨h1, _⟩
 ·simp only at h1 h2 h3 h4 h5
  have hx := idx_at (s.drop f) (i - f) (by rw [List.getElem?_drop, show f + (i - f) = i by omega]; exact hc) (fun j hj => by rw [List.getElem?_drop]; exact h5 _ (by omega) (by omega))
  obtain ⟨_, a2, _⟩ := splitL_cut _ _ hx
  refine ⟨h2, h3, .inl ⟨by simp only; omega, Nat.le_refl _, by simp only [List.length_append, List.length_cons, List.length_nil]; omega, ?_, fun j h6 h7 => by simp only at h6 h7; omega⟩⟩
  simp only
  rw [← h4, a2, List.drop_drop, show f + (i - f + 1) = i + 1 by omega]
  simp
 ·simp only at h1; omega
theorem rowInv_on {s : Str} {out : List Str} {i f : Nat} (h : rowInv s (i, f, out)) (hi : i < s.length) (hc : s[i]? ≠ some 10) : f ≤ i ∧ out.length ≤ f ∧ rowInv s (i + 1, f, out) := by
 rcases h with ⟨h1, h2, h3, h4, h5⟩ | ⟨h1, _⟩
 ·simp only at h1 h2 h3 h4 h5
  refine ⟨h2, h3, .inl ⟨by simp only; omega, by simp only; omega, h3, h4, fun j h6 h7 => ?_⟩⟩
  simp only at h6 h7
  by_cases e : j = i
  ·rw [e]; exact hc
  ·exact h5 j h6 (by omega)
 ·simp only at h1; omega
set_option maxHeartbeats 8000000 in
theorem l13Split_ok (s : Str) (hl : s.length ≤ 1048576) : FnA Tryz.prog 43 false [.str s] [] (fun r os ros => r = .hd 100 [] ∧ os = [] ∧ ros = [(1, strs (rowsV s))]) := by
 refine FnA.of Tryz.func43 rfl (by decide) Tryz.ntmps43 (by simp) ?_
 refine run_ ?_
 refine RunsA.loop ?_
 refine (LoopA.ind (fun p : Nat × Nat × List Str => ⟨42, [(0, .str s), (3, .hd 1792 []), (4, .int .i64 (p.2.1 : Nat)), (5, .int .i64 (p.1 : Nat))], [⟨1792, 1, strs p.2.2⟩], false⟩) (fun p => s.length + 1 - p.1) (rowInv s) ?_ (0, 0, []) ?_).sub rfl ?_ ?_ rfl
 ·rintro ⟨i, f, out⟩ hp K3 hK3
  simp only at hK3 ⊢
  by_cases h1 : i ≤ s.length
  ·have q1 : decide ((i : Int) ≤ (s.length : Nat)) = true := decide_eq_true (by omega)
   have q11 : ((i : Int) ≤ (s.length : Nat)) = True := eq_true (by omega)
   by_cases h2 : i = s.length
   ·subst h2
    obtain ⟨a1, a2, a3, a4⟩ := rowInv_last hp
    have q2 : (((s.length : Nat) : Int) == ((s.length : Nat) : Int)) = true := by simp
    by_cases h3 : f = s.length
    ·have hR := a3 h3
     have q3 : (((s.length : Nat) : Int) == (f : Nat)) = true := by rw [h3]; simp
     have q33 : (((s.length : Nat) : Int) = (f : Nat)) = True := eq_true (by omega)
     rw [hR]
     clear hp a3 a4
     refine auto6_ 6 [] @q1 @q11 @q2 @q3 @q33 @q33 ?_
     refine rv_ ?_
     refine vren_ 1792 100 ?_
     exact RetV.mk 1 rfl rfl (by omega) rfl (by simp [noBoO, noBo_strs]) rfl ⟨rfl, rfl, rfl⟩
    ·have hR := a4 (by omega)
     have q3 : (((s.length : Nat) : Int) == (f : Nat)) = false := beq_eq_false_iff_ne.2 (by omega)
     have q33 : (((s.length : Nat) : Int) = (f : Nat)) = False := eq_false (by omega)
     have hs := strs_snoc2 out (s.drop f)
     have ht : (s.drop f).take (s.length - f) = s.drop f := List.take_of_length_le (by rw [List.length_drop]; exact Nat.le_refl _)
     clear hp
     repeat' (first | refine ⟨by omega, ?_⟩ | (refine hJ _ _ (RunsL.nil ?_); clear hJ J) | refine RunsA.cond rfl (fun h => ?_) (fun h => absurd h (by decide)) | refine RunsA.cond rfl (fun h => absurd h (by decide)) (fun h => ?_) | (refine step_ ?_) | (refine RunsA.rk 6 [] tabOk fun J hJ => ?_; simp only [go_sem, ↓reduceIte, Nat.reduceAdd, Nat.reduceSub, Nat.reduceMul, Nat.reduceLT, Nat.reduceLeDiff, Nat.reduceEqDiff, Nat.reduceBEq, Int.reduceToNat, q1, q11, q2, q3, q33, Int.toNat_natCast, strs_len, List.length_cons, List.length_nil, ht, hs]; try simp (disch := omega) only [wrap_id]) | simp only [↓reduceIte, not_false_eq_true, q1, q11, q2, q3, q33, Int.toNat_natCast, strs_len, List.length_cons, List.length_nil, ht, hs])
     exact hK3 (s.length + 1, s.length + 1, out ++ [s.drop f]) _ (.inr ⟨rfl, hR.symm⟩) (by simp only; omega) rfl (by simp [SubS, lookS]) (by simp [SubO, lookO, ht, hs]) rfl
   ·have hi : i < s.length := by omega
    have q2 : ((i : Int) == ((s.length : Nat) : Int)) = false := beq_eq_false_iff_ne.2 (by omega)
    have q22 : ((i : Int) = ((s.length : Nat) : Int)) = False := eq_false (by omega)
    have hg : s[i]? = some s[i] := List.getElem?_eq_getElem hi
    by_cases hc : s[i]? = some 10
    ·obtain ⟨a1, a2, a3⟩ := rowInv_cut hp hc
     have q3 : ((((10 : UInt8).toNat : Nat) : Int) == 10) = true := rfl
     have hs := strs_snoc2 out ((s.drop f).take (i - f))
     clear hp
     repeat' (first | refine ⟨by omega, ?_⟩ | (refine hJ _ _ (RunsL.nil ?_); clear hJ J) | refine RunsA.cond rfl (fun h => ?_) (fun h => absurd h (by decide)) | refine RunsA.cond rfl (fun h => absurd h (by decide)) (fun h => ?_) | (refine step_ ?_) | (refine RunsA.rk 6 [] tabOk fun J hJ => ?_; simp only [go_sem, ↓reduceIte, Nat.reduceAdd, Nat.reduceSub, Nat.reduceMul, Nat.reduceLT, Nat.reduceLeDiff, Nat.reduceEqDiff, Nat.reduceBEq, Int.reduceToNat, q1, q11, q2, q22, hc, q3, Int.toNat_natCast, strs_len, List.length_cons, List.length_nil, hs]; try simp (disch := omega) only [wrap_id]) | simp only [↓reduceIte, not_false_eq_true, q1, q11, q2, q22, hc, q3, Int.toNat_natCast, strs_len, List.length_cons, List.length_nil, hs])
     exact hK3 (i + 1, i + 1, out ++ [(s.drop f).take (i - f)]) _ a3 (by simp only; omega) rfl (by simp [SubS, lookS]) (by simp [SubO, lookO, hs]) rfl
    ·obtain ⟨a1, a2, a3⟩ := rowInv_on hp hi hc
     have hcn : s[i].toNat ≠ 10 := fun h => hc (by rw [hg]; exact congrArg some (UInt8.toNat_inj.1 h))
     generalize s[i] = c at *
     have q3 : (((c.toNat : Nat) : Int) == 10) = false := beq_eq_false_iff_ne.2 (by omega)
     have q33 : (((c.toNat : Nat) : Int) = 10) = False := eq_false (by omega)
     clear hp
     refine auto8_ 6 [] @q1 @q11 @q2 @q22 @hg @q3 @q33 @q33 ?_
     exact hK3 (i + 1, f, out) _ a3 (by simp only; omega) rfl (by simp [SubS, lookS]) (by simp [SubO, lookO]) rfl
  ·have hR : out = rowsV s := by
    rcases hp with ⟨h2, _⟩ | ⟨_, h3⟩
    ·exact absurd h2 h1
    ·exact h3
   have q1 : decide ((i : Int) ≤ (s.length : Nat)) = false := decide_eq_false (by omega)
   have q11 : ((i : Int) ≤ (s.length : Nat)) = False := eq_false (by omega)
   rw [hR]
   clear hp
   refine auto2_ 6 [] @q1 @q11 ?_
   refine rv_ ?_
   refine vren_ 1792 100 ?_
   exact RetV.mk 1 rfl rfl (by omega) rfl (by simp [noBoO, noBo_strs]) rfl ⟨rfl, rfl, rfl⟩
 ·exact .inl ⟨Nat.zero_le _, Nat.le_refl _, Nat.le_refl _, rfl, fun j h6 h7 => by simp only at h7; omega⟩
 ·simp [SubS, lookS]
 ·simp [SubO, lookO, strs]
end Go.Proofs.YtiilnlihimdnlaaGreatDoorFw
