/- Texts as lines: both ParseText. -/
import Derived.Test.YtiilnlihimdnlaaGreatDoorQP
import Derived.Test.YtiilnlihimdnlaaGreatDoorJQ
import Derived.Test.YtiilnlihimdnlaaGreatDoorQX
namespace Go.Proofs.YtiilnlihimdnlaaGreatDoorFw
open Go Go.RowKit
set_option linter.unusedVariables false
set_option linter.unusedSimpArgs false
set_option maxRecDepth 4000
theorem splitL_mem : ∀ (s p : Str), p ∈ splitL s → p.length ≤ s.length
 | [], p, h => by simp [splitL] at h; simp [h]
 | c :: r, p, h => by
  have ih := fun q hq => splitL_mem r q hq
  rw [splitL] at h
  split at h
  ·rcases List.mem_cons.1 h with h | h
   ·simp [h]
   ·have := ih p h; simp only [List.length_cons]; omega
  ·cases e : splitL r with
   | nil => rw [e] at h; simp at h; simp [h]
   | cons a t =>
    rw [e] at h ih
    rcases List.mem_cons.1 h with h | h
    ·have := ih a (by simp)
     rw [h]; simp only [List.length_cons]; omega
    ·have := ih p (by simp [h])
     simp only [List.length_cons]; omega
theorem rowsV_mem {s p : Str} (h : p ∈ rowsV s) : p.length ≤ s.length := by
 refine splitL_mem s p ?_
 unfold rowsV at h
 split at h
 ·exact List.dropLast_subset _ h
 ·exact h
theorem rowsV_len (s : Str) : (rowsV s).length ≤ s.length + 1 := by
 have h1 := splitL_len s
 have h2 := cnt_le s
 unfold rowsV
 split
 ·rw [List.length_dropLast]; omega
 ·omega
noncomputable def textG : List Str → Nat → List LineV → List LineV × Int
 | [], i, acc => (acc, -1)
 | r :: rs, i, acc => match parseLineV r with
  | some x => if i = 100 then ([], ((i : Nat) : Int)) else textG rs (i + 1) (acc ++ [x])
  | none => ([], ((i : Nat) : Int))
noncomputable def textV (s : Str) : List LineV × Int := textG (rowsV s) 0 []
theorem textG_none {rs : List Str} {r : Str} {i : Nat} {acc : List LineV} (h : parseLineV r = none) : textG (r :: rs) i acc = ([], ((i : Nat) : Int)) := by rw [textG, h]
theorem textG_full {rs : List Str} {r : Str} {acc : List LineV} : textG (r :: rs) 100 acc = ([], ((100 : Nat) : Int)) := by
 rw [textG]
 split
 ·rw [if_pos rfl]
 ·rfl
theorem textG_on {rs : List Str} {r : Str} {i : Nat} {acc : List LineV} {x : LineV} (h : parseLineV r = some x) (hi : i ≠ 100) : textG (r :: rs) i acc = textG rs (i + 1) (acc ++ [x]) := by rw [textG, h]; exact if_neg hi
theorem linesA_snoc' (m : Md) (l : List LineV) (x : LineV) : linesA m l ++ [lineA m x] = linesA m (l ++ [x]) := by simp [linesA]
def TxR (V : List LineV × Int) (r : AV) (os ros : List (Nat × List AV)) : Prop := r = .tup [.hd 100 [], .int .i64 V.2] ∧ os = [] ∧ ros = [(17, linesA .own V.1)]
def txInv (R : List Str) (V : List LineV × Int) (p : Nat × List LineV) : Prop := p.1 ≤ R.length ∧ p.1 ≤ 100 ∧ p.2.length = p.1 ∧ textG (R.drop p.1) p.1 p.2 = V
theorem txInv_end {R : List Str} {V : List LineV × Int} {i : Nat} {acc : List LineV} (h : txInv R V (i, acc)) (hi : ¬ i < R.length) : V = (acc, -1) := by
 obtain ⟨h1, h2, h3, h4⟩ := h
 simp only at h1 h4
 rw [List.drop_eq_nil_of_le (by omega), textG] at h4
 exact h4.symm
theorem txInv_at {R : List Str} {V : List LineV × Int} {i : Nat} {acc : List LineV} (h : txInv R V (i, acc)) (hi : i < R.length) : acc.length = i ∧ i ≤ 100 ∧ (parseLineV R[i] = none → V = ([], ((i : Nat) : Int))) ∧ (i = 100 → V = ([], ((i : Nat) : Int))) ∧
 (∀ x, parseLineV R[i] = some x → i ≠ 100 → txInv R V (i + 1, acc ++ [x])) := by
 obtain ⟨h1, h2, h3, h4⟩ := h
 simp only at h1 h2 h3 h4
 rw [List.drop_eq_getElem_cons hi] at h4
 refine ⟨h3, h2, fun h => ?_, fun h => ?_, fun x hx hne => ⟨by simp only; omega, by simp only; omega, by simp only [List.length_append, List.length_cons, List.length_nil]; omega, ?_⟩⟩
 ·rw [← h4, textG_none h]
 ·subst h
  rw [← h4, textG_full]
 ·simp only
  rw [← h4, textG_on hx hne]
set_option maxHeartbeats 16000000 in
theorem parseTextI_ok (s : Str) (hl : s.length ≤ 1048576) : FnA Tryz.prog 17 false [.str s] [] (TxR (textV s)) := by
 have hRow := rowsOf_ok s hl
 have hmem := fun p h => rowsV_mem (s := s) (p := p) h
 have hrl := rowsV_len s
 have hi0 : txInv (rowsV s) (textV s) (0, []) := ⟨Nat.zero_le _, Nat.zero_le _, rfl, rfl⟩
 generalize textV s = V at *
 generalize rowsV s = R at *
 have hsl : (strs R).length = R.length := strs_len R
 refine FnA.of Tryz.func17 rfl (by decide) Tryz.ntmps17 (by simp) ?_
 unfold TxR
 refine run_ ?_
 refine rg_ ?_
 refine call_ (ps := []) (rid := 16) rfl rfl rfl rfl rfl (hRow) ?_
 refine cr_ ?_
 refine run1_ @hsl ?_
 refine RunsA.loop ?_
 refine (LoopA.ind (fun p : Nat × List LineV => ⟨36, [(0, .str s), (4, .hd 2560 []), (11, .row .ro 1 (strs R)), (12, .int .i64 (R.length : Nat)), (13, .int .i64 (p.1 : Nat))], [⟨2560, 17, linesA .own p.2⟩], false⟩) (fun p => R.length - p.1) (txInv R V) ?_ (0, []) hi0).sub rfl ?_ ?_ rfl
 ·rintro ⟨i, acc⟩ hp K3 hK3
  simp only at hK3 ⊢
  by_cases h1 : i < R.length
  ·have q1 : decide ((i : Int) < (R.length : Nat)) = true := decide_eq_true (by omega)
   have q11 : ((i : Int) < (R.length : Nat)) = True := eq_true (by omega)
   have hg : (strs R)[i]? = some (.str R[i]) := strs_get h1
   obtain ⟨a1, a2, a3, a4, a5⟩ := txInv_at hp h1
   have hP := parseLineI_ok R[i] (by have := hmem _ (List.getElem_mem h1); omega)
   generalize R[i] = row at *
   clear hp hRow hmem hi0
   cases hx : parseLineV row with
   | none =>
    have hV := a3 hx
    rw [hx] at hP
    unfold PLR zeroL lnV azV nothE lineR lineO at hP
    simp only [Option.getD_none, Option.isSome_none] at hP
    subst hV
    refine auto4_ 9 [11, 12, 13] @q1 @q11 @hg @hsl ?_
    refine call_ (ps := []) (rid := 5376) rfl rfl rfl rfl rfl (hP) ?_
    refine cr_ ?_
    refine auto0_ 9 [11, 12, 13] ?_
    refine rv_ ?_
    refine vren_ 768 100 ?_
    exact RetV.mk 1 rfl rfl (by omega) rfl (by simp [noBoO, noBoL, noBo]) rfl ⟨rfl, rfl, rfl⟩
   | some x =>
    rw [hx] at hP
    have a5 := a5 x hx
    obtain ⟨kk, ss, oo, sf, sr, sk, sn, st, sl, df, dr, dk, dn, dt, dl, nn, ll⟩ := x
    unfold PLR lineR lineO at hP
    simp only [Option.getD_some, Option.isSome_some] at hP
    have hsn := linesA_snoc' .own acc (.mk kk ss oo sf sr sk sn st sl df dr dk dn dt dl nn ll)
    rw [lineA_mk] at hsn
    have hll := linesA_len .own acc
    by_cases h100 : i = 100
    ·have hV := a4 h100
     subst hV
     have q2 : ((i : Int) == 100) = true := by rw [h100]; rfl
     have q22 : ((i : Int) = 100) = True := eq_true (by omega)
     refine auto4_ 9 [11, 12, 13] @q1 @q11 @hg @hsl ?_
     refine call_ (ps := []) (rid := 5376) rfl rfl rfl rfl rfl (hP) ?_
     refine cr_ ?_
     refine auto2_ 9 [11, 12, 13] @q2 @q22 ?_
     refine rv_ ?_
     refine vren_ 768 100 ?_
     exact RetV.mk 1 rfl rfl (by omega) rfl (by simp [noBoO, noBoL, noBo]) rfl ⟨rfl, rfl, rfl⟩
    ·have q2 : ((i : Int) == 100) = false := beq_eq_false_iff_ne.2 (by omega)
     have q22 : ((i : Int) = 100) = False := eq_false (by omega)
     refine auto4_ 9 [11, 12, 13] @q1 @q11 @hg @hsl ?_
     refine call_ (ps := []) (rid := 5376) rfl rfl rfl rfl rfl (hP) ?_
     refine cr_ ?_
     repeat' (first | refine ⟨by omega, ?_⟩ | (refine hJ _ _ (RunsL.nil ?_); clear hJ J) | refine RunsA.cond rfl (fun h => ?_) (fun h => absurd h (by decide)) | refine RunsA.cond rfl (fun h => absurd h (by decide)) (fun h => ?_) | (refine step_ ?_) | (refine RunsA.rk 9 [11, 12, 13] tabOk fun J hJ => ?_; simp only [go_sem, ↓reduceIte, Nat.reduceAdd, Nat.reduceSub, Nat.reduceMul, Nat.reduceLT, Nat.reduceLeDiff, Nat.reduceEqDiff, Nat.reduceBEq, Int.reduceToNat, q2, q22, Bool.not_true, hll, List.length_cons, List.length_nil, hsn]; try simp (disch := omega) only [wrap_id]) | simp only [↓reduceIte, not_false_eq_true, q2, q22, Bool.not_true, hll, List.length_cons, List.length_nil, hsn])
     exact hK3 (i + 1, acc ++ [.mk kk ss oo sf sr sk sn st sl df dr dk dn dt dl nn ll]) _ (a5 h100) (by simp only; omega) rfl (by simp [SubS, lookS]) (by simp [SubO, lookO, hsn]) rfl
  ·have hV := txInv_end hp h1
   have q1 : decide ((i : Int) < (R.length : Nat)) = false := decide_eq_false (by omega)
   have q11 : ((i : Int) < (R.length : Nat)) = False := eq_false (by omega)
   subst hV
   clear hp hRow hmem hi0
   refine auto3_ 9 [11, 12, 13] @q1 @q11 @hsl ?_
   refine rv_ ?_
   refine vren_ 2560 100 ?_
   exact RetV.mk 1 rfl rfl (by omega) rfl (by simp [noBoO, noBo_lines]) rfl ⟨rfl, rfl, rfl⟩
 ·simp [SubS, lookS, hsl]
 ·simp [SubO, lookO, linesA]
set_option maxHeartbeats 16000000 in
theorem parseTextS_ok (s : Str) (hl : s.length ≤ 1048576) : FnA Tryz.prog 16 false [.str s] [] (TxR (textV s)) := by
 have hRow := l13Split_ok s hl
 have hmem := fun p h => rowsV_mem (s := s) (p := p) h
 have hrl := rowsV_len s
 have hi0 : txInv (rowsV s) (textV s) (0, []) := ⟨Nat.zero_le _, Nat.zero_le _, rfl, rfl⟩
 generalize textV s = V at *
 generalize rowsV s = R at *
 have hsl : (strs R).length = R.length := strs_len R
 refine FnA.of Tryz.func16 rfl (by decide) Tryz.ntmps16 (by simp) ?_
 unfold TxR
 refine run_ ?_
 refine rg_ ?_
 refine call_ (ps := []) (rid := 3072) rfl rfl rfl rfl rfl (hRow) ?_
 refine cr_ ?_
 refine run1_ @hsl ?_
 refine RunsA.loop ?_
 refine (LoopA.ind (fun p : Nat × List LineV => ⟨39, [(0, .str s), (4, .hd 2560 []), (5, .hd 3072 []), (6, .int .i64 (p.1 : Nat))], [⟨2560, 17, linesA .own p.2⟩, ⟨3072, 1, strs R⟩], false⟩) (fun p => R.length - p.1) (txInv R V) ?_ (0, []) hi0).sub rfl ?_ ?_ rfl
 ·rintro ⟨i, acc⟩ hp K3 hK3
  simp only at hK3 ⊢
  by_cases h1 : i < R.length
  ·have q1 : decide ((i : Int) < (R.length : Nat)) = true := decide_eq_true (by omega)
   have q11 : ((i : Int) < (R.length : Nat)) = True := eq_true (by omega)
   have hg : (strs R)[i]? = some (.str R[i]) := strs_get h1
   obtain ⟨a1, a2, a3, a4, a5⟩ := txInv_at hp h1
   have hP := parseLineS_ok R[i] (by have := hmem _ (List.getElem_mem h1); omega)
   generalize R[i] = row at *
   clear hp hRow hmem hi0
   cases hx : parseLineV row with
   | none =>
    have hV := a3 hx
    rw [hx] at hP
    unfold PLR zeroL lnV azV nothE lineR lineO at hP
    simp only [Option.getD_none, Option.isSome_none] at hP
    subst hV
    by_cases h100 : i = 100
    ·have q2 : ((i : Int) == 100) = true := by rw [h100]; rfl
     have q22 : ((i : Int) = 100) = True := eq_true (by omega)
     refine auto4_ 9 [] @q1 @q11 @hg @hsl ?_
     refine call_ (ps := []) (rid := 6144) rfl rfl rfl rfl rfl (hP) ?_
     refine cr_ ?_
     refine auto2_ 9 [] @q2 @q22 ?_
     refine rv_ ?_
     refine vren_ 8448 100 ?_
     exact RetV.mk 1 rfl rfl (by omega) rfl (by simp [noBoO, noBoL, noBo]) rfl ⟨rfl, rfl, rfl⟩
    ·have q2 : ((i : Int) == 100) = false := beq_eq_false_iff_ne.2 (by omega)
     have q22 : ((i : Int) = 100) = False := eq_false (by omega)
     refine auto4_ 9 [] @q1 @q11 @hg @hsl ?_
     refine call_ (ps := []) (rid := 6144) rfl rfl rfl rfl rfl (hP) ?_
     refine cr_ ?_
     refine auto2_ 9 [] @q2 @q22 ?_
     refine rv_ ?_
     refine vren_ 8448 100 ?_
     exact RetV.mk 1 rfl rfl (by omega) rfl (by simp [noBoO, noBoL, noBo]) rfl ⟨rfl, rfl, rfl⟩
   | some x =>
    rw [hx] at hP
    have a5 := a5 x hx
    obtain ⟨kk, ss, oo, sf, sr, sk, sn, st, sl, df, dr, dk, dn, dt, dl, nn, ll⟩ := x
    unfold PLR lineR lineO at hP
    simp only [Option.getD_some, Option.isSome_some] at hP
    have hsn := linesA_snoc' .own acc (.mk kk ss oo sf sr sk sn st sl df dr dk dn dt dl nn ll)
    rw [lineA_mk] at hsn
    have hll := linesA_len .own acc
    by_cases h100 : i = 100
    ·have hV := a4 h100
     subst hV
     have q2 : ((i : Int) == 100) = true := by rw [h100]; rfl
     have q22 : ((i : Int) = 100) = True := eq_true (by omega)
     refine auto4_ 9 [] @q1 @q11 @hg @hsl ?_
     refine call_ (ps := []) (rid := 6144) rfl rfl rfl rfl rfl (hP) ?_
     refine cr_ ?_
     refine auto2_ 9 [] @q2 @q22 ?_
     refine rv_ ?_
     refine vren_ 8448 100 ?_
     exact RetV.mk 1 rfl rfl (by omega) rfl (by simp [noBoO, noBoL, noBo]) rfl ⟨rfl, rfl, rfl⟩
    ·have q2 : ((i : Int) == 100) = false := beq_eq_false_iff_ne.2 (by omega)
     have q22 : ((i : Int) = 100) = False := eq_false (by omega)
     refine auto4_ 9 [] @q1 @q11 @hg @hsl ?_
     refine call_ (ps := []) (rid := 6144) rfl rfl rfl rfl rfl (hP) ?_
     refine cr_ ?_
     repeat' (first | refine ⟨by omega, ?_⟩ | (refine hJ _ _ (RunsL.nil ?_); clear hJ J) | refine RunsA.cond rfl (fun h => ?_) (fun h => absurd h (by decide)) | refine RunsA.cond rfl (fun h => absurd h (by decide)) (fun h => ?_) | (refine step_ ?_) | (refine RunsA.rk 9 [] tabOk fun J hJ => ?_; simp only [go_sem, ↓reduceIte, Nat.reduceAdd, Nat.reduceSub, Nat.reduceMul, Nat.reduceLT, Nat.reduceLeDiff, Nat.reduceEqDiff, Nat.reduceBEq, Int.reduceToNat, q2, q22, Bool.not_true, hll, List.length_cons, List.length_nil, hsn]; try simp (disch := omega) only [wrap_id]) | simp only [↓reduceIte, not_false_eq_true, q2, q22, Bool.not_true, hll, List.length_cons, List.length_nil, hsn])
     exact hK3 (i + 1, acc ++ [.mk kk ss oo sf sr sk sn st sl df dr dk dn dt dl nn ll]) _ (a5 h100) (by simp only; omega) rfl (by simp [SubS, lookS]) (by simp [SubO, lookO, hsn]) rfl
  ·have hV := txInv_end hp h1
   have q1 : decide ((i : Int) < (R.length : Nat)) = false := decide_eq_false (by omega)
   have q11 : ((i : Int) < (R.length : Nat)) = False := eq_false (by omega)
   subst hV
   clear hp hRow hmem hi0
   refine auto3_ 9 [] @q1 @q11 @hsl ?_
   refine rv_ ?_
   refine vren_ 2560 100 ?_
   exact RetV.mk 1 rfl rfl (by omega) rfl (by simp [noBoO, noBo_lines]) rfl ⟨rfl, rfl, rfl⟩
 ·simp [SubS, lookS, hsl]
 ·simp [SubO, lookO, linesA]
end Go.Proofs.YtiilnlihimdnlaaGreatDoorFw
