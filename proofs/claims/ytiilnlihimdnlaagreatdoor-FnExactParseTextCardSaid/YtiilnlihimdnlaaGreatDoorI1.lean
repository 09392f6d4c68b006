/- Texts of digits of base eight, read. -/
import Derived.Test.YtiilnlihimdnlaaGreatDoorQB
namespace Go.Proofs.YtiilnlihimdnlaaGreatDoorFw
open Go Go.RowKit
set_option linter.unusedVariables false
set_option linter.unusedSimpArgs false
set_option maxRecDepth 4000
def octA : Str → Nat → Option Nat
 | [], a => some a
 | c :: r, a => if 48 ≤ c.toNat ∧ c.toNat ≤ 55 then octA r (a * 8 + (c.toNat - 48)) else none
theorem octA_app : ∀ (x y : Str) (a : Nat), octA (x ++ y) a = (octA x a).bind (octA y)
 | [], y, a => rfl
 | c :: x, y, a => by
  simp only [List.cons_append, octA]
  split
  ·exact octA_app x y _
  ·rfl
theorem octA_dig (d a : Nat) (h : d < 8) : octA (dig d) a = some (a * 8 + d) := by
 have h1 : (UInt8.ofNat (48 + d)).toNat = 48 + d := by rw [UInt8.toNat_ofNat']; omega
 simp only [dig, octA, h1]
 rw [if_pos (by omega)]
 congr 1; omega
theorem octA_oct (n : Nat) : octA (octS n) 0 = some n := by
 induction n using Nat.strongRecOn with
 | _ n ih =>
  rw [octS]
  split
  ·rename_i h; rw [octA_dig n 0 h]; simp
  ·rename_i h
   rw [octA_app, ih (n / 8) (by omega), Option.bind_some, octA_dig _ _ (by omega)]
   congr 1; omega
theorem octA_mono : ∀ (s : Str) (a m : Nat), octA s a = some m → a ≤ m
 | [], a, m, h => by simp only [octA, Option.some.injEq] at h; omega
 | c :: r, a, m, h => by
  simp only [octA] at h
  split at h
  ·have := octA_mono r _ m h; omega
  ·cases h
theorem octA_digs : ∀ (s : Str) (a m : Nat), octA s a = some m → ∀ c ∈ s, 48 ≤ c.toNat ∧ c.toNat ≤ 55
 | [], a, m, h, c, hc => by simp at hc
 | d :: r, a, m, h, c, hc => by
  simp only [octA] at h
  split at h
  ·rename_i hd
   rcases List.mem_cons.1 hc with rfl | hc
   ·exact hd
   ·exact octA_digs r _ m h c hc
  ·cases h
theorem octS_ne (n : Nat) : octS n ≠ [] := by
 rw [octS]
 split
 ·simp [dig]
 ·simp [dig]
def OctInv (s : Str) (i n : Nat) : Prop := ∀ N, N ≤ 65535 → octS N = s → octA (s.take i) 0 = some n ∧ n ≤ N
theorem OctInv.zero (s : Str) : OctInv s 0 0 := fun N _ _ => ⟨by simp [octA], by omega⟩
theorem OctInv.dig {s : Str} {i n : Nat} (h : OctInv s i n) (hi : i < s.length) {N : Nat} (hN : N ≤ 65535) (hs : octS N = s) : 48 ≤ s[i].toNat ∧ s[i].toNat ≤ 55 := by
 have h1 := octA_oct N
 rw [hs] at h1
 exact octA_digs s 0 N h1 _ (List.getElem_mem hi)
theorem OctInv.step {s : Str} {i n : Nat} (h : OctInv s i n) (hi : i < s.length) (hd : 48 ≤ s[i].toNat ∧ s[i].toNat ≤ 55) : OctInv s (i + 1) (n * 8 + (s[i].toNat - 48)) := by
 intro N hN hs
 obtain ⟨h1, h2⟩ := h N hN hs
 have hsn : s.take (i + 1) = s.take i ++ [s[i]] := by rw [List.take_succ_eq_append_getElem hi]
 have e : octA (s.take (i + 1)) 0 = some (n * 8 + (s[i].toNat - 48)) := by
  rw [hsn, octA_app, h1, Option.bind_some]
  simp only [octA, if_pos hd]
 refine ⟨e, ?_⟩
 have h3 := octA_oct N
 rw [hs, ← List.take_append_drop (i + 1) s, octA_app, e, Option.bind_some] at h3
 exact octA_mono _ _ _ h3
theorem OctInv.last {s : Str} {n : Nat} (h : OctInv s s.length n) {N : Nat} (hN : N ≤ 65535) (hs : octS N = s) : n = N := by
 obtain ⟨h1, _⟩ := h N hN hs
 rw [List.take_length] at h1
 have h3 := octA_oct N
 rw [hs, h1] at h3
 exact Option.some.inj h3
noncomputable def octV (s : Str) : Option Nat := match octA s 0 with
 | some n => if n ≤ 65535 ∧ octS n = s then some n else none
 | none => none
theorem octV_some {s : Str} {n : Nat} : octV s = some n ↔ n ≤ 65535 ∧ octS n = s := by
 unfold octV
 constructor
 ·intro h
  split at h
  ·split at h
   ·rename_i h1; obtain rfl := Option.some.inj h; exact h1
   ·cases h
  ·cases h
 ·rintro ⟨h1, rfl⟩
  rw [octA_oct]
  simp [h1]
theorem octV_none {s : Str} (h : ∀ n, n ≤ 65535 → octS n ≠ s) : octV s = none := by
 cases e : octV s with
 | none => rfl
 | some n => exact absurd (octV_some.1 e).2 (h n (octV_some.1 e).1)
end Go.Proofs.YtiilnlihimdnlaaGreatDoorFw
