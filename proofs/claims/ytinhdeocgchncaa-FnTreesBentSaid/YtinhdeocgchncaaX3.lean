/- Drawn trees: what is known of them. No program in sight. -/
import Derived.Test.YtinhdeocgchncaaX2
import Derived.Test.YtinhdeocgchncaaS6
namespace Go.Proofs.YtinhdeocgchncaaFw
open Go Go.RowKit
set_option linter.unusedVariables false
set_option linter.unusedSimpArgs false

def nm7 : List Str := [[114, 111, 111, 116], [97], [98], [100], [101], [102], [120]]
def mtx (i j : Nat) : Str := [110] ++ dg i ++ dg j

theorem dg_nat (n : Nat) (h : n < 8) : (UInt8.ofNat (48 + n)).toNat = 48 + n := by
  rw [UInt8.toNat_ofNat']; omega
theorem mtx_inj {i j k l : Nat} (hi : i < 8) (hj : j < 8) (hk : k < 8) (hl : l < 8) (h : mtx i j = mtx k l) : i = k ∧ j = l := by
  simp only [mtx, dg, List.cons_append, List.nil_append, List.cons.injEq, and_true, true_and] at h
  have h1 := congrArg UInt8.toNat h.1
  have h2 := congrArg UInt8.toNat h.2
  rw [dg_nat _ hi, dg_nat _ hk] at h1
  rw [dg_nat _ hj, dg_nat _ hl] at h2
  omega

theorem form_cons (c : UInt8) (s : Str) (hl : s.length ≤ 5) (hc : 97 ≤ c.toNat ∧ c.toNat ≤ 122) (hs : ∀ x ∈ s, PartP x.toNat) : FormP (c :: s) := by
  refine ⟨by simp, by simp; omega, ?_⟩
  intro i hi
  cases i with
  | zero => exact ⟨.inl (by simp only [List.getElem_cons_zero]; omega), fun _ => by simp only [List.getElem_cons_zero]; omega⟩
  | succ i => exact ⟨by simp only [List.getElem_cons_succ]; exact hs _ (List.getElem_mem _), fun h => by omega⟩

theorem nm7_name : ∀ n ∈ nm7, NameP n := by
  intro n hn
  refine ⟨?_, ?_⟩
  · simp only [nm7, List.mem_cons, List.not_mem_nil, or_false] at hn
    rcases hn with rfl | rfl | rfl | rfl | rfl | rfl | rfl
    all_goals refine form_cons _ _ (by decide) (by decide) ?_
    all_goals simp [PartP]
  · have : ∀ n ∈ nm7, ¬ n ∈ opW ++ regW := by decide +kernel
    exact this n hn

theorem mtx_name (i j : Nat) (hi : i < 8) (hj : j < 8) : NameP (mtx i j) := by
  refine ⟨?_, ?_⟩
  · show FormP (110 :: [UInt8.ofNat (48 + i), UInt8.ofNat (48 + j)])
    refine form_cons _ _ (by simp) (by decide) ?_
    intro x hx
    simp only [List.mem_cons, List.not_mem_nil, or_false] at hx
    rcases hx with rfl | rfl
    · rw [dg_nat _ hi]; exact .inr (by omega)
    · rw [dg_nat _ hj]; exact .inr (by omega)
  · have : ∀ i < 8, ∀ j < 8, ¬ mtx i j ∈ opW ++ regW := by decide +kernel
    exact this i hi j hj

theorem namesL_app : ∀ a b : List SegV, SegV.namesL (a ++ b) = SegV.namesL a ++ SegV.namesL b
  | [], b => rfl
  | s :: r, b => by simp only [List.cons_append, SegV.namesL, namesL_app r b, List.append_assoc]
theorem modsL_app : ∀ a b : List SegV, SegV.modsL (a ++ b) = SegV.modsL a ++ SegV.modsL b
  | [], b => rfl
  | s :: r, b => by simp only [List.cons_append, SegV.modsL, modsL_app r b, List.append_assoc]

theorem perm_mid {α : Type} (a b x : List α) : ((a ++ x) ++ b).Perm ((a ++ b) ++ x) := by
  rw [List.append_assoc, List.append_assoc]; exact List.Perm.append_left a List.perm_append_comm

theorem namesL_set : ∀ (ks : List SegV) (a : Nat) (h : a < ks.length) (k' : SegV) (X : List Str), k'.names.Perm (ks[a].names ++ X) → (SegV.namesL (ks.set a k')).Perm (SegV.namesL ks ++ X)
  | s :: r, 0, h, k', X, hp => by
    simp only [List.set_cons_zero, SegV.namesL, List.getElem_cons_zero] at hp ⊢
    exact (hp.append_right _).trans (perm_mid _ _ _)
  | s :: r, a + 1, h, k', X, hp => by
    simp only [List.set_cons_succ, SegV.namesL, List.getElem_cons_succ] at hp ⊢
    rw [List.append_assoc]
    exact List.Perm.append_left _ (namesL_set r a (by simpa using h) k' X hp)
theorem modsL_set : ∀ (ks : List SegV) (a : Nat) (h : a < ks.length) (k' : SegV) (X : List Str), k'.mods.Perm (ks[a].mods ++ X) → (SegV.modsL (ks.set a k')).Perm (SegV.modsL ks ++ X)
  | s :: r, 0, h, k', X, hp => by
    simp only [List.set_cons_zero, SegV.modsL, List.getElem_cons_zero] at hp ⊢
    exact (hp.append_right _).trans (perm_mid _ _ _)
  | s :: r, a + 1, h, k', X, hp => by
    simp only [List.set_cons_succ, SegV.modsL, List.getElem_cons_succ] at hp ⊢
    rw [List.append_assoc]
    exact List.Perm.append_left _ (modsL_set r a (by simpa using h) k' X hp)

structure DrP (i : Nat) (s : SegV) : Prop where
  t : TreeQ 4 s
  nn : s.names.Nodup
  nin : ∀ x ∈ s.names, x ∈ nm7.take i
  mn : s.mods.Nodup
  min : ∀ m ∈ s.mods, m = [109, 48] ∨ ∃ k j, k < i ∧ j < 8 ∧ m = mtx k j
  nl : s.names.length ≤ i

/-- What is put to a tree: a name of its own, names of modules of its own. -/
structure LfP (i : Nat) (n : Str) (ms : List Str) : Prop where
  i7 : i < 7
  n : n = nm7.getD i []
  mn : ms.Nodup
  ml : ms.length ≤ 6
  min : ∀ m ∈ ms, ∃ j, j < 8 ∧ m = mtx i j

theorem nm7_new : ∀ i < 7, nm7.getD i [] ∈ nm7 ∧ ¬ nm7.getD i [] ∈ nm7.take i ∧ nm7.getD i [] ∈ nm7.take (i + 1) := by decide +kernel

theorem LfP.tree {i : Nat} {n : Str} {ms : List Str} (h : LfP i n ms) (d : Nat) : TreeQ (d + 1) (.mk n ms []) := by
  have hi := h.i7
  refine ⟨by rw [h.n]; exact nm7_name _ (nm7_new i hi).1, h.ml, ?_, fun k hk => by simp at hk⟩
  intro m hm
  obtain ⟨j, hj, rfl⟩ := h.min m hm
  exact mtx_name i j (by omega) hj

theorem DrP.step {i : Nat} {s s' : SegV} {n : Str} {ms : List Str} (h : DrP i s) (hl : LfP i n ms) (ht : TreeQ 4 s') (hn : s'.names.Perm (s.names ++ [n])) (hm : s'.mods.Perm (s.mods ++ ms)) : DrP (i + 1) s' := by
  have hi := hl.i7
  obtain ⟨n1, n2, n3⟩ := nm7_new i hi
  rw [← hl.n] at n1 n2 n3
  refine ⟨ht, ?_, ?_, ?_, ?_, ?_⟩
  · rw [hn.nodup_iff]
    refine List.nodup_append.2 ⟨h.nn, by simp, ?_⟩
    intro a ha b hb e
    rw [List.mem_singleton.1 hb] at e
    subst e
    exact n2 (h.nin _ ha)
  · intro x hx
    rcases List.mem_append.1 (hn.mem_iff.1 hx) with h1 | h1
    · have := h.nin x h1
      exact List.mem_of_mem_take (i := i) (by rw [List.take_take, Nat.min_eq_left (by omega)]; exact this)
    · rw [List.mem_singleton.1 h1]; exact n3
  · rw [hm.nodup_iff]
    refine List.nodup_append.2 ⟨h.mn, hl.mn, ?_⟩
    intro a ha b hb e
    subst e
    obtain ⟨j, hj, e⟩ := hl.min a hb
    rcases h.min a ha with e2 | ⟨k, j2, hk, hj2, e2⟩
    · rw [e] at e2
      simp [mtx] at e2
    · rw [e] at e2
      have := mtx_inj (by omega) hj (by omega) hj2 e2
      omega
  · intro m hm'
    rcases List.mem_append.1 (hm.mem_iff.1 hm') with h1 | h1
    · rcases h.min m h1 with e | ⟨k, j, hk, hj, e⟩
      · exact .inl e
      · exact .inr ⟨k, j, by omega, hj, e⟩
    · obtain ⟨j, hj, e⟩ := hl.min m h1
      exact .inr ⟨i, j, by omega, hj, e⟩
  · have := hn.length_eq
    rw [List.length_append] at this
    have := h.nl
    simp only [List.length_cons, List.length_nil] at *
    omega

/-! the three places -/
theorem DrP.root {i : Nat} {n : Str} {ms : List Str} {ks : List SegV} {ln : Str} {lm : List Str} (h : DrP i (.mk n ms ks)) (hl : LfP i ln lm) : DrP (i + 1) (.mk n ms (ks ++ [.mk ln lm []])) := by
  refine h.step hl ?_ ?_ ?_
  · obtain ⟨a, b, c, d⟩ := h.t
    refine ⟨a, b, c, fun k hk => ?_⟩
    rcases List.mem_append.1 hk with hk | hk
    · exact d k hk
    · rw [List.mem_singleton.1 hk]; exact hl.tree 2
  · simp only [SegV.names, namesL_app, SegV.namesL, List.append_nil, List.cons_append]
    exact List.Perm.refl _
  · simp only [SegV.mods, modsL_app, SegV.modsL, List.append_nil, List.append_assoc]
    exact List.Perm.refl _

theorem treeQ_set {d : Nat} {ks : List SegV} {x : Nat} {k' : SegV} (h : ∀ k ∈ ks, TreeQ d k) (hk : TreeQ d k') : ∀ k ∈ ks.set x k', TreeQ d k := fun k hm => by
  rcases List.mem_or_eq_of_mem_set hm with h1 | h1
  · exact h k h1
  · rw [h1]; exact hk

theorem names_put {n1 ln : Str} {m1 lm : List Str} {k1 : List SegV} : (SegV.mk n1 m1 (k1 ++ [.mk ln lm []])).names.Perm ((SegV.mk n1 m1 k1).names ++ [ln]) := by
  simp only [SegV.names, namesL_app, SegV.namesL, List.append_nil, List.cons_append]
  exact List.Perm.refl _
theorem mods_put {n1 ln : Str} {m1 lm : List Str} {k1 : List SegV} : (SegV.mk n1 m1 (k1 ++ [.mk ln lm []])).mods.Perm ((SegV.mk n1 m1 k1).mods ++ lm) := by
  simp only [SegV.mods, modsL_app, SegV.modsL, List.append_nil, List.append_assoc]
  exact List.Perm.refl _
theorem names_in {n : Str} {ms : List Str} {ks : List SegV} {x : Nat} {k k' : SegV} {X : List Str} (hx : x < ks.length) (e : ks[x] = k) (h : k'.names.Perm (k.names ++ X)) : (SegV.mk n ms (ks.set x k')).names.Perm ((SegV.mk n ms ks).names ++ X) := by
  simp only [SegV.names, List.cons_append]
  exact List.Perm.cons _ (namesL_set ks x hx k' X (by rw [e]; exact h))
theorem mods_in {n : Str} {ms : List Str} {ks : List SegV} {x : Nat} {k k' : SegV} {X : List Str} (hx : x < ks.length) (e : ks[x] = k) (h : k'.mods.Perm (k.mods ++ X)) : (SegV.mk n ms (ks.set x k')).mods.Perm ((SegV.mk n ms ks).mods ++ X) := by
  simp only [SegV.mods, List.append_assoc]
  exact List.Perm.append_left _ (modsL_set ks x hx k' X (by rw [e]; exact h))

theorem DrP.kid {i : Nat} {n : Str} {ms : List Str} {ks : List SegV} {ln : Str} {lm : List Str} {x : Nat} {n1 : Str} {m1 : List Str} {k1 : List SegV} (h : DrP i (.mk n ms ks)) (hl : LfP i ln lm) (hx : x < ks.length) (e : ks[x] = .mk n1 m1 k1) :
    DrP (i + 1) (.mk n ms (ks.set x (.mk n1 m1 (k1 ++ [.mk ln lm []])))) := by
  refine h.step hl ?_ (names_in hx e names_put) (mods_in hx e mods_put)
  obtain ⟨a, b, c, d⟩ := h.t
  obtain ⟨a1, b1, c1, d1⟩ : TreeQ 3 (.mk n1 m1 k1) := by rw [← e]; exact d _ (List.getElem_mem hx)
  refine ⟨a, b, c, treeQ_set d ⟨a1, b1, c1, fun k hk => ?_⟩⟩
  rcases List.mem_append.1 hk with hk | hk
  · exact d1 k hk
  · rw [List.mem_singleton.1 hk]; exact hl.tree 1

theorem DrP.kidkid {i : Nat} {n : Str} {ms : List Str} {ks : List SegV} {ln : Str} {lm : List Str} {x y : Nat} {n1 n2 : Str} {m1 m2 : List Str} {k1 k2 : List SegV} (h : DrP i (.mk n ms ks)) (hl : LfP i ln lm) (hx : x < ks.length) (e : ks[x] = .mk n1 m1 k1) (hy : y < k1.length) (e2 : k1[y] = .mk n2 m2 k2) :
    DrP (i + 1) (.mk n ms (ks.set x (.mk n1 m1 (k1.set y (.mk n2 m2 (k2 ++ [.mk ln lm []])))))) := by
  refine h.step hl ?_ (names_in hx e (names_in hy e2 names_put)) (mods_in hx e (mods_in hy e2 mods_put))
  obtain ⟨a, b, c, d⟩ := h.t
  obtain ⟨a1, b1, c1, d1⟩ : TreeQ 3 (.mk n1 m1 k1) := by rw [← e]; exact d _ (List.getElem_mem hx)
  obtain ⟨a2, b2, c2, d2⟩ : TreeQ 2 (.mk n2 m2 k2) := by rw [← e2]; exact d1 _ (List.getElem_mem hy)
  refine ⟨a, b, c, treeQ_set d ⟨a1, b1, c1, treeQ_set d1 ⟨a2, b2, c2, fun k hk => ?_⟩⟩⟩
  rcases List.mem_append.1 hk with hk | hk
  · exact d2 k hk
  · rw [List.mem_singleton.1 hk]; exact hl.tree 0

theorem DrP.start : DrP 1 (.mk [114, 111, 111, 116] [[109, 48]] []) := by
  refine ⟨⟨nm7_name _ (by decide), by decide, ?_, fun k hk => by simp at hk⟩, by simp [SegV.names, SegV.namesL], by simp [SegV.names, SegV.namesL, nm7], by simp [SegV.mods, SegV.modsL], by simp [SegV.mods, SegV.modsL], by simp [SegV.names, SegV.namesL]⟩
  intro m hm
  rw [List.mem_singleton.1 hm]
  refine ⟨form_cons _ _ (by decide) (by decide) (by simp [PartP]), by decide +kernel⟩

theorem DrP.le {i : Nat} {s : SegV} (h : DrP i s) (hi : i ≤ 7) : SegOkP s := by
  have hl := h.nl
  exact ⟨(treeP_iff 4 s (by omega)).2 h.t, by omega, h.nn, h.mn⟩

/-! how much there is -/
theorem name_len {s : Str} (h : NameP s) : s.length ≤ 6 := h.1.2.1
theorem totL_le : ∀ (l : List Str) (k : Nat), (∀ s ∈ l, s.length ≤ k) → totL l ≤ k * l.length
  | [], k, _ => by simp [totL]
  | s :: r, k, h => by
    have h1 := h s (by simp)
    have h2 := totL_le r k (fun x hx => h x (by simp [hx]))
    simp only [totL, List.length_cons, Nat.mul_add, Nat.mul_one]; omega
def capT : Nat → Nat
  | 0 => 0
  | d + 1 => 66 + 12 * capT d
theorem treeP_tot : ∀ (d : Nat) (s : SegV), TreeP d s → s.tot ≤ capT d
  | 0, _, h => h.elim
  | d + 1, .mk n ms ks, ⟨a1, a2, a3, a4, a5⟩ => by
    have h1 := name_len a1
    have h2 := totL_le ms 6 (fun m hm => name_len (a4 m hm))
    have h3 : ∀ l : List SegV, (∀ k ∈ l, TreeP d k) → SegV.totL l ≤ l.length * capT d := by
      intro l
      induction l with
      | nil => intro _; simp [SegV.totL]
      | cons k r ih =>
        intro h
        have := ih (fun x hx => h x (by simp [hx]))
        have := treeP_tot d k (h k (by simp))
        simp only [SegV.totL, List.length_cons, Nat.add_mul, Nat.one_mul]; omega
    have h4 := h3 ks a5
    have h5 : ks.length * capT d ≤ 12 * capT d := Nat.mul_le_mul_right _ a3
    simp only [SegV.tot, totS, capT]
    omega
end Go.Proofs.YtinhdeocgchncaaFw
