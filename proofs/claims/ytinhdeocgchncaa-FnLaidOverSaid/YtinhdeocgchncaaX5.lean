/- Drawn trees, laid: no two that lie over each other touch, all begins where what leads to it ends. No program in sight. -/
import Derived.Test.YtinhdeocgchncaaX3
namespace Go.Proofs.YtinhdeocgchncaaFw
open Go Go.RowKit
set_option linter.unusedVariables false
set_option linter.unusedSimpArgs false

theorem wordsV_le {ns : List Str} {ws : List Int} (h : SzP ns ws) : ∀ (ms : List Str) (x : Int), 0 ≤ x → x + 300 * (ms.length : Int) ≤ 1000000 → x ≤ ms.foldl (addW ns ws) x ∧ ms.foldl (addW ns ws) x ≤ x + 300 * (ms.length : Int)
  | [], x, _, _ => by simp
  | m :: r, x, h0, h1 => by
    simp only [List.length_cons, Int.natCast_add] at h1
    have hs : x ≤ addW ns ws x m ∧ addW ns ws x m ≤ x + 300 := by
      unfold addW
      split
      · rename_i c
        have hlt : (atI ns m 0).toNat < ws.length := by omega
        have hm : ws.getD (atI ns m 0).toNat 0 ∈ ws := by
          rw [List.getD_eq_getElem?_getD, List.getElem?_eq_getElem hlt]; exact List.getElem_mem hlt
        have := h.2 _ hm
        rw [wrap_id (by omega) (by omega)]; omega
      · omega
    have := wordsV_le h r (addW ns ws x m) (by omega) (by omega)
    simp only [List.foldl_cons, List.length_cons, Int.natCast_add]; omega

theorem wordsV6 {ns : List Str} {ws : List Int} (h : SzP ns ws) {ms : List Str} (hm : ms.length ≤ 6) : 0 ≤ wordsV ns ws ms ∧ wordsV ns ws ms ≤ 1800 := by
  have := wordsV_le h ms 0 (by omega) (by omega)
  unfold wordsV; omega

/-! the greatest way -/
theorem peakL_le (ns : List Str) (ws : List Int) : ∀ (l : List SegV) (x : Int), x ≤ SegV.peakL ns ws x l ∧ (∀ k ∈ l, k.peak ns ws ≤ SegV.peakL ns ws x l) ∧ (SegV.peakL ns ws x l = x ∨ ∃ k ∈ l, SegV.peakL ns ws x l = k.peak ns ws)
  | [], x => by simp [SegV.peakL]
  | k :: r, x => by
    rw [SegV.peakL]
    obtain ⟨h1, h2, h3⟩ := peakL_le ns ws r (if x < k.peak ns ws then k.peak ns ws else x)
    have hx : x ≤ (if x < k.peak ns ws then k.peak ns ws else x) ∧ k.peak ns ws ≤ (if x < k.peak ns ws then k.peak ns ws else x) := by split <;> omega
    refine ⟨by omega, ?_, ?_⟩
    · intro k' hk
      rcases List.mem_cons.1 hk with rfl | hk
      · omega
      · exact h2 k' hk
    · rcases h3 with h3 | ⟨k', hk, h3⟩
      · split at h3
        · exact .inr ⟨k, by simp, by rw [← h3]; congr 1; simp [*]⟩
        · exact .inl (by rw [← h3]; congr 1; simp [*])
      · exact .inr ⟨k', by simp [hk], h3⟩

theorem peak_le {ns : List Str} {ws : List Int} (h : SzP ns ws) : ∀ (d : Nat) (s : SegV), d ≤ 4 → TreeQ d s → 0 ≤ s.peak ns ws ∧ s.peak ns ws ≤ 1800 * (d : Int)
  | 0, _, _, hq => hq.elim
  | d + 1, .mk n ms ks, hd, ⟨_, hm, _, hk⟩ => by
    have hw := wordsV6 h hm
    obtain ⟨h1, h2, h3⟩ := peakL_le ns ws ks 0
    have h4 : SegV.peakL ns ws 0 ks ≤ 1800 * (d : Int) := by
      rcases h3 with h3 | ⟨k, hk', h3⟩
      · omega
      · rw [h3]; exact (peak_le h d k (by omega) (hk k hk')).2
    rw [SegV.peak, wrap_id (by omega) (by omega)]
    simp only [Int.natCast_add]; omega
theorem peak_eq {ns : List Str} {ws : List Int} (h : SzP ns ws) (d : Nat) (hd : d ≤ 3) (n : Str) (ms : List Str) (ks : List SegV) (hq : TreeQ (d + 1) (.mk n ms ks)) : (SegV.mk n ms ks).peak ns ws = wordsV ns ws ms + SegV.peakL ns ws 0 ks := by
  obtain ⟨_, hm, _, hk⟩ := hq
  have hw := wordsV6 h hm
  obtain ⟨h1, h2, h3⟩ := peakL_le ns ws ks 0
  have h4 : SegV.peakL ns ws 0 ks ≤ 1800 * (d : Int) := by
    rcases h3 with h3 | ⟨k, hk', h3⟩
    · omega
    · rw [h3]; exact (peak_le h d k (by omega) (hk k hk')).2
  rw [SegV.peak, wrap_id (by omega) (by omega)]

/-! all one behind the other -/
mutual
theorem flat_le {ns : List Str} {ws : List Int} (h : SzP ns ws) : ∀ (d : Nat) (s : SegV), TreeQ d s → s.names.length ≤ 12 → 0 ≤ s.flat ns ws ∧ s.flat ns ws ≤ 1800 * (s.names.length : Int)
  | 0, _, hq, _ => hq.elim
  | d + 1, .mk n ms ks, ⟨_, hm, _, hk⟩, hl => by
    have hw := wordsV6 h hm
    simp only [SegV.names, List.length_cons] at hl
    have := (flatL_le h d ks hk (wordsV ns ws ms) hw.1 (by omega) (by omega))
    simp only [SegV.names, List.length_cons, SegV.flat, Int.natCast_add]
    omega
theorem flatL_le {ns : List Str} {ws : List Int} (h : SzP ns ws) : ∀ (d : Nat) (l : List SegV), (∀ k ∈ l, TreeQ d k) → ∀ x : Int, 0 ≤ x → x + 1800 * ((SegV.namesL l).length : Int) ≤ 1000000 → (SegV.namesL l).length ≤ 12 → x ≤ SegV.flatL ns ws x l ∧ SegV.flatL ns ws x l ≤ x + 1800 * ((SegV.namesL l).length : Int) ∧ ∀ k ∈ l, x + k.flat ns ws ≤ SegV.flatL ns ws x l
  | d, [], _, x, _, _, _ => by simp [SegV.flatL, SegV.namesL]
  | d, k :: r, hq, x, h0, h1, h2 => by
    simp only [SegV.namesL, List.length_append, Int.natCast_add] at h1 h2
    have hk := flat_le h d k (hq k (by simp)) (by omega)
    have hr := flatL_le h d r (fun y hy => hq y (by simp [hy])) (x + k.flat ns ws) (by omega) (by omega) (by omega)
    rw [SegV.flatL, wrap_id (by omega) (by omega)]
    refine ⟨by omega, ?_, ?_⟩
    · simp only [SegV.namesL, List.length_append, Int.natCast_add]; omega
    · intro y hy
      rcases List.mem_cons.1 hy with rfl | hy
      · omega
      · have := hr.2.2 y hy; omega
end

theorem peak_flat {ns : List Str} {ws : List Int} (h : SzP ns ws) : ∀ (d : Nat) (s : SegV), d ≤ 4 → TreeQ d s → s.names.length ≤ 12 → s.peak ns ws ≤ s.flat ns ws
  | 0, _, _, hq, _ => hq.elim
  | d + 1, .mk n ms ks, hd, hq, hl => by
    have hw := wordsV6 h hq.2.1
    rw [peak_eq h d (by omega) n ms ks hq, SegV.flat]
    have hk := hq.2.2.2
    simp only [SegV.names, List.length_cons] at hl
    have hf := flatL_le h d ks hk (wordsV ns ws ms) hw.1 (by omega) (by omega)
    obtain ⟨h1, h2, h3⟩ := peakL_le ns ws ks 0
    rcases h3 with h3 | ⟨k, hk', h3⟩
    · omega
    · rw [h3]
      have := peak_flat h d k (by omega) (hk k hk') (by have := namesL_mem ks k hk'; omega)
      have := hf.2.2 k hk'
      omega

/-! where all lies -/
theorem layL_mem {ns : List Str} {ws : List Int} : ∀ (l : List SegV) (e : Int) (x : SpanV), x ∈ SegV.layL ns ws l e ↔ ∃ k ∈ l, x ∈ k.lay ns ws e
  | [], e, x => by simp [SegV.layL]
  | k :: r, e, x => by
    rw [SegV.layL, List.mem_append, layL_mem r e x]
    simp

theorem endV_eq {ns : List Str} {ws : List Int} (h : SzP ns ws) {ms : List Str} (hm : ms.length ≤ 6) {a : Int} (h0 : 0 ≤ a) (h1 : a ≤ 1000000) : endV ns ws ms a = a + 2 * wordsV ns ws ms := by
  have hw := wordsV6 h hm
  unfold endV
  have e1 : IntKind.i64.wrap (2 * wordsV ns ws ms) = 2 * wordsV ns ws ms := wrap_id (by omega) (by omega)
  rw [e1, wrap_id (by omega) (by omega)]

structure LieP (a p : Int) (x : SpanV) : Prop where
  lo : a ≤ x.a
  le : x.a ≤ x.b
  hi : x.b ≤ a + 2 * p
  ev : Int.tmod x.a 2 = 0

theorem lay_lie {ns : List Str} {ws : List Int} (h : SzP ns ws) : ∀ (d : Nat) (s : SegV), d ≤ 4 → TreeQ d s → ∀ a : Int, 0 ≤ a → Int.tmod a 2 = 0 → a + 3600 * (d : Int) ≤ 100000 →
    (∀ x ∈ s.lay ns ws a, LieP a (s.peak ns ws) x) ∧ ∃ x ∈ s.lay ns ws a, x.b = a + 2 * s.peak ns ws
  | 0, _, _, hq, _, _, _, _ => hq.elim
  | d + 1, .mk n ms ks, hd, hq, a, h0, he, h1 => by
    have hw := wordsV6 h hq.2.1
    simp only [Int.natCast_add] at h1
    have hpe := peak_eq h d (by omega) n ms ks hq
    have hE := endV_eq h hq.2.1 h0 (by omega)
    obtain ⟨g1, g2, g3⟩ := peakL_le ns ws ks 0
    have hE2 : Int.tmod (endV ns ws ms a) 2 = 0 := by
      rw [hE, Int.tmod_eq_emod_of_nonneg (by omega)]
      rw [Int.tmod_eq_emod_of_nonneg h0] at he
      omega
    have hk : ∀ k ∈ ks, _ := fun k hk => lay_lie h d k (by omega) (hq.2.2.2 k hk) (endV ns ws ms a) (by omega) hE2 (by omega)
    refine ⟨?_, ?_⟩
    · intro x hx
      rw [SegV.lay] at hx
      rcases List.mem_cons.1 hx with rfl | hx
      · exact ⟨by simp, by simp only; omega, by simp only; omega, he⟩
      · obtain ⟨k, hk', hx⟩ := (layL_mem _ _ _).1 hx
        have q := (hk k hk').1 x hx
        have := g2 k hk'
        exact ⟨by have := q.lo; omega, q.le, by have := q.hi; omega, q.ev⟩
    · rcases g3 with g3 | ⟨k, hk', g3⟩
      · exact ⟨⟨n, a, endV ns ws ms a⟩, by simp [SegV.lay], by simp only; omega⟩
      · obtain ⟨x, hx, e⟩ := (hk k hk').2
        exact ⟨x, by rw [SegV.lay]; exact List.mem_cons_of_mem _ ((layL_mem _ _ _).2 ⟨k, hk', hx⟩), by omega⟩

mutual
theorem lay_names (ns : List Str) (ws : List Int) : ∀ (s : SegV) (a : Int), (s.lay ns ws a).map (·.n) = s.names
  | .mk n ms ks, a => by simp only [SegV.lay, SegV.names, List.map_cons, layL_names ns ws ks]
theorem layL_names (ns : List Str) (ws : List Int) : ∀ (l : List SegV) (a : Int), (SegV.layL ns ws l a).map (·.n) = SegV.namesL l
  | [], a => rfl
  | s :: r, a => by simp only [SegV.layL, SegV.namesL, List.map_append, lay_names ns ws s, layL_names ns ws r]
end

/-! what lies over each other -/
mutual
def SegV.sizes : SegV → List Nat
  | .mk n ms ks => (1 + (SegV.sizesL ks).length) :: SegV.sizesL ks
def SegV.sizesL : List SegV → List Nat
  | [] => []
  | s :: r => s.sizes ++ SegV.sizesL r
end
mutual
theorem SegV.sizes_len : ∀ s : SegV, s.sizes.length = s.names.length
  | .mk n ms ks => by simp only [SegV.sizes, SegV.names, List.length_cons, SegV.sizesL_len ks]
theorem SegV.sizesL_len : ∀ l : List SegV, (SegV.sizesL l).length = (SegV.namesL l).length
  | [] => rfl
  | s :: r => by simp only [SegV.sizesL, SegV.namesL, List.length_append, SegV.sizes_len s, SegV.sizesL_len r]
end

def Ap (l : List SpanV) (z : List Nat) : Prop := ∀ (k i : Nat) (x y : SpanV) (m : Nat), l[k]? = some x → l[i]? = some y → z[k]? = some m → k < i → i < k + m → x.b ≤ y.a
def Fi (z : List Nat) : Prop := ∀ (k m : Nat), z[k]? = some m → k + m ≤ z.length

theorem Fi.app {a b : List Nat} (h1 : Fi a) (h2 : Fi b) : Fi (a ++ b) := by
  intro k m h
  rw [List.length_append]
  by_cases c : k < a.length
  · rw [List.getElem?_append_left c] at h
    have := h1 k m h; omega
  · rw [List.getElem?_append_right (by omega)] at h
    have := h2 _ m h; omega
theorem Ap.app {l1 l2 : List SpanV} {z1 z2 : List Nat} (hl : l1.length = z1.length) (f : Fi z1) (h1 : Ap l1 z1) (h2 : Ap l2 z2) : Ap (l1 ++ l2) (z1 ++ z2) := by
  intro k i x y m hx hy hm hki him
  by_cases c : k < l1.length
  · rw [List.getElem?_append_left c] at hx
    rw [List.getElem?_append_left (by omega)] at hm
    have := f k m hm
    rw [List.getElem?_append_left (by omega)] at hy
    exact h1 k i x y m hx hy hm hki him
  · rw [List.getElem?_append_right (by omega)] at hx hy hm
    rw [← hl] at hm
    exact h2 _ _ x y m hx hy hm (by omega) (by omega)

mutual
theorem sizes_fi : ∀ s : SegV, Fi s.sizes
  | .mk n ms ks => by
    have hk := sizesL_fi ks
    intro k m h
    cases k with
    | zero =>
      simp only [SegV.sizes, List.getElem?_cons_zero, Option.some.injEq] at h
      simp only [SegV.sizes, List.length_cons]; omega
    | succ k =>
      simp only [SegV.sizes, List.getElem?_cons_succ] at h
      have := hk k m h
      simp only [SegV.sizes, List.length_cons]; omega
theorem sizesL_fi : ∀ l : List SegV, Fi (SegV.sizesL l)
  | [] => by intro k m h; simp [SegV.sizesL] at h
  | s :: r => by rw [SegV.sizesL]; exact (sizes_fi s).app (sizesL_fi r)
end

theorem layL_ap {ns : List Str} {ws : List Int} (e : Int) : ∀ l : List SegV, (∀ k ∈ l, Ap (k.lay ns ws e) k.sizes) → Ap (SegV.layL ns ws l e) (SegV.sizesL l)
  | [], _ => by intro k i x y m h; simp [SegV.layL] at h
  | s :: r, h => by
    rw [SegV.layL, SegV.sizesL]
    exact Ap.app (by rw [SegV.lay_len, SegV.sizes_len]) (sizes_fi s) (h s (by simp)) (layL_ap e r (fun k hk => h k (by simp [hk])))

theorem lay_ap {ns : List Str} {ws : List Int} (h : SzP ns ws) : ∀ (d : Nat) (s : SegV), d ≤ 4 → TreeQ d s → ∀ a : Int, 0 ≤ a → Int.tmod a 2 = 0 → a + 3600 * (d : Int) ≤ 100000 → Ap (s.lay ns ws a) s.sizes
  | 0, _, _, hq, _, _, _, _ => hq.elim
  | d + 1, .mk n ms ks, hd, hq, a, h0, he, h1 => by
    have hw := wordsV6 h hq.2.1
    simp only [Int.natCast_add] at h1
    have hE := endV_eq h hq.2.1 h0 (by omega)
    have hE2 : Int.tmod (endV ns ws ms a) 2 = 0 := by
      rw [hE, Int.tmod_eq_emod_of_nonneg (by omega)]
      rw [Int.tmod_eq_emod_of_nonneg h0] at he
      omega
    have hA := layL_ap (ns := ns) (ws := ws) (endV ns ws ms a) ks (fun k hk => lay_ap h d k (by omega) (hq.2.2.2 k hk) _ (by omega) hE2 (by omega))
    intro k i x y m hx hy hm hki him
    rw [SegV.lay] at hx hy
    obtain ⟨i, rfl⟩ : ∃ j, i = j + 1 := ⟨i - 1, by omega⟩
    rw [List.getElem?_cons_succ] at hy
    cases k with
    | zero =>
      simp only [List.getElem?_cons_zero, Option.some.injEq] at hx
      subst hx
      obtain ⟨k, hk', hy⟩ := (layL_mem _ _ _).1 (List.mem_of_getElem? hy)
      exact ((lay_lie h d k (by omega) (hq.2.2.2 k hk') (endV ns ws ms a) (by omega) hE2 (by omega)).1 y hy).lo
    | succ k =>
      rw [List.getElem?_cons_succ] at hx
      rw [SegV.sizes, List.getElem?_cons_succ] at hm
      exact hA k i x y m hx hy hm (by omega) (by omega)

/-! the span of a name -/
def FirstP (l : List SpanV) (x : SpanV) : Prop := ∃ i : Nat, l[i]? = some x ∧ ∀ j y, j < i → l[j]? = some y → y.n ≠ x.n
theorem first_of {l : List SpanV} (h : (l.map (·.n)).Nodup) {x : SpanV} (hx : x ∈ l) : FirstP l x := by
  obtain ⟨i, hi, rfl⟩ := List.getElem_of_mem hx
  refine ⟨i, List.getElem?_eq_getElem hi, ?_⟩
  intro j y hj hy e
  obtain ⟨hjl, rfl⟩ := List.getElem?_eq_some_iff.1 hy
  have h1 : (l.map (·.n))[j]'(by simpa using hjl) = (l.map (·.n))[i]'(by simpa using hi) := by simpa using e
  exact List.pairwise_iff_getElem.1 h j i _ _ hj h1

/-! the last address -/
def lastB (l : List SpanV) : Int := l.foldl (fun m x => if m < x.b then x.b else m) 0
theorem lastB_ge : ∀ (l : List SpanV) (m : Int), m ≤ l.foldl (fun m x => if m < x.b then x.b else m) m ∧ (∀ x ∈ l, x.b ≤ l.foldl (fun m x => if m < x.b then x.b else m) m) ∧ (l.foldl (fun m x => if m < x.b then x.b else m) m = m ∨ ∃ x ∈ l, l.foldl (fun m x => if m < x.b then x.b else m) m = x.b)
  | [], m => by simp
  | y :: r, m => by
    rw [List.foldl_cons]
    obtain ⟨h1, h2, h3⟩ := lastB_ge r (if m < y.b then y.b else m)
    have hx : m ≤ (if m < y.b then y.b else m) ∧ y.b ≤ (if m < y.b then y.b else m) := by split <;> omega
    refine ⟨by omega, ?_, ?_⟩
    · intro x hx'
      rcases List.mem_cons.1 hx' with rfl | hx'
      · omega
      · exact h2 x hx'
    · rcases h3 with h3 | ⟨x, hx', h3⟩
      · by_cases c : m < y.b
        · rw [if_pos c] at h3 ⊢; exact .inr ⟨y, by simp, h3⟩
        · rw [if_neg c] at h3 ⊢; exact .inl h3
      · exact .inr ⟨x, by simp [hx'], h3⟩

/-- All of it, of a drawn tree. -/
structure LaidP (s : SegV) (ns : List Str) (ws : List Int) : Prop where
  lay : LayP s ns ws 64
  lie : ∀ x ∈ s.lay ns ws 64, LieP 64 (s.peak ns ws) x
  ap : Ap (s.lay ns ws 64) s.sizes
  last : lastB (s.lay ns ws 64) = 64 + 2 * s.peak ns ws
  pk : 0 ≤ s.peak ns ws ∧ s.peak ns ws ≤ 7200
  pf : s.peak ns ws ≤ s.flat ns ws
  fst : ∀ x ∈ s.lay ns ws 64, FirstP (s.lay ns ws 64) x

theorem laid_of {k : Nat} {s : SegV} {ns : List Str} {ws : List Int} (hk : k ≤ 7) (h : DrP k s) (hz : SzP ns ws) : LaidP s ns ws := by
  have hO := h.le hk
  have hl := h.nl
  have hp := peak_le hz 4 s (by omega) h.t
  obtain ⟨h1, h2⟩ := lay_lie hz 4 s (by omega) h.t 64 (by omega) (by decide) (by omega)
  refine ⟨⟨hO, ⟨by omega, by omega⟩, by decide, hz.1, fun w hw => by have := hz.2 w hw; omega, fun x hx => by have := (h1 x hx).hi; omega⟩, h1, lay_ap hz 4 s (by omega) h.t 64 (by omega) (by decide) (by omega), ?_, ⟨hp.1, by omega⟩, peak_flat hz 4 s (by omega) h.t (by omega), fun x hx => first_of (by rw [lay_names]; exact h.nn) hx⟩
  obtain ⟨g1, g2, g3⟩ := lastB_ge (s.lay ns ws 64) 0
  obtain ⟨x, hx, e⟩ := h2
  have g4 := g2 x hx
  rcases g3 with g3 | ⟨y, hy, g3⟩
  · unfold lastB; omega
  · have := (h1 y hy).hi; unfold lastB; omega

end Go.Proofs.YtinhdeocgchncaaFw
