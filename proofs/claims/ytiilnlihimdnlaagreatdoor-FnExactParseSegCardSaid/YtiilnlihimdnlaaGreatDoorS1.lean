/- The library's slices.Sort and slices.Compact at texts: their contracts, over abstract values. -/
import Derived.Test.YtiilnlihimdnlaaGreatDoorSL
import Derived.Test.YtiilnlihimdnlaaGreatDoorQL
import Derived.Shelf.Sort.Plain
import Derived.Shelf.Slices.In.SortNone
import Derived.Shelf.Slices.CompactS
import Derived.Sort.OwnSorted
import Derived.Lib.RowBridge
namespace Go.Proofs.YtiilnlihimdnlaaGreatDoorFw
open Go Go.RowKit Go.Sort Go.Proofs
set_option linter.unusedVariables false
set_option linter.unusedSimpArgs false
theorem own_inv {g : Gh} {w : World} {l : List Str} {v : Value} (h : Cell g w (.at 0 []) (.row .own 1 (strs l)) v) :
    (l = [] ∧ g.loc 0 [] = none) ∨ ∃ b c cur e, g.loc 0 [] = some (b, c, l.length) ∧ g.own b = some (0, []) ∧ w.heap[b]? = some (.cells cur e (0, 0)) ∧ l.length ≤ c ∧ c ≤ maxLen ∧ cur.size = c * 1 ∧ cur.toList.take l.length = l.map encStr := by
  generalize he : strs l = es at h
  cases h with
  | emp _ _ _ _ _ hm => exact absurd rfl hm
  | rd _ _ _ _ _ _ _ _ hm _ _ _ _ => exact hm.elim
  | ownNil _ _ _ hl =>
    left
    refine ⟨?_, hl⟩
    cases l with
    | nil => rfl
    | cons x r => simp [strs] at he
  | own _ _ _ _ b c cur e us hl ho hb hn hm hz hw hc ht =>
    subst he
    rw [strs_len] at *
    refine .inr ⟨b, c, cur, e, hl, ho, hb, hn, hm, hz, ?_⟩
    apply List.ext_getElem?
    intro i
    by_cases hi : i < l.length
    · have hx : (strs l)[i]? = some (.str l[i]) := strs_get hi
      have h1 := hc i 0 _ (.str l[i]) hx rfl
      have h2 := ht i 0 _ (.str l[i]) hx rfl
      rw [List.getElem?_take_of_lt hi, Array.getElem?_toList]
      simp only [Nat.mul_one, Nat.add_zero] at h1 h2
      rw [h1]
      generalize us i = u at h2
      cases h2
      simp [hi, encStr]
    · rw [List.getElem?_take_eq_none (by omega), List.getElem?_eq_none (by simp; omega)]
theorem own_mk {g : Gh} {w : World} {l : List Str} {b c : Nat} {cur : Array Value} {e : TypeId} (hl : g.loc 0 [] = some (b, c, l.length)) (ho : g.own b = some (0, [])) (hb : w.heap[b]? = some (.cells cur e (0, 0))) (hn : l.length ≤ c) (hm : c ≤ maxLen) (hz : cur.size = c * 1) (ht : cur.toList.take l.length = l.map encStr) :
    ∃ v, Cell g w (.at 0 []) (.row .own 1 (strs l)) v := by
  have hx : ∀ (i : Nat) (x : AV), (strs l)[i]? = some x → i < l.length ∧ x = .str (l.getD i []) := by
    intro i x h
    have hi := lt_of_get h
    rw [strs_len] at hi
    rw [strs_get hi] at h
    refine ⟨hi, ?_⟩
    rw [List.getD_eq_getElem?_getD, List.getElem?_eq_getElem hi]
    exact (Option.some.inj h).symm
  have h0 : ∀ (i k : Nat) (x y : AV), (strs l)[i]? = some x → x.cells[k]? = some y → k = 0 ∧ y = x := by
    intro i k x y h1 h2
    obtain ⟨_, rfl⟩ := hx i x h1
    cases k with
    | zero => simp [AV.cells] at h2; exact ⟨rfl, h2.symm⟩
    | succ k => simp [AV.cells] at h2
  refine ⟨_, .own 0 [] 1 (strs l) b c cur e (fun i => encStr (l.getD i [])) (by rw [strs_len]; exact hl) ho hb (by rw [strs_len]; exact hn) hm hz ?_ ?_ ?_⟩
  · intro i x h
    obtain ⟨_, rfl⟩ := hx i x h
    rfl
  · intro i k x y h1 h2
    obtain ⟨rfl, rfl⟩ := h0 i k x y h1 h2
    obtain ⟨hi, _⟩ := hx i _ h1
    rw [Nat.mul_one, Nat.add_zero, ← Array.getElem?_toList]
    have : (cur.toList.take l.length)[i]? = (l.map encStr)[i]? := by rw [ht]
    rw [List.getElem?_take_of_lt hi] at this
    rw [this, List.getElem?_map, List.getD_eq_getElem?_getD, List.getElem?_eq_getElem hi]
    rfl
  · intro i k x y h1 h2
    obtain ⟨rfl, rfl⟩ := h0 i k x y h1 h2
    obtain ⟨hi, rfl⟩ := hx i _ h1
    rw [Nat.mul_one, Nat.add_zero]
    exact .str _ _
theorem after_sorted {g : Gh} {w : World} {l ts : List Str} {b c n : Nat} {cur : Array Value} {e : TypeId} {os : Array Go.Obj} (hsep : ∀ b p, g.own b = some p → ¬ g.perm b ∧ ¬ g.bor b ∧ b < w.heap.size) (hrd : RdOk g w)
    (hl : g.loc 0 [] = some (b, c, l.length)) (ho : g.own b = some (0, [])) (hb : w.heap[b]? = some (.cells cur e (0, 0))) (hn : l.length ≤ c) (hm : c ≤ maxLen) (hz : cur.size = c * 1) (hts : ts.length = l.length) {w' : World} (hw : w' = grow (putRow encStr (Sort.ahead w n) b 0 ts.toArray) os) :
    Keep g w g w' ∧ (∀ b p, g.own b = some p → ¬ g.perm b ∧ ¬ g.bor b ∧ b < w'.heap.size) ∧ RdOk g w' ∧ ∃ v, Cell g w' (.at 0 []) (.row .own 1 (strs ts)) v := by
  have hg : w.grownBy w' (some b) := by rw [hw]; exact grownBy_sorted _
  obtain ⟨g1, g2, g3, g4, g5⟩ := hg
  refine ⟨⟨g1, g2, g3, g4, fun k hk hk2 => ⟨g5 k hk (fun hh => ?_), hk2⟩, fun _ h => h, fun _ _ h => .inl h, fun _ => Iff.rfl, fun _ _ _ _ => rfl, rfl⟩, fun k p h => ?_, hrd.move ⟨fun k hk => ⟨hk, g5 k (hrd.lt k (.inl hk)) (fun hh => by cases hh; exact (hsep b _ ho).1 hk)⟩, fun k hk => ⟨.inr hk, g5 k (hrd.lt k (.inr hk)) (fun hh => by cases hh; exact (hsep b _ ho).2.1 hk)⟩⟩ (fun k h => Nat.lt_of_lt_of_le (hrd.lt k h) g4), ?_⟩
  · cases hh; rw [ho] at hk2; cases hk2
  · obtain ⟨h1, h2, h3⟩ := hsep k p h
    exact ⟨h1, h2, Nat.lt_of_lt_of_le h3 g4⟩
  · have hh := heap_sorted (n := n) (os := os) ts.toArray hb
    rw [← hw] at hh
    exact own_mk (by rw [hts]; exact hl) ho hh (by omega) hm (by simp [putCells, hz]) (take_putCells cur ts (by omega))
def sorted (l : List Str) : List Str := l.mergeSort fun x y => decide (x ≤ y)
theorem sorted_len (l : List Str) : (sorted l).length = l.length := List.length_mergeSort l
theorem Val.hd0_inv {g : Gh} {w : World} {v : Value} (h : Val g w (.hd 0 []) v) : (∃ b c n, v = .slice (some ⟨b, 0, none⟩) n c ∧ g.loc 0 [] = some (b, c, n)) ∨ (v = .slice none 0 0 ∧ g.loc 0 [] = none) := by
  cases h with
  | cell _ _ h => cases h
  | hd _ _ b c n hl => exact .inl ⟨b, c, n, rfl, hl⟩
  | hdNil _ _ hl => exact .inr ⟨rfl, hl⟩
theorem sort_call (blk off cap : Nat) (ss : List (List UInt8)) (w : World) (hH : Holds encStr w blk off ss.toArray) (hblk : blk < w.heap.size) (hsz : ss.length < 4611686018427387904) :
    Calls Tryz.prog 99 #[.slice (some ⟨blk, off, none⟩) ss.length cap] w fun e w' =>
      e = .returned (.tuple #[]) ∧ ∃ n os, w' = grow (putRow encStr (Sort.ahead w n) blk off (ss.mergeSort fun x y => decide (x ≤ y)).toArray) os :=
  Any.slices_Sort_string Tryz.lays190 blk off cap ss w hH hblk hsz
theorem sort_none (p : Option Addr) (cap : Nat) (w : World) : Calls Tryz.prog 99 #[.slice p 0 cap] w fun e w' => e = .returned (.tuple #[]) ∧ w' = w :=
  Any.slices_Sort_string_none Tryz.lays190 p cap w
theorem compact_call (blk off cap : Nat) (zs : List (List UInt8)) (w : World) (hH : Holds encStr w blk off zs.toArray) (hsz : zs.length ≤ 9223372036854775807) (hcap : zs.length ≤ cap) :
    Calls Tryz.prog 100 #[.slice (some ⟨blk, off, none⟩) zs.length cap] w fun e w' => e = .returned (.slice (some ⟨blk, off, none⟩) (Lib.compact zs).length cap) ∧ ∃ q, w' = putRow encStr (Sort.ahead w q) blk off (Lib.compact zs ++ List.replicate (zs.length - (Lib.compact zs).length) []).toArray :=
  Any.slices_Compact_string Tryz.lays194 blk off cap zs w hH hsz hcap
theorem compact_none (a : Option Addr) (cap : Nat) (w : World) : Calls Tryz.prog 100 #[.slice a 0 cap] w fun e w' => e = .returned (.slice a 0 cap) ∧ w' = w :=
  Any.slices_Compact_string_empty Tryz.lays194 a cap w
theorem sort_ok (l : List Str) (hlen : l.length ≤ 140737488355328) :
    FnA Tryz.prog 99 false [.hd 0 []] [(1, strs l)] (fun r os ros => r = .tup [] ∧ os = [(1, strs (sorted l))] ∧ ros = []) := by
  refine ⟨⟨_, Tryz.func99, rfl, by decide⟩, ?_⟩
  intro vs w g hst hvl hv hsep hrd hob
  obtain ⟨v, rfl⟩ : ∃ v, vs = #[v] := by
    obtain ⟨vl⟩ := vs
    match vl, hvl with
    | [v], _ => exact ⟨v, rfl⟩
  have hv0 := hv 0 (.hd 0 []) v rfl rfl
  obtain ⟨v0, hc⟩ := hob 0 1 (strs l) rfl
  have hfin : ∀ (w' : World) (ts : List Str), Keep g w g w' → (∀ b p, g.own b = some p → ¬ g.perm b ∧ ¬ g.bor b ∧ b < w'.heap.size) → RdOk g w' → (∃ v, Cell g w' (.at 0 []) (.row .own 1 (strs ts)) v) → ts = sorted l →
      ∃ v r os' ros g', Ending.returned (.tuple #[]) = .returned v ∧ (r = .tup [] ∧ os' = [(1, strs (sorted l))] ∧ ros = []) ∧ Keep g w g' w' ∧ os'.length = [(1, strs l)].length ∧ ros.length ≤ 64 ∧
      (∀ b p, g'.own b = some p → ¬ g'.perm b ∧ ¬ g'.bor b ∧ b < w'.heap.size) ∧ RdOk g' w' ∧
      (∀ i sz es, os'[i]? = some (sz, es) → noBoL es = true ∧ ∃ v, Cell g' w' (.at i []) (.row .own sz es) v) ∧
      (∀ i sz es, ros[i]? = some (sz, es) → noBoL es = true ∧ ∃ v, Cell g' w' (.at (100 + i) []) (.row .own sz es) v) ∧
      cleanR [(1, strs l)].length ros.length r = true ∧ Val g' w' r v := by
    intro w' ts hk hs hr hcl hts
    subst hts
    refine ⟨.tuple #[], .tup [], [(1, strs (sorted l))], [], g, rfl, ⟨rfl, rfl, rfl⟩, hk, rfl, by simp, hs, hr, ?_, fun i sz es h => by simp at h, rfl, .tup [] #[] rfl (fun k c u h => by simp at h)⟩
    intro i sz es h
    cases i with
    | zero => simp at h; obtain ⟨rfl, rfl⟩ := h; exact ⟨noBo_strs _, hcl⟩
    | succ i => simp at h
  rcases own_inv hc with ⟨rfl, hl0⟩ | ⟨b, c, cur, e, hl, ho, hb, hn, hm, hz, ht⟩
  · rcases hv0.hd0_inv with ⟨b, c, n, _, hl⟩ | ⟨rfl, _⟩
    · rw [hl0] at hl; cases hl
    · refine (sort_none none 0 w).mono ?_
      rintro e w' ⟨rfl, rfl⟩
      exact hfin w' [] (Keep.refl g w') hsep hrd ⟨v0, hc⟩ (by simp [sorted])
  · rcases hv0.hd0_inv with ⟨b', c', n', rfl, hl'⟩ | ⟨rfl, hl'⟩
    · rw [hl] at hl'; cases hl'
      refine (sort_call b 0 c l w (holds_of_block hb ht) (hsep b _ ho).2.2 (by omega)).mono ?_
      rintro e' w' ⟨rfl, n, os, hw'⟩
      obtain ⟨k1, k2, k3, k4⟩ := after_sorted (ts := sorted l) hsep hrd hl ho hb hn hm hz (sorted_len l) hw'
      exact hfin w' _ k1 k2 k3 k4 rfl
    · rw [hl'] at hl; cases hl
theorem compact_le (l : List Str) : (Lib.compact l).length ≤ l.length := Lib.compact_length_le l
theorem compact_ok (l : List Str) (hlen : l.length ≤ 140737488355328) :
    FnA Tryz.prog 100 false [.hd 0 []] [(1, strs l)] (fun r os ros => r = .ref 0 [] 1 0 (Lib.compact l).length ∧ os = [(1, strs (Lib.compact l ++ List.replicate (l.length - (Lib.compact l).length) []))] ∧ ros = []) := by
  refine ⟨⟨_, Tryz.func100, rfl, by decide⟩, ?_⟩
  intro vs w g hst hvl hv hsep hrd hob
  obtain ⟨v, rfl⟩ : ∃ v, vs = #[v] := by
    obtain ⟨vl⟩ := vs
    match vl, hvl with
    | [v], _ => exact ⟨v, rfl⟩
  have hv0 := hv 0 (.hd 0 []) v rfl rfl
  obtain ⟨v0, hc⟩ := hob 0 1 (strs l) rfl
  have hcle := compact_le l
  have hfin : ∀ (w' : World) (v' : Value), Keep g w g w' → (∀ b p, g.own b = some p → ¬ g.perm b ∧ ¬ g.bor b ∧ b < w'.heap.size) → RdOk g w' → (∃ v, Cell g w' (.at 0 []) (.row .own 1 (strs (Lib.compact l ++ List.replicate (l.length - (Lib.compact l).length) []))) v) → Val g w' (.ref 0 [] 1 0 (Lib.compact l).length) v' →
      ∃ v r os' ros g', Ending.returned v' = .returned v ∧ (r = .ref 0 [] 1 0 (Lib.compact l).length ∧ os' = [(1, strs (Lib.compact l ++ List.replicate (l.length - (Lib.compact l).length) []))] ∧ ros = []) ∧ Keep g w g' w' ∧ os'.length = [(1, strs l)].length ∧ ros.length ≤ 64 ∧
      (∀ b p, g'.own b = some p → ¬ g'.perm b ∧ ¬ g'.bor b ∧ b < w'.heap.size) ∧ RdOk g' w' ∧
      (∀ i sz es, os'[i]? = some (sz, es) → noBoL es = true ∧ ∃ v, Cell g' w' (.at i []) (.row .own sz es) v) ∧
      (∀ i sz es, ros[i]? = some (sz, es) → noBoL es = true ∧ ∃ v, Cell g' w' (.at (100 + i) []) (.row .own sz es) v) ∧
      cleanR [(1, strs l)].length ros.length r = true ∧ Val g' w' r v := by
    intro w' v' hk hs hr hcl hval
    refine ⟨v', _, _, [], g, rfl, ⟨rfl, rfl, rfl⟩, hk, rfl, by simp, hs, hr, ?_, fun i sz es h => by simp at h, rfl, hval⟩
    intro i sz es h
    cases i with
    | zero => simp at h; obtain ⟨rfl, rfl⟩ := h; exact ⟨noBo_strs _, hcl⟩
    | succ i => simp at h
  rcases own_inv hc with ⟨rfl, hl0⟩ | ⟨b, c, cur, e, hl, ho, hb, hn, hm, hz, ht⟩
  · rcases hv0.hd0_inv with ⟨b, c, n, _, hl⟩ | ⟨rfl, _⟩
    · rw [hl0] at hl; cases hl
    · refine (compact_none none 0 w).mono ?_
      rintro e w' ⟨rfl, rfl⟩
      exact hfin w' _ (Keep.refl g w') hsep hrd ⟨v0, hc⟩ (.refNil 0 [] 1 hl0)
  · rcases hv0.hd0_inv with ⟨b', c', n', rfl, hl'⟩ | ⟨rfl, hl'⟩
    · rw [hl] at hl'; cases hl'
      refine (compact_call b 0 c l w (holds_of_block hb ht) (by omega) hn).mono ?_
      rintro e' w' ⟨rfl, q, hw'⟩
      obtain ⟨k1, k2, k3, k4⟩ := after_sorted (os := #[]) (ts := Lib.compact l ++ List.replicate (l.length - (Lib.compact l).length) []) hsep hrd hl ho hb hn hm hz (by simp only [List.length_append, List.length_replicate]; omega) (by simpa using hw')
      exact hfin w' _ k1 k2 k3 k4 (.ref 0 [] 1 0 _ b c l.length c _ hl (by omega) (by omega) (fun _ => rfl))
    · rw [hl'] at hl; cases hl
end Go.Proofs.YtiilnlihimdnlaaGreatDoorFw
