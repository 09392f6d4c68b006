/- The library's strings.Join: its contract, over abstract values. -/
import Derived.Test.YtedmpcmfcnfclaaDoorSL
import Derived.Test.YtedmpcmfcnfclaaDoorLib
import Derived.Lib.Join
import Derived.Shelf.Strings.OnBuilder
namespace Go.Proofs.YtedmpcmfcnfclaaDoorFw
open Go Go.RowKit Go.Proofs
set_option linter.unusedVariables false
set_option linter.unusedSimpArgs false

theorem joinS_call (bk o c : Nat) (xs : List ByteArray) (sep : ByteArray) (w : World) (hcells : ∀ (j : Nat) x, xs[j]? = some x → w.cell? ⟨bk, o + j, none⟩ = some (.string x)) (hbk : bk < w.heap.size) (hN : xs.length ≤ 140737488355328) (hcap : xs.length ≤ c)
    (hlen : (Lib.join (xs.map (·.data.toList)) sep.data.toList).length ≤ 140737488355328) :
    Calls Tryd.prog 29 #[.slice (some ⟨bk, o, none⟩) xs.length c, .string sep] w fun e w' => e = .returned (.string ⟨(Lib.join (xs.map (·.data.toList)) sep.data.toList).toArray⟩) ∧ Below w.heap.size w w' :=
  Any.strings_Join Tryd.lays156 Tryd.Builder_Extra_156 bk o c xs sep w hcells hbk hN hcap hlen
theorem joinS_none (a : Option Addr) (c : Nat) (sep : ByteArray) (w : World) :
    Calls Tryd.prog 29 #[.slice a 0 c, .string sep] w fun e w' => e = .returned (.string ⟨#[]⟩) ∧ w' = w :=
  Any.strings_Join_none Tryd.lays156 Tryd.Builder_Extra_156 a c sep w

theorem join_ok (st : Bool) (l : List Str) (sep : Str) (hl : l.length ≤ 140737488355328) (hj : (Lib.join l sep).length ≤ 140737488355328) :
    FnA Tryd.prog 29 st [.row .bo 1 (strs l), .str sep] [] (fun r os ros => r = .str (Lib.join l sep) ∧ os = [] ∧ ros = []) := by
  refine ⟨⟨_, Tryd.func29, rfl, by decide⟩, ?_⟩
  intro vs w g hst hvl hv hsep hrd hob
  obtain ⟨v1, v2, rfl⟩ : ∃ v1 v2, vs = #[v1, v2] := by
    obtain ⟨vl⟩ := vs
    match vl, hvl with
    | [v1, v2], _ => exact ⟨v1, v2, rfl⟩
  have h1 := hv 0 (.row .bo 1 (strs l)) v1 rfl rfl
  have h2 := hv 1 (.str sep) v2 rfl rfl
  obtain rfl : v2 = .string ⟨⟨sep⟩⟩ := h2.str_inv
  have hfin : ∀ (w' : World) (r : Str), r = Lib.join l sep → Below w.heap.size w w' →
      ∃ v r' os' ros g', Ending.returned (.string ⟨⟨r⟩⟩) = .returned v ∧ (r' = .str (Lib.join l sep) ∧ os' = [] ∧ ros = []) ∧ Keep g w g' w' ∧ os'.length = ([] : List (Nat × List AV)).length ∧ ros.length ≤ 64 ∧
      (∀ b p, g'.own b = some p → ¬ g'.perm b ∧ ¬ g'.bor b ∧ b < w'.heap.size) ∧ (∀ b, g'.canRd b → b < w'.heap.size) ∧
      (∀ i sz es, os'[i]? = some (sz, es) → noBoL es = true ∧ ∃ v, Cell g' w' (.at i []) (.row .own sz es) v) ∧
      (∀ i sz es, ros[i]? = some (sz, es) → noBoL es = true ∧ ∃ v, Cell g' w' (.at (100 + i) []) (.row .own sz es) v) ∧
      cleanR ([] : List (Nat × List AV)).length ros.length r' = true ∧ Val g' w' r' v := by
    intro w' r hr hb
    subst hr
    refine ⟨_, _, [], [], g, rfl, ⟨rfl, rfl, rfl⟩, ⟨hb.os, hb.tape, hb.output, hb.size, fun b hlt ho => ⟨hb.block b hlt, ho⟩, fun _ h => h, fun _ _ h => .inl h, fun _ => Iff.rfl, fun _ _ _ _ => rfl, rfl⟩, rfl, by simp, fun b p h => ?_, fun b h => Nat.lt_of_lt_of_le (hrd b h) hb.size, fun i sz es h => by simp at h, fun i sz es h => by simp at h, rfl, .cell _ _ (.str _ _)⟩
    obtain ⟨k1, k2, k3⟩ := hsep b p h
    exact ⟨k1, k2, Nat.lt_of_lt_of_le k3 hb.size⟩
  generalize he : strs l = es at h1
  cases h1 with
  | cell _ _ h =>
    cases h with
    | emp _ _ _ a c hm =>
      obtain rfl : l = [] := by cases l with
        | nil => rfl
        | cons x r => simp [strs] at he
      refine (joinS_none a c ⟨⟨sep⟩⟩ w).mono ?_
      rintro e w' ⟨rfl, rfl⟩
      exact hfin w' [] rfl (Below.refl _ _)
    | rd _ _ _ _ a c us hp hm hs hl2 hw hc ht =>
      subst he
      obtain ⟨bk, o, sp⟩ := a
      simp only at hs
      subst hs
      rw [strs_len] at *
      have hm' : g.canRd bk := hm
      have hlen : (l.map fun s => (⟨⟨s⟩⟩ : ByteArray)).length = l.length := by simp
      have hmap : (l.map fun s => (⟨⟨s⟩⟩ : ByteArray)).map (·.data.toList) = l := by rw [List.map_map]; exact (List.map_congr_left (fun s _ => rfl)).trans (List.map_id l)
      have hcells : ∀ (j : Nat) x, (l.map fun s => (⟨⟨s⟩⟩ : ByteArray))[j]? = some x → w.cell? ⟨bk, o + j, none⟩ = some (.string x) := by
        intro j x hx
        rw [List.getElem?_map, Option.map_eq_some_iff] at hx
        obtain ⟨s, hs1, rfl⟩ := hx
        have hx1 : (strs l)[j]? = some (.str s) := strs_get' hs1
        have k1 := hc j 0 _ (.str s) hx1 rfl
        have k2 := ht j 0 _ (.str s) hx1 rfl
        simp only [Nat.mul_one, Nat.add_zero] at k1 k2
        rw [add_lit] at k1
        generalize us j = u at k1 k2
        cases k2
        exact k1
      have := joinS_call bk o c (l.map fun s => (⟨⟨s⟩⟩ : ByteArray)) ⟨⟨sep⟩⟩ w hcells (hrd bk hm') (by rw [hlen]; exact hl) (by rw [hlen]; exact hl2) (by rw [hmap]; exact hj)
      rw [hlen, hmap] at this
      refine this.mono ?_
      rintro e w' ⟨rfl, hb⟩
      exact hfin w' _ rfl hb

end Go.Proofs.YtedmpcmfcnfclaaDoorFw
