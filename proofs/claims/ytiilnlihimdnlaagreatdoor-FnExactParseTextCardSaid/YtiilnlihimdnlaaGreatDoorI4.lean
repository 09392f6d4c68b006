/- Words of digits of base eight: the program's; errors of the library's. -/
import Derived.Test.YtiilnlihimdnlaaGreatDoorI3
import Derived.Test.YtiilnlihimdnlaaGreatDoorI5
import Derived.Test.YtiilnlihimdnlaaGreatDoorSM
namespace Go.Proofs.YtiilnlihimdnlaaGreatDoorFw
open Go Go.RowKit Go.Proofs
set_option linter.unusedVariables false
set_option linter.unusedSimpArgs false
set_option maxRecDepth 4000
theorem FnA.of_below {P : Program} {f : FuncId} {st : Bool} {xs : List AV} {r : AV} (hok : FnOk P f)
 (h : ∀ (vs : Array Value) (w : World) (g : Gh), vs.size = xs.length → (∀ (k : Nat) (x : AV) (u : Value), xs[k]? = some x → vs[k]? = some u → Val g w x u) → RdOk g w →
   Calls P f vs w fun e w' => (∃ v, e = .returned v ∧ ∀ g' w', Val g' w' r v) ∧ Below w.heap.size w w') (hcl : cleanR 0 0 r = true) :
 FnA P f st xs [] (fun r' os ros => r' = r ∧ os = [] ∧ ros = []) := by
 refine ⟨hok, ?_⟩
 intro vs w g hst hvl hv hsep hrd hob
 refine (h vs w g hvl hv hrd).mono ?_
 rintro e w' ⟨⟨v, rfl, hval⟩, hb⟩
 refine ⟨v, r, [], [], g, rfl, ⟨rfl, rfl, rfl⟩, ⟨hb.os, hb.tape, hb.output, hb.size, fun b hlt ho => ⟨hb.block b hlt, ho⟩, fun _ h => h, fun _ _ h => .inl h, fun _ => Iff.rfl, fun _ _ _ _ => rfl, rfl⟩, rfl, by simp, fun b p h => ?_, hrd.move ⟨fun b hb' => ⟨hb', hb.block b (hrd.lt b (.inl hb'))⟩, fun b hb' => ⟨.inr hb', hb.block b (hrd.lt b (.inr hb'))⟩⟩ (fun b hb' => Nat.lt_of_lt_of_le (hrd.lt b hb') hb.size), fun i sz es hi => by simp at hi, fun i sz es hi => by simp at hi, hcl, hval _ _⟩
 obtain ⟨k1, k2, k3⟩ := hsep b p h
 exact ⟨k1, k2, Nat.lt_of_lt_of_le k3 hb.size⟩
theorem cell_of_heap {w : World} {b : Nat} {v : Value} {e : TypeId} (h : w.heap[b]? = some (.cells #[v] e (0, 0))) : w.cell? ⟨b, 0, none⟩ = some v := by simp [World.cell?, h]
theorem toErr_ok (fn s : Str) (k : Int) (hk : k = 1 ∨ k = 2) (hs : s.length ≤ 140737488355328) :
 FnA Tryz.prog 166 false [.str fn, .str s, .int .i64 8, .int .i64 64, .ifc (some (163, .i64, k))] [] (fun r os ros => r = .ifc none ∧ os = [] ∧ ros = []) := by
 refine FnA.of_below ⟨_, Tryz.func166, rfl, by decide⟩ ?_ rfl
 intro vs w g hvl hv hrd
 obtain ⟨v1, v2, v3, v4, v5, rfl⟩ : ∃ v1 v2 v3 v4 v5, vs = #[v1, v2, v3, v4, v5] := by
  obtain ⟨vl⟩ := vs
  match vl, hvl with
  | [v1, v2, v3, v4, v5], _ => exact ⟨v1, v2, v3, v4, v5, rfl⟩
 obtain rfl := (hv 0 _ v1 rfl rfl).str_inv
 obtain rfl := (hv 1 _ v2 rfl rfl).str_inv
 obtain rfl := (hv 2 _ v3 rfl rfl).int_inv
 obtain rfl := (hv 3 _ v4 rfl rfl).int_inv
 obtain ⟨t5, u5, rfl, h5⟩ := (hv 4 _ v5 rfl rfl).ifc_inv
 obtain ⟨rfl, rfl⟩ := h5 _ _ _ rfl
 have hsz : (⟨⟨s⟩⟩ : ByteArray).size ≤ 281474976710656 := by
  have : (⟨⟨s⟩⟩ : ByteArray).size = s.length := rfl
  omega
 rcases hk with rfl | rfl
 ·obtain ⟨_, te, pe, e, hh⟩ := hrd.ge 4 rfl
  refine (Any.strconv_toError_range Tryz.laysC245 ⟨⟨fn⟩⟩ ⟨⟨s⟩⟩ 8 64 (.iface te pe) w hsz (cell_of_heap hh) (.inr ⟨te, pe, rfl⟩)).mono ?_
  rintro e w' ⟨N, rfl, _, _, hb⟩
  exact ⟨⟨_, rfl, fun _ _ => Val.mkIfcAny _ _ _ _⟩, hb⟩
 ·obtain ⟨_, te, pe, e, hh⟩ := hrd.ge 3 rfl
  refine (Any.strconv_toError_syntax Tryz.laysC245 ⟨⟨fn⟩⟩ ⟨⟨s⟩⟩ 8 64 (.iface te pe) w hsz (cell_of_heap hh) (.inr ⟨te, pe, rfl⟩)).mono ?_
  rintro e w' ⟨N, rfl, _, _, hb⟩
  exact ⟨⟨_, rfl, fun _ _ => Val.mkIfcAny _ _ _ _⟩, hb⟩
end Go.Proofs.YtiilnlihimdnlaaGreatDoorFw
