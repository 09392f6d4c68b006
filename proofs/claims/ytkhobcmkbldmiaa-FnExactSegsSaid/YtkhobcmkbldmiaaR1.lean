/- The program's Segs returns what the reference's returns, for all arguments: the law FnExactSegs answers true for every tree of segments. No condition. -/
import Derived.Test.YtkhobcmkbldmiaaL1
import Derived.Test.YtkhobcmkbldmiaaFw35
import Derived.Test.YtkhobcmkbldmiaaRows
import Derived.OpenShut
import Derived.ChangeOld
namespace Go.Proofs.YtkhobcmkbldmiaaFw
open Go Go.RowKit
set_option linter.unusedVariables false

theorem tabWhole_ok : tabWhole tabL = true := by kernel_rfl
theorem tabData_ok' : tabData tabL = true := by kernel_rfl

theorem strs_of : ∀ es : List AV, (∀ x ∈ es, ∃ s : Str, x = .str s ∧ s.length ≤ reachBytes) → ∃ l : List Str, es = strs l ∧ ∀ s ∈ l, s.length ≤ reachBytes
  | [], _ => ⟨[], rfl, fun s h => by simp at h⟩
  | x :: r, h => by
    obtain ⟨s, rfl, hs⟩ := h x (by simp)
    obtain ⟨l, rfl, hl⟩ := strs_of r (fun y hy => h y (by simp [hy]))
    refine ⟨s :: l, rfl, ?_⟩
    intro y hy
    rcases List.mem_cons.1 hy with e | e
    · rw [e]; exact hs
    · exact hl y e

theorem texts_of {xs : List AV} (h : TyV tab 22 xs) : ∃ l : List Str, xs = [.row .bo 1 (strs l)] ∧ l.length * 16 ≤ reachBytes ∧ ∀ s ∈ l, s.length ≤ reachBytes := by
  obtain ⟨es, rfl, h1, h2, h3⟩ := h.slice_inv tab_22 rfl tab_9
  obtain ⟨l, rfl, hl⟩ := strs_of es (fun x hx => by
    obtain ⟨s, hs, hb⟩ := (h3 x hx).str_inv tab_9 rfl
    exact ⟨s, by have := h2 x hx; rw [this, hs]; rfl, hb⟩)
  exact ⟨l, rfl, by simpa [strs] using h1, hl⟩

theorem segs_of : ∀ es : List AV, (∀ x ∈ es, ∃ s : SegV, x = segA .bo s ∧ s.fit) → ∃ l : List SegV, es = segsA .bo l ∧ SegV.fitL l
  | [], _ => ⟨[], rfl, trivial⟩
  | x :: r, h => by
    obtain ⟨s, rfl, hs⟩ := h x (by simp)
    obtain ⟨l, rfl, hl⟩ := segs_of r (fun y hy => h y (by simp [hy]))
    exact ⟨s :: l, rfl, hs, hl⟩

theorem reach_le : reachBytes ≤ 140737488355328 := by decide

theorem seg_of : ∀ (n : Nat) (xs : List AV), SizeOf.sizeOf xs < n → TyV tab 25 xs → ∃ s : SegV, .agg xs = segA .bo s ∧ s.fit := by
  intro n
  induction n with
  | zero => intro xs h; omega
  | succ n ih =>
    intro xs hn h
    obtain ⟨parts, rfl, h1, h2⟩ := h.struct_inv tab_25 rfl
    match parts, h1 with
    | [p0, p1, p2], _ =>
      obtain ⟨s, rfl, hs⟩ := (h2 0 _ _ p0 rfl rfl).str_inv tab_9 rfl
      obtain ⟨l, rfl, hl1, hl2⟩ := texts_of (h2 1 _ _ p1 rfl rfl)
      obtain ⟨es, rfl, k1, k2, k3⟩ := (h2 2 _ _ p2 rfl rfl).slice_inv tab_23 rfl tab_25
      obtain ⟨ks, rfl, hks⟩ := segs_of es (fun x hx => by
        have hx2 := k2 x hx
        have hsz : SizeOf.sizeOf x.cells < n := by
          have h3 := List.sizeOf_lt_of_mem hx
          rw [hx2] at h3
          simp only [mkE, isAggK, if_true, AV.agg.sizeOf_spec] at h3
          simp only [List.flatten_cons, List.flatten_nil, List.cons_append, List.nil_append, List.cons.sizeOf_spec, AV.row.sizeOf_spec] at hn
          omega
        obtain ⟨s', hs', hf⟩ := ih x.cells hsz (k3 x hx)
        exact ⟨s', by rw [hx2]; exact hs', hf⟩)
      have hr := reach_le
      have k1' : ks.length * 64 ≤ reachBytes := by simpa [segsA_len] using k1
      exact ⟨.mk s l ks, by rw [segA_mk]; rfl, by omega, by omega, fun y hy => by have := hl2 y hy; omega, by omega, hks⟩

end Go.Proofs.YtkhobcmkbldmiaaFw

namespace Go.Proofs.Ytkhobcmkbldmiaa
open Go.ChangeShapes Go.WideShapes Go.ChangeAt Go.RowKit Go.Proofs.YtkhobcmkbldmiaaFw
set_option linter.unusedVariables false
theorem own : ownKnob Try.prog.godebug = none := by kernel_rfl
theorem laidOut : laidOutB Try.prog = true := by kernel_rfl

set_option maxRecDepth 100000 in
theorem lifted (os : Os) (started : os.Started) (H : Type) (enc : TypeId × Value → H) :
    ReturnsInHanded {} Try.checked os 3 .any (Rows.fnExactSegsSpec.pre6 enc Try.prog Try.f3 Rows.fnExactSegsRow.domain false) (Rows.fnExactSegsSpec.post enc Try.prog Try.f3 false true false false) := by
  refine returnsInHanded_of_change_sized (C := Try.checked) own started (by kernel_rfl) Try.func3
    (ChangeSpec.witness6 (enc := enc) (C := Try.checked) false ⟨#[], #[.agg #[.string ByteArray.empty, .slice none 0 0, .slice none 0 0]], []⟩ 8 (by kernel_rfl) (by kernel_rfl) (by kernel_rfl) (by kernel_rfl)) ?_
  intro W base args ds gs before hval0 hW hcnd hsz0 _
  have hsz : (DataW.weightsEach Try.prog (Try.f3.params.toList ++ Rows.fnExactSegsSpec.plain.varTypes Try.prog) (ds ++ gs)).all (· ≤ reachBytes) = true := hsz0
  have hval : ∀ (j : Nat) t v, Try.f3.params[j]? = some t → args[j]? = some v → Value.okWide Try.prog W .any base t v := hval0
  have hW' := hW
  obtain ⟨p, q, hA0, hV, rfl, hfz, hnd⟩ := hW
  have hA : DataW.TrodAll enc Try.prog W 0 (fun _ => true) true Try.f3.params.toList args.toList ds p := hA0
  rw [Try.params3] at hA hval hsz
  obtain ⟨v0, vs0, d0, ds0, p0, q0, hargs, rfl, rfl, h0, r0⟩ := trodAll_cons hA
  obtain ⟨rfl, rfl, rfl⟩ := trodAll_nil r0
  obtain rfl : args = #[v0] := by cases args; simp_all
  obtain ⟨rfl, rfl⟩ := trodVars_none hV
  have k0 := h0
  have lt0 : ∀ x ∈ p0, x.block < W.heap.size := by obtain ⟨m, hm⟩ := k0; exact DataW.trod_lt m _ _ _ hm
  have hw0 : ∀ x ∈ d0.weights Try.prog 25, x ≤ reachBytes := fun x hx => by
    have := List.all_eq_true.1 hsz x (weightsEach_get (i := 0) rfl rfl x hx)
    simpa using this
  obtain ⟨xs, ht0, hx0⟩ := arg_struct tabOk tabWhole_ok tabData_ok' tab_25 rfl (hval 0 25 v0 rfl rfl) h0 hw0
  obtain ⟨s, hs, hf⟩ := seg_of _ xs (Nat.lt_succ_self _) ht0
  rw [hs] at hx0
  clear hA0 hval0 hsz0 hsz
  refine ((lawSegs_ok s hf).row rfl (fun k x u hx hu => by
    match k with
    | 0 => simp only [List.getElem?_cons_zero, Option.some.injEq, List.getElem?_toArray] at hx hu; subst hx; subst hu; exact hx0
    | k + 1 => simp at hx)).mono fun e W' ⟨he, bel⟩ => ?_
  subst he
  exact ⟨_, rfl, _, _, _, [], _, [], hW', trodAll_mk1 (shut_bool Try.underlying4 _), (trodAll_cons_mk (Below.trod laidOut (by kernel_rfl) (of_decide_eq_true (by kernel_rfl)) k0 bel lt0) trodAll_mk0), rfl, bel.frame _, fun h => by cases h⟩

theorem segs_holds : Rows.FnExactSegsSaid :=
  OpenClaim.holds_of_wide 3 Try.f3 rfl rfl rfl rfl rfl rfl rfl ⟨rfl, rfl, rfl, rfl, rfl⟩ rfl rfl rfl rfl rfl (by kernel_rfl) Try.func3 (by kernel_rfl)
    (of_decide_eq_true (by kernel_rfl)) (by unfold Func.isWrapper; first | (rw [if_pos (by decide +kernel)]; kernel_rfl) | (rw [if_neg (by decide +kernel)]; exact ⟨rfl, rfl⟩))
    (fun os started H enc _ => lifted os started H enc)
#print axioms segs_holds
end Go.Proofs.Ytkhobcmkbldmiaa
