/- From a contract to a row. -/
import Derived.Test.YtkhobcmkbldmiaaFw34
import Derived.Below
import Derived.Carry
namespace Go.Proofs.YtkhobcmkbldmiaaFw
open Go Go.RowKit
set_option linter.unusedVariables false

/-- Types that are read as data that comes in: whatever they lead to is told. -/
def tabData (l : List (TypeId × TI)) : Bool :=
  let ok (t : TypeId) : Bool := match lookT l t with | some ti => (match ti.k with | .other => false | .arr _ _ => false | _ => true) | none => true
  l.all fun p =>
    match p.2.k with
    | .slice e => ok e
    | .struct fs => fs.all fun f => ok f.2
    | _ => true

theorem tabData_ok {l : List (TypeId × TI)} (h : tabData l = true) : ∀ t' ti', lookT l t' = some ti' → (∀ e, ti'.k = .slice e → ∀ ei, lookT l e = some ei → ei.k ≠ .other ∧ ∀ n e', ei.k ≠ .arr n e') ∧ (∀ fs, ti'.k = .struct fs → ∀ o ft fi, (o, ft) ∈ fs → lookT l ft = some fi → fi.k ≠ .other ∧ ∀ n e', fi.k ≠ .arr n e') := by
  intro t ti ht
  have h1 := List.all_eq_true.1 h _ (lookT_mem ht)
  refine ⟨?_, ?_⟩
  · intro e hk ei hei
    simp only [hk, hei] at h1
    refine ⟨fun hc => by rw [hc] at h1; simp at h1, fun n e' hc => by rw [hc] at h1; simp at h1⟩
  · intro fs hk o ft fi hm hfi
    simp only [hk] at h1
    have h2 := List.all_eq_true.1 h1 _ hm
    simp only [hfi] at h2
    refine ⟨fun hc => by rw [hc] at h2; simp at h2, fun n e' hc => by rw [hc] at h2; simp at h2⟩

theorem arg_struct {H : Type} {enc : TypeId × Value → H} {P : Program} {l : List (TypeId × TI)} (hT : TabOk P (lookT l)) (hW : tabWhole l = true) (hD : tabData l = true) {w : World} {t : TypeId} {ti : TI} {fs : List (Nat × TypeId)} {v : Value} {d : DataW H} {ps : List MemPlace}
    (ht : lookT l t = some ti) (hk : ti.k = .struct fs) {base : Nat} (hv : Value.okWide P w .any base t v) (h : DataW.Trod enc P w 0 (fun _ => true) true t v d ps) (hwt : ∀ x ∈ d.weights P t, x ≤ reachBytes) :
    ∃ xs, TyV (lookT l) t xs ∧ Val (g0 w) w (.agg xs) v := by
  obtain ⟨fuel, hf⟩ := h
  obtain ⟨xs, h1, h2⟩ := open_data hT hW fuel t ti _ d ps ht (by rw [hk]; simp) (by rw [hk]; simp) (tabData_ok hD) hf hwt
  have hu := (hT t ti ht).kind
  rw [hk] at hu
  obtain ⟨fields, hu, _⟩ := hu
  unfold Value.okWide at hv
  rw [hu] at hv
  obtain ⟨cs, rfl, _⟩ := hv
  obtain ⟨k1, k2⟩ := h2.get
  refine ⟨xs, h1, .agg _ _ (by simpa [Value.cells] using k1.symm) ?_⟩
  intro k c u hc hu'
  exact .cell _ _ (k2 k c u hc (by simpa [Value.cells] using hu'))

theorem arg_plain {H : Type} {enc : TypeId × Value → H} {P : Program} {l : List (TypeId × TI)} (hT : TabOk P (lookT l)) (hW : tabWhole l = true) (hD : tabData l = true) {w : World} {t : TypeId} {ti : TI} {v : Value} {d : DataW H} {ps : List MemPlace}
    (ht : lookT l t = some ti) (hk : isAggK ti.k = false) (hno : ti.k ≠ .other) (hv1 : v.cells = #[v]) (h : DataW.Trod enc P w 0 (fun _ => true) true t v d ps) (hwt : ∀ x ∈ d.weights P t, x ≤ reachBytes) :
    ∃ x, TyV (lookT l) t [x] ∧ Val (g0 w) w x v := by
  obtain ⟨fuel, hf⟩ := h
  obtain ⟨xs, h1, h2⟩ := open_data hT hW fuel t ti _ d ps ht hno (fun n e hc => by rw [hc] at hk; simp [isAggK] at hk) (tabData_ok hD) hf hwt
  rw [hv1] at h2
  match xs, h2 with
  | [x], h2 => exact ⟨x, h1, .cell _ _ h2.1⟩

theorem FnA.row {P : Program} {f : FuncId} {xs : List AV} (h : FnA P f false xs [] (fun r os ros => r = .bool true ∧ os = [] ∧ ros = [])) {vs : Array Value} {W : World} (hl : vs.size = xs.length)
    (hv : ∀ (k : Nat) (x : AV) (u : Value), xs[k]? = some x → vs[k]? = some u → Val (g0 W) W x u) : Calls P f vs W fun e W' => e = .returned (.bool true) ∧ Below W.heap.size W W' := by
  refine (h.calls vs W (g0 W) rfl hl hv (fun b p hb => by simp [g0] at hb) (fun b hb => by
    rcases hb with hb | hb
    · exact hb.elim
    · exact hb) (fun i sz es hi => by simp at hi)).mono ?_
  rintro e W' ⟨v, r, os', ros, g', rfl, ⟨rfl, _, _⟩, hk, _, _, _, _, _, _, _, hval⟩
  obtain rfl := hval.bool_inv
  exact ⟨rfl, hk.os, hk.tape, hk.output, hk.size, fun k hk' => (hk.old k hk' rfl).1⟩

theorem TyV.str_inv {T : Tab} {t : TypeId} {xs : List AV} {ti : TI} (h : TyV T t xs) (ht : T t = some ti) (hk : ti.k = .str) : ∃ s : List UInt8, xs = [.str s] ∧ s.length ≤ reachBytes := by
  cases h with
  | str _ s ti' h1 h2 h3 => exact ⟨s, rfl, h3⟩
  | int _ k n ti' h1 h2 => rw [h1] at ht; obtain rfl := Option.some.inj ht; rw [h2] at hk; simp at hk
  | bool _ b ti' h1 h2 => rw [h1] at ht; obtain rfl := Option.some.inj ht; rw [h2] at hk; simp at hk
  | slice _ e es ti' ei h1 h2 => rw [h1] at ht; obtain rfl := Option.some.inj ht; rw [h2] at hk; simp at hk
  | struct _ fs parts ti' h1 h2 => rw [h1] at ht; obtain rfl := Option.some.inj ht; rw [h2] at hk; simp at hk

theorem TyV.int_inv {T : Tab} {t : TypeId} {xs : List AV} {ti : TI} {k : IntKind} (h : TyV T t xs) (ht : T t = some ti) (hk : ti.k = .int k) : ∃ n : Int, xs = [.int k n] ∧ inB k n := by
  cases h with
  | str _ s ti' h1 h2 h3 => rw [h1] at ht; obtain rfl := Option.some.inj ht; rw [h2] at hk; simp at hk
  | int _ k' n ti' h1 h2 h3 => rw [h1] at ht; obtain rfl := Option.some.inj ht; rw [h2] at hk; simp only [TK.int.injEq] at hk; subst hk; exact ⟨n, rfl, h3⟩
  | bool _ b ti' h1 h2 => rw [h1] at ht; obtain rfl := Option.some.inj ht; rw [h2] at hk; simp at hk
  | slice _ e es ti' ei h1 h2 => rw [h1] at ht; obtain rfl := Option.some.inj ht; rw [h2] at hk; simp at hk
  | struct _ fs parts ti' h1 h2 => rw [h1] at ht; obtain rfl := Option.some.inj ht; rw [h2] at hk; simp at hk

theorem TyV.bool_inv {T : Tab} {t : TypeId} {xs : List AV} {ti : TI} (h : TyV T t xs) (ht : T t = some ti) (hk : ti.k = .bool) : ∃ b : Bool, xs = [.bool b] := by
  cases h with
  | str _ s ti' h1 h2 h3 => rw [h1] at ht; obtain rfl := Option.some.inj ht; rw [h2] at hk; simp at hk
  | int _ k' n ti' h1 h2 h3 => rw [h1] at ht; obtain rfl := Option.some.inj ht; rw [h2] at hk; simp at hk
  | bool _ b ti' h1 h2 => exact ⟨b, rfl⟩
  | slice _ e es ti' ei h1 h2 => rw [h1] at ht; obtain rfl := Option.some.inj ht; rw [h2] at hk; simp at hk
  | struct _ fs parts ti' h1 h2 => rw [h1] at ht; obtain rfl := Option.some.inj ht; rw [h2] at hk; simp at hk

theorem TyV.slice_inv {T : Tab} {t e : TypeId} {xs : List AV} {ti ei : TI} (h : TyV T t xs) (ht : T t = some ti) (hk : ti.k = .slice e) (he : T e = some ei) :
    ∃ es : List AV, xs = [.row .bo ei.sz es] ∧ es.length * ei.by_ ≤ reachBytes ∧ (∀ x ∈ es, x = mkE ei.k x.cells) ∧ ∀ x ∈ es, TyV T e x.cells := by
  cases h with
  | str _ s ti' h1 h2 h3 => rw [h1] at ht; obtain rfl := Option.some.inj ht; rw [h2] at hk; simp at hk
  | int _ k' n ti' h1 h2 h3 => rw [h1] at ht; obtain rfl := Option.some.inj ht; rw [h2] at hk; simp at hk
  | bool _ b ti' h1 h2 => rw [h1] at ht; obtain rfl := Option.some.inj ht; rw [h2] at hk; simp at hk
  | slice _ e' es ti' ei' h1 h2 h3 h4 h5 h6 =>
    rw [h1] at ht; obtain rfl := Option.some.inj ht; rw [h2] at hk; simp only [TK.slice.injEq] at hk; subst hk
    rw [h3] at he; obtain rfl := Option.some.inj he
    exact ⟨es, rfl, h4, fun x hx => by obtain ⟨cs, k1, k2⟩ := h5 x hx; rw [k2]; exact k1, h6⟩
  | struct _ fs parts ti' h1 h2 => rw [h1] at ht; obtain rfl := Option.some.inj ht; rw [h2] at hk; simp at hk

theorem TyV.struct_inv {T : Tab} {t : TypeId} {xs : List AV} {ti : TI} {fs : List (Nat × TypeId)} (h : TyV T t xs) (ht : T t = some ti) (hk : ti.k = .struct fs) :
    ∃ parts : List (List AV), xs = parts.flatten ∧ parts.length = fs.length ∧ ∀ (i : Nat) (off : Nat) (ft : TypeId) (p : List AV), fs[i]? = some (off, ft) → parts[i]? = some p → TyV T ft p := by
  cases h with
  | str _ s ti' h1 h2 h3 => rw [h1] at ht; obtain rfl := Option.some.inj ht; rw [h2] at hk; simp at hk
  | int _ k' n ti' h1 h2 h3 => rw [h1] at ht; obtain rfl := Option.some.inj ht; rw [h2] at hk; simp at hk
  | bool _ b ti' h1 h2 => rw [h1] at ht; obtain rfl := Option.some.inj ht; rw [h2] at hk; simp at hk
  | slice _ e es ti' ei h1 h2 => rw [h1] at ht; obtain rfl := Option.some.inj ht; rw [h2] at hk; simp at hk
  | struct _ fs' parts ti' h1 h2 h3 h4 => rw [h1] at ht; obtain rfl := Option.some.inj ht; rw [h2] at hk; simp only [TK.struct.injEq] at hk; subst hk; exact ⟨parts, rfl, h3, h4⟩

end Go.Proofs.YtkhobcmkbldmiaaFw
