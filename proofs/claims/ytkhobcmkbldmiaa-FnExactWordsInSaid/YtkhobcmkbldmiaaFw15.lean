/- Appends. -/
import Derived.Test.YtkhobcmkbldmiaaFw14
namespace Go.Proofs.YtkhobcmkbldmiaaFw
open Go Go.RowKit
set_option linter.unusedVariables false

def goneB (nid : Nat) (t1 t2 : Option Nat) (j : Nat) : Bool := decide (j = nid) || decide (t1 = some j) || decide (t2 = some j)

def killG (nid : Nat) (t1 t2 : Option Nat) : Nat → Path → Option (Nat × Path) := fun j q => if goneB nid t1 t2 j then none else some (j, q)

def dropOpt (l : List Obj) : Option Nat → List Obj
  | some i => dropO l i
  | none => l

theorem lookO_dropOpt (l : List Obj) (t : Option Nat) (j : Nat) : lookO (dropOpt l t) j = if t = some j then none else lookO l j := by
  cases t with
  | none => simp [dropOpt]
  | some i => simp only [dropOpt, lookO_dropO, Option.some.injEq]

/-- The first operand of an append: the object, its elements. -/
def baseOf (s : St) (ei : TI) (x : AV) : Option (Option Nat × List AV) :=
  match x with
  | .nilS => some (none, [])
  | .hd id [] =>
    match lookO s.objs id with
    | some (sz, es) => if sz = ei.sz then some (some id, es) else none
    | none => none
  | _ => none

def sAppend (T : Tab) (s : St) (d nid : Nat) (t1 t2 : TypeId) (x y : AV) : Option (Prop × St) :=
  match elemOf' T t1 with
  | none => none
  | some ei =>
    match baseOf s ei x, srcOf T s ei t2 y with
    | some (tid, es1), some (es2, tid2) =>
      if s.fits (some d) = true ∧ (tid = none ∨ tid ≠ tid2) ∧ 16 ≤ nid then
        some ((es1.length + es2.length) * ei.by_ ≤ 140737488355328 ∧ es1.length + es2.length ≤ maxLen,
          { s with slots := putS (mapS (killG nid tid tid2) s.slots) d (.hd nid []), objs := setO (dropOpt (dropOpt s.objs tid) tid2) nid ei.sz (es1 ++ es2) })
      else none
    | _, _ => none

theorem Sim.regard {s : St} {a : Act} {w w' : World} {g g' : Gh} (h : Sim s a w g) (hr : RdKeep g w g' w') {gone : Nat → Bool} {f : Nat → Path → Option (Nat × Path)} (hf : ∀ j q, f j q = if gone j then none else some (j, q))
    (hl : ∀ j q, gone j = false → g'.loc j q = g.loc j q) {objs : List Obj} (ho : HSim objs w' g') {d : Nat} (hd : s.fits (some d) = true) {x : AV} {v : Value} (hv : Val g' w' x v) (hst : g'.st = g.st := by rfl) :
    Sim { s with slots := putS (mapS f s.slots) d x, objs := objs } (a.put (some d) v) w' g' := by
  have ht := h.turn hr (f := f) (fun j q j' q' hf' => by
    rw [hf] at hf'
    split at hf'
    · simp at hf'
    · rename_i hg
      simp only [Option.some.injEq, Prod.mk.injEq] at hf'
      obtain ⟨rfl, rfl⟩ := hf'
      exact hl _ _ (by simpa using hg)) ho hst
  exact ht.put (d := some d) hd hv

theorem goneB_false {nid : Nat} {t1 t2 : Option Nat} {j : Nat} (h : goneB nid t1 t2 j = false) : j ≠ nid ∧ t1 ≠ some j ∧ t2 ≠ some j := by
  simpa [goneB, Bool.or_eq_false_iff, and_assoc] using h

theorem h_objs {s : St} {a : Act} {w : World} {g : Gh} (hs : Sim s a w g) (t1 t2 : Option Nat) (nid sz : Nat) : HSim (setO (dropOpt (dropOpt s.objs t1) t2) nid sz []) w (gKill g nid []) := by
  have h1 : HSim (dropOpt (dropOpt s.objs t1) t2) w g := by
    cases t1 <;> cases t2 <;> simp only [dropOpt]
    · exact hs.h
    · exact hs.h.drop _
    · exact hs.h.drop _
    · exact (hs.h.drop _).drop _
  exact h1.newNil nid sz

theorem sAppend_ok {P : Program} {T : Tab} (hT : TabOk P T) {s s' : St} {d nid : Nat} {t1 t2 ty : TypeId} {x y : AV} {c : Prop} (h : sAppend T s d nid t1 t2 x y = some (c, s')) (hc : c)
    {a : Act} {w : World} {g : Gh} (hs : Sim s a w g) {v u : Value} (hv : Val g w x v) (hu : Val g w y u) :
    ∃ r w' g', (Builtin.append_ #[t1, t2] ty #[v, u]).run P w = .ok r w' ∧ Sim s' (a.put (some d) r) w' g' ∧ Keep g w g' w' := by
  unfold sAppend at h
  split at h
  · simp at h
  · rename_i ei hei
    obtain ⟨e, he1, _, he2⟩ := elemOf'_ok hT hei
    split at h
    · rename_i tid es1 es2 tid2 hb hsrc
      split at h
      · rename_i hcond
        obtain ⟨hd, htt, hnid⟩ := hcond
        simp only [Option.some.injEq, Prod.mk.injEq] at h
        obtain ⟨rfl, rfl⟩ := h
        obtain ⟨hc1, hc2⟩ := hc
        obtain ⟨⟨news, hsrcOk⟩, ⟨d2, hd2, hd2'⟩, htid2⟩ := srcOf_ok (P := P) hT hsrc hs hu
        have hu0 : ∃ u2, u = u2 := ⟨u, rfl⟩
        -- the first operand
        have hbase : ∃ (base : Option Addr) (cap b : Nat) (cur : Array Value) (e' : TypeId), v = .slice base es1.length cap ∧
            ((base = none ∧ es1.length = 0 ∧ cap = 0) ∨ (base = some ⟨b, 0, none⟩ ∧ w.heap[b]? = some (.cells cur e' (0, 0)) ∧ cur.size = cap * ei.sz ∧ es1.length ≤ cap ∧ cap ≤ maxLen)) ∧
            (base ≠ none → ∃ t, tid = some t ∧ g.own b = some (t, [])) ∧
            (∀ (i k : Nat) (x y : AV), es1[i]? = some x → x.cells[k]? = some y → ∃ t z, tid = some t ∧ base ≠ none ∧ cur[i * ei.sz + k]? = some z ∧ Cell g w (.at t [(i, k)]) y z) ∧
            (∀ (i : Nat) (x : AV), es1[i]? = some x → x.width = ei.sz) ∧ (∀ t, tid = some t → lookO s.objs t = some (ei.sz, es1)) := by
          unfold baseOf at hb
          split at hb
          · simp only [Option.some.injEq, Prod.mk.injEq] at hb
            obtain ⟨rfl, rfl⟩ := hb
            cases hv with
            | cell _ _ hh => cases hh
            | nilS => exact ⟨none, 0, 0, #[], 0, rfl, .inl ⟨rfl, rfl, rfl⟩, fun h => absurd rfl h, fun i k x y hx => by simp at hx, fun i x hx => by simp at hx, fun t ht => by simp at ht⟩
          · rename_i id
            split at hb
            · rename_i sz es hlook
              split at hb
              · rename_i hsz
                subst hsz
                simp only [Option.some.injEq, Prod.mk.injEq] at hb
                obtain ⟨rfl, rfl⟩ := hb
                obtain ⟨v', hcell⟩ := hs.h.obj id _ _ hlook
                obtain rfl := hcell.hd hv
                cases hcell with
                | rd _ _ _ _ a c us hp hm => exact hm.elim
                | emp _ _ _ a c hm => exact absurd rfl hm
                | ownNil _ _ _ hl => exact ⟨none, 0, 0, #[], 0, rfl, .inl ⟨rfl, rfl, rfl⟩, fun h => absurd rfl h, fun i k x y hx => by simp at hx, fun i x hx => by simp at hx, fun t ht => by obtain rfl := Option.some.inj ht; exact hlook⟩
                | own _ _ _ _ b c cur e' us hl ho hbb hn hm hz hw hcc ht =>
                  refine ⟨_, c, b, cur, e', rfl, .inr ⟨rfl, hbb, hz, hn, hm⟩, fun _ => ⟨_, rfl, ho⟩, ?_, hw, fun t ht => by obtain rfl := Option.some.inj ht; exact hlook⟩
                  intro i k x y hx hy
                  exact ⟨_, _, rfl, by simp, hcc i k x y hx hy, by simpa using ht i k x y hx hy⟩
              · simp at hb
            · simp at hb
          · simp at hb
        obtain ⟨base, cap, b, cur, e', rfl, hbs, hbown, hbel, hbw, hblook⟩ := hbase
        rcases run_append_any (P := P) (t := t1) (t2 := t2) (ty := ty) he1 he2 hd2 hd2' hbs hsrcOk.len hsrcOk.f1 hsrcOk.f2 hsrcOk.nl hsrcOk.one hc2 hc1 with ⟨rfl, hm0, hrun⟩ | ⟨b', c', cur', e'', w', hrun, hb', hcz', hn', hm', htake, hheap, hsize, hblt, hos, hwhere⟩
        · -- nothing onto nothing
          have hes2 : es2 = [] := List.eq_nil_of_length_eq_zero hm0
          have hes1 : es1 = [] := by
            rcases hbs with ⟨_, h0, _⟩ | ⟨h0, _⟩
            · exact List.eq_nil_of_length_eq_zero h0
            · simp at h0
          subst hes1; subst hes2
          have hr : RdKeep g w (gKill g nid []) w := ⟨fun b hb => ⟨hb, rfl⟩, fun b hb => ⟨.inr hb, rfl⟩⟩
          have hH := h_objs hs tid tid2 nid ei.sz
          refine ⟨_, w, gKill g nid [], hrun, ?_, gKill_keep g nid [] w (.inr hnid)⟩
          exact hs.regard hr (gone := goneB nid tid tid2) (fun j q => rfl) (fun j q hj => gKill_else (fun _ e => absurd e (goneB_false hj).1)) hH hd (.hdNil _ _ (gKill_at g nid [] []))
        · have hlen : (es1 ++ es2).length = es1.length + es2.length := List.length_append
          have hcur' : ∀ (j : Nat) (z : Value), (if base = none then ([] : List Value) else cur.toList.take (es1.length * ei.sz))[j]? = some z → cur'[j]? = some z := by
            intro j z hz
            have h1 : (cur'.toList.take ((es1.length + es2.length) * ei.sz))[j]? = some z := by rw [htake, List.getElem?_append_left (lt_of_get hz)]; exact hz
            rw [List.getElem?_take] at h1
            split at h1
            · simpa using h1
            · simp at h1
          have hollen : (if base = none then ([] : List Value) else cur.toList.take (es1.length * ei.sz)).length = es1.length * ei.sz := by
            rcases hbs with ⟨rfl, h0, _⟩ | ⟨h0, _, h2, h3, _⟩
            · rw [if_pos rfl, h0]; simp
            · rw [h0]
              simp only [reduceCtorEq, if_false, List.length_take, Array.length_toList, h2]
              exact Nat.min_eq_left (Nat.mul_le_mul_right _ h3)
          have hcur2 : ∀ (j : Nat) (z : Value), news[j]? = some z → cur'[es1.length * ei.sz + j]? = some z := by
            intro j z hz
            have h1 : (cur'.toList.take ((es1.length + es2.length) * ei.sz))[es1.length * ei.sz + j]? = some z := by
              rw [htake, List.getElem?_append_right (by rw [hollen]; omega), hollen, Nat.add_sub_cancel_left]; exact hz
            rw [List.getElem?_take] at h1
            split at h1
            · simpa using h1
            · simp at h1
          have key := hs.h.gather (w' := w') (objs' := setO (dropOpt (dropOpt s.objs tid) tid2) nid ei.sz (es1 ++ es2)) nid ei.sz (es1 ++ es2) b' c' cur' e''
            (fun i => if i < es1.length then tid.map (fun t => (t, i)) else tid2.map (fun t => (t, i - es1.length)))
            (fun j i' => if tid = some j then (if i' < es1.length then some i' else none) else if tid2 = some j then some (es1.length + i') else none)
            (goneB nid tid tid2) hb' hcz' (by rw [hlen]; exact hn') hm'
            (by
              intro i x hx
              by_cases hi : i < es1.length
              · rw [List.getElem?_append_left hi] at hx; exact hbw i x hx
              · rw [List.getElem?_append_right (by omega)] at hx; exact hsrcOk.wd _ x hx)
            hheap hsize hblt hos hnid
            (by
              rcases hwhere with h1 | h1
              · exact .inl h1
              · obtain ⟨t, ht, hown⟩ := hbown (by rw [h1]; simp)
                rcases hbs with ⟨h2, _⟩ | ⟨h2, _⟩
                · rw [h2] at h1; simp at h1
                · rw [h2] at h1
                  simp only [Option.some.injEq, Addr.mk.injEq, and_true] at h1
                  exact .inr ⟨t, by rw [← h1]; exact hown, by simp [goneB, ht]⟩)
            (by
              intro i j i' hf
              split at hf
              · rename_i hi
                cases ht : tid with
                | none => simp [ht] at hf
                | some t =>
                  rw [ht] at hf
                  simp only [Option.map_some, Option.some.injEq, Prod.mk.injEq] at hf
                  obtain ⟨rfl, rfl⟩ := hf
                  exact ⟨by simp [goneB], by simp [hi]⟩
              · rename_i hi
                cases ht2 : tid2 with
                | none => simp [ht2] at hf
                | some t2' =>
                  rw [ht2] at hf
                  simp only [Option.map_some, Option.some.injEq, Prod.mk.injEq] at hf
                  obtain ⟨rfl, rfl⟩ := hf
                  refine ⟨by simp [goneB], ?_⟩
                  have hne : tid ≠ some t2' := by
                    rcases htt with h0 | h0
                    · rw [h0]; simp
                    · intro e; exact h0 (e.trans ht2.symm)
                  rw [if_neg hne, if_pos rfl]
                  congr 1; omega)
            (by
              intro i k x y hx hy
              by_cases hi : i < es1.length
              · rw [List.getElem?_append_left hi] at hx
                obtain ⟨t, z, ht, hbn, hz, hcell⟩ := hbel i k x y hx hy
                refine ⟨z, hcur' _ z ?_, .inr ⟨t, i, by simp [hi, ht], hcell⟩⟩
                rw [if_neg hbn, List.getElem?_take, if_pos]
                · simpa using hz
                · have h2 : k < ei.sz := by rw [← hbw i x hx]; exact lt_of_get hy
                  calc i * ei.sz + k < i * ei.sz + ei.sz := by omega
                    _ = (i + 1) * ei.sz := by rw [Nat.add_mul, Nat.one_mul]
                    _ ≤ es1.length * ei.sz := Nat.mul_le_mul_right _ (by omega)
              · rw [List.getElem?_append_right (by omega)] at hx
                obtain ⟨z, hz, hcase⟩ := hsrcOk.cell _ k x y hx hy
                have hidx : es1.length * ei.sz + ((i - es1.length) * ei.sz + k) = i * ei.sz + k := by
                  rw [← Nat.add_assoc, ← Nat.add_mul]; congr 2; omega
                refine ⟨z, by rw [← hidx]; exact hcur2 _ z hz, ?_⟩
                cases ht2 : tid2 with
                | none => rw [ht2] at hcase; exact .inl ⟨by simp [hi], hcase⟩
                | some t2' => rw [ht2] at hcase; exact .inr ⟨t2', i - es1.length, by simp [hi], hcase⟩)
            (by
              intro j
              simp only [lookO_setO, lookO_dropOpt]
              by_cases h1 : j = nid
              · rw [if_pos h1.symm, if_pos h1]
              · rw [if_neg (fun e => h1 e.symm), if_neg h1]
                by_cases h2 : tid2 = some j
                · simp [h2, goneB]
                · by_cases h3 : tid = some j
                  · simp [h2, h3, goneB]
                  · simp [h2, h3, goneB, h1])
          obtain ⟨k1, k2, k3, k4, k5⟩ := key
          refine ⟨_, w', _, hrun, ?_, k3⟩
          refine hs.regard k2 (gone := goneB nid tid tid2) (fun j q => rfl) (fun j q hj => k4 j q (goneB_false hj).1) k1 hd ?_
          have hn2 : es1.length + es2.length = (es1 ++ es2).length := hlen.symm
          generalize hq : es1.length + es2.length = q at hn2 ⊢
          subst hn2
          exact .hd nid [] b' c' _ k5
      · simp at h
    · simp at h

end Go.Proofs.YtkhobcmkbldmiaaFw
