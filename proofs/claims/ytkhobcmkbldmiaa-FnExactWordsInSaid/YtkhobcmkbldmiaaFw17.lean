/- Slices out of their elements; slices made. -/
import Derived.Test.YtkhobcmkbldmiaaFw16
import Derived.Great.BuildSlice
import Derived.Laws.MakeOwn
namespace Go.Proofs.YtkhobcmkbldmiaaFw
open Go Go.RowKit
set_option linter.unusedVariables false

def mkE (k : TK) (cs : List AV) : AV := if isAggK k then .agg cs else cs.getD 0 .dead

def elsOf (zs : List AV) (k : TK) : Nat → List AV → Option (List AV × List (Nat × Nat × Nat))
  | _, [] => some ([], [])
  | j, y :: r =>
    if isDead y = true then none
    else
      match cellsOf 0 zs y.cells, elsOf zs k (j + 1) r with
      | some (cs, ps), some (es, qs) => some (mkE k cs :: es, ps.map (fun p => (j, p.1, p.2)) ++ qs)
      | _, _ => none

def seqFrom : Nat → List (Nat × AV) → Bool
  | _, [] => true
  | n, (i, _) :: r => i == n && seqFrom (n + 1) r

theorem seqFrom_eq : ∀ (l : List (Nat × AV)) (n : Nat), seqFrom n l = true → l.map (·.1) = List.range' n l.length
  | [], _, _ => rfl
  | (i, x) :: r, n, h => by
    simp only [seqFrom, Bool.and_eq_true, beq_iff_eq] at h
    simp only [List.map_cons, List.length_cons, List.range'_succ]
    rw [seqFrom_eq r (n + 1) h.2, h.1]

theorem mkE_cells {k : TK} {cs : List AV} {sz : Nat} (hl : cs.length = sz) (hk : isAggK k = true ∨ sz = 1) (h1 : ∀ c ∈ cs, c.cells = [c]) : (mkE k cs).cells = cs := by
  unfold mkE
  split
  · rfl
  · rename_i hna
    rcases hk with hk | hk
    · exact absurd hk hna
    · subst hk
      match cs, hl with
      | [c], _ => exact h1 c (by simp)

theorem elsOf_ok {g : Gh} {w : World} {zs : List AV} {k : TK} {sz : Nat} (hzs : zs.length = sz) (hk : isAggK k = true ∨ sz = 1) : ∀ (ys : List AV) (j : Nat) (es : List AV) (qs : List (Nat × Nat × Nat)), elsOf zs k j ys = some (es, qs) →
    ∀ us : List Value, us.length = ys.length → (∀ (i : Nat) (c : AV) (u : Value), ys[i]? = some c → us[i]? = some u → Val g w c u) →
    es.length = ys.length ∧ (∀ u ∈ us, u.cells.size = sz) ∧ (∀ (i : Nat) (x : AV), es[i]? = some x → x.width = sz) ∧
    (∀ (i k : Nat) (x c : AV), es[i]? = some x → x.cells[k]? = some c → ∃ u z, us[i]? = some u ∧ u.cells[k]? = some z ∧ Flat g w c z) ∧
    (∀ i k tid, (i, k, tid) ∈ qs → ∃ i' u z, i = j + i' ∧ us[i']? = some u ∧ u.cells[k]? = some z ∧ k < sz ∧ Val g w (.hd tid []) z)
  | [], j, es, qs, h, us, hl, hv => by
    simp only [elsOf, Option.some.injEq, Prod.mk.injEq] at h
    obtain ⟨rfl, rfl⟩ := h
    have : us = [] := List.eq_nil_of_length_eq_zero (by simpa using hl)
    subst this
    exact ⟨rfl, fun u hu => by simp at hu, fun i x hx => by simp at hx, fun i k x c hx => by simp at hx, fun i k tid h => by simp at h⟩
  | y :: ys, j, es, qs, h, us, hl, hv => by
    cases us with
    | nil => simp at hl
    | cons u us =>
      simp only [elsOf] at h
      split at h
      · simp at h
      · rename_i hd
        split at h
        · rename_i cs ps es' qs' h1 h2
          simp only [Option.some.injEq, Prod.mk.injEq] at h
          obtain ⟨rfl, rfl⟩ := h
          have hvy := hv 0 y u rfl rfl
          obtain ⟨hsz, hcells⟩ := hvy.cells (fun e => by rw [e] at hd; simp [isDead] at hd)
          have hvv : ∀ (j : Nat) (c : AV) (u' : Value), y.cells[j]? = some c → u.cells.toList[j]? = some u' → Val g w c u' := fun j c u' h1 h2 => hcells j c u' h1 (by simpa using h2)
          obtain ⟨k1, k2, k3⟩ := cellsOf_ok (g := g) (w := w) _ _ _ _ _ h1 u.cells.toList (by simpa using hsz) hvv
          obtain ⟨o1, o2⟩ := cellsOf_one (g := g) (w := w) _ _ _ _ _ h1 u.cells.toList (by simpa using hsz) hvv
          obtain ⟨i1, i2, i3, i4, i5⟩ := elsOf_ok (g := g) (w := w) hzs hk ys (j + 1) es' qs' h2 us (by simpa using hl) (fun i c u hc hu => hv (i + 1) c u (by simpa using hc) (by simpa using hu))
          have hcl : cs.length = sz := by
            have e1 := o1
            omega
          have hme := mkE_cells (k := k) hcl hk (fun c hc => by
            obtain ⟨n, hn⟩ := List.mem_iff_getElem?.1 hc
            obtain ⟨_, _, _, h⟩ := k2 n c hn
            exact h)
          refine ⟨by simp [i1], ?_, ?_, ?_, ?_⟩
          · intro u' hu'
            rw [List.mem_cons] at hu'
            rcases hu' with rfl | hu'
            · omega
            · exact i2 u' hu'
          · intro i x hx
            cases i with
            | zero => simp at hx; subst hx; rw [AV.width, hme]; exact hcl
            | succ i => exact i3 i x (by simpa using hx)
          · intro i k' x c hx hc
            cases i with
            | zero =>
              simp at hx; subst hx
              rw [hme] at hc
              obtain ⟨z, hz, hf, _⟩ := k2 k' c hc
              exact ⟨u, z, rfl, by simpa using hz, hf⟩
            | succ i =>
              obtain ⟨u', z, e1, e2, e3⟩ := i4 i k' x c (by simpa using hx) hc
              exact ⟨u', z, by simpa using e1, e2, e3⟩
          · intro i k' tid hm
            rw [List.mem_append, List.mem_map] at hm
            rcases hm with ⟨p, hp, e⟩ | hm
            · simp only [Prod.mk.injEq] at e
              obtain ⟨rfl, rfl, rfl⟩ := e
              obtain ⟨i', z, e1, e2, e3⟩ := k3 p.1 p.2 hp
              refine ⟨0, u, z, rfl, rfl, ?_, ?_, e3⟩
              · rw [e1, Nat.zero_add]; simpa using e2
              · have := lt_of_get e2
                simp at this
                omega
            · obtain ⟨i', u', z, e1, e2, e3⟩ := i5 i k' tid hm
              exact ⟨i' + 1, u', z, by omega, by simpa using e2, e3⟩
        · simp at h

theorem flat_len {sz : Nat} : ∀ (us : List Value), (∀ u ∈ us, u.cells.size = sz) → (us.flatMap fun v => v.cells.toList).length = us.length * sz
  | [], _ => by simp
  | u :: us, h => by
    have := flat_len us (fun x hx => h x (by simp [hx]))
    have h0 := h u (by simp)
    simp only [List.flatMap_cons, List.length_append, Array.length_toList, this, h0, List.length_cons, Nat.add_mul, Nat.one_mul]
    omega

theorem run_build0 {P : Program} {t e : TypeId} (he1 : P.underlying t = some (.slice e)) {ei : TI} (he2 : TIOk P e ei) {w : World} :
    (Instr.buildSlice t 0 #[]).run P w = .ok (.slice (some ⟨w.heap.size, 0, none⟩) 0 0) (w.alloc (.cells #[] e)) := by
  simp [Instr.buildSlice, run_underlying he1, run_sizeOf' he2, Instr.fill, newRow, Array.range_zero']

def sBuildSl (T : Tab) (s : St) (d id : Nat) (t : TypeId) (len : Nat) (parts : List (Nat × Operand)) : Option St :=
  match elemOf' T t, evL s parts with
  | some ei, some ps =>
    if seqFrom 0 ps = true ∧ ps.length = len ∧ s.fits (some d) = true ∧ 16 ≤ id ∧ 0 < ei.sz ∧ len * ei.sz ≤ 16777216 ∧ (isAggK ei.k = true ∨ ei.sz = 1) then
      match elsOf ei.z ei.k 0 (ps.map (·.2)) with
      | some (es, qs) => (s.newO d id ei.sz es (.hd id [])).plugL id [] qs
      | none => none
    else none
  | _, _ => none

theorem sBuildSl_ok {P : Program} {T : Tab} (hT : TabOk P T) {s s' : St} {d id : Nat} {t : TypeId} {len : Nat} {parts : Array (Nat × Operand)} (h : sBuildSl T s d id t len parts.toList = some s') {a : Act} {w : World} {g : Gh} (hs : Sim s a w g) :
    ∃ r w' g', (Instr.buildSlice t len (parts.map fun (i, x) => (i, a.eval x))).run P w = .ok r w' ∧ Sim s' (a.put (some d) r) w' g' ∧ Keep g w g' w' := by
  unfold sBuildSl at h
  split at h
  · rename_i ei ps hei hps
    obtain ⟨e, he1, he0, he2⟩ := elemOf'_ok hT hei
    split at h
    · rename_i hcond
      obtain ⟨hseq, hlen, hd, hid, hpos, hsmall, hk⟩ := hcond
      split at h
      · rename_i es qs hes
        obtain ⟨i, z, hi, hs1, _, hz, hz1, hz2, _⟩ := he2.info
        obtain ⟨hv1, hv2⟩ := evL_val hs parts.toList ps hps
        have hvs : ∃ us : List Value, us = parts.toList.map (fun p => a.eval p.2) := ⟨_, rfl⟩
        obtain ⟨us, hus⟩ := hvs
        have hul : us.length = ps.length := by
          have := congrArg List.length hv1
          simp at this
          rw [hus, List.length_map]; omega
        have hparts : (parts.map fun (i, x) => (i, a.eval x)).toList = (us.zipIdx 0).map fun x => (x.2, x.1) := by
          rw [Array.toList_map, hus]
          have e1 : parts.toList.map (·.1) = List.range' 0 parts.toList.length := by
            have := seqFrom_eq ps 0 hseq
            rw [← hv1] at this
            simp only [List.map_map] at this
            rw [show ps.length = parts.toList.length by rw [← hul, hus, List.length_map]] at this
            exact this
          apply List.ext_getElem?
          intro j
          simp only [List.getElem?_map, List.getElem?_zipIdx, Nat.zero_add]
          cases hj : parts.toList[j]? with
          | none => rfl
          | some p =>
            have h3 : (parts.toList.map (·.1))[j]? = some p.1 := by rw [List.getElem?_map, hj]; rfl
            rw [e1, List.getElem?_range' (lt_of_get hj)] at h3
            simp at h3
            simp [h3]
        have hvv : ∀ (j : Nat) (c : AV) (u : Value), (ps.map (·.2))[j]? = some c → us[j]? = some u → Val g w c u := by
          intro j c u hc hu
          rw [List.getElem?_map] at hc
          rw [hus, List.getElem?_map] at hu
          cases hpj : ps[j]? with
          | none => simp [hpj] at hc
          | some p =>
            cases hqj : parts.toList[j]? with
            | none => simp [hqj] at hu
            | some q =>
              rw [hpj] at hc; rw [hqj] at hu
              simp only [Option.map_some, Option.some.injEq] at hc hu
              subst hc; subst hu
              exact hv2 j p (q.1, a.eval q.2) hpj (by rw [List.getElem?_map, hqj]; rfl)
        obtain ⟨i1, i2, i3, i4, i5⟩ := elsOf_ok (g := g) (w := w) hz2 hk _ _ _ _ hes us (by simpa using hul) hvv
        have hfl := fun k => Go.Great.flat_get hpos us i2 k
        have hflen : (us.flatMap fun v => v.cells.toList).length = us.length * ei.sz := by
          exact flat_len us i2
        have hul2 : us.length = len := by omega
        have hesl : es.length = len := by rw [i1]; simp; omega
        have hrun : (Instr.buildSlice t len (parts.map fun (i, x) => (i, a.eval x))).run P w = .ok (.slice (some ⟨w.heap.size, 0, none⟩) len len) (w.alloc (.cells (us.flatMap fun v => v.cells.toList).toArray e)) := by
          by_cases hl0 : len = 0
          · have : us = [] := List.eq_nil_of_length_eq_zero (by omega)
            have hp0 : (parts.map fun (i, x) => (i, a.eval x)).toList = [] := by rw [hparts, this]; rfl
            subst hl0
            have hp1 : (parts.map fun (i, x) => (i, a.eval x)) = #[] := Array.toList_inj.1 hp0
            rw [hp1, this]
            exact run_build0 he1 he2
          · refine run_buildSlice w t e len _ _ i z he1 hi hz (by rw [hs1]; omega) (by rw [hs1]; exact Nat.pos_iff_ne_zero.1 (Nat.mul_pos (by omega) hpos)) ?_
            rw [hparts, hs1]
            exact Go.Great.fill_whole hpos us _ i2 (by simp [hul2])
        have hmul : ∀ i k, k < ei.sz → (i * ei.sz + k) / ei.sz = i ∧ (i * ei.sz + k) % ei.sz = k := by
          intro i k hk
          constructor
          · rw [Nat.mul_comm, Nat.mul_add_div hpos, Nat.div_eq_of_lt hk, Nat.add_zero]
          · rw [Nat.mul_comm, Nat.mul_add_mod, Nat.mod_eq_of_lt hk]
        obtain ⟨g', h1, h2, h3, h4, h5, h6⟩ := hs.newO (w' := w.alloc (.cells (us.flatMap fun v => v.cells.toList).toArray e)) d id ei.sz hid es len (us.flatMap fun v => v.cells.toList).toArray e hd rfl ⟨rfl, rfl, rfl⟩ (by omega)
          (by unfold maxLen; have := Nat.le_mul_of_pos_right len hpos; omega) (by simp only [List.size_toArray]; rw [hflen, hul2]) i3 (by
            intro i k x y hx hy
            obtain ⟨u, z, e1, e2, e3⟩ := i4 i k x y hx hy
            have hks : k < ei.sz := by rw [← i3 i x hx]; exact lt_of_get hy
            refine ⟨z, ?_, e3⟩
            have := hfl (i * ei.sz + k)
            rw [(hmul i k hks).1, (hmul i k hks).2, e1] at this
            simpa [e2] using this) (x := .hd id []) (v := .slice (some ⟨w.heap.size, 0, none⟩) len len) (by
            intro g' hl
            exact .hd id [] _ _ _ (by rw [hl, hesl]))
        obtain ⟨g2, b1, b2⟩ := Sim.plugL (id := id) (q := []) (b := w.heap.size) (c := len) (l := es.length) qs _ s' g' ei.sz es h1 h (by simp [St.node, St.newO, lookO_setO, navG]) h3 (by
          intro i' k' tid hm hne _
          obtain ⟨i2', u, z, e1, e2, e3, e4, e5⟩ := i5 i' k' tid hm
          rw [Nat.zero_add] at e1
          subst e1
          refine ⟨z, ?_, e5.hd_loc (h4 _ _ hne)⟩
          have := hfl (i' * ei.sz + k')
          rw [(hmul i' k' e4).1, (hmul i' k' e4).2, e2] at this
          rw [World.cell?_alloc_new]
          simpa [e3] using this)
        exact ⟨_, _, g2, hrun, b1, h2.trans b2⟩
      · simp at h
    · simp at h
  · simp at h

end Go.Proofs.YtkhobcmkbldmiaaFw
