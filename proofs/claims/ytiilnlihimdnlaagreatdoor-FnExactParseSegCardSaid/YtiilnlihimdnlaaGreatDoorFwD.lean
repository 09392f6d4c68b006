import Derived.Test.YtiilnlihimdnlaaGreatDoorFwC
import Derived.ProofKit
import Derived.SizedLaws
import Derived.ChangeArms
import Derived.Below
import Derived.Carry
import Derived.Laws.StructEq
set_option linter.unusedVariables false
set_option linter.unusedSimpArgs false
/- What comes in, read as abstract values. -/
namespace Go.Proofs.YtiilnlihimdnlaaGreatDoorFw
open Go Go.RowKit
set_option linter.unusedVariables false
def g0 (w : World) : Gh where
  loc := fun _ _ => none
  own := fun _ => none
  perm := fun b => ((lbTab b).isSome = true ∨ lbErr b = true) ∧ b < w.heap.size
  bor := fun b => b < w.heap.size
  st := false
def inB (k : IntKind) (n : Int) : Prop := k.min ≤ n ∧ n ≤ k.max
inductive TyV (T : Tab) : TypeId → List AV → Prop where
  | int (t : TypeId) (k : IntKind) (n : Int) (ti : TI) (h : T t = some ti) (hk : ti.k = .int k) (hr : inB k n) : TyV T t [.int k n]
  | bool (t : TypeId) (b : Bool) (ti : TI) (h : T t = some ti) (hk : ti.k = .bool) : TyV T t [.bool b]
  | str (t : TypeId) (s : List UInt8) (ti : TI) (h : T t = some ti) (hk : ti.k = .str) (hr : s.length ≤ reachBytes) : TyV T t [.str s]
  | slice (t e : TypeId) (es : List AV) (ti ei : TI) (h : T t = some ti) (hk : ti.k = .slice e) (he : T e = some ei) (hr : es.length * ei.by_ ≤ reachBytes)
      (hs : ∀ x ∈ es, ∃ cs, x = mkE ei.k cs ∧ x.cells = cs) (hc : ∀ x ∈ es, TyV T e x.cells) : TyV T t [.row .bo ei.sz es]
  | struct (t : TypeId) (fs : List (Nat × TypeId)) (parts : List (List AV)) (ti : TI) (h : T t = some ti) (hk : ti.k = .struct fs) (hl : parts.length = fs.length)
      (hp : ∀ (i : Nat) (off : Nat) (ft : TypeId) (p : List AV), fs[i]? = some (off, ft) → parts[i]? = some p → TyV T ft p) : TyV T t parts.flatten
def All2 (g : Gh) (w : World) : List AV → List Value → Prop
  | [], [] => True
  | x :: xs, u :: us => Cell g w .bo x u ∧ All2 g w xs us
  | _, _ => False
theorem All2.append {g : Gh} {w : World} : ∀ {xs ys : List AV} {us vs : List Value}, All2 g w xs us → All2 g w ys vs → All2 g w (xs ++ ys) (us ++ vs)
  | [], ys, [], vs, _, h => h
  | x :: xs, ys, u :: us, vs, h1, h2 => ⟨h1.1, All2.append h1.2 h2⟩
  | [], _, _ :: _, _, h, _ => h.elim
  | _ :: _, _, [], _, h, _ => h.elim
theorem All2.get {g : Gh} {w : World} : ∀ {xs : List AV} {us : List Value}, All2 g w xs us → xs.length = us.length ∧ ∀ (k : Nat) (x : AV) (u : Value), xs[k]? = some x → us[k]? = some u → Cell g w .bo x u
  | [], [], _ => ⟨rfl, fun k x u h => by simp at h⟩
  | x :: xs, u :: us, h => by
    obtain ⟨h1, h2⟩ := All2.get h.2
    refine ⟨by simp [h1], ?_⟩
    intro k y v hy hv
    cases k with
    | zero => simp at hy hv; subst hy; subst hv; exact h.1
    | succ k => exact h2 k y v (by simpa using hy) (by simpa using hv)
  | [], _ :: _, h => h.elim
  | _ :: _, [], h => h.elim
theorem Cell.cells1 {g : Gh} {w : World} {p : Pl} {x : AV} {u : Value} (h : Cell g w p x u) : x.cells = [x] := by cases h <;> rfl
def tiled (T : Tab) : List (Nat × TypeId) → Nat → Nat → Bool
  | [], off, n => off == n
  | (o, t) :: r, off, n => o == off && (match T t with | some ti => tiled T r (off + ti.sz) n | none => false)
def tabWhole (l : List (TypeId × TI)) : Bool :=
  l.all fun p =>
    match p.2.k with
    | .struct fs => tiled (lookT l) fs 0 p.2.sz
    | .slice e => (match lookT l e with | some ei => (isAggK ei.k || ei.sz == 1) && decide (0 < ei.sz) | none => false)
    | .int _ => p.2.sz == 1
    | .bool => p.2.sz == 1
    | .str => p.2.sz == 1
    | _ => true
theorem lookT_mem : ∀ {l : List (TypeId × TI)} {t : TypeId} {ti : TI}, lookT l t = some ti → (t, ti) ∈ l
  | [], _, _, h => by simp [lookT] at h
  | p :: r, t, ti, h => by
    simp only [lookT] at h
    split at h
    · rename_i e; subst e; obtain rfl := Option.some.inj h; simp
    · exact List.mem_cons_of_mem _ (lookT_mem h)
theorem TIOk.cellsOf {P : Program} {t : TypeId} {ti : TI} (h : TIOk P t ti) : P.cellsOf t = ti.sz := by
  obtain ⟨i, z, hi, hs, _⟩ := h.info
  simp [Program.cellsOf, hi, hs]
theorem TIOk.bytesOf {P : Program} {t : TypeId} {ti : TI} (h : TIOk P t ti) : P.bytesOf t = ti.by_ := by
  obtain ⟨i, z, hi, _, hb, _⟩ := h.info
  simp [Program.bytesOf, hi, hb]
theorem weightsAll_mem {H : Type} {P : Program} {e : TypeId} : ∀ {l : List (DataW H)} {d : DataW H}, d ∈ l → ∀ x ∈ d.weights P e, x ∈ DataW.weightsAll P e l
  | y :: r, d, h, x, hx => by
    simp only [DataW.weightsAll, List.mem_append]
    rcases List.mem_cons.1 h with e' | e'
    · subst e'; exact .inl hx
    · exact .inr (weightsAll_mem e' x hx)
theorem weightsEach_get {H : Type} {P : Program} : ∀ {ts : List TypeId} {l : List (DataW H)} {i : Nat} {t : TypeId} {d : DataW H}, ts[i]? = some t → l[i]? = some d → ∀ x ∈ d.weights P t, x ∈ DataW.weightsEach P ts l
  | [], _, _, _, _, h, _ => by simp at h
  | _ :: _, [], _, _, _, _, h => by simp at h
  | t' :: ts, d' :: l, 0, t, d, h1, h2 => by
    simp at h1 h2; subst h1; subst h2
    intro x hx
    simp only [DataW.weightsEach, List.mem_append]
    exact .inl hx
  | t' :: ts, d' :: l, i + 1, t, d, h1, h2 => by
    intro x hx
    simp only [DataW.weightsEach, List.mem_append]
    exact .inr (weightsEach_get (by simpa using h1) (by simpa using h2) x hx)
theorem open_struct {T : Tab} {g : Gh} {w : World} {cs : List Value} : ∀ (fs : List (Nat × TypeId)) (off n : Nat), tiled T fs off n = true → cs.length = n →
    (∀ (i o : Nat) (ft : TypeId) (fi : TI), fs[i]? = some (o, ft) → T ft = some fi → ∃ xs, TyV T ft xs ∧ All2 g w xs ((cs.drop o).take fi.sz)) →
    ∃ parts : List (List AV), parts.length = fs.length ∧ All2 g w parts.flatten (cs.drop off) ∧ ∀ (i o : Nat) (ft : TypeId) (p : List AV), fs[i]? = some (o, ft) → parts[i]? = some p → TyV T ft p
  | [], off, n, ht, hl, _ => by
    simp only [tiled, beq_iff_eq] at ht
    refine ⟨[], rfl, ?_, fun i o ft p h => by simp at h⟩
    rw [List.drop_of_length_le (by omega)]
    trivial
  | (o, t) :: r, off, n, ht, hl, h => by
    simp only [tiled, Bool.and_eq_true, beq_iff_eq] at ht
    obtain ⟨rfl, ht⟩ := ht
    cases hti : T t with
    | none => simp [hti] at ht
    | some ti =>
      rw [hti] at ht
      simp only at ht
      obtain ⟨xs, h1, h2⟩ := h 0 o t ti rfl hti
      obtain ⟨parts, k1, k2, k3⟩ := open_struct r (o + ti.sz) n ht hl (fun i o' ft fi hi hf => h (i + 1) o' ft fi (by simpa using hi) hf)
      refine ⟨xs :: parts, by simp [k1], ?_, ?_⟩
      · have : cs.drop o = (cs.drop o).take ti.sz ++ cs.drop (o + ti.sz) := by
          rw [← List.drop_drop, List.take_append_drop]
        rw [this, List.flatten_cons]
        exact h2.append k2
      · intro i o' ft p hi hp
        cases i with
        | zero => simp at hi hp; obtain ⟨rfl, rfl⟩ := hi; subst hp; exact h1
        | succ i => exact k3 i o' ft p (by simpa using hi) (by simpa using hp)
theorem open_data {H : Type} {enc : TypeId × Value → H} {P : Program} {l : List (TypeId × TI)} (hT : TabOk P (lookT l)) (hW : tabWhole l = true) {w : World} :
    ∀ (fuel : Nat) (t : TypeId) (ti : TI) (cs : List Value) (d : DataW H) (ps : List MemPlace), lookT l t = some ti → ti.k ≠ .other → (∀ n e, ti.k ≠ .arr n e) → (∀ t' ti', lookT l t' = some ti' → (∀ e, ti'.k = .slice e → ∀ ei, lookT l e = some ei → ei.k ≠ .other ∧ ∀ n e', ei.k ≠ .arr n e') ∧ (∀ fs, ti'.k = .struct fs → ∀ o ft fi, (o, ft) ∈ fs → lookT l ft = some fi → fi.k ≠ .other ∧ ∀ n e', fi.k ≠ .arr n e')) →
      DataW.trod enc P w 0 (fun _ => true) true fuel t cs = some (d, ps) → (∀ x ∈ d.weights P t, x ≤ reachBytes) →
      ∃ xs, TyV (lookT l) t xs ∧ All2 (g0 w) w xs cs := by
  intro fuel
  induction fuel with
  | zero => intro t ti cs d ps _ _ _ _ h; simp [DataW.trod] at h
  | succ fuel ih =>
    intro t ti cs d ps ht hno hna hall h hwt
    have hTI := hT t ti ht
    have hwh := List.all_eq_true.1 hW _ (lookT_mem ht)
    cases hk : ti.k with
    | other => exact absurd hk hno
    | arr n e => exact absurd hk (hna n e)
    | int k =>
      have hu := hTI.kind
      rw [hk] at hu
      have hu : P.underlying t = some (.int k) := hu
      obtain ⟨n, rfl, _, hwf⟩ := DataW.trod_int hu h
      simp only [Lit.wf, Bool.and_eq_true, decide_eq_true_eq] at hwf
      exact ⟨[.int k n], .int t k n ti ht hk hwf, .int _ _ _, trivial⟩
    | bool =>
      have hu := hTI.kind
      rw [hk] at hu
      have hu : P.underlying t = some .bool := hu
      obtain ⟨b, rfl, _⟩ := DataW.trod_bool hu h
      exact ⟨[.bool b], .bool t b ti ht hk, .bool _ _, trivial⟩
    | str =>
      have hu := hTI.kind
      rw [hk] at hu
      have hu : P.underlying t = some .string := hu
      obtain ⟨s, rfl, he, _⟩ := DataW.trod_string hu h
      simp only [Prod.mk.injEq] at he
      obtain ⟨rfl, rfl⟩ := he
      exact ⟨[.str s.data.toList], .str t _ ti ht hk (hwt _ (by simp [DataW.weights])), .str _ s.data.toList, trivial⟩
    | slice e =>
      have hu := hTI.kind
      rw [hk] at hu
      have hu : P.underlying t = some (.slice e) := hu
      rw [hk] at hwh
      simp only at hwh
      cases hei : lookT l e with
      | none => rw [hei] at hwh; simp at hwh
      | some ei =>
        rw [hei] at hwh
        simp only [Bool.and_eq_true, Bool.or_eq_true, beq_iff_eq, decide_eq_true_eq] at hwh
        have hEI := hT e ei hei
        have hco := hEI.cellsOf
        have hbo := hEI.bytesOf
        obtain ⟨hno', hna'⟩ := (hall t ti ht).1 e hk ei hei
        rcases DataW.trod_slice hu h with ⟨rfl, _⟩ | ⟨a, len, cap, elems, rest, n, hfu, rfl, he, _, hlc, hcm, hln, hget0, _⟩
        · exact ⟨[.row .bo ei.sz []], .slice t e [] ti ei ht hk hei (by simp) (fun x hx => by simp at hx) (fun x hx => by simp at hx), .emp _ _ _ _ _ (by simp), trivial⟩
        · obtain rfl : fuel = n := by omega
          simp only [Prod.mk.injEq] at he
          obtain ⟨rfl, _⟩ := he
          have hget : ∀ (i x : Nat), (List.range len)[i]? = some x → ∃ y, (w.cells? 0 (a.add (x * P.cellsOf e)) (P.cellsOf e)).bind (DataW.trod enc P w 0 (fun _ => true) true fuel e) = some y ∧ elems[i]? = some y := by
            intro i x hx
            have hi := lt_of_get hx
            simp only [List.length_range] at hi
            rw [List.getElem?_range hi] at hx
            obtain rfl := Option.some.inj hx
            have hg := hget0 i hi
            have hi2 : i < elems.length := by omega
            rw [List.getElem?_eq_getElem hi2] at hg
            exact ⟨_, hg, List.getElem?_eq_getElem hi2⟩
          simp only [DataW.weights, hu, List.length_map] at hwt
          have hw0 := hwt ((elems.length + rest.length) * P.bytesOf e) (by simp)
          have hwe : ∀ p ∈ elems, ∀ x ∈ p.1.weights P e, x ≤ reachBytes := fun p hp x hx => hwt x (by
            simp only [List.mem_cons, List.mem_append]
            exact .inr (.inl (weightsAll_mem (List.mem_map.2 ⟨p, hp, rfl⟩) x hx)))
          have hex : ∀ i, ∃ xs : List AV, i < len → ∃ us : List Value, TyV (lookT l) e xs ∧ All2 (g0 w) w xs us ∧ us.length = ei.sz ∧ ∀ j, j < ei.sz → w.cell? ((a.add (i * ei.sz)).add j) = us[j]? := by
            intro i
            by_cases hi : i < len
            · obtain ⟨y, hy, hy2⟩ := hget i i (by rw [List.getElem?_range hi])
              rw [hco] at hy
              cases hcs : w.cells? 0 (a.add (i * ei.sz)) ei.sz with
              | none => rw [hcs] at hy; simp at hy
              | some us =>
                rw [hcs] at hy
                simp only [Option.bind_some] at hy
                obtain ⟨_, c2, c3⟩ := World.cells?_some hcs
                obtain ⟨xs, k1, k2⟩ := ih e ei us y.1 y.2 hei hno' hna' hall hy (hwe y (List.mem_of_getElem? hy2))
                exact ⟨xs, fun _ => ⟨us, k1, k2, c2, c3⟩⟩
            · exact ⟨[], fun h => absurd h hi⟩
          obtain ⟨F, hF⟩ := Classical.axiomOfChoice hex
          have hmk : ∀ i, i < len → (mkE ei.k (F i)).cells = F i := by
            intro i hi
            obtain ⟨us, k1, k2, k3, k4⟩ := hF i hi
            obtain ⟨q1, q2⟩ := k2.get
            refine mkE_cells (sz := ei.sz) (by omega) (hwh.1) ?_
            intro c hc
            obtain ⟨j, hj⟩ := List.mem_iff_getElem?.1 hc
            have hjl := lt_of_get hj
            obtain ⟨u, hu'⟩ : ∃ u, us[j]? = some u := ⟨us[j], List.getElem?_eq_getElem (by omega)⟩
            exact (q2 j c u hj hu').cells1
          refine ⟨[.row .bo ei.sz ((List.range len).map fun i => mkE ei.k (F i))], ?_, ?_, trivial⟩
          · refine .slice t e _ ti ei ht hk hei ?_ ?_ ?_
            · rw [hbo, hln] at hw0
              simp only [List.length_map, List.length_range]
              exact Nat.le_trans (Nat.mul_le_mul_right _ (Nat.le_add_right _ _)) hw0
            · intro x hx
              obtain ⟨i, hi, rfl⟩ := List.mem_map.1 hx
              exact ⟨F i, rfl, hmk i (List.mem_range.1 hi)⟩
            · intro x hx
              obtain ⟨i, hi, rfl⟩ := List.mem_map.1 hx
              rw [hmk i (List.mem_range.1 hi)]
              obtain ⟨us, k1, _⟩ := hF i (List.mem_range.1 hi)
              exact k1
          · by_cases h0 : len = 0
            · subst h0; simp only [List.range_zero, List.map_nil]; exact .emp _ _ _ _ _ (by simp)
            · have hpos : 0 < len := by omega
              obtain ⟨us0, _, _, c3, c4⟩ := hF 0 hpos
              have hc0 := c4 0 hwh.2
              simp only [Nat.zero_mul] at hc0
              rw [Addr.add_zero', Addr.add_zero', List.getElem?_eq_getElem (by omega)] at hc0
              have hsp : a.spot = none := by
                unfold World.cell? at hc0
                split at hc0
                · split at hc0
                  · simp at hc0
                  · rename_i hs; cases h : a.spot <;> simp_all
                · simp at hc0
              have hblk : a.block < w.heap.size := by
                unfold World.cell? at hc0
                rcases Nat.lt_or_ge a.block w.heap.size with h' | h'
                · exact h'
                · simp [Array.getElem?_eq_none h'] at hc0
              have hlen2 : ((List.range len).map fun i => mkE ei.k (F i)).length = len := by simp
              have key : Cell (g0 w) w .bo (.row .bo ei.sz ((List.range len).map fun i => mkE ei.k (F i))) (.slice (some a) ((List.range len).map fun i => mkE ei.k (F i)).length cap) := by
                have hgi : ∀ (i : Nat) (x : AV), ((List.range len).map fun i => mkE ei.k (F i))[i]? = some x → i < len ∧ x = mkE ei.k (F i) := by
                  intro i x hx
                  have hi := lt_of_get hx
                  rw [hlen2] at hi
                  rw [List.getElem?_map, List.getElem?_range hi] at hx
                  exact ⟨hi, (Option.some.inj hx).symm⟩
                have hcell : ∀ (i k : Nat) (x y : AV), ((List.range len).map fun i => mkE ei.k (F i))[i]? = some x → x.cells[k]? = some y → ∃ u, w.cell? (a.add (i * ei.sz + k)) = some u ∧ Cell (g0 w) w .bo y u := by
                  intro i k x y hx hy
                  obtain ⟨hi, rfl⟩ := hgi i x hx
                  rw [hmk i hi] at hy
                  obtain ⟨us, k1, k2, k3, k4⟩ := hF i hi
                  obtain ⟨q1, q2⟩ := k2.get
                  have hkl : k < ei.sz := by have := lt_of_get hy; omega
                  have hc := k4 k hkl
                  rw [List.getElem?_eq_getElem (by omega), add_add _ hsp] at hc
                  exact ⟨_, hc, q2 k y _ hy (List.getElem?_eq_getElem (by omega))⟩
                refine .rd _ _ _ _ _ _ (fun j => (w.cell? (a.add j)).getD undef) (by simp) (.inr hblk) hsp (by rw [hlen2]; exact hlc) ?_ ?_ ?_
                · intro i x hx
                  obtain ⟨hi, rfl⟩ := hgi i x hx
                  obtain ⟨us, k1, k2, k3, k4⟩ := hF i hi
                  have := k2.get.1
                  show (mkE ei.k (F i)).cells.length = ei.sz
                  rw [hmk i hi]; omega
                · intro i k x y hx hy
                  obtain ⟨u, h1, h2⟩ := hcell i k x y hx hy
                  rw [h1]; rfl
                · intro i k x y hx hy
                  obtain ⟨u, h1, h2⟩ := hcell i k x y hx hy
                  simp only [h1, Option.getD_some]
                  exact h2
              rw [hlen2] at key
              exact key
    | struct fs =>
      have hu := hTI.kind
      rw [hk] at hu
      obtain ⟨fields, hu, hfs⟩ := hu
      rw [hk] at hwh
      simp only at hwh
      have hco := hTI.cellsOf
      obtain ⟨xs, n, hfu, he, hlen, hxl, hget0⟩ := DataW.trod_struct hu h
      obtain rfl : fuel = n := by omega
      rw [hco] at hlen
      simp only [Prod.mk.injEq] at he
      obtain ⟨rfl, _⟩ := he
      have hget : ∀ (i : Nat) (f : Field), fields.toList[i]? = some f → ∃ y, DataW.trod enc P w 0 (fun _ => true) true fuel f.type ((cs.drop f.offset).take (P.cellsOf f.type)) = some y ∧ xs[i]? = some y := by
        intro i f hf
        have hg := hget0 i f (by simpa using hf)
        have hi : i < fields.toList.length := lt_of_get hf
        have hi2 : i < xs.length := by rw [hxl]; simpa using hi
        rw [List.getElem?_eq_getElem hi2] at hg
        exact ⟨_, hg, List.getElem?_eq_getElem hi2⟩
      simp only [DataW.weights, hu] at hwt
      obtain ⟨parts, k1, k2, k3⟩ := open_struct (T := lookT l) (g := g0 w) (w := w) (cs := cs) fs 0 ti.sz hwh hlen (by
        intro i o ft fi hi hfi
        rw [← hfs, List.getElem?_map] at hi
        cases hfd : fields.toList[i]? with
        | none => simp [hfd] at hi
        | some fd =>
          rw [hfd] at hi
          simp only [Option.map_some, Option.some.injEq, Prod.mk.injEq] at hi
          obtain ⟨rfl, rfl⟩ := hi
          obtain ⟨y, hy, hy2⟩ := hget i fd hfd
          rw [(hT fd.type fi hfi).cellsOf] at hy
          have hmem : (fd.offset, fd.type) ∈ fs := by rw [← hfs]; exact List.mem_map.2 ⟨fd, List.mem_of_getElem? hfd, rfl⟩
          obtain ⟨hno', hna'⟩ := (hall t ti ht).2 fs hk fd.offset fd.type fi hmem hfi
          exact ih fd.type fi _ y.1 y.2 hfi hno' hna' hall hy (fun x hx => hwt x (weightsEach_get (i := i) (by rw [List.getElem?_map, hfd]; rfl) (by rw [List.getElem?_map, hy2]; rfl) x hx)))
      exact ⟨parts.flatten, .struct t fs parts ti ht hk k1 k3, by simpa using k2⟩
end Go.Proofs.YtiilnlihimdnlaaGreatDoorFw
/- From a contract to a row. -/
namespace Go.Proofs.YtiilnlihimdnlaaGreatDoorFw
open Go Go.RowKit
set_option linter.unusedVariables false
def tabData (l : List (TypeId × TI)) : Bool :=
  let ok (t : TypeId) : Bool := match lookT l t with | some ti => (match ti.k with | .other => false | .arr _ _ => false | _ => true) | none => true
  l.all fun p =>
    match p.2.k with
    | .slice e => ok e
    | .struct fs => fs.all fun f => ok f.2
    | _ => true
theorem tabData_ok {l : List (TypeId × TI)} (h : tabData l = true) : ∀ t' ti', lookT l t' = some ti' → (∀ e, ti'.k = .slice e → ∀ ei, lookT l e = some ei → ei.k ≠ .other ∧ ∀ n e', ei.k ≠ .arr n e') ∧ (∀ fs, ti'.k = .struct fs → ∀ o ft fi, (o, ft) ∈ fs → lookT l ft = some fi → fi.k ≠ .other ∧ ∀ n e', fi.k ≠ .arr n e') := by
  intro t ti ht
  have h1 := List.all_eq_true.1 h _ (lookT_mem ht)
  refine ⟨?_, ?_⟩
  · intro e hk ei hei
    simp only [hk, hei] at h1
    refine ⟨fun hc => by rw [hc] at h1; simp at h1, fun n e' hc => by rw [hc] at h1; simp at h1⟩
  · intro fs hk o ft fi hm hfi
    simp only [hk] at h1
    have h2 := List.all_eq_true.1 h1 _ hm
    simp only [hfi] at h2
    refine ⟨fun hc => by rw [hc] at h2; simp at h2, fun n e' hc => by rw [hc] at h2; simp at h2⟩
theorem arg_plain {H : Type} {enc : TypeId × Value → H} {P : Program} {l : List (TypeId × TI)} (hT : TabOk P (lookT l)) (hW : tabWhole l = true) (hD : tabData l = true) {w : World} {t : TypeId} {ti : TI} {v : Value} {d : DataW H} {ps : List MemPlace}
    (ht : lookT l t = some ti) (hk : isAggK ti.k = false) (hno : ti.k ≠ .other) (hv1 : v.cells = #[v]) (h : DataW.Trod enc P w 0 (fun _ => true) true t v d ps) (hwt : ∀ x ∈ d.weights P t, x ≤ reachBytes) :
    ∃ x, TyV (lookT l) t [x] ∧ Val (g0 w) w x v := by
  obtain ⟨fuel, hf⟩ := h
  obtain ⟨xs, h1, h2⟩ := open_data hT hW fuel t ti _ d ps ht hno (fun n e hc => by rw [hc] at hk; simp [isAggK] at hk) (tabData_ok hD) hf hwt
  rw [hv1] at h2
  match xs, h2 with
  | [x], h2 => exact ⟨x, h1, .cell _ _ h2.1⟩
def LbIn (W : World) : Prop := (∀ b c, lbTab b = some c → ∃ e, W.heap[b]? = some (.cells c e (0, 0))) ∧ ∀ b, lbErr b = true → ∃ t p e, W.heap[b]? = some (.cells #[.iface t p] e (0, 0))
theorem LbIn.lt' {W : World} (h : LbIn W) {b : Nat} (hb : lbErr b = true) : b < W.heap.size := by
  obtain ⟨t, p, e, hh⟩ := h.2 b hb
  rcases Nat.lt_or_ge b W.heap.size with h' | h'
  · exact h'
  · simp [Array.getElem?_eq_none h'] at hh
theorem LbIn.lt {W : World} (h : LbIn W) {b : Nat} {c : Array Value} (hb : lbTab b = some c) : b < W.heap.size := by
  obtain ⟨e, hh⟩ := h.1 b c hb
  rcases Nat.lt_or_ge b W.heap.size with h' | h'
  · exact h'
  · simp [Array.getElem?_eq_none h'] at hh
theorem FnA.row {P : Program} {f : FuncId} {xs : List AV} (h : FnA P f false xs [] (fun r os ros => r = .bool true ∧ os = [] ∧ ros = [])) {vs : Array Value} {W : World} (hl : vs.size = xs.length)
    (hv : ∀ (k : Nat) (x : AV) (u : Value), xs[k]? = some x → vs[k]? = some u → Val (g0 W) W x u) (hT : LbIn W := by exact ⟨by intro b c h; simp [lbTab] at h, by intro b h; simp [lbErr] at h⟩) : Calls P f vs W fun e W' => e = .returned (.bool true) ∧ Below W.heap.size W W' := by
  refine (h.calls vs W (g0 W) rfl hl hv (fun b p hb => by simp [g0] at hb) ⟨fun b hb => by
    rcases hb with hb | hb
    · exact hb.2
    · exact hb, fun b c hb => ⟨⟨.inl (by rw [hb]; rfl), hT.lt hb⟩, hT.1 b c hb⟩, fun b hb => ⟨⟨.inr hb, hT.lt' hb⟩, hT.2 b hb⟩⟩ (fun i sz es hi => by simp at hi)).mono ?_
  rintro e W' ⟨v, r, os', ros, g', rfl, ⟨rfl, _, _⟩, hk, _, _, _, _, _, _, _, hval⟩
  obtain rfl := hval.bool_inv
  exact ⟨rfl, hk.os, hk.tape, hk.output, hk.size, fun k hk' => (hk.old k hk' rfl).1⟩
theorem TyV.str_inv {T : Tab} {t : TypeId} {xs : List AV} {ti : TI} (h : TyV T t xs) (ht : T t = some ti) (hk : ti.k = .str) : ∃ s : List UInt8, xs = [.str s] ∧ s.length ≤ reachBytes := by
  cases h with
  | str _ s ti' h1 h2 h3 => exact ⟨s, rfl, h3⟩
  | int _ k n ti' h1 h2 => rw [h1] at ht; obtain rfl := Option.some.inj ht; rw [h2] at hk; simp at hk
  | bool _ b ti' h1 h2 => rw [h1] at ht; obtain rfl := Option.some.inj ht; rw [h2] at hk; simp at hk
  | slice _ e es ti' ei h1 h2 => rw [h1] at ht; obtain rfl := Option.some.inj ht; rw [h2] at hk; simp at hk
  | struct _ fs parts ti' h1 h2 => rw [h1] at ht; obtain rfl := Option.some.inj ht; rw [h2] at hk; simp at hk
theorem TyV.int_inv {T : Tab} {t : TypeId} {xs : List AV} {ti : TI} {k : IntKind} (h : TyV T t xs) (ht : T t = some ti) (hk : ti.k = .int k) : ∃ n : Int, xs = [.int k n] ∧ inB k n := by
  cases h with
  | str _ s ti' h1 h2 h3 => rw [h1] at ht; obtain rfl := Option.some.inj ht; rw [h2] at hk; simp at hk
  | int _ k' n ti' h1 h2 h3 => rw [h1] at ht; obtain rfl := Option.some.inj ht; rw [h2] at hk; simp only [TK.int.injEq] at hk; subst hk; exact ⟨n, rfl, h3⟩
  | bool _ b ti' h1 h2 => rw [h1] at ht; obtain rfl := Option.some.inj ht; rw [h2] at hk; simp at hk
  | slice _ e es ti' ei h1 h2 => rw [h1] at ht; obtain rfl := Option.some.inj ht; rw [h2] at hk; simp at hk
  | struct _ fs parts ti' h1 h2 => rw [h1] at ht; obtain rfl := Option.some.inj ht; rw [h2] at hk; simp at hk
theorem TyV.bool_inv {T : Tab} {t : TypeId} {xs : List AV} {ti : TI} (h : TyV T t xs) (ht : T t = some ti) (hk : ti.k = .bool) : ∃ b : Bool, xs = [.bool b] := by
  cases h with
  | str _ s ti' h1 h2 h3 => rw [h1] at ht; obtain rfl := Option.some.inj ht; rw [h2] at hk; simp at hk
  | int _ k' n ti' h1 h2 h3 => rw [h1] at ht; obtain rfl := Option.some.inj ht; rw [h2] at hk; simp at hk
  | bool _ b ti' h1 h2 => exact ⟨b, rfl⟩
  | slice _ e es ti' ei h1 h2 => rw [h1] at ht; obtain rfl := Option.some.inj ht; rw [h2] at hk; simp at hk
  | struct _ fs parts ti' h1 h2 => rw [h1] at ht; obtain rfl := Option.some.inj ht; rw [h2] at hk; simp at hk
end Go.Proofs.YtiilnlihimdnlaaGreatDoorFw
/- Calls that take what they are given: objects that are handed over for good. -/
namespace Go.Proofs.YtiilnlihimdnlaaGreatDoorFw
open Go Go.RowKit
set_option linter.unusedVariables false
set_option linter.unusedSimpArgs false
def CallsG (P : Program) (f : FuncId) (st : Bool) (xs : List AV) (os gs : List (Nat × List AV)) (R : AV → List (Nat × List AV) → List (Nat × List AV) → Prop) : Prop :=
  ∀ (vs : Array Value) (w : World) (g : Gh), g.st = st → vs.size = xs.length → (∀ (k : Nat) (x : AV) (u : Value), xs[k]? = some x → vs[k]? = some u → Val g w x u) →
    (∀ b p, g.own b = some p → ¬ g.perm b ∧ ¬ g.bor b ∧ b < w.heap.size) → RdOk g w →
    (∀ i sz es, os[i]? = some (sz, es) → ∃ v, Cell g w (.at i []) (.row .own sz es) v) →
    (∀ i sz es, gs[i]? = some (sz, es) → ∃ v, Cell g w (.at (50 + i) []) (.row .own sz es) v) →
    Calls P f vs w fun e w' => ∃ v r os' ros g', e = .returned v ∧ R r os' ros ∧ Keep g w g' w' ∧ os'.length = os.length ∧ ros.length ≤ 64 ∧
      (∀ b p, g'.own b = some p → ¬ g'.perm b ∧ ¬ g'.bor b ∧ b < w'.heap.size) ∧ RdOk g' w' ∧
      (∀ i sz es, os'[i]? = some (sz, es) → noBoL es = true ∧ ∃ v, Cell g' w' (.at i []) (.row .own sz es) v) ∧
      (∀ i sz es, ros[i]? = some (sz, es) → noBoL es = true ∧ ∃ v, Cell g' w' (.at (100 + i) []) (.row .own sz es) v) ∧
      cleanR os.length ros.length r = true ∧ Val g' w' r v
def padL (ps pg : List Nat) : List Nat := ps ++ (List.range' 1000000000 (50 - ps.length) ++ pg)
theorem posL_app : ∀ (l m : List Nat) (id : Nat), posL (l ++ m) id = match posL l id with | some i => some i | none => (posL m id).map (· + l.length)
  | [], m, id => by simp only [List.nil_append, posL, List.length_nil, Nat.add_zero]; cases posL m id <;> rfl
  | x :: r, m, id => by
    simp only [List.cons_append, posL]
    by_cases h : x = id
    · rw [if_pos h, if_pos h]
    · rw [if_neg h, if_neg h, posL_app r m id]
      cases posL r id with
      | some i => rfl
      | none => cases posL m id <;> simp [Nat.add_assoc]
theorem posL_range : ∀ (n a id : Nat), id < a → posL (List.range' a n) id = none
  | 0, a, id, h => rfl
  | n + 1, a, id, h => by
    simp only [List.range'_succ, posL]
    rw [if_neg (by omega), posL_range n (a + 1) id (by omega)]; rfl
theorem posL_padL {ps pg : List Nat} {id : Nat} (h : id < 1000000000) (hl : ps.length ≤ 50) : posL (padL ps pg) id = match posL ps id with | some i => some i | none => (posL pg id).map (· + 50) := by
  unfold padL
  rw [posL_app, posL_app, posL_range _ _ _ h]
  cases hp : posL ps id with
  | some i => rfl
  | none =>
    simp only [List.length_range']
    cases posL pg id with
    | none => rfl
    | some j => simp only [Option.map_some, Option.some.injEq]; omega
def dropL : List Obj → List Nat → List Obj
  | objs, [] => objs
  | objs, i :: r => dropO (dropL objs r) i
def backFG (st : Bool) (ps pg : List Nat) (rid m : Nat) : Nat → Path → Option (Nat × Path) := fun id q =>
  match posL pg id with
  | some _ => none
  | none => backF st ps rid m id q
def St.backG (s : St) (st : Bool) (ps pg : List Nat) (os ros : List (Nat × List AV)) (d : Option Nat) (r : AV) (rid : Nat) : St :=
  ({ s with slots := mapS (backFG st ps pg rid ros.length) s.slots, objs := setRL (setOL (dropL s.objs pg) ps os) rid ros } : St).put d (mapRef (backR ps rid) r)
structure FnG (P : Program) (f : FuncId) (st : Bool) (xs : List AV) (os gs : List (Nat × List AV)) (R : AV → List (Nat × List AV) → List (Nat × List AV) → Prop) : Prop where
  ok : FnOk P f
  calls : CallsG P f st xs os gs R
theorem FnG.mono {P : Program} {f : FuncId} {st : Bool} {xs : List AV} {os gs : List (Nat × List AV)} {R R' : AV → List (Nat × List AV) → List (Nat × List AV) → Prop} (h : FnG P f st xs os gs R) (hr : ∀ r os' ros, R r os' ros → R' r os' ros) : FnG P f st xs os gs R' :=
  ⟨h.ok, fun vs w g h0 h1 h2 h3 h4 h5 h6 => (h.calls vs w g h0 h1 h2 h3 h4 h5 h6).mono fun e w' ⟨v, r, os', ros, g', k1, k2, k3⟩ => ⟨v, r, os', ros, g', k1, hr _ _ _ k2, k3⟩⟩
theorem lookO_app : ∀ (l m : List Obj) (id : Nat), lookO (l ++ m) id = match lookO l id with | some p => some p | none => lookO m id
  | [], m, id => rfl
  | o :: r, m, id => by
    simp only [List.cons_append, lookO]
    by_cases h : o.id = id
    · rw [if_pos h, if_pos h]
    · rw [if_neg h, if_neg h, lookO_app r m id]
attribute [go_sem] posL_padL backFG St.backG dropL lookO_app
end Go.Proofs.YtiilnlihimdnlaaGreatDoorFw
/- Structs of numbers, told apart. -/
namespace Go.Proofs.YtiilnlihimdnlaaGreatDoorFw
open Go Go.RowKit
set_option linter.unusedVariables false
set_option linter.unusedSimpArgs false
end Go.Proofs.YtiilnlihimdnlaaGreatDoorFw
/- Slots that are no longer looked at. -/
namespace Go.Proofs.YtiilnlihimdnlaaGreatDoorFw
open Go Go.RowKit
set_option linter.unusedVariables false
def pruneS (m : Nat) (ex : List Nat) : List (Nat × AV) → List (Nat × AV)
  | [] => []
  | (t, x) :: r => if t < m then (t, x) :: pruneS m ex r else if ex.contains t = true then (t, x) :: pruneS m ex r else pruneS m ex r
theorem lookS_pruneS (m : Nat) (ex : List Nat) : ∀ (l : List (Nat × AV)) (t : Nat) (x : AV), lookS (pruneS m ex l) t = some x → lookS l t = some x
  | [], t, x, h => by simp [pruneS, lookS] at h
  | (u, y) :: r, t, x, h => by
    have ih := lookS_pruneS m ex r t x
    have key : ∀ (k : Nat → Bool), True := fun _ => trivial
    simp only [pruneS] at h
    by_cases h1 : u < m
    · rw [if_pos h1] at h
      simp only [lookS] at h ⊢
      by_cases e : u = t
      · rw [if_pos e] at h ⊢; exact h
      · rw [if_neg e] at h ⊢; exact ih h
    · rw [if_neg h1] at h
      by_cases h2 : ex.contains u = true
      · rw [if_pos h2] at h
        simp only [lookS] at h ⊢
        by_cases e : u = t
        · rw [if_pos e] at h ⊢; exact h
        · rw [if_neg e] at h ⊢; exact ih h
      · rw [if_neg h2] at h
        simp only [lookS]
        by_cases e : u = t
        · -- not kept: nothing of this number is
          exfalso
          subst e
          have hn : ∀ (l : List (Nat × AV)), lookS (pruneS m ex l) u = none := by
            intro l
            induction l with
            | nil => rfl
            | cons p r ih2 =>
              obtain ⟨v, z⟩ := p
              simp only [pruneS]
              by_cases e2 : v = u
              · subst e2; rw [if_neg h1, if_neg h2]; exact ih2
              · split
                · simp only [lookS, if_neg e2]; exact ih2
                · split
                  · simp only [lookS, if_neg e2]; exact ih2
                  · exact ih2
          rw [hn] at h; simp at h
        · rw [if_neg e]; exact ih h
theorem GhostStep.keep (s : St) (m : Nat) (ex : List Nat) : GhostStep s { s with slots := pruneS m ex s.slots } := fun a w g hs =>
  ⟨g, ⟨hs.nt, hs.defers, fun t x hx => hs.slot t x (lookS_pruneS m ex _ _ _ hx), hs.h, hs.st⟩, Keep.refl g w⟩
theorem RunsA.rk {P : Program} {T : Tab} (m : Nat) (ex : List Nat) (hT : TabOk P T) {id : Nat} {all : Array Oper} {s : St} {Q : AE → St → Prop}
    (h : ∀ J : List Oper → St → Prop, (∀ os' s', RunsL P all os' s' (fun s2 => At .normal s2 Q) → J os' s') → goA T all all.toList { s with slots := pruneS m ex s.slots } J) : RunsA P (.region id all false) s Q :=
  RunsA.ghost (GhostStep.keep s m ex) (RunsA.rq hT h)
attribute [go_sem] pruneS List.contains_nil
end Go.Proofs.YtiilnlihimdnlaaGreatDoorFw
/- Regions whose order is drawn: quiet operations, and behind them all some in their order. -/
namespace Go.Proofs.YtiilnlihimdnlaaGreatDoorFw
open Go Go.RowKit
set_option linter.unusedVariables false
def predsOf (all : Array Oper) (i : Nat) : List Nat :=
  match all[i]? with
  | none => []
  | some o => (o.after.toList.filter fun e => Region.binds .any e).map (·.on)
def reachOf (all : Array Oper) : Nat → List Nat → List Nat
  | 0, l => l
  | k + 1, l => l ++ reachOf all k (l.flatMap (predsOf all))
def tailOk (n1 : Nat) (all : Array Oper) : Bool :=
  decide (n1 < all.size) && ((List.range n1).all fun j => (reachOf all n1 (predsOf all n1)).contains j) &&
  ((List.range' (n1 + 1) (all.size - (n1 + 1))).all fun i => (predsOf all i).contains (i - 1))
def Down (all : Array Oper) (listed : Array Bool) : Prop := ∀ i, listed.getD i false = true → ∀ j ∈ predsOf all i, listed.getD j false = true
theorem Down.reach {all : Array Oper} {listed : Array Bool} (h : Down all listed) : ∀ (k : Nat) (l : List Nat), (∀ i ∈ l, listed.getD i false = true) → ∀ i ∈ reachOf all k l, listed.getD i false = true
  | 0, l, hl, i, hi => hl i hi
  | k + 1, l, hl, i, hi => by
    simp only [reachOf, List.mem_append] at hi
    rcases hi with hi | hi
    · exact hl i hi
    · refine Down.reach h k _ ?_ i hi
      intro j hj
      obtain ⟨m, hm, hj⟩ := List.mem_flatMap.1 hj
      exact h m (hl m hm) j hj
theorem ready_spec {all : Array Oper} {listed : Array Bool} {i : Nat} (hi : i ∈ Region.ready .any all listed) : ∃ o, all[i]? = some o ∧ i < all.size ∧ listed.getD i true = false ∧ ∀ j ∈ predsOf all i, listed.getD j false = true := by
  simp only [Region.ready, List.mem_filter, List.mem_range, Bool.and_eq_true, Bool.not_eq_true'] at hi
  obtain ⟨h1, h2, h3⟩ := hi
  cases ho : all[i]? with
  | none => simp [ho] at h3
  | some o =>
    refine ⟨o, rfl, h1, h2, ?_⟩
    rw [ho] at h3
    simp only [Option.map_some, Option.getD_some] at h3
    rw [Array.all_eq_true'] at h3
    intro j hj
    simp only [predsOf, ho, List.mem_map, List.mem_filter, Array.mem_toList_iff] at hj
    obtain ⟨e, ⟨he, hb⟩, rfl⟩ := hj
    have := h3 e he
    simpa [hb] using this
theorem mem_ready {all : Array Oper} {listed : Array Bool} {m : Nat} (hm1 : m < all.size) (hm2 : listed.getD m true = false) (hp : ∀ j ∈ predsOf all m, listed.getD j false = true) : m ∈ Region.ready .any all listed := by
  simp only [Region.ready, List.mem_filter, List.mem_range, Bool.and_eq_true, Bool.not_eq_true']
  refine ⟨hm1, hm2, ?_⟩
  have ho : all[m]? = some all[m] := Array.getElem?_eq_getElem hm1
  rw [ho]
  simp only [Option.map_some, Option.getD_some]
  rw [Array.all_eq_true']
  intro e' he
  cases hb : Region.binds .any e' with
  | false => rfl
  | true =>
    simp only [Bool.not_true, Bool.false_or]
    refine hp _ ?_
    simp only [predsOf, ho, List.mem_map, List.mem_filter, Array.mem_toList_iff]
    exact ⟨e', ⟨he, hb⟩, rfl⟩
theorem Down.set {all : Array Oper} {listed : Array Bool} (h : Down all listed) {i : Nat} (hi : ∀ j ∈ predsOf all i, listed.getD j false = true) : Down all (listed.setIfInBounds i true) := by
  have mono : ∀ j, listed.getD j false = true → (listed.setIfInBounds i true).getD j false = true := by
    intro j hj
    by_cases e : j = i
    · subst e
      simp only [Array.getD_eq_getD_getElem?] at hj ⊢
      have : j < listed.size := by
        rcases Nat.lt_or_ge j listed.size with h' | h'
        · exact h'
        · simp [Array.getElem?_eq_none h'] at hj
      simp [this]
    · simp only [Array.getD_eq_getD_getElem?, Array.getElem?_setIfInBounds_ne (fun h => e h.symm)] at hj ⊢
      exact hj
  intro m hm j hj
  by_cases e : m = i
  · subst e; exact mono j (hi j hj)
  · refine mono j (h m ?_ j hj)
    simp only [Array.getD_eq_getD_getElem?, Array.getElem?_setIfInBounds_ne (fun h => e h.symm)] at hm ⊢
    exact hm
theorem draw_tail {P : Program} {all : Array Oper} {Q : Exit → Act → World → Prop} {n1 : Nat} (hok : drawOk all = true) (ht : tailOk n1 all = true) :
    ∀ (m k : Nat) (listed : Array Bool) (a : Act) (w : World), all.size = k + m → n1 ≤ k → listed.size = all.size → (∀ i, i < all.size → listed.getD i true = decide (i < k)) →
      wpOps P all Q (List.range' k m) a w → wpAny P .any all Q m listed a w := by
  intro m
  have hchain : ∀ i, n1 < i → i < all.size → i - 1 ∈ predsOf all i := by
    intro i h1 h2
    simp only [tailOk, Bool.and_eq_true] at ht
    have := (List.all_eq_true.1 ht.2) i (List.mem_range'.2 ⟨i - (n1 + 1), by omega, by omega⟩)
    exact List.contains_iff_mem.1 this
  have hgf : ∀ (listed : Array Bool) (k i : Nat), listed.size = all.size → (∀ i, i < all.size → listed.getD i true = decide (i < k)) → i < all.size → listed.getD i false = decide (i < k) := by
    intro listed k i hs hl hi
    have := hl i hi
    simp only [Array.getD_eq_getD_getElem?, Array.getElem?_eq_getElem (show i < listed.size by omega), Option.getD_some] at this ⊢
    exact this
  induction m with
  | zero =>
    intro k listed a w hsz hk hls hl h
    refine ⟨?_, h⟩
    rw [List.eq_nil_iff_forall_not_mem]
    intro i hi
    obtain ⟨o, h1, h2, h3, _⟩ := ready_spec hi
    rw [hl i h2] at h3
    simp only [decide_eq_false_iff_not] at h3
    omega
  | succ m ih =>
    intro k listed a w hsz hk hls hl h
    have hkr : k ∈ Region.ready .any all listed := by
      refine mem_ready (by omega) (by rw [hl k (by omega)]; simp) ?_
      intro j hj
      have ho : all[k]? = some all[k] := Array.getElem?_eq_getElem (by omega)
      simp only [predsOf, ho, List.mem_map, List.mem_filter, Array.mem_toList_iff] at hj
      obtain ⟨e, ⟨he, hb⟩, rfl⟩ := hj
      have := (drawOk_spec hok ho).1 e he hb
      rw [hgf listed k e.on hls hl (by omega)]
      simpa using this
    refine ⟨fun hnil => by rw [hnil] at hkr; simp at hkr, ?_⟩
    intro i hi
    obtain ⟨o, h1, h2, h3, h4⟩ := ready_spec hi
    rw [hl i h2] at h3
    simp only [decide_eq_false_iff_not] at h3
    have hik : i = k := by
      rcases Nat.lt_or_ge k i with h5 | h5
      · have h6 := h4 (i - 1) (hchain i (by omega) h2)
        rw [hgf listed k (i - 1) hls hl (by omega)] at h6
        simp only [decide_eq_true_eq] at h6
        omega
      · omega
    subst hik
    rw [List.range'_succ, wpOps_cons] at h
    have key : ∀ a' w', wpOps P all Q (List.range' (i + 1) m) a' w' → wpAny P .any all Q m (listed.setIfInBounds i true) a' w' := by
      intro a' w' h'
      refine ih (i + 1) _ a' w' (by omega) (by omega) (by simp [hls]) ?_ h'
      intro j hj
      by_cases e : j = i
      · subst e
        simp [Array.getD_eq_getD_getElem?, show j < listed.size by omega]
      · simp only [Array.getD_eq_getD_getElem?, Array.getElem?_setIfInBounds_ne (fun h => e h.symm)]
        have := hl j hj
        simp only [Array.getD_eq_getD_getElem?] at this
        rw [this]
        by_cases h8 : j < i
        · simp [h8]; omega
        · simp [h8]; omega
    unfold wpOp at h ⊢
    rw [h1] at h ⊢
    simp only at h ⊢
    split at h
    · rename_i hw
      rw [if_pos hw]
      rcases h with h | h
      · exact .inl (Oper.wp_mono key h)
      · exact .inr h
    · rename_i hw
      rw [if_neg hw]
      exact key _ _ h
structure UptoN (n1 : Nat) (all : Array Oper) (listed : Array Bool) (e s : St) : Prop where
  nt : s.nt = e.nt
  objs : s.objs = e.objs
  st : s.st = e.st
  look : ∀ t, (∀ (j : Nat) (o : Oper), j < n1 → all[j]? = some o → o.dst = some t → listed.getD j true = true) → lookS s.slots t = lookS e.slots t
theorem nOff_split {n1 m : Nat} {listed : Array Bool} (hsz : listed.size = n1 + m) (htl : ∀ i, n1 ≤ i → i < n1 + m → listed.getD i true = false) :
    nOff listed = (listed.toList.take n1).countP (! ·) + m := by
  unfold nOff
  have h1 : listed.toList = listed.toList.take n1 ++ listed.toList.drop n1 := (List.take_append_drop n1 _).symm
  rw [h1, List.countP_append]
  rw [← h1]
  congr 1
  have h2 : (listed.toList.drop n1).length = m := by simp [hsz]
  rw [← h2, List.countP_eq_length]
  intro b hb
  obtain ⟨i, hi⟩ := List.mem_iff_getElem?.1 hb
  rw [List.getElem?_drop, Array.getElem?_toList] at hi
  have hlt : n1 + i < listed.size := by
    rcases Nat.lt_or_ge (n1 + i) listed.size with h' | h'
    · exact h'
    · simp [Array.getElem?_eq_none h'] at hi
  have := htl (n1 + i) (by omega) (by omega)
  simp only [Array.getD_eq_getD_getElem?, hi, Option.getD_some] at this
  simp [this]
theorem take_all_listed {n1 : Nat} {listed : Array Bool} (h : (listed.toList.take n1).countP (! ·) = 0) {i : Nat} (hi : i < n1) (hs : i < listed.size) : listed.getD i true = true := by
  rw [List.countP_eq_zero] at h
  have hg : (listed.toList.take n1)[i]? = some listed[i] := by
    rw [List.getElem?_take, if_pos hi, Array.getElem?_toList, Array.getElem?_eq_getElem hs]
  have := h _ (List.mem_of_getElem? hg)
  simp only [Array.getD_eq_getD_getElem?, Array.getElem?_eq_getElem hs, Option.getD_some]
  simpa using this
attribute [go_sem] List.take_succ_cons List.take_zero List.drop_succ_cons List.drop_zero
end Go.Proofs.YtiilnlihimdnlaaGreatDoorFw
/- Regions whose order is drawn: quiet operations, one call that makes new objects, and behind them all some in their order. -/
namespace Go.Proofs.YtiilnlihimdnlaaGreatDoorFw
open Go Go.RowKit
set_option linter.unusedVariables false
theorem draw_anyG {P : Program} {all : Array Oper} {Q : Exit → Act → World → Prop} {w0 : World} {g0 : Gh} {n1 m : Nat} (hok : drawOk all = true) (htail : tailOk n1 all = true) (hsize : all.size = n1 + m) (Inv : Array Bool → St → Prop)
    (hend : ∀ listed s a w g, (∀ i, i < n1 → listed.getD i true = true) → Inv listed s → Sim s a w g → Keep g0 w0 g w → wpOps P all Q (List.range' n1 m) a w)
    (hstp : ∀ listed s i o, listed.size = all.size → all[i]? = some o → i < n1 → listed.getD i true = false → (∀ j ∈ predsOf all i, listed.getD j true = true) → Inv listed s → ∃ s', IStep P all o s s' ∧ Inv (listed.setIfInBounds i true) s') :
    ∀ (f1 : Nat) (listed : Array Bool) (s : St) (a : Act) (w : World) (g : Gh), listed.size = all.size → nOff listed = f1 + m → (∀ i, n1 ≤ i → i < n1 + m → listed.getD i true = false) → Down all listed →
      Sim s a w g → Keep g0 w0 g w → Inv listed s → wpAny P .any all Q (f1 + m) listed a w := by
  intro f1
  have hgg : ∀ (listed : Array Bool) (i : Nat), listed.size = all.size → i < all.size → listed.getD i false = listed.getD i true := by
    intro listed i hs hi
    simp only [Array.getD_eq_getD_getElem?, Array.getElem?_eq_getElem (show i < listed.size by omega), Option.getD_some]
  induction f1 with
  | zero =>
    intro listed s a w g hsz hn htl hdn hs hk hu
    rw [Nat.zero_add] at hn ⊢
    have hsp := nOff_split (by omega) htl
    have hz : (listed.toList.take n1).countP (! ·) = 0 := by omega
    have hall : ∀ i, i < n1 → listed.getD i true = true := fun i hi => take_all_listed hz hi (by omega)
    refine draw_tail hok htail m n1 listed a w hsize (Nat.le_refl _) hsz ?_ ?_
    · intro i hi
      by_cases h : i < n1
      · rw [hall i h]; simp [h]
      · rw [htl i (by omega) (by omega)]; simp [h]
    · exact hend listed s a w g hall hu hs hk
  | succ f1 ih =>
    intro listed s a w g hsz hn htl hdn hs hk hu
    have hsp := nOff_split (by omega) htl
    have hquiet : ∀ i, i ∈ Region.ready .any all listed → i < n1 := by
      intro i hi
      obtain ⟨o, h1, h2, h3, h4⟩ := ready_spec hi
      rcases Nat.lt_or_ge i n1 with h5 | h5
      · exact h5
      exfalso
      rcases Nat.lt_or_ge n1 i with h6 | h6
      · simp only [tailOk, Bool.and_eq_true] at htail
        have := (List.all_eq_true.1 htail.2) i (List.mem_range'.2 ⟨i - (n1 + 1), by omega, by omega⟩)
        have h7 := h4 _ (List.contains_iff_mem.1 this)
        rw [hgg listed (i - 1) hsz (by omega), htl (i - 1) (by omega) (by omega)] at h7
        simp at h7
      · have hi1 : i = n1 := by omega
        subst hi1
        simp only [tailOk, Bool.and_eq_true] at htail
        have hr := hdn.reach i _ h4
        have : (listed.toList.take i).countP (! ·) = 0 := by
          rw [List.countP_eq_zero]
          intro b hb
          obtain ⟨j, hj⟩ := List.mem_iff_getElem?.1 hb
          rw [List.getElem?_take] at hj
          split at hj
          · rename_i hji
            have h8 := (List.all_eq_true.1 htail.1.2) j (List.mem_range.2 hji)
            have h9 := hr j (List.contains_iff_mem.1 h8)
            rw [Array.getElem?_toList] at hj
            simp only [Array.getD_eq_getD_getElem?, hj, Option.getD_some] at h9
            simp [h9]
          · simp at hj
        omega
    rw [show f1 + 1 + m = (f1 + m) + 1 by omega]
    refine ⟨?_, ?_⟩
    · intro hnil
      exfalso
      have hex : ∃ i, i < all.size ∧ listed.getD i true = false := by
        by_cases h : ∃ i, i < all.size ∧ listed.getD i true = false
        · exact h
        · exfalso
          have : nOff listed = 0 := by
            unfold nOff
            rw [List.countP_eq_zero]
            intro b hb
            obtain ⟨i, hi⟩ := List.mem_iff_getElem?.1 hb
            simp only [Array.getElem?_toList] at hi
            have hlt : i < listed.size := by
              rcases Nat.lt_or_ge i listed.size with h' | h'
              · exact h'
              · simp [Array.getElem?_eq_none h'] at hi
            have h2 : listed.getD i true ≠ false := fun hc => h ⟨i, by omega, hc⟩
            simp only [Array.getD_eq_getD_getElem?, hi, Option.getD_some] at h2
            cases b <;> simp at h2 ⊢
          omega
      obtain ⟨i0, hi0⟩ := hex
      obtain ⟨m', ⟨hm1, hm2⟩, hm3⟩ := least (p := fun i => i < all.size ∧ listed.getD i true = false) hi0
      have hmem : m' ∈ Region.ready .any all listed := by
        refine mem_ready hm1 hm2 ?_
        intro j hj
        have ho : all[m']? = some all[m'] := Array.getElem?_eq_getElem hm1
        simp only [predsOf, ho, List.mem_map, List.mem_filter, Array.mem_toList_iff] at hj
        obtain ⟨e', ⟨he, hb⟩, rfl⟩ := hj
        have hlt := (drawOk_spec hok ho).1 e' he hb
        rw [hgg listed e'.on hsz (by omega)]
        cases hd : listed.getD e'.on true with
        | true => rfl
        | false => exact absurd ⟨by omega, hd⟩ (hm3 e'.on hlt)
      rw [hnil] at hmem
      simp at hmem
    · intro i hi
      have hin := hquiet i hi
      obtain ⟨o, ho, hlt, hoff, hpre⟩ := ready_spec hi
      have hpre' : ∀ j ∈ predsOf all i, listed.getD j true = true := by
        intro j hj
        have h9 := hpre j hj
        simp only [Array.getD_eq_getD_getElem?] at h9 ⊢
        cases hc : listed[j]? with
        | none => rfl
        | some b => rw [hc] at h9; exact h9
      obtain ⟨s', hq, hinv⟩ := hstp listed s i o hsz ho hin hoff hpre' hu
      have hstep := hq a w g hs (wpAny P .any all Q (f1 + m) (listed.setIfInBounds i true)) Q (fun a' w' g' hs' hk' => by
          refine ih (listed.setIfInBounds i true) s' a' w' g' (by simp [hsz]) (by have := nOff_set (by omega) hoff; omega) ?_ (hdn.set hpre) hs' (hk.trans hk') hinv
          intro j hj1 hj2
          simp only [Array.getD_eq_getD_getElem?, Array.getElem?_setIfInBounds_ne (show i ≠ j by omega)]
          have := htl j hj1 hj2
          simpa only [Array.getD_eq_getD_getElem?] using this)
      unfold wpOp
      simp only [ho]
      split at hstep
      · rename_i hw; rw [if_pos hw]; exact .inl hstep
      · rename_i hw; rw [if_neg hw]; exact hstep
def Ext (s s' : St) : Prop := ∀ id p, lookO s.objs id = some p → lookO s'.objs id = some p
theorem Ext.node {s s' : St} (h : Ext s s') {id : Nat} {q : Path} {p : Nat × List AV} (hn : s.node id q = some p) : s'.node id q = some p := by
  unfold St.node at hn ⊢
  split at hn
  · rename_i rsz res hl; rw [h _ _ hl]; exact hn
  · simp at hn
theorem vLoad_mono {T : Tab} {s s' : St} (he : Ext s s') {t : TypeId} {x y : AV} (h : vLoad T s t x = some y) : vLoad T s' t x = some y := by
  unfold vLoad at h ⊢
  cases hT : T t with
  | none => simp [hT] at h
  | some ti =>
    simp only [hT] at h ⊢
    cases x with
    | ptr id q sz i k =>
      simp only at h ⊢
      cases hN : s.node id q with
      | none => simp [hN] at h
      | some p => rw [he.node hN]; rw [hN] at h; exact h
    | _ => exact h
theorem vLen_mono {s s' : St} (he : Ext s s') {x y : AV} (h : vLen s x = some y) : vLen s' x = some y := by
  unfold vLen at h ⊢
  cases x with
  | hd id q =>
    simp only at h ⊢
    cases hN : s.node id q with
    | none => simp [hN] at h
    | some p => rw [he.node hN]; rw [hN] at h; exact h
  | _ => exact h
theorem vLenB_mono {T : Tab} {s s' : St} (he : Ext s s') {t : TypeId} {x y : AV} (h : vLenB T s t x = some y) : vLenB T s' t x = some y := by
  unfold vLenB at h ⊢
  cases x with
  | str l => exact h
  | _ =>
    simp only at h ⊢
    split at h
    · rename_i hc; rw [if_pos hc]; exact vLen_mono he h
    · simp at h
theorem vIndexAddr_mono {T : Tab} {s s' : St} (he : Ext s s') {t : TypeId} {x i : AV} {y : Prop × AV} (h : vIndexAddr T s t x i = some y) : vIndexAddr T s' t x i = some y := by
  unfold vIndexAddr at h ⊢
  cases i with
  | int k n =>
    simp only at h ⊢
    cases x with
    | hd id q =>
      simp only at h ⊢
      cases hT : elemOf' T t with
      | none => simp [hT] at h
      | some ei =>
        simp only [hT] at h ⊢
        cases hN : s.node id q with
        | none => simp [hN] at h
        | some p => rw [he.node hN]; rw [hN] at h; exact h
    | _ => exact h
  | _ => exact h
theorem vBytes_mono {T : Tab} {s s' : St} (he : Ext s s') {t u : TypeId} {x y : AV} (h : vBytes T s t u x = some y) : vBytes T s' t u x = some y := by
  unfold vBytes at h ⊢
  split at h
  · rename_i hc
    rw [if_pos hc]
    cases x with
    | hd id q =>
      simp only at h ⊢
      cases hN : s.node id q with
      | none => simp [hN] at h
      | some p => rw [he.node hN]; rw [hN] at h; exact h
    | _ => exact h
  · simp at h
theorem vSlice_mono {T : Tab} {s s' : St} (he : Ext s s') {t : TypeId} {x : AV} {lo hi : Option AV} {y : Prop × AV} (h : vSlice T s t x lo hi = some y) : vSlice T s' t x lo hi = some y := by
  unfold vSlice at h ⊢
  cases hl : bndA lo with
  | none => simp [hl] at h
  | some lo' =>
    cases hh : bndA hi with
    | none => simp [hl, hh] at h
    | some hi' =>
      simp only [hl, hh] at h ⊢
      cases x with
      | hd id q =>
        simp only at h ⊢
        cases hT : elemOf' T t with
        | none => simp [hT] at h
        | some ei =>
          simp only [hT] at h ⊢
          cases hN : s.node id q with
          | none => simp [hN] at h
          | some p => rw [he.node hN]; rw [hN] at h; exact h
      | _ => exact h
theorem qval_mono {T : Tab} {s s' : St} {o : Oper} (he : Ext s s') (h : ∀ x ∈ o.op.operands, s'.ev x = s.ev x) {r : Prop × AV} (hq : qval T s o = some r) : qval T s' o = some r := by
  have mp : ∀ {α β : Type} {f : α → β} {a b : Option α} {y : β}, (∀ z, a = some z → b = some z) → a.map f = some y → b.map f = some y := by
    intro α β f a b y hab hm
    cases ha : a with
    | none => rw [ha] at hm; simp at hm
    | some z => rw [hab z ha]; rw [ha] at hm; exact hm
  obtain ⟨dst, op, type, pos, after, guard⟩ := o
  cases op with
  | move x => simp only [qval, h x (by simp [Op.operands])] at hq ⊢; exact hq
  | load t x =>
    simp only [qval, h x (by simp [Op.operands])] at hq ⊢
    cases hx : s.ev x with
    | none => simp [hx] at hq
    | some x' => simp only [hx] at hq ⊢; exact mp (fun z hz => vLoad_mono he hz) hq
  | nilCheck x => simp only [qval, h x (by simp [Op.operands])] at hq ⊢; exact hq
  | binOp op t x y t2 => simp only [qval, h x (by simp [Op.operands]), h y (by simp [Op.operands])] at hq ⊢; exact hq
  | unOp op t x => simp only [qval, h x (by simp [Op.operands])] at hq ⊢; exact hq
  | slice t x lo hi mx =>
    cases mx with
    | some m => exact hq
    | none =>
      have h1 : evO s' lo = evO s lo := by cases lo with
        | none => rfl
        | some y => simp only [evO, h y (by simp [Op.operands])]
      have h2 : evO s' hi = evO s hi := by cases hi with
        | none => rfl
        | some y => simp only [evO, h y (by simp [Op.operands])]
      simp only [qval, h x (by simp [Op.operands]), h1, h2] at hq ⊢
      cases hx : s.ev x with
      | none => simp [hx] at hq
      | some x' =>
        cases hl : evO s lo with
        | none => simp [hx, hl] at hq
        | some lo' =>
          cases hh : evO s hi with
          | none => simp [hx, hl, hh] at hq
          | some hi' => simp only [hx, hl, hh] at hq ⊢; exact vSlice_mono he hq
  | fieldAddr t x f => simp only [qval, h x (by simp [Op.operands])] at hq ⊢; exact hq
  | field t x f => simp only [qval, h x (by simp [Op.operands])] at hq ⊢; exact hq
  | indexAddr t x i =>
    simp only [qval, h x (by simp [Op.operands]), h i (by simp [Op.operands])] at hq ⊢
    cases hx : s.ev x with
    | none => simp [hx] at hq
    | some x' =>
      cases hi : s.ev i with
      | none => simp [hx, hi] at hq
      | some i' => simp only [hx, hi] at hq ⊢; exact vIndexAddr_mono he hq
  | index t x i => simp only [qval, h x (by simp [Op.operands]), h i (by simp [Op.operands])] at hq ⊢; exact hq
  | extract x i => simp only [qval, h x (by simp [Op.operands])] at hq ⊢; exact hq
  | build t ps =>
    have : evL s' ps.toList = evL s ps.toList := evL_congr fun p hp => h p.2 (by simp only [Op.operands, List.mem_toArray, List.mem_map]; exact ⟨p, hp, rfl⟩)
    simp only [qval, vBuild, this] at hq ⊢; exact hq
  | pick c x y => simp only [qval, h c (by simp [Op.operands]), h x (by simp [Op.operands]), h y (by simp [Op.operands])] at hq ⊢; exact hq
  | convert t u x =>
    simp only [qval, h x (by simp [Op.operands])] at hq ⊢
    split at hq
    · cases hx : s.ev x with
      | none => simp [hx] at hq
      | some x' => simp only [hx] at hq ⊢; exact mp (fun z hz => vBytes_mono he hz) hq
    · exact hq
  | call c =>
    simp only [qval] at hq ⊢
    split at hq
    · rename_i hc
      split at hq
      · rename_i x t hx ht
        have : s'.ev x = s.ev x := h x (by
          simp only [Op.operands, Call.operands, hc]
          have : x ∈ c.args.toList := by rw [hx]; simp
          simpa using this)
        rw [this]
        cases hx' : s.ev x with
        | none => simp [hx'] at hq
        | some x' => simp only [hx'] at hq ⊢; exact mp (fun z hz => vLenB_mono he hz) hq
      · simp at hq
    · simp at hq
  | _ => exact hq
def QStepX (P : Program) (all : Array Oper) (o : Oper) (s : St) (y : AV) : Prop :=
  ∀ s' : St, s'.nt = s.nt → Ext s s' → s'.st = s.st → (∀ t ∈ o.looksAt all, lookS s'.slots t = lookS s.slots t) → IStep P all o s' (s'.put o.dst y)
def QRunsX (P : Program) (all : Array Oper) : List Oper → St → (St → Prop) → Prop
  | [], s, K => K s
  | o :: os, s, K => ∃ y, QStepX P all o s y ∧ QRunsX P all os (s.put o.dst y) K
theorem QStepX.pure {P : Program} {T : Tab} (hT : TabOk P T) {all : Array Oper} {o : Oper} {s : St} {p : Prop} {y : AV} (hw : wantA all s o = some true) (hf : s.fits o.dst = true) (hv : qval T s o = some (p, y)) (hp : p) : QStepX P all o s y := by
  intro s' h1 h2 h3 h4 a w g hs K Q hK
  have hw' : wantA all s' o = some true := (wantA_congr h4).trans hw
  rw [wantA_ok hw' hs]
  simp only [if_true]
  have hf' : s'.fits o.dst = true := (fits_congr h1 _).trans hf
  have hb := qval_bop hf' (qval_mono h2 (ev_congr h4) hv)
  obtain ⟨r, a1, w1, g1, hr, hcase, hsim, hk⟩ := bop_ok hT hb hp a w g hs
  simp only [Oper.wp, hr]
  rcases hcase with ⟨v, rfl, rfl⟩ | ⟨rfl, rfl⟩ <;> exact hK _ _ _ hsim hk
theorem QStepX.skip {P : Program} {all : Array Oper} {o : Oper} {s : St} (hw : wantA all s o = some false) (hf : s.fits o.dst = true) : QStepX P all o s (.tup []) := by
  intro s' h1 h2 h3 h4 a w g hs K Q hK
  have hw' : wantA all s' o = some false := (wantA_congr h4).trans hw
  rw [wantA_ok hw' hs]
  simp only [if_false, Bool.false_eq_true]
  exact hK _ _ _ (hs.put ((fits_congr h1 _).trans hf) (.tup [] #[] rfl (fun k c u hc => by simp at hc))) (Keep.refl g w)
def goX (T : Tab) (all : Array Oper) : List Oper → St → (St → Prop) → Prop
  | [], s, J => J s
  | o :: os, s, J =>
    match wantA all s o with
    | some true =>
      match qval T s o with
      | some (p, y) => s.fits o.dst = true ∧ p ∧ goX T all os (s.put o.dst y) J
      | none => False
    | some false => s.fits o.dst = true ∧ goX T all os (s.put o.dst (.tup [])) J
    | none => False
theorem goX_ok {P : Program} {T : Tab} (hT : TabOk P T) {all : Array Oper} {K : St → Prop} : ∀ {os : List Oper} {s : St}, goX T all os s K → QRunsX P all os s K
  | [], s, h => h
  | o :: os, s, h => by
    simp only [goX] at h
    split at h
    · rename_i hw
      split at h
      · rename_i p y hv
        exact ⟨y, QStepX.pure hT hw h.1 hv h.2.1, goX_ok hT h.2.2⟩
      · exact h.elim
    · rename_i hw
      exact ⟨.tup [], QStepX.skip hw h.1, goX_ok hT h.2⟩
    · exact h.elim
theorem QRunsX.tell {P : Program} {all : Array Oper} {K : St → Prop} : ∀ {os : List Oper} {s : St}, QRunsX P all os s K →
    ∃ e : St, K e ∧ e.nt = s.nt ∧ e.objs = s.objs ∧ e.st = s.st ∧ (∀ t, (∀ (j : Nat) (o : Oper), os[j]? = some o → o.dst ≠ some t) → lookS e.slots t = lookS s.slots t) ∧
      ∀ (i : Nat) (o : Oper), os[i]? = some o → ∃ (si : St) (y : AV), QStepX P all o si y ∧ si.nt = s.nt ∧ si.objs = s.objs ∧ si.st = s.st ∧
        (∀ t, (∀ (j : Nat) (o' : Oper), i ≤ j → os[j]? = some o' → o'.dst ≠ some t) → lookS e.slots t = lookS si.slots t) ∧
        (∀ d, o.dst = some d → (∀ (j : Nat) (o' : Oper), i < j → os[j]? = some o' → o'.dst ≠ some d) → lookS e.slots d = some y)
  | [], s, h => ⟨s, h, rfl, rfl, rfl, fun _ _ => rfl, fun i o hi => by simp at hi⟩
  | o0 :: os, s, h => by
    obtain ⟨y, hq, hr⟩ := h
    obtain ⟨e, h1, h2, h3, h4, h5, h6⟩ := QRunsX.tell hr
    rw [put_nt] at h2
    rw [put_objs] at h3
    rw [put_st] at h4
    refine ⟨e, h1, h2, h3, h4, ?_, ?_⟩
    · intro t ht
      rw [h5 t (fun j o hj => ht (j + 1) o (by simpa using hj)), put_look, if_neg (ht 0 o0 rfl)]
    · intro i o hi
      cases i with
      | zero =>
        simp at hi; subst hi
        refine ⟨s, y, hq, rfl, rfl, rfl, ?_, ?_⟩
        · intro t ht
          rw [h5 t (fun j o hj => ht (j + 1) o (Nat.zero_le _) (by simpa using hj)), put_look, if_neg (ht 0 o0 (Nat.le_refl _) rfl)]
        · intro d hd ht
          rw [h5 d (fun j o hj => ht (j + 1) o (Nat.zero_lt_succ _) (by simpa using hj)), put_look, if_pos hd]
      | succ i =>
        obtain ⟨si, y', k1, k2, k3, k4, k5, k6⟩ := h6 i o (by simpa using hi)
        rw [put_nt] at k2
        rw [put_objs] at k3
        rw [put_st] at k4
        refine ⟨si, y', k1, k2, k3, k4, ?_, ?_⟩
        · intro t ht
          exact k5 t (fun j o' hj ho => ht (j + 1) o' (by omega) (by simpa using ho))
        · intro d hd ht
          exact k6 d hd (fun j o' hj ho => ht (j + 1) o' (by omega) (by simpa using ho))
end Go.Proofs.YtiilnlihimdnlaaGreatDoorFw
/- A drawn region with a call that makes new objects. -/
namespace Go.Proofs.YtiilnlihimdnlaaGreatDoorFw
open Go Go.RowKit
set_option linter.unusedVariables false
def freshO : List Obj → Nat → Bool
  | [], _ => true
  | o :: r, rid => (decide (o.id < rid) || decide (rid + 64 ≤ o.id)) && freshO r rid
structure Loud (P : Program) (all : Array Oper) (L : Nat) (e0 : St) (K : St → Prop) : Prop where
  ex : ∃ (o : Oper) (c : Call) (f : FuncId) (st : Bool) (xs ys : List AV) (R : AV → List (Nat × List AV) → List (Nat × List AV) → Prop) (rid : Nat) (r0 : AV) (ros0 : List (Nat × List AV)),
    all[L]? = some o ∧ wantA all e0 o = some true ∧ o.op = .call c ∧ c.callee = .value (.func f) ∧ evAll e0 c.args.toList = some xs ∧ argAL e0 [] xs = some ys ∧ FnA P f st ys [] R ∧ e0.fits o.dst = true ∧ 16 ≤ rid ∧
    (∀ r os ros, R r os ros → r = r0 ∧ ros = ros0) ∧ ros0.length ≤ 64 ∧ freshO e0.objs rid = true ∧ mapS (backF st [] rid ros0.length) e0.slots = e0.slots ∧ K (e0.back st [] [] ros0 o.dst r0 rid)
attribute [go_sem] goX
end Go.Proofs.YtiilnlihimdnlaaGreatDoorFw
/- A drawn region that makes an object and appends it to a row of an own object; one operation only moves. -/
namespace Go.Proofs.YtiilnlihimdnlaaGreatDoorFw
open Go Go.RowKit
set_option linter.unusedVariables false
theorem Ext.refl (s : St) : Ext s s := fun _ _ h => h
theorem newO_look (s : St) (d id sz : Nat) (es : List AV) (x : AV) (t : Nat) : lookS (s.newO d id sz es x).slots t = if d = t then some x else (lookS s.slots t).map (mapRef (killF id)) := by
  show lookS (putS (mapS (killF id) s.slots) d x) t = _
  rw [lookS_putS, lookS_mapS]
def delS : List (Nat × AV) → Nat → List (Nat × AV)
  | [], _ => []
  | (t, x) :: r, d => if t = d then delS r d else (t, x) :: delS r d
theorem lookS_delS : ∀ (l : List (Nat × AV)) (d t : Nat), lookS (delS l d) t = if t = d then none else lookS l t
  | [], d, t => by simp [delS, lookS]
  | (u, x) :: r, d, t => by
    have ih := lookS_delS r d t
    simp only [delS]
    by_cases hu : u = d
    · rw [if_pos hu, ih]
      by_cases ht : t = d
      · rw [if_pos ht, if_pos ht]
      · rw [if_neg ht, if_neg ht]; simp only [lookS]; rw [if_neg (by omega)]
    · rw [if_neg hu]
      simp only [lookS]
      by_cases hut : u = t
      · rw [if_pos hut, if_pos hut, if_neg (by omega)]
      · rw [if_neg hut, if_neg hut, ih]
def St.del (s : St) (d : Nat) : St := { s with slots := delS s.slots d }
theorem IStep.cop {P : Program} {T : Tab} (hT : TabOk P T) {all : Array Oper} {o : Oper} {s s' : St} {p : Prop} (hw : wantA all s o = some true) (h : cop T o s = some (p, s')) (hp : p) : IStep P all o s s' := by
  intro a w g hs K Q hK
  rw [wantA_ok hw hs]
  simp only [if_true]
  obtain ⟨r, a1, w1, g1, hr, hcase, hsim, hk⟩ := cop_ok hT h hp a w g hs
  simp only [Oper.wp, hr]
  rcases hcase with ⟨v, rfl, rfl⟩ | ⟨rfl, rfl⟩ <;> exact hK _ _ _ hsim hk
structure AppSt (P : Program) (T : Tab) (all : Array Oper) (L z dz d7 id7 : Nat) (v : AV) (e0 : St) (K : St → Prop) : Prop where
  ex : ∃ (o7 o8 oz : Oper) (sz : Nat) (es : List AV) (xz : Operand) (e2 e2' : St),
    all[L]? = some o7 ∧ o7.dst = some d7 ∧ all[L + 1]? = some o8 ∧ all[z]? = some oz ∧ oz.op = .move xz ∧ oz.dst = some dz ∧ oz.guard = none ∧
    (∀ s' : St, s'.nt = e0.nt → s'.objs = e0.objs → s'.st = e0.st → (∀ t ∈ o7.looksAt all, lookS s'.slots t = lookS e0.slots t) → IStep P all o7 s' (s'.newO d7 id7 sz es (.hd id7 []))) ∧
    mapS (killF id7) e0.slots = e0.slots ∧ lookO e0.objs id7 = none ∧ (∀ d, o8.dst = some d → lookS (e0.newO d7 id7 sz es (.hd id7 [])).slots d = none) ∧
    IStep P all o8 (e0.newO d7 id7 sz es (.hd id7 [])) e2 ∧ IStep P all o8 ((e0.newO d7 id7 sz es (.hd id7 [])).del dz) e2' ∧
    e2.nt = e0.nt ∧ e2.st = e0.st ∧ e2'.nt = e0.nt ∧ e2'.st = e0.st ∧ e2'.objs = e2.objs ∧ (∀ t, t ≠ dz → lookS e2'.slots t = lookS e2.slots t) ∧
    e2.ev xz = some v ∧ lookS e2.slots dz = some v ∧ dz < e0.nt ∧ K e2
theorem RunsA.dqa {P : Program} {T : Tab} (L m z dz d7 id7 : Nat) (v : AV) (hm : P.follows .mixedOrders = true) (hT : TabOk P T) {id : Nat} {all : Array Oper} {s : St} {Q : AE → St → Prop} (hok : drawOk all = true) (htail : tailOk (L + 2) all = true)
    (hreach : ((List.range (L + 1)).all fun j => j == z || (reachOf all (L + 2) (predsOf all (L + 1))).contains j) = true) (hzL : z < L) (hsize : all.size = L + 2 + m)
    (h : goX T all (all.toList.take L) s (fun e0 => AppSt P T all L z dz d7 id7 v e0 fun e2 => RunsL P all (all.toList.drop (L + 2)) e2 fun s3 => At .normal s3 Q)) : RunsA P (.region id all true) s Q := by
  intro a w g hs
  have hq := goX_ok (P := P) hT h
  obtain ⟨e, ⟨o7, o8, oz, sz, es, xz, e2, e2', q1, q2, q3, q4, q5, q6, q7, q8, q9, q10, q11, q12, q13, r1, r2, r3, r4, r5, r6, r7, r8, r9, r10⟩, h1, h2, h3, h4, h5⟩ := hq.tell
  refine wp_region_any hm ?_
  have hget : ∀ (i : Nat) (o : Oper), i < L → all[i]? = some o → (all.toList.take L)[i]? = some o := fun i o hi ho => by
    rw [List.getElem?_take, if_pos hi, Array.getElem?_toList]; exact ho
  have hget2 : ∀ (j : Nat) (o : Oper), (all.toList.take L)[j]? = some o → j < L ∧ all[j]? = some o := fun j o hj => by
    rw [List.getElem?_take] at hj
    split at hj
    · rename_i h'; exact ⟨h', by simpa using hj⟩
    · simp at hj
  have hmap : (List.range' (L + 2) m).map (all[·]?) = (all.toList.drop (L + 2)).map some := by
    apply List.ext_getElem?
    intro i
    simp only [List.getElem?_map, List.getElem?_drop, Array.getElem?_toList]
    by_cases hi : i < m
    · rw [List.getElem?_range' hi]
      simp only [Option.map_some, Nat.one_mul]
      rw [Array.getElem?_eq_getElem (by omega)]; rfl
    · rw [List.getElem?_eq_none (by simp; omega), Array.getElem?_eq_none (by omega)]; rfl
  let e1 := e.newO d7 id7 sz es (.hd id7 [])
  have hspL := drawOk_spec hok q1
  have hspz := drawOk_spec hok q4
  have hsp8 := drawOk_spec hok q3
  have hfix : ∀ t, (lookS e.slots t).map (mapRef (killF id7)) = lookS e.slots t := fun t => by
    rw [← lookS_mapS, q9]
  have e1look : ∀ t, lookS e1.slots t = if d7 = t then some (.hd id7 []) else lookS e.slots t := fun t => by
    show lookS (e.newO d7 id7 sz es (.hd id7 [])).slots t = _
    rw [newO_look, hfix]
  have e1objs : e1.objs = setO e.objs id7 sz es := rfl
  have hext : ∀ s0 s1 : St, s0.objs = e.objs → s1.objs = setO e.objs id7 sz es → Ext s0 s1 := by
    intro s0 s1 w0 w1 id' p hp
    rw [w1, lookO_setO]
    rw [w0] at hp
    rw [if_neg (fun hc => by rw [← hc, q10] at hp; cases hp)]
    exact hp
  have hsetne : ∀ (listed : Array Bool) (i j : Nat), j ≠ i → (listed.setIfInBounds i true).getD j true = listed.getD j true := fun listed i j hji => by
    simp only [Array.getD_eq_getD_getElem?, Array.getElem?_setIfInBounds_ne (fun h => hji h.symm)]
  have hseteq : ∀ (listed : Array Bool) (i : Nat), (listed.setIfInBounds i true).getD i true = true := fun listed i => by
    simp only [Array.getD_eq_getD_getElem?]
    by_cases hi : i < listed.size
    · simp [hi]
    · simp [Array.getElem?_eq_none (show (listed.setIfInBounds i true).size ≤ i by simp; omega)]
  have hmono : ∀ (listed : Array Bool) (i j : Nat), listed.getD j true = true → (listed.setIfInBounds i true).getD j true = true := fun listed i j hj => by
    by_cases hji : j = i
    · rw [hji]; exact hseteq _ _
    · rw [hsetne _ _ _ hji]; exact hj
  -- what is listed is listed with what it comes behind
  let Cl : Array Bool → Prop := fun listed => ∀ i, i < L + 2 → listed.getD i true = true → ∀ j ∈ predsOf all i, listed.getD j true = true
  have hClset : ∀ (listed : Array Bool) (i : Nat), Cl listed → (∀ j ∈ predsOf all i, listed.getD j true = true) → Cl (listed.setIfInBounds i true) := by
    intro listed i hc hp k hk hkl j hj
    by_cases hki : k = i
    · subst hki; exact hmono _ _ _ (hp j hj)
    · rw [hsetne _ _ _ hki] at hkl
      exact hmono _ _ _ (hc k hk hkl j hj)
  have hpredlt : ∀ (i : Nat) (j : Nat), j ∈ predsOf all i → j < i := by
    intro i j hj
    unfold predsOf at hj
    cases ho : all[i]? with
    | none => simp [ho] at hj
    | some o =>
      simp only [ho, List.mem_map, List.mem_filter, Array.mem_toList_iff] at hj
      obtain ⟨e', ⟨he, hb⟩, rfl⟩ := hj
      exact (drawOk_spec hok ho).1 e' he hb
  have hreachCl : ∀ (listed : Array Bool), Cl listed → ∀ (k : Nat) (l : List Nat), (∀ i ∈ l, i < L + 2 ∧ listed.getD i true = true) → ∀ i ∈ reachOf all k l, listed.getD i true = true := by
    intro listed hc k
    induction k with
    | zero => intro l hl i hi; exact (hl i hi).2
    | succ k ih =>
      intro l hl i hi
      simp only [reachOf, List.mem_append] at hi
      rcases hi with hi | hi
      · exact (hl i hi).2
      · refine ih _ ?_ i hi
        intro j hj
        obtain ⟨m', hm', hj⟩ := List.mem_flatMap.1 hj
        have := hpredlt m' j hj
        exact ⟨by have := (hl m' hm').1; omega, hc m' (hl m' hm').1 (hl m' hm').2 j hj⟩
  -- when the last of them is listed, or may be, all but z are
  have hallz : ∀ (listed : Array Bool), Cl listed → (∀ j ∈ predsOf all (L + 1), listed.getD j true = true) → ∀ j, j < L + 1 → j ≠ z → listed.getD j true = true := by
    intro listed hc hp j hj hjz
    have h8 := (List.all_eq_true.1 hreach) j (List.mem_range.2 hj)
    simp only [Bool.or_eq_true, beq_iff_eq] at h8
    rcases h8 with h8 | h8
    · exact absurd h8 hjz
    · exact hreachCl listed hc _ _ (fun i hi => ⟨by have := hpredlt _ _ hi; omega, hp i hi⟩) j (List.contains_iff_mem.1 h8)
  let Inv : Array Bool → St → Prop := fun listed s' => s'.nt = e.nt ∧ s'.st = e.st ∧ Cl listed ∧
    (listed.getD (L + 1) true = true → s'.objs = e2.objs ∧ ∀ t, (∀ (j : Nat) (o : Oper), j < L + 2 → all[j]? = some o → o.dst = some t → listed.getD j true = true) → lookS s'.slots t = lookS e2.slots t) ∧
    (listed.getD (L + 1) true = false → s'.objs = (if listed.getD L true = true then setO e.objs id7 sz es else e.objs) ∧ ∀ t, (∀ (j : Nat) (o : Oper), j < L + 2 → all[j]? = some o → o.dst = some t → listed.getD j true = true) → lookS s'.slots t = lookS e1.slots t)
  have main := draw_anyG (P := P) (all := all) (Q := fun e a' w' => ∃ ae s' g', e = ae.up ∧ Q ae s' ∧ Sim s' a' w' g' ∧ Keep g w g' w') (w0 := w) (g0 := g) (n1 := L + 2) (m := m) hok htail hsize Inv ?_ ?_ (L + 2) (Array.replicate all.size false) s a _ g (by simp) (by rw [nOff_replicate, hsize]) ?_ ?_ (hs.drawn (w.drawn + 1)) (Keep.drawn g w _) ?_
  · rw [hsize]; rw [hsize] at main; exact main
  · rintro listed s' a' w' g' hall ⟨i1, i2, i3, i4, i5⟩ hs' hk'
    obtain ⟨j1, j2⟩ := i4 (hall (L + 1) (by omega))
    have hse : Sim e2 a' w' g' := by
      refine hs'.congr (r1.trans i1.symm) ?_ j1.symm (r2.trans i2.symm)
      intro t; exact (j2 t (fun j o hj _ _ => hall j hj)).symm
    exact r10 a' w' g' hse _ (fun a2 w2 g2 s2 k1 k2 k3 => ⟨.normal, s2, g2, rfl, k3.out, k1, hk'.trans k2⟩) _ hmap
  · rintro listed s' i o hls ho hin hoff hpre ⟨i1, i2, i3, i4, i5⟩
    have hspec := drawOk_spec hok ho
    have hpl : ∀ t ∈ o.looksAt all, (∀ (j : Nat) (o' : Oper), j < L + 2 → all[j]? = some o' → o'.dst = some t → listed.getD j true = true ∧ j < i) := by
      intro t ht j o' hj hj2 hd
      obtain ⟨_, k2⟩ := hspec.2 j o' t hj2 hd
      obtain ⟨k3, e', he, hb, rfl⟩ := k2 ht
      refine ⟨hpre _ ?_, k3⟩
      simp only [predsOf, ho, List.mem_map, List.mem_filter, Array.mem_toList_iff]
      exact ⟨e', ⟨he, hb⟩, rfl⟩
    have hClnew := hClset listed i i3 hpre
    -- only i is written by i
    have honly : ∀ (t j : Nat) (o' : Oper), o.dst = some t → j < L + 2 → all[j]? = some o' → o'.dst = some t → j = i := by
      intro t j o' hd hj hj2 hd2
      rcases (hspec.2 j o' t hj2 hd2).1 with h8 | h8
      · exact h8
      · exact absurd hd h8
    have hback : ∀ (t : Nat), o.dst ≠ some t → (∀ (j : Nat) (o' : Oper), j < L + 2 → all[j]? = some o' → o'.dst = some t → (listed.setIfInBounds i true).getD j true = true) → ∀ (j : Nat) (o' : Oper), j < L + 2 → all[j]? = some o' → o'.dst = some t → listed.getD j true = true := by
      intro t hd ht j o' hj hj2 hd2
      have := ht j o' hj hj2 hd2
      by_cases hji : j = i
      · subst hji; rw [ho] at hj2; obtain rfl := Option.some.inj hj2; exact absurd hd2 hd
      · rw [hsetne listed i j hji] at this; exact this
    by_cases hi8 : i = L + 1
    · -- the second
      subst hi8
      rw [q3] at ho
      obtain rfl := Option.some.inj ho
      have hz' := hallz listed i3 hpre
      obtain ⟨j1, j2⟩ := i5 hoff
      rw [if_pos (hz' L (by omega) (by omega))] at j1
      by_cases hzl : listed.getD z true = true
      · refine ⟨e2, ?_, r1, r2, hClnew, fun _ => ⟨rfl, fun t _ => rfl⟩, fun hc => ?_⟩
        · intro a' w' g' hs' K' Q' hK
          refine q12 a' w' g' ⟨hs'.nt.trans i1, hs'.defers, fun t x hx => ?_, ?_, (i2.symm.trans hs'.st)⟩ K' Q' hK
          · refine hs'.slot t x ?_
            rw [j2 t, hx]
            intro j o' hj hj2 hd
            rcases Nat.lt_or_ge j (L + 1) with h6 | h6
            · by_cases hjz : j = z
              · rw [hjz]; exact hzl
              · exact hz' j h6 hjz
            · have hj8 : j = L + 1 := by omega
              subst hj8
              rw [q3] at hj2
              obtain rfl := Option.some.inj hj2
              have := q11 t hd
              rw [this] at hx; cases hx
          · have := hs'.h; rw [j1] at this; exact this
        · rw [hseteq] at hc; cases hc
      · have hzl' : listed.getD z true = false := by simpa using hzl
        refine ⟨e2', ?_, r3, r4, hClnew, fun _ => ⟨r5, fun t ht => ?_⟩, fun hc => ?_⟩
        · intro a' w' g' hs' K' Q' hK
          refine q13 a' w' g' ⟨hs'.nt.trans i1, hs'.defers, fun t x hx => ?_, ?_, (i2.symm.trans hs'.st)⟩ K' Q' hK
          · refine hs'.slot t x ?_
            have hx' : lookS (delS e1.slots dz) t = some x := hx
            rw [lookS_delS] at hx'
            split at hx'
            · cases hx'
            rename_i htz
            rw [j2 t, hx']
            intro j o' hj hj2 hd
            rcases Nat.lt_or_ge j (L + 1) with h6 | h6
            · refine hz' j h6 ?_
              intro hjz
              subst hjz
              rw [q4] at hj2
              obtain rfl := Option.some.inj hj2
              rw [q6] at hd
              exact htz (Option.some.inj hd).symm
            · have hj8 : j = L + 1 := by omega
              subst hj8
              rw [q3] at hj2
              obtain rfl := Option.some.inj hj2
              have := q11 t hd
              have hx2 : lookS e1.slots t = some x := hx'
              rw [this] at hx2; cases hx2
          · have := hs'.h; rw [j1] at this; exact this
        · refine r6 t ?_
          intro hte
          subst hte
          have := ht z oz (by omega) q4 q6
          rw [hsetne _ _ _ (by omega), hzl'] at this
          cases this
        · rw [hseteq] at hc; cases hc
    have hnew8 : (listed.setIfInBounds i true).getD (L + 1) true = listed.getD (L + 1) true := hsetne _ _ _ (by omega)
    by_cases hl8 : listed.getD (L + 1) true = true
    · -- only z is left
      have hiz : i = z := by
        apply Classical.byContradiction
        intro hiz
        have := hallz listed i3 (i3 (L + 1) (by omega) hl8) i (by omega) hiz
        rw [this] at hoff; cases hoff
      subst hiz
      rw [q4] at ho
      obtain rfl := Option.some.inj ho
      obtain ⟨j1, j2⟩ := i4 hl8
      have hev : s'.ev xz = some v := by
        rw [← r7]
        refine ev_congr (all := all) (o := oz) (fun t ht => j2 t (fun j o' hj hj2 hd => (hpl t ht j o' hj hj2 hd).1)) xz ?_
        rw [q5]; simp [Op.operands]
      have hfits : s'.fits oz.dst = true := by rw [q6]; simp only [St.fits, decide_eq_true_eq]; rw [i1]; exact r9
      refine ⟨s'.put oz.dst v, (QStepX.pure hT (s := s') (by simp [wantA, q7]) hfits (p := True) (by simp only [qval, q5, hev, Option.map_some]) trivial) s' rfl (Ext.refl _) rfl (fun _ _ => rfl), ?_, ?_, hClnew, fun _ => ⟨?_, ?_⟩, fun hc => ?_⟩
      · rw [put_nt]; exact i1
      · rw [put_st]; exact i2
      · rw [put_objs]; exact j1
      · intro t ht
        rw [put_look]
        split
        · rename_i hd
          rw [q6] at hd
          obtain rfl := Option.some.inj hd
          exact r8.symm
        · rename_i hd
          exact j2 t (hback t hd ht)
      · rw [hnew8, hl8] at hc; cases hc
    have hl8' : listed.getD (L + 1) true = false := by simpa using hl8
    obtain ⟨j1, j2⟩ := i5 hl8'
    have hdL : ∀ t ∈ o.looksAt all, i ≤ L → o7.dst ≠ some t := by
      intro t ht hiL hd
      have := (hpl t ht L o7 (by omega) q1 hd).2
      omega
    have hlk : ∀ t ∈ o.looksAt all, lookS s'.slots t = lookS e.slots t := by
      intro t ht
      rw [j2 t (fun j o' hj hj2 hd => (hpl t ht j o' hj hj2 hd).1), e1look, if_neg]
      intro hd
      exact hdL t ht (by omega) (by rw [q2, hd])
    rcases Nat.lt_or_ge i L with hiL | hiL
    · -- quiet
      obtain ⟨si, y, k1, k2, k3, k4, k5, k6⟩ := h5 i o (hget i o hiL ho)
      have hx : Ext si s' := by
        by_cases hlL : listed.getD L true = true
        · rw [if_pos hlL] at j1
          exact hext si s' (k3.trans h2.symm) j1
        · rw [if_neg hlL] at j1
          intro id' p hp
          rw [j1, h2, ← k3]; exact hp
      refine ⟨s'.put o.dst y, k1 s' (i1.trans (h1.trans k2.symm)) hx (i2.trans (h3.trans k4.symm)) ?_, ?_, ?_, hClnew, fun hc => ?_, fun _ => ⟨?_, ?_⟩⟩
      · intro t ht
        rw [hlk t ht]
        refine k5 t (fun j o' hj hj2 hd => ?_)
        obtain ⟨hjL, hj3⟩ := hget2 j o' hj2
        have := (hpl t ht j o' (by omega) hj3 hd).2
        omega
      · rw [put_nt]; exact i1
      · rw [put_st]; exact i2
      · rw [hnew8, hl8'] at hc; cases hc
      · rw [put_objs, j1, hsetne listed i L (by omega)]
      · intro t ht
        rw [put_look]
        split
        · rename_i hd
          have hne : d7 ≠ t := by
            intro hd2
            have := honly t L o7 hd (by omega) q1 (by rw [q2, hd2])
            omega
          rw [e1look, if_neg hne]
          refine (k6 t hd (fun j o' hj hj2 hd2 => ?_)).symm
          obtain ⟨hjL, hj3⟩ := hget2 j o' hj2
          have := honly t j o' hd (by omega) hj3 hd2
          omega
        · rename_i hd
          exact j2 t (hback t hd ht)
    · -- the first
      have hi2 : i = L := by omega
      subst hi2
      rw [q1] at ho
      obtain rfl := Option.some.inj ho
      have hobj : s'.objs = e.objs := by rw [j1, hoff]; simp
      refine ⟨s'.newO d7 id7 sz es (.hd id7 []), q8 s' i1 hobj i2 hlk, i1, i2, hClnew, fun hc => ?_, fun _ => ⟨?_, ?_⟩⟩
      · rw [hnew8, hl8'] at hc; cases hc
      · rw [hseteq, if_pos rfl, ← hobj]; rfl
      · intro t ht
        rw [newO_look, e1look]
        split
        · rfl
        · rename_i hd
          rw [j2 t (hback t (fun hc => hd (by rw [q2] at hc; exact Option.some.inj hc)) ht), e1look, if_neg hd, hfix]
  · intro i hi1 hi2
    simp [Array.getD_eq_getD_getElem?, show i < all.size by omega]
  · intro i hi
    by_cases hlt : i < all.size
    · simp [Array.getD_eq_getD_getElem?, hlt] at hi
    · simp [Array.getD_eq_getD_getElem?, hlt] at hi
  · have hoffj : ∀ j, j < all.size → (Array.replicate all.size false).getD j true = false := fun j hj => by simp [Array.getD_eq_getD_getElem?, hj]
    refine ⟨h1.symm, h3.symm, ?_, fun hc => ?_, fun _ => ⟨?_, ?_⟩⟩
    · intro i hi hc
      rw [hoffj i (by omega)] at hc; cases hc
    · rw [hoffj (L + 1) (by omega)] at hc; cases hc
    · rw [hoffj L (by omega)]; simpa using h2.symm
    · intro t ht
      have hnone : ∀ (j : Nat) (o : Oper), j < L + 2 → all[j]? = some o → o.dst ≠ some t := by
        intro j o hj hj2 hd
        have := ht j o hj hj2 hd
        rw [hoffj j (by omega)] at this
        cases this
      rw [e1look, if_neg (fun hd => hnone L o7 (by omega) q1 (by rw [q2, hd]))]
      refine (h4 t (fun j o hj hd => ?_)).symm
      obtain ⟨hjL, hj3⟩ := hget2 j o hj
      exact hnone j o (by omega) hj3 hd
end Go.Proofs.YtiilnlihimdnlaaGreatDoorFw
/- A drawn region that makes an object of a text and appends it: how it is told. -/
namespace Go.Proofs.YtiilnlihimdnlaaGreatDoorFw
open Go Go.RowKit
set_option linter.unusedVariables false
set_option linter.unusedSimpArgs false
theorem build1 {P : Program} {T : Tab} (hT : TabOk P T) {all : Array Oper} {o : Oper} {t x d : Nat} {ei : TI} {u : List UInt8} (hop : o.op = .buildSlice t 1 #[(0, .tmp x)]) (hd : o.dst = some d) (hg : o.guard = none) (he : elemOf' T t = some ei) (hsz : ei.sz = 1)
    (hels : elsOf ei.z ei.k 0 [.str u] = some ([.str u], [])) {s' : St} (hx : lookS s'.slots x = some (.str u)) (hfit : d < s'.nt) : IStep P all o s' (s'.newO d (idOf (some d)) 1 [.str u] (.hd (idOf (some d)) [])) := by
  refine IStep.cop hT (by simp [wantA, hg]) (p := True) ?_ trivial
  have hid : 16 ≤ idOf (some d) := idOf_le _
  simp [cop, movesOf, hop, evCells, St.ev, hx, AV.cells, viewsOf, bop, aop, hd, St.fits, hfit, sBuildSl, he, evL, seqFrom, hsz, hels, St.plugL, hid]
theorem AppSt.mk' {P : Program} {T : Tab} (hT : TabOk P T) {all : Array Oper} {L z dz d7 id7 : Nat} {v : AV} {e0 : St} {K : St → Prop} {o7 o8 oz : Oper} {t7 x7 : Nat} {u : List UInt8} {ei : TI} {xz : Operand} {p p' : Prop} {e2 e2' : St}
    (q1 : all[L]? = some o7) (q2 : o7.dst = some d7) (hop : o7.op = .buildSlice t7 1 #[(0, .tmp x7)]) (hg : o7.guard = none) (he : elemOf' T t7 = some ei) (hsz : ei.sz = 1) (hels : elsOf ei.z ei.k 0 [.str u] = some ([.str u], [])) (hx : lookS e0.slots x7 = some (.str u)) (hfit : d7 < e0.nt) (hid : id7 = idOf (some d7))
    (q3 : all[L + 1]? = some o8) (hg8 : o8.guard = none) (q4 : all[z]? = some oz) (q5 : oz.op = .move xz) (q6 : oz.dst = some dz) (q7 : oz.guard = none)
    (q9 : mapS (killF id7) e0.slots = e0.slots) (q10 : lookO e0.objs id7 = none) (q11 : ∀ d, o8.dst = some d → lookS (e0.newO d7 id7 1 [.str u] (.hd id7 [])).slots d = none)
    (c1 : cop T o8 (e0.newO d7 id7 1 [.str u] (.hd id7 [])) = some (p, e2)) (c2 : cop T o8 ((e0.newO d7 id7 1 [.str u] (.hd id7 [])).del dz) = some (p', e2'))
    (r1 : e2.nt = e0.nt) (r2 : e2.st = e0.st) (r3 : e2'.nt = e0.nt) (r4 : e2'.st = e0.st) (r5 : e2'.objs = e2.objs) (r6 : e2'.slots = delS e2.slots dz) (r7 : e2.ev xz = some v) (r8 : lookS e2.slots dz = some v) (r9 : dz < e0.nt) (hp : p) (hp' : p') (hK : K e2) : AppSt P T all L z dz d7 id7 v e0 K := by
  subst hid
  refine ⟨⟨o7, o8, oz, 1, [.str u], xz, e2, e2', q1, q2, q3, q4, q5, q6, q7, ?_, q9, q10, q11, IStep.cop hT (by simp [wantA, hg8]) c1 hp, IStep.cop hT (by simp [wantA, hg8]) c2 hp', r1, r2, r3, r4, r5, ?_, r7, r8, r9, hK⟩⟩
  · intro s' h1 h2 h3 h4
    refine build1 hT hop q2 hg he hsz hels ?_ (by rw [h1]; exact hfit)
    rw [h4 x7 ?_, hx]
    refine List.mem_append_left _ (List.mem_filterMap.2 ⟨.tmp x7, ?_, rfl⟩)
    rw [hop]; simp [Op.operands]
  · intro t ht
    rw [r6, lookS_delS, if_neg ht]
attribute [go_sem] St.del delS
end Go.Proofs.YtiilnlihimdnlaaGreatDoorFw
/- Quiet operations, some at a time. -/
namespace Go.Proofs.YtiilnlihimdnlaaGreatDoorFw
open Go Go.RowKit
set_option linter.unusedVariables false
def goQh (T : Tab) (all : Array Oper) (os : List Oper) (s : St) (J : List Oper → St → Prop) : Prop := goQ T all os s J
theorem goQ_cut {T : Tab} {all : Array Oper} {J : List Oper → St → Prop} : ∀ (k : Nat) {os : List Oper} {s : St}, goQ T all (os.take k) s (fun os' s' => goQh T all (os' ++ os.drop k) s' J) → goQ T all os s J
  | 0, os, s, h => h
  | k + 1, [], s, h => h
  | k + 1, o :: r, s, h => by
    have key : (o :: List.take k r) ++ List.drop k r = o :: r := by rw [List.cons_append, List.take_append_drop]
    simp only [List.take_succ_cons, List.drop_succ_cons] at h
    rw [goQ] at h
    split at h
    · rename_i hw
      split at h
      · rw [key] at h; exact h
      · rename_i hc
        split at h
        · rename_i p y hv
          rw [goQ, hw]
          simp only [hc, hv, if_false, Bool.false_eq_true]
          exact ⟨h.1, h.2.1, goQ_cut k h.2.2⟩
        · exact h.elim
    · rename_i hw
      rw [goQ, hw]
      exact ⟨h.1, goQ_cut k h.2⟩
    · rw [key] at h; exact h
theorem goQh.of {T : Tab} {all : Array Oper} {os : List Oper} {s : St} {J : List Oper → St → Prop} (h : goQ T all os s J) : goQh T all os s J := h
end Go.Proofs.YtiilnlihimdnlaaGreatDoorFw
