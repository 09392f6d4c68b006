import Derived.Test.YtiilnlihimdnlaaGreatDoorTab
import Derived.Test.YtiilnlihimdnlaaGreatDoorFwC
import Derived.ProofKit
import Derived.SizedLaws
import Derived.ChangeArms
import Derived.Below
import Derived.Carry
import Derived.Laws.StructEq
set_option linter.unusedVariables false
set_option linter.unusedSimpArgs false
/- What comes in, read as abstract values. -/
namespace Go.Proofs.YtiilnlihimdnlaaGreatDoorFw
open Go Go.RowKit
set_option linter.unusedVariables false
def g0 (w : World) : Gh where
 loc := fun _ _ => none
 own := fun _ => none
 perm := fun b => ((lbTab b).isSome = true ∨ lbErr b = true) ∧ b < w.heap.size
 bor := fun b => b < w.heap.size
 st := false
def inB (k : IntKind) (n : Int) : Prop := k.min ≤ n ∧ n ≤ k.max
inductive TyV (T : Tab) : TypeId → List AV → Prop where
 | int (t : TypeId) (k : IntKind) (n : Int) (ti : TI) (h : T t = some ti) (hk : ti.k = .int k) (hr : inB k n) : TyV T t [.int k n]
 | bool (t : TypeId) (b : Bool) (ti : TI) (h : T t = some ti) (hk : ti.k = .bool) : TyV T t [.bool b]
 | str (t : TypeId) (s : List UInt8) (ti : TI) (h : T t = some ti) (hk : ti.k = .str) (hr : s.length ≤ reachBytes) : TyV T t [.str s]
 | slice (t e : TypeId) (es : List AV) (ti ei : TI) (h : T t = some ti) (hk : ti.k = .slice e) (he : T e = some ei) (hr : es.length * ei.by_ ≤ reachBytes)
  (hs : ∀ x ∈ es, ∃ cs, x = mkE ei.k cs ∧ x.cells = cs) (hc : ∀ x ∈ es, TyV T e x.cells) : TyV T t [.row .bo ei.sz es]
 | struct (t : TypeId) (fs : List (Nat × TypeId)) (parts : List (List AV)) (ti : TI) (h : T t = some ti) (hk : ti.k = .struct fs) (hl : parts.length = fs.length)
  (hp : ∀ (i : Nat) (off : Nat) (ft : TypeId) (p : List AV), fs[i]? = some (off, ft) → parts[i]? = some p → TyV T ft p) : TyV T t parts.flatten
def All2 (g : Gh) (w : World) : List AV → List Value → Prop
 | [], [] => True
 | x :: xs, u :: us => Cell g w .bo x u ∧ All2 g w xs us
 | _, _ => False
theorem All2.append {g : Gh} {w : World} : ∀ {xs ys : List AV} {us vs : List Value}, All2 g w xs us → All2 g w ys vs → All2 g w (xs ++ ys) (us ++ vs)
 | [], ys, [], vs, _, h => h
 | x :: xs, ys, u :: us, vs, h1, h2 => ⟨h1.1, All2.append h1.2 h2⟩
 | [], _, _ :: _, _, h, _ => h.elim
 | _ :: _, _, [], _, h, _ => h.elim
theorem All2.get {g : Gh} {w : World} : ∀ {xs : List AV} {us : List Value}, All2 g w xs us → xs.length = us.length ∧ ∀ (k : Nat) (x : AV) (u : Value), xs[k]? = some x → us[k]? = some u → Cell g w .bo x u
 | [], [], _ => ⟨rfl, fun k x u h => by simp at h⟩
 | x :: xs, u :: us, h => by
  obtain ⟨h1, h2⟩ := All2.get h.2
  refine ⟨by simp [h1], ?_⟩
  intro k y v hy hv
  cases k with
  | zero => simp at hy hv; subst hy; subst hv; exact h.1
  | succ k => exact h2 k y v (by simpa using hy) (by simpa using hv)
 | [], _ :: _, h => h.elim
 | _ :: _, [], h => h.elim
theorem Cell.cells1 {g : Gh} {w : World} {p : Pl} {x : AV} {u : Value} (h : Cell g w p x u) : x.cells = [x] := by cases h <;> rfl
def tiled (T : Tab) : List (Nat × TypeId) → Nat → Nat → Bool
 | [], off, n => off == n
 | (o, t) :: r, off, n => o == off && (match T t with | some ti => tiled T r (off + ti.sz) n | none => false)
def tabWhole (l : List (TypeId × TI)) : Bool :=
 l.all fun p =>
  match p.2.k with
  | .struct fs => tiled (lookT l) fs 0 p.2.sz
  | .slice e => (match lookT l e with | some ei => (isAggK ei.k || ei.sz == 1) && decide (0 < ei.sz) | none => false)
  | .int _ => p.2.sz == 1
  | .bool => p.2.sz == 1
  | .str => p.2.sz == 1
  | _ => true
theorem lookT_mem : ∀ {l : List (TypeId × TI)} {t : TypeId} {ti : TI}, lookT l t = some ti → (t, ti) ∈ l
 | [], _, _, h => by simp [lookT] at h
 | p :: r, t, ti, h => by
  simp only [lookT] at h
  split at h
  ·rename_i e; subst e; obtain rfl := Option.some.inj h; simp
  ·exact List.mem_cons_of_mem _ (lookT_mem h)
theorem TIOk.cellsOf {P : Program} {t : TypeId} {ti : TI} (h : TIOk P t ti) : P.cellsOf t = ti.sz := by
 obtain ⟨i, z, hi, hs, _⟩ := h.info
 simp [Program.cellsOf, hi, hs]
theorem TIOk.bytesOf {P : Program} {t : TypeId} {ti : TI} (h : TIOk P t ti) : P.bytesOf t = ti.by_ := by
 obtain ⟨i, z, hi, _, hb, _⟩ := h.info
 simp [Program.bytesOf, hi, hb]
theorem weightsAll_mem {H : Type} {P : Program} {e : TypeId} : ∀ {l : List (DataW H)} {d : DataW H}, d ∈ l → ∀ x ∈ d.weights P e, x ∈ DataW.weightsAll P e l
 | y :: r, d, h, x, hx => by
  simp only [DataW.weightsAll, List.mem_append]
  rcases List.mem_cons.1 h with e' | e'
  ·subst e'; exact .inl hx
  ·exact .inr (weightsAll_mem e' x hx)
theorem weightsEach_get {H : Type} {P : Program} : ∀ {ts : List TypeId} {l : List (DataW H)} {i : Nat} {t : TypeId} {d : DataW H}, ts[i]? = some t → l[i]? = some d → ∀ x ∈ d.weights P t, x ∈ DataW.weightsEach P ts l
 | [], _, _, _, _, h, _ => by simp at h
 | _ :: _, [], _, _, _, _, h => by simp at h
 | t' :: ts, d' :: l, 0, t, d, h1, h2 => by
  simp at h1 h2; subst h1; subst h2
  intro x hx
  simp only [DataW.weightsEach, List.mem_append]
  exact .inl hx
 | t' :: ts, d' :: l, i + 1, t, d, h1, h2 => by
  intro x hx
  simp only [DataW.weightsEach, List.mem_append]
  exact .inr (weightsEach_get (by simpa using h1) (by simpa using h2) x hx)
theorem open_struct {T : Tab} {g : Gh} {w : World} {cs : List Value} : ∀ (fs : List (Nat × TypeId)) (off n : Nat), tiled T fs off n = true → cs.length = n →
 (∀ (i o : Nat) (ft : TypeId) (fi : TI), fs[i]? = some (o, ft) → T ft = some fi → ∃ xs, TyV T ft xs ∧ All2 g w xs ((cs.drop o).take fi.sz)) →
 ∃ parts : List (List AV), parts.length = fs.length ∧ All2 g w parts.flatten (cs.drop off) ∧ ∀ (i o : Nat) (ft : TypeId) (p : List AV), fs[i]? = some (o, ft) → parts[i]? = some p → TyV T ft p
 | [], off, n, ht, hl, _ => by
  simp only [tiled, beq_iff_eq] at ht
  refine ⟨[], rfl, ?_, fun i o ft p h => by simp at h⟩
  rw [List.drop_of_length_le (by omega)]
  trivial
 | (o, t) :: r, off, n, ht, hl, h => by
  simp only [tiled, Bool.and_eq_true, beq_iff_eq] at ht
  obtain ⟨rfl, ht⟩ := ht
  cases hti : T t with
  | none => simp [hti] at ht
  | some ti =>
   rw [hti] at ht
   simp only at ht
   obtain ⟨xs, h1, h2⟩ := h 0 o t ti rfl hti
   obtain ⟨parts, k1, k2, k3⟩ := open_struct r (o + ti.sz) n ht hl (fun i o' ft fi hi hf => h (i + 1) o' ft fi (by simpa using hi) hf)
   refine ⟨xs :: parts, by simp [k1], ?_, ?_⟩
   ·have : cs.drop o = (cs.drop o).take ti.sz ++ cs.drop (o + ti.sz) := by
     rw [← List.drop_drop, List.take_append_drop]
    rw [this, List.flatten_cons]
    exact h2.append k2
   ·intro i o' ft p hi hp
    cases i with
    | zero => simp at hi hp; obtain ⟨rfl, rfl⟩ := hi; subst hp; exact h1
    | succ i => exact k3 i o' ft p (by simpa using hi) (by simpa using hp)
theorem open_data {H : Type} {enc : TypeId × Value → H} {P : Program} {l : List (TypeId × TI)} (hT : TabOk P (lookT l)) (hW : tabWhole l = true) {w : World} :
 ∀ (fuel : Nat) (t : TypeId) (ti : TI) (cs : List Value) (d : DataW H) (ps : List MemPlace), lookT l t = some ti → ti.k ≠ .other → (∀ n e, ti.k ≠ .arr n e) → (∀ t' ti', lookT l t' = some ti' → (∀ e, ti'.k = .slice e → ∀ ei, lookT l e = some ei → ei.k ≠ .other ∧ ∀ n e', ei.k ≠ .arr n e') ∧ (∀ fs, ti'.k = .struct fs → ∀ o ft fi, (o, ft) ∈ fs → lookT l ft = some fi → fi.k ≠ .other ∧ ∀ n e', fi.k ≠ .arr n e')) →
  DataW.trod enc P w 0 (fun _ => true) true fuel t cs = some (d, ps) → (∀ x ∈ d.weights P t, x ≤ reachBytes) →
  ∃ xs, TyV (lookT l) t xs ∧ All2 (g0 w) w xs cs := by
 intro fuel
 induction fuel with
 | zero => intro t ti cs d ps _ _ _ _ h; simp [DataW.trod] at h
 | succ fuel ih =>
  intro t ti cs d ps ht hno hna hall h hwt
  have hTI := hT t ti ht
  have hwh := List.all_eq_true.1 hW _ (lookT_mem ht)
  cases hk : ti.k with
  | other => exact absurd hk hno
  | arr n e => exact absurd hk (hna n e)
  | int k =>
   have hu := hTI.kind
   rw [hk] at hu
   have hu : P.underlying t = some (.int k) := hu
   obtain ⟨n, rfl, _, hwf⟩ := DataW.trod_int hu h
   simp only [Lit.wf, Bool.and_eq_true, decide_eq_true_eq] at hwf
   exact ⟨[.int k n], .int t k n ti ht hk hwf, .int _ _ _, trivial⟩
  | bool =>
   have hu := hTI.kind
   rw [hk] at hu
   have hu : P.underlying t = some .bool := hu
   obtain ⟨b, rfl, _⟩ := DataW.trod_bool hu h
   exact ⟨[.bool b], .bool t b ti ht hk, .bool _ _, trivial⟩
  | str =>
   have hu := hTI.kind
   rw [hk] at hu
   have hu : P.underlying t = some .string := hu
   obtain ⟨s, rfl, he, _⟩ := DataW.trod_string hu h
   simp only [Prod.mk.injEq] at he
   obtain ⟨rfl, rfl⟩ := he
   exact ⟨[.str s.data.toList], .str t _ ti ht hk (hwt _ (by simp [DataW.weights])), .str _ s.data.toList, trivial⟩
  | slice e =>
   have hu := hTI.kind
   rw [hk] at hu
   have hu : P.underlying t = some (.slice e) := hu
   rw [hk] at hwh
   simp only at hwh
   cases hei : lookT l e with
   | none => rw [hei] at hwh; simp at hwh
   | some ei =>
    rw [hei] at hwh
    simp only [Bool.and_eq_true, Bool.or_eq_true, beq_iff_eq, decide_eq_true_eq] at hwh
    have hEI := hT e ei hei
    have hco := hEI.cellsOf
    have hbo := hEI.bytesOf
    obtain ⟨hno', hna'⟩ := (hall t ti ht).1 e hk ei hei
    rcases DataW.trod_slice hu h with ⟨rfl, _⟩ | ⟨a, len, cap, elems, rest, n, hfu, rfl, he, _, hlc, hcm, hln, hget0, _⟩
    ·exact ⟨[.row .bo ei.sz []], .slice t e [] ti ei ht hk hei (by simp) (fun x hx => by simp at hx) (fun x hx => by simp at hx), .emp _ _ _ _ _ (by simp), trivial⟩
    ·obtain rfl : fuel = n := by omega
     simp only [Prod.mk.injEq] at he
     obtain ⟨rfl, _⟩ := he
     have hget : ∀ (i x : Nat), (List.range len)[i]? = some x → ∃ y, (w.cells? 0 (a.add (x * P.cellsOf e)) (P.cellsOf e)).bind (DataW.trod enc P w 0 (fun _ => true) true fuel e) = some y ∧ elems[i]? = some y := by
      intro i x hx
      have hi := lt_of_get hx
      simp only [List.length_range] at hi
      rw [List.getElem?_range hi] at hx
      obtain rfl := Option.some.inj hx
      have hg := hget0 i hi
      have hi2 : i < elems.length := by omega
      rw [List.getElem?_eq_getElem hi2] at hg
      exact ⟨_, hg, List.getElem?_eq_getElem hi2⟩
     simp only [DataW.weights, hu, List.length_map] at hwt
     have hw0 := hwt ((elems.length + rest.length) * P.bytesOf e) (by simp)
     have hwe : ∀ p ∈ elems, ∀ x ∈ p.1.weights P e, x ≤ reachBytes := fun p hp x hx => hwt x (by
      simp only [List.mem_cons, List.mem_append]
      exact .inr (.inl (weightsAll_mem (List.mem_map.2 ⟨p, hp, rfl⟩) x hx)))
     have hex : ∀ i, ∃ xs : List AV, i < len → ∃ us : List Value, TyV (lookT l) e xs ∧ All2 (g0 w) w xs us ∧ us.length = ei.sz ∧ ∀ j, j < ei.sz → w.cell? ((a.add (i * ei.sz)).add j) = us[j]? := by
      intro i
      by_cases hi : i < len
      ·obtain ⟨y, hy, hy2⟩ := hget i i (by rw [List.getElem?_range hi])
       rw [hco] at hy
       cases hcs : w.cells? 0 (a.add (i * ei.sz)) ei.sz with
       | none => rw [hcs] at hy; simp at hy
       | some us =>
        rw [hcs] at hy
        simp only [Option.bind_some] at hy
        obtain ⟨_, c2, c3⟩ := World.cells?_some hcs
        obtain ⟨xs, k1, k2⟩ := ih e ei us y.1 y.2 hei hno' hna' hall hy (hwe y (List.mem_of_getElem? hy2))
        exact ⟨xs, fun _ => ⟨us, k1, k2, c2, c3⟩⟩
      ·exact ⟨[], fun h => absurd h hi⟩
     obtain ⟨F, hF⟩ := Classical.axiomOfChoice hex
     have hmk : ∀ i, i < len → (mkE ei.k (F i)).cells = F i := by
      intro i hi
      obtain ⟨us, k1, k2, k3, k4⟩ := hF i hi
      obtain ⟨q1, q2⟩ := k2.get
      refine mkE_cells (sz := ei.sz) (by omega) (hwh.1) ?_
      intro c hc
      obtain ⟨j, hj⟩ := List.mem_iff_getElem?.1 hc
      have hjl := lt_of_get hj
      obtain ⟨u, hu'⟩ : ∃ u, us[j]? = some u := ⟨us[j], List.getElem?_eq_getElem (by omega)⟩
      exact (q2 j c u hj hu').cells1
     refine ⟨[.row .bo ei.sz ((List.range len).map fun i => mkE ei.k (F i))], ?_, ?_, trivial⟩
     ·refine .slice t e _ ti ei ht hk hei ?_ ?_ ?_
      ·rw [hbo, hln] at hw0
       simp only [List.length_map, List.length_range]
       exact Nat.le_trans (Nat.mul_le_mul_right _ (Nat.le_add_right _ _)) hw0
      ·intro x hx
       obtain ⟨i, hi, rfl⟩ := List.mem_map.1 hx
       exact ⟨F i, rfl, hmk i (List.mem_range.1 hi)⟩
      ·intro x hx
       obtain ⟨i, hi, rfl⟩ := List.mem_map.1 hx
       rw [hmk i (List.mem_range.1 hi)]
       obtain ⟨us, k1, _⟩ := hF i (List.mem_range.1 hi)
       exact k1
     ·by_cases h0 : len = 0
      ·subst h0; simp only [List.range_zero, List.map_nil]; exact .emp _ _ _ _ _ (by simp)
      ·have hpos : 0 < len := by omega
       obtain ⟨us0, _, _, c3, c4⟩ := hF 0 hpos
       have hc0 := c4 0 hwh.2
       simp only [Nat.zero_mul] at hc0
       rw [Addr.add_zero', Addr.add_zero', List.getElem?_eq_getElem (by omega)] at hc0
       have hsp : a.spot = none := by
        unfold World.cell? at hc0
        split at hc0
        ·split at hc0
         ·simp at hc0
         ·rename_i hs; cases h : a.spot <;> simp_all
        ·simp at hc0
       have hblk : a.block < w.heap.size := by
        unfold World.cell? at hc0
        rcases Nat.lt_or_ge a.block w.heap.size with h' | h'
        ·exact h'
        ·simp [Array.getElem?_eq_none h'] at hc0
       have hlen2 : ((List.range len).map fun i => mkE ei.k (F i)).length = len := by simp
       have key : Cell (g0 w) w .bo (.row .bo ei.sz ((List.range len).map fun i => mkE ei.k (F i))) (.slice (some a) ((List.range len).map fun i => mkE ei.k (F i)).length cap) := by
        have hgi : ∀ (i : Nat) (x : AV), ((List.range len).map fun i => mkE ei.k (F i))[i]? = some x → i < len ∧ x = mkE ei.k (F i) := by
         intro i x hx
         have hi := lt_of_get hx
         rw [hlen2] at hi
         rw [List.getElem?_map, List.getElem?_range hi] at hx
         exact ⟨hi, (Option.some.inj hx).symm⟩
        have hcell : ∀ (i k : Nat) (x y : AV), ((List.range len).map fun i => mkE ei.k (F i))[i]? = some x → x.cells[k]? = some y → ∃ u, w.cell? (a.add (i * ei.sz + k)) = some u ∧ Cell (g0 w) w .bo y u := by
         intro i k x y hx hy
         obtain ⟨hi, rfl⟩ := hgi i x hx
         rw [hmk i hi] at hy
         obtain ⟨us, k1, k2, k3, k4⟩ := hF i hi
         obtain ⟨q1, q2⟩ := k2.get
         have hkl : k < ei.sz := by have := lt_of_get hy; omega
         have hc := k4 k hkl
         rw [List.getElem?_eq_getElem (by omega), add_add _ hsp] at hc
         exact ⟨_, hc, q2 k y _ hy (List.getElem?_eq_getElem (by omega))⟩
        refine .rd _ _ _ _ _ _ (fun j => (w.cell? (a.add j)).getD undef) (by simp) (.inr hblk) hsp (by rw [hlen2]; exact hlc) ?_ ?_ ?_
        ·intro i x hx
         obtain ⟨hi, rfl⟩ := hgi i x hx
         obtain ⟨us, k1, k2, k3, k4⟩ := hF i hi
         have := k2.get.1
         show (mkE ei.k (F i)).cells.length = ei.sz
         rw [hmk i hi]; omega
        ·intro i k x y hx hy
         obtain ⟨u, h1, h2⟩ := hcell i k x y hx hy
         rw [h1]; rfl
        ·intro i k x y hx hy
         obtain ⟨u, h1, h2⟩ := hcell i k x y hx hy
         simp only [h1, Option.getD_some]
         exact h2
       rw [hlen2] at key
       exact key
  | struct fs =>
   have hu := hTI.kind
   rw [hk] at hu
   obtain ⟨fields, hu, hfs⟩ := hu
   rw [hk] at hwh
   simp only at hwh
   have hco := hTI.cellsOf
   obtain ⟨xs, n, hfu, he, hlen, hxl, hget0⟩ := DataW.trod_struct hu h
   obtain rfl : fuel = n := by omega
   rw [hco] at hlen
   simp only [Prod.mk.injEq] at he
   obtain ⟨rfl, _⟩ := he
   have hget : ∀ (i : Nat) (f : Field), fields.toList[i]? = some f → ∃ y, DataW.trod enc P w 0 (fun _ => true) true fuel f.type ((cs.drop f.offset).take (P.cellsOf f.type)) = some y ∧ xs[i]? = some y := by
    intro i f hf
    have hg := hget0 i f (by simpa using hf)
    have hi : i < fields.toList.length := lt_of_get hf
    have hi2 : i < xs.length := by rw [hxl]; simpa using hi
    rw [List.getElem?_eq_getElem hi2] at hg
    exact ⟨_, hg, List.getElem?_eq_getElem hi2⟩
   simp only [DataW.weights, hu] at hwt
   obtain ⟨parts, k1, k2, k3⟩ := open_struct (T := lookT l) (g := g0 w) (w := w) (cs := cs) fs 0 ti.sz hwh hlen (by
    intro i o ft fi hi hfi
    rw [← hfs, List.getElem?_map] at hi
    cases hfd : fields.toList[i]? with
    | none => simp [hfd] at hi
    | some fd =>
     rw [hfd] at hi
     simp only [Option.map_some, Option.some.injEq, Prod.mk.injEq] at hi
     obtain ⟨rfl, rfl⟩ := hi
     obtain ⟨y, hy, hy2⟩ := hget i fd hfd
     rw [(hT fd.type fi hfi).cellsOf] at hy
     have hmem : (fd.offset, fd.type) ∈ fs := by rw [← hfs]; exact List.mem_map.2 ⟨fd, List.mem_of_getElem? hfd, rfl⟩
     obtain ⟨hno', hna'⟩ := (hall t ti ht).2 fs hk fd.offset fd.type fi hmem hfi
     exact ih fd.type fi _ y.1 y.2 hfi hno' hna' hall hy (fun x hx => hwt x (weightsEach_get (i := i) (by rw [List.getElem?_map, hfd]; rfl) (by rw [List.getElem?_map, hy2]; rfl) x hx)))
   exact ⟨parts.flatten, .struct t fs parts ti ht hk k1 k3, by simpa using k2⟩
end Go.Proofs.YtiilnlihimdnlaaGreatDoorFw
/- From a contract to a row. -/
namespace Go.Proofs.YtiilnlihimdnlaaGreatDoorFw
open Go Go.RowKit
set_option linter.unusedVariables false
def tabData (l : List (TypeId × TI)) : Bool :=
 let ok (t : TypeId) : Bool := match lookT l t with | some ti => (match ti.k with | .other => false | .arr _ _ => false | _ => true) | none => true
 l.all fun p =>
  match p.2.k with
  | .slice e => ok e
  | .struct fs => fs.all fun f => ok f.2
  | _ => true
theorem tabData_ok {l : List (TypeId × TI)} (h : tabData l = true) : ∀ t' ti', lookT l t' = some ti' → (∀ e, ti'.k = .slice e → ∀ ei, lookT l e = some ei → ei.k ≠ .other ∧ ∀ n e', ei.k ≠ .arr n e') ∧ (∀ fs, ti'.k = .struct fs → ∀ o ft fi, (o, ft) ∈ fs → lookT l ft = some fi → fi.k ≠ .other ∧ ∀ n e', fi.k ≠ .arr n e') := by
 intro t ti ht
 have h1 := List.all_eq_true.1 h _ (lookT_mem ht)
 refine ⟨?_, ?_⟩
 ·intro e hk ei hei
  simp only [hk, hei] at h1
  refine ⟨fun hc => by rw [hc] at h1; simp at h1, fun n e' hc => by rw [hc] at h1; simp at h1⟩
 ·intro fs hk o ft fi hm hfi
  simp only [hk] at h1
  have h2 := List.all_eq_true.1 h1 _ hm
  simp only [hfi] at h2
  refine ⟨fun hc => by rw [hc] at h2; simp at h2, fun n e' hc => by rw [hc] at h2; simp at h2⟩
theorem arg_plain {H : Type} {enc : TypeId × Value → H} {P : Program} {l : List (TypeId × TI)} (hT : TabOk P (lookT l)) (hW : tabWhole l = true) (hD : tabData l = true) {w : World} {t : TypeId} {ti : TI} {v : Value} {d : DataW H} {ps : List MemPlace}
 (ht : lookT l t = some ti) (hk : isAggK ti.k = false) (hno : ti.k ≠ .other) (hv1 : v.cells = #[v]) (h : DataW.Trod enc P w 0 (fun _ => true) true t v d ps) (hwt : ∀ x ∈ d.weights P t, x ≤ reachBytes) :
 ∃ x, TyV (lookT l) t [x] ∧ Val (g0 w) w x v := by
 obtain ⟨fuel, hf⟩ := h
 obtain ⟨xs, h1, h2⟩ := open_data hT hW fuel t ti _ d ps ht hno (fun n e hc => by rw [hc] at hk; simp [isAggK] at hk) (tabData_ok hD) hf hwt
 rw [hv1] at h2
 match xs, h2 with
 | [x], h2 => exact ⟨x, h1, .cell _ _ h2.1⟩
def LbIn (W : World) : Prop := (∀ b c, lbTab b = some c → ∃ e, W.heap[b]? = some (.cells c e (0, 0))) ∧ ∀ b, lbErr b = true → ∃ t p e, W.heap[b]? = some (.cells #[.iface t p] e (0, 0))
theorem LbIn.lt' {W : World} (h : LbIn W) {b : Nat} (hb : lbErr b = true) : b < W.heap.size := by
 obtain ⟨t, p, e, hh⟩ := h.2 b hb
 rcases Nat.lt_or_ge b W.heap.size with h' | h'
 ·exact h'
 ·simp [Array.getElem?_eq_none h'] at hh
theorem LbIn.lt {W : World} (h : LbIn W) {b : Nat} {c : Array Value} (hb : lbTab b = some c) : b < W.heap.size := by
 obtain ⟨e, hh⟩ := h.1 b c hb
 rcases Nat.lt_or_ge b W.heap.size with h' | h'
 ·exact h'
 ·simp [Array.getElem?_eq_none h'] at hh
theorem FnA.row {P : Program} {f : FuncId} {xs : List AV} (h : FnA P f false xs [] (fun r os ros => r = .bool true ∧ os = [] ∧ ros = [])) {vs : Array Value} {W : World} (hl : vs.size = xs.length)
 (hv : ∀ (k : Nat) (x : AV) (u : Value), xs[k]? = some x → vs[k]? = some u → Val (g0 W) W x u) (hT : LbIn W := by exact ⟨by intro b c h; simp [lbTab] at h, by intro b h; simp [lbErr] at h⟩) : Calls P f vs W fun e W' => e = .returned (.bool true) ∧ Below W.heap.size W W' := by
 refine (h.calls vs W (g0 W) rfl hl hv (fun b p hb => by simp [g0] at hb) ⟨fun b hb => by
  rcases hb with hb | hb
  ·exact hb.2
  ·exact hb, fun b c hb => ⟨⟨.inl (by rw [hb]; rfl), hT.lt hb⟩, hT.1 b c hb⟩, fun b hb => ⟨⟨.inr hb, hT.lt' hb⟩, hT.2 b hb⟩⟩ (fun i sz es hi => by simp at hi)).mono ?_
 rintro e W' ⟨v, r, os', ros, g', rfl, ⟨rfl, _, _⟩, hk, _, _, _, _, _, _, _, hval⟩
 obtain rfl := hval.bool_inv
 exact ⟨rfl, hk.os, hk.tape, hk.output, hk.size, fun k hk' => (hk.old k hk' rfl).1⟩
theorem TyV.str_inv {T : Tab} {t : TypeId} {xs : List AV} {ti : TI} (h : TyV T t xs) (ht : T t = some ti) (hk : ti.k = .str) : ∃ s : List UInt8, xs = [.str s] ∧ s.length ≤ reachBytes := by
 cases h with
 | str _ s ti' h1 h2 h3 => exact ⟨s, rfl, h3⟩
 | int _ k n ti' h1 h2 => rw [h1] at ht; obtain rfl := Option.some.inj ht; rw [h2] at hk; simp at hk
 | bool _ b ti' h1 h2 => rw [h1] at ht; obtain rfl := Option.some.inj ht; rw [h2] at hk; simp at hk
 | slice _ e es ti' ei h1 h2 => rw [h1] at ht; obtain rfl := Option.some.inj ht; rw [h2] at hk; simp at hk
 | struct _ fs parts ti' h1 h2 => rw [h1] at ht; obtain rfl := Option.some.inj ht; rw [h2] at hk; simp at hk
theorem TyV.int_inv {T : Tab} {t : TypeId} {xs : List AV} {ti : TI} {k : IntKind} (h : TyV T t xs) (ht : T t = some ti) (hk : ti.k = .int k) : ∃ n : Int, xs = [.int k n] ∧ inB k n := by
 cases h with
 | str _ s ti' h1 h2 h3 => rw [h1] at ht; obtain rfl := Option.some.inj ht; rw [h2] at hk; simp at hk
 | int _ k' n ti' h1 h2 h3 => rw [h1] at ht; obtain rfl := Option.some.inj ht; rw [h2] at hk; simp only [TK.int.injEq] at hk; subst hk; exact ⟨n, rfl, h3⟩
 | bool _ b ti' h1 h2 => rw [h1] at ht; obtain rfl := Option.some.inj ht; rw [h2] at hk; simp at hk
 | slice _ e es ti' ei h1 h2 => rw [h1] at ht; obtain rfl := Option.some.inj ht; rw [h2] at hk; simp at hk
 | struct _ fs parts ti' h1 h2 => rw [h1] at ht; obtain rfl := Option.some.inj ht; rw [h2] at hk; simp at hk
theorem TyV.bool_inv {T : Tab} {t : TypeId} {xs : List AV} {ti : TI} (h : TyV T t xs) (ht : T t = some ti) (hk : ti.k = .bool) : ∃ b : Bool, xs = [.bool b] := by
 cases h with
 | str _ s ti' h1 h2 h3 => rw [h1] at ht; obtain rfl := Option.some.inj ht; rw [h2] at hk; simp at hk
 | int _ k' n ti' h1 h2 h3 => rw [h1] at ht; obtain rfl := Option.some.inj ht; rw [h2] at hk; simp at hk
 | bool _ b ti' h1 h2 => exact ⟨b, rfl⟩
 | slice _ e es ti' ei h1 h2 => rw [h1] at ht; obtain rfl := Option.some.inj ht; rw [h2] at hk; simp at hk
 | struct _ fs parts ti' h1 h2 => rw [h1] at ht; obtain rfl := Option.some.inj ht; rw [h2] at hk; simp at hk
end Go.Proofs.YtiilnlihimdnlaaGreatDoorFw
/- Calls that take what they are given: objects that are handed over for good. -/
namespace Go.Proofs.YtiilnlihimdnlaaGreatDoorFw
open Go Go.RowKit
set_option linter.unusedVariables false
set_option linter.unusedSimpArgs false
def CallsG (P : Program) (f : FuncId) (st : Bool) (xs : List AV) (os gs : List (Nat × List AV)) (R : AV → List (Nat × List AV) → List (Nat × List AV) → Prop) : Prop :=
 ∀ (vs : Array Value) (w : World) (g : Gh), g.st = st → vs.size = xs.length → (∀ (k : Nat) (x : AV) (u : Value), xs[k]? = some x → vs[k]? = some u → Val g w x u) →
  (∀ b p, g.own b = some p → ¬ g.perm b ∧ ¬ g.bor b ∧ b < w.heap.size) → RdOk g w →
  (∀ i sz es, os[i]? = some (sz, es) → ∃ v, Cell g w (.at i []) (.row .own sz es) v) →
  (∀ i sz es, gs[i]? = some (sz, es) → ∃ v, Cell g w (.at (50 + i) []) (.row .own sz es) v) →
  Calls P f vs w fun e w' => ∃ v r os' ros g', e = .returned v ∧ R r os' ros ∧ Keep g w g' w' ∧ os'.length = os.length ∧ ros.length ≤ 64 ∧
   (∀ b p, g'.own b = some p → ¬ g'.perm b ∧ ¬ g'.bor b ∧ b < w'.heap.size) ∧ RdOk g' w' ∧
   (∀ i sz es, os'[i]? = some (sz, es) → noBoL es = true ∧ ∃ v, Cell g' w' (.at i []) (.row .own sz es) v) ∧
   (∀ i sz es, ros[i]? = some (sz, es) → noBoL es = true ∧ ∃ v, Cell g' w' (.at (100 + i) []) (.row .own sz es) v) ∧
   cleanR os.length ros.length r = true ∧ Val g' w' r v
def padL (ps pg : List Nat) : List Nat := ps ++ (List.range' 1000000000 (50 - ps.length) ++ pg)
theorem posL_app : ∀ (l m : List Nat) (id : Nat), posL (l ++ m) id = match posL l id with | some i => some i | none => (posL m id).map (· + l.length)
 | [], m, id => by simp only [List.nil_append, posL, List.length_nil, Nat.add_zero]; cases posL m id <;> rfl
 | x :: r, m, id => by
  simp only [List.cons_append, posL]
  by_cases h : x = id
  ·rw [if_pos h, if_pos h]
  ·rw [if_neg h, if_neg h, posL_app r m id]
   cases posL r id with
   | some i => rfl
   | none => cases posL m id <;> simp [Nat.add_assoc]
theorem posL_range : ∀ (n a id : Nat), id < a → posL (List.range' a n) id = none
 | 0, a, id, h => rfl
 | n + 1, a, id, h => by
  simp only [List.range'_succ, posL]
  rw [if_neg (by omega), posL_range n (a + 1) id (by omega)]; rfl
theorem posL_padL {ps pg : List Nat} {id : Nat} (h : id < 1000000000) (hl : ps.length ≤ 50) : posL (padL ps pg) id = match posL ps id with | some i => some i | none => (posL pg id).map (· + 50) := by
 unfold padL
 rw [posL_app, posL_app, posL_range _ _ _ h]
 cases hp : posL ps id with
 | some i => rfl
 | none =>
  simp only [List.length_range']
  cases posL pg id with
  | none => rfl
  | some j => simp only [Option.map_some, Option.some.injEq]; omega
def dropL : List Obj → List Nat → List Obj
 | objs, [] => objs
 | objs, i :: r => dropO (dropL objs r) i
theorem lookO_dropL : ∀ (l : List Nat) (objs : List Obj) (id : Nat), lookO (dropL objs l) id = match posL l id with | some _ => none | none => lookO objs id
 | [], objs, id => rfl
 | x :: r, objs, id => by
  simp only [dropL, lookO_dropO, posL]
  by_cases e : x = id
  ·rw [if_pos e, if_pos e]
  ·rw [if_neg e, if_neg e, lookO_dropL r objs id]
   cases posL r id <;> rfl
def backFG (st : Bool) (ps pg : List Nat) (rid m : Nat) : Nat → Path → Option (Nat × Path) := fun id q =>
 match posL pg id with
 | some _ => none
 | none => backF st ps rid m id q
def St.backG (s : St) (st : Bool) (ps pg : List Nat) (os ros : List (Nat × List AV)) (d : Option Nat) (r : AV) (rid : Nat) : St :=
 ({ s with slots := mapS (backFG st ps pg rid ros.length) s.slots, objs := setRL (setOL (dropL s.objs pg) ps os) rid ros } : St).put d (mapRef (backR ps rid) r)
def gBackG (g g1 : Gh) (ps pp : List Nat) (rid m : Nat) : Gh where
 loc := fun id q => if rid ≤ id ∧ id < rid + m then g1.loc (100 + (id - rid)) q else match posL ps id with | some i => g1.loc i q | none => g.loc id q
 own := fun b =>
  match g1.own b with
  | some (i, q) => (match ps[i]? with | some id => some (id, q) | none => if 100 ≤ i ∧ i < 100 + m then some (rid + (i - 100), q) else none)
  | none => match g.own b with | some (id, q) => if (posL pp id).isSome ∨ (rid ≤ id ∧ id < rid + m) then none else some (id, q) | none => none
 perm := g1.perm
 bor := g.bor
 st := g.st
def smallL : List Obj → Bool
 | [] => true
 | o :: r => decide (o.id < 1000000000) && smallL r
theorem smallL_ok : ∀ {l : List Obj}, smallL l = true → ∀ {id : Nat} {p : Nat × List AV}, lookO l id = some p → id < 1000000000
 | [], _, _, _, h => by simp [lookO] at h
 | o :: r, h, id, p, hl => by
  simp only [smallL, Bool.and_eq_true, decide_eq_true_eq] at h
  simp only [lookO] at hl
  split at hl
  ·rename_i e; subst e; exact h.1
  ·exact smallL_ok h.2 hl
theorem posL_padL_none {ps pg : List Nat} {id : Nat} (h : posL (padL ps pg) id = none) : posL ps id = none ∧ posL pg id = none := by
 unfold padL at h
 rw [posL_app, posL_app] at h
 cases hp : posL ps id with
 | some i => rw [hp] at h; simp at h
 | none =>
  rw [hp] at h
  refine ⟨rfl, ?_⟩
  cases hq : posL (List.range' 1000000000 (50 - ps.length)) id with
  | some i => rw [hq] at h; simp at h
  | none =>
   rw [hq] at h
   cases hg : posL pg id with
   | none => rfl
   | some j => rw [hg] at h; simp at h
theorem callG_ok {P : Program} {s : St} {a : Act} {w : World} {g : Gh} (hs : Sim s a w g) {f : FuncId} {st : Bool} {xs ys : List AV} {os gs : List (Nat × List AV)} {ps pg : List Nat} {R : AV → List (Nat × List AV) → List (Nat × List AV) → Prop}
 (hc : CallsG P f st ys os gs R) (hn : (ps ++ pg).Nodup) (hl : ps.length ≤ 16) (hsm : (ps ++ pg).all (· < 1000000000) = true) (hos : smallL s.objs = true) (hp : passL s.objs ps = some os) (hpg : passL s.objs pg = some gs) (hy : argAL s (padL ps pg) xs = some ys) {vs : Array Value}
 (hvl : vs.size = xs.length) (hv : ∀ (k : Nat) (x : AV) (u : Value), xs[k]? = some x → vs[k]? = some u → Val g w x u) {d : Option Nat} (hd : s.fits d = true) {rid : Nat} (hr16 : 16 ≤ rid)
 (hrp : apartL (ps ++ pg) rid = true) (hg16 : all16 pg = true) (hst : s.st = false ∨ st = true ∨ all16 ps = true) :
 Calls P f vs w fun e w' => ∃ v r os' ros g', e = .returned v ∧ R r os' ros ∧ os'.length = os.length ∧ Keep g w g' w' ∧ Sim (s.backG st ps pg os' ros d r rid) (a.put d v) w' g' := by
 have hL := gCall_lends hs.h (padL ps pg) st
 obtain ⟨hyl, hyg⟩ := argAL_get s (padL ps pg) hy
 obtain ⟨hol, hog⟩ := passL_get hp
 obtain ⟨hgl, hgg⟩ := passL_get hpg
 have hsmall : ∀ id ∈ ps ++ pg, id < 1000000000 := fun id hid => by simpa using List.all_eq_true.1 hsm id hid
 have hnps1 := (List.nodup_append.1 hn).1
 have hnpg1 := (List.nodup_append.1 hn).2.1
 have hps : ∀ id i, posL ps id = some i → posL (padL ps pg) id = some i := fun id i h => by
  unfold padL; rw [posL_app, h]
 have hpgp : ∀ id i, posL pg id = some i → posL (padL ps pg) id = some (50 + i) := fun id i h => by
  have hm := List.mem_of_getElem? (posL_some h)
  rw [posL_padL (hsmall id (List.mem_append_right _ hm)) (by omega)]
  cases hq : posL ps id with
  | some j => exact absurd rfl ((List.nodup_append.1 hn).2.2 id (List.mem_of_getElem? (posL_some hq)) id hm)
  | none => rw [h]; simp [Nat.add_comm]
 have hpsn : ∀ id, posL (padL ps pg) id = none → posL ps id = none := fun id h => (posL_padL_none h).1
 have hown0 : ∀ b, g.own b = none → (gCall g (padL ps pg) st).own b = none := fun b hb => by simp [gCall, hb]
 have h := hc vs w (gCall g (padL ps pg) st) rfl (by omega) (fun k y u h1 h2 => by
  obtain ⟨x, h3, h4⟩ := hyg k y h1
  exact argA_ok hs hL (hv k x u h3 h2) y h4)
  (fun b p hb => by
    obtain ⟨id, ho, hi⟩ := gCall_own hb
    have := hs.h.sep b _ ho
    refine ⟨this.1, ?_, this.2.2⟩
    rintro (h1 | ⟨id', q', h1, h2⟩)
    ·exact this.2.1 h1
    ·rw [ho] at h1
     simp only [Option.some.injEq, Prod.mk.injEq] at h1
     rw [← h1.1, hi] at h2
     simp at h2)
  ⟨fun b hb => by
   rcases hb with hb | hb | ⟨id, q, hb, _⟩
   ·exact hs.h.rdlt b (.inl hb)
   ·exact hs.h.rdlt b (.inr hb)
   ·exact (hs.h.sep b _ hb).2.2, hs.h.rdlt.gl, hs.h.rdlt.ge⟩
  (fun i sz es hi => by
    obtain ⟨id, h1, h2⟩ := hog i _ hi
    obtain ⟨v, hv⟩ := hs.h.obj id sz es h2
    have hpi := hps _ _ (posL_get hnps1 h1)
    exact ⟨v, hv.move hL.rd id [] i [] rfl (fun b r hb => ⟨rfl, by simp only [gCall, hb, hpi]; rfl⟩) (fun r => by simp only [gCall, posL_some hpi])⟩)
  (fun i sz es hi => by
    obtain ⟨id, h1, h2⟩ := hgg i _ hi
    obtain ⟨v, hv⟩ := hs.h.obj id sz es h2
    have hpi := hpgp _ _ (posL_get hnpg1 h1)
    exact ⟨v, hv.move hL.rd id [] (50 + i) [] rfl (fun b r hb => ⟨rfl, by simp only [gCall, hb, hpi]; rfl⟩) (fun r => by simp only [gCall, posL_some hpi])⟩)
 refine h.mono ?_
 rintro e w1 ⟨v, r, os', ros, g1, rfl, hR, hK, hol', hr64, hsep, hrdlt, hobj, hros, hcl, hval⟩
 have hg1 : ∀ b, b < w.heap.size → (gCall g (padL ps pg) st).own b = none → w1.heap[b]? = w.heap[b]? ∧ g1.own b = none := hK.old
 have hnps : ∀ b id q, g.own b = some (id, q) → posL (padL ps pg) id = none → (gCall g (padL ps pg) st).own b = none := fun b id q ho hi => by simp [gCall, ho, hi]
 have hnown : ∀ b, (g.perm b ∨ g.bor b) → g.own b = none := fun b hb => by
  cases ho : g.own b with
  | none => rfl
  | some p =>
   have := hs.h.sep b p ho
   rcases hb with hb | hb
   ·exact absurd hb this.1
   ·exact absurd hb this.2.1
 have hrd : RdKeep g w (gBackG g g1 ps (padL ps pg) rid ros.length) w1 :=
  ⟨fun b hb => ⟨hK.perm b hb, (hg1 b (hs.h.rdlt b (.inl hb)) (hown0 b (hnown b (.inl hb)))).1⟩, fun b hb => ⟨.inr hb, (hg1 b (hs.h.rdlt b (.inr hb)) (hown0 b (hnown b (.inr hb)))).1⟩⟩
 have hpk : PermKeep g1 w1 (gBackG g g1 ps (padL ps pg) rid ros.length) w1 := fun b hb => ⟨hb, rfl⟩
 have hroot : ∀ id i q, posL ps id = some i → (q = [] ∨ st = true) → g1.loc i q = g.loc id q := fun id i q hi hq => by
  have hlt : i < 16 := by have := lt_of_get (posL_some hi); omega
  rw [hK.root i q hlt hq]
  exact hL.loc id i q (hps _ _ hi)
 have hap : ∀ {id i : Nat}, posL ps id = some i → id < rid ∨ rid + 64 ≤ id := fun {id i} hi => by
  refine apartL_ok hrp (id := id) (i := i) ?_
  rw [posL_app, hi]
 have hin : ∀ {id i : Nat}, posL ps id = some i → ¬ (rid ≤ id ∧ id < rid + ros.length) := fun hi h => by
  rcases hap hi with h1 | h1 <;> omega
 have hK2 : Keep g w (gBackG g g1 ps (padL ps pg) rid ros.length) w1 := by
  refine ⟨hK.os, hK.tape, hK.output, hK.size, ?_, hK.perm, ?_, fun b => Iff.rfl, ?_, rfl⟩
  ·intro b hb ho
   obtain ⟨h1, h2⟩ := hg1 b hb (hown0 b ho)
   exact ⟨h1, by simp only [gBackG, h2, ho]⟩
  ·intro b hb h1
   rcases hK.permo b hb h1 with h2 | h2
   ·exact .inl h2
   ·obtain ⟨p, hp⟩ := Option.isSome_iff_exists.1 h2
    obtain ⟨id, ho, _⟩ := gCall_own hp
    exact .inr (by rw [ho]; rfl)
  ·intro id q hid hq
   simp only [gBackG]
   rw [if_neg (by omega)]
   cases hi : posL ps id with
   | none => rfl
   | some i =>
    refine hroot id i q hi ?_
    rcases hq with hq | hq
    ·exact .inl hq
    ·rcases hst with h1 | h1 | h1
     ·rw [← hs.st, h1] at hq; simp at hq
     ·exact .inr h1
     ·have := all16_ok h1 hi; omega
 have hobjs : ∀ id sz es, lookO (setRL (setOL (dropL s.objs pg) ps os') rid ros) id = some (sz, es) → ∃ v, Cell (gBackG g g1 ps (padL ps pg) rid ros.length) w1 (.at id []) (.row .own sz es) v := by
  intro id sz es hlo
  rw [lookO_setRL] at hlo
  by_cases hR1 : rid ≤ id ∧ id < rid + ros.length
  ·rw [if_pos hR1] at hlo
   obtain ⟨hnb, v', hv'⟩ := hros (id - rid) sz es hlo
   refine ⟨v', (hv'.moveN hpk (by simpa [noBo] using hnb)).2 (100 + (id - rid)) [] id [] rfl ?_ ?_⟩
   ·intro b r hb
    refine ⟨rfl, ?_⟩
    simp only [gBackG, hb]
    rw [show ps[100 + (id - rid)]? = none from List.getElem?_eq_none (by omega)]
    simp only [List.nil_append]
    rw [if_pos (by omega)]
    congr 2
    omega
   ·intro r
    simp only [gBackG, if_pos hR1, List.nil_append]
  ·rw [if_neg hR1, lookO_setOL ps os' _ id (by omega)] at hlo
   cases hi : posL ps id with
   | some i =>
    rw [hi] at hlo
    obtain ⟨hnb, v', hv'⟩ := hobj i sz es hlo
    refine ⟨v', ((hv'.moveN hpk (by simpa [noBo] using hnb)).2 i [] id [] rfl ?_ ?_)⟩
    ·intro b r hb
     exact ⟨rfl, by simp only [gBackG, hb, posL_some hi]⟩
    ·intro r
     simp only [gBackG, if_neg hR1, hi]
   | none =>
    rw [hi] at hlo
    simp only [lookO_dropL] at hlo
    cases hig : posL pg id with
    | some i => rw [hig] at hlo; simp at hlo
    | none =>
     rw [hig] at hlo
     simp only at hlo
     have hpp : posL (padL ps pg) id = none := by rw [posL_padL (smallL_ok hos hlo) (by omega), hi, hig]; rfl
     obtain ⟨v', hv'⟩ := hs.h.obj id sz es hlo
     refine ⟨v', hv'.stay hrd ?_ ?_⟩
     ·intro b r hb
      obtain ⟨h1, h2⟩ := hg1 b (hs.h.sep b _ hb).2.2 (hnps b _ _ hb hpp)
      exact ⟨h1, by simp only [gBackG, h2, hb, hpp]; simp [hR1]⟩
     ·intro r
      simp only [gBackG, if_neg hR1, hi]
 have hsep2 : ∀ b p, (gBackG g g1 ps (padL ps pg) rid ros.length).own b = some p → ¬ (gBackG g g1 ps (padL ps pg) rid ros.length).perm b ∧ ¬ (gBackG g g1 ps (padL ps pg) rid ros.length).bor b ∧ b < w1.heap.size := by
  intro b p hb
  simp only [gBackG] at hb ⊢
  cases h1 : g1.own b with
  | some iq =>
   have := hsep b iq h1
   exact ⟨this.1, fun h2 => this.2.1 ((hK.bor b).2 (.inl h2)), this.2.2⟩
  | none =>
   rw [h1] at hb
   simp only at hb
   cases h2 : g.own b with
   | none => rw [h2] at hb; simp at hb
   | some jq =>
    obtain ⟨id, q⟩ := jq
    rw [h2] at hb
    simp only at hb
    split at hb
    ·simp at hb
    ·rename_i hcond
     have hs2 := hs.h.sep b _ h2
     have hpn : posL (padL ps pg) id = none := by
      cases hpi : posL (padL ps pg) id with
      | none => rfl
      | some i => exact absurd (.inl (by rw [hpi]; rfl)) hcond
     refine ⟨?_, hs2.2.1, Nat.lt_of_lt_of_le hs2.2.2 hK.size⟩
     intro h3
     rcases hK.permo b hs2.2.2 h3 with h4 | h4
     ·exact hs2.1 h4
     ·rw [hnps b id q h2 hpn] at h4; simp at h4
 have hrdlt2 : ∀ b, (gBackG g g1 ps (padL ps pg) rid ros.length).canRd b → b < w1.heap.size := by
  intro b hb
  rcases hb with hb | hb
  ·exact hrdlt b (.inl hb)
  ·exact Nat.lt_of_lt_of_le (hs.h.rdlt b (.inr hb)) hK.size
 have hF : ∀ id q id' q', backFG st ps pg rid ros.length id q = some (id', q') → (gBackG g g1 ps (padL ps pg) rid ros.length).loc id' q' = g.loc id q := by
  intro id q id' q' hf
  simp only [backFG] at hf
  cases hig : posL pg id with
  | some i => rw [hig] at hf; simp at hf
  | none =>
  rw [hig] at hf
  simp only [backF] at hf
  split at hf
  ·simp at hf
  ·rename_i hne
   cases hi : posL ps id with
   | some i =>
    rw [hi] at hf
    simp only at hf
    split at hf
    ·rename_i hst1
     simp only [Option.some.injEq, Prod.mk.injEq] at hf
     obtain ⟨rfl, rfl⟩ := hf
     simp only [gBackG, if_neg hne, hi]
     exact hroot _ _ _ hi (.inr hst1)
    ·split at hf
     ·simp only [Option.some.injEq, Prod.mk.injEq] at hf
      obtain ⟨rfl, rfl⟩ := hf
      simp only [gBackG, if_neg hne, hi]
      exact hroot _ _ _ hi (.inl rfl)
     ·simp at hf
   | none =>
    rw [hi] at hf
    simp only [Option.some.injEq, Prod.mk.injEq] at hf
    obtain ⟨rfl, rfl⟩ := hf
    simp only [gBackG, if_neg hne, hi]
 have hval2 : Val (gBackG g g1 ps (padL ps pg) rid ros.length) w1 (mapRef (backR ps rid) r) v := by
  refine hval.backTo hpk ?_ hcl
  intro id q hok
  simp only [okRef, Bool.or_eq_true, Bool.and_eq_true, decide_eq_true_eq] at hok
  simp only [backR]
  rcases hok with hok | ⟨hok1, hok2⟩
  ·have hlt : id < ps.length := by omega
   obtain ⟨j, hj⟩ : ∃ j, ps[id]? = some j := ⟨ps[id], List.getElem?_eq_getElem hlt⟩
   refine ⟨j, by rw [hj], ?_⟩
   have hpj := posL_get hnps1 hj
   simp only [gBackG, if_neg (hin hpj), hpj]
  ·rw [show ps[id]? = none from List.getElem?_eq_none (by omega)]
   refine ⟨rid + (id - 100), by simp only; rw [if_pos hok1], ?_⟩
   simp only [gBackG]
   rw [if_pos (by omega)]
   congr 1
   omega
 have hH : HSim (setRL (setOL (dropL s.objs pg) ps os') rid ros) w1 (gBackG g g1 ps (padL ps pg) rid ros.length) := ⟨hobjs, hsep2, hs.h.rdlt.move hrd hrdlt2⟩
 refine ⟨v, r, os', ros, _, rfl, hR, hol', hK2, ?_⟩
 exact (hs.turn hrd hF hH).put (d := d) hd hval2
structure FnG (P : Program) (f : FuncId) (st : Bool) (xs : List AV) (os gs : List (Nat × List AV)) (R : AV → List (Nat × List AV) → List (Nat × List AV) → Prop) : Prop where
 ok : FnOk P f
 calls : CallsG P f st xs os gs R
theorem FnG.mono {P : Program} {f : FuncId} {st : Bool} {xs : List AV} {os gs : List (Nat × List AV)} {R R' : AV → List (Nat × List AV) → List (Nat × List AV) → Prop} (h : FnG P f st xs os gs R) (hr : ∀ r os' ros, R r os' ros → R' r os' ros) : FnG P f st xs os gs R' :=
 ⟨h.ok, fun vs w g h0 h1 h2 h3 h4 h5 h6 => (h.calls vs w g h0 h1 h2 h3 h4 h5 h6).mono fun e w' ⟨v, r, os', ros, g', k1, k2, k3⟩ => ⟨v, r, os', ros, g', k1, hr _ _ _ k2, k3⟩⟩
theorem RunsL.callG {P : Program} {all : Array Oper} {o : Oper} {os : List Oper} {s : St} {K : St → Prop} {c : Call} {f : FuncId} {st : Bool} {xs ys : List AV} {ob og : List (Nat × List AV)} {ps pg : List Nat} {R : AV → List (Nat × List AV) → List (Nat × List AV) → Prop} {rid : Nat}
 (hw : wantA all s o = some true) (hop : o.op = .call c) (hcal : c.callee = .value (.func f)) (hx : evAll s c.args.toList = some xs) (hp : passL s.objs ps = some ob) (hpg : passL s.objs pg = some og) (hy : argAL s (padL ps pg) xs = some ys)
 (hc : FnG P f st ys ob og R) (hfit : s.fits o.dst = true) (hr : 16 ≤ rid)
 (hn : (ps ++ pg).Nodup ∧ ps.length ≤ 16 ∧ (ps ++ pg).all (· < 1000000000) = true ∧ apartL (ps ++ pg) rid = true ∧ all16 pg = true) (hos : smallL s.objs = true) (hst : s.st = false ∨ st = true ∨ all16 ps = true)
 (h : ∀ r os' ros, R r os' ros → os'.length = ob.length → RunsL P all os (s.backG st ps pg os' ros o.dst r rid) K) : RunsL P all (o :: os) s K := by
 intro a w g hs Q hQ l hl
 cases l with
 | nil => simp at hl
 | cons i l =>
  simp only [List.map_cons, List.cons.injEq] at hl
  obtain ⟨hi, hl⟩ := hl
  obtain ⟨i1, i2⟩ := evAll_get hx
  simp only [wpOps, hi, wantA_ok hw hs, if_true]
  refine .inl ?_
  have hrun : (execOp a.eval o).run P w = .ok (.enter f (c.args.map a.eval)) w := by
   unfold execOp
   simp only [hop, resolve, hcal, Act.eval, Deferred.ofValue]
   simp only [pure_bind, invoke]
   rw [show (#[] ++ Array.map a.eval c.args ++ #[] : Array Value) = Array.map a.eval c.args by simp]
   exact run_callFunc hc.ok _ _
  simp only [Oper.wp, hrun, Oper.upon_enter]
  refine (callG_ok hs hc.calls hn.1 hn.2.1 hn.2.2.1 hos hp hpg hy (vs := c.args.map a.eval) (by simp [i1]) ?_ hfit hr hn.2.2.2.1 hn.2.2.2.2 hst).mono ?_
  ·intro k x u hk hu
   obtain ⟨o', h1, h2⟩ := i2 k x hk
   have : u = a.eval o' := by
    rw [Array.getElem?_map] at hu
    have h1' : c.args[k]? = some o' := by simpa using h1
    rw [h1'] at hu
    exact (Option.some.inj hu).symm
   subst this
   exact hs.ev h2
  ·rintro e w1 ⟨v, r, os', ros, g1, rfl, hR, hlen, hk, hsim⟩
   exact h r os' ros hR hlen _ w1 g1 hsim Q (fun a' w' g' s' h1 h2 h3 => hQ a' w' g' s' h1 (hk.trans h2) h3) l hl
theorem lookO_app : ∀ (l m : List Obj) (id : Nat), lookO (l ++ m) id = match lookO l id with | some p => some p | none => lookO m id
 | [], m, id => rfl
 | o :: r, m, id => by
  simp only [List.cons_append, lookO]
  by_cases h : o.id = id
  ·rw [if_pos h, if_pos h]
  ·rw [if_neg h, if_neg h, lookO_app r m id]
theorem FnG.of {P : Program} {f : FuncId} {fn : Func} {c : Code} {st : Bool} {xs : List AV} {os gs : List (Nat × List AV)} {R : AV → List (Nat × List AV) → List (Nat × List AV) → Prop}
 (hf : P.funcs[f]? = some fn) (hb : fn.body = some c) (hn : (fn.name == "runtime.NumGoroutine") = false) {nt : Nat} (hnt0 : fn.ntmps = nt) (hnt1 : xs.length ≤ nt) (ho50 : os.length ≤ 50)
 (h0 : RunsA P c ⟨nt, zipS 0 xs, zipO 0 os ++ zipO 50 gs, st⟩ (endA (RetA P fn os.length R))) : FnG P f st xs os gs R := by
 subst hnt0
 have hnt := hnt1
 refine ⟨⟨fn, hf, by rw [hb]; rfl, hn⟩, ?_⟩
 intro vs w g hst hvl hv hsep hrd hob hobg
 refine calls_of_wp hf hb ?_
 have hs : Sim ⟨fn.ntmps, zipS 0 xs, zipO 0 os ++ zipO 50 gs, st⟩ { tmps := vs ++ Array.replicate (fn.ntmps - vs.size) undef, defers := [] } w g := by
  refine ⟨by simp; omega, rfl, ?_, ⟨?_, hsep, hrd⟩, hst.symm⟩
  ·intro t x hx
   simp only [lookS_zipS, Nat.zero_le, if_true, Nat.sub_zero] at hx
   have hlt := lt_of_get hx
   have hlt2 : t < vs.size := by omega
   refine ⟨vs[t], ?_, hv t x _ hx (Array.getElem?_eq_getElem hlt2)⟩
   rw [Array.getElem?_append_left hlt2, Array.getElem?_eq_getElem hlt2]
  ·intro id sz es hl
   rw [lookO_app] at hl
   simp only [lookO_zipO, Nat.zero_le, if_true, Nat.sub_zero] at hl
   cases hi : os[id]? with
   | some p => rw [hi] at hl; simp only at hl; exact hob id sz es (hi.trans hl)
   | none =>
    rw [hi] at hl
    simp only at hl
    split at hl
    ·rename_i h50
     obtain ⟨v, hv⟩ := hobg (id - 50) sz es hl
     rw [show 50 + (id - 50) = id by omega] at hv
     exact ⟨v, hv⟩
    ·simp at hl
 refine wp_mono (h0 _ w g hs) ?_
 rintro e a' w' ⟨ae, s', g', rfl, hq, hsim, hk⟩
 have key : ∀ hR : RetA P fn os.length R s', bodyPost P fn (fun e w' => ∃ v r os' ros g', e = .returned v ∧ R r os' ros ∧ Keep g w g' w' ∧ os'.length = os.length ∧ ros.length ≤ 64 ∧
  (∀ b p, g'.own b = some p → ¬ g'.perm b ∧ ¬ g'.bor b ∧ b < w'.heap.size) ∧ RdOk g' w' ∧
  (∀ i sz es, os'[i]? = some (sz, es) → noBoL es = true ∧ ∃ v, Cell g' w' (.at i []) (.row .own sz es) v) ∧
  (∀ i sz es, ros[i]? = some (sz, es) → noBoL es = true ∧ ∃ v, Cell g' w' (.at (100 + i) []) (.row .own sz es) v) ∧
  cleanR os.length ros.length r = true ∧ Val g' w' r v) .ret a' w' := by
  intro hR
  obtain ⟨v, r, os', ros, g2, h1, h2, h3, h4⟩ := hR a' w' g' hsim
  exact ⟨hsim.defers, v, h1, v, r, os', ros, g2, rfl, h2, hk.trans h3, h4⟩
 cases ae with
 | normal => exact key hq
 | exit id => exact hq.elim
 | ret => exact key hq
attribute [go_sem] posL_padL backFG St.backG dropL lookO_app
end Go.Proofs.YtiilnlihimdnlaaGreatDoorFw
/- Structs of numbers, told apart. -/
namespace Go.Proofs.YtiilnlihimdnlaaGreatDoorFw
open Go Go.RowKit
set_option linter.unusedVariables false
set_option linter.unusedSimpArgs false
end Go.Proofs.YtiilnlihimdnlaaGreatDoorFw
/- Slots that are no longer looked at. -/
namespace Go.Proofs.YtiilnlihimdnlaaGreatDoorFw
open Go Go.RowKit
set_option linter.unusedVariables false
def pruneS (m : Nat) (ex : List Nat) : List (Nat × AV) → List (Nat × AV)
 | [] => []
 | (t, x) :: r => if t < m then (t, x) :: pruneS m ex r else if ex.contains t = true then (t, x) :: pruneS m ex r else pruneS m ex r
theorem lookS_pruneS (m : Nat) (ex : List Nat) : ∀ (l : List (Nat × AV)) (t : Nat) (x : AV), lookS (pruneS m ex l) t = some x → lookS l t = some x
 | [], t, x, h => by simp [pruneS, lookS] at h
 | (u, y) :: r, t, x, h => by
  have ih := lookS_pruneS m ex r t x
  have key : ∀ (k : Nat → Bool), True := fun _ => trivial
  simp only [pruneS] at h
  by_cases h1 : u < m
  ·rw [if_pos h1] at h
   simp only [lookS] at h ⊢
   by_cases e : u = t
   ·rw [if_pos e] at h ⊢; exact h
   ·rw [if_neg e] at h ⊢; exact ih h
  ·rw [if_neg h1] at h
   by_cases h2 : ex.contains u = true
   ·rw [if_pos h2] at h
    simp only [lookS] at h ⊢
    by_cases e : u = t
    ·rw [if_pos e] at h ⊢; exact h
    ·rw [if_neg e] at h ⊢; exact ih h
   ·rw [if_neg h2] at h
    simp only [lookS]
    by_cases e : u = t
    ·-- not kept: nothing of this number is
     exfalso
     subst e
     have hn : ∀ (l : List (Nat × AV)), lookS (pruneS m ex l) u = none := by
      intro l
      induction l with
      | nil => rfl
      | cons p r ih2 =>
       obtain ⟨v, z⟩ := p
       simp only [pruneS]
       by_cases e2 : v = u
       ·subst e2; rw [if_neg h1, if_neg h2]; exact ih2
       ·split
        ·simp only [lookS, if_neg e2]; exact ih2
        ·split
         ·simp only [lookS, if_neg e2]; exact ih2
         ·exact ih2
     rw [hn] at h; simp at h
    ·rw [if_neg e]; exact ih h
theorem GhostStep.keep (s : St) (m : Nat) (ex : List Nat) : GhostStep s { s with slots := pruneS m ex s.slots } := fun a w g hs =>
 ⟨g, ⟨hs.nt, hs.defers, fun t x hx => hs.slot t x (lookS_pruneS m ex _ _ _ hx), hs.h, hs.st⟩, Keep.refl g w⟩
theorem RunsA.rk {P : Program} {T : Tab} (m : Nat) (ex : List Nat) (hT : TabOk P T) {id : Nat} {all : Array Oper} {s : St} {Q : AE → St → Prop}
 (h : ∀ J : List Oper → St → Prop, (∀ os' s', RunsL P all os' s' (fun s2 => At .normal s2 Q) → J os' s') → goA T all all.toList { s with slots := pruneS m ex s.slots } J) : RunsA P (.region id all false) s Q :=
 RunsA.ghost (GhostStep.keep s m ex) (RunsA.rq hT h)
attribute [go_sem] pruneS List.contains_nil
end Go.Proofs.YtiilnlihimdnlaaGreatDoorFw
/- Regions whose order is drawn: quiet operations, and behind them all some in their order. -/
namespace Go.Proofs.YtiilnlihimdnlaaGreatDoorFw
open Go Go.RowKit
set_option linter.unusedVariables false
def predsOf (all : Array Oper) (i : Nat) : List Nat :=
 match all[i]? with
 | none => []
 | some o => (o.after.toList.filter fun e => Region.binds .any e).map (·.on)
def reachOf (all : Array Oper) : Nat → List Nat → List Nat
 | 0, l => l
 | k + 1, l => l ++ reachOf all k (l.flatMap (predsOf all))
def tailOk (n1 : Nat) (all : Array Oper) : Bool :=
 decide (n1 < all.size) && ((List.range n1).all fun j => (reachOf all n1 (predsOf all n1)).contains j) &&
 ((List.range' (n1 + 1) (all.size - (n1 + 1))).all fun i => (predsOf all i).contains (i - 1))
def Down (all : Array Oper) (listed : Array Bool) : Prop := ∀ i, listed.getD i false = true → ∀ j ∈ predsOf all i, listed.getD j false = true
theorem Down.reach {all : Array Oper} {listed : Array Bool} (h : Down all listed) : ∀ (k : Nat) (l : List Nat), (∀ i ∈ l, listed.getD i false = true) → ∀ i ∈ reachOf all k l, listed.getD i false = true
 | 0, l, hl, i, hi => hl i hi
 | k + 1, l, hl, i, hi => by
  simp only [reachOf, List.mem_append] at hi
  rcases hi with hi | hi
  ·exact hl i hi
  ·refine Down.reach h k _ ?_ i hi
   intro j hj
   obtain ⟨m, hm, hj⟩ := List.mem_flatMap.1 hj
   exact h m (hl m hm) j hj
theorem ready_spec {all : Array Oper} {listed : Array Bool} {i : Nat} (hi : i ∈ Region.ready .any all listed) : ∃ o, all[i]? = some o ∧ i < all.size ∧ listed.getD i true = false ∧ ∀ j ∈ predsOf all i, listed.getD j false = true := by
 simp only [Region.ready, List.mem_filter, List.mem_range, Bool.and_eq_true, Bool.not_eq_true'] at hi
 obtain ⟨h1, h2, h3⟩ := hi
 cases ho : all[i]? with
 | none => simp [ho] at h3
 | some o =>
  refine ⟨o, rfl, h1, h2, ?_⟩
  rw [ho] at h3
  simp only [Option.map_some, Option.getD_some] at h3
  rw [Array.all_eq_true'] at h3
  intro j hj
  simp only [predsOf, ho, List.mem_map, List.mem_filter, Array.mem_toList_iff] at hj
  obtain ⟨e, ⟨he, hb⟩, rfl⟩ := hj
  have := h3 e he
  simpa [hb] using this
theorem mem_ready {all : Array Oper} {listed : Array Bool} {m : Nat} (hm1 : m < all.size) (hm2 : listed.getD m true = false) (hp : ∀ j ∈ predsOf all m, listed.getD j false = true) : m ∈ Region.ready .any all listed := by
 simp only [Region.ready, List.mem_filter, List.mem_range, Bool.and_eq_true, Bool.not_eq_true']
 refine ⟨hm1, hm2, ?_⟩
 have ho : all[m]? = some all[m] := Array.getElem?_eq_getElem hm1
 rw [ho]
 simp only [Option.map_some, Option.getD_some]
 rw [Array.all_eq_true']
 intro e' he
 cases hb : Region.binds .any e' with
 | false => rfl
 | true =>
  simp only [Bool.not_true, Bool.false_or]
  refine hp _ ?_
  simp only [predsOf, ho, List.mem_map, List.mem_filter, Array.mem_toList_iff]
  exact ⟨e', ⟨he, hb⟩, rfl⟩
theorem Down.set {all : Array Oper} {listed : Array Bool} (h : Down all listed) {i : Nat} (hi : ∀ j ∈ predsOf all i, listed.getD j false = true) : Down all (listed.setIfInBounds i true) := by
 have mono : ∀ j, listed.getD j false = true → (listed.setIfInBounds i true).getD j false = true := by
  intro j hj
  by_cases e : j = i
  ·subst e
   simp only [Array.getD_eq_getD_getElem?] at hj ⊢
   have : j < listed.size := by
    rcases Nat.lt_or_ge j listed.size with h' | h'
    ·exact h'
    ·simp [Array.getElem?_eq_none h'] at hj
   simp [this]
  ·simp only [Array.getD_eq_getD_getElem?, Array.getElem?_setIfInBounds_ne (fun h => e h.symm)] at hj ⊢
   exact hj
 intro m hm j hj
 by_cases e : m = i
 ·subst e; exact mono j (hi j hj)
 ·refine mono j (h m ?_ j hj)
  simp only [Array.getD_eq_getD_getElem?, Array.getElem?_setIfInBounds_ne (fun h => e h.symm)] at hm ⊢
  exact hm
structure UptoN (n1 : Nat) (all : Array Oper) (listed : Array Bool) (e s : St) : Prop where
 nt : s.nt = e.nt
 objs : s.objs = e.objs
 st : s.st = e.st
 look : ∀ t, (∀ (j : Nat) (o : Oper), j < n1 → all[j]? = some o → o.dst = some t → listed.getD j true = true) → lookS s.slots t = lookS e.slots t
theorem nOff_split {n1 m : Nat} {listed : Array Bool} (hsz : listed.size = n1 + m) (htl : ∀ i, n1 ≤ i → i < n1 + m → listed.getD i true = false) :
 nOff listed = (listed.toList.take n1).countP (! ·) + m := by
 unfold nOff
 have h1 : listed.toList = listed.toList.take n1 ++ listed.toList.drop n1 := (List.take_append_drop n1 _).symm
 rw [h1, List.countP_append]
 rw [← h1]
 congr 1
 have h2 : (listed.toList.drop n1).length = m := by simp [hsz]
 rw [← h2, List.countP_eq_length]
 intro b hb
 obtain ⟨i, hi⟩ := List.mem_iff_getElem?.1 hb
 rw [List.getElem?_drop, Array.getElem?_toList] at hi
 have hlt : n1 + i < listed.size := by
  rcases Nat.lt_or_ge (n1 + i) listed.size with h' | h'
  ·exact h'
  ·simp [Array.getElem?_eq_none h'] at hi
 have := htl (n1 + i) (by omega) (by omega)
 simp only [Array.getD_eq_getD_getElem?, hi, Option.getD_some] at this
 simp [this]
theorem take_all_listed {n1 : Nat} {listed : Array Bool} (h : (listed.toList.take n1).countP (! ·) = 0) {i : Nat} (hi : i < n1) (hs : i < listed.size) : listed.getD i true = true := by
 rw [List.countP_eq_zero] at h
 have hg : (listed.toList.take n1)[i]? = some listed[i] := by
  rw [List.getElem?_take, if_pos hi, Array.getElem?_toList, Array.getElem?_eq_getElem hs]
 have := h _ (List.mem_of_getElem? hg)
 simp only [Array.getD_eq_getD_getElem?, Array.getElem?_eq_getElem hs, Option.getD_some]
 simpa using this
attribute [go_sem] List.take_succ_cons List.take_zero List.drop_succ_cons List.drop_zero
end Go.Proofs.YtiilnlihimdnlaaGreatDoorFw
/- Regions whose order is drawn: quiet operations, one call that makes new objects, and behind them all some in their order. -/
namespace Go.Proofs.YtiilnlihimdnlaaGreatDoorFw
open Go Go.RowKit
set_option linter.unusedVariables false
def Ext (s s' : St) : Prop := ∀ id p, lookO s.objs id = some p → lookO s'.objs id = some p
theorem Ext.node {s s' : St} (h : Ext s s') {id : Nat} {q : Path} {p : Nat × List AV} (hn : s.node id q = some p) : s'.node id q = some p := by
 unfold St.node at hn ⊢
 split at hn
 ·rename_i rsz res hl; rw [h _ _ hl]; exact hn
 ·simp at hn
def QStepX (P : Program) (all : Array Oper) (o : Oper) (s : St) (y : AV) : Prop :=
 ∀ s' : St, s'.nt = s.nt → Ext s s' → s'.st = s.st → (∀ t ∈ o.looksAt all, lookS s'.slots t = lookS s.slots t) → IStep P all o s' (s'.put o.dst y)
def QRunsX (P : Program) (all : Array Oper) : List Oper → St → (St → Prop) → Prop
 | [], s, K => K s
 | o :: os, s, K => ∃ y, QStepX P all o s y ∧ QRunsX P all os (s.put o.dst y) K
theorem QStepX.skip {P : Program} {all : Array Oper} {o : Oper} {s : St} (hw : wantA all s o = some false) (hf : s.fits o.dst = true) : QStepX P all o s (.tup []) := by
 intro s' h1 h2 h3 h4 a w g hs K Q hK
 have hw' : wantA all s' o = some false := (wantA_congr h4).trans hw
 rw [wantA_ok hw' hs]
 simp only [if_false, Bool.false_eq_true]
 exact hK _ _ _ (hs.put ((fits_congr h1 _).trans hf) (.tup [] #[] rfl (fun k c u hc => by simp at hc))) (Keep.refl g w)
def goX (T : Tab) (all : Array Oper) : List Oper → St → (St → Prop) → Prop
 | [], s, J => J s
 | o :: os, s, J =>
  match wantA all s o with
  | some true =>
   match qval T s o with
   | some (p, y) => s.fits o.dst = true ∧ p ∧ goX T all os (s.put o.dst y) J
   | none => False
  | some false => s.fits o.dst = true ∧ goX T all os (s.put o.dst (.tup [])) J
  | none => False
theorem QRunsX.tell {P : Program} {all : Array Oper} {K : St → Prop} : ∀ {os : List Oper} {s : St}, QRunsX P all os s K →
 ∃ e : St, K e ∧ e.nt = s.nt ∧ e.objs = s.objs ∧ e.st = s.st ∧ (∀ t, (∀ (j : Nat) (o : Oper), os[j]? = some o → o.dst ≠ some t) → lookS e.slots t = lookS s.slots t) ∧
  ∀ (i : Nat) (o : Oper), os[i]? = some o → ∃ (si : St) (y : AV), QStepX P all o si y ∧ si.nt = s.nt ∧ si.objs = s.objs ∧ si.st = s.st ∧
   (∀ t, (∀ (j : Nat) (o' : Oper), i ≤ j → os[j]? = some o' → o'.dst ≠ some t) → lookS e.slots t = lookS si.slots t) ∧
   (∀ d, o.dst = some d → (∀ (j : Nat) (o' : Oper), i < j → os[j]? = some o' → o'.dst ≠ some d) → lookS e.slots d = some y)
 | [], s, h => ⟨s, h, rfl, rfl, rfl, fun _ _ => rfl, fun i o hi => by simp at hi⟩
 | o0 :: os, s, h => by
  obtain ⟨y, hq, hr⟩ := h
  obtain ⟨e, h1, h2, h3, h4, h5, h6⟩ := QRunsX.tell hr
  rw [put_nt] at h2
  rw [put_objs] at h3
  rw [put_st] at h4
  refine ⟨e, h1, h2, h3, h4, ?_, ?_⟩
  ·intro t ht
   rw [h5 t (fun j o hj => ht (j + 1) o (by simpa using hj)), put_look, if_neg (ht 0 o0 rfl)]
  ·intro i o hi
   cases i with
   | zero =>
    simp at hi; subst hi
    refine ⟨s, y, hq, rfl, rfl, rfl, ?_, ?_⟩
    ·intro t ht
     rw [h5 t (fun j o hj => ht (j + 1) o (Nat.zero_le _) (by simpa using hj)), put_look, if_neg (ht 0 o0 (Nat.le_refl _) rfl)]
    ·intro d hd ht
     rw [h5 d (fun j o hj => ht (j + 1) o (Nat.zero_lt_succ _) (by simpa using hj)), put_look, if_pos hd]
   | succ i =>
    obtain ⟨si, y', k1, k2, k3, k4, k5, k6⟩ := h6 i o (by simpa using hi)
    rw [put_nt] at k2
    rw [put_objs] at k3
    rw [put_st] at k4
    refine ⟨si, y', k1, k2, k3, k4, ?_, ?_⟩
    ·intro t ht
     exact k5 t (fun j o' hj ho => ht (j + 1) o' (by omega) (by simpa using ho))
    ·intro d hd ht
     exact k6 d hd (fun j o' hj ho => ht (j + 1) o' (by omega) (by simpa using ho))
end Go.Proofs.YtiilnlihimdnlaaGreatDoorFw
/- A drawn region with a call that makes new objects. -/
namespace Go.Proofs.YtiilnlihimdnlaaGreatDoorFw
open Go Go.RowKit
set_option linter.unusedVariables false
def freshO : List Obj → Nat → Bool
 | [], _ => true
 | o :: r, rid => (decide (o.id < rid) || decide (rid + 64 ≤ o.id)) && freshO r rid
structure Loud (P : Program) (all : Array Oper) (L : Nat) (e0 : St) (K : St → Prop) : Prop where
 ex : ∃ (o : Oper) (c : Call) (f : FuncId) (st : Bool) (xs ys : List AV) (R : AV → List (Nat × List AV) → List (Nat × List AV) → Prop) (rid : Nat) (r0 : AV) (ros0 : List (Nat × List AV)),
  all[L]? = some o ∧ wantA all e0 o = some true ∧ o.op = .call c ∧ c.callee = .value (.func f) ∧ evAll e0 c.args.toList = some xs ∧ argAL e0 [] xs = some ys ∧ FnA P f st ys [] R ∧ e0.fits o.dst = true ∧ 16 ≤ rid ∧
  (∀ r os ros, R r os ros → r = r0 ∧ ros = ros0) ∧ ros0.length ≤ 64 ∧ freshO e0.objs rid = true ∧ mapS (backF st [] rid ros0.length) e0.slots = e0.slots ∧ K (e0.back st [] [] ros0 o.dst r0 rid)
attribute [go_sem] goX
end Go.Proofs.YtiilnlihimdnlaaGreatDoorFw
/- A drawn region that makes an object and appends it to a row of an own object; one operation only moves. -/
namespace Go.Proofs.YtiilnlihimdnlaaGreatDoorFw
open Go Go.RowKit
set_option linter.unusedVariables false
theorem Ext.refl (s : St) : Ext s s := fun _ _ h => h
def delS : List (Nat × AV) → Nat → List (Nat × AV)
 | [], _ => []
 | (t, x) :: r, d => if t = d then delS r d else (t, x) :: delS r d
def St.del (s : St) (d : Nat) : St := { s with slots := delS s.slots d }
structure AppSt (P : Program) (T : Tab) (all : Array Oper) (L z dz d7 id7 : Nat) (v : AV) (e0 : St) (K : St → Prop) : Prop where
 ex : ∃ (o7 o8 oz : Oper) (sz : Nat) (es : List AV) (xz : Operand) (e2 e2' : St),
  all[L]? = some o7 ∧ o7.dst = some d7 ∧ all[L + 1]? = some o8 ∧ all[z]? = some oz ∧ oz.op = .move xz ∧ oz.dst = some dz ∧ oz.guard = none ∧
  (∀ s' : St, s'.nt = e0.nt → s'.objs = e0.objs → s'.st = e0.st → (∀ t ∈ o7.looksAt all, lookS s'.slots t = lookS e0.slots t) → IStep P all o7 s' (s'.newO d7 id7 sz es (.hd id7 []))) ∧
  mapS (killF id7) e0.slots = e0.slots ∧ lookO e0.objs id7 = none ∧ (∀ d, o8.dst = some d → lookS (e0.newO d7 id7 sz es (.hd id7 [])).slots d = none) ∧
  IStep P all o8 (e0.newO d7 id7 sz es (.hd id7 [])) e2 ∧ IStep P all o8 ((e0.newO d7 id7 sz es (.hd id7 [])).del dz) e2' ∧
  e2.nt = e0.nt ∧ e2.st = e0.st ∧ e2'.nt = e0.nt ∧ e2'.st = e0.st ∧ e2'.objs = e2.objs ∧ (∀ t, t ≠ dz → lookS e2'.slots t = lookS e2.slots t) ∧
  e2.ev xz = some v ∧ lookS e2.slots dz = some v ∧ dz < e0.nt ∧ K e2
end Go.Proofs.YtiilnlihimdnlaaGreatDoorFw
/- A drawn region that makes an object of a text and appends it: how it is told. -/
namespace Go.Proofs.YtiilnlihimdnlaaGreatDoorFw
open Go Go.RowKit
set_option linter.unusedVariables false
set_option linter.unusedSimpArgs false
attribute [go_sem] St.del delS
end Go.Proofs.YtiilnlihimdnlaaGreatDoorFw
/- Quiet operations, some at a time. -/
namespace Go.Proofs.YtiilnlihimdnlaaGreatDoorFw
open Go Go.RowKit
set_option linter.unusedVariables false
def goQh (T : Tab) (all : Array Oper) (os : List Oper) (s : St) (J : List Oper → St → Prop) : Prop := goQ T all os s J
theorem goQ_cut {T : Tab} {all : Array Oper} {J : List Oper → St → Prop} : ∀ (k : Nat) {os : List Oper} {s : St}, goQ T all (os.take k) s (fun os' s' => goQh T all (os' ++ os.drop k) s' J) → goQ T all os s J
 | 0, os, s, h => h
 | k + 1, [], s, h => h
 | k + 1, o :: r, s, h => by
  have key : (o :: List.take k r) ++ List.drop k r = o :: r := by rw [List.cons_append, List.take_append_drop]
  simp only [List.take_succ_cons, List.drop_succ_cons] at h
  rw [goQ] at h
  split at h
  ·rename_i hw
   split at h
   ·rw [key] at h; exact h
   ·rename_i hc
    split at h
    ·rename_i p y hv
     rw [goQ, hw]
     simp only [hc, hv, if_false, Bool.false_eq_true]
     exact ⟨h.1, h.2.1, goQ_cut k h.2.2⟩
    ·exact h.elim
  ·rename_i hw
   rw [goQ, hw]
   exact ⟨h.1, goQ_cut k h.2⟩
  ·rw [key] at h; exact h
theorem goQh.of {T : Tab} {all : Array Oper} {os : List Oper} {s : St} {J : List Oper → St → Prop} (h : goQ T all os s J) : goQh T all os s J := h
structure HN (m : Nat) (ex : List Nat) : Prop where
theorem rkH {P : Program} {T : Tab} {m : Nat} {ex : List Nat} (_ : HN m ex) (hT : TabOk P T) {id : Nat} {all : Array Oper} {s : St} {Q : AE → St → Prop}
 (h : ∀ J : List Oper → St → Prop, (∀ os' s', RunsL P all os' s' (fun s2 => At .normal s2 Q) → J os' s') → goA T all all.toList { s with slots := pruneS m ex s.slots } J) : RunsA P (.region id all false) s Q := RunsA.rk m ex hT h
theorem auto0_ { p q : Prop} (m : Nat) (ex : List Nat)  (h : q) (k : HN m ex → Held q → p := by (intro hm  hq; (repeat' (first | refine ⟨by omega, ?_⟩ | (refine hJ _ _ (RunsL.nil ?_); clear hJ J) | refine RunsA.cond rfl (fun h => ?_) (fun h => absurd h (by decide)) | refine RunsA.cond rfl (fun h => absurd h (by decide)) (fun h => ?_) | (refine step_ ?_) | (refine rkH hm tabOk fun J hJ => ?_; simp only [go_sem, ↓reduceIte, Nat.reduceAdd, Nat.reduceSub, Nat.reduceMul, Nat.reduceLT, Nat.reduceLeDiff, Nat.reduceEqDiff, Nat.reduceBEq, Int.reduceToNat, Bool.not_true, Bool.not_false, Int.reduceBEq, Int.reduceBNe]; try simp (disch := omega) only [wrap_id]) | simp only [↓reduceIte, not_false_eq_true, Bool.not_true, Bool.not_false, Int.reduceBEq, Int.reduceBNe])); (first | (refine hJ _ _ ?_; clear hJ J; exact hq.out) | exact hq.out))) : p := k ⟨⟩  ⟨h⟩
theorem auto1_ {a1 p q : Prop} (m : Nat) (ex : List Nat) (f1 : a1) (h : q) (k : HN m ex → a1 → Held q → p := by (intro hm f1 hq; (repeat' (first | refine ⟨by omega, ?_⟩ | (refine hJ _ _ (RunsL.nil ?_); clear hJ J) | refine RunsA.cond rfl (fun h => ?_) (fun h => absurd h (by decide)) | refine RunsA.cond rfl (fun h => absurd h (by decide)) (fun h => ?_) | (refine step_ ?_) | (refine rkH hm tabOk fun J hJ => ?_; simp only [go_sem, ↓reduceIte, Nat.reduceAdd, Nat.reduceSub, Nat.reduceMul, Nat.reduceLT, Nat.reduceLeDiff, Nat.reduceEqDiff, Nat.reduceBEq, Int.reduceToNat, Bool.not_true, Bool.not_false, Int.reduceBEq, Int.reduceBNe, f1]; try simp (disch := omega) only [wrap_id]) | simp only [↓reduceIte, not_false_eq_true, Bool.not_true, Bool.not_false, Int.reduceBEq, Int.reduceBNe, f1])); (first | (refine hJ _ _ ?_; clear hJ J; exact hq.out) | exact hq.out))) : p := k ⟨⟩ f1 ⟨h⟩
theorem auto2_ {a1 a2 p q : Prop} (m : Nat) (ex : List Nat) (f1 : a1) (f2 : a2) (h : q) (k : HN m ex → a1 → a2 → Held q → p := by (intro hm f1 f2 hq; (repeat' (first | refine ⟨by omega, ?_⟩ | (refine hJ _ _ (RunsL.nil ?_); clear hJ J) | refine RunsA.cond rfl (fun h => ?_) (fun h => absurd h (by decide)) | refine RunsA.cond rfl (fun h => absurd h (by decide)) (fun h => ?_) | (refine step_ ?_) | (refine rkH hm tabOk fun J hJ => ?_; simp only [go_sem, ↓reduceIte, Nat.reduceAdd, Nat.reduceSub, Nat.reduceMul, Nat.reduceLT, Nat.reduceLeDiff, Nat.reduceEqDiff, Nat.reduceBEq, Int.reduceToNat, Bool.not_true, Bool.not_false, Int.reduceBEq, Int.reduceBNe, f1, f2]; try simp (disch := omega) only [wrap_id]) | simp only [↓reduceIte, not_false_eq_true, Bool.not_true, Bool.not_false, Int.reduceBEq, Int.reduceBNe, f1, f2])); (first | (refine hJ _ _ ?_; clear hJ J; exact hq.out) | exact hq.out))) : p := k ⟨⟩ f1 f2 ⟨h⟩
theorem auto2c1_ {b1 a1 a2 p q : Prop} (m : Nat) (ex : List Nat) (c1 : b1) (f1 : a1) (f2 : a2) (h : q) (k : HN m ex → b1 → a1 → a2 → Held q → p := by (intro hm c1 f1 f2 hq; (repeat' (first | refine ⟨by omega, ?_⟩ | (refine hJ _ _ (RunsL.nil ?_); clear hJ J) | refine RunsA.cond rfl (fun h => ?_) (fun h => absurd h (by decide)) | refine RunsA.cond rfl (fun h => absurd h (by decide)) (fun h => ?_) | (refine step_ ?_) | (refine rkH hm tabOk fun J hJ => ?_; simp only [go_sem, ↓reduceIte, Nat.reduceAdd, Nat.reduceSub, Nat.reduceMul, Nat.reduceLT, Nat.reduceLeDiff, Nat.reduceEqDiff, Nat.reduceBEq, Int.reduceToNat, Bool.not_true, Bool.not_false, Int.reduceBEq, Int.reduceBNe, f1, f2]; try simp (disch := omega) only [wrap_id]) | (refine hJ _ _ (call_ (ps := []) (rid := 16) rfl rfl rfl rfl rfl (c1) ?_); clear hJ J; rintro r os' ros ⟨rfl, rfl, rfl⟩ _; refine RunsL.go tabOk fun J hJ => ?_; simp only [go_sem, ↓reduceIte, Nat.reduceAdd, Nat.reduceSub, Nat.reduceMul, Nat.reduceLT, Nat.reduceLeDiff, Nat.reduceEqDiff, Nat.reduceBEq, Int.reduceToNat, Bool.not_true, Bool.not_false, Int.reduceBEq, Int.reduceBNe, f1, f2]; try simp (disch := omega) only [wrap_id]) | simp only [↓reduceIte, not_false_eq_true, Bool.not_true, Bool.not_false, Int.reduceBEq, Int.reduceBNe, f1, f2])); (first | (refine hJ _ _ ?_; clear hJ J; exact hq.out) | exact hq.out))) : p := k ⟨⟩ c1 f1 f2 ⟨h⟩
theorem auto2c2_ {b1 b2 a1 a2 p q : Prop} (m : Nat) (ex : List Nat) (c1 : b1) (c2 : b2) (f1 : a1) (f2 : a2) (h : q) (k : HN m ex → b1 → b2 → a1 → a2 → Held q → p := by (intro hm c1 c2 f1 f2 hq; (repeat' (first | refine ⟨by omega, ?_⟩ | (refine hJ _ _ (RunsL.nil ?_); clear hJ J) | refine RunsA.cond rfl (fun h => ?_) (fun h => absurd h (by decide)) | refine RunsA.cond rfl (fun h => absurd h (by decide)) (fun h => ?_) | (refine step_ ?_) | (refine rkH hm tabOk fun J hJ => ?_; simp only [go_sem, ↓reduceIte, Nat.reduceAdd, Nat.reduceSub, Nat.reduceMul, Nat.reduceLT, Nat.reduceLeDiff, Nat.reduceEqDiff, Nat.reduceBEq, Int.reduceToNat, Bool.not_true, Bool.not_false, Int.reduceBEq, Int.reduceBNe, f1, f2]; try simp (disch := omega) only [wrap_id]) | (refine hJ _ _ (call_ (ps := []) (rid := 16) rfl rfl rfl rfl rfl (c1) ?_); clear hJ J; rintro r os' ros ⟨rfl, rfl, rfl⟩ _; refine RunsL.go tabOk fun J hJ => ?_; simp only [go_sem, ↓reduceIte, Nat.reduceAdd, Nat.reduceSub, Nat.reduceMul, Nat.reduceLT, Nat.reduceLeDiff, Nat.reduceEqDiff, Nat.reduceBEq, Int.reduceToNat, Bool.not_true, Bool.not_false, Int.reduceBEq, Int.reduceBNe, f1, f2]; try simp (disch := omega) only [wrap_id]) | (refine hJ _ _ (call_ (ps := []) (rid := 16) rfl rfl rfl rfl rfl (c2) ?_); clear hJ J; rintro r os' ros ⟨rfl, rfl, rfl⟩ _; refine RunsL.go tabOk fun J hJ => ?_; simp only [go_sem, ↓reduceIte, Nat.reduceAdd, Nat.reduceSub, Nat.reduceMul, Nat.reduceLT, Nat.reduceLeDiff, Nat.reduceEqDiff, Nat.reduceBEq, Int.reduceToNat, Bool.not_true, Bool.not_false, Int.reduceBEq, Int.reduceBNe, f1, f2]; try simp (disch := omega) only [wrap_id]) | simp only [↓reduceIte, not_false_eq_true, Bool.not_true, Bool.not_false, Int.reduceBEq, Int.reduceBNe, f1, f2])); (first | (refine hJ _ _ ?_; clear hJ J; exact hq.out) | exact hq.out))) : p := k ⟨⟩ c1 c2 f1 f2 ⟨h⟩
theorem auto2c3_ {b1 b2 b3 a1 a2 p q : Prop} (m : Nat) (ex : List Nat) (c1 : b1) (c2 : b2) (c3 : b3) (f1 : a1) (f2 : a2) (h : q) (k : HN m ex → b1 → b2 → b3 → a1 → a2 → Held q → p := by (intro hm c1 c2 c3 f1 f2 hq; (repeat' (first | refine ⟨by omega, ?_⟩ | (refine hJ _ _ (RunsL.nil ?_); clear hJ J) | refine RunsA.cond rfl (fun h => ?_) (fun h => absurd h (by decide)) | refine RunsA.cond rfl (fun h => absurd h (by decide)) (fun h => ?_) | (refine step_ ?_) | (refine rkH hm tabOk fun J hJ => ?_; simp only [go_sem, ↓reduceIte, Nat.reduceAdd, Nat.reduceSub, Nat.reduceMul, Nat.reduceLT, Nat.reduceLeDiff, Nat.reduceEqDiff, Nat.reduceBEq, Int.reduceToNat, Bool.not_true, Bool.not_false, Int.reduceBEq, Int.reduceBNe, f1, f2]; try simp (disch := omega) only [wrap_id]) | (refine hJ _ _ (call_ (ps := []) (rid := 16) rfl rfl rfl rfl rfl (c1) ?_); clear hJ J; rintro r os' ros ⟨rfl, rfl, rfl⟩ _; refine RunsL.go tabOk fun J hJ => ?_; simp only [go_sem, ↓reduceIte, Nat.reduceAdd, Nat.reduceSub, Nat.reduceMul, Nat.reduceLT, Nat.reduceLeDiff, Nat.reduceEqDiff, Nat.reduceBEq, Int.reduceToNat, Bool.not_true, Bool.not_false, Int.reduceBEq, Int.reduceBNe, f1, f2]; try simp (disch := omega) only [wrap_id]) | (refine hJ _ _ (call_ (ps := []) (rid := 16) rfl rfl rfl rfl rfl (c2) ?_); clear hJ J; rintro r os' ros ⟨rfl, rfl, rfl⟩ _; refine RunsL.go tabOk fun J hJ => ?_; simp only [go_sem, ↓reduceIte, Nat.reduceAdd, Nat.reduceSub, Nat.reduceMul, Nat.reduceLT, Nat.reduceLeDiff, Nat.reduceEqDiff, Nat.reduceBEq, Int.reduceToNat, Bool.not_true, Bool.not_false, Int.reduceBEq, Int.reduceBNe, f1, f2]; try simp (disch := omega) only [wrap_id]) | (refine hJ _ _ (call_ (ps := []) (rid := 16) rfl rfl rfl rfl rfl (c3) ?_); clear hJ J; rintro r os' ros ⟨rfl, rfl, rfl⟩ _; refine RunsL.go tabOk fun J hJ => ?_; simp only [go_sem, ↓reduceIte, Nat.reduceAdd, Nat.reduceSub, Nat.reduceMul, Nat.reduceLT, Nat.reduceLeDiff, Nat.reduceEqDiff, Nat.reduceBEq, Int.reduceToNat, Bool.not_true, Bool.not_false, Int.reduceBEq, Int.reduceBNe, f1, f2]; try simp (disch := omega) only [wrap_id]) | simp only [↓reduceIte, not_false_eq_true, Bool.not_true, Bool.not_false, Int.reduceBEq, Int.reduceBNe, f1, f2])); (first | (refine hJ _ _ ?_; clear hJ J; exact hq.out) | exact hq.out))) : p := k ⟨⟩ c1 c2 c3 f1 f2 ⟨h⟩
theorem auto2c4_ {b1 b2 b3 b4 a1 a2 p q : Prop} (m : Nat) (ex : List Nat) (c1 : b1) (c2 : b2) (c3 : b3) (c4 : b4) (f1 : a1) (f2 : a2) (h : q) (k : HN m ex → b1 → b2 → b3 → b4 → a1 → a2 → Held q → p := by (intro hm c1 c2 c3 c4 f1 f2 hq; (repeat' (first | refine ⟨by omega, ?_⟩ | (refine hJ _ _ (RunsL.nil ?_); clear hJ J) | refine RunsA.cond rfl (fun h => ?_) (fun h => absurd h (by decide)) | refine RunsA.cond rfl (fun h => absurd h (by decide)) (fun h => ?_) | (refine step_ ?_) | (refine rkH hm tabOk fun J hJ => ?_; simp only [go_sem, ↓reduceIte, Nat.reduceAdd, Nat.reduceSub, Nat.reduceMul, Nat.reduceLT, Nat.reduceLeDiff, Nat.reduceEqDiff, Nat.reduceBEq, Int.reduceToNat, Bool.not_true, Bool.not_false, Int.reduceBEq, Int.reduceBNe, f1, f2]; try simp (disch := omega) only [wrap_id]) | (refine hJ _ _ (call_ (ps := []) (rid := 16) rfl rfl rfl rfl rfl (c1) ?_); clear hJ J; rintro r os' ros ⟨rfl, rfl, rfl⟩ _; refine RunsL.go tabOk fun J hJ => ?_; simp only [go_sem, ↓reduceIte, Nat.reduceAdd, Nat.reduceSub, Nat.reduceMul, Nat.reduceLT, Nat.reduceLeDiff, Nat.reduceEqDiff, Nat.reduceBEq, Int.reduceToNat, Bool.not_true, Bool.not_false, Int.reduceBEq, Int.reduceBNe, f1, f2]; try simp (disch := omega) only [wrap_id]) | (refine hJ _ _ (call_ (ps := []) (rid := 16) rfl rfl rfl rfl rfl (c2) ?_); clear hJ J; rintro r os' ros ⟨rfl, rfl, rfl⟩ _; refine RunsL.go tabOk fun J hJ => ?_; simp only [go_sem, ↓reduceIte, Nat.reduceAdd, Nat.reduceSub, Nat.reduceMul, Nat.reduceLT, Nat.reduceLeDiff, Nat.reduceEqDiff, Nat.reduceBEq, Int.reduceToNat, Bool.not_true, Bool.not_false, Int.reduceBEq, Int.reduceBNe, f1, f2]; try simp (disch := omega) only [wrap_id]) | (refine hJ _ _ (call_ (ps := []) (rid := 16) rfl rfl rfl rfl rfl (c3) ?_); clear hJ J; rintro r os' ros ⟨rfl, rfl, rfl⟩ _; refine RunsL.go tabOk fun J hJ => ?_; simp only [go_sem, ↓reduceIte, Nat.reduceAdd, Nat.reduceSub, Nat.reduceMul, Nat.reduceLT, Nat.reduceLeDiff, Nat.reduceEqDiff, Nat.reduceBEq, Int.reduceToNat, Bool.not_true, Bool.not_false, Int.reduceBEq, Int.reduceBNe, f1, f2]; try simp (disch := omega) only [wrap_id]) | (refine hJ _ _ (call_ (ps := []) (rid := 16) rfl rfl rfl rfl rfl (c4) ?_); clear hJ J; rintro r os' ros ⟨rfl, rfl, rfl⟩ _; refine RunsL.go tabOk fun J hJ => ?_; simp only [go_sem, ↓reduceIte, Nat.reduceAdd, Nat.reduceSub, Nat.reduceMul, Nat.reduceLT, Nat.reduceLeDiff, Nat.reduceEqDiff, Nat.reduceBEq, Int.reduceToNat, Bool.not_true, Bool.not_false, Int.reduceBEq, Int.reduceBNe, f1, f2]; try simp (disch := omega) only [wrap_id]) | simp only [↓reduceIte, not_false_eq_true, Bool.not_true, Bool.not_false, Int.reduceBEq, Int.reduceBNe, f1, f2])); (first | (refine hJ _ _ ?_; clear hJ J; exact hq.out) | exact hq.out))) : p := k ⟨⟩ c1 c2 c3 c4 f1 f2 ⟨h⟩
theorem auto3_ {a1 a2 a3 p q : Prop} (m : Nat) (ex : List Nat) (f1 : a1) (f2 : a2) (f3 : a3) (h : q) (k : HN m ex → a1 → a2 → a3 → Held q → p := by (intro hm f1 f2 f3 hq; (repeat' (first | refine ⟨by omega, ?_⟩ | (refine hJ _ _ (RunsL.nil ?_); clear hJ J) | refine RunsA.cond rfl (fun h => ?_) (fun h => absurd h (by decide)) | refine RunsA.cond rfl (fun h => absurd h (by decide)) (fun h => ?_) | (refine step_ ?_) | (refine rkH hm tabOk fun J hJ => ?_; simp only [go_sem, ↓reduceIte, Nat.reduceAdd, Nat.reduceSub, Nat.reduceMul, Nat.reduceLT, Nat.reduceLeDiff, Nat.reduceEqDiff, Nat.reduceBEq, Int.reduceToNat, Bool.not_true, Bool.not_false, Int.reduceBEq, Int.reduceBNe, f1, f2, f3]; try simp (disch := omega) only [wrap_id]) | simp only [↓reduceIte, not_false_eq_true, Bool.not_true, Bool.not_false, Int.reduceBEq, Int.reduceBNe, f1, f2, f3])); (first | (refine hJ _ _ ?_; clear hJ J; exact hq.out) | exact hq.out))) : p := k ⟨⟩ f1 f2 f3 ⟨h⟩
theorem auto3c1_ {b1 a1 a2 a3 p q : Prop} (m : Nat) (ex : List Nat) (c1 : b1) (f1 : a1) (f2 : a2) (f3 : a3) (h : q) (k : HN m ex → b1 → a1 → a2 → a3 → Held q → p := by (intro hm c1 f1 f2 f3 hq; (repeat' (first | refine ⟨by omega, ?_⟩ | (refine hJ _ _ (RunsL.nil ?_); clear hJ J) | refine RunsA.cond rfl (fun h => ?_) (fun h => absurd h (by decide)) | refine RunsA.cond rfl (fun h => absurd h (by decide)) (fun h => ?_) | (refine step_ ?_) | (refine rkH hm tabOk fun J hJ => ?_; simp only [go_sem, ↓reduceIte, Nat.reduceAdd, Nat.reduceSub, Nat.reduceMul, Nat.reduceLT, Nat.reduceLeDiff, Nat.reduceEqDiff, Nat.reduceBEq, Int.reduceToNat, Bool.not_true, Bool.not_false, Int.reduceBEq, Int.reduceBNe, f1, f2, f3]; try simp (disch := omega) only [wrap_id]) | (refine hJ _ _ (call_ (ps := []) (rid := 16) rfl rfl rfl rfl rfl (c1) ?_); clear hJ J; rintro r os' ros ⟨rfl, rfl, rfl⟩ _; refine RunsL.go tabOk fun J hJ => ?_; simp only [go_sem, ↓reduceIte, Nat.reduceAdd, Nat.reduceSub, Nat.reduceMul, Nat.reduceLT, Nat.reduceLeDiff, Nat.reduceEqDiff, Nat.reduceBEq, Int.reduceToNat, Bool.not_true, Bool.not_false, Int.reduceBEq, Int.reduceBNe, f1, f2, f3]; try simp (disch := omega) only [wrap_id]) | simp only [↓reduceIte, not_false_eq_true, Bool.not_true, Bool.not_false, Int.reduceBEq, Int.reduceBNe, f1, f2, f3])); (first | (refine hJ _ _ ?_; clear hJ J; exact hq.out) | exact hq.out))) : p := k ⟨⟩ c1 f1 f2 f3 ⟨h⟩
theorem auto4_ {a1 a2 a3 a4 p q : Prop} (m : Nat) (ex : List Nat) (f1 : a1) (f2 : a2) (f3 : a3) (f4 : a4) (h : q) (k : HN m ex → a1 → a2 → a3 → a4 → Held q → p := by (intro hm f1 f2 f3 f4 hq; (repeat' (first | refine ⟨by omega, ?_⟩ | (refine hJ _ _ (RunsL.nil ?_); clear hJ J) | refine RunsA.cond rfl (fun h => ?_) (fun h => absurd h (by decide)) | refine RunsA.cond rfl (fun h => absurd h (by decide)) (fun h => ?_) | (refine step_ ?_) | (refine rkH hm tabOk fun J hJ => ?_; simp only [go_sem, ↓reduceIte, Nat.reduceAdd, Nat.reduceSub, Nat.reduceMul, Nat.reduceLT, Nat.reduceLeDiff, Nat.reduceEqDiff, Nat.reduceBEq, Int.reduceToNat, Bool.not_true, Bool.not_false, Int.reduceBEq, Int.reduceBNe, f1, f2, f3, f4]; try simp (disch := omega) only [wrap_id]) | simp only [↓reduceIte, not_false_eq_true, Bool.not_true, Bool.not_false, Int.reduceBEq, Int.reduceBNe, f1, f2, f3, f4])); (first | (refine hJ _ _ ?_; clear hJ J; exact hq.out) | exact hq.out))) : p := k ⟨⟩ f1 f2 f3 f4 ⟨h⟩
theorem auto4c1_ {b1 a1 a2 a3 a4 p q : Prop} (m : Nat) (ex : List Nat) (c1 : b1) (f1 : a1) (f2 : a2) (f3 : a3) (f4 : a4) (h : q) (k : HN m ex → b1 → a1 → a2 → a3 → a4 → Held q → p := by (intro hm c1 f1 f2 f3 f4 hq; (repeat' (first | refine ⟨by omega, ?_⟩ | (refine hJ _ _ (RunsL.nil ?_); clear hJ J) | refine RunsA.cond rfl (fun h => ?_) (fun h => absurd h (by decide)) | refine RunsA.cond rfl (fun h => absurd h (by decide)) (fun h => ?_) | (refine step_ ?_) | (refine rkH hm tabOk fun J hJ => ?_; simp only [go_sem, ↓reduceIte, Nat.reduceAdd, Nat.reduceSub, Nat.reduceMul, Nat.reduceLT, Nat.reduceLeDiff, Nat.reduceEqDiff, Nat.reduceBEq, Int.reduceToNat, Bool.not_true, Bool.not_false, Int.reduceBEq, Int.reduceBNe, f1, f2, f3, f4]; try simp (disch := omega) only [wrap_id]) | (refine hJ _ _ (call_ (ps := []) (rid := 16) rfl rfl rfl rfl rfl (c1) ?_); clear hJ J; rintro r os' ros ⟨rfl, rfl, rfl⟩ _; refine RunsL.go tabOk fun J hJ => ?_; simp only [go_sem, ↓reduceIte, Nat.reduceAdd, Nat.reduceSub, Nat.reduceMul, Nat.reduceLT, Nat.reduceLeDiff, Nat.reduceEqDiff, Nat.reduceBEq, Int.reduceToNat, Bool.not_true, Bool.not_false, Int.reduceBEq, Int.reduceBNe, f1, f2, f3, f4]; try simp (disch := omega) only [wrap_id]) | simp only [↓reduceIte, not_false_eq_true, Bool.not_true, Bool.not_false, Int.reduceBEq, Int.reduceBNe, f1, f2, f3, f4])); (first | (refine hJ _ _ ?_; clear hJ J; exact hq.out) | exact hq.out))) : p := k ⟨⟩ c1 f1 f2 f3 f4 ⟨h⟩
theorem auto6_ {a1 a2 a3 a4 a5 a6 p q : Prop} (m : Nat) (ex : List Nat) (f1 : a1) (f2 : a2) (f3 : a3) (f4 : a4) (f5 : a5) (f6 : a6) (h : q) (k : HN m ex → a1 → a2 → a3 → a4 → a5 → a6 → Held q → p := by (intro hm f1 f2 f3 f4 f5 f6 hq; (repeat' (first | refine ⟨by omega, ?_⟩ | (refine hJ _ _ (RunsL.nil ?_); clear hJ J) | refine RunsA.cond rfl (fun h => ?_) (fun h => absurd h (by decide)) | refine RunsA.cond rfl (fun h => absurd h (by decide)) (fun h => ?_) | (refine step_ ?_) | (refine rkH hm tabOk fun J hJ => ?_; simp only [go_sem, ↓reduceIte, Nat.reduceAdd, Nat.reduceSub, Nat.reduceMul, Nat.reduceLT, Nat.reduceLeDiff, Nat.reduceEqDiff, Nat.reduceBEq, Int.reduceToNat, Bool.not_true, Bool.not_false, Int.reduceBEq, Int.reduceBNe, f1, f2, f3, f4, f5, f6]; try simp (disch := omega) only [wrap_id]) | simp only [↓reduceIte, not_false_eq_true, Bool.not_true, Bool.not_false, Int.reduceBEq, Int.reduceBNe, f1, f2, f3, f4, f5, f6])); (first | (refine hJ _ _ ?_; clear hJ J; exact hq.out) | exact hq.out))) : p := k ⟨⟩ f1 f2 f3 f4 f5 f6 ⟨h⟩
theorem auto6c2_ {b1 b2 a1 a2 a3 a4 a5 a6 p q : Prop} (m : Nat) (ex : List Nat) (c1 : b1) (c2 : b2) (f1 : a1) (f2 : a2) (f3 : a3) (f4 : a4) (f5 : a5) (f6 : a6) (h : q) (k : HN m ex → b1 → b2 → a1 → a2 → a3 → a4 → a5 → a6 → Held q → p := by (intro hm c1 c2 f1 f2 f3 f4 f5 f6 hq; (repeat' (first | refine ⟨by omega, ?_⟩ | (refine hJ _ _ (RunsL.nil ?_); clear hJ J) | refine RunsA.cond rfl (fun h => ?_) (fun h => absurd h (by decide)) | refine RunsA.cond rfl (fun h => absurd h (by decide)) (fun h => ?_) | (refine step_ ?_) | (refine rkH hm tabOk fun J hJ => ?_; simp only [go_sem, ↓reduceIte, Nat.reduceAdd, Nat.reduceSub, Nat.reduceMul, Nat.reduceLT, Nat.reduceLeDiff, Nat.reduceEqDiff, Nat.reduceBEq, Int.reduceToNat, Bool.not_true, Bool.not_false, Int.reduceBEq, Int.reduceBNe, f1, f2, f3, f4, f5, f6]; try simp (disch := omega) only [wrap_id]) | (refine hJ _ _ (call_ (ps := []) (rid := 16) rfl rfl rfl rfl rfl (c1) ?_); clear hJ J; rintro r os' ros ⟨rfl, rfl, rfl⟩ _; refine RunsL.go tabOk fun J hJ => ?_; simp only [go_sem, ↓reduceIte, Nat.reduceAdd, Nat.reduceSub, Nat.reduceMul, Nat.reduceLT, Nat.reduceLeDiff, Nat.reduceEqDiff, Nat.reduceBEq, Int.reduceToNat, Bool.not_true, Bool.not_false, Int.reduceBEq, Int.reduceBNe, f1, f2, f3, f4, f5, f6]; try simp (disch := omega) only [wrap_id]) | (refine hJ _ _ (call_ (ps := []) (rid := 16) rfl rfl rfl rfl rfl (c2) ?_); clear hJ J; rintro r os' ros ⟨rfl, rfl, rfl⟩ _; refine RunsL.go tabOk fun J hJ => ?_; simp only [go_sem, ↓reduceIte, Nat.reduceAdd, Nat.reduceSub, Nat.reduceMul, Nat.reduceLT, Nat.reduceLeDiff, Nat.reduceEqDiff, Nat.reduceBEq, Int.reduceToNat, Bool.not_true, Bool.not_false, Int.reduceBEq, Int.reduceBNe, f1, f2, f3, f4, f5, f6]; try simp (disch := omega) only [wrap_id]) | simp only [↓reduceIte, not_false_eq_true, Bool.not_true, Bool.not_false, Int.reduceBEq, Int.reduceBNe, f1, f2, f3, f4, f5, f6])); (first | (refine hJ _ _ ?_; clear hJ J; exact hq.out) | exact hq.out))) : p := k ⟨⟩ c1 c2 f1 f2 f3 f4 f5 f6 ⟨h⟩
theorem auto6c4_ {b1 b2 b3 b4 a1 a2 a3 a4 a5 a6 p q : Prop} (m : Nat) (ex : List Nat) (c1 : b1) (c2 : b2) (c3 : b3) (c4 : b4) (f1 : a1) (f2 : a2) (f3 : a3) (f4 : a4) (f5 : a5) (f6 : a6) (h : q) (k : HN m ex → b1 → b2 → b3 → b4 → a1 → a2 → a3 → a4 → a5 → a6 → Held q → p := by (intro hm c1 c2 c3 c4 f1 f2 f3 f4 f5 f6 hq; (repeat' (first | refine ⟨by omega, ?_⟩ | (refine hJ _ _ (RunsL.nil ?_); clear hJ J) | refine RunsA.cond rfl (fun h => ?_) (fun h => absurd h (by decide)) | refine RunsA.cond rfl (fun h => absurd h (by decide)) (fun h => ?_) | (refine step_ ?_) | (refine rkH hm tabOk fun J hJ => ?_; simp only [go_sem, ↓reduceIte, Nat.reduceAdd, Nat.reduceSub, Nat.reduceMul, Nat.reduceLT, Nat.reduceLeDiff, Nat.reduceEqDiff, Nat.reduceBEq, Int.reduceToNat, Bool.not_true, Bool.not_false, Int.reduceBEq, Int.reduceBNe, f1, f2, f3, f4, f5, f6]; try simp (disch := omega) only [wrap_id]) | (refine hJ _ _ (call_ (ps := []) (rid := 16) rfl rfl rfl rfl rfl (c1) ?_); clear hJ J; rintro r os' ros ⟨rfl, rfl, rfl⟩ _; refine RunsL.go tabOk fun J hJ => ?_; simp only [go_sem, ↓reduceIte, Nat.reduceAdd, Nat.reduceSub, Nat.reduceMul, Nat.reduceLT, Nat.reduceLeDiff, Nat.reduceEqDiff, Nat.reduceBEq, Int.reduceToNat, Bool.not_true, Bool.not_false, Int.reduceBEq, Int.reduceBNe, f1, f2, f3, f4, f5, f6]; try simp (disch := omega) only [wrap_id]) | (refine hJ _ _ (call_ (ps := []) (rid := 16) rfl rfl rfl rfl rfl (c2) ?_); clear hJ J; rintro r os' ros ⟨rfl, rfl, rfl⟩ _; refine RunsL.go tabOk fun J hJ => ?_; simp only [go_sem, ↓reduceIte, Nat.reduceAdd, Nat.reduceSub, Nat.reduceMul, Nat.reduceLT, Nat.reduceLeDiff, Nat.reduceEqDiff, Nat.reduceBEq, Int.reduceToNat, Bool.not_true, Bool.not_false, Int.reduceBEq, Int.reduceBNe, f1, f2, f3, f4, f5, f6]; try simp (disch := omega) only [wrap_id]) | (refine hJ _ _ (call_ (ps := []) (rid := 16) rfl rfl rfl rfl rfl (c3) ?_); clear hJ J; rintro r os' ros ⟨rfl, rfl, rfl⟩ _; refine RunsL.go tabOk fun J hJ => ?_; simp only [go_sem, ↓reduceIte, Nat.reduceAdd, Nat.reduceSub, Nat.reduceMul, Nat.reduceLT, Nat.reduceLeDiff, Nat.reduceEqDiff, Nat.reduceBEq, Int.reduceToNat, Bool.not_true, Bool.not_false, Int.reduceBEq, Int.reduceBNe, f1, f2, f3, f4, f5, f6]; try simp (disch := omega) only [wrap_id]) | (refine hJ _ _ (call_ (ps := []) (rid := 16) rfl rfl rfl rfl rfl (c4) ?_); clear hJ J; rintro r os' ros ⟨rfl, rfl, rfl⟩ _; refine RunsL.go tabOk fun J hJ => ?_; simp only [go_sem, ↓reduceIte, Nat.reduceAdd, Nat.reduceSub, Nat.reduceMul, Nat.reduceLT, Nat.reduceLeDiff, Nat.reduceEqDiff, Nat.reduceBEq, Int.reduceToNat, Bool.not_true, Bool.not_false, Int.reduceBEq, Int.reduceBNe, f1, f2, f3, f4, f5, f6]; try simp (disch := omega) only [wrap_id]) | simp only [↓reduceIte, not_false_eq_true, Bool.not_true, Bool.not_false, Int.reduceBEq, Int.reduceBNe, f1, f2, f3, f4, f5, f6])); (first | (refine hJ _ _ ?_; clear hJ J; exact hq.out) | exact hq.out))) : p := k ⟨⟩ c1 c2 c3 c4 f1 f2 f3 f4 f5 f6 ⟨h⟩
theorem auto8_ {a1 a2 a3 a4 a5 a6 a7 a8 p q : Prop} (m : Nat) (ex : List Nat) (f1 : a1) (f2 : a2) (f3 : a3) (f4 : a4) (f5 : a5) (f6 : a6) (f7 : a7) (f8 : a8) (h : q) (k : HN m ex → a1 → a2 → a3 → a4 → a5 → a6 → a7 → a8 → Held q → p := by (intro hm f1 f2 f3 f4 f5 f6 f7 f8 hq; (repeat' (first | refine ⟨by omega, ?_⟩ | (refine hJ _ _ (RunsL.nil ?_); clear hJ J) | refine RunsA.cond rfl (fun h => ?_) (fun h => absurd h (by decide)) | refine RunsA.cond rfl (fun h => absurd h (by decide)) (fun h => ?_) | (refine step_ ?_) | (refine rkH hm tabOk fun J hJ => ?_; simp only [go_sem, ↓reduceIte, Nat.reduceAdd, Nat.reduceSub, Nat.reduceMul, Nat.reduceLT, Nat.reduceLeDiff, Nat.reduceEqDiff, Nat.reduceBEq, Int.reduceToNat, Bool.not_true, Bool.not_false, Int.reduceBEq, Int.reduceBNe, f1, f2, f3, f4, f5, f6, f7, f8]; try simp (disch := omega) only [wrap_id]) | simp only [↓reduceIte, not_false_eq_true, Bool.not_true, Bool.not_false, Int.reduceBEq, Int.reduceBNe, f1, f2, f3, f4, f5, f6, f7, f8])); (first | (refine hJ _ _ ?_; clear hJ J; exact hq.out) | exact hq.out))) : p := k ⟨⟩ f1 f2 f3 f4 f5 f6 f7 f8 ⟨h⟩
theorem auto8c2_ {b1 b2 a1 a2 a3 a4 a5 a6 a7 a8 p q : Prop} (m : Nat) (ex : List Nat) (c1 : b1) (c2 : b2) (f1 : a1) (f2 : a2) (f3 : a3) (f4 : a4) (f5 : a5) (f6 : a6) (f7 : a7) (f8 : a8) (h : q) (k : HN m ex → b1 → b2 → a1 → a2 → a3 → a4 → a5 → a6 → a7 → a8 → Held q → p := by (intro hm c1 c2 f1 f2 f3 f4 f5 f6 f7 f8 hq; (repeat' (first | refine ⟨by omega, ?_⟩ | (refine hJ _ _ (RunsL.nil ?_); clear hJ J) | refine RunsA.cond rfl (fun h => ?_) (fun h => absurd h (by decide)) | refine RunsA.cond rfl (fun h => absurd h (by decide)) (fun h => ?_) | (refine step_ ?_) | (refine rkH hm tabOk fun J hJ => ?_; simp only [go_sem, ↓reduceIte, Nat.reduceAdd, Nat.reduceSub, Nat.reduceMul, Nat.reduceLT, Nat.reduceLeDiff, Nat.reduceEqDiff, Nat.reduceBEq, Int.reduceToNat, Bool.not_true, Bool.not_false, Int.reduceBEq, Int.reduceBNe, f1, f2, f3, f4, f5, f6, f7, f8]; try simp (disch := omega) only [wrap_id]) | (refine hJ _ _ (call_ (ps := []) (rid := 16) rfl rfl rfl rfl rfl (c1) ?_); clear hJ J; rintro r os' ros ⟨rfl, rfl, rfl⟩ _; refine RunsL.go tabOk fun J hJ => ?_; simp only [go_sem, ↓reduceIte, Nat.reduceAdd, Nat.reduceSub, Nat.reduceMul, Nat.reduceLT, Nat.reduceLeDiff, Nat.reduceEqDiff, Nat.reduceBEq, Int.reduceToNat, Bool.not_true, Bool.not_false, Int.reduceBEq, Int.reduceBNe, f1, f2, f3, f4, f5, f6, f7, f8]; try simp (disch := omega) only [wrap_id]) | (refine hJ _ _ (call_ (ps := []) (rid := 16) rfl rfl rfl rfl rfl (c2) ?_); clear hJ J; rintro r os' ros ⟨rfl, rfl, rfl⟩ _; refine RunsL.go tabOk fun J hJ => ?_; simp only [go_sem, ↓reduceIte, Nat.reduceAdd, Nat.reduceSub, Nat.reduceMul, Nat.reduceLT, Nat.reduceLeDiff, Nat.reduceEqDiff, Nat.reduceBEq, Int.reduceToNat, Bool.not_true, Bool.not_false, Int.reduceBEq, Int.reduceBNe, f1, f2, f3, f4, f5, f6, f7, f8]; try simp (disch := omega) only [wrap_id]) | simp only [↓reduceIte, not_false_eq_true, Bool.not_true, Bool.not_false, Int.reduceBEq, Int.reduceBNe, f1, f2, f3, f4, f5, f6, f7, f8])); (first | (refine hJ _ _ ?_; clear hJ J; exact hq.out) | exact hq.out))) : p := k ⟨⟩ c1 c2 f1 f2 f3 f4 f5 f6 f7 f8 ⟨h⟩
theorem auto8c3_ {b1 b2 b3 a1 a2 a3 a4 a5 a6 a7 a8 p q : Prop} (m : Nat) (ex : List Nat) (c1 : b1) (c2 : b2) (c3 : b3) (f1 : a1) (f2 : a2) (f3 : a3) (f4 : a4) (f5 : a5) (f6 : a6) (f7 : a7) (f8 : a8) (h : q) (k : HN m ex → b1 → b2 → b3 → a1 → a2 → a3 → a4 → a5 → a6 → a7 → a8 → Held q → p := by (intro hm c1 c2 c3 f1 f2 f3 f4 f5 f6 f7 f8 hq; (repeat' (first | refine ⟨by omega, ?_⟩ | (refine hJ _ _ (RunsL.nil ?_); clear hJ J) | refine RunsA.cond rfl (fun h => ?_) (fun h => absurd h (by decide)) | refine RunsA.cond rfl (fun h => absurd h (by decide)) (fun h => ?_) | (refine step_ ?_) | (refine rkH hm tabOk fun J hJ => ?_; simp only [go_sem, ↓reduceIte, Nat.reduceAdd, Nat.reduceSub, Nat.reduceMul, Nat.reduceLT, Nat.reduceLeDiff, Nat.reduceEqDiff, Nat.reduceBEq, Int.reduceToNat, Bool.not_true, Bool.not_false, Int.reduceBEq, Int.reduceBNe, f1, f2, f3, f4, f5, f6, f7, f8]; try simp (disch := omega) only [wrap_id]) | (refine hJ _ _ (call_ (ps := []) (rid := 16) rfl rfl rfl rfl rfl (c1) ?_); clear hJ J; rintro r os' ros ⟨rfl, rfl, rfl⟩ _; refine RunsL.go tabOk fun J hJ => ?_; simp only [go_sem, ↓reduceIte, Nat.reduceAdd, Nat.reduceSub, Nat.reduceMul, Nat.reduceLT, Nat.reduceLeDiff, Nat.reduceEqDiff, Nat.reduceBEq, Int.reduceToNat, Bool.not_true, Bool.not_false, Int.reduceBEq, Int.reduceBNe, f1, f2, f3, f4, f5, f6, f7, f8]; try simp (disch := omega) only [wrap_id]) | (refine hJ _ _ (call_ (ps := []) (rid := 16) rfl rfl rfl rfl rfl (c2) ?_); clear hJ J; rintro r os' ros ⟨rfl, rfl, rfl⟩ _; refine RunsL.go tabOk fun J hJ => ?_; simp only [go_sem, ↓reduceIte, Nat.reduceAdd, Nat.reduceSub, Nat.reduceMul, Nat.reduceLT, Nat.reduceLeDiff, Nat.reduceEqDiff, Nat.reduceBEq, Int.reduceToNat, Bool.not_true, Bool.not_false, Int.reduceBEq, Int.reduceBNe, f1, f2, f3, f4, f5, f6, f7, f8]; try simp (disch := omega) only [wrap_id]) | (refine hJ _ _ (call_ (ps := []) (rid := 16) rfl rfl rfl rfl rfl (c3) ?_); clear hJ J; rintro r os' ros ⟨rfl, rfl, rfl⟩ _; refine RunsL.go tabOk fun J hJ => ?_; simp only [go_sem, ↓reduceIte, Nat.reduceAdd, Nat.reduceSub, Nat.reduceMul, Nat.reduceLT, Nat.reduceLeDiff, Nat.reduceEqDiff, Nat.reduceBEq, Int.reduceToNat, Bool.not_true, Bool.not_false, Int.reduceBEq, Int.reduceBNe, f1, f2, f3, f4, f5, f6, f7, f8]; try simp (disch := omega) only [wrap_id]) | simp only [↓reduceIte, not_false_eq_true, Bool.not_true, Bool.not_false, Int.reduceBEq, Int.reduceBNe, f1, f2, f3, f4, f5, f6, f7, f8])); (first | (refine hJ _ _ ?_; clear hJ J; exact hq.out) | exact hq.out))) : p := k ⟨⟩ c1 c2 c3 f1 f2 f3 f4 f5 f6 f7 f8 ⟨h⟩
theorem auto8c4_ {b1 b2 b3 b4 a1 a2 a3 a4 a5 a6 a7 a8 p q : Prop} (m : Nat) (ex : List Nat) (c1 : b1) (c2 : b2) (c3 : b3) (c4 : b4) (f1 : a1) (f2 : a2) (f3 : a3) (f4 : a4) (f5 : a5) (f6 : a6) (f7 : a7) (f8 : a8) (h : q) (k : HN m ex → b1 → b2 → b3 → b4 → a1 → a2 → a3 → a4 → a5 → a6 → a7 → a8 → Held q → p := by (intro hm c1 c2 c3 c4 f1 f2 f3 f4 f5 f6 f7 f8 hq; (repeat' (first | refine ⟨by omega, ?_⟩ | (refine hJ _ _ (RunsL.nil ?_); clear hJ J) | refine RunsA.cond rfl (fun h => ?_) (fun h => absurd h (by decide)) | refine RunsA.cond rfl (fun h => absurd h (by decide)) (fun h => ?_) | (refine step_ ?_) | (refine rkH hm tabOk fun J hJ => ?_; simp only [go_sem, ↓reduceIte, Nat.reduceAdd, Nat.reduceSub, Nat.reduceMul, Nat.reduceLT, Nat.reduceLeDiff, Nat.reduceEqDiff, Nat.reduceBEq, Int.reduceToNat, Bool.not_true, Bool.not_false, Int.reduceBEq, Int.reduceBNe, f1, f2, f3, f4, f5, f6, f7, f8]; try simp (disch := omega) only [wrap_id]) | (refine hJ _ _ (call_ (ps := []) (rid := 16) rfl rfl rfl rfl rfl (c1) ?_); clear hJ J; rintro r os' ros ⟨rfl, rfl, rfl⟩ _; refine RunsL.go tabOk fun J hJ => ?_; simp only [go_sem, ↓reduceIte, Nat.reduceAdd, Nat.reduceSub, Nat.reduceMul, Nat.reduceLT, Nat.reduceLeDiff, Nat.reduceEqDiff, Nat.reduceBEq, Int.reduceToNat, Bool.not_true, Bool.not_false, Int.reduceBEq, Int.reduceBNe, f1, f2, f3, f4, f5, f6, f7, f8]; try simp (disch := omega) only [wrap_id]) | (refine hJ _ _ (call_ (ps := []) (rid := 16) rfl rfl rfl rfl rfl (c2) ?_); clear hJ J; rintro r os' ros ⟨rfl, rfl, rfl⟩ _; refine RunsL.go tabOk fun J hJ => ?_; simp only [go_sem, ↓reduceIte, Nat.reduceAdd, Nat.reduceSub, Nat.reduceMul, Nat.reduceLT, Nat.reduceLeDiff, Nat.reduceEqDiff, Nat.reduceBEq, Int.reduceToNat, Bool.not_true, Bool.not_false, Int.reduceBEq, Int.reduceBNe, f1, f2, f3, f4, f5, f6, f7, f8]; try simp (disch := omega) only [wrap_id]) | (refine hJ _ _ (call_ (ps := []) (rid := 16) rfl rfl rfl rfl rfl (c3) ?_); clear hJ J; rintro r os' ros ⟨rfl, rfl, rfl⟩ _; refine RunsL.go tabOk fun J hJ => ?_; simp only [go_sem, ↓reduceIte, Nat.reduceAdd, Nat.reduceSub, Nat.reduceMul, Nat.reduceLT, Nat.reduceLeDiff, Nat.reduceEqDiff, Nat.reduceBEq, Int.reduceToNat, Bool.not_true, Bool.not_false, Int.reduceBEq, Int.reduceBNe, f1, f2, f3, f4, f5, f6, f7, f8]; try simp (disch := omega) only [wrap_id]) | (refine hJ _ _ (call_ (ps := []) (rid := 16) rfl rfl rfl rfl rfl (c4) ?_); clear hJ J; rintro r os' ros ⟨rfl, rfl, rfl⟩ _; refine RunsL.go tabOk fun J hJ => ?_; simp only [go_sem, ↓reduceIte, Nat.reduceAdd, Nat.reduceSub, Nat.reduceMul, Nat.reduceLT, Nat.reduceLeDiff, Nat.reduceEqDiff, Nat.reduceBEq, Int.reduceToNat, Bool.not_true, Bool.not_false, Int.reduceBEq, Int.reduceBNe, f1, f2, f3, f4, f5, f6, f7, f8]; try simp (disch := omega) only [wrap_id]) | simp only [↓reduceIte, not_false_eq_true, Bool.not_true, Bool.not_false, Int.reduceBEq, Int.reduceBNe, f1, f2, f3, f4, f5, f6, f7, f8])); (first | (refine hJ _ _ ?_; clear hJ J; exact hq.out) | exact hq.out))) : p := k ⟨⟩ c1 c2 c3 c4 f1 f2 f3 f4 f5 f6 f7 f8 ⟨h⟩
theorem auto11_ {a1 a2 a3 a4 a5 a6 a7 a8 a9 a10 a11 p q : Prop} (m : Nat) (ex : List Nat) (f1 : a1) (f2 : a2) (f3 : a3) (f4 : a4) (f5 : a5) (f6 : a6) (f7 : a7) (f8 : a8) (f9 : a9) (f10 : a10) (f11 : a11) (h : q) (k : HN m ex → a1 → a2 → a3 → a4 → a5 → a6 → a7 → a8 → a9 → a10 → a11 → Held q → p := by (intro hm f1 f2 f3 f4 f5 f6 f7 f8 f9 f10 f11 hq; (repeat' (first | refine ⟨by omega, ?_⟩ | (refine hJ _ _ (RunsL.nil ?_); clear hJ J) | refine RunsA.cond rfl (fun h => ?_) (fun h => absurd h (by decide)) | refine RunsA.cond rfl (fun h => absurd h (by decide)) (fun h => ?_) | (refine step_ ?_) | (refine rkH hm tabOk fun J hJ => ?_; simp only [go_sem, ↓reduceIte, Nat.reduceAdd, Nat.reduceSub, Nat.reduceMul, Nat.reduceLT, Nat.reduceLeDiff, Nat.reduceEqDiff, Nat.reduceBEq, Int.reduceToNat, Bool.not_true, Bool.not_false, Int.reduceBEq, Int.reduceBNe, f1, f2, f3, f4, f5, f6, f7, f8, f9, f10, f11]; try simp (disch := omega) only [wrap_id]) | simp only [↓reduceIte, not_false_eq_true, Bool.not_true, Bool.not_false, Int.reduceBEq, Int.reduceBNe, f1, f2, f3, f4, f5, f6, f7, f8, f9, f10, f11])); (first | (refine hJ _ _ ?_; clear hJ J; exact hq.out) | exact hq.out))) : p := k ⟨⟩ f1 f2 f3 f4 f5 f6 f7 f8 f9 f10 f11 ⟨h⟩
theorem auto11c1_ {b1 a1 a2 a3 a4 a5 a6 a7 a8 a9 a10 a11 p q : Prop} (m : Nat) (ex : List Nat) (c1 : b1) (f1 : a1) (f2 : a2) (f3 : a3) (f4 : a4) (f5 : a5) (f6 : a6) (f7 : a7) (f8 : a8) (f9 : a9) (f10 : a10) (f11 : a11) (h : q) (k : HN m ex → b1 → a1 → a2 → a3 → a4 → a5 → a6 → a7 → a8 → a9 → a10 → a11 → Held q → p := by (intro hm c1 f1 f2 f3 f4 f5 f6 f7 f8 f9 f10 f11 hq; (repeat' (first | refine ⟨by omega, ?_⟩ | (refine hJ _ _ (RunsL.nil ?_); clear hJ J) | refine RunsA.cond rfl (fun h => ?_) (fun h => absurd h (by decide)) | refine RunsA.cond rfl (fun h => absurd h (by decide)) (fun h => ?_) | (refine step_ ?_) | (refine rkH hm tabOk fun J hJ => ?_; simp only [go_sem, ↓reduceIte, Nat.reduceAdd, Nat.reduceSub, Nat.reduceMul, Nat.reduceLT, Nat.reduceLeDiff, Nat.reduceEqDiff, Nat.reduceBEq, Int.reduceToNat, Bool.not_true, Bool.not_false, Int.reduceBEq, Int.reduceBNe, f1, f2, f3, f4, f5, f6, f7, f8, f9, f10, f11]; try simp (disch := omega) only [wrap_id]) | (refine hJ _ _ (call_ (ps := []) (rid := 16) rfl rfl rfl rfl rfl (c1) ?_); clear hJ J; rintro r os' ros ⟨rfl, rfl, rfl⟩ _; refine RunsL.go tabOk fun J hJ => ?_; simp only [go_sem, ↓reduceIte, Nat.reduceAdd, Nat.reduceSub, Nat.reduceMul, Nat.reduceLT, Nat.reduceLeDiff, Nat.reduceEqDiff, Nat.reduceBEq, Int.reduceToNat, Bool.not_true, Bool.not_false, Int.reduceBEq, Int.reduceBNe, f1, f2, f3, f4, f5, f6, f7, f8, f9, f10, f11]; try simp (disch := omega) only [wrap_id]) | simp only [↓reduceIte, not_false_eq_true, Bool.not_true, Bool.not_false, Int.reduceBEq, Int.reduceBNe, f1, f2, f3, f4, f5, f6, f7, f8, f9, f10, f11])); (first | (refine hJ _ _ ?_; clear hJ J; exact hq.out) | exact hq.out))) : p := k ⟨⟩ c1 f1 f2 f3 f4 f5 f6 f7 f8 f9 f10 f11 ⟨h⟩
theorem auto11c2_ {b1 b2 a1 a2 a3 a4 a5 a6 a7 a8 a9 a10 a11 p q : Prop} (m : Nat) (ex : List Nat) (c1 : b1) (c2 : b2) (f1 : a1) (f2 : a2) (f3 : a3) (f4 : a4) (f5 : a5) (f6 : a6) (f7 : a7) (f8 : a8) (f9 : a9) (f10 : a10) (f11 : a11) (h : q) (k : HN m ex → b1 → b2 → a1 → a2 → a3 → a4 → a5 → a6 → a7 → a8 → a9 → a10 → a11 → Held q → p := by (intro hm c1 c2 f1 f2 f3 f4 f5 f6 f7 f8 f9 f10 f11 hq; (repeat' (first | refine ⟨by omega, ?_⟩ | (refine hJ _ _ (RunsL.nil ?_); clear hJ J) | refine RunsA.cond rfl (fun h => ?_) (fun h => absurd h (by decide)) | refine RunsA.cond rfl (fun h => absurd h (by decide)) (fun h => ?_) | (refine step_ ?_) | (refine rkH hm tabOk fun J hJ => ?_; simp only [go_sem, ↓reduceIte, Nat.reduceAdd, Nat.reduceSub, Nat.reduceMul, Nat.reduceLT, Nat.reduceLeDiff, Nat.reduceEqDiff, Nat.reduceBEq, Int.reduceToNat, Bool.not_true, Bool.not_false, Int.reduceBEq, Int.reduceBNe, f1, f2, f3, f4, f5, f6, f7, f8, f9, f10, f11]; try simp (disch := omega) only [wrap_id]) | (refine hJ _ _ (call_ (ps := []) (rid := 16) rfl rfl rfl rfl rfl (c1) ?_); clear hJ J; rintro r os' ros ⟨rfl, rfl, rfl⟩ _; refine RunsL.go tabOk fun J hJ => ?_; simp only [go_sem, ↓reduceIte, Nat.reduceAdd, Nat.reduceSub, Nat.reduceMul, Nat.reduceLT, Nat.reduceLeDiff, Nat.reduceEqDiff, Nat.reduceBEq, Int.reduceToNat, Bool.not_true, Bool.not_false, Int.reduceBEq, Int.reduceBNe, f1, f2, f3, f4, f5, f6, f7, f8, f9, f10, f11]; try simp (disch := omega) only [wrap_id]) | (refine hJ _ _ (call_ (ps := []) (rid := 16) rfl rfl rfl rfl rfl (c2) ?_); clear hJ J; rintro r os' ros ⟨rfl, rfl, rfl⟩ _; refine RunsL.go tabOk fun J hJ => ?_; simp only [go_sem, ↓reduceIte, Nat.reduceAdd, Nat.reduceSub, Nat.reduceMul, Nat.reduceLT, Nat.reduceLeDiff, Nat.reduceEqDiff, Nat.reduceBEq, Int.reduceToNat, Bool.not_true, Bool.not_false, Int.reduceBEq, Int.reduceBNe, f1, f2, f3, f4, f5, f6, f7, f8, f9, f10, f11]; try simp (disch := omega) only [wrap_id]) | simp only [↓reduceIte, not_false_eq_true, Bool.not_true, Bool.not_false, Int.reduceBEq, Int.reduceBNe, f1, f2, f3, f4, f5, f6, f7, f8, f9, f10, f11])); (first | (refine hJ _ _ ?_; clear hJ J; exact hq.out) | exact hq.out))) : p := k ⟨⟩ c1 c2 f1 f2 f3 f4 f5 f6 f7 f8 f9 f10 f11 ⟨h⟩
theorem auto11c4_ {b1 b2 b3 b4 a1 a2 a3 a4 a5 a6 a7 a8 a9 a10 a11 p q : Prop} (m : Nat) (ex : List Nat) (c1 : b1) (c2 : b2) (c3 : b3) (c4 : b4) (f1 : a1) (f2 : a2) (f3 : a3) (f4 : a4) (f5 : a5) (f6 : a6) (f7 : a7) (f8 : a8) (f9 : a9) (f10 : a10) (f11 : a11) (h : q) (k : HN m ex → b1 → b2 → b3 → b4 → a1 → a2 → a3 → a4 → a5 → a6 → a7 → a8 → a9 → a10 → a11 → Held q → p := by (intro hm c1 c2 c3 c4 f1 f2 f3 f4 f5 f6 f7 f8 f9 f10 f11 hq; (repeat' (first | refine ⟨by omega, ?_⟩ | (refine hJ _ _ (RunsL.nil ?_); clear hJ J) | refine RunsA.cond rfl (fun h => ?_) (fun h => absurd h (by decide)) | refine RunsA.cond rfl (fun h => absurd h (by decide)) (fun h => ?_) | (refine step_ ?_) | (refine rkH hm tabOk fun J hJ => ?_; simp only [go_sem, ↓reduceIte, Nat.reduceAdd, Nat.reduceSub, Nat.reduceMul, Nat.reduceLT, Nat.reduceLeDiff, Nat.reduceEqDiff, Nat.reduceBEq, Int.reduceToNat, Bool.not_true, Bool.not_false, Int.reduceBEq, Int.reduceBNe, f1, f2, f3, f4, f5, f6, f7, f8, f9, f10, f11]; try simp (disch := omega) only [wrap_id]) | (refine hJ _ _ (call_ (ps := []) (rid := 16) rfl rfl rfl rfl rfl (c1) ?_); clear hJ J; rintro r os' ros ⟨rfl, rfl, rfl⟩ _; refine RunsL.go tabOk fun J hJ => ?_; simp only [go_sem, ↓reduceIte, Nat.reduceAdd, Nat.reduceSub, Nat.reduceMul, Nat.reduceLT, Nat.reduceLeDiff, Nat.reduceEqDiff, Nat.reduceBEq, Int.reduceToNat, Bool.not_true, Bool.not_false, Int.reduceBEq, Int.reduceBNe, f1, f2, f3, f4, f5, f6, f7, f8, f9, f10, f11]; try simp (disch := omega) only [wrap_id]) | (refine hJ _ _ (call_ (ps := []) (rid := 16) rfl rfl rfl rfl rfl (c2) ?_); clear hJ J; rintro r os' ros ⟨rfl, rfl, rfl⟩ _; refine RunsL.go tabOk fun J hJ => ?_; simp only [go_sem, ↓reduceIte, Nat.reduceAdd, Nat.reduceSub, Nat.reduceMul, Nat.reduceLT, Nat.reduceLeDiff, Nat.reduceEqDiff, Nat.reduceBEq, Int.reduceToNat, Bool.not_true, Bool.not_false, Int.reduceBEq, Int.reduceBNe, f1, f2, f3, f4, f5, f6, f7, f8, f9, f10, f11]; try simp (disch := omega) only [wrap_id]) | (refine hJ _ _ (call_ (ps := []) (rid := 16) rfl rfl rfl rfl rfl (c3) ?_); clear hJ J; rintro r os' ros ⟨rfl, rfl, rfl⟩ _; refine RunsL.go tabOk fun J hJ => ?_; simp only [go_sem, ↓reduceIte, Nat.reduceAdd, Nat.reduceSub, Nat.reduceMul, Nat.reduceLT, Nat.reduceLeDiff, Nat.reduceEqDiff, Nat.reduceBEq, Int.reduceToNat, Bool.not_true, Bool.not_false, Int.reduceBEq, Int.reduceBNe, f1, f2, f3, f4, f5, f6, f7, f8, f9, f10, f11]; try simp (disch := omega) only [wrap_id]) | (refine hJ _ _ (call_ (ps := []) (rid := 16) rfl rfl rfl rfl rfl (c4) ?_); clear hJ J; rintro r os' ros ⟨rfl, rfl, rfl⟩ _; refine RunsL.go tabOk fun J hJ => ?_; simp only [go_sem, ↓reduceIte, Nat.reduceAdd, Nat.reduceSub, Nat.reduceMul, Nat.reduceLT, Nat.reduceLeDiff, Nat.reduceEqDiff, Nat.reduceBEq, Int.reduceToNat, Bool.not_true, Bool.not_false, Int.reduceBEq, Int.reduceBNe, f1, f2, f3, f4, f5, f6, f7, f8, f9, f10, f11]; try simp (disch := omega) only [wrap_id]) | simp only [↓reduceIte, not_false_eq_true, Bool.not_true, Bool.not_false, Int.reduceBEq, Int.reduceBNe, f1, f2, f3, f4, f5, f6, f7, f8, f9, f10, f11])); (first | (refine hJ _ _ ?_; clear hJ J; exact hq.out) | exact hq.out))) : p := k ⟨⟩ c1 c2 c3 c4 f1 f2 f3 f4 f5 f6 f7 f8 f9 f10 f11 ⟨h⟩
theorem auto16c1_ {b1 a1 a2 a3 a4 a5 a6 a7 a8 a9 a10 a11 a12 a13 a14 a15 a16 p q : Prop} (m : Nat) (ex : List Nat) (c1 : b1) (f1 : a1) (f2 : a2) (f3 : a3) (f4 : a4) (f5 : a5) (f6 : a6) (f7 : a7) (f8 : a8) (f9 : a9) (f10 : a10) (f11 : a11) (f12 : a12) (f13 : a13) (f14 : a14) (f15 : a15) (f16 : a16) (h : q) (k : HN m ex → b1 → a1 → a2 → a3 → a4 → a5 → a6 → a7 → a8 → a9 → a10 → a11 → a12 → a13 → a14 → a15 → a16 → Held q → p := by (intro hm c1 f1 f2 f3 f4 f5 f6 f7 f8 f9 f10 f11 f12 f13 f14 f15 f16 hq; (repeat' (first | refine ⟨by omega, ?_⟩ | (refine hJ _ _ (RunsL.nil ?_); clear hJ J) | refine RunsA.cond rfl (fun h => ?_) (fun h => absurd h (by decide)) | refine RunsA.cond rfl (fun h => absurd h (by decide)) (fun h => ?_) | (refine step_ ?_) | (refine rkH hm tabOk fun J hJ => ?_; simp only [go_sem, ↓reduceIte, Nat.reduceAdd, Nat.reduceSub, Nat.reduceMul, Nat.reduceLT, Nat.reduceLeDiff, Nat.reduceEqDiff, Nat.reduceBEq, Int.reduceToNat, Bool.not_true, Bool.not_false, Int.reduceBEq, Int.reduceBNe, f1, f2, f3, f4, f5, f6, f7, f8, f9, f10, f11, f12, f13, f14, f15, f16]; try simp (disch := omega) only [wrap_id]) | (refine hJ _ _ (call_ (ps := []) (rid := 16) rfl rfl rfl rfl rfl (c1) ?_); clear hJ J; rintro r os' ros ⟨rfl, rfl, rfl⟩ _; refine RunsL.go tabOk fun J hJ => ?_; simp only [go_sem, ↓reduceIte, Nat.reduceAdd, Nat.reduceSub, Nat.reduceMul, Nat.reduceLT, Nat.reduceLeDiff, Nat.reduceEqDiff, Nat.reduceBEq, Int.reduceToNat, Bool.not_true, Bool.not_false, Int.reduceBEq, Int.reduceBNe, f1, f2, f3, f4, f5, f6, f7, f8, f9, f10, f11, f12, f13, f14, f15, f16]; try simp (disch := omega) only [wrap_id]) | simp only [↓reduceIte, not_false_eq_true, Bool.not_true, Bool.not_false, Int.reduceBEq, Int.reduceBNe, f1, f2, f3, f4, f5, f6, f7, f8, f9, f10, f11, f12, f13, f14, f15, f16])); (first | (refine hJ _ _ ?_; clear hJ J; exact hq.out) | exact hq.out))) : p := k ⟨⟩ c1 f1 f2 f3 f4 f5 f6 f7 f8 f9 f10 f11 f12 f13 f14 f15 f16 ⟨h⟩
theorem auto16c2_ {b1 b2 a1 a2 a3 a4 a5 a6 a7 a8 a9 a10 a11 a12 a13 a14 a15 a16 p q : Prop} (m : Nat) (ex : List Nat) (c1 : b1) (c2 : b2) (f1 : a1) (f2 : a2) (f3 : a3) (f4 : a4) (f5 : a5) (f6 : a6) (f7 : a7) (f8 : a8) (f9 : a9) (f10 : a10) (f11 : a11) (f12 : a12) (f13 : a13) (f14 : a14) (f15 : a15) (f16 : a16) (h : q) (k : HN m ex → b1 → b2 → a1 → a2 → a3 → a4 → a5 → a6 → a7 → a8 → a9 → a10 → a11 → a12 → a13 → a14 → a15 → a16 → Held q → p := by (intro hm c1 c2 f1 f2 f3 f4 f5 f6 f7 f8 f9 f10 f11 f12 f13 f14 f15 f16 hq; (repeat' (first | refine ⟨by omega, ?_⟩ | (refine hJ _ _ (RunsL.nil ?_); clear hJ J) | refine RunsA.cond rfl (fun h => ?_) (fun h => absurd h (by decide)) | refine RunsA.cond rfl (fun h => absurd h (by decide)) (fun h => ?_) | (refine step_ ?_) | (refine rkH hm tabOk fun J hJ => ?_; simp only [go_sem, ↓reduceIte, Nat.reduceAdd, Nat.reduceSub, Nat.reduceMul, Nat.reduceLT, Nat.reduceLeDiff, Nat.reduceEqDiff, Nat.reduceBEq, Int.reduceToNat, Bool.not_true, Bool.not_false, Int.reduceBEq, Int.reduceBNe, f1, f2, f3, f4, f5, f6, f7, f8, f9, f10, f11, f12, f13, f14, f15, f16]; try simp (disch := omega) only [wrap_id]) | (refine hJ _ _ (call_ (ps := []) (rid := 16) rfl rfl rfl rfl rfl (c1) ?_); clear hJ J; rintro r os' ros ⟨rfl, rfl, rfl⟩ _; refine RunsL.go tabOk fun J hJ => ?_; simp only [go_sem, ↓reduceIte, Nat.reduceAdd, Nat.reduceSub, Nat.reduceMul, Nat.reduceLT, Nat.reduceLeDiff, Nat.reduceEqDiff, Nat.reduceBEq, Int.reduceToNat, Bool.not_true, Bool.not_false, Int.reduceBEq, Int.reduceBNe, f1, f2, f3, f4, f5, f6, f7, f8, f9, f10, f11, f12, f13, f14, f15, f16]; try simp (disch := omega) only [wrap_id]) | (refine hJ _ _ (call_ (ps := []) (rid := 16) rfl rfl rfl rfl rfl (c2) ?_); clear hJ J; rintro r os' ros ⟨rfl, rfl, rfl⟩ _; refine RunsL.go tabOk fun J hJ => ?_; simp only [go_sem, ↓reduceIte, Nat.reduceAdd, Nat.reduceSub, Nat.reduceMul, Nat.reduceLT, Nat.reduceLeDiff, Nat.reduceEqDiff, Nat.reduceBEq, Int.reduceToNat, Bool.not_true, Bool.not_false, Int.reduceBEq, Int.reduceBNe, f1, f2, f3, f4, f5, f6, f7, f8, f9, f10, f11, f12, f13, f14, f15, f16]; try simp (disch := omega) only [wrap_id]) | simp only [↓reduceIte, not_false_eq_true, Bool.not_true, Bool.not_false, Int.reduceBEq, Int.reduceBNe, f1, f2, f3, f4, f5, f6, f7, f8, f9, f10, f11, f12, f13, f14, f15, f16])); (first | (refine hJ _ _ ?_; clear hJ J; exact hq.out) | exact hq.out))) : p := k ⟨⟩ c1 c2 f1 f2 f3 f4 f5 f6 f7 f8 f9 f10 f11 f12 f13 f14 f15 f16 ⟨h⟩
end Go.Proofs.YtiilnlihimdnlaaGreatDoorFw
