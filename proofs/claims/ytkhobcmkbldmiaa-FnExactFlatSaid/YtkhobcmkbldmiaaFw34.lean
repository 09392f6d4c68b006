/- What comes in, read as abstract values. -/
import Derived.Test.YtkhobcmkbldmiaaFw33
import Derived.ProofKit
import Derived.SizedLaws
import Derived.ChangeArms
namespace Go.Proofs.YtkhobcmkbldmiaaFw
open Go Go.RowKit
set_option linter.unusedVariables false

/-- At the call's begin all that is there is lent. -/
def g0 (w : World) : Gh where
  loc := fun _ _ => none
  own := fun _ => none
  perm := fun _ => False
  bor := fun b => b < w.heap.size
  st := false

def inB (k : IntKind) (n : Int) : Prop := k.min ≤ n ∧ n ≤ k.max

/-- The cells of a value of a type, as data that came in. -/
inductive TyV (T : Tab) : TypeId → List AV → Prop where
  | int (t : TypeId) (k : IntKind) (n : Int) (ti : TI) (h : T t = some ti) (hk : ti.k = .int k) (hr : inB k n) : TyV T t [.int k n]
  | bool (t : TypeId) (b : Bool) (ti : TI) (h : T t = some ti) (hk : ti.k = .bool) : TyV T t [.bool b]
  | str (t : TypeId) (s : List UInt8) (ti : TI) (h : T t = some ti) (hk : ti.k = .str) (hr : s.length ≤ reachBytes) : TyV T t [.str s]
  | slice (t e : TypeId) (es : List AV) (ti ei : TI) (h : T t = some ti) (hk : ti.k = .slice e) (he : T e = some ei) (hr : es.length * ei.by_ ≤ reachBytes)
      (hs : ∀ x ∈ es, ∃ cs, x = mkE ei.k cs ∧ x.cells = cs) (hc : ∀ x ∈ es, TyV T e x.cells) : TyV T t [.row .bo ei.sz es]
  | struct (t : TypeId) (fs : List (Nat × TypeId)) (parts : List (List AV)) (ti : TI) (h : T t = some ti) (hk : ti.k = .struct fs) (hl : parts.length = fs.length)
      (hp : ∀ (i : Nat) (off : Nat) (ft : TypeId) (p : List AV), fs[i]? = some (off, ft) → parts[i]? = some p → TyV T ft p) : TyV T t parts.flatten

def All2 (g : Gh) (w : World) : List AV → List Value → Prop
  | [], [] => True
  | x :: xs, u :: us => Cell g w .bo x u ∧ All2 g w xs us
  | _, _ => False

theorem All2.append {g : Gh} {w : World} : ∀ {xs ys : List AV} {us vs : List Value}, All2 g w xs us → All2 g w ys vs → All2 g w (xs ++ ys) (us ++ vs)
  | [], ys, [], vs, _, h => h
  | x :: xs, ys, u :: us, vs, h1, h2 => ⟨h1.1, All2.append h1.2 h2⟩
  | [], _, _ :: _, _, h, _ => h.elim
  | _ :: _, _, [], _, h, _ => h.elim

theorem All2.get {g : Gh} {w : World} : ∀ {xs : List AV} {us : List Value}, All2 g w xs us → xs.length = us.length ∧ ∀ (k : Nat) (x : AV) (u : Value), xs[k]? = some x → us[k]? = some u → Cell g w .bo x u
  | [], [], _ => ⟨rfl, fun k x u h => by simp at h⟩
  | x :: xs, u :: us, h => by
    obtain ⟨h1, h2⟩ := All2.get h.2
    refine ⟨by simp [h1], ?_⟩
    intro k y v hy hv
    cases k with
    | zero => simp at hy hv; subst hy; subst hv; exact h.1
    | succ k => exact h2 k y v (by simpa using hy) (by simpa using hv)
  | [], _ :: _, h => h.elim
  | _ :: _, [], h => h.elim

theorem Cell.cells1 {g : Gh} {w : World} {p : Pl} {x : AV} {u : Value} (h : Cell g w p x u) : x.cells = [x] := by cases h <;> rfl

/-- Fields that lie one behind the other. -/
def tiled (T : Tab) : List (Nat × TypeId) → Nat → Nat → Bool
  | [], off, n => off == n
  | (o, t) :: r, off, n => o == off && (match T t with | some ti => tiled T r (off + ti.sz) n | none => false)

/-- Each type that is told is told whole. -/
def tabWhole (l : List (TypeId × TI)) : Bool :=
  l.all fun p =>
    match p.2.k with
    | .struct fs => tiled (lookT l) fs 0 p.2.sz
    | .slice e => (match lookT l e with | some ei => (isAggK ei.k || ei.sz == 1) && decide (0 < ei.sz) | none => false)
    | .int _ => p.2.sz == 1
    | .bool => p.2.sz == 1
    | .str => p.2.sz == 1
    | _ => true

theorem lookT_mem : ∀ {l : List (TypeId × TI)} {t : TypeId} {ti : TI}, lookT l t = some ti → (t, ti) ∈ l
  | [], _, _, h => by simp [lookT] at h
  | p :: r, t, ti, h => by
    simp only [lookT] at h
    split at h
    · rename_i e; subst e; obtain rfl := Option.some.inj h; simp
    · exact List.mem_cons_of_mem _ (lookT_mem h)

theorem TIOk.cellsOf {P : Program} {t : TypeId} {ti : TI} (h : TIOk P t ti) : P.cellsOf t = ti.sz := by
  obtain ⟨i, z, hi, hs, _⟩ := h.info
  simp [Program.cellsOf, hi, hs]

theorem TIOk.bytesOf {P : Program} {t : TypeId} {ti : TI} (h : TIOk P t ti) : P.bytesOf t = ti.by_ := by
  obtain ⟨i, z, hi, _, hb, _⟩ := h.info
  simp [Program.bytesOf, hi, hb]

theorem weightsAll_mem {H : Type} {P : Program} {e : TypeId} : ∀ {l : List (DataW H)} {d : DataW H}, d ∈ l → ∀ x ∈ d.weights P e, x ∈ DataW.weightsAll P e l
  | y :: r, d, h, x, hx => by
    simp only [DataW.weightsAll, List.mem_append]
    rcases List.mem_cons.1 h with e' | e'
    · subst e'; exact .inl hx
    · exact .inr (weightsAll_mem e' x hx)

theorem weightsEach_get {H : Type} {P : Program} : ∀ {ts : List TypeId} {l : List (DataW H)} {i : Nat} {t : TypeId} {d : DataW H}, ts[i]? = some t → l[i]? = some d → ∀ x ∈ d.weights P t, x ∈ DataW.weightsEach P ts l
  | [], _, _, _, _, h, _ => by simp at h
  | _ :: _, [], _, _, _, _, h => by simp at h
  | t' :: ts, d' :: l, 0, t, d, h1, h2 => by
    simp at h1 h2; subst h1; subst h2
    intro x hx
    simp only [DataW.weightsEach, List.mem_append]
    exact .inl hx
  | t' :: ts, d' :: l, i + 1, t, d, h1, h2 => by
    intro x hx
    simp only [DataW.weightsEach, List.mem_append]
    exact .inr (weightsEach_get (by simpa using h1) (by simpa using h2) x hx)

theorem mapM_some_get' {α β : Type} {f : α → Option β} : ∀ {l : List α} {r : List β}, l.mapM f = some r → r.length = l.length ∧ ∀ (i : Nat) (x : α), l[i]? = some x → ∃ y, f x = some y ∧ r[i]? = some y
  | [], r, h => by simp at h; subst h; exact ⟨rfl, fun i x h => by simp at h⟩
  | a :: l, r, h => by
    rw [List.mapM_cons] at h
    cases ha : f a with
    | none => simp [ha] at h
    | some b =>
      cases hl : l.mapM f with
      | none => simp [ha, hl] at h
      | some r' =>
        simp [ha, hl] at h
        subst h
        obtain ⟨h1, h2⟩ := mapM_some_get' hl
        refine ⟨by simp [h1], ?_⟩
        intro i x hi
        cases i with
        | zero => simp at hi; subst hi; exact ⟨b, ha, rfl⟩
        | succ i => obtain ⟨y, h3, h4⟩ := h2 i x (by simpa using hi); exact ⟨y, h3, by simpa using h4⟩

theorem open_struct {T : Tab} {g : Gh} {w : World} {cs : List Value} : ∀ (fs : List (Nat × TypeId)) (off n : Nat), tiled T fs off n = true → cs.length = n →
    (∀ (i o : Nat) (ft : TypeId) (fi : TI), fs[i]? = some (o, ft) → T ft = some fi → ∃ xs, TyV T ft xs ∧ All2 g w xs ((cs.drop o).take fi.sz)) →
    ∃ parts : List (List AV), parts.length = fs.length ∧ All2 g w parts.flatten (cs.drop off) ∧ ∀ (i o : Nat) (ft : TypeId) (p : List AV), fs[i]? = some (o, ft) → parts[i]? = some p → TyV T ft p
  | [], off, n, ht, hl, _ => by
    simp only [tiled, beq_iff_eq] at ht
    refine ⟨[], rfl, ?_, fun i o ft p h => by simp at h⟩
    rw [List.drop_of_length_le (by omega)]
    trivial
  | (o, t) :: r, off, n, ht, hl, h => by
    simp only [tiled, Bool.and_eq_true, beq_iff_eq] at ht
    obtain ⟨rfl, ht⟩ := ht
    cases hti : T t with
    | none => simp [hti] at ht
    | some ti =>
      rw [hti] at ht
      simp only at ht
      obtain ⟨xs, h1, h2⟩ := h 0 o t ti rfl hti
      obtain ⟨parts, k1, k2, k3⟩ := open_struct r (o + ti.sz) n ht hl (fun i o' ft fi hi hf => h (i + 1) o' ft fi (by simpa using hi) hf)
      refine ⟨xs :: parts, by simp [k1], ?_, ?_⟩
      · have : cs.drop o = (cs.drop o).take ti.sz ++ cs.drop (o + ti.sz) := by
          rw [← List.drop_drop, List.take_append_drop]
        rw [this, List.flatten_cons]
        exact h2.append k2
      · intro i o' ft p hi hp
        cases i with
        | zero => simp at hi hp; obtain ⟨rfl, rfl⟩ := hi; subst hp; exact h1
        | succ i => exact k3 i o' ft p (by simpa using hi) (by simpa using hp)

theorem open_data {H : Type} {enc : TypeId × Value → H} {P : Program} {l : List (TypeId × TI)} (hT : TabOk P (lookT l)) (hW : tabWhole l = true) {w : World} :
    ∀ (fuel : Nat) (t : TypeId) (ti : TI) (cs : List Value) (d : DataW H) (ps : List MemPlace), lookT l t = some ti → ti.k ≠ .other → (∀ n e, ti.k ≠ .arr n e) → (∀ t' ti', lookT l t' = some ti' → (∀ e, ti'.k = .slice e → ∀ ei, lookT l e = some ei → ei.k ≠ .other ∧ ∀ n e', ei.k ≠ .arr n e') ∧ (∀ fs, ti'.k = .struct fs → ∀ o ft fi, (o, ft) ∈ fs → lookT l ft = some fi → fi.k ≠ .other ∧ ∀ n e', fi.k ≠ .arr n e')) →
      DataW.trod enc P w 0 (fun _ => true) true fuel t cs = some (d, ps) → (∀ x ∈ d.weights P t, x ≤ reachBytes) →
      ∃ xs, TyV (lookT l) t xs ∧ All2 (g0 w) w xs cs := by
  intro fuel
  induction fuel with
  | zero => intro t ti cs d ps _ _ _ _ h; simp [DataW.trod] at h
  | succ fuel ih =>
    intro t ti cs d ps ht hno hna hall h hwt
    have hTI := hT t ti ht
    have hwh := List.all_eq_true.1 hW _ (lookT_mem ht)
    cases hk : ti.k with
    | other => exact absurd hk hno
    | arr n e => exact absurd hk (hna n e)
    | int k =>
      have hu := hTI.kind
      rw [hk] at hu
      have hu : P.underlying t = some (.int k) := hu
      obtain ⟨n, rfl, _, hwf⟩ := DataW.trod_int hu h
      simp only [Lit.wf, Bool.and_eq_true, decide_eq_true_eq] at hwf
      exact ⟨[.int k n], .int t k n ti ht hk hwf, .int _ _ _, trivial⟩
    | bool =>
      have hu := hTI.kind
      rw [hk] at hu
      have hu : P.underlying t = some .bool := hu
      obtain ⟨b, rfl, _⟩ := DataW.trod_bool hu h
      exact ⟨[.bool b], .bool t b ti ht hk, .bool _ _, trivial⟩
    | str =>
      have hu := hTI.kind
      rw [hk] at hu
      have hu : P.underlying t = some .string := hu
      obtain ⟨s, rfl, he, _⟩ := DataW.trod_string hu h
      simp only [Prod.mk.injEq] at he
      obtain ⟨rfl, rfl⟩ := he
      exact ⟨[.str s.data.toList], .str t _ ti ht hk (hwt _ (by simp [DataW.weights])), .str _ s.data.toList, trivial⟩
    | slice e =>
      have hu := hTI.kind
      rw [hk] at hu
      have hu : P.underlying t = some (.slice e) := hu
      rw [hk] at hwh
      simp only at hwh
      cases hei : lookT l e with
      | none => rw [hei] at hwh; simp at hwh
      | some ei =>
        rw [hei] at hwh
        simp only [Bool.and_eq_true, Bool.or_eq_true, beq_iff_eq, decide_eq_true_eq] at hwh
        have hEI := hT e ei hei
        have hco := hEI.cellsOf
        have hbo := hEI.bytesOf
        obtain ⟨hno', hna'⟩ := (hall t ti ht).1 e hk ei hei
        rcases DataW.trod_slice hu h with ⟨rfl, _⟩ | ⟨a, len, cap, elems, rest, n, hfu, rfl, he, _, hlc, hcm, hln, hget0, _⟩
        · exact ⟨[.row .bo ei.sz []], .slice t e [] ti ei ht hk hei (by simp) (fun x hx => by simp at hx) (fun x hx => by simp at hx), .emp _ _ _ _ _ (by simp), trivial⟩
        · obtain rfl : fuel = n := by omega
          simp only [Prod.mk.injEq] at he
          obtain ⟨rfl, _⟩ := he
          have hget : ∀ (i x : Nat), (List.range len)[i]? = some x → ∃ y, (w.cells? 0 (a.add (x * P.cellsOf e)) (P.cellsOf e)).bind (DataW.trod enc P w 0 (fun _ => true) true fuel e) = some y ∧ elems[i]? = some y := by
            intro i x hx
            have hi := lt_of_get hx
            simp only [List.length_range] at hi
            rw [List.getElem?_range hi] at hx
            obtain rfl := Option.some.inj hx
            have hg := hget0 i hi
            have hi2 : i < elems.length := by omega
            rw [List.getElem?_eq_getElem hi2] at hg
            exact ⟨_, hg, List.getElem?_eq_getElem hi2⟩
          simp only [DataW.weights, hu, List.length_map] at hwt
          have hw0 := hwt ((elems.length + rest.length) * P.bytesOf e) (by simp)
          have hwe : ∀ p ∈ elems, ∀ x ∈ p.1.weights P e, x ≤ reachBytes := fun p hp x hx => hwt x (by
            simp only [List.mem_cons, List.mem_append]
            exact .inr (.inl (weightsAll_mem (List.mem_map.2 ⟨p, hp, rfl⟩) x hx)))
          have hex : ∀ i, ∃ xs : List AV, i < len → ∃ us : List Value, TyV (lookT l) e xs ∧ All2 (g0 w) w xs us ∧ us.length = ei.sz ∧ ∀ j, j < ei.sz → w.cell? ((a.add (i * ei.sz)).add j) = us[j]? := by
            intro i
            by_cases hi : i < len
            · obtain ⟨y, hy, hy2⟩ := hget i i (by rw [List.getElem?_range hi])
              rw [hco] at hy
              cases hcs : w.cells? 0 (a.add (i * ei.sz)) ei.sz with
              | none => rw [hcs] at hy; simp at hy
              | some us =>
                rw [hcs] at hy
                simp only [Option.bind_some] at hy
                obtain ⟨_, c2, c3⟩ := World.cells?_some hcs
                obtain ⟨xs, k1, k2⟩ := ih e ei us y.1 y.2 hei hno' hna' hall hy (hwe y (List.mem_of_getElem? hy2))
                exact ⟨xs, fun _ => ⟨us, k1, k2, c2, c3⟩⟩
            · exact ⟨[], fun h => absurd h hi⟩
          obtain ⟨F, hF⟩ := Classical.axiomOfChoice hex
          have hmk : ∀ i, i < len → (mkE ei.k (F i)).cells = F i := by
            intro i hi
            obtain ⟨us, k1, k2, k3, k4⟩ := hF i hi
            obtain ⟨q1, q2⟩ := k2.get
            refine mkE_cells (sz := ei.sz) (by omega) (hwh.1) ?_
            intro c hc
            obtain ⟨j, hj⟩ := List.mem_iff_getElem?.1 hc
            have hjl := lt_of_get hj
            obtain ⟨u, hu'⟩ : ∃ u, us[j]? = some u := ⟨us[j], List.getElem?_eq_getElem (by omega)⟩
            exact (q2 j c u hj hu').cells1
          refine ⟨[.row .bo ei.sz ((List.range len).map fun i => mkE ei.k (F i))], ?_, ?_, trivial⟩
          · refine .slice t e _ ti ei ht hk hei ?_ ?_ ?_
            · rw [hbo, hln] at hw0
              simp only [List.length_map, List.length_range]
              exact Nat.le_trans (Nat.mul_le_mul_right _ (Nat.le_add_right _ _)) hw0
            · intro x hx
              obtain ⟨i, hi, rfl⟩ := List.mem_map.1 hx
              exact ⟨F i, rfl, hmk i (List.mem_range.1 hi)⟩
            · intro x hx
              obtain ⟨i, hi, rfl⟩ := List.mem_map.1 hx
              rw [hmk i (List.mem_range.1 hi)]
              obtain ⟨us, k1, _⟩ := hF i (List.mem_range.1 hi)
              exact k1
          · by_cases h0 : len = 0
            · subst h0; simp only [List.range_zero, List.map_nil]; exact .emp _ _ _ _ _ (by simp)
            · have hpos : 0 < len := by omega
              obtain ⟨us0, _, _, c3, c4⟩ := hF 0 hpos
              have hc0 := c4 0 hwh.2
              simp only [Nat.zero_mul] at hc0
              rw [Addr.add_zero', Addr.add_zero', List.getElem?_eq_getElem (by omega)] at hc0
              have hsp : a.spot = none := by
                unfold World.cell? at hc0
                split at hc0
                · split at hc0
                  · simp at hc0
                  · rename_i hs; cases h : a.spot <;> simp_all
                · simp at hc0
              have hblk : a.block < w.heap.size := by
                unfold World.cell? at hc0
                rcases Nat.lt_or_ge a.block w.heap.size with h' | h'
                · exact h'
                · simp [Array.getElem?_eq_none h'] at hc0
              have hlen2 : ((List.range len).map fun i => mkE ei.k (F i)).length = len := by simp
              have key : Cell (g0 w) w .bo (.row .bo ei.sz ((List.range len).map fun i => mkE ei.k (F i))) (.slice (some a) ((List.range len).map fun i => mkE ei.k (F i)).length cap) := by
                have hgi : ∀ (i : Nat) (x : AV), ((List.range len).map fun i => mkE ei.k (F i))[i]? = some x → i < len ∧ x = mkE ei.k (F i) := by
                  intro i x hx
                  have hi := lt_of_get hx
                  rw [hlen2] at hi
                  rw [List.getElem?_map, List.getElem?_range hi] at hx
                  exact ⟨hi, (Option.some.inj hx).symm⟩
                have hcell : ∀ (i k : Nat) (x y : AV), ((List.range len).map fun i => mkE ei.k (F i))[i]? = some x → x.cells[k]? = some y → ∃ u, w.cell? (a.add (i * ei.sz + k)) = some u ∧ Cell (g0 w) w .bo y u := by
                  intro i k x y hx hy
                  obtain ⟨hi, rfl⟩ := hgi i x hx
                  rw [hmk i hi] at hy
                  obtain ⟨us, k1, k2, k3, k4⟩ := hF i hi
                  obtain ⟨q1, q2⟩ := k2.get
                  have hkl : k < ei.sz := by have := lt_of_get hy; omega
                  have hc := k4 k hkl
                  rw [List.getElem?_eq_getElem (by omega), add_add _ hsp] at hc
                  exact ⟨_, hc, q2 k y _ hy (List.getElem?_eq_getElem (by omega))⟩
                refine .rd _ _ _ _ _ _ (fun j => (w.cell? (a.add j)).getD undef) (by simp) (.inr hblk) hsp (by rw [hlen2]; exact hlc) ?_ ?_ ?_
                · intro i x hx
                  obtain ⟨hi, rfl⟩ := hgi i x hx
                  obtain ⟨us, k1, k2, k3, k4⟩ := hF i hi
                  have := k2.get.1
                  show (mkE ei.k (F i)).cells.length = ei.sz
                  rw [hmk i hi]; omega
                · intro i k x y hx hy
                  obtain ⟨u, h1, h2⟩ := hcell i k x y hx hy
                  rw [h1]; rfl
                · intro i k x y hx hy
                  obtain ⟨u, h1, h2⟩ := hcell i k x y hx hy
                  simp only [h1, Option.getD_some]
                  exact h2
              rw [hlen2] at key
              exact key
    | struct fs =>
      have hu := hTI.kind
      rw [hk] at hu
      obtain ⟨fields, hu, hfs⟩ := hu
      rw [hk] at hwh
      simp only at hwh
      have hco := hTI.cellsOf
      obtain ⟨xs, n, hfu, he, hlen, hxl, hget0⟩ := DataW.trod_struct hu h
      obtain rfl : fuel = n := by omega
      rw [hco] at hlen
      simp only [Prod.mk.injEq] at he
      obtain ⟨rfl, _⟩ := he
      have hget : ∀ (i : Nat) (f : Field), fields.toList[i]? = some f → ∃ y, DataW.trod enc P w 0 (fun _ => true) true fuel f.type ((cs.drop f.offset).take (P.cellsOf f.type)) = some y ∧ xs[i]? = some y := by
        intro i f hf
        have hg := hget0 i f (by simpa using hf)
        have hi : i < fields.toList.length := lt_of_get hf
        have hi2 : i < xs.length := by rw [hxl]; simpa using hi
        rw [List.getElem?_eq_getElem hi2] at hg
        exact ⟨_, hg, List.getElem?_eq_getElem hi2⟩
      simp only [DataW.weights, hu] at hwt
      obtain ⟨parts, k1, k2, k3⟩ := open_struct (T := lookT l) (g := g0 w) (w := w) (cs := cs) fs 0 ti.sz hwh hlen (by
        intro i o ft fi hi hfi
        rw [← hfs, List.getElem?_map] at hi
        cases hfd : fields.toList[i]? with
        | none => simp [hfd] at hi
        | some fd =>
          rw [hfd] at hi
          simp only [Option.map_some, Option.some.injEq, Prod.mk.injEq] at hi
          obtain ⟨rfl, rfl⟩ := hi
          obtain ⟨y, hy, hy2⟩ := hget i fd hfd
          rw [(hT fd.type fi hfi).cellsOf] at hy
          have hmem : (fd.offset, fd.type) ∈ fs := by rw [← hfs]; exact List.mem_map.2 ⟨fd, List.mem_of_getElem? hfd, rfl⟩
          obtain ⟨hno', hna'⟩ := (hall t ti ht).2 fs hk fd.offset fd.type fi hmem hfi
          exact ih fd.type fi _ y.1 y.2 hfi hno' hna' hall hy (fun x hx => hwt x (weightsEach_get (i := i) (by rw [List.getElem?_map, hfd]; rfl) (by rw [List.getElem?_map, hy2]; rfl) x hx)))
      exact ⟨parts.flatten, .struct t fs parts ti ht hk k1 k3, by simpa using k2⟩

end Go.Proofs.YtkhobcmkbldmiaaFw
