/- The last operations that leave the memory alone: signs, conversions, parts, values built. -/
import Derived.Test.YtkhobcmkbldmiaaFw9
namespace Go.Proofs.YtkhobcmkbldmiaaFw
open Go Go.RowKit
set_option linter.unusedVariables false

def vUn (op : UnOp) (x : AV) : Option AV :=
  match op, x with
  | .neg, .int k n => some (.int k (k.wrap (0 - n)))
  | .not, .bool b => some (.bool (!b))
  | .xor, .int k n => if k.signed then some (.int k (bits .xor k (-1) n)) else none
  | _, _ => none

theorem vUn_ok {P : Program} {op : UnOp} {x y : AV} (h : vUn op x = some y) {w : World} {g : Gh} {v : Value} (hv : Val g w x v) : ∃ r, (Op.unary op v).run P w = .ok r w ∧ Val g w y r := by
  unfold vUn at h
  split at h
  · obtain rfl := Option.some.inj h; obtain rfl := hv.int_inv
    exact ⟨_, by simp [Op.unary, Op.intArith], Val.mkInt _ _ _ _⟩
  · obtain rfl := Option.some.inj h; obtain rfl := hv.bool_inv
    exact ⟨_, by simp [Op.unary], Val.mkBool _ _ _⟩
  · split at h
    · rename_i hk
      obtain rfl := Option.some.inj h; obtain rfl := hv.int_inv
      exact ⟨_, by simp [Op.unary, hk, intBits_xor], Val.mkInt _ _ _ _⟩
    · simp at h
  · simp at h

def vConv (T : Tab) (src dst : TypeId) (x : AV) : Option AV :=
  match T src, T dst with
  | some _, some { k := .int k, .. } =>
    match x with
    | .int _ n => some (.int k (k.wrap n))
    | _ => none
  | some _, some { k := .str, .. } =>
    match x with
    | .str l => some (.str l)
    | _ => none
  | _, _ => none

theorem TKOk.some {P : Program} {t : TypeId} {k : TK} (h : TKOk P t k) : ∃ d, P.underlying t = some d := by
  cases k with
  | struct fs => obtain ⟨f, h, _⟩ := h; exact ⟨_, h⟩
  | other => obtain ⟨d, h, _⟩ := h; exact ⟨d, h⟩
  | _ => exact ⟨_, h⟩

theorem vConv_ok {P : Program} {T : Tab} (hT : TabOk P T) {src dst : TypeId} {x y : AV} (h : vConv T src dst x = some y) {w : World} {g : Gh} {v : Value} (hv : Val g w x v) : ∃ r, (convert src dst v).run P w = .ok r w ∧ Val g w y r := by
  unfold vConv at h
  split at h
  · rename_i si k sz by_ z hs hd
    obtain ⟨d, hd1⟩ := (hT _ _ hs).kind.some
    have hd2 : P.underlying dst = some (.int k) := (hT _ _ hd).kind
    split at h
    · rename_i k' n
      obtain rfl := Option.some.inj h; obtain rfl := hv.int_inv
      exact ⟨_, by simp [convert, run_underlying hd1, run_underlying hd2, Conv.intToInt], Val.mkInt _ _ _ _⟩
    · simp at h
  · rename_i si sz by_ z hs hd
    obtain ⟨d, hd1⟩ := (hT _ _ hs).kind.some
    have hd2 : P.underlying dst = some .string := (hT _ _ hd).kind
    split at h
    · rename_i l
      obtain rfl := Option.some.inj h; obtain rfl := hv.str_inv
      refine ⟨.string ⟨⟨l⟩⟩, ?_, Val.mkStr _ _ _⟩
      simp [convert, run_underlying hd1, run_underlying hd2]
    · simp at h
  · simp at h

def vExtract (x : AV) (i : Nat) : Option AV :=
  match x with
  | .tup cs => cs[i]?
  | _ => none

theorem vExtract_ok {P : Program} {x y : AV} {i : Nat} (h : vExtract x i = some y) {w : World} {g : Gh} {v : Value} (hv : Val g w x v) : ∃ r, (Instr.extract v i).run P w = .ok r w ∧ Val g w y r := by
  unfold vExtract at h
  split at h
  · rename_i cs
    obtain ⟨vs, rfl, hl, hh⟩ := hv.tup_inv
    have hlt : i < vs.size := by rw [hl]; exact lt_of_get h
    exact ⟨vs[i], by simp [Instr.extract, hlt], hh i y _ h (Array.getElem?_eq_getElem hlt)⟩
  · simp at h

def vNilCheck (x : AV) : Option AV :=
  match x with
  | .ptr id q sz i k => some (.ptr id q sz i k)
  | .rp m cs => some (.rp m cs)
  | .vp cs => some (.vp cs)
  | .fn f cs => some (.fn f cs)
  | _ => none

theorem Val.fn_inv {g : Gh} {w : World} {f : FuncId} {cs : List AV} {v : Value} (h : Val g w (.fn f cs) v) :
    ∃ vs : Array Value, v = .func (.func f) #[] vs ∧ vs.size = cs.length ∧ ∀ (k : Nat) (c : AV) (u : Value), cs[k]? = some c → vs[k]? = some u → Val g w c u := by
  cases h with
  | cell _ _ h => cases h
  | fn _ _ vs hl h => exact ⟨vs, rfl, hl, h⟩

/-! ### cells of a value -/
theorem Val.cells {g : Gh} {w : World} {x : AV} {v : Value} (h : Val g w x v) (hd : x ≠ .dead) :
    v.cells.size = x.cells.length ∧ ∀ (k : Nat) (c : AV) (u : Value), x.cells[k]? = some c → v.cells[k]? = some u → Val g w c u := by
  have one : ∀ {x : AV} {v : Value}, x.cells = [x] → v.cells = #[v] → Val g w x v → v.cells.size = x.cells.length ∧ ∀ (k : Nat) (c : AV) (u : Value), x.cells[k]? = some c → v.cells[k]? = some u → Val g w c u := by
    intro x v hx hv h
    refine ⟨by rw [hx, hv]; rfl, ?_⟩
    intro k c u hc hu
    rw [hx] at hc; rw [hv] at hu
    cases k with
    | zero => simp at hc hu; rw [← hc, ← hu]; exact h
    | succ k => simp at hc
  cases h with
  | cell _ _ h => cases h <;> first | exact absurd rfl hd | exact one rfl rfl (.cell _ _ (by constructor <;> assumption))
  | nilS => exact one rfl rfl .nilS
  | nilP => exact one rfl rfl .nilP
  | agg cs vs hl h => exact ⟨hl, h⟩
  | tup cs vs hl h => exact one rfl rfl (.tup _ _ hl h)
  | fn f cs vs hl h => exact one rfl rfl (.fn _ _ _ hl h)
  | hd id q b c n hl => exact one rfl rfl (.hd _ _ _ _ _ hl)
  | hdNil id q hl => exact one rfl rfl (.hdNil _ _ hl)
  | ref id q sz off n b cap len c a hl hc hn ha => exact one rfl rfl (.ref _ _ _ _ _ _ _ _ _ _ hl hc hn ha)
  | refNil id q sz hl => exact one rfl rfl (.refNil _ _ _ hl)
  | ptr id q sz i k b cap len hl => exact one rfl rfl (.ptr _ _ _ _ _ _ _ _ hl)
  | rp m cs a us hm hs hc ht => exact one rfl rfl (.rp _ _ _ us hm hs hc ht)
  | vp cs a us hm hs hc ht => exact one rfl rfl (.vp _ _ us hm hs hc ht)
  | dead v => exact absurd rfl hd

/-! ### a struct's value out of its parts -/
def slotZ : AV → AV
  | .row .own _ [] => .nilS
  | x => x

theorem ZOk.val {g : Gh} {w : World} {y : AV} {u : Value} (h : ZOk y u) : Val g w (slotZ y) u := by
  cases y with
  | int k n => cases u <;> simp [ZOk] at h; obtain ⟨rfl, rfl⟩ := h; exact Val.mkInt _ _ _ _
  | bool b => cases u <;> simp [ZOk] at h; subst h; exact Val.mkBool _ _ _
  | str s => cases u <;> simp [ZOk] at h; subst h; exact Val.mkStr _ _ _
  | nilI => cases u <;> simp [ZOk] at h; exact .cell _ _ (.nilI _)
  | dead => exact .dead _
  | row m sz es =>
    cases m <;> cases es <;> cases u <;> try (simp [ZOk] at h; done)
    rename_i a l c
    cases a <;> cases l <;> cases c <;> try (simp [ZOk] at h; done)
    exact .nilS
  | _ => cases u <;> simp [ZOk] at h

def setR : List AV → Nat → List AV → List AV
  | cs, _, [] => cs
  | cs, off, y :: r => setR (cs.set off y) (off + 1) r

def isDead : AV → Bool
  | .dead => true
  | _ => false

def fillA (T : Tab) (t : TypeId) : List AV → List (Nat × AV) → Option (List AV)
  | cs, [] => some cs
  | cs, (f, x) :: r =>
    match fieldOf T t f with
    | some (off, fi) => if isDead x = false ∧ x.cells.length = fi.sz ∧ off + fi.sz ≤ cs.length then fillA T t (setR cs off x.cells) r else none
    | none => none

def evL (s : St) : List (Nat × Operand) → Option (List (Nat × AV))
  | [] => some []
  | (f, x) :: r =>
    match s.ev x, evL s r with
    | some y, some l => some ((f, y) :: l)
    | _, _ => none

def vBuild (T : Tab) (s : St) (t : TypeId) (parts : List (Nat × Operand)) : Option AV :=
  match T t with
  | some ti =>
    match ti.k, evL s parts with
    | .struct _, some ps => (fillA T t (ti.z.map slotZ) ps).map .agg
    | _, _ => none
  | none => none

theorem setR_length : ∀ (ys cs : List AV) (off : Nat), (setR cs off ys).length = cs.length
  | [], cs, off => rfl
  | y :: r, cs, off => by simp [setR, setR_length r]

/-- Cells that are set one by one, on both sides. -/
theorem setR_val {g : Gh} {w : World} : ∀ (ys : List AV) (us : List Value) (cs : List AV) (vs : Array Value) (off j0 : Nat),
    us.length = ys.length → (∀ (k : Nat) (c : AV) (u : Value), ys[k]? = some c → us[k]? = some u → Val g w c u) →
    vs.size = cs.length → (∀ (k : Nat) (c : AV) (u : Value), cs[k]? = some c → vs[k]? = some u → Val g w c u) →
    let vs' := (us.zipIdx j0).foldl (fun cs (p : Value × Nat) => cs.setIfInBounds (off + p.2) p.1) vs
    vs'.size = (setR cs (off + j0) ys).length ∧ ∀ (k : Nat) (c : AV) (u : Value), (setR cs (off + j0) ys)[k]? = some c → vs'[k]? = some u → Val g w c u
  | [], us, cs, vs, off, j0, hl, _, hs, h => by
    cases us with
    | nil => exact ⟨hs, h⟩
    | cons u r => simp at hl
  | y :: ys, us, cs, vs, off, j0, hl, hv, hs, h => by
    cases us with
    | nil => simp at hl
    | cons u us =>
      simp only [List.zipIdx_cons, List.foldl_cons, setR]
      have := setR_val ys us (cs.set (off + j0) y) (vs.setIfInBounds (off + j0) u) off (j0 + 1) (by simpa using hl) (fun k c u hc hu => hv (k + 1) c u (by simpa using hc) (by simpa using hu)) (by simpa using hs) ?_
      · rw [← Nat.add_assoc] at this
        exact this
      · intro k c u' hc hu'
        by_cases hk : off + j0 = k
        · subst hk
          rw [Array.getElem?_setIfInBounds_self] at hu'
          split at hu'
          · obtain rfl := Option.some.inj hu'
            rw [List.getElem?_set_self (by omega)] at hc
            obtain rfl := Option.some.inj hc
            exact hv 0 _ _ rfl rfl
          · simp at hu'
        · rw [List.getElem?_set_ne hk] at hc
          rw [Array.getElem?_setIfInBounds_ne hk] at hu'
          exact h k c u' hc hu'

theorem run_fill {P : Program} {T : Tab} (hT : TabOk P T) {t : TypeId} {fields : Array Field} (ht : P.underlying t = some (.struct fields)) {g : Gh} {w : World} {pl : Nat → Option (Nat × Nat)}
    (hpl : ∀ (f off : Nat) (fi : TI), fieldOf T t f = some (off, fi) → pl f = some (off, fi.sz)) :
    ∀ (ps : List (Nat × AV)) (vs : List (Nat × Value)) (cs : List AV) (zs : Array Value) (out : List AV),
    fillA T t cs ps = some out → vs.map (·.1) = ps.map (·.1) → (∀ (j : Nat) (p : Nat × AV) (u : Nat × Value), ps[j]? = some p → vs[j]? = some u → Val g w p.2 u.2) →
    zs.size = cs.length → (∀ (k : Nat) (c : AV) (u : Value), cs[k]? = some c → zs[k]? = some u → Val g w c u) →
    ∃ zs', Instr.fill pl zs vs = some zs' ∧ zs'.size = out.length ∧ ∀ (k : Nat) (c : AV) (u : Value), out[k]? = some c → zs'[k]? = some u → Val g w c u
  | [], vs, cs, zs, out, h, hm, _, hz, hc => by
    cases vs with
    | nil => simp only [fillA, Option.some.injEq] at h; subst h; exact ⟨zs, rfl, hz, hc⟩
    | cons v r => simp at hm
  | (f, x) :: r, vs, cs, zs, out, h, hm, hv, hz, hc => by
    cases vs with
    | nil => simp at hm
    | cons p vs =>
      obtain ⟨f', v⟩ := p
      simp only [List.map_cons, List.cons.injEq] at hm
      obtain ⟨rfl, hm⟩ := hm
      simp only [fillA] at h
      split at h
      · rename_i off fi hf
        split at h
        · rename_i hcond
          obtain ⟨h1, h2, h3⟩ := hcond
          have hvx : Val g w x v := hv 0 _ _ rfl rfl
          obtain ⟨hsz, hcells⟩ := hvx.cells (fun e => by rw [e] at h1; simp [isDead] at h1)
          have hset := setR_val (g := g) (w := w) x.cells v.cells.toList cs zs off 0 (by simpa using hsz) (fun k c u hc hu => hcells k c u hc (by simpa using hu)) hz hc
          simp only [Nat.add_zero] at hset
          have e1 : v.cells.zipIdx.foldl (fun cs (p : Value × Nat) => cs.setIfInBounds (off + p.2) p.1) zs = (v.cells.toList.zipIdx 0).foldl (fun cs (p : Value × Nat) => cs.setIfInBounds (off + p.2) p.1) zs := by
            rw [← Array.foldl_toList]; simp
          obtain ⟨zs', hz1, hz2, hz3⟩ := run_fill hT ht hpl r vs _ _ out h hm (fun j p u hp hu => hv (j + 1) p u (by simpa using hp) (by simpa using hu)) hset.1 hset.2
          refine ⟨zs', ?_, hz2, hz3⟩
          simp only [Instr.fill, hpl f' off fi hf]
          rw [if_neg]
          · rw [← hz1]; exact congrArg (fun z => Instr.fill pl z vs) e1
          · simp only [Bool.or_eq_true, decide_eq_true_eq, not_or]
            have : v.cells.size = fi.sz := by omega
            exact ⟨by simpa using this, by omega⟩
        · simp at h
      · simp at h

theorem mapM_sizes {P : Program} {T : Tab} (hT : TabOk P T) (w : World) : ∀ (l : List Field), (∀ f ∈ l, (T f.type).isSome = true) →
    ∃ ps : List (Nat × Nat), (l.mapM fun f => (do pure (f.offset, ← sizeOf f.type) : Sem (Nat × Nat))).run P w = .ok ps w ∧ ps.length = l.length ∧
      ∀ (j : Nat) (f : Field) (fi : TI), l[j]? = some f → T f.type = some fi → ps[j]? = some (f.offset, fi.sz)
  | [], _ => ⟨[], rfl, rfl, fun j f fi h => by simp at h⟩
  | f :: r, h => by
    obtain ⟨ps, h1, h2, h3⟩ := mapM_sizes hT w r (fun x hx => h x (by simp [hx]))
    obtain ⟨fi, hfi⟩ := Option.isSome_iff_exists.1 (h f (by simp))
    refine ⟨(f.offset, fi.sz) :: ps, ?_, by simp [h2], ?_⟩
    · simp only [List.mapM_cons, Sem.run_bind, run_sizeOf' (hT _ _ hfi), Result.andThen_ok, Sem.run_pure, h1]
    · intro j f' fi' hj hf'
      cases j with
      | zero =>
        simp only [List.getElem?_cons_zero, Option.some.injEq] at hj
        subst hj
        rw [hfi] at hf'
        obtain rfl := Option.some.inj hf'
        rfl
      | succ j => exact h3 j f' fi' (by simpa using hj) hf'

theorem evL_val {s : St} {a : Act} {w : World} {g : Gh} (hs : Sim s a w g) : ∀ (ps : List (Nat × Operand)) (l : List (Nat × AV)), evL s ps = some l →
    (ps.map fun p => (p.1, a.eval p.2)).map (·.1) = l.map (·.1) ∧ ∀ (j : Nat) (p : Nat × AV) (u : Nat × Value), l[j]? = some p → (ps.map fun p => (p.1, a.eval p.2))[j]? = some u → Val g w p.2 u.2
  | [], l, h => by
    simp only [evL, Option.some.injEq] at h; subst h
    exact ⟨rfl, fun j p u hp => by simp at hp⟩
  | (f, x) :: r, l, h => by
    simp only [evL] at h
    split at h
    · rename_i y l' hy hl'
      obtain rfl := Option.some.inj h
      obtain ⟨h1, h2⟩ := evL_val hs r l' hl'
      refine ⟨by simpa using h1, ?_⟩
      intro j p u hp hu
      cases j with
      | zero =>
        simp only [List.getElem?_cons_zero, Option.some.injEq] at hp
        simp only [List.map_cons, List.getElem?_cons_zero, Option.some.injEq] at hu
        subst hp; subst hu
        exact hs.ev hy
      | succ j => exact h2 j p u (by simpa using hp) (by simpa using hu)
    · simp at h

/-- Each field's type is told. -/
def fieldsTold (T : Tab) (fs : List (Nat × TypeId)) : Bool := fs.all fun p => (T p.2).isSome

theorem vBuild_ok {P : Program} {T : Tab} (hT : TabOk P T) {s : St} {t : TypeId} {parts : Array (Nat × Operand)} {y : AV} (h : vBuild T s t parts.toList = some y)
    (hf : ∀ ti fs, T t = some ti → ti.k = .struct fs → fieldsTold T fs = true) {a : Act} {w : World} {g : Gh} (hs : Sim s a w g) :
    ∃ r, (Instr.build t (parts.map fun (i, x) => (i, a.eval x))).run P w = .ok r w ∧ Val g w y r := by
  unfold vBuild at h
  split at h
  · rename_i ti hti
    split at h
    · rename_i fs ps hk hps
      cases hfill : fillA T t (ti.z.map slotZ) ps with
      | none => simp [hfill] at h
      | some out =>
        rw [hfill] at h
        obtain rfl := Option.some.inj h
        obtain ⟨z, hz1, hz2, hz3, hz4⟩ := run_zeroValue (hT t ti hti)
        have hkind := (hT t ti hti).kind
        rw [hk] at hkind
        obtain ⟨fields, hu, hfs⟩ := hkind
        have htold := hf ti fs hti hk
        obtain ⟨pl, hp1, hp2, hp3⟩ := mapM_sizes hT w fields.toList (by
          intro f hfm
          have : (f.offset, f.type) ∈ fs := by rw [← hfs]; exact List.mem_map.2 ⟨f, hfm, rfl⟩
          exact (List.all_eq_true.1 htold) _ this)
        have hmm : (fields.mapM fun f => (do pure (f.offset, ← sizeOf f.type) : Sem (Nat × Nat))).run P w = .ok pl.toArray w := by
          rw [Array.mapM_eq_mapM_toList]
          simp only [Sem.run_map, hp1, Result.andThen_ok]
        obtain ⟨hv1, hv2⟩ := evL_val hs parts.toList ps hps
        have hpl : ∀ (f off : Nat) (fi : TI), fieldOf T t f = some (off, fi) → (fun i => pl.toArray[i]?) f = some (off, fi.sz) := by
          intro f off fi hfo
          unfold fieldOf at hfo
          rw [hti] at hfo
          obtain ⟨k, sz, by_, z'⟩ := ti
          simp only at hk
          subst hk
          simp only at hfo
          split at hfo
          · rename_i off' ft hft
            split at hfo
            · rename_i fi' hfi'
              simp only [Option.some.injEq, Prod.mk.injEq] at hfo
              obtain ⟨rfl, rfl⟩ := hfo
              rw [← hfs, List.getElem?_map] at hft
              cases hfd : fields.toList[f]? with
              | none => simp [hfd] at hft
              | some fd =>
                rw [hfd] at hft
                simp only [Option.map_some, Option.some.injEq, Prod.mk.injEq] at hft
                have := hp3 f fd fi' hfd (by rw [hft.2]; exact hfi')
                rw [hft.1] at this
                simpa using this
            · simp at hfo
          · simp at hfo
        obtain ⟨zs', hr1, hr2, hr3⟩ := run_fill hT hu (g := g) (w := w) hpl ps _ (ti.z.map slotZ) z.cells out hfill hv1 hv2 (by simpa using hz1.trans hz2.symm) (by
          intro k c u hc hu'
          obtain ⟨y0, hy0, rfl⟩ := get_map hc
          obtain ⟨u0, hu0, hzo⟩ := hz3 k y0 hy0
          rw [hu'] at hu0
          obtain rfl := Option.some.inj hu0
          exact hzo.val)
        refine ⟨.agg zs', ?_, .agg _ _ hr2 hr3⟩
        have e2 : (parts.map fun (i, x) => (i, a.eval x)).toList = parts.toList.map fun p => (p.1, a.eval p.2) := by simp
        simp only [Instr.build, Sem.run_bind, hz4, Result.andThen_ok, run_underlying hu, hmm, e2]
        rw [hr1]
        rfl
    · simp at h
  · simp at h

end Go.Proofs.YtkhobcmkbldmiaaFw
