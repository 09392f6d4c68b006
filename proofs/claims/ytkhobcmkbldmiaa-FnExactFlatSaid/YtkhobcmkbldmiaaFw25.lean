/- Code over the abstract state: regions, ways, blocks, loops. -/
import Derived.Test.YtkhobcmkbldmiaaFw24
namespace Go.Proofs.YtkhobcmkbldmiaaFw
open Go Go.RowKit
set_option linter.unusedVariables false

inductive AE where
  | normal
  | exit (id : Nat)
  | ret

def AE.up : AE → Exit
  | .normal => .normal
  | .exit id => .exit id
  | .ret => .ret

/-- Code c, begun in what s tells, ends as Q tells. -/
def RunsA (P : Program) (c : Code) (s : St) (Q : AE → St → Prop) : Prop :=
  ∀ a w g, Sim s a w g → c.wp P (fun e a' w' => ∃ ae s' g', e = ae.up ∧ Q ae s' ∧ Sim s' a' w' g' ∧ Keep g w g' w') a w

theorem RunsA.mono {P : Program} {c : Code} {s : St} {Q Q' : AE → St → Prop} (h : RunsA P c s Q) (hq : ∀ e s', Q e s' → Q' e s') : RunsA P c s Q' :=
  fun a w g hs => wp_mono (h a w g hs) fun e a' w' ⟨ae, s', g', h1, h2, h3⟩ => ⟨ae, s', g', h1, hq _ _ h2, h3⟩

/-- Less is known. -/
def SubS : List (Nat × AV) → List (Nat × AV) → Prop
  | [], _ => True
  | (t, x) :: r, l => lookS l t = some x ∧ SubS r l

theorem SubS.look : ∀ {l l' : List (Nat × AV)}, SubS l l' → ∀ {t : Nat} {x : AV}, lookS l t = some x → lookS l' t = some x
  | [], _, _, _, _, h => by simp [lookS] at h
  | (u, y) :: r, l', hs, t, x, h => by
    simp only [lookS] at h
    split at h
    · rename_i e; subst e; rw [← h]; exact hs.1
    · exact SubS.look hs.2 h

/-- Objects that are told alike. -/
def SubO : List Obj → List Obj → Prop
  | [], _ => True
  | o :: r, l => lookO l o.id = some (o.sz, o.es) ∧ SubO r l

theorem SubO.look : ∀ {l l' : List Obj}, SubO l l' → ∀ {i : Nat} {p : Nat × List AV}, lookO l i = some p → lookO l' i = some p
  | [], _, _, _, _, h => by simp [lookO] at h
  | o :: r, l', hs, i, p, h => by
    simp only [lookO] at h
    split at h
    · rename_i e; subst e; rw [← h]; exact hs.1
    · exact SubO.look hs.2 h

theorem Sim.sub {s s' : St} {a : Act} {w : World} {g : Gh} (h : Sim s a w g) (h1 : s'.nt = s.nt) (h2 : SubS s'.slots s.slots) (h3 : SubO s'.objs s.objs) (h4 : s'.st = s.st) : Sim s' a w g where
  nt := h.nt.trans h1.symm
  defers := h.defers
  slot := fun t x hx => h.slot t x (h2.look hx)
  h := ⟨fun id sz es hl => h.h.obj id sz es (h3.look hl), h.h.sep, h.h.rdlt⟩
  st := h4.trans h.st

theorem RunsA.sub {P : Program} {c : Code} {s s' : St} {Q : AE → St → Prop} (h : RunsA P c s' Q) (h1 : s'.nt = s.nt) (h2 : SubS s'.slots s.slots) (h3 : SubO s'.objs s.objs) (h4 : s'.st = s.st) : RunsA P c s Q :=
  fun a w g hs => h a w g (hs.sub h1 h2 h3 h4)

def thenA (K : St → Prop) (Q : AE → St → Prop) : AE → St → Prop
  | .normal, s => K s
  | e, s => Q e s

theorem RunsA.seq {P : Program} {x y : Code} {s : St} {Q : AE → St → Prop} (h : ∀ K : St → Prop, (∀ s', RunsA P y s' Q → K s') → RunsA P x s (thenA K Q)) : RunsA P (.seq x y) s Q := by
  intro a w g hs
  refine wp_seq (wp_mono (h (fun s' => RunsA P y s' Q) (fun _ h => h) a w g hs) ?_)
  rintro e a' w' ⟨ae, s', g', rfl, hq, hsim, hk⟩
  cases ae with
  | normal => exact wp_mono (hq a' w' g' hsim) fun e a2 w2 ⟨ae, s2, g2, h1, h2, h3, h4⟩ => ⟨ae, s2, g2, h1, h2, h3, hk.trans h4⟩
  | exit id => exact ⟨.exit id, s', g', rfl, hq, hsim, hk⟩
  | ret => exact ⟨.ret, s', g', rfl, hq, hsim, hk⟩

theorem RunsA.skip {P : Program} {s : St} {Q : AE → St → Prop} (h : Q .normal s) : RunsA P .skip s Q :=
  fun a w g hs => wp_skip ⟨.normal, s, g, rfl, h, hs, Keep.refl g w⟩

theorem RunsA.ret {P : Program} {s : St} {Q : AE → St → Prop} (h : Q .ret s) : RunsA P .ret s Q :=
  fun a w g hs => wp_ret ⟨.ret, s, g, rfl, h, hs, Keep.refl g w⟩

theorem RunsA.exit {P : Program} {s : St} {id : Nat} {Q : AE → St → Prop} (h : Q (.exit id) s) : RunsA P (.exit id) s Q :=
  fun a w g hs => wp_exit ⟨.exit id, s, g, rfl, h, hs, Keep.refl g w⟩

theorem RunsA.cond {P : Program} {s : St} {c : Operand} {b : Bool} {x y : Code} {Q : AE → St → Prop} (hc : s.ev c = some (.bool b)) (h1 : b = true → RunsA P x s Q) (h2 : b = false → RunsA P y s Q) : RunsA P (.cond c x y) s Q := by
  intro a w g hs
  have hv := (hs.ev hc).bool_inv
  exact wp_cond_split hv (fun h => h1 h a w g hs) (fun h => h2 h a w g hs)

def inBlockA (id : Nat) (K : St → Prop) (Q : AE → St → Prop) : AE → St → Prop
  | .exit id', s => if id' = id then K s else Q (.exit id') s
  | .normal, s => K s
  | .ret, s => Q .ret s

theorem RunsA.block {P : Program} {s : St} {id : Nat} {c : Code} {Q : AE → St → Prop} (h : RunsA P c s (inBlockA id (Q .normal) Q)) : RunsA P (.block id c) s Q := by
  intro a w g hs
  refine wp_block (wp_mono (h a w g hs) ?_)
  rintro e a' w' ⟨ae, s', g', rfl, hq, hsim, hk⟩
  cases ae with
  | normal => exact ⟨.normal, s', g', rfl, hq, hsim, hk⟩
  | exit id' =>
    simp only [AE.up, Exit.inBlock]
    simp only [inBlockA] at hq
    split
    · rename_i e; rw [if_pos e] at hq; exact ⟨.normal, s', g', rfl, hq, hsim, hk⟩
    · rename_i e; rw [if_neg e] at hq; exact ⟨.exit id', s', g', rfl, hq, hsim, hk⟩
  | ret => exact ⟨.ret, s', g', rfl, hq, hsim, hk⟩

/-- The rounds of a loop, from where one begins. -/
def LoopA (P : Program) (c : Code) (s : St) (Q : AE → St → Prop) : Prop :=
  ∀ a w g, Sim s a w g → ∀ (b : Frame) (k : List Item) (cs : List Frame),
    ∃ e a' w', (∃ ae s' g', e = ae.up ∧ Q ae s' ∧ Sim s' a' w' g' ∧ Keep g w g' w') ∧ Arrives P (lone (b.at a (.code c :: .inLoop c :: k)) cs w) b k cs e a' w'

theorem RunsA.loop {P : Program} {c : Code} {s : St} {Q : AE → St → Prop} (h : LoopA P c s Q) : RunsA P (.loop c) s Q := by
  intro a w g hs b k cs
  obtain ⟨e, a', w', h1, h2⟩ := h a w g hs b k cs
  exact ⟨e, a', w', h1, .of_steps (.one step_loop) h2⟩

theorem LoopA.round {P : Program} {c : Code} {s : St} {Q : AE → St → Prop} (h : RunsA P c s (thenA (fun s' => LoopA P c s' Q) Q)) : LoopA P c s Q := by
  intro a w g hs b k cs
  obtain ⟨e, a₁, w₁, ⟨ae, s₁, g₁, rfl, hq, hsim, hk⟩, harr⟩ := h a w g hs b (.inLoop c :: k) cs
  cases ae with
  | normal =>
    obtain ⟨e₂, a₂, w₂, ⟨ae, s2, g2, h1, h2, h3, h4⟩, harr₂⟩ := hq a₁ w₁ g₁ hsim b k cs
    exact ⟨e₂, a₂, w₂, ⟨ae, s2, g2, h1, h2, h3, hk.trans h4⟩, .of_steps (Steps.trans harr (.one step_inLoop)) harr₂⟩
  | exit id => exact ⟨_, a₁, w₁, ⟨.exit id, s₁, g₁, rfl, hq, hsim, hk⟩, .pass (x := .inLoop c) rfl (fun _ _ => .inl (by simp [AE.up])) harr⟩
  | ret => exact ⟨_, a₁, w₁, ⟨.ret, s₁, g₁, rfl, hq, hsim, hk⟩, .pass (x := .inLoop c) rfl (fun _ _ => .inl (by simp [AE.up])) harr⟩

theorem LoopA.sub {P : Program} {c : Code} {s s' : St} {Q : AE → St → Prop} (h : LoopA P c s' Q) (h1 : s'.nt = s.nt) (h2 : SubS s'.slots s.slots) (h3 : SubO s'.objs s.objs) (h4 : s'.st = s.st) : LoopA P c s Q :=
  fun a w g hs => h a w g (hs.sub h1 h2 h3 h4)

/-- States that are told by an index; each round goes to a lesser one. -/
theorem LoopA.ind {P : Program} {c : Code} {Q : AE → St → Prop} {ι : Type} (S : ι → St) (μ : ι → Nat) (I : ι → Prop)
    (round : ∀ i, I i → ∀ K : St → Prop, (∀ j s', I j → μ j < μ i → (S j).nt = s'.nt → SubS (S j).slots s'.slots → SubO (S j).objs s'.objs → (S j).st = s'.st → K s') → RunsA P c (S i) (thenA K Q)) (i : ι) (hi : I i) : LoopA P c (S i) Q := by
  have key : ∀ n i, μ i = n → I i → LoopA P c (S i) Q := by
    intro n
    induction n using Nat.strongRecOn with
    | _ n ih =>
      intro i hn hi
      exact LoopA.round (round i hi _ fun j s' hj hlt h1 h2 h3 h4 => (ih (μ j) (hn ▸ hlt) j rfl hj).sub h1 h2 h3 h4)
  exact key _ i rfl hi

/-! ### regions -/
/-- The operations os, the last of a region with destinations ds, from s on: then K. -/
def RunsL (P : Program) (all : Array Oper) (os : List Oper) (s : St) (K : St → Prop) : Prop :=
  ∀ a w g, Sim s a w g → ∀ Q : Exit → Act → World → Prop, (∀ a' w' g' s', Sim s' a' w' g' → Keep g w g' w' → K s' → Q .normal a' w') → ∀ l : List Nat, l.map (all[·]?) = os.map some → wpOps P all Q l a w

theorem range_all (all : Array Oper) : (List.range all.size).map (all[·]?) = all.toList.map some := by
  apply List.ext_getElem?
  intro i
  simp only [List.getElem?_map]
  by_cases h : i < all.size
  · rw [List.getElem?_range h]
    simp [h]
  · rw [List.getElem?_eq_none (by simpa using h), List.getElem?_eq_none (by simpa using h)]
    rfl

theorem RunsA.region {P : Program} {id : Nat} {all : Array Oper} {s : St} {K : St → Prop} {Q : AE → St → Prop} (h : RunsL P all all.toList s K) (hK : ∀ s', K s' → Q .normal s') : RunsA P (.region id all false) s Q := by
  intro a w g hs
  refine wp_region (h a w g hs _ ?_ _ (range_all all))
  intro a' w' g' s' h1 h2 h3
  exact ⟨.normal, s', g', rfl, hK _ h3, h1, h2⟩

theorem RunsL.nil {P : Program} {all : Array Oper} {s : St} {K : St → Prop} (h : K s) : RunsL P all [] s K := by
  intro a w g hs Q hQ l hl
  cases l with
  | nil => exact hQ a w g s hs (Keep.refl g w) h
  | cons i l => simp at hl

/-- Is the operation carried out? -/
def wantA (all : Array Oper) (s : St) (o : Oper) : Option Bool :=
  match o.guard with
  | none => some true
  | some (j, b) =>
    match (all[j]?).bind (·.dst) with
    | some d => (match lookS s.slots d with | some (.bool c) => some (c == b) | _ => none)
    | none => none

theorem wantA_ok {all : Array Oper} {s : St} {o : Oper} {b : Bool} (h : wantA all s o = some b) {a : Act} {w : World} {g : Gh} (hs : Sim s a w g) : Region.wanted o (yielded all a.tmps) = b := by
  unfold wantA at h
  unfold Region.wanted
  split at h
  · rename_i hg
    rw [hg]
    exact Option.some.inj h
  · rename_i j c hg
    rw [hg]
    simp only
    split at h
    · rename_i d hd
      split at h
      · rename_i c' hl
        obtain rfl := Option.some.inj h
        obtain ⟨v, hv, hval⟩ := hs.slot d _ hl
        obtain rfl := hval.bool_inv
        simp only [yielded, hd, Option.bind_some, hv]
        cases c <;> cases c' <;> rfl
      · simp at h
    · simp at h

theorem RunsL.step {P : Program} {all : Array Oper} {o : Oper} {os : List Oper} {s s' : St} {K : St → Prop} (hw : wantA all s o = some true) (ho : StepOk P o s s') (h : RunsL P all os s' K) : RunsL P all (o :: os) s K := by
  intro a w g hs Q hQ l hl
  cases l with
  | nil => simp at hl
  | cons i l =>
    simp only [List.map_cons, List.cons.injEq] at hl
    obtain ⟨hi, hl⟩ := hl
    obtain ⟨r, a1, w1, g1, hr, hcase, hsim, hk⟩ := ho a w g hs
    simp only [wpOps, hi, wantA_ok hw hs, if_true]
    refine .inl ?_
    simp only [Oper.wp, hr]
    have hrest := h a1 w1 g1 hsim Q (fun a' w' g' s' h1 h2 h3 => hQ a' w' g' s' h1 (hk.trans h2) h3) l hl
    rcases hcase with ⟨v, rfl, rfl⟩ | ⟨rfl, rfl⟩
    · exact hrest
    · exact hrest

theorem RunsL.skip {P : Program} {all : Array Oper} {o : Oper} {os : List Oper} {s : St} {K : St → Prop} (hw : wantA all s o = some false) (hf : s.fits o.dst = true) (h : RunsL P all os (s.put o.dst .dead) K) : RunsL P all (o :: os) s K := by
  intro a w g hs Q hQ l hl
  cases l with
  | nil => simp at hl
  | cons i l =>
    simp only [List.map_cons, List.cons.injEq] at hl
    obtain ⟨hi, hl⟩ := hl
    simp only [wpOps, hi, wantA_ok hw hs, if_false, Bool.false_eq_true]
    exact h _ w g (hs.put hf (.dead undef)) Q hQ l hl

/-- A function that can be entered. -/
def FnOk (P : Program) (f : FuncId) : Prop := ∃ fn, P.funcs[f]? = some fn ∧ fn.body.isNone = false ∧ (fn.name == "runtime.NumGoroutine") = false

structure FnA (P : Program) (f : FuncId) (st : Bool) (xs : List AV) (os : List (Nat × List AV)) (R : AV → List (Nat × List AV) → List (Nat × List AV) → Prop) : Prop where
  ok : FnOk P f
  calls : CallsA P f st xs os R

theorem FnA.mono {P : Program} {f : FuncId} {st : Bool} {xs : List AV} {os : List (Nat × List AV)} {R R' : AV → List (Nat × List AV) → List (Nat × List AV) → Prop} (h : FnA P f st xs os R) (hr : ∀ r os' ros, R r os' ros → R' r os' ros) : FnA P f st xs os R' :=
  ⟨h.ok, fun vs w g h0 h1 h2 h3 h4 h5 => (h.calls vs w g h0 h1 h2 h3 h4 h5).mono fun e w' ⟨v, r, os', ros, g', k1, k2, k3⟩ => ⟨v, r, os', ros, g', k1, hr _ _ _ k2, k3⟩⟩

def evAll (s : St) : List Operand → Option (List AV)
  | [] => some []
  | x :: r =>
    match s.ev x, evAll s r with
    | some y, some l => some (y :: l)
    | _, _ => none

theorem evAll_get {s : St} : ∀ {l : List Operand} {xs : List AV}, evAll s l = some xs → xs.length = l.length ∧ ∀ (k : Nat) (x : AV), xs[k]? = some x → ∃ o, l[k]? = some o ∧ s.ev o = some x
  | [], xs, h => by simp only [evAll, Option.some.injEq] at h; subst h; exact ⟨rfl, fun k x h => by simp at h⟩
  | o :: r, xs, h => by
    simp only [evAll] at h
    split at h
    · rename_i y l h1 h2
      obtain rfl := Option.some.inj h
      obtain ⟨i1, i2⟩ := evAll_get h2
      refine ⟨by simp [i1], ?_⟩
      intro k x hk
      cases k with
      | zero => simp at hk; subst hk; exact ⟨o, rfl, h1⟩
      | succ k => obtain ⟨o', h3, h4⟩ := i2 k x (by simpa using hk); exact ⟨o', by simpa using h3, h4⟩
    · simp at h

theorem run_callFunc {P : Program} {f : FuncId} (h : FnOk P f) (args : Array Value) (w : World) : (callFunc f args).run P w = .ok (.enter f args) w := by
  obtain ⟨fn, h1, h2, h3⟩ := h
  simp only [callFunc, Sem.run_bind, run_program, Result.andThen_ok, h1, h2, h3, Bool.false_eq_true, if_false]
  rfl

/-- A call of a function by its name. -/
theorem RunsL.call {P : Program} {all : Array Oper} {o : Oper} {os : List Oper} {s : St} {K : St → Prop} {c : Call} {f : FuncId} {st : Bool} {xs ys : List AV} {ob : List (Nat × List AV)} {ps : List Nat} {R : AV → List (Nat × List AV) → List (Nat × List AV) → Prop} {rid : Nat}
    (hw : wantA all s o = some true) (hop : o.op = .call c) (hcal : c.callee = .value (.func f)) (hx : evAll s c.args.toList = some xs) (hp : passL s.objs ps = some ob) (hy : argAL s ps xs = some ys)
    (hc : FnA P f st ys ob R) (hfit : s.fits o.dst = true) (hr : 16 ≤ rid) (hn : ps.Nodup ∧ ps.length ≤ 16 ∧ apartL ps rid = true) (hst : s.st = false ∨ st = true ∨ all16 ps = true)
    (h : ∀ r os' ros, R r os' ros → os'.length = ob.length → RunsL P all os (s.back st ps os' ros o.dst r rid) K) : RunsL P all (o :: os) s K := by
  intro a w g hs Q hQ l hl
  cases l with
  | nil => simp at hl
  | cons i l =>
    simp only [List.map_cons, List.cons.injEq] at hl
    obtain ⟨hi, hl⟩ := hl
    obtain ⟨i1, i2⟩ := evAll_get hx
    simp only [wpOps, hi, wantA_ok hw hs, if_true]
    refine .inl ?_
    have hrun : (execOp a.eval o).run P w = .ok (.enter f (c.args.map a.eval)) w := by
      unfold execOp
      simp only [hop, resolve, hcal, Act.eval, Deferred.ofValue]
      simp only [pure_bind, invoke]
      rw [show (#[] ++ Array.map a.eval c.args ++ #[] : Array Value) = Array.map a.eval c.args by simp]
      exact run_callFunc hc.ok _ _
    simp only [Oper.wp, hrun, Oper.upon_enter]
    refine (callA_ok hs hc.calls hn.1 hn.2.1 hp hy (vs := c.args.map a.eval) (by simp [i1]) ?_ hfit hr hn.2.2 hst).mono ?_
    · intro k x u hk hu
      obtain ⟨o', h1, h2⟩ := i2 k x hk
      have : u = a.eval o' := by
        rw [Array.getElem?_map] at hu
        have h1' : c.args[k]? = some o' := by simpa using h1
        rw [h1'] at hu
        exact (Option.some.inj hu).symm
      subst this
      exact hs.ev h2
    · rintro e w1 ⟨v, r, os', ros, g1, rfl, hR, hlen, hk, hsim⟩
      exact h r os' ros hR hlen _ w1 g1 hsim Q (fun a' w' g' s' h1 h2 h3 => hQ a' w' g' s' h1 (hk.trans h2) h3) l hl

end Go.Proofs.YtkhobcmkbldmiaaFw
