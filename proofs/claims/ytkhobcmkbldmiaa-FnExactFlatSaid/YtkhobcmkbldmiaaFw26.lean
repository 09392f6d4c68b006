/- A function's body, from entry to return. -/
import Derived.Test.YtkhobcmkbldmiaaFw25
namespace Go.Proofs.YtkhobcmkbldmiaaFw
open Go Go.RowKit
set_option linter.unusedVariables false

/-! ### what changes nothing in the machine -/
def GhostStep (s s' : St) : Prop := ∀ a w g, Sim s a w g → ∃ g', Sim s' a w g' ∧ Keep g w g' w

theorem RunsA.ghost {P : Program} {c : Code} {s s' : St} {Q : AE → St → Prop} (hg : GhostStep s s') (h : RunsA P c s' Q) : RunsA P c s Q := by
  intro a w g hs
  obtain ⟨g1, hs1, hk1⟩ := hg a w g hs
  exact wp_mono (h a w g1 hs1) fun e a2 w2 ⟨ae, s2, g2, h1, h2, h3, h4⟩ => ⟨ae, s2, g2, h1, h2, h3, hk1.trans h4⟩

theorem RunsL.ghost {P : Program} {all : Array Oper} {os : List Oper} {s s' : St} {K : St → Prop} (hg : GhostStep s s') (h : RunsL P all os s' K) : RunsL P all os s K := by
  intro a w g hs Q hQ l hl
  obtain ⟨g1, hs1, hk1⟩ := hg a w g hs
  exact h a w g1 hs1 Q (fun a' w' g' s' h1 h2 h3 => hQ a' w' g' s' h1 (hk1.trans h2) h3) l hl

theorem GhostStep.sub {s s' : St} (h1 : s'.nt = s.nt) (h2 : SubS s'.slots s.slots) (h3 : SubO s'.objs s.objs) (h4 : s'.st = s.st) : GhostStep s s' :=
  fun a w g hs => ⟨g, hs.sub h1 h2 h3 h4, Keep.refl g w⟩

theorem GhostStep.freeze {s s' : St} {id : Nat} {c : Prop} (h : s.freeze id = some (c, s')) (hc : c) : GhostStep s s' := fun a w g hs => hs.freeze h hc

theorem GhostStep.ren {s s' : St} {id id' : Nat} (h : s.ren id id' = some s') : GhostStep s s' := fun a w g hs => hs.ren h

theorem GhostStep.trans {s s1 s2 : St} (h : GhostStep s s1) (k : GhostStep s1 s2) : GhostStep s s2 := by
  intro a w g hs
  obtain ⟨g1, hs1, hk1⟩ := h a w g hs
  obtain ⟨g2, hs2, hk2⟩ := k a w g1 hs1
  exact ⟨g2, hs2, hk1.trans hk2⟩

/-! ### entry and return -/
def zipS : Nat → List AV → List (Nat × AV)
  | _, [] => []
  | k, x :: r => (k, x) :: zipS (k + 1) r

theorem lookS_zipS : ∀ (l : List AV) (k t : Nat), lookS (zipS k l) t = if k ≤ t then l[t - k]? else none
  | [], k, t => by simp [zipS, lookS]
  | x :: r, k, t => by
    simp only [zipS, lookS, lookS_zipS r]
    by_cases h : k = t
    · subst h; simp
    · rw [if_neg h]
      by_cases h2 : k ≤ t
      · rw [if_pos (by omega), if_pos h2, show t - k = (t - (k + 1)) + 1 by omega, List.getElem?_cons_succ]
      · rw [if_neg (by omega), if_neg h2]

def zipO : Nat → List (Nat × List AV) → List Obj
  | _, [] => []
  | k, p :: r => ⟨k, p.1, p.2⟩ :: zipO (k + 1) r

theorem lookO_zipO : ∀ (l : List (Nat × List AV)) (k i : Nat), lookO (zipO k l) i = if k ≤ i then l[i - k]? else none
  | [], k, i => by simp [zipO, lookO]
  | p :: r, k, i => by
    simp only [zipO, lookO, lookO_zipO r]
    by_cases h : k = i
    · subst h; simp
    · rw [if_neg h]
      by_cases h2 : k ≤ i
      · rw [if_pos (by omega), if_pos h2, show i - k = (i - (k + 1)) + 1 by omega, List.getElem?_cons_succ]
      · rw [if_neg (by omega), if_neg h2]

/-- What a function that ends in s returns. -/
def RetA (P : Program) (fn : Func) (n : Nat) (R : AV → List (Nat × List AV) → List (Nat × List AV) → Prop) (s : St) : Prop :=
  ∀ a w g, Sim s a w g → ∃ v r os' ros g', (results fn a.tmps).run P w = .ok v w ∧ R r os' ros ∧ Keep g w g' w ∧ os'.length = n ∧ ros.length ≤ 64 ∧
      (∀ b p, g'.own b = some p → ¬ g'.perm b ∧ ¬ g'.bor b ∧ b < w.heap.size) ∧ (∀ b, g'.canRd b → b < w.heap.size) ∧
      (∀ i sz es, os'[i]? = some (sz, es) → noBoL es = true ∧ ∃ v, Cell g' w (.at i []) (.row .own sz es) v) ∧
      (∀ i sz es, ros[i]? = some (sz, es) → noBoL es = true ∧ ∃ v, Cell g' w (.at (100 + i) []) (.row .own sz es) v) ∧
      cleanR n ros.length r = true ∧ Val g' w r v

def endA (K : St → Prop) : AE → St → Prop
  | .exit _, _ => False
  | _, s => K s

theorem fnA_of {P : Program} {f : FuncId} {fn : Func} {c : Code} {st : Bool} {xs : List AV} {os : List (Nat × List AV)} {R : AV → List (Nat × List AV) → List (Nat × List AV) → Prop}
    (hf : P.funcs[f]? = some fn) (hb : fn.body = some c) (hn : (fn.name == "runtime.NumGoroutine") = false) {nt : Nat} (hnt0 : fn.ntmps = nt) (hnt1 : xs.length ≤ nt)
    (h : ∀ K : St → Prop, (∀ s, RetA P fn os.length R s → K s) → RunsA P c ⟨nt, zipS 0 xs, zipO 0 os, st⟩ (endA K)) : FnA P f st xs os R := by
  subst hnt0
  have hnt := hnt1
  refine ⟨⟨fn, hf, by rw [hb]; rfl, hn⟩, ?_⟩
  intro vs w g hst hvl hv hsep hrd hob
  refine calls_of_wp hf hb ?_
  have hs : Sim ⟨fn.ntmps, zipS 0 xs, zipO 0 os, st⟩ { tmps := vs ++ Array.replicate (fn.ntmps - vs.size) undef, defers := [] } w g := by
    refine ⟨by simp; omega, rfl, ?_, ⟨?_, hsep, hrd⟩, hst.symm⟩
    · intro t x hx
      simp only [lookS_zipS, Nat.zero_le, if_true, Nat.sub_zero] at hx
      have hlt := lt_of_get hx
      have hlt2 : t < vs.size := by omega
      refine ⟨vs[t], ?_, hv t x _ hx (Array.getElem?_eq_getElem hlt2)⟩
      rw [Array.getElem?_append_left hlt2, Array.getElem?_eq_getElem hlt2]
    · intro id sz es hl
      simp only [lookO_zipO, Nat.zero_le, if_true, Nat.sub_zero] at hl
      exact hob id sz es hl
  refine wp_mono (h (RetA P fn os.length R) (fun s h => h) _ w g hs) ?_
  rintro e a' w' ⟨ae, s', g', rfl, hq, hsim, hk⟩
  have key : ∀ hR : RetA P fn os.length R s', bodyPost P fn (fun e w' => ∃ v r os' ros g', e = .returned v ∧ R r os' ros ∧ Keep g w g' w' ∧ os'.length = os.length ∧ ros.length ≤ 64 ∧
      (∀ b p, g'.own b = some p → ¬ g'.perm b ∧ ¬ g'.bor b ∧ b < w'.heap.size) ∧ (∀ b, g'.canRd b → b < w'.heap.size) ∧
      (∀ i sz es, os'[i]? = some (sz, es) → noBoL es = true ∧ ∃ v, Cell g' w' (.at i []) (.row .own sz es) v) ∧
      (∀ i sz es, ros[i]? = some (sz, es) → noBoL es = true ∧ ∃ v, Cell g' w' (.at (100 + i) []) (.row .own sz es) v) ∧
      cleanR os.length ros.length r = true ∧ Val g' w' r v) .ret a' w' := by
    intro hR
    obtain ⟨v, r, os', ros, g2, h1, h2, h3, h4⟩ := hR a' w' g' hsim
    exact ⟨hsim.defers, v, h1, v, r, os', ros, g2, rfl, h2, hk.trans h3, h4⟩
  cases ae with
  | normal => exact key hq
  | exit id => exact hq.elim
  | ret => exact key hq

theorem RetA.ghost {P : Program} {fn : Func} {n : Nat} {R : AV → List (Nat × List AV) → List (Nat × List AV) → Prop} {s s' : St} (hg : GhostStep s s') (h : RetA P fn n R s') : RetA P fn n R s := by
  intro a w g hs
  obtain ⟨g1, hs1, hk1⟩ := hg a w g hs
  obtain ⟨v, r, os', ros, g2, h1, h2, h3, h4⟩ := h a w g1 hs1
  exact ⟨v, r, os', ros, g2, h1, h2, hk1.trans h3, h4⟩

/-- The values of results. -/
def resA (T : Tab) (s : St) : List ResultVar → Option (List AV)
  | [] => some []
  | .tmp t :: r =>
    match lookS s.slots t, resA T s r with
    | some x, some l => some (x :: l)
    | _, _ => none
  | .cell a t :: r =>
    match lookS s.slots a with
    | some x =>
      match vLoad T s t x, resA T s r with
      | some y, some l => some (y :: l)
      | _, _ => none
    | none => none

def res1 : List AV → AV
  | [x] => x
  | l => .tup l

theorem run_loadAt_ptr {P : Program} {t : TypeId} {v : Value} {w : World} {r : Value} (h : (Instr.loadAt t v).run P w = .ok r w) : ∃ a, v = .pointer (some a) ∧ (loadVar t a).run P w = .ok r w := by
  unfold Instr.loadAt at h
  cases v <;> try (simp [Instr.sureAddr] at h; done)
  rename_i p
  cases p with
  | none => simp [Instr.sureAddr] at h
  | some a => exact ⟨a, rfl, by simpa [Instr.sureAddr] using h⟩

def resV (tmps : Array Value) : ResultVar → Sem Value
  | .tmp t => pure (tmps.getD t undef)
  | .cell a t => do loadVar t (← asAddr (tmps.getD a undef))

theorem results_eq (fn : Func) (tmps : Array Value) : results fn tmps = (do let vs ← fn.results.mapM (resV tmps); pure (if h : vs.size = 1 then vs[0] else .tuple vs)) := rfl

theorem resA_ok {P : Program} {T : Tab} (hT : TabOk P T) {s : St} {a : Act} {w : World} {g : Gh} (hs : Sim s a w g) : ∀ (l : List ResultVar) (xs : List AV), resA T s l = some xs →
    ∃ vs : List Value, vs.length = xs.length ∧ (∀ (k : Nat) (x : AV) (u : Value), xs[k]? = some x → vs[k]? = some u → Val g w x u) ∧
      (l.mapM (resV a.tmps)).run P w = .ok vs w
  | [], xs, h => by
    simp only [resA, Option.some.injEq] at h; subst h
    exact ⟨[], rfl, fun k x u h => by simp at h, rfl⟩
  | .tmp t :: r, xs, h => by
    simp only [resA] at h
    split at h
    · rename_i x l h1 h2
      obtain rfl := Option.some.inj h
      obtain ⟨vs, hl, hv, hr⟩ := resA_ok hT hs r l h2
      obtain ⟨v, hv1, hv2⟩ := hs.slot t x h1
      refine ⟨v :: vs, by simp [hl], ?_, ?_⟩
      · intro k y u hy hu
        cases k with
        | zero => simp at hy hu; subst hy; subst hu; exact hv2
        | succ k => exact hv k y u (by simpa using hy) (by simpa using hu)
      · rw [List.mapM_cons]
        simp only [resV, Sem.run_bind, Sem.run_pure, Result.andThen_ok, hr, Array.getD_eq_getD_getElem?, hv1, Option.getD_some]
    · simp at h
  | .cell b t :: r, xs, h => by
    simp only [resA] at h
    split at h
    · rename_i x h1
      split at h
      · rename_i y l h3 h2
        obtain rfl := Option.some.inj h
        obtain ⟨vs, hl, hv, hr⟩ := resA_ok hT hs r l h2
        obtain ⟨v, hv1, hv2⟩ := hs.slot b x h1
        obtain ⟨u, hu, hval⟩ := vLoad_ok (P := P) hT h3 hs hv2
        obtain ⟨ad, rfl, hld⟩ := run_loadAt_ptr hu
        refine ⟨u :: vs, by simp [hl], ?_, ?_⟩
        · intro k y' u' hy hu
          cases k with
          | zero => simp at hy hu; subst hy; subst hu; exact hval
          | succ k => exact hv k y' u' (by simpa using hy) (by simpa using hu)
        · rw [List.mapM_cons]
          simp only [Sem.run_bind, Sem.run_pure, Result.andThen_ok, hr, resV, Array.getD_eq_getD_getElem?, hv1, Option.getD_some, asAddr, hld]
      · simp at h
    · simp at h

def takeO (objs : List Obj) : Nat → Nat → Option (List (Nat × List AV))
  | _, 0 => some []
  | k, n + 1 =>
    match lookO objs k, takeO objs (k + 1) n with
    | some p, some l => some (p :: l)
    | _, _ => none

theorem takeO_get {objs : List Obj} : ∀ {n k : Nat} {l : List (Nat × List AV)}, takeO objs k n = some l → l.length = n ∧ ∀ i p, l[i]? = some p → lookO objs (k + i) = some p
  | 0, k, l, h => by simp only [takeO, Option.some.injEq] at h; subst h; exact ⟨rfl, fun i p h => by simp at h⟩
  | n + 1, k, l, h => by
    simp only [takeO] at h
    split at h
    · rename_i p l' h1 h2
      obtain rfl := Option.some.inj h
      obtain ⟨i1, i2⟩ := takeO_get h2
      refine ⟨by simp [i1], ?_⟩
      intro i p' hi
      cases i with
      | zero => simp at hi; subst hi; exact h1
      | succ i => have := i2 i p' (by simpa using hi); rwa [show k + 1 + i = k + (i + 1) by omega] at this
    · simp at h

def noBoO : List (Nat × List AV) → Bool
  | [] => true
  | p :: r => noBoL p.2 && noBoO r

theorem noBoO_get : ∀ {l : List (Nat × List AV)}, noBoO l = true → ∀ {i : Nat} {sz : Nat} {es : List AV}, l[i]? = some (sz, es) → noBoL es = true
  | [], _, i, sz, es, h => by simp at h
  | p :: r, hb, i, sz, es, h => by
    simp only [noBoO, Bool.and_eq_true] at hb
    cases i with
    | zero => simp at h; rw [h] at hb; exact hb.1
    | succ i => exact noBoO_get hb.2 (by simpa using h)

/-- The return, as the abstract state tells it: m objects are handed back. -/
theorem RetA.mk {P : Program} {T : Tab} (hT : TabOk P T) {fn : Func} {n : Nat} {R : AV → List (Nat × List AV) → List (Nat × List AV) → Prop} {s : St} (m : Nat) {xs : List AV} {os ros : List (Nat × List AV)}
    (hr : resA T s fn.results.toList = some xs) (ho : takeO s.objs 0 n = some os) (hro : takeO s.objs 100 m = some ros) (hm : m ≤ 64)
    (hb : noBoO os = true) (hb2 : noBoO ros = true) (hcl : cleanR n m (res1 xs) = true) (hR : R (res1 xs) os ros) : RetA P fn n R s := by
  intro a w g hs
  obtain ⟨vs, hl, hv, hrun⟩ := resA_ok (P := P) hT hs _ _ hr
  obtain ⟨l1, l2⟩ := takeO_get ho
  obtain ⟨m1, m2⟩ := takeO_get hro
  have hrun2 : (results fn a.tmps).run P w = .ok (if h : vs.toArray.size = 1 then vs.toArray[0] else .tuple vs.toArray) w := by
    rw [results_eq, Array.mapM_eq_mapM_toList]
    simp only [Sem.run_bind, map_eq_pure_bind, hrun, Result.andThen_ok, Sem.run_pure]
  refine ⟨_, res1 xs, os, ros, g, hrun2, hR, Keep.refl g w, l1, by omega, hs.h.sep, hs.h.rdlt, ?_, ?_, by rw [m1]; exact hcl, ?_⟩
  · intro i sz es hi
    exact ⟨noBoO_get hb hi, hs.h.obj i sz es (by simpa using l2 i _ hi)⟩
  · intro i sz es hi
    exact ⟨noBoO_get hb2 hi, hs.h.obj (100 + i) sz es (m2 i _ hi)⟩
  · clear hrun hrun2 hr hcl hR
    match xs, vs, hl, hv with
    | [x], [v], _, hv => exact hv 0 x v rfl rfl
    | [], [], _, _ => exact .tup _ _ rfl (fun k c u hc _ => by simp at hc)
    | x :: y :: l, v :: u :: l', hl, hv =>
      have : ¬ ((v :: u :: l').toArray.size = 1) := by simp
      rw [dif_neg this]
      exact .tup _ _ (by simpa using hl) (fun k c u hc hu => hv k c u hc (by simpa using hu))

end Go.Proofs.YtkhobcmkbldmiaaFw
