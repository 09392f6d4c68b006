/- Regions whose order is drawn: quiet operations. -/
import Derived.Test.YtkhobcmkbldmiaaFw29
import Derived.Orders
namespace Go.Proofs.YtkhobcmkbldmiaaFw
open Go Go.RowKit
set_option linter.unusedVariables false

/-- What an operation yields that only reads slots and objects. -/
def qval (T : Tab) (s : St) (o : Oper) : Option (Prop × AV) :=
  match o.op with
  | .move x => (s.ev x).map fun y => (True, y)
  | .load t x => (match s.ev x with | some x => (vLoad T s t x).map fun y => (True, y) | none => none)
  | .nilCheck x => (match s.ev x with | some x => (vNilCheck x).map fun y => (True, y) | none => none)
  | .binOp op t x y _ => (match s.ev x, s.ev y with | some x, some y => abin T t op x y | _, _ => none)
  | .unOp op _ x => (match s.ev x with | some x => (vUn op x).map fun y => (True, y) | none => none)
  | .slice t x lo hi none => (match s.ev x, evO s lo, evO s hi with | some x, some lo, some hi => vSlice T s t x lo hi | _, _, _ => none)
  | .fieldAddr t x f => (match s.ev x with | some x => (vFieldAddr T t x f).map fun y => (True, y) | none => none)
  | .field t x f => (match s.ev x with | some x => (vField T t x f).map fun y => (True, y) | none => none)
  | .indexAddr t x i => (match s.ev x, s.ev i with | some x, some i => vIndexAddr T s t x i | _, _ => none)
  | .index t x i => (match s.ev x, s.ev i with | some x, some i => vIndex T t x i | _, _ => none)
  | .extract x i => (match s.ev x with | some x => (vExtract x i).map fun y => (True, y) | none => none)
  | .build t ps => if tiFields T t = true then (vBuild T s t ps.toList).map fun y => (True, y) else none
  | .pick c x y =>
    (match s.ev c with
     | some (.bool true) => (s.ev x).map fun z => (True, z)
     | some (.bool false) => (s.ev y).map fun z => (True, z)
     | _ => none)
  | .convert t u x =>
    (match T t with
     | some { k := .slice _, .. } => (match s.ev x with | some z => (vBytes T s t u z).map fun y => (True, y) | none => none)
     | _ => (match s.ev x with | some x => (vConv T t u x).map fun y => (True, y) | none => none))
  | .call c =>
    (match c.callee with
     | .builtin .len => (match c.args.toList, c.argTypes.toList with | [x], [t] => (match s.ev x with | some x => (vLenB T s t x).map fun y => (True, y) | none => none) | _, _ => none)
     | _ => none)
  | _ => none

theorem qval_bop {T : Tab} {s : St} {o : Oper} {p : Prop} {y : AV} (hf : s.fits o.dst = true) (h : qval T s o = some (p, y)) : bop T o s = some (p, s.put o.dst y) := by
  have hf' : ¬ s.fits o.dst = false := by simp [hf]
  unfold qval at h
  split at h
  · rename_i x hop; simp only [Option.map_eq_some_iff, Prod.mk.injEq] at h; obtain ⟨z, hz, rfl, rfl⟩ := h; simp only [bop, aop, hop, if_neg hf', hz, Option.map_some]
  · rename_i t x hop
    split at h
    · rename_i x' hx; simp only [Option.map_eq_some_iff, Prod.mk.injEq] at h; obtain ⟨z, hz, rfl, rfl⟩ := h; simp only [bop, aop, hop, if_neg hf', hx, hz, Option.map_some]
    · simp at h
  · rename_i x hop
    split at h
    · rename_i x' hx; simp only [Option.map_eq_some_iff, Prod.mk.injEq] at h; obtain ⟨z, hz, rfl, rfl⟩ := h; simp only [bop, aop, hop, if_neg hf', hx, hz, Option.map_some]
    · simp at h
  · rename_i op t x x2 t2 hop
    split at h
    · rename_i x' y' hx hy; simp only [bop, aop, hop, if_neg hf', hx, hy, h, Option.map_some]
    · simp at h
  · rename_i op t x hop
    split at h
    · rename_i x' hx; simp only [Option.map_eq_some_iff, Prod.mk.injEq] at h; obtain ⟨z, hz, rfl, rfl⟩ := h; simp only [bop, aop, hop, if_neg hf', hx, hz, Option.map_some]
    · simp at h
  · rename_i t x lo hi hop
    split at h
    · rename_i x' lo' hi' hx hl hh; simp only [bop, aop, hop, if_neg hf', hx, hl, hh, h, Option.map_some]
    · simp at h
  · rename_i t x f hop
    split at h
    · rename_i x' hx; simp only [Option.map_eq_some_iff, Prod.mk.injEq] at h; obtain ⟨z, hz, rfl, rfl⟩ := h; simp only [bop, aop, hop, if_neg hf', hx, hz, Option.map_some]
    · simp at h
  · rename_i t x f hop
    split at h
    · rename_i x' hx; simp only [Option.map_eq_some_iff, Prod.mk.injEq] at h; obtain ⟨z, hz, rfl, rfl⟩ := h; simp only [bop, aop, hop, if_neg hf', hx, hz, Option.map_some]
    · simp at h
  · rename_i t x i hop
    split at h
    · rename_i x' i' hx hi; simp only [bop, aop, hop, if_neg hf', hx, hi, h, Option.map_some]
    · simp at h
  · rename_i t x i hop
    split at h
    · rename_i x' i' hx hi; simp only [bop, aop, hop, if_neg hf', hx, hi, h, Option.map_some]
    · simp at h
  · rename_i x i hop
    split at h
    · rename_i x' hx; simp only [Option.map_eq_some_iff, Prod.mk.injEq] at h; obtain ⟨z, hz, rfl, rfl⟩ := h; simp only [bop, aop, hop, if_neg hf', hx, hz, Option.map_some]
    · simp at h
  · rename_i t ps hop
    split at h
    · rename_i ht; simp only [Option.map_eq_some_iff, Prod.mk.injEq] at h; obtain ⟨z, hz, rfl, rfl⟩ := h; simp only [bop, aop, hop, if_neg hf', if_pos ht, hz, Option.map_some]
    · simp at h
  · rename_i c x y' hop
    split at h
    · rename_i hc; simp only [Option.map_eq_some_iff, Prod.mk.injEq] at h; obtain ⟨z, hz, rfl, rfl⟩ := h; simp only [bop, hop, if_pos hf, hc, hz, Option.map_some]
    · rename_i hc; simp only [Option.map_eq_some_iff, Prod.mk.injEq] at h; obtain ⟨z, hz, rfl, rfl⟩ := h; simp only [bop, hop, if_pos hf, hc, hz, Option.map_some]
    · simp at h
  · rename_i t u x hop
    split at h
    · rename_i e sz by_ z0 ht
      split at h
      · rename_i z' hz; simp only [Option.map_eq_some_iff, Prod.mk.injEq] at h; obtain ⟨z, hz2, rfl, rfl⟩ := h; simp only [bop, hop, ht, if_pos hf, hz, hz2, Option.map_some]
      · simp at h
    · rename_i hns
      split at h
      · rename_i x' hx
        simp only [Option.map_eq_some_iff, Prod.mk.injEq] at h; obtain ⟨z, hz, rfl, rfl⟩ := h
        simp only [bop, hop]
        simp only [aop, hop, if_neg hf', hx, hz, Option.map_some]
      · simp at h
  · rename_i c hop
    split at h
    · rename_i hc
      split at h
      · rename_i x t hx ht
        split at h
        · rename_i x' hx'; simp only [Option.map_eq_some_iff, Prod.mk.injEq] at h; obtain ⟨z, hz, rfl, rfl⟩ := h; simp only [bop, aop, aBuiltin, hop, if_neg hf', hc, hx, ht, hx', hz, Option.map_some]
        · simp at h
      · simp at h
    · simp at h
  · simp at h

theorem evL_congr {s s' : St} : ∀ {l : List (Nat × Operand)}, (∀ p ∈ l, s'.ev p.2 = s.ev p.2) → evL s' l = evL s l
  | [], _ => rfl
  | (f, x) :: r, h => by
    simp only [evL]
    rw [h (f, x) (by simp), evL_congr (fun p hp => h p (by simp [hp]))]

theorem qval_congr {T : Tab} {s s' : St} {o : Oper} (ho : s'.objs = s.objs) (h : ∀ x ∈ o.op.operands, s'.ev x = s.ev x) : qval T s' o = qval T s o := by
  have hL : ∀ t x, vLoad T s' t x = vLoad T s t x := fun t x => by unfold vLoad St.node; rw [ho]
  have hI : ∀ t x i, vIndexAddr T s' t x i = vIndexAddr T s t x i := fun t x i => by unfold vIndexAddr St.node; rw [ho]
  have hN : ∀ t x, vLenB T s' t x = vLenB T s t x := fun t x => by unfold vLenB vLen St.node; rw [ho]
  have hS : ∀ t x lo hi, vSlice T s' t x lo hi = vSlice T s t x lo hi := fun t x lo hi => by unfold vSlice St.node; rw [ho]
  have hB : ∀ t u x, vBytes T s' t u x = vBytes T s t u x := fun t u x => by unfold vBytes St.node; rw [ho]
  obtain ⟨dst, op, type, pos, after, guard⟩ := o
  cases op with
  | move x => simp only [qval, h x (by simp [Op.operands])]
  | load t x => simp only [qval, h x (by simp [Op.operands]), hL]
  | nilCheck x => simp only [qval, h x (by simp [Op.operands])]
  | binOp op t x y t2 => simp only [qval, h x (by simp [Op.operands]), h y (by simp [Op.operands])]
  | unOp op t x => simp only [qval, h x (by simp [Op.operands])]
  | slice t x lo hi mx =>
    cases mx with
    | some m => rfl
    | none =>
      have h1 : evO s' lo = evO s lo := by cases lo with
        | none => rfl
        | some y => simp only [evO, h y (by simp [Op.operands])]
      have h2 : evO s' hi = evO s hi := by cases hi with
        | none => rfl
        | some y => simp only [evO, h y (by simp [Op.operands])]
      simp only [qval, h x (by simp [Op.operands]), h1, h2, hS]
  | fieldAddr t x f => simp only [qval, h x (by simp [Op.operands])]
  | field t x f => simp only [qval, h x (by simp [Op.operands])]
  | indexAddr t x i => simp only [qval, h x (by simp [Op.operands]), h i (by simp [Op.operands]), hI]
  | index t x i => simp only [qval, h x (by simp [Op.operands]), h i (by simp [Op.operands])]
  | extract x i => simp only [qval, h x (by simp [Op.operands])]
  | build t ps =>
    have : evL s' ps.toList = evL s ps.toList := evL_congr fun p hp => h p.2 (by simp only [Op.operands, List.mem_toArray, List.mem_map]; exact ⟨p, hp, rfl⟩)
    simp only [qval, vBuild, this]
  | pick c x y => simp only [qval, h c (by simp [Op.operands]), h x (by simp [Op.operands]), h y (by simp [Op.operands])]
  | convert t u x => simp only [qval, h x (by simp [Op.operands]), hB]
  | call c =>
    simp only [qval]
    split
    · rename_i hc
      split
      · rename_i x t hx ht
        have : s'.ev x = s.ev x := h x (by
          simp only [Op.operands, Call.operands, hc]
          have : x ∈ c.args.toList := by rw [hx]; simp
          simpa using this)
        simp only [this, hN]
      · rfl
    · rfl
  | _ => rfl

theorem ev_congr {s s' : St} {o : Oper} {all : Array Oper} (h : ∀ t ∈ o.looksAt all, lookS s'.slots t = lookS s.slots t) : ∀ x ∈ o.op.operands, s'.ev x = s.ev x := by
  intro x hx
  cases x with
  | tmp t => exact h t (List.mem_append_left _ (List.mem_filterMap.2 ⟨.tmp t, by simpa using hx, rfl⟩))
  | _ => rfl

theorem wantA_congr {s s' : St} {o : Oper} {all : Array Oper} (h : ∀ t ∈ o.looksAt all, lookS s'.slots t = lookS s.slots t) : wantA all s' o = wantA all s o := by
  unfold wantA
  split
  · rfl
  · rename_i j b hg
    split
    · rename_i d hd
      rw [h d (List.mem_append_right _ (by simp [hg, hd]))]
    · rfl

/-- One operation, carried out or passed by. -/
def IStep (P : Program) (all : Array Oper) (o : Oper) (s s' : St) : Prop :=
  ∀ a w g, Sim s a w g → ∀ (K : Act → World → Prop) (Q : Exit → Act → World → Prop), (∀ a' w' g', Sim s' a' w' g' → Keep g w g' w' → K a' w') →
    if Region.wanted o (yielded all a.tmps) then o.wp P a w K Q else K (a.put o.dst undef) w

/-- Operation o yields y, whatever else slots hold. -/
def QStep (P : Program) (all : Array Oper) (o : Oper) (s : St) (y : AV) : Prop :=
  ∀ s' : St, s'.nt = s.nt → s'.objs = s.objs → s'.st = s.st → (∀ t ∈ o.looksAt all, lookS s'.slots t = lookS s.slots t) → IStep P all o s' (s'.put o.dst y)

def QRuns (P : Program) (all : Array Oper) : List Oper → St → (St → Prop) → Prop
  | [], s, K => K s
  | o :: os, s, K => ∃ y, QStep P all o s y ∧ QRuns P all os (s.put o.dst y) K

theorem fits_congr {s s' : St} (h : s'.nt = s.nt) (d : Option Nat) : s'.fits d = s.fits d := by cases d <;> simp [St.fits, h]

theorem QStep.pure {P : Program} {T : Tab} (hT : TabOk P T) {all : Array Oper} {o : Oper} {s : St} {p : Prop} {y : AV} (hw : wantA all s o = some true) (hf : s.fits o.dst = true) (hv : qval T s o = some (p, y)) (hp : p) : QStep P all o s y := by
  intro s' h1 h2 h3 h4 a w g hs K Q hK
  have hw' : wantA all s' o = some true := (wantA_congr h4).trans hw
  rw [wantA_ok hw' hs]
  simp only [if_true]
  have hf' : s'.fits o.dst = true := (fits_congr h1 _).trans hf
  have hb := qval_bop hf' ((qval_congr h2 (ev_congr h4)).trans hv)
  obtain ⟨r, a1, w1, g1, hr, hcase, hsim, hk⟩ := bop_ok hT hb hp a w g hs
  simp only [Oper.wp, hr]
  rcases hcase with ⟨v, rfl, rfl⟩ | ⟨rfl, rfl⟩ <;> exact hK _ _ _ hsim hk

theorem QStep.skip {P : Program} {all : Array Oper} {o : Oper} {s : St} (hw : wantA all s o = some false) (hf : s.fits o.dst = true) : QStep P all o s .dead := by
  intro s' h1 h2 h3 h4 a w g hs K Q hK
  have hw' : wantA all s' o = some false := (wantA_congr h4).trans hw
  rw [wantA_ok hw' hs]
  simp only [if_false, Bool.false_eq_true]
  exact hK _ _ _ (hs.put ((fits_congr h1 _).trans hf) (.dead undef)) (Keep.refl g w)

/-- What quiet operations do, up to the next call of a function of the program's. -/
def goQ (T : Tab) (all : Array Oper) : List Oper → St → (List Oper → St → Prop) → Prop
  | [], s, J => J [] s
  | o :: os, s, J =>
    match wantA all s o with
    | some true =>
      if isCallF o = true then J (o :: os) s
      else
        match qval T s o with
        | some (p, y) => s.fits o.dst = true ∧ p ∧ goQ T all os (s.put o.dst y) J
        | none => False
    | some false => s.fits o.dst = true ∧ goQ T all os (s.put o.dst .dead) J
    | none => J (o :: os) s

theorem goQ_ok {P : Program} {T : Tab} (hT : TabOk P T) {all : Array Oper} {K : St → Prop} : ∀ {os : List Oper} {s : St}, goQ T all os s (fun os' s' => QRuns P all os' s' K) → QRuns P all os s K
  | [], s, h => h
  | o :: os, s, h => by
    simp only [goQ] at h
    split at h
    · rename_i hw
      split at h
      · exact h
      · split at h
        · rename_i p y hv
          exact ⟨y, QStep.pure hT hw h.1 hv h.2.1, goQ_ok hT h.2.2⟩
        · exact h.elim
    · rename_i hw
      exact ⟨.dead, QStep.skip hw h.1, goQ_ok hT h.2⟩
    · exact h

theorem QRuns.go {P : Program} {T : Tab} (hT : TabOk P T) {all : Array Oper} {os : List Oper} {s : St} {K : St → Prop} (h : ∀ J : List Oper → St → Prop, (∀ os' s', QRuns P all os' s' K → J os' s') → goQ T all os s J) : QRuns P all os s K :=
  goQ_ok hT (h _ fun _ _ h => h)

end Go.Proofs.YtkhobcmkbldmiaaFw
