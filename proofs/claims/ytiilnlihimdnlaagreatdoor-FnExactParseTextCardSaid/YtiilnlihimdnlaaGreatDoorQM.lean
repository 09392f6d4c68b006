/- Operands and lists: the two readers come to one (pure). -/
import Derived.Test.YtiilnlihimdnlaaGreatDoorQD
import Derived.Test.YtiilnlihimdnlaaGreatDoorQK
set_option linter.unusedVariables false
set_option linter.unusedSimpArgs false
set_option maxRecDepth 4000
namespace Go.Proofs.YtiilnlihimdnlaaGreatDoorFw
open Go Go.RowKit
theorem RelV.bad' {α : Type} {L : List TokV} {p : α × List TokV × Bool} {q : α × Nat × Bool} (hp : p.2.2 = true) (hq : q.2.2 = true) : RelV L p q :=
 ⟨⟨by rw [hp, hq], fun h => by rw [hp] at h; cases h⟩, fun h => by rw [hp] at h; cases h⟩
theorem RelV.badR {α : Type} {L : List TokV} {p : α × List TokV × Bool} {q : α × Nat × Bool} (r : RelV L p q) {b : Bool} (h : p.2.2 = b) : q.2.2 = b := by rw [← r.1.1]; exact h
theorem mpRel {α β : Type} {L : List TokV} (f : α → β) {p : α × List TokV × Bool} {q : α × Nat × Bool} (r : RelV L p q) : RelV L (mpI f p) (mpS f q) :=
 ⟨r.1, fun h => congrArg f (r.2 h)⟩
theorem seS_true (L : List TokV) (i : Nat) (m : Str) : seS L i true m = false := by simp [seS]
theorem plI_bad (at' : Bool) {r : Int × List TokV × Bool} (h : r.2.2 = true) : (plI at' r).2.2 = true := by
 unfold plI
 split
 ·exact h
 ·simp [h]
theorem inbI_bad {l : List TokV} {b : Bool} (h : b = true) : (inbI l b).2.2 = true := by rw [h]; exact inbI_true l
theorem idI_bad (at' : Bool) {e : ExprV × List TokV × Bool} (h : e.2.2 = true) : (idI at' e).2.2 = true := by
 unfold idI
 split
 ·exact inbI_bad h
 ·exact h
theorem exI_bad {d : Nat} {l : List TokV} {b : Bool} (h : b = true) : (exI d l b).2.2 = true := by rw [h, exI_true]
theorem argI2_true (at' : Bool) (l : List TokV) : (argI2 at' l true).2.2 = true := by
 unfold argI2
 split
 ·exact regI_true l
 split
 ·exact inbI_true _
 split
 ·exact plI_bad _ (inbI_true l)
 split
 ·exact exI_bad rfl
 ·exact idI_bad _ (exI_bad rfl)
theorem argI_true (l : List TokV) : (argI l true).2.2 = true := argI2_true _ _
theorem dnS_true (L : List TokV) (i : Nat) : dnS L i true = false := by simp [dnS, seS_true]
theorem idS_bad (L : List TokV) {e : ExprV × Nat × Bool} (h : e.2.2 = true) : (idS L e).2.2 = true := by
 unfold idS
 rw [h, seS_true, if_neg (by simp)]
theorem plS_true (L : List TokV) (i : Nat) : (plS L i true).2.2 = true := by
 unfold plS
 rw [if_neg (by simp)]
 simp only [dnS_true, seS_true, Bool.false_eq_true, if_false]
 exact idS_bad L (by rw [exS_true])
theorem argS2_bad (at' : Bool) {a : AgV × Nat × Bool} (h : a.2.2 = true) : (argS2 at' a).2.2 = true := by
 unfold argS2
 split
 ·exact h
 split
 ·exact h
 ·rfl
theorem argS_true (L : List TokV) (i : Nat) : (argS L i true).2.2 = true := argS2_bad _ (plS_true L _)
theorem argS2_false (a : AgV × Nat × Bool) : argS2 false a = a := if_pos rfl
theorem isM_kept {l : List TokV} (h : hdK l = 5) (m : Str) : isM l m = false := by
 cases l with
 | nil => rfl
 | cons t r =>
  simp only [hdK] at h
  simp [isM_cons, scEqL, scEq, h]
theorem exI_kept {l : List TokV} (h : hdK l = 5) (d : Nat) : (exI d l false).2.2 = true := by
 cases d with
 | zero => rfl
 | succ d =>
  cases l with
  | nil => rfl
  | cons t r =>
   simp only [hdK] at h
   rw [exI, show nxT (t :: r) false = (t, r, false) from rfl, exI2]
   simp [h, isT, scEqL, scEq]
theorem argS2_mp {α : Type} {L : List TokV} (at' : Bool) {p : α × List TokV × Bool} {q : α × Nat × Bool} (r : RelV L p q) (k : Int) (hk : k = 2 ∨ k = 4 ∨ k = 6 ∨ k = 8 ∨ k = 10) (R : α → Int) (E : α → ExprV) :
 RelV L (mpI (fun x => (⟨k + mo at', R x, E x⟩ : AgV)) p) (argS2 at' (mpS (fun x => (⟨k, R x, E x⟩ : AgV)) q)) := by
 cases at' with
 | false =>
  rw [argS2_false]
  have e : (fun x => (⟨k + mo false, R x, E x⟩ : AgV)) = fun x => ⟨k, R x, E x⟩ := by
   funext x; simp [mo]
  rw [e]
  exact mpRel _ r
 | true =>
  have e : argS2 true (mpS (fun x => (⟨k, R x, E x⟩ : AgV)) q) = mpS (fun x => (⟨k + mo true, R x, E x⟩ : AgV)) q := by
   unfold argS2
   rw [if_neg (by simp)]
   exact if_pos hk
  rw [e]
  exact mpRel _ r
set_option maxHeartbeats 1000000 in
theorem argRel2 {L l : List TokV} (hL : MarkOk2 L) {i : Nat} (at' : Bool) (h : Rel L l false i false) : RelV L (argI2 at' l false) (argS2 at' (plS L i false)) := by
 have hl := h.2 rfl
 have s45 := seRel hL h (c := 45) (by decide)
 have s40 := seRel hL h (c := 40) (by decide)
 have s35 := seRel hL h (c := 35) (by decide)
 have hdn : dnS L i false = cbI l := by
  unfold dnS cbI
  rw [s45]
  congr 1
  have e1 : l.tail = L.drop (i + 1) := by rw [hl, ← List.drop_one, List.drop_drop]
  have e2 := seS_eq2 hL (i + 1) false (c := 40) (by decide)
  rw [e1]
  simp only [Bool.not_false, Bool.true_and] at e2
  rw [← e2]
  rfl
 have hr := regRel h
 have r6 := exRel hL 6 l false i false h
 by_cases cr : 0 ≤ hdR L i
 ·have hp : plS L i false = mpS (fun t => (⟨0, rgS t, nothE⟩ : AgV)) (nxS L i false) := if_pos ⟨rfl, cr⟩
  unfold hdR at cr
  cases e : L[i]? with
  | none => rw [e] at cr; exact absurd cr (by decide)
  | some t =>
   rw [e] at cr
   simp only at cr
   have hk : hdK l = 5 := by
    rw [hl, drop_some e]
    rcases rgS_eq t with q | q
    ·exact q.2.1
    ·omega
   have hn : nxS L i false = (t, i + 1, false) := by unfold nxS; simp [e]
   cases at' with
   | false =>
    rw [argI2, if_pos ⟨rfl, hk⟩, hp, argS2_false]
    rw [hn] at hr ⊢
    have : decide (rgS t < 0) = false := decide_eq_false (by omega)
    simp only [this, Bool.or_false] at hr
    exact ⟨hr.1, fun hb => by
     have := hr.2 hb
     simp only [mpI, mpS]
     rw [this]⟩
   | true =>
    refine RelV.bad' ?_ ?_
    ·rw [argI2, if_neg (by simp), if_neg (by simp [cbI, isM_kept hk]), if_neg (by simp [isM_kept hk]), if_neg (by simp [isM_kept hk])]
     exact idI_bad _ (exI_kept hk 6)
    ·rw [hp, hn]
     simp [argS2, mpS]
 ·by_cases ck : at' = false ∧ hdK l = 5
  ·rw [argI2, if_pos ck]
   refine RelV.bad' ?_ (argS2_bad _ ?_)
   ·show (regI l false).2.2 = true
    rw [hr.1.1]
    unfold hdR at cr
    unfold nxS
    cases e : L[i]? with
    | none => rfl
    | some t =>
     rw [e] at cr
     simp only at cr
     simp only [Bool.false_eq_true, if_false, Bool.false_or]
     exact decide_eq_true (by omega)
   ·rw [plS, if_neg (show ¬ (false = false ∧ 0 ≤ hdR L i) from fun hh => cr hh.2), hdn, s40, s35, if_neg (by simp [cbI, isM_kept ck.2]), if_neg (by simp [isM_kept ck.2]), if_neg (by simp [isM_kept ck.2])]
    exact idS_bad L (by rw [← r6.1.1]; exact exI_kept ck.2 6)
  rw [argI2, if_neg ck, plS, if_neg (show ¬ (false = false ∧ 0 ≤ hdR L i) from fun hh => cr hh.2), hdn, s40, s35]
  by_cases c1 : cbI l = true
  ·rw [if_pos c1, if_pos c1]
   exact argS2_mp at' (roRel hL (wantRel hL h (c := 45) (by decide))) 4 (by simp) (fun r => r) (fun _ => nothE)
  rw [if_neg c1, if_neg c1]
  by_cases c2 : isM l [40] = true
  ·rw [if_pos c2, if_pos c2]
   have r := roRel hL h
   unfold plI plS2
   generalize inbI l false = p at *
   generalize roS L i false = q at *
   cases hb : p.2.2 with
   | true =>
    have hq := r.badR hb
    refine RelV.bad' ?_ (argS2_bad _ hq)
    split <;> simp
   | false =>
    have hq := r.badR hb
    have r1 := r.1
    rw [hb, hq] at r1
    have e := seRel hL r1 (c := 43) (by decide)
    have t := tkRel hL r1 (c := 43) (by decide)
    rw [hq, e]
    by_cases c3 : isM p.2.1 [43] = true
    ·rw [if_pos c3, if_pos c3]
     have := argS2_mp at' (p := ((p.1, tkL p.2.1 [43], false) : Int × List TokV × Bool)) (q := (q.1, tkI L q.2.1 false [43], false)) ⟨t, fun _ => r.2 hb⟩ 2 (by simp) (fun r => r) (fun _ => nothE)
     exact this
    ·rw [if_neg c3, if_neg c3]
     cases at' with
     | false =>
      rw [argS2_false]
      exact ⟨t, fun _ => by simp only; rw [r.2 hb]⟩
     | true =>
      refine RelV.bad' rfl ?_
      simp [argS2]
  rw [if_neg c2, if_neg c2]
  by_cases c3 : isM l [35] = true
  ·rw [if_pos c3, if_pos c3]
   exact argS2_mp at' (exRel hL 6 _ _ _ _ (tkRel hL h (c := 35) (by decide))) 8 (by simp) (fun _ => 0) (fun e => e)
  rw [if_neg c3, if_neg c3]
  generalize exI 6 l false = p at *
  generalize exS L 6 i false = q at *
  cases hb : p.2.2 with
  | true => exact RelV.bad' (idI_bad _ hb) (argS2_bad _ (idS_bad L (r6.badR hb)))
  | false =>
   have hq := r6.badR hb
   have r1 := r6.1
   rw [hb, hq] at r1
   have e := seRel hL r1 (c := 40) (by decide)
   have ev := r6.2 hb
   unfold idI idS
   rw [hb, hq, e, ← ev]
   by_cases c4 : isM p.2.1 [40] = true
   ·rw [if_pos c4, if_pos c4]
    exact argS2_mp at' (roRel hL r1) 6 (by simp) (fun r => r) (fun _ => p.1)
   ·rw [if_neg c4, if_neg c4]
    exact argS2_mp at' (p := ((p.1, p.2.1, false) : ExprV × List TokV × Bool)) (q := (p.1, q.2.1, false)) ⟨r1, fun _ => rfl⟩ 10 (by simp) (fun _ => 0) (fun e => e)
theorem argRel {L l : List TokV} (hL : MarkOk2 L) {b : Bool} {i : Nat} {b2 : Bool} (h : Rel L l b i b2) : RelV L (argI l b) (argS L i b2) := by
 cases b with
 | true =>
  obtain ⟨rfl, _⟩ := h
  exact RelV.bad' (argI_true l) (argS_true L i)
 | false =>
  have h1 := tkRel hL h (c := 64) (by decide)
  obtain ⟨rfl, h2⟩ := h
  unfold argI argS
  rw [seRel hL ⟨rfl, h2⟩ (c := 64) (by decide)]
  exact argRel2 hL _ h1
theorem trmI_true (f : Nat) (l : List TokV) (acc : List ExprV) : trmI f l true acc = (acc, l, true) := by
 cases f
 ·rfl
 ·rw [trmI, if_pos rfl]
theorem trmS_true (L : List TokV) (f : Nat) (i : Nat) (acc : List ExprV) : trmS L f i true acc = (acc, i, true) := by
 cases f
 ·rfl
 ·rw [trmS, if_pos rfl]
theorem trmRel {L : List TokV} (hL : MarkOk2 L) : ∀ (f : Nat) (l : List TokV) (b : Bool) (i : Nat) (b2 : Bool) (acc : List ExprV), Rel L l b i b2 → RelV L (trmI f l b acc) (trmS L f i b2 acc)
 | 0, l, b, i, b2, acc, h => RelV.mk' _ h
 | f + 1, l, b, i, b2, acc, h => by
  cases b with
  | true =>
   obtain ⟨rfl, _⟩ := h
   rw [trmI_true, trmS_true]
   exact RelV.bad
  | false =>
   obtain ⟨rfl, h2⟩ := h
   rw [trmI, trmS, if_neg (show ¬ (false = true) from by simp), if_neg (show ¬ (false = true) from by simp)]
   have r := exRel hL 6 l false i false ⟨rfl, h2⟩
   generalize exI 6 l false = p at *
   generalize exS L 6 i false = q at *
   cases hb : p.2.2 with
   | true =>
    rw [r.badR hb, seS_true]
    refine RelV.bad' ?_ (by simp)
    split
    ·rw [trmI_true]
    ·rfl
   | false =>
    have hq := r.badR hb
    have r1 := r.1
    rw [hb, hq] at r1
    have e := seRel hL r1 (c := 44) (by decide)
    have t := tkRel hL r1 (c := 44) (by decide)
    rw [hq, e, r.2 hb]
    by_cases c : isM p.2.1 [44] = true
    ·rw [if_pos c, if_pos c]
     exact trmRel hL f _ _ _ _ _ t
    ·rw [if_neg c, if_neg c]
     exact RelV.mk' _ t
theorem cmRel {α : Type} {L : List TokV} (hL : MarkOk2 L) (g : α → AgV → LineV) {a : α × List TokV × Bool} {a' : α × Nat × Bool} (r : RelV L a a') : RelV L (cmI g a) (cmS L g a') := by
 have w := argRel hL (wantRel hL r.1 (c := 44) (by decide))
 refine ⟨w.1, fun hb => ?_⟩
 have hb' : (argI (tkL a.2.1 [44]) (a.2.2 || !isM a.2.1 [44])).2.2 = false := hb
 have ha : a.2.2 = false := by
  cases e : a.2.2 with
  | false => rfl
  | true => rw [e, Bool.true_or, argI_true] at hb'; cases hb'
 show g a.1 _ = g a'.1 _
 rw [r.2 ha, w.2 hb']
end Go.Proofs.YtiilnlihimdnlaaGreatDoorFw
namespace Go.Proofs.YtiilnlihimdnlaaGreatDoorFw
open Go Go.RowKit
def RelL (L : List TokV) (p : LineV × List TokV × Bool) (q : LineV × Nat × Bool) : Prop :=
 (p.2.2 = false → q.2.2 = false ∧ p.1 = q.1 ∧ p.2.1 = L.drop q.2.1) ∧ (p.2.2 = true → q.2.2 = true ∨ q.1.okB = false)
theorem RelV.toL {L : List TokV} {p : LineV × List TokV × Bool} {q : LineV × Nat × Bool} (r : RelV L p q) : RelL L p q :=
 ⟨fun hb => ⟨r.badR hb, r.2 hb, r.1.2 hb⟩, fun hb => .inl (r.badR hb)⟩
theorem okB_neg (op : Int) (a d : AgV) (n : Int) (h : op = 15 ∨ op = 16) (hn : n < 0) : (lnV 3 [] op a d n []).okB = false := by
 have h1 : (lnV 3 [] op a d n []).insP = false := by
  unfold lnV LineV.insP
  refine decide_eq_false ?_
  unfold InsLP
  rintro (⟨h1, -⟩ | ⟨h1, -⟩ | ⟨-, -, -, h3, -⟩ | ⟨-, -, ⟨-, h3, -⟩ | ⟨h3, -⟩ | ⟨h3, -⟩⟩) <;> omega
 unfold lnV at h1 ⊢
 simp only [LineV.okB, h1, lineB]
 simp
theorem okB_sect (s : Str) (a d : AgV) (n : Int) (h : ¬ NameP s) : (lnV 6 s 0 a d n []).okB = false := by
 unfold lnV
 simp only [LineV.okB, decide_eq_false h, lineB]
 simp
theorem jsrRel {L l : List TokV} (hL : MarkOk2 L) {b : Bool} {i : Nat} {b2 : Bool} (h : Rel L l b i b2) :
 RelL L (cmI (fun r d => lnV 3 [] 15 azV d r []) (regI l b)) (cmS L (fun t d => lnV 3 [] 15 azV d (rgS t) []) (nxS L i b2)) := by
 have hr := regRel h
 by_cases c : rgS (nxS L i b2).1 < 0
 ·have hb : (regI l b).2.2 = true := by rw [hr.1.1, decide_eq_true c, Bool.or_true]
  refine ⟨fun hb' => ?_, fun _ => .inr (okB_neg 15 _ _ _ (.inl rfl) c)⟩
  have h2 : (cmI (fun r d => lnV 3 [] 15 azV d r []) (regI l b)).2.2 = true := by
   show (argI _ ((regI l b).2.2 || _)).2.2 = true
   rw [hb, Bool.true_or, argI_true]
  rw [h2] at hb'; cases hb'
 ·rw [decide_eq_false c, Bool.or_false] at hr
  have r : RelV L (regI l b) (mpS rgS (nxS L i b2)) := hr
  exact (cmRel hL (fun r d => lnV 3 [] 15 azV d r []) r).toL
theorem rtsRel {L l : List TokV} (hL : MarkOk2 L) {b : Bool} {i : Nat} {b2 : Bool} (h : Rel L l b i b2) :
 RelL L (mpI (fun r => lnV 3 [] 16 azV azV r []) (regI l b)) (mpS (fun t => lnV 3 [] 16 azV azV (rgS t) []) (nxS L i b2)) := by
 have hr := regRel h
 by_cases c : rgS (nxS L i b2).1 < 0
 ·have hb : (regI l b).2.2 = true := by rw [hr.1.1, decide_eq_true c, Bool.or_true]
  refine ⟨fun hb' => ?_, fun _ => .inr (okB_neg 16 _ _ _ (.inr rfl) c)⟩
  have h2 : (mpI (fun r => lnV 3 [] 16 azV azV r []) (regI l b)).2.2 = true := hb
  rw [h2] at hb'; cases hb'
 ·rw [decide_eq_false c, Bool.or_false] at hr
  have r : RelV L (regI l b) (mpS rgS (nxS L i b2)) := hr
  exact (mpRel (fun r => lnV 3 [] 16 azV azV r []) r).toL
theorem insRel {L l : List TokV} (hL : MarkOk2 L) {op : Int} (h1 : 1 ≤ op) (h2 : op ≤ 23) {b : Bool} {i : Nat} {b2 : Bool} (h : Rel L l b i b2) : RelL L (insI op l b) (insS L op i b2) := by
 unfold insI insS
 by_cases c1 : op ≤ 6
 ·rw [if_pos ⟨h1, c1⟩, if_pos c1]
  exact (cmRel hL _ (argRel hL h)).toL
 rw [if_neg (fun h => c1 h.2), if_neg c1]
 by_cases c2 : op ≤ 14
 ·rw [if_neg (show ¬ op = 15 by omega), if_pos (show 1 ≤ op ∧ op ≤ 15 by omega), if_pos c2]
  exact (mpRel _ (argRel hL h)).toL
 rw [if_neg c2]
 by_cases c3 : op = 15
 ·rw [if_pos c3, if_pos c3, c3]
  exact jsrRel hL h
 rw [if_neg c3, if_neg c3, if_neg (show ¬ (1 ≤ op ∧ op ≤ 15) by omega)]
 by_cases c4 : op = 16
 ·rw [if_pos c4, if_pos c4, c4]
  exact rtsRel hL h
 rw [if_neg c4, if_neg c4]
 by_cases c5 : op = 22
 ·rw [if_neg (show ¬ ((17 ≤ op ∧ op ≤ 21) ∨ op = 23) by omega), if_neg (show ¬ op ≠ 22 by omega)]
  exact (RelV.mk' _ h).toL
 ·rw [if_pos (show (17 ≤ op ∧ op ≤ 21) ∨ op = 23 by omega), if_pos c5]
  exact (mpRel _ (exRel hL 6 _ _ _ _ h)).toL
theorem over_kept : ¬ overW ∈ opW ++ regW := by decide
theorem okT_over {k n : Int} (h : OkT k n overW) : k = 1 := by
 rcases h with ⟨_, _, h3⟩ | ⟨_, hn, h3 | h3 | h3 | h3⟩
 ·cases h3
 ·exact h3.1
 ·have := h3.2.2.1
  simp [overW] at this
 ·obtain ⟨_, c, _, h4⟩ := h3
  simp [overW] at h4
 ·exact absurd h3.2 over_kept
theorem overRel {L l : List TokV} (hL : MarkOk2 L) {i : Nat} (h : Rel L l false i false) :
 Rel L (nmT l false).2.1 ((nmT l false).2.2 || ((nmT l false).1 != overW)) (tkI L i false overW) (false || !seS L i false overW) := by
 have hl := h.2 rfl
 cases e : L[i]? with
 | none =>
  have : L.drop i = [] := List.drop_eq_nil_of_le (List.getElem?_eq_none_iff.1 e)
  rw [hl, this]
  simp only [seS, e]
  exact ⟨rfl, fun h => by cases h⟩
 | some t =>
  have hok := hL t (List.mem_of_getElem? e)
  rw [hl, drop_some e]
  unfold nmT tkI
  simp only [seS, e, show nxT (t :: L.drop (i + 1)) false = (t, L.drop (i + 1), false) from rfl]
  by_cases c : t.s = overW
  ·have hk : t.k = 1 := okT_over (c ▸ hok)
   rw [c]
   simp [hk]
   exact ⟨rfl, fun _ => rfl⟩
  ·have c' : (t.s == overW) = false := by simpa using c
   have c'' : (t.s != overW) = true := by simp [c]
   rw [c', c'', Bool.or_true]
   exact ⟨rfl, fun h => by cases h⟩
theorem marks_small : ∀ c ∈ marksS, ¬ ((97 : Int) ≤ (c.toNat : Int) ∧ (c.toNat : Int) ≤ 122) := by decide
theorem nmT_true (l : List TokV) : (nmT l true).2.2 = true := rfl
theorem okT_no {t : TokV} (h : OkT t.k t.n t.s) (hk : t.k ≠ 1) : ¬ NameP t.s := by
 rintro ⟨⟨a1, a2, a3⟩, a4⟩
 rcases h with ⟨_, _, h3⟩ | ⟨_, hn, h3 | h3 | h3 | h3⟩
 ·rw [h3] at a1; simp at a1
 ·exact hk h3.1
 ·obtain ⟨_, h4, h5, _⟩ := h3
  have h6 := (a3 0 (by omega)).2 rfl
  obtain ⟨h7, h8⟩ := List.getElem?_eq_some_iff.1 h5
  rw [h8] at h6
  exact absurd h6.1 (by decide)
 ·obtain ⟨_, c, h4, h5⟩ := h3
  have h6 := (a3 0 (by omega)).2 rfl
  have h8 : t.s[0] = c := by simp [h5]
  rw [h8] at h6
  exact marks_small c h4 h6
 ·exact a4 h3.2
theorem sctRel {L l : List TokV} (hL : MarkOk2 L) {b : Bool} {i : Nat} {b2 : Bool} (h : Rel L l b i b2) : RelL L (sctI (nmT l b)) (sctS L (nxS L i b2)) := by
 obtain ⟨e1, e2⟩ := nxRel h
 have hok := fun hb => nxS_mem hL (i := i) (b := b2) hb
 unfold nmT
 generalize nxT l b = t at *
 generalize nxS L i b2 = t' at *
 obtain ⟨t, l1, b1⟩ := t
 obtain ⟨t', i1, b1'⟩ := t'
 simp only at e1 e2 hok
 subst e1
 obtain ⟨rfl, e2⟩ := e2
 unfold sctI sctS
 simp only
 cases b1 with
 | true =>
  refine (RelV.bad' ?_ ?_).toL
  ·split <;> simp [nmT_true]
  ·rw [seS_true, if_neg (by simp)]
 | false =>
  by_cases ck : t.k = 1
  ·have : (t.k != 1) = false := by simp [ck]
   rw [this, Bool.or_false]
   have r1 : Rel L l1 false i1 false := ⟨rfl, e2⟩
   rw [seRel hL r1 (c := 44) (by decide)]
   have tk := tkRel hL r1 (c := 44) (by decide)
   by_cases c : isM l1 [44] = true
   ·rw [if_pos c, if_pos c]
    exact (RelV.mk' _ (overRel hL tk)).toL
   ·rw [if_neg c, if_neg c]
    exact (RelV.mk' _ tk).toL
  ·have : (t.k != 1) = true := by simp [ck]
   rw [this, Bool.or_true]
   refine ⟨fun hb => ?_, fun _ => .inr ?_⟩
   ·split at hb <;> simp [nmT_true] at hb
   ·split <;> exact okB_sect _ _ _ _ (okT_no (hok rfl) ck)
theorem RelV.trm {L l : List TokV} (hL : MarkOk2 L) {b : Bool} {i : Nat} {b2 : Bool} (h : Rel L l b i b2) (g : List ExprV → LineV) : RelL L (mpI g (trmI (l.length + 1) l b [])) (mpS g (trmS L (L.length - i + 1) i b2 [])) := by
 refine (mpRel g ?_).toL
 cases b with
 | true =>
  obtain ⟨rfl, _⟩ := h
  rw [trmI_true, trmS_true]
  exact RelV.bad
 | false =>
  have e : L.length - i + 1 = l.length + 1 := by rw [h.2 rfl, List.length_drop]
  rw [e]
  exact trmRel hL _ _ _ _ _ _ h
theorem dotRel {L l : List TokV} (hL : MarkOk2 L) (w : Str) {b : Bool} {i : Nat} {b2 : Bool} (h : Rel L l b i b2) : RelL L (dotI w l b) (dotS L w i b2) := by
 unfold dotI dotS
 split
 ·exact RelV.trm hL h _
 split
 ·exact RelV.trm hL h _
 split
 ·exact RelV.trm hL h _
 split
 ·exact (RelV.mk' _ h).toL
 split
 ·exact sctRel hL h
 ·exact (RelV.bad).toL
theorem namRel {L l : List TokV} (hL : MarkOk2 L) (s : Str) {b : Bool} {i : Nat} {b2 : Bool} (h : Rel L l b i b2) : RelL L (namI s l b) (namS L s i b2) := by
 refine RelV.toL ?_
 unfold namI namS
 cases b with
 | true =>
  obtain ⟨rfl, _⟩ := h
  refine RelV.bad' ?_ ?_
  ·split
   ·rfl
   ·exact exI_bad rfl
  ·rw [seS_true, seS_true, if_neg (by simp), if_neg (by simp)]
 | false =>
  have r1 := h
  obtain ⟨rfl, h2⟩ := h
  have tk := tkRel hL r1 (c := 58) (by decide)
  rw [seRel hL r1 (c := 58) (by decide), seRel hL tk (c := 61) (by decide)]
  by_cases c : isM l [58] = true
  ·rw [if_pos c, if_pos c]
   exact RelV.mk' _ tk
  rw [if_neg c, if_neg c]
  by_cases c2 : isM (tkL l [58]) [61] = true
  ·rw [if_pos c2, c2]
   exact mpRel _ (exRel hL 6 _ _ _ _ (tkRel hL tk (c := 61) (by decide)))
  ·rw [if_neg c2]
   have : isM (tkL l [58]) [61] = false := by simpa using c2
   rw [this]
   exact RelV.bad' (exI_bad rfl) rfl
theorem op_at (s : Str) (h : s ∈ opW ++ regW) : (0 < 1 + atI opW s 0 ∧ atI (opW ++ regW) s 0 < 23 ∧ atI opW s 0 = atI (opW ++ regW) s 0 ∧ 0 ≤ atI opW s 0) ∨ (¬ 0 < 1 + atI opW s 0 ∧ ¬ atI (opW ++ regW) s 0 < 23) := by
 obtain ⟨h1, h2, h3⟩ := keptAt s
 rcases List.mem_append.1 h with a | a
 ·obtain ⟨e1, e2, e3, e4⟩ := h1 a
  left
  exact ⟨by omega, by omega, e1.symm, e3⟩
 ·obtain ⟨e1, e2, e3⟩ := h2 a
  right
  exact ⟨by omega, by omega⟩
theorem lineRel {L l : List TokV} (hL : MarkOk2 L) {b : Bool} {i : Nat} {b2 : Bool} (h : Rel L l b i b2) : RelL L (lineI2 (nxT l b)) (lineS L i b2) := by
 unfold lineS
 obtain ⟨e1, e2⟩ := nxRel h
 have hok := fun hb => nxS_mem hL (i := i) (b := b2) hb
 have hz : (nxS L i b2).2.2 = true → (nxS L i b2).1 = ⟨0, 0, []⟩ := by
  unfold nxS
  split
  ·intro; rfl
  ·split <;> simp
 generalize nxT l b = t at *
 generalize nxS L i b2 = t' at *
 obtain ⟨t, l1, b1⟩ := t
 obtain ⟨t', i1, b1'⟩ := t'
 simp only at e1 e2 hok hz
 subst e1
 unfold lineI2 lineS2
 simp only
 cases b1' with
 | true =>
  rw [hz rfl]
  exact (RelV.bad).toL
 | false =>
  have hok := hok rfl
  by_cases c3 : t.k = 3
  ·rw [if_pos c3, if_neg (by omega), if_pos c3]
   exact dotRel hL _ e2
  by_cases c1 : t.k = 1
  ·rw [if_neg c3, if_pos c1, if_neg (by omega), if_neg c3, if_pos c1]
   exact namRel hL _ e2
  rw [if_neg c3, if_neg c1]
  by_cases c5 : t.k = 5
  ·have hm : t.s ∈ opW ++ regW := by
    rcases hok with ⟨h1, _⟩ | ⟨_, hn, h3 | h3 | h3 | h3⟩
    ·omega
    ·omega
    ·omega
    ·omega
    ·exact h3.2
   rcases op_at t.s hm with ⟨q1, q2, q3, q4⟩ | ⟨q1, q2⟩
   ·rw [if_pos ⟨c5, q1⟩, if_pos ⟨c5, q2⟩, ← q3, Int.add_comm (atI opW t.s 0) 1]
    exact insRel hL (by omega) (by omega) e2
   ·rw [if_neg (fun h => q1 h.2), if_neg (fun h => q2 h.2), if_neg c3, if_neg c1]
    exact (RelV.bad).toL
  ·rw [if_neg (fun h => c5 h.1), if_neg (fun h => c5 h.1), if_neg c3, if_neg c1]
   exact (RelV.bad).toL
end Go.Proofs.YtiilnlihimdnlaaGreatDoorFw
namespace Go.Proofs.YtiilnlihimdnlaaGreatDoorFw
open Go Go.RowKit
def wt : List TokV → Nat
 | [] => 0
 | t :: r => (t.s.length + 1) + wt r
theorem wt_tail (l : List TokV) : wt l.tail ≤ wt l := by cases l <;> simp [wt]
theorem wt_tk (l : List TokV) (m : Str) : wt (tkL l m) ≤ wt l := by
 unfold tkL; split
 ·exact wt_tail l
 ·exact Nat.le_refl _
theorem wt_is {l : List TokV} {m : Str} (h : isM l m = true) : wt (tkL l m) + 1 ≤ wt l := by
 unfold tkL
 rw [if_pos h]
 obtain ⟨t, r, rfl⟩ := isM_ne h
 simp only [List.tail_cons, wt]; omega
theorem wt_nx {l : List TokV} {b : Bool} (h : (nxT l b).2.2 = false) : b = false ∧ (nxT l b).1.s.length + 1 + wt (nxT l b).2.1 ≤ wt l := by
 unfold nxT at *
 split at h
 ·cases h
 ·rename_i hb
  rw [if_neg hb]
  refine ⟨by simpa using hb, ?_⟩
  cases l with
  | nil => cases h
  | cons t r => exact Nat.le_refl _
def ExW (f : List TokV → Bool → ExprV × List TokV × Bool) : Prop := ∀ l b, (f l b).2.2 = false → b = false ∧ (f l b).1.tot + wt (f l b).2.1 ≤ wt l
theorem prI_w {f : List TokV → Bool → ExprV × List TokV × Bool} (hf : ExW f) (l : List TokV) (b : Bool) (h : (prI f l b).2.2 = false) : b = false ∧ (prI f l b).1.tot + wt (prI f l b).2.1 ≤ wt l := by
 unfold prI prI2 prI3 prI4 at *
 have h1 := hf l b
 generalize f l b = a at *
 have h2 := fun h => wt_nx (l := a.2.1) (b := a.2.2) h
 generalize nxT a.2.1 a.2.2 = g at *
 have h3 := hf g.2.1 g.2.2
 generalize f g.2.1 g.2.2 = c at *
 split at h
 ·rename_i i hi
  simp only [Bool.or_eq_false_iff, Bool.not_eq_false'] at h
  obtain ⟨q1, q2⟩ := h3 h.1
  obtain ⟨q3, q4⟩ := h2 q1
  obtain ⟨q5, q6⟩ := h1 q3
  have q7 := wt_is h.2
  refine ⟨q5, ?_⟩
  simp only [ExprV.tot, ExprV.totL, List.length_cons, List.length_nil]
  omega
 ·cases h
theorem exI_w : ∀ d, ExW (exI d)
 | 0, l, b, h => by cases h
 | d + 1, l, b, h => by
  rw [exI, exI2] at h ⊢
  have h1 := fun h => wt_nx (l := l) (b := b) h
  generalize nxT l b = t at *
  split at h
  ·cases h
  ·rename_i c0
   obtain ⟨q1, q2⟩ := h1 (by simpa using c0)
   rw [if_neg c0]
   refine ⟨q1, ?_⟩
   split at h
   ·rename_i c; rw [if_pos c]; simp only [ExprV.tot, ExprV.totL, List.length_nil]; omega
   rename_i c1; rw [if_neg c1]
   split at h
   ·rename_i c; rw [if_pos c]; simp only [ExprV.tot, ExprV.totL, List.length_nil]; omega
   rename_i c2; rw [if_neg c2]
   split at h
   ·rename_i c; rw [if_pos c]; simp only [ExprV.tot, ExprV.totL, List.length_nil]; omega
   rename_i c3; rw [if_neg c3]
   split at h
   ·rename_i c; rw [if_pos c]
    obtain ⟨_, q4⟩ := exI_w d t.2.1 false h
    simp only [ngI, ExprV.tot, ExprV.totL, List.length_cons, List.length_nil] at *; omega
   rename_i c4; rw [if_neg c4]
   split at h
   ·rename_i c; rw [if_pos c]
    obtain ⟨_, q4⟩ := prI_w (exI_w d) t.2.1 false h
    omega
   ·cases h
theorem reg_w {l : List TokV} {b : Bool} (h : (regI l b).2.2 = false) : b = false ∧ wt (regI l b).2.1 ≤ wt l := by
 unfold regI regI2 at *
 have h1 := fun h => wt_nx (l := l) (b := b) h
 generalize nxT l b = t at *
 split at h
 ·cases h
 ·rename_i c
  rw [if_neg c]
  obtain ⟨q1, q2⟩ := h1 h
  exact ⟨q1, by simp only; omega⟩
theorem inb_w {l : List TokV} {b : Bool} (h : (inbI l b).2.2 = false) : b = false ∧ wt (inbI l b).2.1 ≤ wt l := by
 unfold inbI inbI2 at *
 have h1 := fun h => reg_w (l := tkL l [40]) (b := b || !isM l [40]) h
 generalize regI (tkL l [40]) (b || !isM l [40]) = r at *
 simp only [Bool.or_eq_false_iff] at h
 obtain ⟨q1, q2⟩ := h1 h.1
 simp only [Bool.or_eq_false_iff] at q1
 have := wt_tk l [40]
 have := wt_tk r.2.1 [41]
 exact ⟨q1.1, by simp only; omega⟩
theorem arg2_w {at' : Bool} {l : List TokV} {b : Bool} (h : (argI2 at' l b).2.2 = false) : b = false ∧ (argI2 at' l b).1.e.tot + wt (argI2 at' l b).2.1 ≤ wt l := by
 have hz : nothE.tot = 0 := rfl
 unfold argI2 at *
 split at h
 ·rename_i c; rw [if_pos c]
  obtain ⟨q1, q2⟩ := reg_w (l := l) (b := b) h
  exact ⟨q1, by simp only [mpI, hz]; omega⟩
 rename_i c1; rw [if_neg c1]
 split at h
 ·rename_i c; rw [if_pos c]
  obtain ⟨q1, q2⟩ := inb_w (l := tkL l [45]) h
  simp only [Bool.or_eq_false_iff] at q1
  have := wt_tk l [45]
  exact ⟨q1.1, by simp only [mpI, hz]; omega⟩
 rename_i c2; rw [if_neg c2]
 split at h
 ·rename_i c; rw [if_pos c]
  unfold plI at *
  have h1 := fun h => inb_w (l := l) (b := b) h
  generalize inbI l b = r at *
  have := wt_tk r.2.1 [43]
  split at h
  ·rename_i c; rw [if_pos c]
   obtain ⟨q1, q2⟩ := h1 h
   exact ⟨q1, by simp only [hz]; omega⟩
  ·rename_i c; rw [if_neg c]
   simp only [Bool.or_eq_false_iff] at h
   obtain ⟨q1, q2⟩ := h1 h.1
   exact ⟨q1, by simp only [hz]; omega⟩
 rename_i c3; rw [if_neg c3]
 split at h
 ·rename_i c; rw [if_pos c]
  obtain ⟨q1, q2⟩ := exI_w 6 _ _ h
  have := wt_tk l [35]
  exact ⟨q1, by simp only [mpI]; omega⟩
 ·rename_i c; rw [if_neg c]
  unfold idI at *
  have h1 := exI_w 6 l b
  generalize exI 6 l b = e at *
  split at h
  ·rename_i c; rw [if_pos c]
   obtain ⟨q1, q2⟩ := inb_w (l := e.2.1) (b := e.2.2) h
   obtain ⟨q3, q4⟩ := h1 q1
   exact ⟨q3, by simp only [mpI]; omega⟩
  ·rename_i c; rw [if_neg c]
   obtain ⟨q3, q4⟩ := h1 h
   exact ⟨q3, by simp only; omega⟩
theorem arg_w {l : List TokV} {b : Bool} (h : (argI l b).2.2 = false) : b = false ∧ (argI l b).1.e.tot + wt (argI l b).2.1 ≤ wt l := by
 obtain ⟨q1, q2⟩ := arg2_w (at' := isM l [64]) (l := tkL l [64]) (b := b) h
 have := wt_tk l [64]
 exact ⟨q1, by unfold argI; omega⟩
theorem totL_app : ∀ (a b : List ExprV), ExprV.totL (a ++ b) = ExprV.totL a + ExprV.totL b
 | [], b => by simp [ExprV.totL]
 | x :: r, b => by simp only [List.cons_append, ExprV.totL, totL_app r b]; omega
theorem trm_w : ∀ (f : Nat) (l : List TokV) (b : Bool) (acc : List ExprV), (trmI f l b acc).2.2 = false → b = false ∧ ExprV.totL (trmI f l b acc).1 + (trmI f l b acc).1.length + wt (trmI f l b acc).2.1 ≤ ExprV.totL acc + acc.length + wt l + 1
 | 0, l, b, acc, h => ⟨h, by rw [trmI]; simp only; omega⟩
 | f + 1, l, b, acc, h => by
  rw [trmI] at h ⊢
  split at h
  ·rename_i c
   have h' : b = false := h
   rw [h'] at c; cases c
  ·rename_i c; rw [if_neg c]
   have h1 := exI_w 6 l b
   generalize exI 6 l b = e at *
   split at h
   ·rename_i c2; rw [if_pos c2]
    obtain ⟨q1, q2⟩ := trm_w f _ _ _ h
    obtain ⟨q3, q4⟩ := h1 q1
    have := wt_is c2
    refine ⟨q3, ?_⟩
    rw [totL_app] at q2
    simp only [List.length_append, ExprV.totL, List.length_cons, List.length_nil] at q2
    omega
   ·rename_i c2; rw [if_neg c2]
    obtain ⟨q3, q4⟩ := h1 h
    have := wt_tk e.2.1 [44]
    refine ⟨q3, ?_⟩
    simp only [totL_app, List.length_append, ExprV.totL, List.length_cons, List.length_nil]
    omega
/-! The reference's. -/
theorem Rel.self (L : List TokV) (i : Nat) (b : Bool) : Rel L (L.drop i) b i b := ⟨rfl, fun _ => rfl⟩
theorem exS_w {L : List TokV} (hL : MarkOk2 L) {d i : Nat} {b : Bool} (h : (exS L d i b).2.2 = false) : b = false ∧ (exS L d i b).1.tot + wt (L.drop (exS L d i b).2.1) ≤ wt (L.drop i) := by
 have r := exRel hL d _ _ _ _ (Rel.self L i b)
 have hb : (exI d (L.drop i) b).2.2 = false := by rw [r.1.1]; exact h
 obtain ⟨q1, q2⟩ := exI_w d _ _ hb
 rw [r.2 hb, r.1.2 hb] at q2
 exact ⟨q1, q2⟩
theorem argS_w {L : List TokV} (hL : MarkOk2 L) {i : Nat} {b : Bool} (h : (argS L i b).2.2 = false) : b = false ∧ (argS L i b).1.e.tot + wt (L.drop (argS L i b).2.1) ≤ wt (L.drop i) := by
 have r := argRel hL (Rel.self L i b)
 have hb : (argI (L.drop i) b).2.2 = false := by rw [r.1.1]; exact h
 obtain ⟨q1, q2⟩ := arg_w hb
 rw [r.2 hb, r.1.2 hb] at q2
 exact ⟨q1, q2⟩
theorem trmS_w {L : List TokV} (hL : MarkOk2 L) {f i : Nat} {b : Bool} (h : (trmS L f i b []).2.2 = false) : b = false ∧ ExprV.totL (trmS L f i b []).1 + (trmS L f i b []).1.length + wt (L.drop (trmS L f i b []).2.1) ≤ wt (L.drop i) + 1 := by
 have r := trmRel hL f _ _ _ _ [] (Rel.self L i b)
 have hb : (trmI f (L.drop i) b []).2.2 = false := by rw [r.1.1]; exact h
 obtain ⟨q1, q2⟩ := trm_w f _ _ _ hb
 rw [r.2 hb, r.1.2 hb] at q2
 exact ⟨q1, by simpa [ExprV.totL] using q2⟩
theorem nxS_w {L : List TokV} {i : Nat} {b : Bool} (h : (nxS L i b).2.2 = false) : b = false ∧ (nxS L i b).1.s.length + 1 + wt (L.drop (nxS L i b).2.1) ≤ wt (L.drop i) := by
 obtain ⟨e, r⟩ := nxRel (Rel.self L i b)
 have hb : (nxT (L.drop i) b).2.2 = false := by rw [r.1]; exact h
 obtain ⟨q1, q2⟩ := wt_nx hb
 rw [e, r.2 hb] at q2
 exact ⟨q1, q2⟩
theorem drop_wt0 : ∀ (k : Nat) (l : List TokV), wt (l.drop k) ≤ wt l
 | 0, l => Nat.le_refl _
 | k + 1, [] => by simp [wt]
 | k + 1, t :: r => by
  rw [List.drop_succ_cons]
  have := drop_wt0 k r
  simp only [wt]; omega
theorem drop_wt (L : List TokV) (i j : Nat) (h : i ≤ j) : wt (L.drop j) ≤ wt (L.drop i) := by
 obtain ⟨k, rfl⟩ := Nat.exists_eq_add_of_le h
 rw [← List.drop_drop]
 exact drop_wt0 k _
theorem tkS_w (L : List TokV) (i : Nat) (b : Bool) (m : Str) : wt (L.drop (tkI L i b m)) ≤ wt (L.drop i) := by
 refine drop_wt L _ _ ?_
 unfold tkI; split <;> omega
theorem tot_eta (e : ExprV) : (ExprV.mk e.1 e.2 e.3 e.4).tot = e.tot := by cases e; rfl
theorem lnV_tot (k : Int) (s : Str) (op : Int) (a b : AgV) (n : Int) (l : List ExprV) : (lnV k s op a b n l).tot = s.length + (a.e.tot + (b.e.tot + (l.length + ExprV.totL l))) := by
 unfold lnV
 rw [LineV.tot, tot_eta, tot_eta]
theorem azV_tot : azV.e.tot = 0 := rfl
theorem cmS_w {α : Type} {L : List TokV} (hL : MarkOk2 L) (g : α → AgV → LineV) (w : α → Nat) (hg : ∀ a d, (g a d).tot = w a + d.e.tot) {a : α × Nat × Bool} {N : Nat} (ha : a.2.2 = false → w a.1 + wt (L.drop a.2.1) ≤ N) (h : (cmS L g a).2.2 = false) : (cmS L g a).1.tot ≤ N := by
 obtain ⟨q1, q2⟩ := argS_w hL (i := tkI L a.2.1 a.2.2 [44]) (b := a.2.2 || !seS L a.2.1 a.2.2 [44]) h
 simp only [Bool.or_eq_false_iff] at q1
 have h1 := ha q1.1
 have h2 := tkS_w L a.2.1 a.2.2 [44]
 show (g a.1 _).tot ≤ N
 rw [hg]; omega
theorem insS_w {L : List TokV} (hL : MarkOk2 L) (op : Int) {i : Nat} {b : Bool} (h : (insS L op i b).2.2 = false) : (insS L op i b).1.tot ≤ wt (L.drop i) + 1 := by
 unfold insS at *
 split at h
 ·rename_i c; rw [if_pos c]
  refine cmS_w hL _ (fun a => a.e.tot) (fun a d => by rw [lnV_tot]; simp [ExprV.totL]) (fun hb => ?_) h
  have := argS_w hL hb
  omega
 rename_i c1; rw [if_neg c1]
 split at h
 ·rename_i c; rw [if_pos c]
  obtain ⟨q1, q2⟩ := argS_w hL (i := i) (b := b) h
  simp only [mpS, lnV_tot, azV_tot, ExprV.totL, List.length_nil]; omega
 rename_i c2; rw [if_neg c2]
 split at h
 ·rename_i c; rw [if_pos c]
  refine cmS_w hL _ (fun _ => 0) (fun a d => by rw [lnV_tot, azV_tot]; simp [ExprV.totL]) (fun hb => ?_) h
  have := nxS_w hb
  omega
 rename_i c3; rw [if_neg c3]
 split at h
 ·rename_i c; rw [if_pos c]
  simp only [mpS, lnV_tot, azV_tot, ExprV.totL, List.length_nil]; omega
 rename_i c4; rw [if_neg c4]
 split at h
 ·rename_i c; rw [if_pos c]
  obtain ⟨q1, q2⟩ := exS_w hL (d := 6) (i := i) (b := b) h
  simp only [mpS, lnV_tot, azV_tot, ExprV.totL, List.length_cons, List.length_nil]; omega
 ·rename_i c; rw [if_neg c]
  simp only [lnV_tot, azV_tot, ExprV.totL, List.length_nil]; omega
theorem trmL_w {L : List TokV} (hL : MarkOk2 L) (k : Int) {f i : Nat} {b : Bool} (h : (trmS L f i b []).2.2 = false) : (lnV k [] 0 azV azV 0 (trmS L f i b []).1).tot ≤ wt (L.drop i) + 1 := by
 obtain ⟨q1, q2⟩ := trmS_w hL h
 simp only [lnV_tot, azV_tot, List.length_nil]; omega
theorem dotS_w {L : List TokV} (hL : MarkOk2 L) (w : Str) {i : Nat} {b : Bool} (h : (dotS L w i b).2.2 = false) : (dotS L w i b).1.tot ≤ wt (L.drop i) + 1 := by
 unfold dotS at *
 split at h
 ·rename_i c; rw [if_pos c]; exact trmL_w hL 4 h
 rename_i c1; rw [if_neg c1]
 split at h
 ·rename_i c; rw [if_pos c]; exact trmL_w hL 5 h
 rename_i c2; rw [if_neg c2]
 split at h
 ·rename_i c; rw [if_pos c]; exact trmL_w hL 7 h
 rename_i c3; rw [if_neg c3]
 split at h
 ·rename_i c; rw [if_pos c]; simp only [lnV_tot, azV_tot, ExprV.totL, List.length_nil]; omega
 rename_i c4; rw [if_neg c4]
 split at h
 ·rename_i c; rw [if_pos c]
  have h1 := fun h => nxS_w (L := L) (i := i) (b := b) h
  generalize nxS L i b = t at *
  unfold sctS at *
  split at h
  ·rename_i c; rw [if_pos c]
   simp only [Bool.or_eq_false_iff] at h
   have := h1 h.1
   simp only [lnV_tot, azV_tot, ExprV.totL, List.length_nil]; omega
  ·rename_i c; rw [if_neg c]
   have := h1 h
   simp only [lnV_tot, azV_tot, ExprV.totL, List.length_nil]; omega
 ·cases h
theorem namS_w {L : List TokV} (hL : MarkOk2 L) (s : Str) {i : Nat} {b : Bool} (h : (namS L s i b).2.2 = false) : (namS L s i b).1.tot ≤ s.length + (wt (L.drop i) + 1) := by
 unfold namS at *
 split at h
 ·rename_i c; rw [if_pos c]
  simp only [lnV_tot, azV_tot, ExprV.totL, List.length_nil]; omega
 rename_i c1; rw [if_neg c1]
 split at h
 ·rename_i c; rw [if_pos c]
  obtain ⟨q1, q2⟩ := exS_w hL (d := 6) h
  have h2 := tkS_w L i b [58]
  have h3 := tkS_w L (tkI L i b [58]) b [61]
  simp only [mpS, lnV_tot, azV_tot, ExprV.totL, List.length_cons, List.length_nil] at *; omega
 ·cases h
theorem lineS_w {L : List TokV} (hL : MarkOk2 L) {i : Nat} {b : Bool} (h : (lineS L i b).2.2 = false) : (lineS L i b).1.tot ≤ wt (L.drop i) := by
 unfold lineS at *
 have h1 := fun h => nxS_w (L := L) (i := i) (b := b) h
 have hz : (nxS L i b).2.2 = true → (nxS L i b).1.k = 0 := by
  unfold nxS
  split
  ·intro; rfl
  ·split <;> simp
 generalize nxS L i b = t at *
 unfold lineS2 at *
 by_cases e : t.2.2 = true
 ·have := hz e
  rw [if_neg (by omega), if_neg (by omega), if_neg (by omega)] at h
  cases h
 ·have h1 := h1 (by simpa using e)
  split at h
  ·rename_i c; rw [if_pos c]; have := insS_w hL _ h; omega
  rename_i c1; rw [if_neg c1]
  split at h
  ·rename_i c; rw [if_pos c]; have := dotS_w hL _ h; omega
  rename_i c2; rw [if_neg c2]
  split at h
  ·rename_i c; rw [if_pos c]; have := namS_w hL _ h; omega
  ·cases h
theorem okT_len {k n : Int} {s : Str} (h : OkT k n s) : s.length ≤ 7 := by
 rcases h with ⟨_, _, h3⟩ | ⟨_, hn, h3 | h3 | h3 | h3⟩
 ·rw [h3]; simp
 ·have := h3.2.1.2.1; omega
 ·have := h3.2.2.2.2.1
  simp only [List.length_drop] at this; omega
 ·obtain ⟨_, c, _, h5⟩ := h3
  rw [h5]; simp
 ·have : ∀ w ∈ opW ++ regW, w.length ≤ 7 := by decide
  exact this _ h3.2
theorem wt_le : ∀ {L : List TokV}, (∀ t ∈ L, OkT t.k t.n t.s) → wt L ≤ 8 * L.length
 | [], h => by simp [wt]
 | t :: r, h => by
  have h1 := okT_len (h t (by simp))
  have h2 := wt_le (L := r) (fun t ht => h t (by simp [ht]))
  simp only [wt, List.length_cons]; omega
/-! What is read. -/
def zeroL : LineV := lnV 0 [] 0 azV azV 0 []
theorem zeroL_ok : zeroL.okB = true := by
 have h : (ArgB.mk 0 0 0 0 [] []).no := ⟨rfl, rfl, rfl, rfl, rfl, rfl⟩
 show lineB 0 [] 0 0 0 (decide (ArgB.mk 0 0 0 0 [] []).no) (decide (ArgB.mk 0 0 0 0 [] []).no) _ _ _ _ = true
 rw [decide_eq_true h]
 simp [lineB]
noncomputable def lineOfT (l : List TokV) : Option LineV := if (lineI l false).2.2 = false ∧ (lineI l false).2.1 = [] ∧ (lineI l false).1.okB = true then some (lineI l false).1 else none
noncomputable def parseLineV (s : Str) : Option LineV := (lexV s).bind lineOfT
theorem lineOfT_nil : lineOfT [] = some zeroL := if_pos ⟨rfl, rfl, zeroL_ok⟩
theorem lineOfT_ref {L : List TokV} (hL : MarkOk2 L) (hne : L ≠ []) (hle : (lineS L 0 false).2.1 ≤ L.length) :
 lineOfT L = if (lineS L 0 false).2.2 = false ∧ (lineS L 0 false).2.1 = L.length ∧ (lineS L 0 false).1.okB = true then some (lineS L 0 false).1 else none := by
 have r := lineRel hL (l := L) (b := false) (i := 0) (b2 := false) ⟨rfl, fun _ => rfl⟩
 unfold lineOfT lineI
 rw [if_neg hne]
 generalize lineI2 (nxT L false) = p at *
 generalize lineS L 0 false = q at *
 cases hb : p.2.2 with
 | true =>
  rw [if_neg (by simp)]
  rcases r.2 hb with h | h
  ·rw [if_neg (by simp [h])]
  ·rw [if_neg (by simp [h])]
 | false =>
  obtain ⟨e1, e2, e3⟩ := r.1 hb
  rw [e1, e2, e3]
  have : L.drop q.2.1 = [] ↔ q.2.1 = L.length := by
   rw [List.drop_eq_nil_iff]; omega
  simp only [this]
theorem lineOfT_tot {L : List TokV} (h : ∀ t ∈ L, OkT t.k t.n t.s) (hn : L.length ≤ 800) (hb : (lineI L false).2.2 = false) : (lineI L false).1.tot ≤ 6400 := by
 unfold lineI at *
 split at hb
 ·rename_i c; rw [if_pos c]; exact Nat.zero_le _
 ·rename_i c; rw [if_neg c]
  have r := lineRel (L := L) h (l := L) (b := false) (i := 0) (b2 := false) ⟨rfl, fun _ => rfl⟩
  obtain ⟨e1, e2, e3⟩ := r.1 hb
  have := lineS_w h e1
  have h2 := wt_le h
  rw [e2]
  simp only [List.drop_zero] at this
  omega
theorem parseLineV_tot {s : Str} {x : LineV} (h : parseLineV s = some x) : x.tot ≤ 6400 := by
 unfold parseLineV at h
 cases e : lexV s with
 | none => rw [e] at h; cases h
 | some L =>
  rw [e] at h
  obtain ⟨h1, _, h3⟩ := lexV_facts e
  simp only [Option.bind_some, lineOfT] at h
  split at h
  ·rename_i c
   obtain rfl := Option.some.inj h
   exact lineOfT_tot h1 h3 c.1
  ·cases h
end Go.Proofs.YtiilnlihimdnlaaGreatDoorFw
namespace Go.Proofs.YtiilnlihimdnlaaGreatDoorFw
open Go Go.RowKit
theorem reg_len (l : List TokV) (b : Bool) : (regI l b).2.1.length ≤ l.length := by
 unfold regI regI2
 have := nxT_len l b
 split <;> exact this
theorem inb_len (l : List TokV) (b : Bool) : (inbI l b).2.1.length ≤ l.length := by
 unfold inbI inbI2
 have h1 := tkL_len l [40]
 have h2 := reg_len (tkL l [40]) (b || !isM l [40])
 generalize regI (tkL l [40]) (b || !isM l [40]) = r at *
 have h3 := tkL_len r.2.1 [41]
 simp only; omega
theorem pl_len (at' : Bool) (r : Int × List TokV × Bool) : (plI at' r).2.1.length ≤ r.2.1.length := by
 unfold plI
 split <;> exact tkL_len _ _
theorem id_len (at' : Bool) (e : ExprV × List TokV × Bool) : (idI at' e).2.1.length ≤ e.2.1.length := by
 unfold idI
 split
 ·exact inb_len _ _
 ·exact Nat.le_refl _
theorem arg2_len (at' : Bool) (l : List TokV) (b : Bool) : (argI2 at' l b).2.1.length ≤ l.length := by
 unfold argI2
 split
 ·exact reg_len l b
 split
 ·exact Nat.le_trans (inb_len _ _) (tkL_len l _)
 split
 ·exact Nat.le_trans (pl_len _ _) (inb_len l b)
 split
 ·exact Nat.le_trans (exI_len _ _ _) (tkL_len l _)
 ·exact Nat.le_trans (id_len _ _) (exI_len _ _ _)
theorem arg_len (l : List TokV) (b : Bool) : (argI l b).2.1.length ≤ l.length := Nat.le_trans (arg2_len _ _ _) (tkL_len l _)
theorem trm_len : ∀ (f : Nat) (l : List TokV) (b : Bool) (acc : List ExprV), (trmI f l b acc).2.1.length ≤ l.length
 | 0, l, b, acc => Nat.le_refl _
 | f + 1, l, b, acc => by
  rw [trmI]
  have h1 := exI_len 6 l b
  generalize exI 6 l b = e at *
  have h2 := tkL_len e.2.1 [44]
  split
  ·exact Nat.le_refl _
  split
  ·exact Nat.le_trans (trm_len f _ _ _) (by omega)
  ·simp only; omega
theorem nm_len (l : List TokV) (b : Bool) : (nmT l b).2.1.length ≤ l.length := nxT_len l b
theorem cm_len {α β : Type} (g : α → AgV → β) (a : α × List TokV × Bool) : (cmI g a).2.1.length ≤ a.2.1.length := Nat.le_trans (arg_len _ _) (tkL_len a.2.1 _)
theorem ins_len (op : Int) (l : List TokV) (b : Bool) : (insI op l b).2.1.length ≤ l.length := by
 unfold insI
 split
 ·exact Nat.le_trans (cm_len _ _) (arg_len l b)
 split
 ·exact Nat.le_trans (cm_len _ _) (reg_len l b)
 split
 ·exact arg_len l b
 split
 ·exact reg_len l b
 split
 ·exact exI_len _ _ _
 ·exact Nat.le_refl _
theorem sct_len (n : Str × List TokV × Bool) : (sctI n).2.1.length ≤ n.2.1.length := by
 unfold sctI
 split
 ·exact Nat.le_trans (nm_len _ _) (tkL_len n.2.1 _)
 ·exact tkL_len n.2.1 _
theorem dot_len (w : Str) (l : List TokV) (b : Bool) : (dotI w l b).2.1.length ≤ l.length := by
 unfold dotI
 split
 ·exact trm_len _ _ _ _
 split
 ·exact trm_len _ _ _ _
 split
 ·exact trm_len _ _ _ _
 split
 ·exact Nat.le_refl _
 split
 ·exact Nat.le_trans (sct_len _) (nm_len l b)
 ·exact Nat.le_refl _
theorem nam_len (s : Str) (l : List TokV) (b : Bool) : (namI s l b).2.1.length ≤ l.length := by
 unfold namI
 split
 ·exact tkL_len l _
 ·exact Nat.le_trans (exI_len _ _ _) (Nat.le_trans (tkL_len _ _) (tkL_len l _))
theorem lineI_len (l : List TokV) (b : Bool) : (lineI l b).2.1.length ≤ l.length := by
 unfold lineI lineI2
 have := nxT_len l b
 split
 ·exact Nat.le_refl _
 split
 ·exact Nat.le_trans (dot_len _ _ _) this
 split
 ·exact Nat.le_trans (nam_len _ _ _) this
 split
 ·exact Nat.le_trans (ins_len _ _ _) this
 ·exact this
/-! The fuel of lists. -/
theorem exI_lt {d : Nat} {l : List TokV} (hd : 0 < d) (h : (exI d l false).2.2 = false) : (exI d l false).2.1.length < l.length := by
 obtain ⟨d, rfl⟩ : ∃ k, d = k + 1 := ⟨d - 1, by omega⟩
 rw [exI, exI2] at h ⊢
 cases l with
 | nil => cases h
 | cons t r =>
  rw [show nxT (t :: r) false = (t, r, false) from rfl] at h ⊢
  have h1 := exI_len d r false
  have h2 := prI_len (fun l b => exI_len d l b) r false
  simp only [ngI, List.length_cons]
  (repeat' split) <;> (try simp only) <;> omega
theorem trm_fuel : ∀ (f g : Nat) (l : List TokV) (b : Bool) (acc : List ExprV), l.length < f → l.length < g → trmI f l b acc = trmI g l b acc
 | f + 1, g + 1, l, b, acc, hf, hg => by
  rw [trmI, trmI]
  cases b with
  | true => rfl
  | false =>
   rw [if_neg (show ¬ (false = true) from by simp), if_neg (show ¬ (false = true) from by simp)]
   have h1 := exI_len 6 l false
   have h2 := exI_lt (d := 6) (l := l) (by omega)
   generalize exI 6 l false = e at *
   split
   ·rename_i c
    have h3 := tkL_len e.2.1 [44]
    cases hb : e.2.2 with
    | true => rw [trmI_true, trmI_true]
    | false =>
     have := h2 hb
     exact trm_fuel f g _ _ _ (by omega) (by omega)
   ·rfl
def trm (l : List TokV) (b : Bool) (acc : List ExprV) : List ExprV × List TokV × Bool := trmI (l.length + 1) l b acc
theorem trm_bad (l : List TokV) (acc : List ExprV) : trm l true acc = (acc, l, true) := trmI_true _ _ _
theorem trm_more {l : List TokV} {acc : List ExprV} (h : isM (exI 6 l false).2.1 [44] = true) : trm l false acc = trm (tkL (exI 6 l false).2.1 [44]) (exI 6 l false).2.2 (acc ++ [(exI 6 l false).1]) := by
 unfold trm
 rw [trmI, if_neg (show ¬ (false = true) from by simp), if_pos h]
 have h2 := exI_lt (d := 6) (l := l) (by omega)
 have h1 := exI_len 6 l false
 generalize exI 6 l false = e at *
 have h3 := tkL_len e.2.1 [44]
 cases hb : e.2.2 with
 | true => rw [trmI_true, trmI_true]
 | false =>
  have := h2 hb
  exact trm_fuel _ _ _ _ _ (by omega) (by omega)
theorem trm_last {l : List TokV} {acc : List ExprV} (h : isM (exI 6 l false).2.1 [44] = false) : trm l false acc = (acc ++ [(exI 6 l false).1], tkL (exI 6 l false).2.1 [44], (exI 6 l false).2.2) := by
 unfold trm
 rw [trmI, if_neg (show ¬ (false = true) from by simp), if_neg (by rw [h]; simp)]
/-! The reference's. -/
theorem tkS_le {L : List TokV} {i : Nat} (b : Bool) (m : Str) (hi : i ≤ L.length) : tkI L i b m ≤ L.length := (tkI_le b m hi).2
theorem ro_le {L : List TokV} {i : Nat} (b : Bool) (hi : i ≤ L.length) : (roS L i b).2.1 ≤ L.length := by
 unfold roS roS2
 exact tkS_le _ _ (nxS_le _ (tkS_le _ _ hi))
theorem pl2_le {L : List TokV} (r : Int × Nat × Bool) (hi : r.2.1 ≤ L.length) : (plS2 L r).2.1 ≤ L.length := tkS_le _ _ hi
theorem idS_le {L : List TokV} (e : ExprV × Nat × Bool) (hi : e.2.1 ≤ L.length) : (idS L e).2.1 ≤ L.length := by
 unfold idS
 split
 ·exact ro_le _ hi
 ·exact hi
theorem plS_le {L : List TokV} {i : Nat} (b : Bool) (hi : i ≤ L.length) : (plS L i b).2.1 ≤ L.length := by
 unfold plS
 split
 ·exact nxS_le _ hi
 split
 ·exact ro_le _ (tkS_le _ _ hi)
 split
 ·exact pl2_le _ (ro_le _ hi)
 split
 ·exact exS_le _ _ _ (tkS_le _ _ hi)
 ·exact idS_le _ (exS_le _ _ _ hi)
theorem argS2_i (at' : Bool) (a : AgV × Nat × Bool) : (argS2 at' a).2.1 = a.2.1 := by
 unfold argS2
 split
 ·rfl
 ·split <;> rfl
theorem argS_le {L : List TokV} {i : Nat} (b : Bool) (hi : i ≤ L.length) : (argS L i b).2.1 ≤ L.length := by
 unfold argS
 rw [argS2_i]
 exact plS_le _ (tkS_le _ _ hi)
theorem trmS_le {L : List TokV} : ∀ (f i : Nat) (b : Bool) (acc : List ExprV), i ≤ L.length → (trmS L f i b acc).2.1 ≤ L.length
 | 0, i, b, acc, hi => hi
 | f + 1, i, b, acc, hi => by
  rw [trmS]
  have h1 := exS_le (L := L) 6 i b hi
  generalize exS L 6 i b = e at *
  split
  ·exact hi
  split
  ·exact trmS_le f _ _ _ (tkS_le _ _ h1)
  ·exact tkS_le _ _ h1
theorem cmS_le {α β : Type} {L : List TokV} (g : α → AgV → β) (a : α × Nat × Bool) (hi : a.2.1 ≤ L.length) : (cmS L g a).2.1 ≤ L.length := argS_le _ (tkS_le _ _ hi)
theorem insS_le {L : List TokV} (op : Int) {i : Nat} (b : Bool) (hi : i ≤ L.length) : (insS L op i b).2.1 ≤ L.length := by
 unfold insS
 split
 ·exact cmS_le _ _ (argS_le _ hi)
 split
 ·exact argS_le _ hi
 split
 ·exact cmS_le _ _ (nxS_le _ hi)
 split
 ·exact nxS_le _ hi
 split
 ·exact exS_le _ _ _ hi
 ·exact hi
theorem sctS_le {L : List TokV} (t : TokV × Nat × Bool) (hi : t.2.1 ≤ L.length) : (sctS L t).2.1 ≤ L.length := by
 unfold sctS
 split
 ·exact tkS_le _ _ (tkS_le _ _ hi)
 ·exact tkS_le _ _ hi
theorem dotS_le {L : List TokV} (w : Str) {i : Nat} (b : Bool) (hi : i ≤ L.length) : (dotS L w i b).2.1 ≤ L.length := by
 unfold dotS
 split
 ·exact trmS_le _ _ _ _ hi
 split
 ·exact trmS_le _ _ _ _ hi
 split
 ·exact trmS_le _ _ _ _ hi
 split
 ·exact hi
 split
 ·exact sctS_le _ (nxS_le _ hi)
 ·exact hi
theorem namS_le {L : List TokV} (s : Str) {i : Nat} (b : Bool) (hi : i ≤ L.length) : (namS L s i b).2.1 ≤ L.length := by
 unfold namS
 split
 ·exact tkS_le _ _ hi
 split
 ·exact exS_le _ _ _ (tkS_le _ _ (tkS_le _ _ hi))
 ·exact tkS_le _ _ (tkS_le _ _ hi)
theorem lineS_le {L : List TokV} {i : Nat} (b : Bool) (hi : i ≤ L.length) : (lineS L i b).2.1 ≤ L.length := by
 unfold lineS lineS2
 have h1 := nxS_le (L := L) b hi
 split
 ·exact insS_le _ _ h1
 split
 ·exact dotS_le _ _ h1
 split
 ·exact namS_le _ _ h1
 ·exact h1
/-! The reference's list. -/
theorem exS_gt {L : List TokV} (hL : MarkOk2 L) {d i : Nat} (hd : 0 < d) (h : (exS L d i false).2.2 = false) : L.length - (exS L d i false).2.1 < L.length - i := by
 have r := exRel hL d _ _ _ _ (Rel.self L i false)
 have hb : (exI d (L.drop i) false).2.2 = false := by rw [r.1.1]; exact h
 have h1 := exI_lt hd hb
 rw [r.1.2 hb, List.length_drop, List.length_drop] at h1
 exact h1
theorem tkI_ge (L : List TokV) (i : Nat) (b : Bool) (m : Str) : i ≤ tkI L i b m := by unfold tkI; split <;> omega
theorem trmS_fuel {L : List TokV} (hL : MarkOk2 L) : ∀ (f g i : Nat) (b : Bool) (acc : List ExprV), L.length - i < f → L.length - i < g → trmS L f i b acc = trmS L g i b acc
 | f + 1, g + 1, i, b, acc, hf, hg => by
  rw [trmS, trmS]
  cases b with
  | true => rfl
  | false =>
   rw [if_neg (show ¬ (false = true) from by simp), if_neg (show ¬ (false = true) from by simp)]
   have h2 := exS_gt hL (d := 6) (i := i) (by omega)
   generalize exS L 6 i false = e at *
   split
   ·rename_i c
    have h3 := tkI_ge L e.2.1 e.2.2 [44]
    cases hb : e.2.2 with
    | true => rw [trmS_true, trmS_true]
    | false =>
     have := h2 hb
     rw [hb] at h3
     exact trmS_fuel hL f g _ _ _ (by omega) (by omega)
   ·rfl
def trms (L : List TokV) (i : Nat) (b : Bool) (acc : List ExprV) : List ExprV × Nat × Bool := trmS L (L.length - i + 1) i b acc
theorem trms_bad (L : List TokV) (i : Nat) (acc : List ExprV) : trms L i true acc = (acc, i, true) := trmS_true _ _ _ _
theorem trms_more {L : List TokV} (hL : MarkOk2 L) {i : Nat} {acc : List ExprV} (h : seS L (exS L 6 i false).2.1 (exS L 6 i false).2.2 [44] = true) :
 trms L i false acc = trms L (tkI L (exS L 6 i false).2.1 (exS L 6 i false).2.2 [44]) (exS L 6 i false).2.2 (acc ++ [(exS L 6 i false).1]) := by
 unfold trms
 rw [trmS, if_neg (show ¬ (false = true) from by simp), if_pos h]
 have h2 := exS_gt hL (d := 6) (i := i) (by omega)
 generalize exS L 6 i false = e at *
 have h3 := tkI_ge L e.2.1 e.2.2 [44]
 cases hb : e.2.2 with
 | true => rw [trmS_true, trmS_true]
 | false =>
  have := h2 hb
  rw [hb] at h3
  exact trmS_fuel hL _ _ _ _ _ (by omega) (by omega)
theorem trms_last {L : List TokV} {i : Nat} {acc : List ExprV} (h : seS L (exS L 6 i false).2.1 (exS L 6 i false).2.2 [44] = false) :
 trms L i false acc = (acc ++ [(exS L 6 i false).1], tkI L (exS L 6 i false).2.1 (exS L 6 i false).2.2 [44], (exS L 6 i false).2.2) := by
 unfold trms
 rw [trmS, if_neg (show ¬ (false = true) from by simp), if_neg (by rw [h]; simp)]
end Go.Proofs.YtiilnlihimdnlaaGreatDoorFw
namespace Go.Proofs.YtiilnlihimdnlaaGreatDoorFw
open Go Go.RowKit
theorem markArg_ok (f r k0 n0 : Int) (s0 : Str) (l : List ExprV) (p : Nat × Nat) (q : Path) (rsz : Nat) (res : List AV) (k : Int) (hn : navG res rsz (p :: q) = some (4, exprsA .own l)) (hb : noBoL res = true) (h0 : 0 ≤ k) (h1 : k + ExprV.cntL l ≤ 4611686018427387904) :
 FnA Tryz.prog 39 true [.agg [.int .i64 f, .int .i64 r, .int .i64 k0, .int .i64 n0, .str s0, .hd 0 (p :: q)], .int .i64 k] [(rsz, res)] (fun r os ros => r = .int .i64 (k + ExprV.cntL l) ∧ os = [(rsz, navSet res (p :: q) (exprsA .own (ExprV.marks l k)))] ∧ ros = []) := by
 refine FnA.of Tryz.func39 rfl (by decide) Tryz.ntmps39 (by simp) ?_
 refine run_ ?_
 refine rg_ ?_
 refine call_ (ps := [0]) (rid := 2304) rfl rfl rfl rfl rfl (markExpr_ok k0 n0 s0 l p q rsz res k hn hb h0 h1) ?_
 rintro r os' ros ⟨rfl, rfl, rfl⟩ _
 have hb2 : noBoL (navSet res (p :: q) (exprsA .own (ExprV.marks l k))) = true := noBo_navSet _ _ _ hb (noBo_exprs _)
 generalize navSet res (p :: q) (exprsA .own (ExprV.marks l k)) = NS at *
 refine cg_ ?_
 refine RunsL.nil ?_
 refine run_ ?_
 exact RetA.mk tabOk 0 rfl rfl rfl (by omega) (by simp only [noBoO, Bool.and_true]; exact hb2) rfl rfl ⟨rfl, rfl, rfl⟩
theorem heldArg_ok (f r k0 n0 : Int) (s0 : Str) (l : List ExprV) (k : Int) (h0 : 0 ≤ k) (h1 : k + ExprV.cntL l ≤ 4611686018427387904) :
 FnA Tryz.prog 41 false [.agg [.int .i64 f, .int .i64 r, .int .i64 k0, .int .i64 n0, .str s0, .row .bo 4 (exprsA .bo (ExprV.marks l k))], .int .i64 k] [] (fun r os ros => r = .int .i64 (k + ExprV.cntL l) ∧ os = [] ∧ ros = []) := by
 refine FnA.of Tryz.func41 rfl (by decide) Tryz.ntmps41 (by simp) ?_
 refine run_ ?_
 refine rg_ ?_
 refine call_ (ps := []) (rid := 2304) rfl rfl rfl rfl rfl (heldExpr_ok k0 n0 s0 l k h0 h1) ?_
 refine cro_ ?_
 refine run_ ?_
 refine RunsA.cond rfl (fun h => ?_) (fun h => ?_)
 ·exfalso; simp only [decide_eq_true_eq] at h; omega
 refine run_ ?_
 exact RetA.mk tabOk 0 rfl rfl rfl (by omega) rfl rfl rfl ⟨rfl, rfl, rfl⟩
def LineV.cnt : LineV → Nat
 | .mk k s op sf sr sk sn ss sl df dr dk dn ds dl n l => ExprV.cntL sl + (ExprV.cntL dl + ExprV.cntL l)
def LineV.markIn : LineV → Int → LineV
 | .mk k s op sf sr sk sn ss sl df dr dk dn ds dl n l, q => .mk k s op sf sr sk sn ss (ExprV.marks sl q) df dr dk dn ds (ExprV.marks dl (q + ExprV.cntL sl)) n (ExprV.marks l (q + ExprV.cntL sl + ExprV.cntL dl))
theorem markLine_ok (k0 : Int) (s : Str) (op : Int) (sf sr sk sn : Int) (ss : Str) (sl : List ExprV) (df dr dk dn : Int) (ds : Str) (dl : List ExprV) (n : Int) (l : List ExprV) (k : Int) (h0 : 0 ≤ k) (h1 : k + (LineV.mk k0 s op sf sr sk sn ss sl df dr dk dn ds dl n l).cnt ≤ 4611686018427387904) :
 FnA Tryz.prog 14 true [.agg [.int .i64 k0, .str s, .int .i64 op, .int .i64 sf, .int .i64 sr, .int .i64 sk, .int .i64 sn, .str ss, .hd 0 [(0, 8)], .int .i64 df, .int .i64 dr, .int .i64 dk, .int .i64 dn, .str ds, .hd 0 [(0, 14)], .int .i64 n, .hd 0 [(0, 16)]], .int .i64 k]
  [(17, [lineA .own (.mk k0 s op sf sr sk sn ss sl df dr dk dn ds dl n l)])]
  (fun r os ros => r = .int .i64 (k + (LineV.mk k0 s op sf sr sk sn ss sl df dr dk dn ds dl n l).cnt) ∧ os = [(17, [lineA .own ((LineV.mk k0 s op sf sr sk sn ss sl df dr dk dn ds dl n l).markIn k)])] ∧ ros = []) := by
 rw [LineV.cnt] at h1
 simp only [LineV.markIn, lineA_mk, LineV.cnt]
 refine FnA.of Tryz.func14 rfl (by decide) Tryz.ntmps14 (by simp) ?_
 refine run_ ?_
 refine rg_ ?_
 refine call_ (ps := [0]) (rid := 2304) rfl rfl rfl rfl rfl (markArg_ok sf sr sk sn ss sl (0, 8) [] 17 _ k rfl (by simp only [noBo, noBoL, noBo_exprs, Bool.and_self]) (by omega) (by omega)) ?_
 refine cr_ ?_
 refine run_ ?_
 refine rg_ ?_
 refine call_ (ps := [0]) (rid := 3328) rfl rfl rfl rfl rfl (markArg_ok df dr dk dn ds dl (0, 14) [] 17 _ (k + ExprV.cntL sl) rfl (by simp only [noBo, noBoL, noBo_exprs, Bool.and_self]) (by omega) (by omega)) ?_
 refine cr_ ?_
 refine run_ ?_
 refine rg_ ?_
 refine call_ (ps := [0]) (rid := 4352) rfl rfl rfl rfl rfl (markExprS_ok l [(0, 16)] 17 _ (k + ExprV.cntL sl + ExprV.cntL dl) rfl (by simp only [noBo, noBoL, noBo_exprs, Bool.and_self]) (by omega) (by omega)) ?_
 refine cr_ ?_
 refine run_ ?_
 refine RetA.mk tabOk 0 rfl rfl rfl (by omega) (by simp [noBoO, noBo, noBoL, noBo_exprs, navSet, AV.cells, AV.setC]) rfl rfl ⟨?_, rfl, rfl⟩
 simp only [res1, AV.int.injEq, true_and]
 omega
theorem heldLine_ok (x : LineV) (k : Int) (h0 : 0 ≤ k) (h1 : k + x.cnt ≤ 4611686018427387904) :
 FnA Tryz.prog 15 false [lineA .bo (x.markIn k), .int .i64 k] [] (fun r os ros => r = .int .i64 (k + x.cnt) ∧ os = [] ∧ ros = []) := by
 obtain ⟨k0, s, op, sf, sr, sk, sn, ss, sl, df, dr, dk, dn, ds, dl, n, l⟩ := x
 rw [LineV.cnt] at h1
 simp only [LineV.markIn, lineA_mk, LineV.cnt]
 refine FnA.of Tryz.func15 rfl (by decide) Tryz.ntmps15 (by simp) ?_
 refine run_ ?_
 refine rg_ ?_
 refine call_ (ps := []) (rid := 2304) rfl rfl rfl rfl rfl (heldArg_ok sf sr sk sn ss sl k (by omega) (by omega)) ?_
 refine cro_ ?_
 refine run_ ?_
 refine RunsA.cond rfl (fun h => ?_) (fun h => ?_)
 ·exfalso; simp only [decide_eq_true_eq] at h; omega
 refine run_ ?_
 refine rg_ ?_
 refine call_ (ps := []) (rid := 3840) rfl rfl rfl rfl rfl (heldArg_ok df dr dk dn ds dl (k + ExprV.cntL sl) (by omega) (by omega)) ?_
 refine cro_ ?_
 refine run_ ?_
 refine RunsA.cond rfl (fun h => ?_) (fun h => ?_)
 ·exfalso; simp only [decide_eq_true_eq] at h; omega
 refine run_ ?_
 refine rg_ ?_
 refine call_ (ps := []) (rid := 5376) rfl rfl rfl rfl rfl (heldExprS_ok l (k + ExprV.cntL sl + ExprV.cntL dl) (by omega) (by omega)) ?_
 refine cro_ ?_
 refine run_ ?_
 refine RunsA.cond rfl (fun h => ?_) (fun h => ?_)
 ·exfalso; simp only [decide_eq_true_eq] at h; omega
 refine run_ ?_
 refine RetA.mk tabOk 0 rfl rfl rfl (by omega) rfl rfl rfl ⟨?_, rfl, rfl⟩
 simp only [res1, AV.int.injEq, true_and]
 omega
end Go.Proofs.YtiilnlihimdnlaaGreatDoorFw
namespace Go.Proofs.YtiilnlihimdnlaaGreatDoorFw
open Go Go.RowKit
end Go.Proofs.YtiilnlihimdnlaaGreatDoorFw
