import Derived.Test.YtgjeemfggfhibaaGreatDoorFwD
import Derived.Laws.StructEq
set_option linter.unusedVariables false
set_option linter.unusedSimpArgs false
/- Regions whose order is drawn: quiet operations, and behind them all some in their order, which may write what the quiet ones read. -/
namespace Go.Proofs.YtgjeemfggfhibaaGreatDoorFw
open Go Go.RowKit
set_option linter.unusedVariables false
end Go.Proofs.YtgjeemfggfhibaaGreatDoorFw
/- Regions whose order is drawn: what is listed so far, a state for each; ways that meet are walked once. -/
namespace Go.Proofs.YtgjeemfggfhibaaGreatDoorFw
open Go Go.RowKit
set_option linter.unusedVariables false
structure LeS (s s2 : St) : Prop where
  nt : s.nt = s2.nt
  slots : ∀ t x, lookS s.slots t = some x → lookS s2.slots t = some x
  objs : ∀ i p, lookO s.objs i = some p → lookO s2.objs i = some p
  st : s.st = s2.st
theorem LeS.refl (s : St) : LeS s s := ⟨rfl, fun _ _ h => h, fun _ _ h => h, rfl⟩
theorem LeS.of {s s2 : St} (h1 : s.nt = s2.nt) (h2 : SubS s.slots s2.slots) (h3 : SubO s.objs s2.objs) (h4 : s.st = s2.st) : LeS s s2 := ⟨h1, fun _ _ h => h2.look h, fun _ _ h => h3.look h, h4⟩
theorem LeS.sim {s s' : St} (h : LeS s' s) {a : Act} {w : World} {g : Gh} (hs : Sim s a w g) : Sim s' a w g where
  nt := hs.nt.trans h.nt.symm
  defers := hs.defers
  slot := fun t x hx => hs.slot t x (h.slots t x hx)
  h := ⟨fun id sz es hl => hs.h.obj id sz es (h.objs id _ hl), hs.h.sep, hs.h.rdlt⟩
  st := h.st.trans hs.st
def lookF {Ω : Type} : List (Nat × (Ω → St)) → Nat → Option (Ω → St)
  | [], _ => none
  | p :: r, m => if p.1 = m then some p.2 else lookF r m
def EdgesP (P : Program) (all : Array Oper) {Ω : Type} (fam : List (Nat × (Ω → St))) (S : Ω → St) : List (Nat × Nat) → Prop
  | [] => True
  | p :: r => (match lookF fam p.1, all[p.2]? with
    | some S0, some o => ∀ ω, RunsL P all [o] (S0 ω) (fun s2 => ∃ ω', LeS (S ω') s2)
    | _, _ => False) ∧ EdgesP P all fam S r
def DagP (P : Program) (all : Array Oper) {Ω : Type} (K : St → Prop) : List (Nat × List (Nat × Nat)) → List (Nat × (Ω → St)) → Prop
  | [], [] => False
  | [], p :: _ => ∀ ω, K (p.2 ω)
  | p :: rest, fam => ∃ S : Ω → St, EdgesP P all fam S p.2 ∧ DagP P all K rest ((p.1, S) :: fam)
theorem DagP.step {P : Program} {all : Array Oper} {Ω : Type} {K : St → Prop} {D : Nat} {ps : List (Nat × Nat)} {rest : List (Nat × List (Nat × Nat))} {fam : List (Nat × (Ω → St))} {S : Ω → St}
    (h1 : EdgesP P all fam S ps) (h2 : DagP P all K rest ((D, S) :: fam)) : DagP P all K ((D, ps) :: rest) fam := ⟨S, h1, h2⟩
theorem DagP.done {P : Program} {all : Array Oper} {Ω : Type} {K : St → Prop} {D : Nat} {fam : List (Nat × (Ω → St))} {S : Ω → St} (h : ∀ ω, K (S ω)) : DagP P all K [] ((D, S) :: fam) := h
theorem EdgesP.cons {P : Program} {all : Array Oper} {Ω : Type} {fam : List (Nat × (Ω → St))} {S S0 : Ω → St} {m i : Nat} {r : List (Nat × Nat)} {o : Oper} (hl : lookF fam m = some S0) (ho : all.toList[i]? = some o)
    (h : ∀ ω, RunsL P all [o] (S0 ω) (fun s2 => ∃ ω', LeS (S ω') s2)) (hr : EdgesP P all fam S r) : EdgesP P all fam S ((m, i) :: r) := by
  refine ⟨?_, hr⟩
  rw [Array.getElem?_toList] at ho
  simp only [hl, ho]
  exact h
theorem EdgesP.nil {P : Program} {all : Array Oper} {Ω : Type} {fam : List (Nat × (Ω → St))} {S : Ω → St} : EdgesP P all fam S [] := trivial
def keysOk : List Nat → List (Nat × List (Nat × Nat)) → Bool
  | _, [] => true
  | ks, p :: r => !ks.contains p.1 && keysOk (p.1 :: ks) r
def lastK : Nat → List (Nat × List (Nat × Nat)) → Nat
  | k, [] => k
  | _, p :: r => lastK p.1 r
def readyB (all : Array Oper) (D i : Nat) : Bool := !D.testBit i && (predsOf all i).all fun j => D.testBit j
def dagChk (all : Array Oper) (list : List (Nat × List (Nat × Nat))) : Bool :=
  keysOk [0] list &&
  (0 :: list.map (·.1)).all fun D => ((List.range all.size).any (readyB all D) || D == lastK 0 list) &&
    (List.range all.size).all fun i => !readyB all D i || list.any fun p => p.1 == (D ||| 2 ^ i) && p.2.contains (D, i)
theorem EdgesP.mono {P : Program} {all : Array Oper} {Ω : Type} {fam fam' : List (Nat × (Ω → St))} {S : Ω → St} (hm : ∀ m S0, lookF fam m = some S0 → lookF fam' m = some S0) :
    ∀ {l : List (Nat × Nat)}, EdgesP P all fam S l → EdgesP P all fam' S l
  | [], _ => trivial
  | p :: r, h => by
    refine ⟨?_, EdgesP.mono hm h.2⟩
    have h1 := h.1
    cases hl : lookF fam p.1 with
    | none => rw [hl] at h1; exact h1.elim
    | some S0 => rw [hl] at h1; rw [hm _ _ hl]; exact h1
theorem EdgesP.get {P : Program} {all : Array Oper} {Ω : Type} {fam : List (Nat × (Ω → St))} {S S0 : Ω → St} {o : Oper} {m i : Nat} :
    ∀ {l : List (Nat × Nat)}, EdgesP P all fam S l → (m, i) ∈ l → lookF fam m = some S0 → all[i]? = some o → ∀ ω, RunsL P all [o] (S0 ω) (fun s2 => ∃ ω', LeS (S ω') s2)
  | [], _, hm, _, _ => by simp at hm
  | p :: r, h, hm, hl, ho => by
    rcases List.mem_cons.1 hm with e | hm
    · subst e
      have h1 := h.1
      simp only [hl, ho] at h1
      exact h1
    · exact EdgesP.get h.2 hm hl ho
theorem DagP.fam {P : Program} {all : Array Oper} {Ω : Type} {K : St → Prop} : ∀ (list : List (Nat × List (Nat × Nat))) (fam : List (Nat × (Ω → St))) (ks : List Nat) (k : Nat), DagP P all K list fam →
    keysOk ks list = true → (∀ m S, lookF fam m = some S → m ∈ ks) → (∃ p r, fam = p :: r ∧ p.1 = k) →
    ∃ fam' : List (Nat × (Ω → St)), (∀ m S, lookF fam m = some S → lookF fam' m = some S) ∧ (∀ p ∈ list, ∃ S, lookF fam' p.1 = some S ∧ EdgesP P all fam' S p.2) ∧
      ∃ S, lookF fam' (lastK k list) = some S ∧ ∀ ω, K (S ω)
  | [], fam, ks, k, h, hk, hin, ⟨p, r, hf, hp⟩ => by
    subst hf
    refine ⟨p :: r, fun _ _ h => h, fun q hq => by simp at hq, p.2, ?_, h⟩
    simp only [lastK, lookF, hp, if_true]
  | q :: rest, fam, ks, k, h, hk, hin, _ => by
    obtain ⟨S, h1, h2⟩ := h
    simp only [keysOk, Bool.and_eq_true, Bool.not_eq_true'] at hk
    have hnew : ∀ m S0, lookF fam m = some S0 → lookF ((q.1, S) :: fam) m = some S0 := by
      intro m S0 hl
      have hm := hin m S0 hl
      simp only [lookF]
      rw [if_neg]
      · exact hl
      · intro e
        have : ks.contains q.1 = true := by rw [e]; exact List.contains_iff_mem.2 hm
        rw [this] at hk; cases hk.1
    obtain ⟨fam', k1, k2, k3⟩ := DagP.fam rest ((q.1, S) :: fam) (q.1 :: ks) q.1 h2 hk.2 (fun m S0 hl => by
      simp only [lookF] at hl
      split at hl
      · rename_i e; rw [← e]; exact List.mem_cons_self
      · exact List.mem_cons_of_mem _ (hin m S0 hl)) ⟨_, _, rfl, rfl⟩
    refine ⟨fam', fun m S0 hl => k1 m S0 (hnew m S0 hl), ?_, k3⟩
    intro p hp
    rcases List.mem_cons.1 hp with e | hp
    · subst e
      exact ⟨S, k1 _ _ (by simp [lookF]), h1.mono fun m S0 hl => k1 m S0 (hnew m S0 hl)⟩
    · exact k2 p hp
theorem wp_swap {P : Program} {o : Oper} {a : Act} {w : World} {K : Act → World → Prop} {Q Q' : Exit → Act → World → Prop} (h : ∀ c a w, Q' (.panic c) a w → Q (.panic c) a w) (hl : LetsOut Q' → LetsOut Q)
    (hh : o.wp P a w K Q') : o.wp P a w K Q := by
  unfold Oper.wp at *
  generalize (execOp a.eval o).run P w = r at *
  cases r with
  | ok n w' =>
    cases n <;> simp only [Oper.upon] at hh ⊢ <;>
      first
        | exact hh
        | exact Calls.mono hh (fun e w'' he => by cases e <;> first | exact he | exact h _ _ _ he | exact hl he)
  | halt x w' => cases x <;> simp only [Oper.upon] at hh ⊢ <;> first | exact h _ _ _ hh | exact hh
theorem RunsA.dag {P : Program} (hm : P.follows .mixedOrders = true) {id : Nat} {all : Array Oper} {s : St} {Q : AE → St → Prop} {Ω : Type} (ω0 : Ω) (list : List (Nat × List (Nat × Nat))) (hc : dagChk all list = true)
    (h : DagP P all (fun s2 => At .normal s2 Q) list [(0, fun _ : Ω => s)]) : RunsA P (.region id all true) s Q := by
  intro a w g hs
  refine wp_region_any hm ?_
  simp only [dagChk, Bool.and_eq_true] at hc
  obtain ⟨hc1, hc2⟩ := hc
  obtain ⟨fam, hbase, hedge, Sf, hf, hK⟩ := DagP.fam list [(0, fun _ : Ω => s)] [0] 0 h hc1 (fun m S hl => by
    simp only [lookF] at hl
    split at hl
    · rename_i e; rw [← e]; exact List.mem_cons_self
    · cases hl) ⟨_, _, rfl, rfl⟩
  have main : ∀ (f D : Nat) (listed : Array Bool) (S : Ω → St) (ω : Ω) (a' : Act) (w' : World) (g' : Gh), listed.size = all.size → nOff listed = f → (∀ j, listed.getD j false = D.testBit j) → D ∈ 0 :: list.map (·.1) →
      lookF fam D = some S → Sim (S ω) a' w' g' → Keep g w g' w' →
      wpAny P .any all (fun e a' w' => ∃ ae s' g', e = ae.up ∧ Q ae s' ∧ Sim s' a' w' g' ∧ Keep g w g' w') f listed a' w' := by
    intro f
    induction f with
    | zero =>
      intro D listed S ω a' w' g' hsz hn hb hD hl hs' hk'
      have hall : ∀ i, i < all.size → listed.getD i true = true := fun i hi => by
        have hmem : listed[i] ∈ listed.toList := by simp
        have := List.countP_eq_zero.1 hn _ hmem
        simp only [Array.getD_eq_getD_getElem?, Array.getElem?_eq_getElem (show i < listed.size by omega), Option.getD_some]
        simpa using this
      have hbit : ∀ i, i < all.size → D.testBit i = true := fun i hi => by
        rw [← hb i]
        have := hall i hi
        simp only [Array.getD_eq_getD_getElem?, Array.getElem?_eq_getElem (show i < listed.size by omega), Option.getD_some] at this ⊢
        exact this
      refine ⟨?_, ?_⟩
      · rw [List.eq_nil_iff_forall_not_mem]
        intro i hi
        obtain ⟨o, h1, h2, h3, _⟩ := ready_spec hi
        rw [hall i h2] at h3; cases h3
      · have hd := List.all_eq_true.1 hc2 D hD
        rw [Bool.and_eq_true, Bool.or_eq_true] at hd
        rcases hd.1 with h1 | h1
        · exfalso
          obtain ⟨i, hi, h2⟩ := List.any_eq_true.1 h1
          rw [List.mem_range] at hi
          simp only [readyB, hbit i hi] at h2
          cases h2
        · rw [beq_iff_eq] at h1
          subst h1
          rw [hf] at hl
          obtain rfl := Option.some.inj hl
          exact ⟨.normal, _, g', rfl, (hK ω).out, hs', hk'⟩
    | succ f ih =>
      intro D listed S ω a' w' g' hsz hn hb hD hl hs' hk'
      have hd := List.all_eq_true.1 hc2 D hD
      rw [Bool.and_eq_true, Bool.or_eq_true] at hd
      have hgt : ∀ j, j < all.size → listed.getD j true = listed.getD j false := fun j hj => by
        simp only [Array.getD_eq_getD_getElem?, Array.getElem?_eq_getElem (show j < listed.size by omega), Option.getD_some]
      refine ⟨?_, ?_⟩
      · intro hnil
        rcases hd.1 with h1 | h1
        · exfalso
          obtain ⟨i, hi, h2⟩ := List.any_eq_true.1 h1
          rw [List.mem_range] at hi
          simp only [readyB, Bool.and_eq_true, Bool.not_eq_true'] at h2
          have : i ∈ Region.ready .any all listed := mem_ready hi (by rw [hgt i hi, hb i]; exact h2.1) (fun j hj => by rw [hb j]; exact List.all_eq_true.1 h2.2 j hj)
          rw [hnil] at this
          cases this
        · rw [beq_iff_eq] at h1
          subst h1
          rw [hf] at hl
          obtain rfl := Option.some.inj hl
          exact ⟨.normal, _, g', rfl, (hK ω).out, hs', hk'⟩
      · intro i hi
        obtain ⟨o, ho, hlt, hoff, hpre⟩ := ready_spec hi
        have hr : readyB all D i = true := by
          simp only [readyB, Bool.and_eq_true, Bool.not_eq_true']
          refine ⟨by rw [← hb i, ← hgt i hlt]; exact hoff, List.all_eq_true.2 fun j hj => ?_⟩
          rw [← hb j]; exact hpre j hj
        have h3 := List.all_eq_true.1 hd.2 i (List.mem_range.2 hlt)
        rw [hr] at h3
        simp only [Bool.not_true, Bool.false_or] at h3
        obtain ⟨p, hp, h4⟩ := List.any_eq_true.1 h3
        rw [Bool.and_eq_true, beq_iff_eq] at h4
        obtain ⟨S', hl', hE⟩ := hedge p hp
        have hrun := hE.get (List.contains_iff_mem.1 h4.2) hl ho ω
        have hops := hrun a' w' g' hs' (fun e a2 w2 => match e with
          | .normal => wpAny P .any all (fun e a' w' => ∃ ae s' g', e = ae.up ∧ Q ae s' ∧ Sim s' a' w' g' ∧ Keep g w g' w') f (listed.setIfInBounds i true) a2 w2
          | e => ∃ ae s' g', e = ae.up ∧ Q ae s' ∧ Sim s' a2 w2 g' ∧ Keep g w g' w2) (fun a2 w2 g2 s2 q1 q2 ⟨ω', hle⟩ => by
            refine ih (D ||| 2 ^ i) (listed.setIfInBounds i true) S' ω' a2 w2 g2 (by simp [hsz]) (by have := nOff_set (by omega) hoff; omega) ?_ ?_ ?_ (hle.sim q1) (hk'.trans q2)
            · intro j
              rw [Nat.testBit_or, Nat.testBit_two_pow, ← hb j]
              by_cases hji : i = j
              · subst hji
                simp [Array.getD_eq_getD_getElem?, show i < listed.size by omega]
              · simp [Array.getD_eq_getD_getElem?, Array.getElem?_setIfInBounds_ne hji, hji]
            · rw [← h4.1]; exact List.mem_cons_of_mem _ (List.mem_map.2 ⟨p, hp, rfl⟩)
            · rw [← h4.1]; exact hl') [i] (by simp [ho])
        rw [wpOps_cons] at hops
        unfold wpOp at hops ⊢
        simp only [ho] at hops ⊢
        split at hops
        · rename_i hw
          rw [if_pos hw]
          rcases hops with h5 | h5
          · exact .inl (wp_swap (fun c a w h => h) (fun ⟨a, w, h⟩ => ⟨a, w, h⟩) h5)
          · exact .inr ⟨h5.1, by obtain ⟨a, w, h6⟩ := h5.2; exact ⟨a, w, h6⟩⟩
        · rename_i hw
          rw [if_neg hw]
          exact hops
  refine main all.size 0 (Array.replicate all.size false) _ ω0 a _ g (by simp) (by rw [nOff_replicate]) ?_ List.mem_cons_self (hbase 0 (fun _ => s) (by simp [lookF])) (hs.drawn (w.drawn + 1)) (Keep.drawn g w (w.drawn + 1))
  intro j
  by_cases hj : j < all.size
  · simp [Array.getD_eq_getD_getElem?, hj]
  · simp [Array.getD_eq_getD_getElem?, hj]
end Go.Proofs.YtgjeemfggfhibaaGreatDoorFw
/- Ways that meet in one of a family of states. -/
namespace Go.Proofs.YtgjeemfggfhibaaGreatDoorFw
open Go Go.RowKit
set_option linter.unusedVariables false
end Go.Proofs.YtgjeemfggfhibaaGreatDoorFw
/- Regions whose order is drawn: first what is quiet, then what is behind it all, by the sets of what is listed. -/
namespace Go.Proofs.YtgjeemfggfhibaaGreatDoorFw
open Go Go.RowKit
set_option linter.unusedVariables false
end Go.Proofs.YtgjeemfggfhibaaGreatDoorFw
/- What is read-only for ever may be lent. -/
namespace Go.Proofs.YtgjeemfggfhibaaGreatDoorFw
open Go Go.RowKit
set_option linter.unusedVariables false
theorem Val.brwV {g : Gh} {w : World} {x : AV} {v : Value} (h : Val g w x v) : Val g w (brw x) v := by
  induction h with
  | cell x v h => exact .cell _ _ (h.toBrw ⟨fun b hb => ⟨hb, rfl⟩, fun b hb => ⟨.inr hb, rfl⟩⟩ (fun id q e => by cases e))
  | nilS => exact .nilS
  | nilP => exact .nilP
  | agg cs vs hl h ih =>
    simp only [brw, brwL_eq]
    refine .agg _ _ (by simpa using hl) ?_
    intro k c u hc hu
    obtain ⟨c0, h0, rfl⟩ := get_map hc
    exact ih k c0 u h0 hu
  | tup cs vs hl h _ => exact .tup cs vs hl h
  | fn f cs vs hl h _ => exact .fn f cs vs hl h
  | hd id q b c n hl => exact .hd id q b c n hl
  | hdNil id q hl => exact .hdNil id q hl
  | ref id q sz off n b cap len c a hl hc hn ha => exact .ref id q sz off n b cap len c a hl hc hn ha
  | refNil id q sz hl => exact .refNil id q sz hl
  | ptr id q sz i k b cap len hl => exact .ptr id q sz i k b cap len hl
  | rp m cs a us hm hs hc ht => exact .rp m cs a us hm hs hc ht
  | vp cs a us hm hs hc ht _ => exact .vp cs a us hm hs hc ht
  | dead v => exact .dead v
theorem FnA.ro {P : Program} {f : FuncId} {st : Bool} {xs : List AV} {os : List (Nat × List AV)} {R : AV → List (Nat × List AV) → List (Nat × List AV) → Prop} (h : FnA P f st (brwL xs) os R) : FnA P f st xs os R :=
  ⟨h.ok, fun vs w g h0 h1 h2 h3 h4 h5 => h.calls vs w g h0 (by rw [h1, brwL_eq]; simp) (fun k x u hx hu => by
    rw [brwL_eq] at hx
    obtain ⟨x0, h6, rfl⟩ := get_map hx
    exact (h2 k x0 u h6 hu).brwV) h3 h4 h5⟩
end Go.Proofs.YtgjeemfggfhibaaGreatDoorFw
/- Returns of what is read-only from now on. -/
namespace Go.Proofs.YtgjeemfggfhibaaGreatDoorFw
open Go Go.RowKit
set_option linter.unusedVariables false
end Go.Proofs.YtgjeemfggfhibaaGreatDoorFw
/- Structs of numbers, texts and bools: alike with themselves. -/
namespace Go.Proofs.YtgjeemfggfhibaaGreatDoorFw
open Go Go.RowKit
set_option linter.unusedVariables false
set_option linter.unusedSimpArgs false
end Go.Proofs.YtgjeemfggfhibaaGreatDoorFw
/- A slice of an array: of an object that is read-only from then on. -/
namespace Go.Proofs.YtgjeemfggfhibaaGreatDoorFw
open Go Go.RowKit
set_option linter.unusedVariables false
set_option linter.unusedSimpArgs false
theorem RunsL.sliceArr {P : Program} {T : Tab} (hT : TabOk P T) {all : Array Oper} {o : Oper} {os : List Oper} {s : St} {K : St → Prop} {t : TypeId} {X Lo : Operand} {id n : Nat} {ei : TI} {es : List AV} {k : IntKind} {m : Int}
    (hw : wantA all s o = some true) (hop : o.op = .slice t X (some Lo) none none) (ha : arrOf T t = some (n, ei)) (he1 : ei.sz = 1) (hx : s.ev X = some (.ptr id [] 1 0 0)) (hn : lookO s.objs id = some (1, es)) (hel : es.length = n) (hfz : frzL es = es) (hnb : noBoL es = true)
    (hlo : s.ev Lo = some (.int k m)) (h0 : 0 ≤ m) (h1 : m ≤ n) (hfit : s.fits o.dst = true)
    (h : RunsL P all os (({ s with slots := frzS id 1 es s.slots, objs := dropO s.objs id } : St).put o.dst (.row .ro 1 (es.drop m.toNat))) K) : RunsL P all (o :: os) s K := by
  refine RunsL.step hw ?_ h
  intro a w g hs
  have hs1 : Sim { s with slots := frzS id 1 es s.slots, objs := dropO s.objs id } a w (gFrz g id) := by
    refine ⟨hs.nt, hs.defers, ?_, hs.h.freeze id, hs.st⟩
    intro t y hy
    rw [lookS_frzS] at hy
    obtain ⟨z, hz, rfl⟩ := Option.map_eq_some_iff.1 hy
    obtain ⟨v', hv', hval⟩ := hs.slot t z hz
    exact ⟨v', hv', hval.freeze hs hn hnb⟩
  have hfit1 : ({ s with slots := frzS id 1 es s.slots, objs := dropO s.objs id } : St).fits o.dst = true := hfit
  obtain ⟨v', hnode⟩ := hs.h.obj id 1 es hn
  have hpx := hs.ev hx
  have hlv := (hs.ev hlo).int_inv
  obtain ⟨e, hu, hek⟩ := arrOf_ok hT ha
  -- the head of the object, as a value
  have hptr : ∃ b c, g.loc id [] = some (b, c, es.length) ∧ a.eval X = .pointer (some ⟨b, 0, none⟩) ∧ es.length ≤ c := by
    generalize a.eval X = u at hpx
    cases hpx with
    | cell _ _ h => cases h
    | ptr _ _ _ _ _ b cap len hl =>
      generalize hpl : Pl.at id [] = pl at hnode
      generalize hr : AV.row .own 1 es = rw0 at hnode
      cases hnode with
      | ownNil id' q' sz' hl' =>
        obtain ⟨rfl, rfl⟩ := Pl.at.inj hpl
        rw [hl] at hl'; cases hl'
      | own id' q' sz' es' b' c' cur e' us' hl' ho' hb' hn' =>
        obtain ⟨rfl, rfl⟩ := Pl.at.inj hpl
        obtain ⟨_, rfl, rfl⟩ := AV.row.inj hr
        rw [hl] at hl'
        simp only [Option.some.injEq, Prod.mk.injEq] at hl'
        obtain ⟨rfl, rfl, rfl⟩ := hl'
        exact ⟨b, cap, hl, by simp, hn'⟩
      | rd _ m' _ _ _ _ _ _ hm' => cases hr; exact hm'.elim
      | emp _ m' _ _ _ hm' => cases hr; exact absurd rfl hm'
      | _ => cases hr
  obtain ⟨b, c, hl, hX, hc⟩ := hptr
  have hhd := (Val.hd id [] b c es.length hl).freeze hs hn hnb (w := w)
  simp only [frzV, if_true, navG, hfz] at hhd
  refine ⟨.value (.slice (some (if n = m.toNat then (⟨b, 0, none⟩ : Addr) else (⟨b, 0, none⟩ : Addr).add (m.toNat * ei.sz))) (n - m.toNat) (n - m.toNat)), _, w, gFrz g id, ?_, .inl ⟨_, rfl, rfl⟩, hs1.put hfit1 ?_, gFrz_keep⟩
  · have hb := run_sliceBounds' (P := P) (w := w) false (len := n) (cap := n) (lo := some (k, m)) (hi := none) (by simpa [bnd0] using h0) (by simpa [bnd0] using h1) (by simp [bnd0]) (Nat.le_refl _)
    unfold execOp
    simp only [hop, hX, hlv, Option.map_some, Option.map_none]
    simp only [bndV, bnd0, Option.map_some, Option.map_none] at hb
    simp [Instr.sliceAt, run_underlying hu, Instr.sureAddr, hb, run_sizeOf' hek]
  · have hl2 : m.toNat ≤ es.length := by omega
    have hlen : (es.drop m.toNat).length = n - m.toNat := by rw [List.length_drop, hel]
    by_cases he : n = m.toNat
    · have e0 : es.drop m.toNat = [] := List.drop_eq_nil_of_le (by omega)
      rw [e0, if_pos he, show n - m.toNat = 0 by omega]
      exact .cell _ _ (.emp _ _ _ _ _ (by simp))
    · rw [if_neg he]
      rcases hhd.row_inv with ⟨ad, cp, hv1, hv2, _⟩ | ⟨ad, cp, us, hv1, hm, hsp, hl3, hw3, hcc, ht⟩
      · rw [hv2] at hel; simp at hel; omega
      · simp only [Value.slice.injEq, Option.some.injEq] at hv1
        obtain ⟨rfl, _, rfl⟩ := hv1
        have hget : ∀ (i : Nat) (x : AV), (es.drop m.toNat)[i]? = some x → es[m.toNat + i]? = some x := by
          intro i x hx; rwa [List.getElem?_drop] at hx
        have hadd : ∀ i k : Nat, (m.toNat + i) * 1 + k = m.toNat * ei.sz + (i * 1 + k) := by
          intro i k; rw [he1]; omega
        have key := Cell.rd (g := gFrz g id) (w := w) .bo .ro 1 (es.drop m.toNat) ((⟨b, 0, none⟩ : Addr).add (m.toNat * ei.sz)) (n - m.toNat) (fun j => us (m.toNat * ei.sz + j)) (by simp) (by rw [add_block]; exact hm) (add_spot _ hsp _) (by rw [hlen]; exact Nat.le_refl _)
          (fun i x hx => hw3 _ x (hget i x hx))
          (fun i k x y hx hy => by rw [add_add _ hsp, ← hadd]; exact hcc _ k x y (hget i x hx) hy)
          (fun i k x y hx hy => by have := ht _ k x y (hget i x hx) hy; rw [hadd] at this; exact this)
        rw [hlen] at key
        exact .cell _ _ key
end Go.Proofs.YtgjeemfggfhibaaGreatDoorFw
/- A place in one of the program's tables. -/
namespace Go.Proofs.YtgjeemfggfhibaaGreatDoorFw
open Go Go.RowKit
set_option linter.unusedVariables false
set_option linter.unusedSimpArgs false
theorem RunsL.tabAddr {P : Program} {T : Tab} (hT : TabOk P T) {all : Array Oper} {o : Oper} {os : List Oper} {s : St} {K : St → Prop} {t : TypeId} {I : Operand} {b n : Nat} {ei : TI} {c : Array Value} {k kk : IntKind} {m v : Int}
    (hw : wantA all s o = some true) (hop : o.op = .indexAddr t (.global b) I) (ha : arrOf T t = some (n, ei)) (he1 : ei.sz = 1) (hb : lbTab b = some c)
    (hi : s.ev I = some (.int k m)) (h0 : 0 ≤ m) (h1 : m < n) (hv : c[m.toNat]? = some (.int kk v)) (hfit : s.fits o.dst = true)
    (h : RunsL P all os (s.put o.dst (.rp .ro [.int kk v])) K) : RunsL P all (o :: os) s K := by
  refine RunsL.step hw (StepOk.pure hfit ?_) h
  intro a w g hs
  obtain ⟨hp, e, hh⟩ := hs.h.rdlt.gl b c hb
  have hiv := (hs.ev hi).int_inv
  obtain ⟨et, hu, hek⟩ := arrOf_ok hT ha
  have hg : a.eval (.global b) = .pointer (some ⟨b, 0, none⟩) := by simp [Act.eval]
  refine ⟨.pointer (some ((⟨b, 0, none⟩ : Addr).add (m.toNat * ei.sz))), ?_, ?_⟩
  · unfold execOp
    simp only [hop, hg, hiv]
    simp [Instr.indexAt, run_underlying hu, Instr.sureAddr, asIntOf, h0, h1, run_sizeOf' hek]
  · rw [he1, Nat.mul_one]
    refine .rp .ro [.int kk v] _ (fun _ => .int kk v) (by rw [add_block]; exact hp) (add_spot _ rfl _) ?_ ?_
    · intro j y hy
      cases j with
      | zero =>
        have e1 : ((⟨b, 0, none⟩ : Addr).add m.toNat).add 0 = (⟨b, 0, none⟩ : Addr).add m.toNat := by rw [add_add _ rfl]; rfl
        rw [e1]
        have := cell?_own (w := w) (b := b) (o := m.toNat) hh hv
        exact this
      | succ j => simp at hy
    · intro j y hy
      cases j with
      | zero =>
        simp only [List.getElem?_cons_zero, Option.some.injEq] at hy
        subst hy
        exact .int _ _ _
      | succ j => simp at hy
end Go.Proofs.YtgjeemfggfhibaaGreatDoorFw
