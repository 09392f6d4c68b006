/- Regions whose order is drawn: whatever the order, the same. -/
import Derived.Test.YtkhobcmkbldmiaaFw30
namespace Go.Proofs.YtkhobcmkbldmiaaFw
open Go Go.RowKit
set_option linter.unusedVariables false

theorem Sim.drawn {s : St} {a : Act} {w : World} {g : Gh} (h : Sim s a w g) (n : Nat) : Sim s a { w with drawn := n } g := by
  have hr : RdKeep g w g { w with drawn := n } := ⟨fun b hb => ⟨hb, rfl⟩, fun b hb => ⟨.inr hb, rfl⟩⟩
  exact h.turnSame hr (fun _ _ => rfl) (objs := s.objs) ⟨fun id sz es hl => let ⟨v, hv⟩ := h.h.obj id sz es hl; ⟨v, hv.stay hr (fun b r hb => ⟨rfl, hb⟩) (fun _ => rfl)⟩, h.h.sep, h.h.rdlt⟩

theorem Keep.drawn (g : Gh) (w : World) (n : Nat) : Keep g w g { w with drawn := n } :=
  ⟨rfl, rfl, rfl, Nat.le_refl _, fun _ _ h => ⟨rfl, h⟩, fun _ h => h, fun _ _ h => .inl h, fun _ => Iff.rfl, fun _ _ _ _ => rfl, rfl⟩

theorem Sim.congr {s s' : St} {a : Act} {w : World} {g : Gh} (h : Sim s a w g) (h1 : s'.nt = s.nt) (h2 : ∀ t, lookS s'.slots t = lookS s.slots t) (h3 : s'.objs = s.objs) (h4 : s'.st = s.st) : Sim s' a w g where
  nt := h.nt.trans h1.symm
  defers := h.defers
  slot := fun t x hx => h.slot t x (by rw [← h2]; exact hx)
  h := by rw [h3]; exact h.h
  st := h4.trans h.st

theorem put_look (s : St) (d : Option Nat) (y : AV) (t : Nat) : lookS (s.put d y).slots t = if d = some t then some y else lookS s.slots t := by
  cases d with
  | none => simp [St.put]
  | some d =>
    simp only [St.put, lookS_putS, Option.some.injEq]

theorem put_nt (s : St) (d : Option Nat) (y : AV) : (s.put d y).nt = s.nt := by cases d <;> rfl
theorem put_objs (s : St) (d : Option Nat) (y : AV) : (s.put d y).objs = s.objs := by cases d <;> rfl
theorem put_st (s : St) (d : Option Nat) (y : AV) : (s.put d y).st = s.st := by cases d <;> rfl

/-- What the runs in the text's order tell of each operation and of the end. -/
theorem QRuns.tell {P : Program} {all : Array Oper} {K : St → Prop} : ∀ {os : List Oper} {s : St}, QRuns P all os s K →
    ∃ e : St, K e ∧ e.nt = s.nt ∧ e.objs = s.objs ∧ e.st = s.st ∧ (∀ t, (∀ (j : Nat) (o : Oper), os[j]? = some o → o.dst ≠ some t) → lookS e.slots t = lookS s.slots t) ∧
      ∀ (i : Nat) (o : Oper), os[i]? = some o → ∃ (si : St) (y : AV), QStep P all o si y ∧ si.nt = s.nt ∧ si.objs = s.objs ∧ si.st = s.st ∧
        (∀ t, (∀ (j : Nat) (o' : Oper), i ≤ j → os[j]? = some o' → o'.dst ≠ some t) → lookS e.slots t = lookS si.slots t) ∧
        (∀ d, o.dst = some d → (∀ (j : Nat) (o' : Oper), i < j → os[j]? = some o' → o'.dst ≠ some d) → lookS e.slots d = some y)
  | [], s, h => ⟨s, h, rfl, rfl, rfl, fun _ _ => rfl, fun i o hi => by simp at hi⟩
  | o0 :: os, s, h => by
    obtain ⟨y, hq, hr⟩ := h
    obtain ⟨e, h1, h2, h3, h4, h5, h6⟩ := QRuns.tell hr
    rw [put_nt] at h2
    rw [put_objs] at h3
    rw [put_st] at h4
    refine ⟨e, h1, h2, h3, h4, ?_, ?_⟩
    · intro t ht
      rw [h5 t (fun j o hj => ht (j + 1) o (by simpa using hj)), put_look, if_neg (ht 0 o0 rfl)]
    · intro i o hi
      cases i with
      | zero =>
        simp at hi; subst hi
        refine ⟨s, y, hq, rfl, rfl, rfl, ?_, ?_⟩
        · intro t ht
          rw [h5 t (fun j o hj => ht (j + 1) o (Nat.zero_le _) (by simpa using hj)), put_look, if_neg (ht 0 o0 (Nat.le_refl _) rfl)]
        · intro d hd ht
          rw [h5 d (fun j o hj => ht (j + 1) o (Nat.zero_lt_succ _) (by simpa using hj)), put_look, if_pos hd]
      | succ i =>
        obtain ⟨si, y', k1, k2, k3, k4, k5, k6⟩ := h6 i o (by simpa using hi)
        rw [put_nt] at k2
        rw [put_objs] at k3
        rw [put_st] at k4
        refine ⟨si, y', k1, k2, k3, k4, ?_, ?_⟩
        · intro t ht
          exact k5 t (fun j o' hj ho => ht (j + 1) o' (by omega) (by simpa using ho))
        · intro d hd ht
          exact k6 d hd (fun j o' hj ho => ht (j + 1) o' (by omega) (by simpa using ho))

/-- Nothing else is read than what comes before by an edge; each slot is written once. -/
def drawOk (all : Array Oper) : Bool :=
  (List.range all.size).all fun i =>
    match all[i]? with
    | none => true
    | some o =>
      (o.after.all fun e => !Region.binds .any e || decide (e.on < i)) &&
      (List.range all.size).all fun j =>
        match (all[j]?).bind (·.dst) with
        | none => true
        | some d =>
          (decide (j = i) || o.dst != some d) &&
          (!(o.looksAt all).contains d || (decide (j < i) && o.after.any fun e => Region.binds .any e && e.on == j))

theorem drawOk_spec {all : Array Oper} (h : drawOk all = true) {i : Nat} {o : Oper} (hi : all[i]? = some o) :
    (∀ e ∈ o.after, Region.binds .any e = true → e.on < i) ∧
    (∀ j o' d, all[j]? = some o' → o'.dst = some d → (j = i ∨ o.dst ≠ some d) ∧ (d ∈ o.looksAt all → j < i ∧ ∃ e ∈ o.after, Region.binds .any e = true ∧ e.on = j)) := by
  have hlt : i < all.size := by
    rcases Nat.lt_or_ge i all.size with h' | h'
    · exact h'
    · simp [Array.getElem?_eq_none h'] at hi
  unfold drawOk at h
  rw [List.all_eq_true] at h
  have h1 := h i (List.mem_range.2 hlt)
  simp only [hi, Bool.and_eq_true] at h1
  refine ⟨?_, ?_⟩
  · intro e he hb
    have := h1.1
    rw [Array.all_eq_true'] at this
    have := this e he
    simpa [hb] using this
  · intro j o' d hj hd
    have hjlt : j < all.size := by
      rcases Nat.lt_or_ge j all.size with h' | h'
      · exact h'
      · simp [Array.getElem?_eq_none h'] at hj
    have h2 := (List.all_eq_true.1 h1.2) j (List.mem_range.2 hjlt)
    simp only [hj, Option.bind_some, hd, Bool.and_eq_true, Bool.or_eq_true, decide_eq_true_eq, bne_iff_ne] at h2
    refine ⟨h2.1, ?_⟩
    intro hm
    rcases h2.2 with h3 | h3
    · rw [show (o.looksAt all).contains d = true from List.contains_iff_mem.2 hm] at h3; simp at h3
    · rw [Array.any_eq_true'] at h3
      obtain ⟨h4, e, he, h5⟩ := h3
      rw [Bool.and_eq_true] at h5
      exact ⟨h4, e, he, h5.1, by simpa using h5.2⟩

def nOff (l : Array Bool) : Nat := l.toList.countP (! ·)

theorem nOff_set {l : Array Bool} {i : Nat} (hi : i < l.size) (hf : l.getD i true = false) : nOff (l.setIfInBounds i true) + 1 = nOff l := by
  have hg : l.toList[i]? = some false := by
    simp only [Array.getElem?_toList]
    rw [Array.getElem?_eq_getElem hi]
    simp only [Array.getD_eq_getD_getElem?, Array.getElem?_eq_getElem hi, Option.getD_some] at hf
    rw [hf]
  unfold nOff
  rw [Array.toList_setIfInBounds]
  have key : ∀ (m : List Bool) (i : Nat), m[i]? = some false → (m.set i true).countP (! ·) + 1 = m.countP (! ·) := by
    intro m
    induction m with
    | nil => intro i h; simp at h
    | cons b m ih =>
      intro i h
      cases i with
      | zero => simp at h; subst h; simp
      | succ i =>
        have := ih i (by simpa using h)
        simp only [List.set_cons_succ, List.countP_cons]
        omega
  exact key _ _ hg

theorem nOff_zero {l : Array Bool} (h : nOff l = 0) {i : Nat} (hi : i < l.size) : l.getD i true = true := by
  unfold nOff at h
  rw [List.countP_eq_zero] at h
  have := h l[i] (by simp)
  simp only [Array.getD_eq_getD_getElem?, Array.getElem?_eq_getElem hi, Option.getD_some]
  simpa using this

theorem least {p : Nat → Prop} [DecidablePred p] : ∀ {n : Nat}, p n → ∃ m, p m ∧ ∀ j, j < m → ¬ p j := by
  intro n
  induction n using Nat.strongRecOn with
  | _ n ih =>
    intro hn
    by_cases h : ∃ j, j < n ∧ p j
    · obtain ⟨j, hj, hp⟩ := h; exact ih j hj hp
    · exact ⟨n, hn, fun j hj hp => h ⟨j, hj, hp⟩⟩

/-- The D-state: like the end e, but for slots of what is not yet carried out. -/
structure Upto (all : Array Oper) (listed : Array Bool) (e s : St) : Prop where
  nt : s.nt = e.nt
  objs : s.objs = e.objs
  st : s.st = e.st
  look : ∀ t, (∀ (j : Nat) (o : Oper), all[j]? = some o → o.dst = some t → listed.getD j true = true) → lookS s.slots t = lookS e.slots t

theorem draw_any {P : Program} {all : Array Oper} {e : St} {Q : Exit → Act → World → Prop} {w0 : World} {g0 : Gh} (hok : drawOk all = true)
    (hst : ∀ (i : Nat) (o : Oper), all[i]? = some o → ∃ (si : St) (y : AV), QStep P all o si y ∧ si.nt = e.nt ∧ si.objs = e.objs ∧ si.st = e.st ∧
        (∀ t, (∀ (j : Nat) (o' : Oper), i ≤ j → all[j]? = some o' → o'.dst ≠ some t) → lookS e.slots t = lookS si.slots t) ∧
        (∀ d, o.dst = some d → (∀ (j : Nat) (o' : Oper), i < j → all[j]? = some o' → o'.dst ≠ some d) → lookS e.slots d = some y))
    (hQ : ∀ a' w' g', Sim e a' w' g' → Keep g0 w0 g' w' → Q .normal a' w') :
    ∀ (fuel : Nat) (listed : Array Bool) (s : St) (a : Act) (w : World) (g : Gh), listed.size = all.size → nOff listed = fuel → Sim s a w g → Keep g0 w0 g w → Upto all listed e s →
      wpAny P .any all Q fuel listed a w := by
  intro fuel
  have hready : ∀ (listed : Array Bool) (i : Nat), i ∈ Region.ready .any all listed → ∃ o, all[i]? = some o ∧ i < all.size ∧ listed.getD i true = false ∧ ∀ e ∈ o.after, Region.binds .any e = true → listed.getD e.on false = true := by
    intro listed i hi
    simp only [Region.ready, List.mem_filter, List.mem_range, Bool.and_eq_true, Bool.not_eq_true'] at hi
    obtain ⟨h1, h2, h3⟩ := hi
    cases ho : all[i]? with
    | none => simp [ho] at h3
    | some o =>
      refine ⟨o, rfl, h1, h2, ?_⟩
      rw [ho] at h3
      simp only [Option.map_some, Option.getD_some] at h3
      rw [Array.all_eq_true'] at h3
      intro e he hb
      have := h3 e he
      simpa [hb] using this
  have hend : ∀ (listed : Array Bool) (s : St) (a : Act) (w : World) (g : Gh), listed.size = all.size → nOff listed = 0 → Sim s a w g → Keep g0 w0 g w → Upto all listed e s → Region.ready .any all listed = [] ∧ Q .normal a w := by
    intro listed s a w g hsz hn hs hk hu
    refine ⟨?_, ?_⟩
    · rw [List.eq_nil_iff_forall_not_mem]
      intro i hi
      obtain ⟨o, h1, h2, h3, _⟩ := hready listed i hi
      rw [nOff_zero hn (by omega)] at h3
      simp at h3
    · refine hQ a w g (hs.congr hu.nt.symm ?_ hu.objs.symm hu.st.symm) hk
      intro t
      exact (hu.look t (fun j o hj _ => by
        rcases Nat.lt_or_ge j all.size with h | h
        · exact nOff_zero hn (by omega)
        · simp [Array.getElem?_eq_none h] at hj)).symm
  induction fuel with
  | zero => intro listed s a w g hsz hn hs hk hu; exact hend listed s a w g hsz hn hs hk hu
  | succ fuel ih =>
    intro listed s a w g hsz hn hs hk hu
    refine ⟨?_, ?_⟩
    · intro hnil
      exfalso
      -- the least that is not listed is ready
      have hex : ∃ i, i < all.size ∧ listed.getD i true = false := by
        by_cases h : ∃ i, i < all.size ∧ listed.getD i true = false
        · exact h
        · exfalso
          have : nOff listed = 0 := by
            unfold nOff
            rw [List.countP_eq_zero]
            intro b hb
            obtain ⟨i, hi⟩ := List.mem_iff_getElem?.1 hb
            simp only [Array.getElem?_toList] at hi
            have hlt : i < listed.size := by
              rcases Nat.lt_or_ge i listed.size with h' | h'
              · exact h'
              · simp [Array.getElem?_eq_none h'] at hi
            have h2 : listed.getD i true ≠ false := fun hc => h ⟨i, by omega, hc⟩
            simp only [Array.getD_eq_getD_getElem?, hi, Option.getD_some] at h2
            cases b <;> simp at h2 ⊢
          omega
      obtain ⟨i0, hi0⟩ := hex
      obtain ⟨m, ⟨hm1, hm2⟩, hm3⟩ := least (p := fun i => i < all.size ∧ listed.getD i true = false) hi0
      have hmem : m ∈ Region.ready .any all listed := by
        simp only [Region.ready, List.mem_filter, List.mem_range, Bool.and_eq_true, Bool.not_eq_true']
        refine ⟨hm1, hm2, ?_⟩
        have ho : all[m]? = some all[m] := Array.getElem?_eq_getElem hm1
        rw [ho]
        simp only [Option.map_some, Option.getD_some]
        rw [Array.all_eq_true']
        intro e' he
        cases hb : Region.binds .any e' with
        | false => rfl
        | true =>
          have hlt := (drawOk_spec hok ho).1 e' he hb
          have := hm3 e'.on hlt
          have hlt2 : e'.on < listed.size := by omega
          simp only [Bool.not_true, Bool.false_or]
          cases hd : listed.getD e'.on false with
          | true => rfl
          | false =>
            exfalso
            refine this ⟨by omega, ?_⟩
            simp only [Array.getD_eq_getD_getElem?, Array.getElem?_eq_getElem hlt2, Option.getD_some] at hd ⊢
            exact hd
      rw [hnil] at hmem
      simp at hmem
    · intro i hi
      obtain ⟨o, ho, hlt, hoff, hpre⟩ := hready listed i hi
      obtain ⟨si, y, hq, k1, k2, k3, k4, k5⟩ := hst i o ho
      have hspec := drawOk_spec hok ho
      have hlook : ∀ t ∈ o.looksAt all, lookS s.slots t = lookS si.slots t := by
        intro t ht
        rw [hu.look t (fun j o' hj hd => by
          obtain ⟨_, h2⟩ := hspec.2 j o' t hj hd
          obtain ⟨_, e', he, hb, rfl⟩ := h2 ht
          have := hpre e' he hb
          rcases Nat.lt_or_ge e'.on listed.size with h' | h'
          · simp only [Array.getD_eq_getD_getElem?, Array.getElem?_eq_getElem h', Option.getD_some] at this ⊢
            exact this
          · simp [Array.getD_eq_getD_getElem?, Array.getElem?_eq_none h'])]
        refine k4 t (fun j o' hj hj2 hd => ?_)
        have := ((hspec.2 j o' t hj2 hd).2 ht).1
        omega
      have hstep := hq s (hu.nt.trans k1.symm) (hu.objs.trans k2.symm) (hu.st.trans k3.symm) hlook a w g hs
        (wpAny P .any all Q fuel (listed.setIfInBounds i true)) Q (fun a' w' g' hs' hk' => by
          refine ih (listed.setIfInBounds i true) (s.put o.dst y) a' w' g' (by simp [hsz]) (by have := nOff_set (by omega) hoff; omega) hs' (hk.trans hk') ?_
          refine ⟨by rw [put_nt]; exact hu.nt, by rw [put_objs]; exact hu.objs, by rw [put_st]; exact hu.st, ?_⟩
          intro t ht
          rw [put_look]
          split
          · rename_i hd
            refine (k5 t hd (fun j o' hj hj2 hd2 => ?_)).symm
            rcases (hspec.2 j o' t hj2 hd2).1 with h1 | h1
            · omega
            · exact h1 hd
          · rename_i hd
            refine hu.look t (fun j o' hj hd2 => ?_)
            have := ht j o' hj hd2
            by_cases hji : j = i
            · subst hji; rw [ho] at hj; obtain rfl := Option.some.inj hj; exact absurd hd2 hd
            · simp only [Array.getD_eq_getD_getElem?, Array.getElem?_setIfInBounds_ne (fun h => hji h.symm)] at this ⊢
              exact this)
      unfold wpOp
      simp only [ho]
      split at hstep
      · rename_i hw; rw [if_pos hw]; exact .inl hstep
      · rename_i hw; rw [if_neg hw]; exact hstep

theorem nOff_replicate (n : Nat) : nOff (Array.replicate n false) = n := by
  simp only [nOff, Array.toList_replicate]
  rw [List.countP_replicate]
  rfl

/-- A region whose order is drawn, of quiet operations. -/
theorem RunsA.dq {P : Program} {T : Tab} (hm : P.follows .mixedOrders = true) (hT : TabOk P T) {id : Nat} {all : Array Oper} {s : St} {Q : AE → St → Prop} (hok : drawOk all = true)
    (h : ∀ J : List Oper → St → Prop, (∀ os' s', QRuns P all os' s' (fun s2 => At .normal s2 Q) → J os' s') → goQ T all all.toList s J) : RunsA P (.region id all true) s Q := by
  intro a w g hs
  have hq : QRuns P all all.toList s (fun s2 => At .normal s2 Q) := QRuns.go hT h
  obtain ⟨e, he, h1, h2, h3, h4, h5⟩ := hq.tell
  refine wp_region_any hm ?_
  refine draw_any (e := e) (w0 := w) (g0 := g) hok ?_ ?_ all.size (Array.replicate all.size false) s a _ g (by simp) (nOff_replicate _) (hs.drawn _) (Keep.drawn g w _) ⟨h1.symm, h2.symm, h3.symm, ?_⟩
  · intro i o hi
    obtain ⟨si, y, k1, k2, k3, k4, k5, k6⟩ := h5 i o (by simpa using hi)
    exact ⟨si, y, k1, k2.trans h1.symm, k3.trans h2.symm, k4.trans h3.symm, fun t ht => k5 t (fun j o' hj ho => ht j o' hj (by simpa using ho)), fun d hd ht => k6 d hd (fun j o' hj ho => ht j o' hj (by simpa using ho))⟩
  · intro a' w' g' hs' hk'
    exact ⟨.normal, e, g', rfl, he.out, hs', hk'⟩
  · intro t ht
    refine (h4 t (fun j o hj hd => ?_)).symm
    have hj' : all[j]? = some o := by simpa using hj
    have := ht j o hj' hd
    have hlt : j < all.size := by
      rcases Nat.lt_or_ge j all.size with h' | h'
      · exact h'
      · simp [Array.getElem?_eq_none h'] at hj'
    simp [Array.getD_eq_getD_getElem?, hlt] at this

end Go.Proofs.YtkhobcmkbldmiaaFw
