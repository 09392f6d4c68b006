import Derived.Test.YtinhdeocgchncaaFwD
import Derived.Laws.StructEq
set_option linter.unusedVariables false
set_option linter.unusedSimpArgs false
/- Regions whose order is drawn: quiet operations, and behind them all some in their order, which may write what the quiet ones read. -/
namespace Go.Proofs.YtinhdeocgchncaaFw
open Go Go.RowKit
set_option linter.unusedVariables false

/-- Of the first n1: nothing else is read than what comes before by an edge; each slot is written once. -/
def drawOkN (n1 : Nat) (all : Array Oper) : Bool :=
  ((List.range all.size).all fun i =>
    match all[i]? with
    | none => true
    | some o => o.after.all fun e => !Region.binds .any e || decide (e.on < i)) &&
  (List.range n1).all fun i =>
    match all[i]? with
    | none => true
    | some o =>
      (List.range n1).all fun j =>
        match (all[j]?).bind (·.dst) with
        | none => true
        | some d =>
          (decide (j = i) || o.dst != some d) &&
          (!(o.looksAt all).contains d || (decide (j < i) && o.after.any fun e => Region.binds .any e && e.on == j))

theorem drawOkN_spec {n1 : Nat} {all : Array Oper} (h : drawOkN n1 all = true) {i : Nat} {o : Oper} (hi : all[i]? = some o) :
    (∀ e ∈ o.after, Region.binds .any e = true → e.on < i) ∧
    (i < n1 → ∀ j o' d, j < n1 → all[j]? = some o' → o'.dst = some d → (j = i ∨ o.dst ≠ some d) ∧ (d ∈ o.looksAt all → j < i ∧ ∃ e ∈ o.after, Region.binds .any e = true ∧ e.on = j)) := by
  have hlt : i < all.size := by
    rcases Nat.lt_or_ge i all.size with h' | h'
    · exact h'
    · simp [Array.getElem?_eq_none h'] at hi
  unfold drawOkN at h
  rw [Bool.and_eq_true, List.all_eq_true, List.all_eq_true] at h
  refine ⟨?_, ?_⟩
  · have h1 := h.1 i (List.mem_range.2 hlt)
    simp only [hi] at h1
    intro e he hb
    rw [Array.all_eq_true'] at h1
    have := h1 e he
    rw [hb] at this
    simpa using this
  · intro hn j o' d hj hj2 hd
    have h1 := h.2 i (List.mem_range.2 hn)
    simp only [hi] at h1
    have h2 := (List.all_eq_true.1 h1) j (List.mem_range.2 hj)
    simp only [hj2, Option.bind_some, hd, Bool.and_eq_true, Bool.or_eq_true, decide_eq_true_eq, bne_iff_ne, Bool.not_eq_true'] at h2
    refine ⟨h2.1, fun hl => ?_⟩
    rcases h2.2 with h3 | ⟨h3, h4⟩
    · have : (o.looksAt all).contains d = true := List.contains_iff_mem.2 hl
      rw [h3] at this; cases this
    · obtain ⟨e, he, h5⟩ := Array.any_eq_true'.1 h4
      rw [Bool.and_eq_true, beq_iff_eq] at h5
      exact ⟨h3, e, he, h5.1, h5.2⟩

/-- Behind the first k: one after the other. -/
theorem draw_tailM {P : Program} {all : Array Oper} {Q : Exit → Act → World → Prop} {n1 : Nat} (hok : drawOkN n1 all = true) (ht : tailOk n1 all = true) :
    ∀ (m k : Nat) (listed : Array Bool) (a : Act) (w : World), all.size = k + m → n1 ≤ k → listed.size = all.size → (∀ i, i < all.size → listed.getD i true = decide (i < k)) →
      wpOps P all Q (List.range' k m) a w → wpAny P .any all Q m listed a w := by
  intro m
  have hchain : ∀ i, n1 < i → i < all.size → i - 1 ∈ predsOf all i := by
    intro i h1 h2
    simp only [tailOk, Bool.and_eq_true] at ht
    have := (List.all_eq_true.1 ht.2) i (List.mem_range'.2 ⟨i - (n1 + 1), by omega, by omega⟩)
    exact List.contains_iff_mem.1 this
  have hgf : ∀ (listed : Array Bool) (k i : Nat), listed.size = all.size → (∀ i, i < all.size → listed.getD i true = decide (i < k)) → i < all.size → listed.getD i false = decide (i < k) := by
    intro listed k i hs hl hi
    have := hl i hi
    simp only [Array.getD_eq_getD_getElem?, Array.getElem?_eq_getElem (show i < listed.size by omega), Option.getD_some] at this ⊢
    exact this
  induction m with
  | zero =>
    intro k listed a w hsz hk hls hl h
    refine ⟨?_, h⟩
    rw [List.eq_nil_iff_forall_not_mem]
    intro i hi
    obtain ⟨o, h1, h2, h3, _⟩ := ready_spec hi
    rw [hl i h2] at h3
    simp only [decide_eq_false_iff_not] at h3
    omega
  | succ m ih =>
    intro k listed a w hsz hk hls hl h
    have hkr : k ∈ Region.ready .any all listed := by
      refine mem_ready (by omega) (by rw [hl k (by omega)]; simp) ?_
      intro j hj
      have ho : all[k]? = some all[k] := Array.getElem?_eq_getElem (by omega)
      simp only [predsOf, ho, List.mem_map, List.mem_filter, Array.mem_toList_iff] at hj
      obtain ⟨e, ⟨he, hb⟩, rfl⟩ := hj
      have := (drawOkN_spec hok ho).1 e he hb
      rw [hgf listed k e.on hls hl (by omega)]
      simpa using this
    refine ⟨fun hnil => by rw [hnil] at hkr; simp at hkr, ?_⟩
    intro i hi
    obtain ⟨o, h1, h2, h3, h4⟩ := ready_spec hi
    rw [hl i h2] at h3
    simp only [decide_eq_false_iff_not] at h3
    have hik : i = k := by
      rcases Nat.lt_or_ge k i with h5 | h5
      · have h6 := h4 (i - 1) (hchain i (by omega) h2)
        rw [hgf listed k (i - 1) hls hl (by omega)] at h6
        simp only [decide_eq_true_eq] at h6
        omega
      · omega
    subst hik
    rw [List.range'_succ, wpOps_cons] at h
    have key : ∀ a' w', wpOps P all Q (List.range' (i + 1) m) a' w' → wpAny P .any all Q m (listed.setIfInBounds i true) a' w' := by
      intro a' w' h'
      refine ih (i + 1) _ a' w' (by omega) (by omega) (by simp [hls]) ?_ h'
      intro j hj
      by_cases e : j = i
      · subst e
        simp [Array.getD_eq_getD_getElem?, show j < listed.size by omega]
      · simp only [Array.getD_eq_getD_getElem?, Array.getElem?_setIfInBounds_ne (fun h => e h.symm)]
        have := hl j hj
        simp only [Array.getD_eq_getD_getElem?] at this
        rw [this]
        by_cases h8 : j < i
        · simp [h8]; omega
        · simp [h8]; omega
    unfold wpOp at h ⊢
    rw [h1] at h ⊢
    simp only at h ⊢
    split at h
    · rename_i hw
      rw [if_pos hw]
      rcases h with h | h
      · exact .inl (Oper.wp_mono key h)
      · exact .inr h
    · rename_i hw
      rw [if_neg hw]
      exact key _ _ h

theorem draw_anyM {P : Program} {all : Array Oper} {e : St} {Q : Exit → Act → World → Prop} {w0 : World} {g0 : Gh} {n1 m : Nat} (hok : drawOkN n1 all = true) (htail : tailOk n1 all = true) (hsize : all.size = n1 + m)
    (hst : ∀ (i : Nat) (o : Oper), i < n1 → all[i]? = some o → ∃ (si : St) (y : AV), QStep P all o si y ∧ si.nt = e.nt ∧ si.objs = e.objs ∧ si.st = e.st ∧
        (∀ t, (∀ (j : Nat) (o' : Oper), i ≤ j → j < n1 → all[j]? = some o' → o'.dst ≠ some t) → lookS e.slots t = lookS si.slots t) ∧
        (∀ d, o.dst = some d → (∀ (j : Nat) (o' : Oper), i < j → j < n1 → all[j]? = some o' → o'.dst ≠ some d) → lookS e.slots d = some y))
    (hQ : ∀ a' w' g', Sim e a' w' g' → Keep g0 w0 g' w' → wpOps P all Q (List.range' n1 m) a' w') :
    ∀ (f1 : Nat) (listed : Array Bool) (s : St) (a : Act) (w : World) (g : Gh), listed.size = all.size → nOff listed = f1 + m → (∀ i, n1 ≤ i → i < n1 + m → listed.getD i true = false) → Down all listed →
      Sim s a w g → Keep g0 w0 g w → UptoN n1 all listed e s → wpAny P .any all Q (f1 + m) listed a w := by
  intro f1
  have hgg : ∀ (listed : Array Bool) (i : Nat), listed.size = all.size → i < all.size → listed.getD i false = listed.getD i true := by
    intro listed i hs hi
    simp only [Array.getD_eq_getD_getElem?, Array.getElem?_eq_getElem (show i < listed.size by omega), Option.getD_some]
  induction f1 with
  | zero =>
    intro listed s a w g hsz hn htl hdn hs hk hu
    rw [Nat.zero_add] at hn ⊢
    have hsp := nOff_split (by omega) htl
    have hz : (listed.toList.take n1).countP (! ·) = 0 := by omega
    have hall : ∀ i, i < n1 → listed.getD i true = true := fun i hi => take_all_listed hz hi (by omega)
    refine draw_tailM hok htail m n1 listed a w hsize (Nat.le_refl _) hsz ?_ ?_
    · intro i hi
      by_cases h : i < n1
      · rw [hall i h]; simp [h]
      · rw [htl i (by omega) (by omega)]; simp [h]
    · refine hQ a w g (hs.congr hu.nt.symm ?_ hu.objs.symm hu.st.symm) hk
      intro t
      exact (hu.look t (fun j o hj _ _ => hall j hj)).symm
  | succ f1 ih =>
    intro listed s a w g hsz hn htl hdn hs hk hu
    have hsp := nOff_split (by omega) htl
    have hquiet : ∀ i, i ∈ Region.ready .any all listed → i < n1 := by
      intro i hi
      obtain ⟨o, h1, h2, h3, h4⟩ := ready_spec hi
      rcases Nat.lt_or_ge i n1 with h5 | h5
      · exact h5
      exfalso
      rcases Nat.lt_or_ge n1 i with h6 | h6
      · simp only [tailOk, Bool.and_eq_true] at htail
        have := (List.all_eq_true.1 htail.2) i (List.mem_range'.2 ⟨i - (n1 + 1), by omega, by omega⟩)
        have h7 := h4 _ (List.contains_iff_mem.1 this)
        rw [hgg listed (i - 1) hsz (by omega), htl (i - 1) (by omega) (by omega)] at h7
        simp at h7
      · have hi1 : i = n1 := by omega
        subst hi1
        simp only [tailOk, Bool.and_eq_true] at htail
        have hr := hdn.reach i _ h4
        have : (listed.toList.take i).countP (! ·) = 0 := by
          rw [List.countP_eq_zero]
          intro b hb
          obtain ⟨j, hj⟩ := List.mem_iff_getElem?.1 hb
          rw [List.getElem?_take] at hj
          split at hj
          · rename_i hji
            have h8 := (List.all_eq_true.1 htail.1.2) j (List.mem_range.2 hji)
            have h9 := hr j (List.contains_iff_mem.1 h8)
            rw [Array.getElem?_toList] at hj
            simp only [Array.getD_eq_getD_getElem?, hj, Option.getD_some] at h9
            simp [h9]
          · simp at hj
        omega
    rw [show f1 + 1 + m = (f1 + m) + 1 by omega]
    refine ⟨?_, ?_⟩
    · intro hnil
      exfalso
      have hex : ∃ i, i < all.size ∧ listed.getD i true = false := by
        by_cases h : ∃ i, i < all.size ∧ listed.getD i true = false
        · exact h
        · exfalso
          have : nOff listed = 0 := by
            unfold nOff
            rw [List.countP_eq_zero]
            intro b hb
            obtain ⟨i, hi⟩ := List.mem_iff_getElem?.1 hb
            simp only [Array.getElem?_toList] at hi
            have hlt : i < listed.size := by
              rcases Nat.lt_or_ge i listed.size with h' | h'
              · exact h'
              · simp [Array.getElem?_eq_none h'] at hi
            have h2 : listed.getD i true ≠ false := fun hc => h ⟨i, by omega, hc⟩
            simp only [Array.getD_eq_getD_getElem?, hi, Option.getD_some] at h2
            cases b <;> simp at h2 ⊢
          omega
      obtain ⟨i0, hi0⟩ := hex
      obtain ⟨m', ⟨hm1, hm2⟩, hm3⟩ := least (p := fun i => i < all.size ∧ listed.getD i true = false) hi0
      have hmem : m' ∈ Region.ready .any all listed := by
        refine mem_ready hm1 hm2 ?_
        intro j hj
        have ho : all[m']? = some all[m'] := Array.getElem?_eq_getElem hm1
        simp only [predsOf, ho, List.mem_map, List.mem_filter, Array.mem_toList_iff] at hj
        obtain ⟨e', ⟨he, hb⟩, rfl⟩ := hj
        have hlt := (drawOkN_spec hok ho).1 e' he hb
        rw [hgg listed e'.on hsz (by omega)]
        cases hd : listed.getD e'.on true with
        | true => rfl
        | false => exact absurd ⟨by omega, hd⟩ (hm3 e'.on hlt)
      rw [hnil] at hmem
      simp at hmem
    · intro i hi
      have hin := hquiet i hi
      obtain ⟨o, ho, hlt, hoff, hpre⟩ := ready_spec hi
      obtain ⟨si, y, hq, k1, k2, k3, k4, k5⟩ := hst i o hin ho
      have hspec := drawOkN_spec hok ho
      have hlook : ∀ t ∈ o.looksAt all, lookS s.slots t = lookS si.slots t := by
        intro t ht
        rw [hu.look t (fun j o' hjn hj hd => by
          obtain ⟨_, h2⟩ := hspec.2 hin j o' t hjn hj hd
          obtain ⟨_, e', he, hb, rfl⟩ := h2 ht
          have hm : e'.on ∈ predsOf all i := by
            simp only [predsOf, ho, List.mem_map, List.mem_filter, Array.mem_toList_iff]
            exact ⟨e', ⟨he, hb⟩, rfl⟩
          have := hpre _ hm
          rw [hgg listed e'.on hsz (by omega)] at this
          exact this)]
        refine k4 t (fun j o' hj hjn hj2 hd => ?_)
        have := ((hspec.2 hin j o' t hjn hj2 hd).2 ht).1
        omega
      have hstep := hq s (hu.nt.trans k1.symm) (hu.objs.trans k2.symm) (hu.st.trans k3.symm) hlook a w g hs
        (wpAny P .any all Q (f1 + m) (listed.setIfInBounds i true)) Q (fun a' w' g' hs' hk' => by
          refine ih (listed.setIfInBounds i true) (s.put o.dst y) a' w' g' (by simp [hsz]) (by have := nOff_set (by omega) hoff; omega) ?_ (hdn.set hpre) hs' (hk.trans hk') ?_
          · intro j hj1 hj2
            simp only [Array.getD_eq_getD_getElem?, Array.getElem?_setIfInBounds_ne (show i ≠ j by omega)]
            have := htl j hj1 hj2
            simpa only [Array.getD_eq_getD_getElem?] using this
          refine ⟨by rw [put_nt]; exact hu.nt, by rw [put_objs]; exact hu.objs, by rw [put_st]; exact hu.st, ?_⟩
          intro t ht
          rw [put_look]
          split
          · rename_i hd
            refine (k5 t hd (fun j o' hj hjn hj2 hd2 => ?_)).symm
            rcases (hspec.2 hin j o' t hjn hj2 hd2).1 with h1 | h1
            · omega
            · exact h1 hd
          · rename_i hd
            refine hu.look t (fun j o' hjn hj hd2 => ?_)
            have := ht j o' hjn hj hd2
            by_cases hji : j = i
            · subst hji; rw [ho] at hj; obtain rfl := Option.some.inj hj; exact absurd hd2 hd
            · simp only [Array.getD_eq_getD_getElem?, Array.getElem?_setIfInBounds_ne (fun h => hji h.symm)] at this ⊢
              exact this)
      unfold wpOp
      simp only [ho]
      split at hstep
      · rename_i hw; rw [if_pos hw]; exact .inl hstep
      · rename_i hw; rw [if_neg hw]; exact hstep

/-- A region whose order is drawn: n1 quiet operations, the others behind them. -/
theorem RunsA.dqtn {P : Program} {T : Tab} (n1 m : Nat) (hm : P.follows .mixedOrders = true) (hT : TabOk P T) {id : Nat} {all : Array Oper} {s : St} {Q : AE → St → Prop} (hok : drawOkN n1 all = true) (htail : tailOk n1 all = true) (hsize : all.size = n1 + m)
    (h : ∀ J : List Oper → St → Prop, (∀ os' s', QRuns P all os' s' (fun s2 => RunsL P all (all.toList.drop n1) s2 (fun s3 => At .normal s3 Q)) → J os' s') → goQ T all (all.toList.take n1) s J) : RunsA P (.region id all true) s Q := by
  intro a w g hs
  have hq : QRuns P all (all.toList.take n1) s (fun s2 => RunsL P all (all.toList.drop n1) s2 (fun s3 => At .normal s3 Q)) := QRuns.go hT h
  obtain ⟨e, he, h1, h2, h3, h4, h5⟩ := hq.tell
  refine wp_region_any hm ?_
  have hget : ∀ (i : Nat) (o : Oper), i < n1 → all[i]? = some o → (all.toList.take n1)[i]? = some o := fun i o hi ho => by
    rw [List.getElem?_take, if_pos hi, Array.getElem?_toList]; exact ho
  have hget2 : ∀ (j : Nat) (o : Oper), (all.toList.take n1)[j]? = some o → j < n1 ∧ all[j]? = some o := fun j o hj => by
    rw [List.getElem?_take] at hj
    split at hj
    · rename_i h'; exact ⟨h', by simpa using hj⟩
    · simp at hj
  have hmap : (List.range' n1 m).map (all[·]?) = (all.toList.drop n1).map some := by
    apply List.ext_getElem?
    intro i
    simp only [List.getElem?_map, List.getElem?_drop, Array.getElem?_toList]
    by_cases hi : i < m
    · rw [List.getElem?_range' hi]
      simp only [Option.map_some, Nat.one_mul]
      rw [Array.getElem?_eq_getElem (by omega)]; rfl
    · rw [List.getElem?_eq_none (by simp; omega), Array.getElem?_eq_none (by omega)]; rfl
  have := draw_anyM (P := P) (all := all) (e := e) (Q := fun e a' w' => ∃ ae s' g', e = ae.up ∧ Q ae s' ∧ Sim s' a' w' g' ∧ Keep g w g' w') (w0 := w) (g0 := g) (n1 := n1) (m := m) hok htail hsize ?_ ?_ n1 (Array.replicate all.size false) s a _ g (by simp) (by rw [nOff_replicate, hsize]) ?_ ?_ (hs.drawn (w.drawn + 1)) (Keep.drawn g w (w.drawn + 1)) ⟨h1.symm, h2.symm, h3.symm, ?_⟩
  · rw [hsize]; rw [hsize] at this; exact this
  · intro i o hi ho
    obtain ⟨si, y, k1, k2, k3, k4, k5, k6⟩ := h5 i o (hget i o hi ho)
    exact ⟨si, y, k1, k2.trans h1.symm, k3.trans h2.symm, k4.trans h3.symm, fun t ht => k5 t (fun j o' hj hj2 => ht j o' hj (hget2 j o' hj2).1 (hget2 j o' hj2).2), fun d hd ht => k6 d hd (fun j o' hj hj2 => ht j o' hj (hget2 j o' hj2).1 (hget2 j o' hj2).2)⟩
  · intro a' w' g' hs' hk'
    exact he a' w' g' hs' _ (fun a2 w2 g2 s2 q1 q2 q3 => ⟨.normal, s2, g2, rfl, q3.out, q1, hk'.trans q2⟩) _ hmap
  · intro i hi1 hi2
    simp [Array.getD_eq_getD_getElem?, show i < all.size by omega]
  · intro i hi
    by_cases hlt : i < all.size
    · simp [Array.getD_eq_getD_getElem?, hlt] at hi
    · simp [Array.getD_eq_getD_getElem?, hlt] at hi
  · intro t ht
    refine (h4 t (fun j o hj hd => ?_)).symm
    obtain ⟨hjn, hj'⟩ := hget2 j o hj
    have := ht j o hjn hj' hd
    have hlt : j < all.size := by omega
    simp [Array.getD_eq_getD_getElem?, hlt] at this


end Go.Proofs.YtinhdeocgchncaaFw

/- Regions whose order is drawn: what is listed so far, a state for each; ways that meet are walked once. -/
namespace Go.Proofs.YtinhdeocgchncaaFw
open Go Go.RowKit
set_option linter.unusedVariables false

/-- Of s2 no more is told than s tells. -/
structure LeS (s s2 : St) : Prop where
  nt : s.nt = s2.nt
  slots : ∀ t x, lookS s.slots t = some x → lookS s2.slots t = some x
  objs : ∀ i p, lookO s.objs i = some p → lookO s2.objs i = some p
  st : s.st = s2.st

theorem LeS.refl (s : St) : LeS s s := ⟨rfl, fun _ _ h => h, fun _ _ h => h, rfl⟩
theorem LeS.of {s s2 : St} (h1 : s.nt = s2.nt) (h2 : SubS s.slots s2.slots) (h3 : SubO s.objs s2.objs) (h4 : s.st = s2.st) : LeS s s2 := ⟨h1, fun _ _ h => h2.look h, fun _ _ h => h3.look h, h4⟩
theorem LeS.sim {s s' : St} (h : LeS s' s) {a : Act} {w : World} {g : Gh} (hs : Sim s a w g) : Sim s' a w g where
  nt := hs.nt.trans h.nt.symm
  defers := hs.defers
  slot := fun t x hx => hs.slot t x (h.slots t x hx)
  h := ⟨fun id sz es hl => hs.h.obj id sz es (h.objs id _ hl), hs.h.sep, hs.h.rdlt⟩
  st := h.st.trans hs.st

def lookF {Ω : Type} : List (Nat × (Ω → St)) → Nat → Option (Ω → St)
  | [], _ => none
  | p :: r, m => if p.1 = m then some p.2 else lookF r m

def EdgesP (P : Program) (all : Array Oper) {Ω : Type} (fam : List (Nat × (Ω → St))) (S : Ω → St) : List (Nat × Nat) → Prop
  | [] => True
  | p :: r => (match lookF fam p.1, all[p.2]? with
    | some S0, some o => ∀ ω, RunsL P all [o] (S0 ω) (fun s2 => ∃ ω', LeS (S ω') s2)
    | _, _ => False) ∧ EdgesP P all fam S r

def DagP (P : Program) (all : Array Oper) {Ω : Type} (K : St → Prop) : List (Nat × List (Nat × Nat)) → List (Nat × (Ω → St)) → Prop
  | [], [] => False
  | [], p :: _ => ∀ ω, K (p.2 ω)
  | p :: rest, fam => ∃ S : Ω → St, EdgesP P all fam S p.2 ∧ DagP P all K rest ((p.1, S) :: fam)

theorem DagP.step {P : Program} {all : Array Oper} {Ω : Type} {K : St → Prop} {D : Nat} {ps : List (Nat × Nat)} {rest : List (Nat × List (Nat × Nat))} {fam : List (Nat × (Ω → St))} {S : Ω → St}
    (h1 : EdgesP P all fam S ps) (h2 : DagP P all K rest ((D, S) :: fam)) : DagP P all K ((D, ps) :: rest) fam := ⟨S, h1, h2⟩
theorem DagP.done {P : Program} {all : Array Oper} {Ω : Type} {K : St → Prop} {D : Nat} {fam : List (Nat × (Ω → St))} {S : Ω → St} (h : ∀ ω, K (S ω)) : DagP P all K [] ((D, S) :: fam) := h
theorem EdgesP.cons {P : Program} {all : Array Oper} {Ω : Type} {fam : List (Nat × (Ω → St))} {S S0 : Ω → St} {m i : Nat} {r : List (Nat × Nat)} {o : Oper} (hl : lookF fam m = some S0) (ho : all.toList[i]? = some o)
    (h : ∀ ω, RunsL P all [o] (S0 ω) (fun s2 => ∃ ω', LeS (S ω') s2)) (hr : EdgesP P all fam S r) : EdgesP P all fam S ((m, i) :: r) := by
  refine ⟨?_, hr⟩
  rw [Array.getElem?_toList] at ho
  simp only [hl, ho]
  exact h
theorem EdgesP.nil {P : Program} {all : Array Oper} {Ω : Type} {fam : List (Nat × (Ω → St))} {S : Ω → St} : EdgesP P all fam S [] := trivial

def keysOk : List Nat → List (Nat × List (Nat × Nat)) → Bool
  | _, [] => true
  | ks, p :: r => !ks.contains p.1 && keysOk (p.1 :: ks) r

def lastK : Nat → List (Nat × List (Nat × Nat)) → Nat
  | k, [] => k
  | _, p :: r => lastK p.1 r

def readyB (all : Array Oper) (D i : Nat) : Bool := !D.testBit i && (predsOf all i).all fun j => D.testBit j

def dagChk (all : Array Oper) (list : List (Nat × List (Nat × Nat))) : Bool :=
  keysOk [0] list &&
  (0 :: list.map (·.1)).all fun D => ((List.range all.size).any (readyB all D) || D == lastK 0 list) &&
    (List.range all.size).all fun i => !readyB all D i || list.any fun p => p.1 == (D ||| 2 ^ i) && p.2.contains (D, i)

theorem EdgesP.mono {P : Program} {all : Array Oper} {Ω : Type} {fam fam' : List (Nat × (Ω → St))} {S : Ω → St} (hm : ∀ m S0, lookF fam m = some S0 → lookF fam' m = some S0) :
    ∀ {l : List (Nat × Nat)}, EdgesP P all fam S l → EdgesP P all fam' S l
  | [], _ => trivial
  | p :: r, h => by
    refine ⟨?_, EdgesP.mono hm h.2⟩
    have h1 := h.1
    cases hl : lookF fam p.1 with
    | none => rw [hl] at h1; exact h1.elim
    | some S0 => rw [hl] at h1; rw [hm _ _ hl]; exact h1

theorem EdgesP.get {P : Program} {all : Array Oper} {Ω : Type} {fam : List (Nat × (Ω → St))} {S S0 : Ω → St} {o : Oper} {m i : Nat} :
    ∀ {l : List (Nat × Nat)}, EdgesP P all fam S l → (m, i) ∈ l → lookF fam m = some S0 → all[i]? = some o → ∀ ω, RunsL P all [o] (S0 ω) (fun s2 => ∃ ω', LeS (S ω') s2)
  | [], _, hm, _, _ => by simp at hm
  | p :: r, h, hm, hl, ho => by
    rcases List.mem_cons.1 hm with e | hm
    · subst e
      have h1 := h.1
      simp only [hl, ho] at h1
      exact h1
    · exact EdgesP.get h.2 hm hl ho

theorem DagP.fam {P : Program} {all : Array Oper} {Ω : Type} {K : St → Prop} : ∀ (list : List (Nat × List (Nat × Nat))) (fam : List (Nat × (Ω → St))) (ks : List Nat) (k : Nat), DagP P all K list fam →
    keysOk ks list = true → (∀ m S, lookF fam m = some S → m ∈ ks) → (∃ p r, fam = p :: r ∧ p.1 = k) →
    ∃ fam' : List (Nat × (Ω → St)), (∀ m S, lookF fam m = some S → lookF fam' m = some S) ∧ (∀ p ∈ list, ∃ S, lookF fam' p.1 = some S ∧ EdgesP P all fam' S p.2) ∧
      ∃ S, lookF fam' (lastK k list) = some S ∧ ∀ ω, K (S ω)
  | [], fam, ks, k, h, hk, hin, ⟨p, r, hf, hp⟩ => by
    subst hf
    refine ⟨p :: r, fun _ _ h => h, fun q hq => by simp at hq, p.2, ?_, h⟩
    simp only [lastK, lookF, hp, if_true]
  | q :: rest, fam, ks, k, h, hk, hin, _ => by
    obtain ⟨S, h1, h2⟩ := h
    simp only [keysOk, Bool.and_eq_true, Bool.not_eq_true'] at hk
    have hnew : ∀ m S0, lookF fam m = some S0 → lookF ((q.1, S) :: fam) m = some S0 := by
      intro m S0 hl
      have hm := hin m S0 hl
      simp only [lookF]
      rw [if_neg]
      · exact hl
      · intro e
        have : ks.contains q.1 = true := by rw [e]; exact List.contains_iff_mem.2 hm
        rw [this] at hk; cases hk.1
    obtain ⟨fam', k1, k2, k3⟩ := DagP.fam rest ((q.1, S) :: fam) (q.1 :: ks) q.1 h2 hk.2 (fun m S0 hl => by
      simp only [lookF] at hl
      split at hl
      · rename_i e; rw [← e]; exact List.mem_cons_self
      · exact List.mem_cons_of_mem _ (hin m S0 hl)) ⟨_, _, rfl, rfl⟩
    refine ⟨fam', fun m S0 hl => k1 m S0 (hnew m S0 hl), ?_, k3⟩
    intro p hp
    rcases List.mem_cons.1 hp with e | hp
    · subst e
      exact ⟨S, k1 _ _ (by simp [lookF]), h1.mono fun m S0 hl => k1 m S0 (hnew m S0 hl)⟩
    · exact k2 p hp

theorem wp_swap {P : Program} {o : Oper} {a : Act} {w : World} {K : Act → World → Prop} {Q Q' : Exit → Act → World → Prop} (h : ∀ c a w, Q' (.panic c) a w → Q (.panic c) a w) (hl : LetsOut Q' → LetsOut Q)
    (hh : o.wp P a w K Q') : o.wp P a w K Q := by
  unfold Oper.wp at *
  generalize (execOp a.eval o).run P w = r at *
  cases r with
  | ok n w' =>
    cases n <;> simp only [Oper.upon] at hh ⊢ <;>
      first
        | exact hh
        | exact Calls.mono hh (fun e w'' he => by cases e <;> first | exact he | exact h _ _ _ he | exact hl he)
  | halt x w' => cases x <;> simp only [Oper.upon] at hh ⊢ <;> first | exact h _ _ _ hh | exact hh

theorem RunsA.dag {P : Program} (hm : P.follows .mixedOrders = true) {id : Nat} {all : Array Oper} {s : St} {Q : AE → St → Prop} {Ω : Type} (ω0 : Ω) (list : List (Nat × List (Nat × Nat))) (hc : dagChk all list = true)
    (h : DagP P all (fun s2 => At .normal s2 Q) list [(0, fun _ : Ω => s)]) : RunsA P (.region id all true) s Q := by
  intro a w g hs
  refine wp_region_any hm ?_
  simp only [dagChk, Bool.and_eq_true] at hc
  obtain ⟨hc1, hc2⟩ := hc
  obtain ⟨fam, hbase, hedge, Sf, hf, hK⟩ := DagP.fam list [(0, fun _ : Ω => s)] [0] 0 h hc1 (fun m S hl => by
    simp only [lookF] at hl
    split at hl
    · rename_i e; rw [← e]; exact List.mem_cons_self
    · cases hl) ⟨_, _, rfl, rfl⟩
  have main : ∀ (f D : Nat) (listed : Array Bool) (S : Ω → St) (ω : Ω) (a' : Act) (w' : World) (g' : Gh), listed.size = all.size → nOff listed = f → (∀ j, listed.getD j false = D.testBit j) → D ∈ 0 :: list.map (·.1) →
      lookF fam D = some S → Sim (S ω) a' w' g' → Keep g w g' w' →
      wpAny P .any all (fun e a' w' => ∃ ae s' g', e = ae.up ∧ Q ae s' ∧ Sim s' a' w' g' ∧ Keep g w g' w') f listed a' w' := by
    intro f
    induction f with
    | zero =>
      intro D listed S ω a' w' g' hsz hn hb hD hl hs' hk'
      have hall : ∀ i, i < all.size → listed.getD i true = true := fun i hi => by
        have hmem : listed[i] ∈ listed.toList := by simp
        have := List.countP_eq_zero.1 hn _ hmem
        simp only [Array.getD_eq_getD_getElem?, Array.getElem?_eq_getElem (show i < listed.size by omega), Option.getD_some]
        simpa using this
      have hbit : ∀ i, i < all.size → D.testBit i = true := fun i hi => by
        rw [← hb i]
        have := hall i hi
        simp only [Array.getD_eq_getD_getElem?, Array.getElem?_eq_getElem (show i < listed.size by omega), Option.getD_some] at this ⊢
        exact this
      refine ⟨?_, ?_⟩
      · rw [List.eq_nil_iff_forall_not_mem]
        intro i hi
        obtain ⟨o, h1, h2, h3, _⟩ := ready_spec hi
        rw [hall i h2] at h3; cases h3
      · have hd := List.all_eq_true.1 hc2 D hD
        rw [Bool.and_eq_true, Bool.or_eq_true] at hd
        rcases hd.1 with h1 | h1
        · exfalso
          obtain ⟨i, hi, h2⟩ := List.any_eq_true.1 h1
          rw [List.mem_range] at hi
          simp only [readyB, hbit i hi] at h2
          cases h2
        · rw [beq_iff_eq] at h1
          subst h1
          rw [hf] at hl
          obtain rfl := Option.some.inj hl
          exact ⟨.normal, _, g', rfl, (hK ω).out, hs', hk'⟩
    | succ f ih =>
      intro D listed S ω a' w' g' hsz hn hb hD hl hs' hk'
      have hd := List.all_eq_true.1 hc2 D hD
      rw [Bool.and_eq_true, Bool.or_eq_true] at hd
      have hgt : ∀ j, j < all.size → listed.getD j true = listed.getD j false := fun j hj => by
        simp only [Array.getD_eq_getD_getElem?, Array.getElem?_eq_getElem (show j < listed.size by omega), Option.getD_some]
      refine ⟨?_, ?_⟩
      · intro hnil
        rcases hd.1 with h1 | h1
        · exfalso
          obtain ⟨i, hi, h2⟩ := List.any_eq_true.1 h1
          rw [List.mem_range] at hi
          simp only [readyB, Bool.and_eq_true, Bool.not_eq_true'] at h2
          have : i ∈ Region.ready .any all listed := mem_ready hi (by rw [hgt i hi, hb i]; exact h2.1) (fun j hj => by rw [hb j]; exact List.all_eq_true.1 h2.2 j hj)
          rw [hnil] at this
          cases this
        · rw [beq_iff_eq] at h1
          subst h1
          rw [hf] at hl
          obtain rfl := Option.some.inj hl
          exact ⟨.normal, _, g', rfl, (hK ω).out, hs', hk'⟩
      · intro i hi
        obtain ⟨o, ho, hlt, hoff, hpre⟩ := ready_spec hi
        have hr : readyB all D i = true := by
          simp only [readyB, Bool.and_eq_true, Bool.not_eq_true']
          refine ⟨by rw [← hb i, ← hgt i hlt]; exact hoff, List.all_eq_true.2 fun j hj => ?_⟩
          rw [← hb j]; exact hpre j hj
        have h3 := List.all_eq_true.1 hd.2 i (List.mem_range.2 hlt)
        rw [hr] at h3
        simp only [Bool.not_true, Bool.false_or] at h3
        obtain ⟨p, hp, h4⟩ := List.any_eq_true.1 h3
        rw [Bool.and_eq_true, beq_iff_eq] at h4
        obtain ⟨S', hl', hE⟩ := hedge p hp
        have hrun := hE.get (List.contains_iff_mem.1 h4.2) hl ho ω
        have hops := hrun a' w' g' hs' (fun e a2 w2 => match e with
          | .normal => wpAny P .any all (fun e a' w' => ∃ ae s' g', e = ae.up ∧ Q ae s' ∧ Sim s' a' w' g' ∧ Keep g w g' w') f (listed.setIfInBounds i true) a2 w2
          | e => ∃ ae s' g', e = ae.up ∧ Q ae s' ∧ Sim s' a2 w2 g' ∧ Keep g w g' w2) (fun a2 w2 g2 s2 q1 q2 ⟨ω', hle⟩ => by
            refine ih (D ||| 2 ^ i) (listed.setIfInBounds i true) S' ω' a2 w2 g2 (by simp [hsz]) (by have := nOff_set (by omega) hoff; omega) ?_ ?_ ?_ (hle.sim q1) (hk'.trans q2)
            · intro j
              rw [Nat.testBit_or, Nat.testBit_two_pow, ← hb j]
              by_cases hji : i = j
              · subst hji
                simp [Array.getD_eq_getD_getElem?, show i < listed.size by omega]
              · simp [Array.getD_eq_getD_getElem?, Array.getElem?_setIfInBounds_ne hji, hji]
            · rw [← h4.1]; exact List.mem_cons_of_mem _ (List.mem_map.2 ⟨p, hp, rfl⟩)
            · rw [← h4.1]; exact hl') [i] (by simp [ho])
        rw [wpOps_cons] at hops
        unfold wpOp at hops ⊢
        simp only [ho] at hops ⊢
        split at hops
        · rename_i hw
          rw [if_pos hw]
          rcases hops with h5 | h5
          · exact .inl (wp_swap (fun c a w h => h) (fun ⟨a, w, h⟩ => ⟨a, w, h⟩) h5)
          · exact .inr ⟨h5.1, by obtain ⟨a, w, h6⟩ := h5.2; exact ⟨a, w, h6⟩⟩
        · rename_i hw
          rw [if_neg hw]
          exact hops
  refine main all.size 0 (Array.replicate all.size false) _ ω0 a _ g (by simp) (by rw [nOff_replicate]) ?_ List.mem_cons_self (hbase 0 (fun _ => s) (by simp [lookF])) (hs.drawn (w.drawn + 1)) (Keep.drawn g w (w.drawn + 1))
  intro j
  by_cases hj : j < all.size
  · simp [Array.getD_eq_getD_getElem?, hj]
  · simp [Array.getD_eq_getD_getElem?, hj]

end Go.Proofs.YtinhdeocgchncaaFw

/- Ways that meet in one of a family of states. -/
namespace Go.Proofs.YtinhdeocgchncaaFw
open Go Go.RowKit
set_option linter.unusedVariables false

theorem RunsA.meetF {P : Program} {x y : Code} {s : St} {Q : AE → St → Prop} {Ω : Type} (S : Ω → St) (I : Ω → Prop) (h1 : RunsA P x s (thenA (fun s' => ∃ ω, I ω ∧ (S ω).nt = s'.nt ∧ SubS (S ω).slots s'.slots ∧ SubO (S ω).objs s'.objs ∧ (S ω).st = s'.st) Q)) (h2 : ∀ ω, I ω → RunsA P y (S ω) Q) : RunsA P (.seq x y) s Q :=
  RunsA.sq (h1.mono fun e s' hq => by
    cases e with
    | normal =>
      obtain ⟨ω, hi, hq⟩ := hq
      exact (h2 ω hi).sub hq.1 hq.2.1 hq.2.2.1 hq.2.2.2
    | exit id => exact hq
    | ret => exact hq)

/-- The same, where the way has been begun. -/
theorem RunsA.meetFK {P : Program} {x y : Code} {s : St} {Q : AE → St → Prop} {Ω : Type} (S : Ω → St) (I : Ω → Prop) (h1 : RunsA P x s (thenA (fun s' => ∃ ω, I ω ∧ (S ω).nt = s'.nt ∧ SubS (S ω).slots s'.slots ∧ SubO (S ω).objs s'.objs ∧ (S ω).st = s'.st) Q)) (h2 : ∀ ω, I ω → RunsA P y (S ω) Q) : RunsA P x s (thenR P y Q) :=
  h1.mono fun e s' hq => by
    cases e with
    | normal =>
      obtain ⟨ω, hi, hq⟩ := hq
      exact (h2 ω hi).sub hq.1 hq.2.1 hq.2.2.1 hq.2.2.2
    | exit id => exact hq
    | ret => exact hq

end Go.Proofs.YtinhdeocgchncaaFw

/- Regions whose order is drawn: first what is quiet, then what is behind it all, by the sets of what is listed. -/
namespace Go.Proofs.YtinhdeocgchncaaFw
open Go Go.RowKit
set_option linter.unusedVariables false

/-- Each of the first n1 but the last has one of them behind it; each other comes behind the last of them, or behind another other. -/
def tailG (n1 : Nat) (all : Array Oper) : Bool :=
  ((List.range (n1 - 1)).all fun j => (List.range' (j + 1) (n1 - 1 - j)).any fun j' => (predsOf all j').contains j) &&
  ((List.range' n1 (all.size - n1)).all fun i => (predsOf all i).any fun p => decide (p < i) && decide (n1 ≤ p + 1))

theorem tailG_last {n1 : Nat} {all : Array Oper} (h : tailG n1 all = true) {listed : Array Bool} (hd : Down all listed) : ∀ (f i : Nat), i < f → n1 ≤ i → i < all.size → (∀ j ∈ predsOf all i, listed.getD j false = true) → 0 < n1 → listed.getD (n1 - 1) false = true := by
  intro f
  induction f with
  | zero => intro i h1; omega
  | succ f ih =>
    intro i h1 h2 h3 h4 h5
    simp only [tailG, Bool.and_eq_true] at h
    have := (List.all_eq_true.1 h.2) i (List.mem_range'.2 ⟨i - n1, by omega, by omega⟩)
    obtain ⟨p, hp, h6⟩ := List.any_eq_true.1 this
    simp only [Bool.and_eq_true, decide_eq_true_eq] at h6
    have hl := h4 p hp
    by_cases c : p = n1 - 1
    · rw [← c]; exact hl
    · exact ih p (by omega) (by omega) (by omega) (fun j hj => hd p hl j hj) h5

theorem tailG_all {n1 : Nat} {all : Array Oper} (h : tailG n1 all = true) {listed : Array Bool} (hd : Down all listed) (i : Nat) (h2 : n1 ≤ i) (h3 : i < all.size) (h4 : ∀ j ∈ predsOf all i, listed.getD j false = true) : ∀ j, j < n1 → listed.getD j false = true := by
  intro j hj
  have hl := tailG_last h hd (i + 1) i (by omega) h2 h3 h4 (by omega)
  have key : ∀ (d j : Nat), j + d = n1 - 1 → j < n1 → listed.getD j false = true := by
    intro d
    induction d using Nat.strongRecOn with
    | _ d ih =>
      intro j h5 h6
      by_cases c : j = n1 - 1
      · rw [c]; exact hl
      · simp only [tailG, Bool.and_eq_true] at h
        have := (List.all_eq_true.1 h.1) j (List.mem_range.2 (by omega))
        obtain ⟨j', hj', h7⟩ := List.any_eq_true.1 this
        obtain ⟨k, hk, rfl⟩ := List.mem_range'.1 hj'
        exact hd _ (ih (n1 - 1 - (j + 1 + 1 * k)) (by omega) (j + 1 + 1 * k) (by omega) (by omega)) j (List.contains_iff_mem.1 h7)
  exact key (n1 - 1 - j) j (by omega) hj

theorem draw_anyQ {P : Program} {all : Array Oper} {e : St} {Q : Exit → Act → World → Prop} {w0 : World} {g0 : Gh} {n1 m : Nat} (hok : drawOkN n1 all = true) (htail : tailG n1 all = true) (hsize : all.size = n1 + m)
    (hst : ∀ (i : Nat) (o : Oper), i < n1 → all[i]? = some o → ∃ (si : St) (y : AV), QStep P all o si y ∧ si.nt = e.nt ∧ si.objs = e.objs ∧ si.st = e.st ∧
        (∀ t, (∀ (j : Nat) (o' : Oper), i ≤ j → j < n1 → all[j]? = some o' → o'.dst ≠ some t) → lookS e.slots t = lookS si.slots t) ∧
        (∀ d, o.dst = some d → (∀ (j : Nat) (o' : Oper), i < j → j < n1 → all[j]? = some o' → o'.dst ≠ some d) → lookS e.slots d = some y))
    (hQ : ∀ listed a' w' g', listed.size = all.size → (∀ i, i < all.size → listed.getD i true = decide (i < n1)) → Sim e a' w' g' → Keep g0 w0 g' w' → wpAny P .any all Q m listed a' w') :
    ∀ (f1 : Nat) (listed : Array Bool) (s : St) (a : Act) (w : World) (g : Gh), listed.size = all.size → nOff listed = f1 + m → (∀ i, n1 ≤ i → i < n1 + m → listed.getD i true = false) → Down all listed →
      Sim s a w g → Keep g0 w0 g w → UptoN n1 all listed e s → wpAny P .any all Q (f1 + m) listed a w := by
  intro f1
  have hgg : ∀ (listed : Array Bool) (i : Nat), listed.size = all.size → i < all.size → listed.getD i false = listed.getD i true := by
    intro listed i hs hi
    simp only [Array.getD_eq_getD_getElem?, Array.getElem?_eq_getElem (show i < listed.size by omega), Option.getD_some]
  induction f1 with
  | zero =>
    intro listed s a w g hsz hn htl hdn hs hk hu
    rw [Nat.zero_add] at hn ⊢
    have hsp := nOff_split (by omega) htl
    have hz : (listed.toList.take n1).countP (! ·) = 0 := by omega
    have hall : ∀ i, i < n1 → listed.getD i true = true := fun i hi => take_all_listed hz hi (by omega)
    refine hQ listed a w g hsz ?_ (hs.congr hu.nt.symm ?_ hu.objs.symm hu.st.symm) hk
    · intro i hi
      by_cases h : i < n1
      · rw [hall i h]; simp [h]
      · rw [htl i (by omega) (by omega)]; simp [h]
    · intro t
      exact (hu.look t (fun j o hj _ _ => hall j hj)).symm
  | succ f1 ih =>
    intro listed s a w g hsz hn htl hdn hs hk hu
    have hsp := nOff_split (by omega) htl
    have hquiet : ∀ i, i ∈ Region.ready .any all listed → i < n1 := by
      intro i hi
      obtain ⟨o, h1, h2, h3, h4⟩ := ready_spec hi
      rcases Nat.lt_or_ge i n1 with h5 | h5
      · exact h5
      exfalso
      have h6 := tailG_all htail hdn i h5 h2 h4
      have : (listed.toList.take n1).countP (! ·) = 0 := by
        rw [List.countP_eq_zero]
        intro b hb
        obtain ⟨j, hj⟩ := List.mem_iff_getElem?.1 hb
        rw [List.getElem?_take] at hj
        split at hj
        · rename_i hji
          have h9 := h6 j hji
          rw [Array.getElem?_toList] at hj
          simp only [Array.getD_eq_getD_getElem?, hj, Option.getD_some] at h9
          simp [h9]
        · simp at hj
      omega
    rw [show f1 + 1 + m = (f1 + m) + 1 by omega]
    refine ⟨?_, ?_⟩
    · intro hnil
      exfalso
      have hex : ∃ i, i < all.size ∧ listed.getD i true = false := by
        by_cases h : ∃ i, i < all.size ∧ listed.getD i true = false
        · exact h
        · exfalso
          have : nOff listed = 0 := by
            unfold nOff
            rw [List.countP_eq_zero]
            intro b hb
            obtain ⟨i, hi⟩ := List.mem_iff_getElem?.1 hb
            simp only [Array.getElem?_toList] at hi
            have hlt : i < listed.size := by
              rcases Nat.lt_or_ge i listed.size with h' | h'
              · exact h'
              · simp [Array.getElem?_eq_none h'] at hi
            have h2 : listed.getD i true ≠ false := fun hc => h ⟨i, by omega, hc⟩
            simp only [Array.getD_eq_getD_getElem?, hi, Option.getD_some] at h2
            cases b <;> simp at h2 ⊢
          omega
      obtain ⟨i0, hi0⟩ := hex
      obtain ⟨m', ⟨hm1, hm2⟩, hm3⟩ := least (p := fun i => i < all.size ∧ listed.getD i true = false) hi0
      have hmem : m' ∈ Region.ready .any all listed := by
        refine mem_ready hm1 hm2 ?_
        intro j hj
        have ho : all[m']? = some all[m'] := Array.getElem?_eq_getElem hm1
        simp only [predsOf, ho, List.mem_map, List.mem_filter, Array.mem_toList_iff] at hj
        obtain ⟨e', ⟨he, hb⟩, rfl⟩ := hj
        have hlt := (drawOkN_spec hok ho).1 e' he hb
        rw [hgg listed e'.on hsz (by omega)]
        cases hd : listed.getD e'.on true with
        | true => rfl
        | false => exact absurd ⟨by omega, hd⟩ (hm3 e'.on hlt)
      rw [hnil] at hmem
      simp at hmem
    · intro i hi
      have hin := hquiet i hi
      obtain ⟨o, ho, hlt, hoff, hpre⟩ := ready_spec hi
      obtain ⟨si, y, hq, k1, k2, k3, k4, k5⟩ := hst i o hin ho
      have hspec := drawOkN_spec hok ho
      have hlook : ∀ t ∈ o.looksAt all, lookS s.slots t = lookS si.slots t := by
        intro t ht
        rw [hu.look t (fun j o' hjn hj hd => by
          obtain ⟨_, h2⟩ := hspec.2 hin j o' t hjn hj hd
          obtain ⟨_, e', he, hb, rfl⟩ := h2 ht
          have hm : e'.on ∈ predsOf all i := by
            simp only [predsOf, ho, List.mem_map, List.mem_filter, Array.mem_toList_iff]
            exact ⟨e', ⟨he, hb⟩, rfl⟩
          have := hpre _ hm
          rw [hgg listed e'.on hsz (by omega)] at this
          exact this)]
        refine k4 t (fun j o' hj hjn hj2 hd => ?_)
        have := ((hspec.2 hin j o' t hjn hj2 hd).2 ht).1
        omega
      have hstep := hq s (hu.nt.trans k1.symm) (hu.objs.trans k2.symm) (hu.st.trans k3.symm) hlook a w g hs
        (wpAny P .any all Q (f1 + m) (listed.setIfInBounds i true)) Q (fun a' w' g' hs' hk' => by
          refine ih (listed.setIfInBounds i true) (s.put o.dst y) a' w' g' (by simp [hsz]) (by have := nOff_set (by omega) hoff; omega) ?_ (hdn.set hpre) hs' (hk.trans hk') ?_
          · intro j hj1 hj2
            simp only [Array.getD_eq_getD_getElem?, Array.getElem?_setIfInBounds_ne (show i ≠ j by omega)]
            have := htl j hj1 hj2
            simpa only [Array.getD_eq_getD_getElem?] using this
          refine ⟨by rw [put_nt]; exact hu.nt, by rw [put_objs]; exact hu.objs, by rw [put_st]; exact hu.st, ?_⟩
          intro t ht
          rw [put_look]
          split
          · rename_i hd
            refine (k5 t hd (fun j o' hj hjn hj2 hd2 => ?_)).symm
            rcases (hspec.2 hin j o' t hjn hj2 hd2).1 with h1 | h1
            · omega
            · exact h1 hd
          · rename_i hd
            refine hu.look t (fun j o' hjn hj hd2 => ?_)
            have := ht j o' hjn hj hd2
            by_cases hji : j = i
            · subst hji; rw [ho] at hj; obtain rfl := Option.some.inj hj; exact absurd hd2 hd
            · simp only [Array.getD_eq_getD_getElem?, Array.getElem?_setIfInBounds_ne (fun h => hji h.symm)] at this ⊢
              exact this)
      unfold wpOp
      simp only [ho]
      split at hstep
      · rename_i hw; rw [if_pos hw]; exact .inl hstep
      · rename_i hw; rw [if_neg hw]; exact hstep


def dagChkF (D0 : Nat) (all : Array Oper) (list : List (Nat × List (Nat × Nat))) : Bool :=
  keysOk [D0] list &&
  (D0 :: list.map (·.1)).all fun D => ((List.range all.size).any (readyB all D) || D == lastK D0 list) &&
    (List.range all.size).all fun i => !readyB all D i || list.any fun p => p.1 == (D ||| 2 ^ i) && p.2.contains (D, i)

theorem dag_main {P : Program} {all : Array Oper} {s : St} {Q : AE → St → Prop} {Ω : Type} (ω0 : Ω) (D0 : Nat) (list : List (Nat × List (Nat × Nat))) (hc : dagChkF D0 all list = true)
    (h : DagP P all (fun s2 => At .normal s2 Q) list [(D0, fun _ : Ω => s)]) {g : Gh} {w : World} (n : Nat) (listed0 : Array Bool) (a0 : Act) (w0 : World) (g0' : Gh) (hsz0 : listed0.size = all.size) (hn0 : nOff listed0 = n) (hb0 : ∀ j, listed0.getD j false = D0.testBit j)
    (hs0 : Sim s a0 w0 g0') (hk0 : Keep g w g0' w0) : wpAny P .any all (fun e a' w' => ∃ ae s' g', e = ae.up ∧ Q ae s' ∧ Sim s' a' w' g' ∧ Keep g w g' w') n listed0 a0 w0 := by
  simp only [dagChkF, Bool.and_eq_true] at hc
  obtain ⟨hc1, hc2⟩ := hc
  obtain ⟨fam, hbase, hedge, Sf, hf, hK⟩ := DagP.fam list [(D0, fun _ : Ω => s)] [D0] D0 h hc1 (fun m S hl => by
    simp only [lookF] at hl
    split at hl
    · rename_i e; rw [← e]; exact List.mem_cons_self
    · cases hl) ⟨_, _, rfl, rfl⟩
  have main : ∀ (f D : Nat) (listed : Array Bool) (S : Ω → St) (ω : Ω) (a' : Act) (w' : World) (g' : Gh), listed.size = all.size → nOff listed = f → (∀ j, listed.getD j false = D.testBit j) → D ∈ D0 :: list.map (·.1) →
      lookF fam D = some S → Sim (S ω) a' w' g' → Keep g w g' w' →
      wpAny P .any all (fun e a' w' => ∃ ae s' g', e = ae.up ∧ Q ae s' ∧ Sim s' a' w' g' ∧ Keep g w g' w') f listed a' w' := by
    intro f
    induction f with
    | zero =>
      intro D listed S ω a' w' g' hsz hn hb hD hl hs' hk'
      have hall : ∀ i, i < all.size → listed.getD i true = true := fun i hi => by
        have hmem : listed[i] ∈ listed.toList := by simp
        have := List.countP_eq_zero.1 hn _ hmem
        simp only [Array.getD_eq_getD_getElem?, Array.getElem?_eq_getElem (show i < listed.size by omega), Option.getD_some]
        simpa using this
      have hbit : ∀ i, i < all.size → D.testBit i = true := fun i hi => by
        rw [← hb i]
        have := hall i hi
        simp only [Array.getD_eq_getD_getElem?, Array.getElem?_eq_getElem (show i < listed.size by omega), Option.getD_some] at this ⊢
        exact this
      refine ⟨?_, ?_⟩
      · rw [List.eq_nil_iff_forall_not_mem]
        intro i hi
        obtain ⟨o, h1, h2, h3, _⟩ := ready_spec hi
        rw [hall i h2] at h3; cases h3
      · have hd := List.all_eq_true.1 hc2 D hD
        rw [Bool.and_eq_true, Bool.or_eq_true] at hd
        rcases hd.1 with h1 | h1
        · exfalso
          obtain ⟨i, hi, h2⟩ := List.any_eq_true.1 h1
          rw [List.mem_range] at hi
          simp only [readyB, hbit i hi] at h2
          cases h2
        · rw [beq_iff_eq] at h1
          subst h1
          rw [hf] at hl
          obtain rfl := Option.some.inj hl
          exact ⟨.normal, _, g', rfl, (hK ω).out, hs', hk'⟩
    | succ f ih =>
      intro D listed S ω a' w' g' hsz hn hb hD hl hs' hk'
      have hd := List.all_eq_true.1 hc2 D hD
      rw [Bool.and_eq_true, Bool.or_eq_true] at hd
      have hgt : ∀ j, j < all.size → listed.getD j true = listed.getD j false := fun j hj => by
        simp only [Array.getD_eq_getD_getElem?, Array.getElem?_eq_getElem (show j < listed.size by omega), Option.getD_some]
      refine ⟨?_, ?_⟩
      · intro hnil
        rcases hd.1 with h1 | h1
        · exfalso
          obtain ⟨i, hi, h2⟩ := List.any_eq_true.1 h1
          rw [List.mem_range] at hi
          simp only [readyB, Bool.and_eq_true, Bool.not_eq_true'] at h2
          have : i ∈ Region.ready .any all listed := mem_ready hi (by rw [hgt i hi, hb i]; exact h2.1) (fun j hj => by rw [hb j]; exact List.all_eq_true.1 h2.2 j hj)
          rw [hnil] at this
          cases this
        · rw [beq_iff_eq] at h1
          subst h1
          rw [hf] at hl
          obtain rfl := Option.some.inj hl
          exact ⟨.normal, _, g', rfl, (hK ω).out, hs', hk'⟩
      · intro i hi
        obtain ⟨o, ho, hlt, hoff, hpre⟩ := ready_spec hi
        have hr : readyB all D i = true := by
          simp only [readyB, Bool.and_eq_true, Bool.not_eq_true']
          refine ⟨by rw [← hb i, ← hgt i hlt]; exact hoff, List.all_eq_true.2 fun j hj => ?_⟩
          rw [← hb j]; exact hpre j hj
        have h3 := List.all_eq_true.1 hd.2 i (List.mem_range.2 hlt)
        rw [hr] at h3
        simp only [Bool.not_true, Bool.false_or] at h3
        obtain ⟨p, hp, h4⟩ := List.any_eq_true.1 h3
        rw [Bool.and_eq_true, beq_iff_eq] at h4
        obtain ⟨S', hl', hE⟩ := hedge p hp
        have hrun := hE.get (List.contains_iff_mem.1 h4.2) hl ho ω
        have hops := hrun a' w' g' hs' (fun e a2 w2 => match e with
          | .normal => wpAny P .any all (fun e a' w' => ∃ ae s' g', e = ae.up ∧ Q ae s' ∧ Sim s' a' w' g' ∧ Keep g w g' w') f (listed.setIfInBounds i true) a2 w2
          | e => ∃ ae s' g', e = ae.up ∧ Q ae s' ∧ Sim s' a2 w2 g' ∧ Keep g w g' w2) (fun a2 w2 g2 s2 q1 q2 ⟨ω', hle⟩ => by
            refine ih (D ||| 2 ^ i) (listed.setIfInBounds i true) S' ω' a2 w2 g2 (by simp [hsz]) (by have := nOff_set (by omega) hoff; omega) ?_ ?_ ?_ (hle.sim q1) (hk'.trans q2)
            · intro j
              rw [Nat.testBit_or, Nat.testBit_two_pow, ← hb j]
              by_cases hji : i = j
              · subst hji
                simp [Array.getD_eq_getD_getElem?, show i < listed.size by omega]
              · simp [Array.getD_eq_getD_getElem?, Array.getElem?_setIfInBounds_ne hji, hji]
            · rw [← h4.1]; exact List.mem_cons_of_mem _ (List.mem_map.2 ⟨p, hp, rfl⟩)
            · rw [← h4.1]; exact hl') [i] (by simp [ho])
        rw [wpOps_cons] at hops
        unfold wpOp at hops ⊢
        simp only [ho] at hops ⊢
        split at hops
        · rename_i hw
          rw [if_pos hw]
          rcases hops with h5 | h5
          · exact .inl (wp_swap (fun c a w h => h) (fun ⟨a, w, h⟩ => ⟨a, w, h⟩) h5)
          · exact .inr ⟨h5.1, by obtain ⟨a, w, h6⟩ := h5.2; exact ⟨a, w, h6⟩⟩
        · rename_i hw
          rw [if_neg hw]
          exact hops
  exact main n D0 listed0 _ ω0 a0 w0 g0' hsz0 hn0 hb0 List.mem_cons_self (hbase D0 (fun _ => s) (by simp [lookF])) hs0 hk0

/-- A region whose order is drawn: n1 quiet operations, the others behind them, in whatever order. -/
theorem RunsA.dagq {P : Program} {T : Tab} (n1 m : Nat) (hm : P.follows .mixedOrders = true) (hT : TabOk P T) {id : Nat} {all : Array Oper} {s : St} {Q : AE → St → Prop} {Ω : Type} (ω0 : Ω) (list : List (Nat × List (Nat × Nat))) (hok : drawOkN n1 all = true) (htail : tailG n1 all = true) (hsize : all.size = n1 + m)
    (hc : dagChkF (2 ^ n1 - 1) all list = true)
    (h : ∀ J : List Oper → St → Prop, (∀ os' s', QRuns P all os' s' (fun s2 => DagP P all (fun s3 => At .normal s3 Q) list [(2 ^ n1 - 1, fun _ : Ω => s2)]) → J os' s') → goQ T all (all.toList.take n1) s J) : RunsA P (.region id all true) s Q := by
  intro a w g hs
  have hq : QRuns P all (all.toList.take n1) s (fun s2 => DagP P all (fun s3 => At .normal s3 Q) list [(2 ^ n1 - 1, fun _ : Ω => s2)]) := QRuns.go hT h
  obtain ⟨e, he, h1, h2, h3, h4, h5⟩ := hq.tell
  refine wp_region_any hm ?_
  have hget : ∀ (i : Nat) (o : Oper), i < n1 → all[i]? = some o → (all.toList.take n1)[i]? = some o := fun i o hi ho => by
    rw [List.getElem?_take, if_pos hi, Array.getElem?_toList]; exact ho
  have hget2 : ∀ (j : Nat) (o : Oper), (all.toList.take n1)[j]? = some o → j < n1 ∧ all[j]? = some o := fun j o hj => by
    rw [List.getElem?_take] at hj
    split at hj
    · rename_i h'; exact ⟨h', by simpa using hj⟩
    · simp at hj
  have := draw_anyQ (P := P) (all := all) (e := e) (Q := fun e a' w' => ∃ ae s' g', e = ae.up ∧ Q ae s' ∧ Sim s' a' w' g' ∧ Keep g w g' w') (w0 := w) (g0 := g) (n1 := n1) (m := m) hok htail hsize ?_ ?_ n1 (Array.replicate all.size false) s a _ g (by simp) (by rw [nOff_replicate, hsize]) ?_ ?_ (hs.drawn (w.drawn + 1)) (Keep.drawn g w (w.drawn + 1)) ⟨h1.symm, h2.symm, h3.symm, ?_⟩
  · rw [hsize]; rw [hsize] at this; exact this
  · intro i o hi ho
    obtain ⟨si, y, k1, k2, k3, k4, k5, k6⟩ := h5 i o (hget i o hi ho)
    exact ⟨si, y, k1, k2.trans h1.symm, k3.trans h2.symm, k4.trans h3.symm, fun t ht => k5 t (fun j o' hj hj2 => ht j o' hj (hget2 j o' hj2).1 (hget2 j o' hj2).2), fun d hd ht => k6 d hd (fun j o' hj hj2 => ht j o' hj (hget2 j o' hj2).1 (hget2 j o' hj2).2)⟩
  · intro listed a' w' g' hls hli hs' hk'
    refine dag_main ω0 (2 ^ n1 - 1) list hc he m listed a' w' g' hls ?_ ?_ hs' hk'
    · have hz : (listed.toList.take n1).countP (! ·) = 0 := by
        rw [List.countP_eq_zero]
        intro b hb
        obtain ⟨j, hj⟩ := List.mem_iff_getElem?.1 hb
        rw [List.getElem?_take] at hj
        split at hj
        · rename_i hji
          have h9 := hli j (by omega)
          rw [Array.getElem?_toList] at hj
          simp only [Array.getD_eq_getD_getElem?, hj, Option.getD_some, hji, decide_true] at h9
          simp [h9]
        · simp at hj
      have hsp := nOff_split (listed := listed) (n1 := n1) (m := m) (by omega) (fun i hi1 hi2 => by rw [hli i (by omega)]; simp; omega)
      omega
    · intro j
      rw [Nat.testBit_two_pow_sub_one]
      by_cases hj : j < all.size
      · have := hli j hj
        simp only [Array.getD_eq_getD_getElem?, Array.getElem?_eq_getElem (show j < listed.size by omega), Option.getD_some] at this ⊢
        exact this
      · simp [Array.getD_eq_getD_getElem?, Array.getElem?_eq_none (show listed.size ≤ j by omega)]
        omega
  · intro i hi1 hi2
    simp [Array.getD_eq_getD_getElem?, show i < all.size by omega]
  · intro i hi
    by_cases hlt : i < all.size
    · simp [Array.getD_eq_getD_getElem?, hlt] at hi
    · simp [Array.getD_eq_getD_getElem?, hlt] at hi
  · intro t ht
    refine (h4 t (fun j o hj hd => ?_)).symm
    obtain ⟨hjn, hj'⟩ := hget2 j o hj
    have := ht j o hjn hj' hd
    have hlt : j < all.size := by omega
    simp [Array.getD_eq_getD_getElem?, hlt] at this

end Go.Proofs.YtinhdeocgchncaaFw

/- What is read-only for ever may be lent. -/
namespace Go.Proofs.YtinhdeocgchncaaFw
open Go Go.RowKit
set_option linter.unusedVariables false

theorem Val.brwV {g : Gh} {w : World} {x : AV} {v : Value} (h : Val g w x v) : Val g w (brw x) v := by
  induction h with
  | cell x v h => exact .cell _ _ (h.toBrw ⟨fun b hb => ⟨hb, rfl⟩, fun b hb => ⟨.inr hb, rfl⟩⟩ (fun id q e => by cases e))
  | nilS => exact .nilS
  | nilP => exact .nilP
  | agg cs vs hl h ih =>
    simp only [brw, brwL_eq]
    refine .agg _ _ (by simpa using hl) ?_
    intro k c u hc hu
    obtain ⟨c0, h0, rfl⟩ := get_map hc
    exact ih k c0 u h0 hu
  | tup cs vs hl h _ => exact .tup cs vs hl h
  | fn f cs vs hl h _ => exact .fn f cs vs hl h
  | hd id q b c n hl => exact .hd id q b c n hl
  | hdNil id q hl => exact .hdNil id q hl
  | ref id q sz off n b cap len c a hl hc hn ha => exact .ref id q sz off n b cap len c a hl hc hn ha
  | refNil id q sz hl => exact .refNil id q sz hl
  | ptr id q sz i k b cap len hl => exact .ptr id q sz i k b cap len hl
  | rp m cs a us hm hs hc ht => exact .rp m cs a us hm hs hc ht
  | vp cs a us hm hs hc ht _ => exact .vp cs a us hm hs hc ht
  | dead v => exact .dead v

theorem FnA.ro {P : Program} {f : FuncId} {st : Bool} {xs : List AV} {os : List (Nat × List AV)} {R : AV → List (Nat × List AV) → List (Nat × List AV) → Prop} (h : FnA P f st (brwL xs) os R) : FnA P f st xs os R :=
  ⟨h.ok, fun vs w g h0 h1 h2 h3 h4 h5 => h.calls vs w g h0 (by rw [h1, brwL_eq]; simp) (fun k x u hx hu => by
    rw [brwL_eq] at hx
    obtain ⟨x0, h6, rfl⟩ := get_map hx
    exact (h2 k x0 u h6 hu).brwV) h3 h4 h5⟩

end Go.Proofs.YtinhdeocgchncaaFw

/- Returns of what is read-only from now on. -/
namespace Go.Proofs.YtinhdeocgchncaaFw
open Go Go.RowKit
set_option linter.unusedVariables false

theorem RetV.frz {n : Nat} {R : AV → List (Nat × List AV) → List (Nat × List AV) → Prop} {s : St} {x : AV} {id rsz : Nat} {res : List AV} (hl : lookO s.objs id = some (rsz, res)) (hb : noBoL res = true)
    (h : RetV n R { s with slots := frzS id rsz res s.slots, objs := dropO s.objs id } (frzV id rsz res x)) : RetV n R s x := by
  intro a w g v hs hv
  have hs1 : Sim { s with slots := frzS id rsz res s.slots, objs := dropO s.objs id } a w (gFrz g id) := by
    refine ⟨hs.nt, hs.defers, ?_, hs.h.freeze id, hs.st⟩
    intro t y hy
    rw [lookS_frzS] at hy
    obtain ⟨z, hz, rfl⟩ := Option.map_eq_some_iff.1 hy
    obtain ⟨v', hv', hval⟩ := hs.slot t z hz
    exact ⟨v', hv', hval.freeze hs hl hb⟩
  obtain ⟨r, os', ros, g2, k1, k2, k3⟩ := h a w _ v hs1 (hv.freeze hs hl hb)
  exact ⟨r, os', ros, g2, k1, gFrz_keep.trans k2, k3⟩

end Go.Proofs.YtinhdeocgchncaaFw

/- Structs of numbers, texts and bools: alike with themselves. -/
namespace Go.Proofs.YtinhdeocgchncaaFw
open Go Go.RowKit
set_option linter.unusedVariables false
set_option linter.unusedSimpArgs false

def valOf : AV → Value
  | .int k n => .int k n
  | .str s => .string ⟨⟨s⟩⟩
  | .bool b => .bool b
  | _ => .int .i64 0
def valsV (l : List AV) : Array Value := (l.map valOf).toArray

def eqFieldB (P : Program) : Nat → List Field → List AV → Bool
  | _, [], [] => true
  | k, f :: r, c :: cs => f.name != "_" && f.offset == k && (match P.underlying f.type, c with | some (.int _), .int _ _ => true | some .string, .str _ => true | some .bool, .bool _ => true | _, _ => false) && eqFieldB P (k + 1) r cs
  | _, _, _ => false

def eqSelfB (P : Program) (t : TypeId) (cs : List AV) : Bool :=
  (match P.underlying t with | some (.struct fs) => eqFieldB P 0 fs.toList cs | _ => false) && !P.stoodInHeld t && !P.eqGuardType P.depth t

theorem eqFieldB_kind {P : Program} : ∀ (fs : List Field) (k : Nat) (cs : List AV), eqFieldB P k fs cs = true → ∀ c ∈ cs, (∃ k n, c = .int k n) ∨ (∃ s, c = .str s) ∨ ∃ b, c = .bool b
  | [], _, [], _, c, hc => by simp at hc
  | f :: r, k, c0 :: cs, h, c, hc => by
    simp only [eqFieldB, Bool.and_eq_true] at h
    rcases List.mem_cons.1 hc with rfl | hc
    · have h3 := h.1.2
      cases c <;> simp_all
    · exact eqFieldB_kind r (k + 1) cs h.2 c hc
  | [], _, c0 :: cs, h, _, _ => by simp [eqFieldB] at h
  | f :: r, _, [], h, _, _ => by simp [eqFieldB] at h

theorem run_eqFields_self {P : Program} (w : World) (d : Nat) (cs : List AV) : ∀ (fs : List Field) (rest : List AV) (k : Nat), cs.drop k = rest → eqFieldB P k fs rest = true →
    (Op.eqFields (d + 1) (valsV cs) (valsV cs) fs).run P w = .ok true w
  | [], [], k, _, _ => rfl
  | [], c :: rest, k, _, h => by simp [eqFieldB] at h
  | f :: fs, [], k, _, h => by simp [eqFieldB] at h
  | f :: fs, c :: rest, k, hd, h => by
    simp only [eqFieldB, Bool.and_eq_true, bne_iff_ne, ne_eq, beq_iff_eq] at h
    obtain ⟨⟨⟨h1, h2⟩, h3⟩, h4⟩ := h
    have hk : k < cs.length := by
      rcases Nat.lt_or_ge k cs.length with h' | h'
      · exact h'
      · rw [List.drop_eq_nil_of_le h'] at hd; cases hd
    rw [List.drop_eq_getElem_cons hk] at hd
    obtain ⟨e1, e2⟩ := List.cons.inj hd
    have ih := run_eqFields_self w d cs fs rest (k + 1) e2 h4
    have hpe : ∃ v, v = valOf c ∧ (part f.type (valsV cs) f.offset).run P w = .ok v w ∧ (Op.equalIn (d + 1) f.type v v).run P w = .ok true w := by
      cases c with
      | int kk n =>
        have hu : ∃ k', P.underlying f.type = some (.int k') := by
          cases hh : P.underlying f.type with
          | none => rw [hh] at h3; simp at h3
          | some td => rw [hh] at h3; cases td <;> simp at h3; exact ⟨_, rfl⟩
        obtain ⟨k', hu⟩ := hu
        refine ⟨_, rfl, ?_, ?_⟩
        · rw [h2]; simp [part, isAgg, run_underlying hu, valsV, hk, e1, valOf]
        · rw [valOf, run_equalIn_int w d f.type kk k' n n hu, beq_self_eq_true]
      | str s =>
        have hu : P.underlying f.type = some .string := by
          cases hh : P.underlying f.type with
          | none => rw [hh] at h3; simp at h3
          | some td => rw [hh] at h3; cases td <;> simp at h3; rfl
        refine ⟨_, rfl, ?_, ?_⟩
        · rw [h2]; simp [part, isAgg, run_underlying hu, valsV, hk, e1, valOf]
        · rw [valOf, run_equalIn_string w d f.type _ _ hu, beq_self_eq_true]
      | bool b =>
        have hu : P.underlying f.type = some .bool := by
          cases hh : P.underlying f.type with
          | none => rw [hh] at h3; simp at h3
          | some td => rw [hh] at h3; cases td <;> simp at h3; rfl
        refine ⟨_, rfl, ?_, ?_⟩
        · rw [h2]; simp [part, isAgg, run_underlying hu, valsV, hk, e1, valOf]
        · rw [valOf, run_equalIn_bool w d f.type _ _ hu, beq_self_eq_true]
      | _ => exfalso; revert h3; cases P.underlying f.type with
        | none => simp
        | some td => cases td <;> simp
    obtain ⟨v, _, p1, p2⟩ := hpe
    rw [Op.eqFields, if_pos h1]
    simp only [Sem.run_bind, p1, Result.andThen_ok, p2, Bool.not_true, Bool.false_eq_true, if_false]
    exact ih

theorem eqSelf_run {P : Program} {t : TypeId} {cs : List AV} (h : eqSelfB P t cs = true) (w : World) :
    (Op.equalIn 10000 t (.agg (valsV cs)) (.agg (valsV cs))).run P w = .ok true w ∧ P.eqGuardType P.depth t = false := by
  simp only [eqSelfB, Bool.and_eq_true, Bool.not_eq_true'] at h
  obtain ⟨⟨h1, h2⟩, h3⟩ := h
  refine ⟨?_, h3⟩
  split at h1
  · rename_i fs hu
    have hf : P.fieldsOf t = fs := by simp [Program.fieldsOf, hu]
    have := run_equalIn_agg (P := P) w 9999 t (valsV cs) (valsV cs) (by rw [hf]; exact hu) h2
    rw [show (10000 : Nat) = 9999 + 1 from rfl, this, hf]
    exact run_eqFields_self (P := P) w 9998 cs fs.toList cs 0 rfl h1
  · simp at h1

theorem Val.scal_inv {g : Gh} {w : World} {cs : List AV} {v : Value} (hk : ∀ c ∈ cs, (∃ k n, c = .int k n) ∨ (∃ s, c = .str s) ∨ ∃ b, c = .bool b) (h : Val g w (.agg cs) v) : v = .agg (valsV cs) := by
  cases h with
  | cell _ _ h => cases h
  | agg _ vs hl hc =>
    congr 1
    apply Array.ext
    · simp [valsV]; simpa using hl
    · intro i h1 h2
      have hi : i < cs.length := by simpa [valsV] using h2
      have := hc i cs[i] vs[i] (by simp [hi]) (Array.getElem?_eq_getElem h1)
      simp only [valsV, List.getElem_toArray, List.getElem_map]
      rcases hk _ (List.getElem_mem hi) with ⟨k, n, e⟩ | ⟨s, e⟩ | ⟨b, e⟩
      · rw [e] at this ⊢; exact this.int_inv
      · rw [e] at this ⊢; exact this.str_inv
      · rw [e] at this ⊢; exact this.bool_inv

/-- A struct told apart from itself. -/
theorem RunsL.eqSelf {P : Program} {all : Array Oper} {o : Oper} {os : List Oper} {s : St} {K : St → Prop} {op : BinOp} {t tb : TypeId} {X Y : Operand} (cs : List AV)
    (hw : wantA all s o = some true) (hop : o.op = .binOp op t X Y tb) (hb : eqSelfB P t cs = true) (hx : s.ev X = some (.agg cs)) (hy : s.ev Y = some (.agg cs))
    (hfit : s.fits o.dst = true) (z : Bool) (hz : (op = .eql ∧ z = true) ∨ (op = .neq ∧ z = false)) (h : RunsL P all os (s.put o.dst (.bool z)) K) : RunsL P all (o :: os) s K := by
  refine RunsL.step hw (StepOk.pure hfit ?_) h
  intro ac w g hs
  have hk : ∀ c ∈ cs, (∃ k n, c = .int k n) ∨ (∃ s, c = .str s) ∨ ∃ b, c = .bool b := by
    have hb' := hb
    simp only [eqSelfB, Bool.and_eq_true] at hb'
    have h1 := hb'.1.1
    split at h1
    · exact eqFieldB_kind _ _ _ h1
    · simp at h1
  have hva := (hs.ev hx).scal_inv hk
  have hvb := (hs.ev hy).scal_inv hk
  obtain ⟨h1, h2⟩ := eqSelf_run hb w
  refine ⟨.bool z, ?_, Val.mkBool _ _ _⟩
  unfold execOp
  simp only [hop, hva, hvb]
  rcases hz with ⟨rfl, rfl⟩ | ⟨rfl, rfl⟩
  · simp only [Sem.run_bind, run_eqGuard_agg w .eql t X Y _ _ h2, Result.andThen_ok, run_eql_struct, h1, Sem.run_pure]
  · simp only [Sem.run_bind, run_eqGuard_agg w .neq t X Y _ _ h2, Result.andThen_ok, run_neq_struct, h1, Sem.run_pure, Bool.not_true]

end Go.Proofs.YtinhdeocgchncaaFw
