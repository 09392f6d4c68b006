import Derived.Test.YtiilnlihimdnlaaGreatDoorFwD
import Derived.Laws.StructEq
import Derived.Lib.IfaceEq
import Derived.Lib.ConvBytes
import Derived.Laws.AppendOwn
set_option linter.unusedVariables false
set_option linter.unusedSimpArgs false
/- Regions whose order is drawn: quiet operations, and behind them all some in their order, which may write what the quiet ones read. -/
namespace Go.Proofs.YtiilnlihimdnlaaGreatDoorFw
open Go Go.RowKit
set_option linter.unusedVariables false
def drawOkN (n1 : Nat) (all : Array Oper) : Bool :=
 ((List.range all.size).all fun i =>
   match all[i]? with
   | none => true
   | some o => o.after.all fun e => !Region.binds .any e || decide (e.on < i)) &&
 (List.range n1).all fun i =>
   match all[i]? with
   | none => true
   | some o =>
    (List.range n1).all fun j =>
      match (all[j]?).bind (·.dst) with
      | none => true
      | some d =>
       (decide (j = i) || o.dst != some d) &&
       (!(o.looksAt all).contains d || (decide (j < i) && o.after.any fun e => Region.binds .any e && e.on == j))
theorem drawOkN_spec {n1 : Nat} {all : Array Oper} (h : drawOkN n1 all = true) {i : Nat} {o : Oper} (hi : all[i]? = some o) :
 (∀ e ∈ o.after, Region.binds .any e = true → e.on < i) ∧
 (i < n1 → ∀ j o' d, j < n1 → all[j]? = some o' → o'.dst = some d → (j = i ∨ o.dst ≠ some d) ∧ (d ∈ o.looksAt all → j < i ∧ ∃ e ∈ o.after, Region.binds .any e = true ∧ e.on = j)) := by
 have hlt : i < all.size := by
  rcases Nat.lt_or_ge i all.size with h' | h'
  ·exact h'
  ·simp [Array.getElem?_eq_none h'] at hi
 unfold drawOkN at h
 rw [Bool.and_eq_true, List.all_eq_true, List.all_eq_true] at h
 refine ⟨?_, ?_⟩
 ·have h1 := h.1 i (List.mem_range.2 hlt)
  simp only [hi] at h1
  intro e he hb
  rw [Array.all_eq_true'] at h1
  have := h1 e he
  rw [hb] at this
  simpa using this
 ·intro hn j o' d hj hj2 hd
  have h1 := h.2 i (List.mem_range.2 hn)
  simp only [hi] at h1
  have h2 := (List.all_eq_true.1 h1) j (List.mem_range.2 hj)
  simp only [hj2, Option.bind_some, hd, Bool.and_eq_true, Bool.or_eq_true, decide_eq_true_eq, bne_iff_ne, Bool.not_eq_true'] at h2
  refine ⟨h2.1, fun hl => ?_⟩
  rcases h2.2 with h3 | ⟨h3, h4⟩
  ·have : (o.looksAt all).contains d = true := List.contains_iff_mem.2 hl
   rw [h3] at this; cases this
  ·obtain ⟨e, he, h5⟩ := Array.any_eq_true'.1 h4
   rw [Bool.and_eq_true, beq_iff_eq] at h5
   exact ⟨h3, e, he, h5.1, h5.2⟩
theorem draw_tailM {P : Program} {all : Array Oper} {Q : Exit → Act → World → Prop} {n1 : Nat} (hok : drawOkN n1 all = true) (ht : tailOk n1 all = true) :
 ∀ (m k : Nat) (listed : Array Bool) (a : Act) (w : World), all.size = k + m → n1 ≤ k → listed.size = all.size → (∀ i, i < all.size → listed.getD i true = decide (i < k)) →
  wpOps P all Q (List.range' k m) a w → wpAny P .any all Q m listed a w := by
 intro m
 have hchain : ∀ i, n1 < i → i < all.size → i - 1 ∈ predsOf all i := by
  intro i h1 h2
  simp only [tailOk, Bool.and_eq_true] at ht
  have := (List.all_eq_true.1 ht.2) i (List.mem_range'.2 ⟨i - (n1 + 1), by omega, by omega⟩)
  exact List.contains_iff_mem.1 this
 have hgf : ∀ (listed : Array Bool) (k i : Nat), listed.size = all.size → (∀ i, i < all.size → listed.getD i true = decide (i < k)) → i < all.size → listed.getD i false = decide (i < k) := by
  intro listed k i hs hl hi
  have := hl i hi
  simp only [Array.getD_eq_getD_getElem?, Array.getElem?_eq_getElem (show i < listed.size by omega), Option.getD_some] at this ⊢
  exact this
 induction m with
 | zero =>
  intro k listed a w hsz hk hls hl h
  refine ⟨?_, h⟩
  rw [List.eq_nil_iff_forall_not_mem]
  intro i hi
  obtain ⟨o, h1, h2, h3, _⟩ := ready_spec hi
  rw [hl i h2] at h3
  simp only [decide_eq_false_iff_not] at h3
  omega
 | succ m ih =>
  intro k listed a w hsz hk hls hl h
  have hkr : k ∈ Region.ready .any all listed := by
   refine mem_ready (by omega) (by rw [hl k (by omega)]; simp) ?_
   intro j hj
   have ho : all[k]? = some all[k] := Array.getElem?_eq_getElem (by omega)
   simp only [predsOf, ho, List.mem_map, List.mem_filter, Array.mem_toList_iff] at hj
   obtain ⟨e, ⟨he, hb⟩, rfl⟩ := hj
   have := (drawOkN_spec hok ho).1 e he hb
   rw [hgf listed k e.on hls hl (by omega)]
   simpa using this
  refine ⟨fun hnil => by rw [hnil] at hkr; simp at hkr, ?_⟩
  intro i hi
  obtain ⟨o, h1, h2, h3, h4⟩ := ready_spec hi
  rw [hl i h2] at h3
  simp only [decide_eq_false_iff_not] at h3
  have hik : i = k := by
   rcases Nat.lt_or_ge k i with h5 | h5
   ·have h6 := h4 (i - 1) (hchain i (by omega) h2)
    rw [hgf listed k (i - 1) hls hl (by omega)] at h6
    simp only [decide_eq_true_eq] at h6
    omega
   ·omega
  subst hik
  rw [List.range'_succ, wpOps_cons] at h
  have key : ∀ a' w', wpOps P all Q (List.range' (i + 1) m) a' w' → wpAny P .any all Q m (listed.setIfInBounds i true) a' w' := by
   intro a' w' h'
   refine ih (i + 1) _ a' w' (by omega) (by omega) (by simp [hls]) ?_ h'
   intro j hj
   by_cases e : j = i
   ·subst e
    simp [Array.getD_eq_getD_getElem?, show j < listed.size by omega]
   ·simp only [Array.getD_eq_getD_getElem?, Array.getElem?_setIfInBounds_ne (fun h => e h.symm)]
    have := hl j hj
    simp only [Array.getD_eq_getD_getElem?] at this
    rw [this]
    by_cases h8 : j < i
    ·simp [h8]; omega
    ·simp [h8]; omega
  unfold wpOp at h ⊢
  rw [h1] at h ⊢
  simp only at h ⊢
  split at h
  ·rename_i hw
   rw [if_pos hw]
   rcases h with h | h
   ·exact .inl (Oper.wp_mono key h)
   ·exact .inr h
  ·rename_i hw
   rw [if_neg hw]
   exact key _ _ h
theorem draw_anyM {P : Program} {all : Array Oper} {e : St} {Q : Exit → Act → World → Prop} {w0 : World} {g0 : Gh} {n1 m : Nat} (hok : drawOkN n1 all = true) (htail : tailOk n1 all = true) (hsize : all.size = n1 + m)
 (hst : ∀ (i : Nat) (o : Oper), i < n1 → all[i]? = some o → ∃ (si : St) (y : AV), QStep P all o si y ∧ si.nt = e.nt ∧ si.objs = e.objs ∧ si.st = e.st ∧
   (∀ t, (∀ (j : Nat) (o' : Oper), i ≤ j → j < n1 → all[j]? = some o' → o'.dst ≠ some t) → lookS e.slots t = lookS si.slots t) ∧
   (∀ d, o.dst = some d → (∀ (j : Nat) (o' : Oper), i < j → j < n1 → all[j]? = some o' → o'.dst ≠ some d) → lookS e.slots d = some y))
 (hQ : ∀ a' w' g', Sim e a' w' g' → Keep g0 w0 g' w' → wpOps P all Q (List.range' n1 m) a' w') :
 ∀ (f1 : Nat) (listed : Array Bool) (s : St) (a : Act) (w : World) (g : Gh), listed.size = all.size → nOff listed = f1 + m → (∀ i, n1 ≤ i → i < n1 + m → listed.getD i true = false) → Down all listed →
  Sim s a w g → Keep g0 w0 g w → UptoN n1 all listed e s → wpAny P .any all Q (f1 + m) listed a w := by
 intro f1
 have hgg : ∀ (listed : Array Bool) (i : Nat), listed.size = all.size → i < all.size → listed.getD i false = listed.getD i true := by
  intro listed i hs hi
  simp only [Array.getD_eq_getD_getElem?, Array.getElem?_eq_getElem (show i < listed.size by omega), Option.getD_some]
 induction f1 with
 | zero =>
  intro listed s a w g hsz hn htl hdn hs hk hu
  rw [Nat.zero_add] at hn ⊢
  have hsp := nOff_split (by omega) htl
  have hz : (listed.toList.take n1).countP (! ·) = 0 := by omega
  have hall : ∀ i, i < n1 → listed.getD i true = true := fun i hi => take_all_listed hz hi (by omega)
  refine draw_tailM hok htail m n1 listed a w hsize (Nat.le_refl _) hsz ?_ ?_
  ·intro i hi
   by_cases h : i < n1
   ·rw [hall i h]; simp [h]
   ·rw [htl i (by omega) (by omega)]; simp [h]
  ·refine hQ a w g (hs.congr hu.nt.symm ?_ hu.objs.symm hu.st.symm) hk
   intro t
   exact (hu.look t (fun j o hj _ _ => hall j hj)).symm
 | succ f1 ih =>
  intro listed s a w g hsz hn htl hdn hs hk hu
  have hsp := nOff_split (by omega) htl
  have hquiet : ∀ i, i ∈ Region.ready .any all listed → i < n1 := by
   intro i hi
   obtain ⟨o, h1, h2, h3, h4⟩ := ready_spec hi
   rcases Nat.lt_or_ge i n1 with h5 | h5
   ·exact h5
   exfalso
   rcases Nat.lt_or_ge n1 i with h6 | h6
   ·simp only [tailOk, Bool.and_eq_true] at htail
    have := (List.all_eq_true.1 htail.2) i (List.mem_range'.2 ⟨i - (n1 + 1), by omega, by omega⟩)
    have h7 := h4 _ (List.contains_iff_mem.1 this)
    rw [hgg listed (i - 1) hsz (by omega), htl (i - 1) (by omega) (by omega)] at h7
    simp at h7
   ·have hi1 : i = n1 := by omega
    subst hi1
    simp only [tailOk, Bool.and_eq_true] at htail
    have hr := hdn.reach i _ h4
    have : (listed.toList.take i).countP (! ·) = 0 := by
     rw [List.countP_eq_zero]
     intro b hb
     obtain ⟨j, hj⟩ := List.mem_iff_getElem?.1 hb
     rw [List.getElem?_take] at hj
     split at hj
     ·rename_i hji
      have h8 := (List.all_eq_true.1 htail.1.2) j (List.mem_range.2 hji)
      have h9 := hr j (List.contains_iff_mem.1 h8)
      rw [Array.getElem?_toList] at hj
      simp only [Array.getD_eq_getD_getElem?, hj, Option.getD_some] at h9
      simp [h9]
     ·simp at hj
    omega
  rw [show f1 + 1 + m = (f1 + m) + 1 by omega]
  refine ⟨?_, ?_⟩
  ·intro hnil
   exfalso
   have hex : ∃ i, i < all.size ∧ listed.getD i true = false := by
    by_cases h : ∃ i, i < all.size ∧ listed.getD i true = false
    ·exact h
    ·exfalso
     have : nOff listed = 0 := by
      unfold nOff
      rw [List.countP_eq_zero]
      intro b hb
      obtain ⟨i, hi⟩ := List.mem_iff_getElem?.1 hb
      simp only [Array.getElem?_toList] at hi
      have hlt : i < listed.size := by
       rcases Nat.lt_or_ge i listed.size with h' | h'
       ·exact h'
       ·simp [Array.getElem?_eq_none h'] at hi
      have h2 : listed.getD i true ≠ false := fun hc => h ⟨i, by omega, hc⟩
      simp only [Array.getD_eq_getD_getElem?, hi, Option.getD_some] at h2
      cases b <;> simp at h2 ⊢
     omega
   obtain ⟨i0, hi0⟩ := hex
   obtain ⟨m', ⟨hm1, hm2⟩, hm3⟩ := least (p := fun i => i < all.size ∧ listed.getD i true = false) hi0
   have hmem : m' ∈ Region.ready .any all listed := by
    refine mem_ready hm1 hm2 ?_
    intro j hj
    have ho : all[m']? = some all[m'] := Array.getElem?_eq_getElem hm1
    simp only [predsOf, ho, List.mem_map, List.mem_filter, Array.mem_toList_iff] at hj
    obtain ⟨e', ⟨he, hb⟩, rfl⟩ := hj
    have hlt := (drawOkN_spec hok ho).1 e' he hb
    rw [hgg listed e'.on hsz (by omega)]
    cases hd : listed.getD e'.on true with
    | true => rfl
    | false => exact absurd ⟨by omega, hd⟩ (hm3 e'.on hlt)
   rw [hnil] at hmem
   simp at hmem
  ·intro i hi
   have hin := hquiet i hi
   obtain ⟨o, ho, hlt, hoff, hpre⟩ := ready_spec hi
   obtain ⟨si, y, hq, k1, k2, k3, k4, k5⟩ := hst i o hin ho
   have hspec := drawOkN_spec hok ho
   have hlook : ∀ t ∈ o.looksAt all, lookS s.slots t = lookS si.slots t := by
    intro t ht
    rw [hu.look t (fun j o' hjn hj hd => by
     obtain ⟨_, h2⟩ := hspec.2 hin j o' t hjn hj hd
     obtain ⟨_, e', he, hb, rfl⟩ := h2 ht
     have hm : e'.on ∈ predsOf all i := by
      simp only [predsOf, ho, List.mem_map, List.mem_filter, Array.mem_toList_iff]
      exact ⟨e', ⟨he, hb⟩, rfl⟩
     have := hpre _ hm
     rw [hgg listed e'.on hsz (by omega)] at this
     exact this)]
    refine k4 t (fun j o' hj hjn hj2 hd => ?_)
    have := ((hspec.2 hin j o' t hjn hj2 hd).2 ht).1
    omega
   have hstep := hq s (hu.nt.trans k1.symm) (hu.objs.trans k2.symm) (hu.st.trans k3.symm) hlook a w g hs
    (wpAny P .any all Q (f1 + m) (listed.setIfInBounds i true)) Q (fun a' w' g' hs' hk' => by
      refine ih (listed.setIfInBounds i true) (s.put o.dst y) a' w' g' (by simp [hsz]) (by have := nOff_set (by omega) hoff; omega) ?_ (hdn.set hpre) hs' (hk.trans hk') ?_
      ·intro j hj1 hj2
       simp only [Array.getD_eq_getD_getElem?, Array.getElem?_setIfInBounds_ne (show i ≠ j by omega)]
       have := htl j hj1 hj2
       simpa only [Array.getD_eq_getD_getElem?] using this
      refine ⟨by rw [put_nt]; exact hu.nt, by rw [put_objs]; exact hu.objs, by rw [put_st]; exact hu.st, ?_⟩
      intro t ht
      rw [put_look]
      split
      ·rename_i hd
       refine (k5 t hd (fun j o' hj hjn hj2 hd2 => ?_)).symm
       rcases (hspec.2 hin j o' t hjn hj2 hd2).1 with h1 | h1
       ·omega
       ·exact h1 hd
      ·rename_i hd
       refine hu.look t (fun j o' hjn hj hd2 => ?_)
       have := ht j o' hjn hj hd2
       by_cases hji : j = i
       ·subst hji; rw [ho] at hj; obtain rfl := Option.some.inj hj; exact absurd hd2 hd
       ·simp only [Array.getD_eq_getD_getElem?, Array.getElem?_setIfInBounds_ne (fun h => hji h.symm)] at this ⊢
        exact this)
   unfold wpOp
   simp only [ho]
   split at hstep
   ·rename_i hw; rw [if_pos hw]; exact .inl hstep
   ·rename_i hw; rw [if_neg hw]; exact hstep
theorem RunsA.dqtn {P : Program} {T : Tab} (n1 m : Nat) (hm : P.follows .mixedOrders = true) (hT : TabOk P T) {id : Nat} {all : Array Oper} {s : St} {Q : AE → St → Prop} (hok : drawOkN n1 all = true) (htail : tailOk n1 all = true) (hsize : all.size = n1 + m)
 (h : ∀ J : List Oper → St → Prop, (∀ os' s', QRuns P all os' s' (fun s2 => RunsL P all (all.toList.drop n1) s2 (fun s3 => At .normal s3 Q)) → J os' s') → goQ T all (all.toList.take n1) s J) : RunsA P (.region id all true) s Q := by
 intro a w g hs
 have hq : QRuns P all (all.toList.take n1) s (fun s2 => RunsL P all (all.toList.drop n1) s2 (fun s3 => At .normal s3 Q)) := QRuns.go hT h
 obtain ⟨e, he, h1, h2, h3, h4, h5⟩ := hq.tell
 refine wp_region_any hm ?_
 have hget : ∀ (i : Nat) (o : Oper), i < n1 → all[i]? = some o → (all.toList.take n1)[i]? = some o := fun i o hi ho => by
  rw [List.getElem?_take, if_pos hi, Array.getElem?_toList]; exact ho
 have hget2 : ∀ (j : Nat) (o : Oper), (all.toList.take n1)[j]? = some o → j < n1 ∧ all[j]? = some o := fun j o hj => by
  rw [List.getElem?_take] at hj
  split at hj
  ·rename_i h'; exact ⟨h', by simpa using hj⟩
  ·simp at hj
 have hmap : (List.range' n1 m).map (all[·]?) = (all.toList.drop n1).map some := by
  apply List.ext_getElem?
  intro i
  simp only [List.getElem?_map, List.getElem?_drop, Array.getElem?_toList]
  by_cases hi : i < m
  ·rw [List.getElem?_range' hi]
   simp only [Option.map_some, Nat.one_mul]
   rw [Array.getElem?_eq_getElem (by omega)]; rfl
  ·rw [List.getElem?_eq_none (by simp; omega), Array.getElem?_eq_none (by omega)]; rfl
 have := draw_anyM (P := P) (all := all) (e := e) (Q := fun e a' w' => ∃ ae s' g', e = ae.up ∧ Q ae s' ∧ Sim s' a' w' g' ∧ Keep g w g' w') (w0 := w) (g0 := g) (n1 := n1) (m := m) hok htail hsize ?_ ?_ n1 (Array.replicate all.size false) s a _ g (by simp) (by rw [nOff_replicate, hsize]) ?_ ?_ (hs.drawn (w.drawn + 1)) (Keep.drawn g w (w.drawn + 1)) ⟨h1.symm, h2.symm, h3.symm, ?_⟩
 ·rw [hsize]; rw [hsize] at this; exact this
 ·intro i o hi ho
  obtain ⟨si, y, k1, k2, k3, k4, k5, k6⟩ := h5 i o (hget i o hi ho)
  exact ⟨si, y, k1, k2.trans h1.symm, k3.trans h2.symm, k4.trans h3.symm, fun t ht => k5 t (fun j o' hj hj2 => ht j o' hj (hget2 j o' hj2).1 (hget2 j o' hj2).2), fun d hd ht => k6 d hd (fun j o' hj hj2 => ht j o' hj (hget2 j o' hj2).1 (hget2 j o' hj2).2)⟩
 ·intro a' w' g' hs' hk'
  exact he a' w' g' hs' _ (fun a2 w2 g2 s2 q1 q2 q3 => ⟨.normal, s2, g2, rfl, q3.out, q1, hk'.trans q2⟩) _ hmap
 ·intro i hi1 hi2
  simp [Array.getD_eq_getD_getElem?, show i < all.size by omega]
 ·intro i hi
  by_cases hlt : i < all.size
  ·simp [Array.getD_eq_getD_getElem?, hlt] at hi
  ·simp [Array.getD_eq_getD_getElem?, hlt] at hi
 ·intro t ht
  refine (h4 t (fun j o hj hd => ?_)).symm
  obtain ⟨hjn, hj'⟩ := hget2 j o hj
  have := ht j o hjn hj' hd
  have hlt : j < all.size := by omega
  simp [Array.getD_eq_getD_getElem?, hlt] at this
end Go.Proofs.YtiilnlihimdnlaaGreatDoorFw
/- Regions whose order is drawn: what is listed so far, a state for each; ways that meet are walked once. -/
namespace Go.Proofs.YtiilnlihimdnlaaGreatDoorFw
open Go Go.RowKit
set_option linter.unusedVariables false
structure LeS (s s2 : St) : Prop where
 nt : s.nt = s2.nt
 slots : ∀ t x, lookS s.slots t = some x → lookS s2.slots t = some x
 objs : ∀ i p, lookO s.objs i = some p → lookO s2.objs i = some p
 st : s.st = s2.st
theorem LeS.refl (s : St) : LeS s s := ⟨rfl, fun _ _ h => h, fun _ _ h => h, rfl⟩
theorem LeS.of {s s2 : St} (h1 : s.nt = s2.nt) (h2 : SubS s.slots s2.slots) (h3 : SubO s.objs s2.objs) (h4 : s.st = s2.st) : LeS s s2 := ⟨h1, fun _ _ h => h2.look h, fun _ _ h => h3.look h, h4⟩
theorem LeS.sim {s s' : St} (h : LeS s' s) {a : Act} {w : World} {g : Gh} (hs : Sim s a w g) : Sim s' a w g where
 nt := hs.nt.trans h.nt.symm
 defers := hs.defers
 slot := fun t x hx => hs.slot t x (h.slots t x hx)
 h := ⟨fun id sz es hl => hs.h.obj id sz es (h.objs id _ hl), hs.h.sep, hs.h.rdlt⟩
 st := h.st.trans hs.st
def lookF {Ω : Type} : List (Nat × (Ω → St)) → Nat → Option (Ω → St)
 | [], _ => none
 | p :: r, m => if p.1 = m then some p.2 else lookF r m
def EdgesP (P : Program) (all : Array Oper) {Ω : Type} (fam : List (Nat × (Ω → St))) (S : Ω → St) : List (Nat × Nat) → Prop
 | [] => True
 | p :: r => (match lookF fam p.1, all[p.2]? with
  | some S0, some o => ∀ ω, RunsL P all [o] (S0 ω) (fun s2 => ∃ ω', LeS (S ω') s2)
  | _, _ => False) ∧ EdgesP P all fam S r
def DagP (P : Program) (all : Array Oper) {Ω : Type} (K : St → Prop) : List (Nat × List (Nat × Nat)) → List (Nat × (Ω → St)) → Prop
 | [], [] => False
 | [], p :: _ => ∀ ω, K (p.2 ω)
 | p :: rest, fam => ∃ S : Ω → St, EdgesP P all fam S p.2 ∧ DagP P all K rest ((p.1, S) :: fam)
theorem DagP.step {P : Program} {all : Array Oper} {Ω : Type} {K : St → Prop} {D : Nat} {ps : List (Nat × Nat)} {rest : List (Nat × List (Nat × Nat))} {fam : List (Nat × (Ω → St))} {S : Ω → St}
 (h1 : EdgesP P all fam S ps) (h2 : DagP P all K rest ((D, S) :: fam)) : DagP P all K ((D, ps) :: rest) fam := ⟨S, h1, h2⟩
theorem DagP.done {P : Program} {all : Array Oper} {Ω : Type} {K : St → Prop} {D : Nat} {fam : List (Nat × (Ω → St))} {S : Ω → St} (h : ∀ ω, K (S ω)) : DagP P all K [] ((D, S) :: fam) := h
theorem EdgesP.cons {P : Program} {all : Array Oper} {Ω : Type} {fam : List (Nat × (Ω → St))} {S S0 : Ω → St} {m i : Nat} {r : List (Nat × Nat)} {o : Oper} (hl : lookF fam m = some S0) (ho : all.toList[i]? = some o)
 (h : ∀ ω, RunsL P all [o] (S0 ω) (fun s2 => ∃ ω', LeS (S ω') s2)) (hr : EdgesP P all fam S r) : EdgesP P all fam S ((m, i) :: r) := by
 refine ⟨?_, hr⟩
 rw [Array.getElem?_toList] at ho
 simp only [hl, ho]
 exact h
theorem EdgesP.nil {P : Program} {all : Array Oper} {Ω : Type} {fam : List (Nat × (Ω → St))} {S : Ω → St} : EdgesP P all fam S [] := trivial
def keysOk : List Nat → List (Nat × List (Nat × Nat)) → Bool
 | _, [] => true
 | ks, p :: r => !ks.contains p.1 && keysOk (p.1 :: ks) r
def lastK : Nat → List (Nat × List (Nat × Nat)) → Nat
 | k, [] => k
 | _, p :: r => lastK p.1 r
def readyB (all : Array Oper) (D i : Nat) : Bool := !D.testBit i && (predsOf all i).all fun j => D.testBit j
def dagChk (all : Array Oper) (list : List (Nat × List (Nat × Nat))) : Bool :=
 keysOk [0] list &&
 (0 :: list.map (·.1)).all fun D => ((List.range all.size).any (readyB all D) || D == lastK 0 list) &&
   (List.range all.size).all fun i => !readyB all D i || list.any fun p => p.1 == (D ||| 2 ^ i) && p.2.contains (D, i)
theorem EdgesP.mono {P : Program} {all : Array Oper} {Ω : Type} {fam fam' : List (Nat × (Ω → St))} {S : Ω → St} (hm : ∀ m S0, lookF fam m = some S0 → lookF fam' m = some S0) :
 ∀ {l : List (Nat × Nat)}, EdgesP P all fam S l → EdgesP P all fam' S l
 | [], _ => trivial
 | p :: r, h => by
  refine ⟨?_, EdgesP.mono hm h.2⟩
  have h1 := h.1
  cases hl : lookF fam p.1 with
  | none => rw [hl] at h1; exact h1.elim
  | some S0 => rw [hl] at h1; rw [hm _ _ hl]; exact h1
theorem EdgesP.get {P : Program} {all : Array Oper} {Ω : Type} {fam : List (Nat × (Ω → St))} {S S0 : Ω → St} {o : Oper} {m i : Nat} :
 ∀ {l : List (Nat × Nat)}, EdgesP P all fam S l → (m, i) ∈ l → lookF fam m = some S0 → all[i]? = some o → ∀ ω, RunsL P all [o] (S0 ω) (fun s2 => ∃ ω', LeS (S ω') s2)
 | [], _, hm, _, _ => by simp at hm
 | p :: r, h, hm, hl, ho => by
  rcases List.mem_cons.1 hm with e | hm
  ·subst e
   have h1 := h.1
   simp only [hl, ho] at h1
   exact h1
  ·exact EdgesP.get h.2 hm hl ho
theorem DagP.fam {P : Program} {all : Array Oper} {Ω : Type} {K : St → Prop} : ∀ (list : List (Nat × List (Nat × Nat))) (fam : List (Nat × (Ω → St))) (ks : List Nat) (k : Nat), DagP P all K list fam →
 keysOk ks list = true → (∀ m S, lookF fam m = some S → m ∈ ks) → (∃ p r, fam = p :: r ∧ p.1 = k) →
 ∃ fam' : List (Nat × (Ω → St)), (∀ m S, lookF fam m = some S → lookF fam' m = some S) ∧ (∀ p ∈ list, ∃ S, lookF fam' p.1 = some S ∧ EdgesP P all fam' S p.2) ∧
  ∃ S, lookF fam' (lastK k list) = some S ∧ ∀ ω, K (S ω)
 | [], fam, ks, k, h, hk, hin, ⟨p, r, hf, hp⟩ => by
  subst hf
  refine ⟨p :: r, fun _ _ h => h, fun q hq => by simp at hq, p.2, ?_, h⟩
  simp only [lastK, lookF, hp, if_true]
 | q :: rest, fam, ks, k, h, hk, hin, _ => by
  obtain ⟨S, h1, h2⟩ := h
  simp only [keysOk, Bool.and_eq_true, Bool.not_eq_true'] at hk
  have hnew : ∀ m S0, lookF fam m = some S0 → lookF ((q.1, S) :: fam) m = some S0 := by
   intro m S0 hl
   have hm := hin m S0 hl
   simp only [lookF]
   rw [if_neg]
   ·exact hl
   ·intro e
    have : ks.contains q.1 = true := by rw [e]; exact List.contains_iff_mem.2 hm
    rw [this] at hk; cases hk.1
  obtain ⟨fam', k1, k2, k3⟩ := DagP.fam rest ((q.1, S) :: fam) (q.1 :: ks) q.1 h2 hk.2 (fun m S0 hl => by
   simp only [lookF] at hl
   split at hl
   ·rename_i e; rw [← e]; exact List.mem_cons_self
   ·exact List.mem_cons_of_mem _ (hin m S0 hl)) ⟨_, _, rfl, rfl⟩
  refine ⟨fam', fun m S0 hl => k1 m S0 (hnew m S0 hl), ?_, k3⟩
  intro p hp
  rcases List.mem_cons.1 hp with e | hp
  ·subst e
   exact ⟨S, k1 _ _ (by simp [lookF]), h1.mono fun m S0 hl => k1 m S0 (hnew m S0 hl)⟩
  ·exact k2 p hp
theorem wp_swap {P : Program} {o : Oper} {a : Act} {w : World} {K : Act → World → Prop} {Q Q' : Exit → Act → World → Prop} (h : ∀ c a w, Q' (.panic c) a w → Q (.panic c) a w) (hl : LetsOut Q' → LetsOut Q)
 (hh : o.wp P a w K Q') : o.wp P a w K Q := by
 unfold Oper.wp at *
 generalize (execOp a.eval o).run P w = r at *
 cases r with
 | ok n w' =>
  cases n <;> simp only [Oper.upon] at hh ⊢ <;>
   first
    | exact hh
    | exact Calls.mono hh (fun e w'' he => by cases e <;> first | exact he | exact h _ _ _ he | exact hl he)
 | halt x w' => cases x <;> simp only [Oper.upon] at hh ⊢ <;> first | exact h _ _ _ hh | exact hh
theorem RunsA.dag {P : Program} (hm : P.follows .mixedOrders = true) {id : Nat} {all : Array Oper} {s : St} {Q : AE → St → Prop} {Ω : Type} (ω0 : Ω) (list : List (Nat × List (Nat × Nat))) (hc : dagChk all list = true)
 (h : DagP P all (fun s2 => At .normal s2 Q) list [(0, fun _ : Ω => s)]) : RunsA P (.region id all true) s Q := by
 intro a w g hs
 refine wp_region_any hm ?_
 simp only [dagChk, Bool.and_eq_true] at hc
 obtain ⟨hc1, hc2⟩ := hc
 obtain ⟨fam, hbase, hedge, Sf, hf, hK⟩ := DagP.fam list [(0, fun _ : Ω => s)] [0] 0 h hc1 (fun m S hl => by
  simp only [lookF] at hl
  split at hl
  ·rename_i e; rw [← e]; exact List.mem_cons_self
  ·cases hl) ⟨_, _, rfl, rfl⟩
 have main : ∀ (f D : Nat) (listed : Array Bool) (S : Ω → St) (ω : Ω) (a' : Act) (w' : World) (g' : Gh), listed.size = all.size → nOff listed = f → (∀ j, listed.getD j false = D.testBit j) → D ∈ 0 :: list.map (·.1) →
  lookF fam D = some S → Sim (S ω) a' w' g' → Keep g w g' w' →
  wpAny P .any all (fun e a' w' => ∃ ae s' g', e = ae.up ∧ Q ae s' ∧ Sim s' a' w' g' ∧ Keep g w g' w') f listed a' w' := by
  intro f
  induction f with
  | zero =>
   intro D listed S ω a' w' g' hsz hn hb hD hl hs' hk'
   have hall : ∀ i, i < all.size → listed.getD i true = true := fun i hi => by
    have hmem : listed[i] ∈ listed.toList := by simp
    have := List.countP_eq_zero.1 hn _ hmem
    simp only [Array.getD_eq_getD_getElem?, Array.getElem?_eq_getElem (show i < listed.size by omega), Option.getD_some]
    simpa using this
   have hbit : ∀ i, i < all.size → D.testBit i = true := fun i hi => by
    rw [← hb i]
    have := hall i hi
    simp only [Array.getD_eq_getD_getElem?, Array.getElem?_eq_getElem (show i < listed.size by omega), Option.getD_some] at this ⊢
    exact this
   refine ⟨?_, ?_⟩
   ·rw [List.eq_nil_iff_forall_not_mem]
    intro i hi
    obtain ⟨o, h1, h2, h3, _⟩ := ready_spec hi
    rw [hall i h2] at h3; cases h3
   ·have hd := List.all_eq_true.1 hc2 D hD
    rw [Bool.and_eq_true, Bool.or_eq_true] at hd
    rcases hd.1 with h1 | h1
    ·exfalso
     obtain ⟨i, hi, h2⟩ := List.any_eq_true.1 h1
     rw [List.mem_range] at hi
     simp only [readyB, hbit i hi] at h2
     cases h2
    ·rw [beq_iff_eq] at h1
     subst h1
     rw [hf] at hl
     obtain rfl := Option.some.inj hl
     exact ⟨.normal, _, g', rfl, (hK ω).out, hs', hk'⟩
  | succ f ih =>
   intro D listed S ω a' w' g' hsz hn hb hD hl hs' hk'
   have hd := List.all_eq_true.1 hc2 D hD
   rw [Bool.and_eq_true, Bool.or_eq_true] at hd
   have hgt : ∀ j, j < all.size → listed.getD j true = listed.getD j false := fun j hj => by
    simp only [Array.getD_eq_getD_getElem?, Array.getElem?_eq_getElem (show j < listed.size by omega), Option.getD_some]
   refine ⟨?_, ?_⟩
   ·intro hnil
    rcases hd.1 with h1 | h1
    ·exfalso
     obtain ⟨i, hi, h2⟩ := List.any_eq_true.1 h1
     rw [List.mem_range] at hi
     simp only [readyB, Bool.and_eq_true, Bool.not_eq_true'] at h2
     have : i ∈ Region.ready .any all listed := mem_ready hi (by rw [hgt i hi, hb i]; exact h2.1) (fun j hj => by rw [hb j]; exact List.all_eq_true.1 h2.2 j hj)
     rw [hnil] at this
     cases this
    ·rw [beq_iff_eq] at h1
     subst h1
     rw [hf] at hl
     obtain rfl := Option.some.inj hl
     exact ⟨.normal, _, g', rfl, (hK ω).out, hs', hk'⟩
   ·intro i hi
    obtain ⟨o, ho, hlt, hoff, hpre⟩ := ready_spec hi
    have hr : readyB all D i = true := by
     simp only [readyB, Bool.and_eq_true, Bool.not_eq_true']
     refine ⟨by rw [← hb i, ← hgt i hlt]; exact hoff, List.all_eq_true.2 fun j hj => ?_⟩
     rw [← hb j]; exact hpre j hj
    have h3 := List.all_eq_true.1 hd.2 i (List.mem_range.2 hlt)
    rw [hr] at h3
    simp only [Bool.not_true, Bool.false_or] at h3
    obtain ⟨p, hp, h4⟩ := List.any_eq_true.1 h3
    rw [Bool.and_eq_true, beq_iff_eq] at h4
    obtain ⟨S', hl', hE⟩ := hedge p hp
    have hrun := hE.get (List.contains_iff_mem.1 h4.2) hl ho ω
    have hops := hrun a' w' g' hs' (fun e a2 w2 => match e with
     | .normal => wpAny P .any all (fun e a' w' => ∃ ae s' g', e = ae.up ∧ Q ae s' ∧ Sim s' a' w' g' ∧ Keep g w g' w') f (listed.setIfInBounds i true) a2 w2
     | e => ∃ ae s' g', e = ae.up ∧ Q ae s' ∧ Sim s' a2 w2 g' ∧ Keep g w g' w2) (fun a2 w2 g2 s2 q1 q2 ⟨ω', hle⟩ => by
      refine ih (D ||| 2 ^ i) (listed.setIfInBounds i true) S' ω' a2 w2 g2 (by simp [hsz]) (by have := nOff_set (by omega) hoff; omega) ?_ ?_ ?_ (hle.sim q1) (hk'.trans q2)
      ·intro j
       rw [Nat.testBit_or, Nat.testBit_two_pow, ← hb j]
       by_cases hji : i = j
       ·subst hji
        simp [Array.getD_eq_getD_getElem?, show i < listed.size by omega]
       ·simp [Array.getD_eq_getD_getElem?, Array.getElem?_setIfInBounds_ne hji, hji]
      ·rw [← h4.1]; exact List.mem_cons_of_mem _ (List.mem_map.2 ⟨p, hp, rfl⟩)
      ·rw [← h4.1]; exact hl') [i] (by simp [ho])
    rw [wpOps_cons] at hops
    unfold wpOp at hops ⊢
    simp only [ho] at hops ⊢
    split at hops
    ·rename_i hw
     rw [if_pos hw]
     rcases hops with h5 | h5
     ·exact .inl (wp_swap (fun c a w h => h) (fun ⟨a, w, h⟩ => ⟨a, w, h⟩) h5)
     ·exact .inr ⟨h5.1, by obtain ⟨a, w, h6⟩ := h5.2; exact ⟨a, w, h6⟩⟩
    ·rename_i hw
     rw [if_neg hw]
     exact hops
 refine main all.size 0 (Array.replicate all.size false) _ ω0 a _ g (by simp) (by rw [nOff_replicate]) ?_ List.mem_cons_self (hbase 0 (fun _ => s) (by simp [lookF])) (hs.drawn (w.drawn + 1)) (Keep.drawn g w (w.drawn + 1))
 intro j
 by_cases hj : j < all.size
 ·simp [Array.getD_eq_getD_getElem?, hj]
 ·simp [Array.getD_eq_getD_getElem?, hj]
end Go.Proofs.YtiilnlihimdnlaaGreatDoorFw
/- Ways that meet in one of a family of states. -/
namespace Go.Proofs.YtiilnlihimdnlaaGreatDoorFw
open Go Go.RowKit
set_option linter.unusedVariables false
end Go.Proofs.YtiilnlihimdnlaaGreatDoorFw
/- Regions whose order is drawn: first what is quiet, then what is behind it all, by the sets of what is listed. -/
namespace Go.Proofs.YtiilnlihimdnlaaGreatDoorFw
open Go Go.RowKit
set_option linter.unusedVariables false
end Go.Proofs.YtiilnlihimdnlaaGreatDoorFw
/- What is read-only for ever may be lent. -/
namespace Go.Proofs.YtiilnlihimdnlaaGreatDoorFw
open Go Go.RowKit
set_option linter.unusedVariables false
theorem Val.brwV {g : Gh} {w : World} {x : AV} {v : Value} (h : Val g w x v) : Val g w (brw x) v := by
 induction h with
 | cell x v h => exact .cell _ _ (h.toBrw ⟨fun b hb => ⟨hb, rfl⟩, fun b hb => ⟨.inr hb, rfl⟩⟩ (fun id q e => by cases e))
 | nilS => exact .nilS
 | nilP => exact .nilP
 | agg cs vs hl h ih =>
  simp only [brw, brwL_eq]
  refine .agg _ _ (by simpa using hl) ?_
  intro k c u hc hu
  obtain ⟨c0, h0, rfl⟩ := get_map hc
  exact ih k c0 u h0 hu
 | tup cs vs hl h _ => exact .tup cs vs hl h
 | fn f cs vs hl h _ => exact .fn f cs vs hl h
 | hd id q b c n hl => exact .hd id q b c n hl
 | hdNil id q hl => exact .hdNil id q hl
 | ref id q sz off n b cap len c a hl hc hn ha => exact .ref id q sz off n b cap len c a hl hc hn ha
 | refNil id q sz hl => exact .refNil id q sz hl
 | ptr id q sz i k b cap len hl => exact .ptr id q sz i k b cap len hl
 | rp m cs a us hm hs hc ht => exact .rp m cs a us hm hs hc ht
 | vp cs a us hm hs hc ht _ => exact .vp cs a us hm hs hc ht
 | dead v => exact .dead v
theorem FnA.ro {P : Program} {f : FuncId} {st : Bool} {xs : List AV} {os : List (Nat × List AV)} {R : AV → List (Nat × List AV) → List (Nat × List AV) → Prop} (h : FnA P f st (brwL xs) os R) : FnA P f st xs os R :=
 ⟨h.ok, fun vs w g h0 h1 h2 h3 h4 h5 => h.calls vs w g h0 (by rw [h1, brwL_eq]; simp) (fun k x u hx hu => by
  rw [brwL_eq] at hx
  obtain ⟨x0, h6, rfl⟩ := get_map hx
  exact (h2 k x0 u h6 hu).brwV) h3 h4 h5⟩
end Go.Proofs.YtiilnlihimdnlaaGreatDoorFw
/- Returns of what is read-only from now on. -/
namespace Go.Proofs.YtiilnlihimdnlaaGreatDoorFw
open Go Go.RowKit
set_option linter.unusedVariables false
end Go.Proofs.YtiilnlihimdnlaaGreatDoorFw
/- Structs of numbers, texts and bools: alike with themselves. -/
namespace Go.Proofs.YtiilnlihimdnlaaGreatDoorFw
open Go Go.RowKit
set_option linter.unusedVariables false
set_option linter.unusedSimpArgs false
def valOf : AV → Value
 | .int k n => .int k n
 | .str s => .string ⟨⟨s⟩⟩
 | .bool b => .bool b
 | _ => .int .i64 0
def valsV (l : List AV) : Array Value := (l.map valOf).toArray
def eqFieldB (P : Program) : Nat → List Field → List AV → Bool
 | _, [], [] => true
 | k, f :: r, c :: cs => f.name != "_" && f.offset == k && (match P.underlying f.type, c with | some (.int _), .int _ _ => true | some .string, .str _ => true | some .bool, .bool _ => true | _, _ => false) && eqFieldB P (k + 1) r cs
 | _, _, _ => false
def eqSelfB (P : Program) (t : TypeId) (cs : List AV) : Bool :=
 (match P.underlying t with | some (.struct fs) => eqFieldB P 0 fs.toList cs | _ => false) && !P.stoodInHeld t && !P.eqGuardType P.depth t
theorem eqFieldB_kind {P : Program} : ∀ (fs : List Field) (k : Nat) (cs : List AV), eqFieldB P k fs cs = true → ∀ c ∈ cs, (∃ k n, c = .int k n) ∨ (∃ s, c = .str s) ∨ ∃ b, c = .bool b
 | [], _, [], _, c, hc => by simp at hc
 | f :: r, k, c0 :: cs, h, c, hc => by
  simp only [eqFieldB, Bool.and_eq_true] at h
  rcases List.mem_cons.1 hc with rfl | hc
  ·have h3 := h.1.2
   cases c <;> simp_all
  ·exact eqFieldB_kind r (k + 1) cs h.2 c hc
 | [], _, c0 :: cs, h, _, _ => by simp [eqFieldB] at h
 | f :: r, _, [], h, _, _ => by simp [eqFieldB] at h
theorem Val.scal_inv {g : Gh} {w : World} {cs : List AV} {v : Value} (hk : ∀ c ∈ cs, (∃ k n, c = .int k n) ∨ (∃ s, c = .str s) ∨ ∃ b, c = .bool b) (h : Val g w (.agg cs) v) : v = .agg (valsV cs) := by
 cases h with
 | cell _ _ h => cases h
 | agg _ vs hl hc =>
  congr 1
  apply Array.ext
  ·simp [valsV]; simpa using hl
  ·intro i h1 h2
   have hi : i < cs.length := by simpa [valsV] using h2
   have := hc i cs[i] vs[i] (by simp [hi]) (Array.getElem?_eq_getElem h1)
   simp only [valsV, List.getElem_toArray, List.getElem_map]
   rcases hk _ (List.getElem_mem hi) with ⟨k, n, e⟩ | ⟨s, e⟩ | ⟨b, e⟩
   ·rw [e] at this ⊢; exact this.int_inv
   ·rw [e] at this ⊢; exact this.str_inv
   ·rw [e] at this ⊢; exact this.bool_inv
end Go.Proofs.YtiilnlihimdnlaaGreatDoorFw
/- A slice of an array: of an object that is read-only from then on. -/
namespace Go.Proofs.YtiilnlihimdnlaaGreatDoorFw
open Go Go.RowKit
set_option linter.unusedVariables false
set_option linter.unusedSimpArgs false
theorem RunsL.sliceArr {P : Program} {T : Tab} (hT : TabOk P T) {all : Array Oper} {o : Oper} {os : List Oper} {s : St} {K : St → Prop} {t : TypeId} {X Lo : Operand} {id n : Nat} {ei : TI} {es : List AV} {k : IntKind} {m : Int}
 (hw : wantA all s o = some true) (hop : o.op = .slice t X (some Lo) none none) (ha : arrOf T t = some (n, ei)) (he1 : ei.sz = 1) (hx : s.ev X = some (.ptr id [] 1 0 0)) (hn : lookO s.objs id = some (1, es)) (hel : es.length = n) (hfz : frzL es = es) (hnb : noBoL es = true)
 (hlo : s.ev Lo = some (.int k m)) (h0 : 0 ≤ m) (h1 : m ≤ n) (hfit : s.fits o.dst = true)
 (h : RunsL P all os (({ s with slots := frzS id 1 es s.slots, objs := dropO s.objs id } : St).put o.dst (.row .ro 1 (es.drop m.toNat))) K) : RunsL P all (o :: os) s K := by
 refine RunsL.step hw ?_ h
 intro a w g hs
 have hs1 : Sim { s with slots := frzS id 1 es s.slots, objs := dropO s.objs id } a w (gFrz g id) := by
  refine ⟨hs.nt, hs.defers, ?_, hs.h.freeze id, hs.st⟩
  intro t y hy
  rw [lookS_frzS] at hy
  obtain ⟨z, hz, rfl⟩ := Option.map_eq_some_iff.1 hy
  obtain ⟨v', hv', hval⟩ := hs.slot t z hz
  exact ⟨v', hv', hval.freeze hs hn hnb⟩
 have hfit1 : ({ s with slots := frzS id 1 es s.slots, objs := dropO s.objs id } : St).fits o.dst = true := hfit
 obtain ⟨v', hnode⟩ := hs.h.obj id 1 es hn
 have hpx := hs.ev hx
 have hlv := (hs.ev hlo).int_inv
 obtain ⟨e, hu, hek⟩ := arrOf_ok hT ha
 -- the head of the object, as a value
 have hptr : ∃ b c, g.loc id [] = some (b, c, es.length) ∧ a.eval X = .pointer (some ⟨b, 0, none⟩) ∧ es.length ≤ c := by
  generalize a.eval X = u at hpx
  cases hpx with
  | cell _ _ h => cases h
  | ptr _ _ _ _ _ b cap len hl =>
   generalize hpl : Pl.at id [] = pl at hnode
   generalize hr : AV.row .own 1 es = rw0 at hnode
   cases hnode with
   | ownNil id' q' sz' hl' =>
    obtain ⟨rfl, rfl⟩ := Pl.at.inj hpl
    rw [hl] at hl'; cases hl'
   | own id' q' sz' es' b' c' cur e' us' hl' ho' hb' hn' =>
    obtain ⟨rfl, rfl⟩ := Pl.at.inj hpl
    obtain ⟨_, rfl, rfl⟩ := AV.row.inj hr
    rw [hl] at hl'
    simp only [Option.some.injEq, Prod.mk.injEq] at hl'
    obtain ⟨rfl, rfl, rfl⟩ := hl'
    exact ⟨b, cap, hl, by simp, hn'⟩
   | rd _ m' _ _ _ _ _ _ hm' => cases hr; exact hm'.elim
   | emp _ m' _ _ _ hm' => cases hr; exact absurd rfl hm'
   | _ => cases hr
 obtain ⟨b, c, hl, hX, hc⟩ := hptr
 have hhd := (Val.hd id [] b c es.length hl).freeze hs hn hnb (w := w)
 simp only [frzV, if_true, navG, hfz] at hhd
 refine ⟨.value (.slice (some (if n = m.toNat then (⟨b, 0, none⟩ : Addr) else (⟨b, 0, none⟩ : Addr).add (m.toNat * ei.sz))) (n - m.toNat) (n - m.toNat)), _, w, gFrz g id, ?_, .inl ⟨_, rfl, rfl⟩, hs1.put hfit1 ?_, gFrz_keep⟩
 ·have hb := run_sliceBounds' (P := P) (w := w) false (len := n) (cap := n) (lo := some (k, m)) (hi := none) (by simpa [bnd0] using h0) (by simpa [bnd0] using h1) (by simp [bnd0]) (Nat.le_refl _)
  unfold execOp
  simp only [hop, hX, hlv, Option.map_some, Option.map_none]
  simp only [bndV, bnd0, Option.map_some, Option.map_none] at hb
  simp [Instr.sliceAt, run_underlying hu, Instr.sureAddr, hb, run_sizeOf' hek]
 ·have hl2 : m.toNat ≤ es.length := by omega
  have hlen : (es.drop m.toNat).length = n - m.toNat := by rw [List.length_drop, hel]
  by_cases he : n = m.toNat
  ·have e0 : es.drop m.toNat = [] := List.drop_eq_nil_of_le (by omega)
   rw [e0, if_pos he, show n - m.toNat = 0 by omega]
   exact .cell _ _ (.emp _ _ _ _ _ (by simp))
  ·rw [if_neg he]
   rcases hhd.row_inv with ⟨ad, cp, hv1, hv2, _⟩ | ⟨ad, cp, us, hv1, hm, hsp, hl3, hw3, hcc, ht⟩
   ·rw [hv2] at hel; simp at hel; omega
   ·simp only [Value.slice.injEq, Option.some.injEq] at hv1
    obtain ⟨rfl, _, rfl⟩ := hv1
    have hget : ∀ (i : Nat) (x : AV), (es.drop m.toNat)[i]? = some x → es[m.toNat + i]? = some x := by
     intro i x hx; rwa [List.getElem?_drop] at hx
    have hadd : ∀ i k : Nat, (m.toNat + i) * 1 + k = m.toNat * ei.sz + (i * 1 + k) := by
     intro i k; rw [he1]; omega
    have key := Cell.rd (g := gFrz g id) (w := w) .bo .ro 1 (es.drop m.toNat) ((⟨b, 0, none⟩ : Addr).add (m.toNat * ei.sz)) (n - m.toNat) (fun j => us (m.toNat * ei.sz + j)) (by simp) (by rw [add_block]; exact hm) (add_spot _ hsp _) (by rw [hlen]; exact Nat.le_refl _)
     (fun i x hx => hw3 _ x (hget i x hx))
     (fun i k x y hx hy => by rw [add_add _ hsp, ← hadd]; exact hcc _ k x y (hget i x hx) hy)
     (fun i k x y hx hy => by have := ht _ k x y (hget i x hx) hy; rw [hadd] at this; exact this)
    rw [hlen] at key
    exact .cell _ _ key
end Go.Proofs.YtiilnlihimdnlaaGreatDoorFw
/- A place in one of the program's tables. -/
namespace Go.Proofs.YtiilnlihimdnlaaGreatDoorFw
open Go Go.RowKit
set_option linter.unusedVariables false
set_option linter.unusedSimpArgs false
theorem RunsL.tabAddr {P : Program} {T : Tab} (hT : TabOk P T) {all : Array Oper} {o : Oper} {os : List Oper} {s : St} {K : St → Prop} {t : TypeId} {I : Operand} {b n : Nat} {ei : TI} {c : Array Value} {k kk : IntKind} {m v : Int}
 (hw : wantA all s o = some true) (hop : o.op = .indexAddr t (.global b) I) (ha : arrOf T t = some (n, ei)) (he1 : ei.sz = 1) (hb : lbTab b = some c)
 (hi : s.ev I = some (.int k m)) (h0 : 0 ≤ m) (h1 : m < n) (hv : c[m.toNat]? = some (.int kk v)) (hfit : s.fits o.dst = true)
 (h : RunsL P all os (s.put o.dst (.rp .ro [.int kk v])) K) : RunsL P all (o :: os) s K := by
 refine RunsL.step hw (StepOk.pure hfit ?_) h
 intro a w g hs
 obtain ⟨hp, e, hh⟩ := hs.h.rdlt.gl b c hb
 have hiv := (hs.ev hi).int_inv
 obtain ⟨et, hu, hek⟩ := arrOf_ok hT ha
 have hg : a.eval (.global b) = .pointer (some ⟨b, 0, none⟩) := by simp [Act.eval]
 refine ⟨.pointer (some ((⟨b, 0, none⟩ : Addr).add (m.toNat * ei.sz))), ?_, ?_⟩
 ·unfold execOp
  simp only [hop, hg, hiv]
  simp [Instr.indexAt, run_underlying hu, Instr.sureAddr, asIntOf, h0, h1, run_sizeOf' hek]
 ·rw [he1, Nat.mul_one]
  refine .rp .ro [.int kk v] _ (fun _ => .int kk v) (by rw [add_block]; exact hp) (add_spot _ rfl _) ?_ ?_
  ·intro j y hy
   cases j with
   | zero =>
    have e1 : ((⟨b, 0, none⟩ : Addr).add m.toNat).add 0 = (⟨b, 0, none⟩ : Addr).add m.toNat := by rw [add_add _ rfl]; rfl
    rw [e1]
    have := cell?_own (w := w) (b := b) (o := m.toNat) hh hv
    exact this
   | succ j => simp at hy
  ·intro j y hy
   cases j with
   | zero =>
    simp only [List.getElem?_cons_zero, Option.some.injEq] at hy
    subst hy
    exact .int _ _ _
   | succ j => simp at hy
end Go.Proofs.YtiilnlihimdnlaaGreatDoorFw
/- Interfaces that hold a number, or anything: made, and compared. -/
namespace Go.Proofs.YtiilnlihimdnlaaGreatDoorFw
open Go Go.RowKit
set_option linter.unusedVariables false
set_option linter.unusedSimpArgs false
theorem Val.ifc_inv {g : Gh} {w : World} {c : Option (TypeId × IntKind × Int)} {v : Value} (h : Val g w (.ifc c) v) : ∃ t u, v = .iface t u ∧ ∀ t' k n, c = some (t', k, n) → t = t' ∧ u = .int k n := by
 cases h with
 | cell _ _ h => cases h with | ifc _ _ t u h => exact ⟨t, u, rfl, h⟩
theorem Val.nilI_inv {g : Gh} {w : World} {v : Value} (h : Val g w .nilI v) : v = .nilIface := by
 cases h with
 | cell _ _ h => cases h; rfl
theorem Val.mkIfc (g : Gh) (w : World) (t : TypeId) (k : IntKind) (n : Int) : Val g w (.ifc (some (t, k, n))) (.iface t (.int k n)) :=
 .cell _ _ (.ifc _ _ _ _ (fun t' k' n' h => by cases h; exact ⟨rfl, rfl⟩))
theorem Val.mkIfcAny (g : Gh) (w : World) (t : TypeId) (u : Value) : Val g w (.ifc none) (.iface t u) := .cell _ _ (.ifc _ _ _ _ (fun _ _ _ h => by cases h))
theorem RunsL.mkIfc {P : Program} {T : Tab} (hT : TabOk P T) {all : Array Oper} {o : Oper} {os : List Oper} {s : St} {K : St → Prop} {t : TypeId} {X : Operand} {k k' : IntKind} {n : Int} {ti : TI}
 (hw : wantA all s o = some true) (hop : o.op = .makeInterface t X) (ht : T t = some ti) (hk : ti.k = .int k') (hx : s.ev X = some (.int k n)) (hfit : s.fits o.dst = true)
 (h : RunsL P all os (s.put o.dst (.ifc (some (t, k, n)))) K) : RunsL P all (o :: os) s K := by
 refine RunsL.step hw (StepOk.pure hfit ?_) h
 intro a w g hs
 have hv := (hs.ev hx).int_inv
 have hu : P.underlying t = some (.int k') := by
  have := (hT t ti ht).kind
  rw [hk] at this
  exact this
 refine ⟨.iface t (.int k n), ?_, Val.mkIfc _ _ _ _ _⟩
 unfold execOp
 simp only [hop, hv]
 simp [Instr.makeInterface, run_underlying hu]
def ifcEq : AV → AV → Option Bool
 | .nilI, .nilI => some true
 | .nilI, .ifc _ => some false
 | .ifc _, .nilI => some false
 | .ifc (some (t, k, n)), .ifc (some (t', k', n')) => if t = t' ∧ k = k' then some (n == n') else none
 | _, _ => none
theorem run_equal_ifc {P : Program} {t : TypeId} {ms : Array (String × TypeId)} (ht : P.underlying t = some (.interface ms)) (hc : ∀ x y : AV, True) {x y : AV} {b : Bool} (h : ifcEq x y = some b) {g : Gh} {w : World} {v u : Value}
 (hv : Val g w x v) (hu : Val g w y u) (hcmp : ∀ tx k n, x = .ifc (some (tx, k, n)) → (P.info? tx).map (·.comparable) = some true ∧ ∃ q, P.underlying tx = some (.int q)) : (Op.equal t v u).run P w = .ok b w := by
 have key : ∀ d, (Op.equalIn (d + 2) t v u).run P w = .ok b w := by
  intro d
  unfold ifcEq at h
  split at h
  ·obtain rfl := Option.some.inj h
   obtain rfl := hv.nilI_inv
   obtain rfl := hu.nilI_inv
   simp [Op.equalIn, run_underlying ht]
  ·obtain rfl := Option.some.inj h
   obtain rfl := hv.nilI_inv
   obtain ⟨t2, u2, rfl, _⟩ := hu.ifc_inv
   simp [Op.equalIn, run_underlying ht]
  ·obtain rfl := Option.some.inj h
   obtain rfl := hu.nilI_inv
   obtain ⟨t2, u2, rfl, _⟩ := hv.ifc_inv
   simp [Op.equalIn, run_underlying ht]
  ·rename_i t1 k1 n1 t2 k2 n2
   split at h
   ·rename_i hh
    obtain ⟨rfl, rfl⟩ := hh
    obtain rfl := Option.some.inj h
    obtain ⟨t3, u3, rfl, h3⟩ := hv.ifc_inv
    obtain ⟨t4, u4, rfl, h4⟩ := hu.ifc_inv
    obtain ⟨rfl, rfl⟩ := h3 _ _ _ rfl
    obtain ⟨rfl, rfl⟩ := h4 _ _ _ rfl
    obtain ⟨c1, q, c2⟩ := hcmp _ _ _ rfl
    cases hi : P.info? t4 with
    | none => simp [hi] at c1
    | some i =>
     have hcc : i.comparable = true := by simpa [hi] using c1
     simp [Op.equalIn, run_underlying ht, run_underlying c2, typeInfo, hi, hcc]
   ·cases h
  ·cases h
 exact key 9998
theorem eqGuard_ifc {P : Program} {op : BinOp} {t : TypeId} {X Y : Operand} {v u : Value} {w : World} (hop : op = .eql ∨ op = .neq) (hv : (∃ t a, v = .iface t a) ∨ (∃ t a, u = .iface t a) ∨ ((v = .nilIface ∧ u = .nilIface) ∧ ∃ c, Y = .const c)) :
 (eqGuard op t X Y v u).run P w = .ok () w := by
 rcases hop with rfl | rfl <;> rcases hv with ⟨t1, a1, rfl⟩ | ⟨t1, a1, rfl⟩ | ⟨⟨rfl, rfl⟩, c, rfl⟩
 ·simp [eqGuard]
 ·cases v <;> simp [eqGuard]
 ·simp [eqGuard]
 ·simp [eqGuard]
 ·cases v <;> simp [eqGuard]
 ·simp [eqGuard]
theorem RunsL.ifcEq {P : Program} {all : Array Oper} {o : Oper} {os : List Oper} {s : St} {K : St → Prop} {t t2 : TypeId} {X Y : Operand} {op : BinOp} {x y : AV} {b : Bool} {ms : Array (String × TypeId)}
 (hw : wantA all s o = some true) (hop : o.op = .binOp op t X Y t2) (hbin : op = .eql ∨ op = .neq) (ht : P.underlying t = some (.interface ms)) (hx : s.ev X = some x) (hy : s.ev Y = some y) (he : Go.Proofs.YtiilnlihimdnlaaGreatDoorFw.ifcEq x y = some b)
 (hcst : (∃ c, x = .ifc c) ∨ (∃ c, y = .ifc c) ∨ ∃ c, Y = .const c) (hcmp : ∀ tx k n, x = .ifc (some (tx, k, n)) → (P.info? tx).map (·.comparable) = some true ∧ ∃ q, P.underlying tx = some (.int q)) (hfit : s.fits o.dst = true)
 (h : RunsL P all os (s.put o.dst (.bool (if op = .eql then b else !b))) K) : RunsL P all (o :: os) s K := by
 refine RunsL.step hw (StepOk.pure hfit ?_) h
 intro a w g hs
 have hv := hs.ev hx
 have hu := hs.ev hy
 have heq := run_equal_ifc ht (fun _ _ => trivial) he hv hu hcmp
 have hg : (eqGuard op t X Y (a.eval X) (a.eval Y)).run P w = .ok () w := by
  refine eqGuard_ifc hbin ?_
  rcases hcst with ⟨c, rfl⟩ | ⟨c, rfl⟩ | ⟨c, rfl⟩
  ·obtain ⟨t1, u1, e1, _⟩ := hv.ifc_inv; exact .inl ⟨_, _, e1⟩
  ·obtain ⟨t1, u1, e1, _⟩ := hu.ifc_inv; exact .inr (.inl ⟨_, _, e1⟩)
  ·unfold Go.Proofs.YtiilnlihimdnlaaGreatDoorFw.ifcEq at he
   split at he
   ·exact .inr (.inr ⟨⟨hv.nilI_inv, hu.nilI_inv⟩, c, rfl⟩)
   ·obtain ⟨t1, u1, e1, _⟩ := hu.ifc_inv; exact .inr (.inl ⟨_, _, e1⟩)
   ·obtain ⟨t1, u1, e1, _⟩ := hv.ifc_inv; exact .inl ⟨_, _, e1⟩
   ·obtain ⟨t1, u1, e1, _⟩ := hv.ifc_inv; exact .inl ⟨_, _, e1⟩
   ·cases he
 have hkind : (∀ k n, a.eval X ≠ .int k n) ∧ (∀ s, a.eval X ≠ .string s) := by
  unfold Go.Proofs.YtiilnlihimdnlaaGreatDoorFw.ifcEq at he
  split at he
  ·have := hv.nilI_inv; rw [this]; exact ⟨by simp, by simp⟩
  ·have := hv.nilI_inv; rw [this]; exact ⟨by simp, by simp⟩
  ·obtain ⟨t1, u1, e1, _⟩ := hv.ifc_inv; rw [e1]; exact ⟨by simp, by simp⟩
  ·obtain ⟨t1, u1, e1, _⟩ := hv.ifc_inv; rw [e1]; exact ⟨by simp, by simp⟩
  ·cases he
 have hb : ∀ op', op' = .eql ∨ op' = .neq → binOp op' t (a.eval X) (a.eval Y) = (if op' = .eql then (do pure (.bool (← Op.equal t (a.eval X) (a.eval Y)))) else (do pure (.bool (!(← Op.equal t (a.eval X) (a.eval Y)))))) := by
  intro op' ho
  unfold Go.Proofs.YtiilnlihimdnlaaGreatDoorFw.ifcEq at he
  have hX : a.eval X = .nilIface ∨ ∃ t1 u1, a.eval X = .iface t1 u1 := by
   split at he
   ·exact .inl hv.nilI_inv
   ·exact .inl hv.nilI_inv
   ·obtain ⟨t1, u1, e1, _⟩ := hv.ifc_inv; exact .inr ⟨_, _, e1⟩
   ·obtain ⟨t1, u1, e1, _⟩ := hv.ifc_inv; exact .inr ⟨_, _, e1⟩
   ·cases he
  rcases ho with rfl | rfl <;> rcases hX with e | ⟨t1, u1, e⟩ <;> rw [e] <;> cases a.eval Y <;> rfl
 refine ⟨.bool (if op = .eql then b else !b), ?_, Val.mkBool _ _ _⟩
 unfold execOp
 simp only [hop]
 rcases hbin with rfl | rfl
 ·rw [hb _ (.inl rfl)]
  simp [hg, heq, Result.andThen]
 ·rw [hb _ (.inr rfl)]
  simp [hg, heq, Result.andThen]
end Go.Proofs.YtiilnlihimdnlaaGreatDoorFw
/- The bytes of a text: a new row that is never written. -/
namespace Go.Proofs.YtiilnlihimdnlaaGreatDoorFw
open Go Go.RowKit
set_option linter.unusedVariables false
set_option linter.unusedSimpArgs false
def bytesA (s : List UInt8) : List AV := s.map fun b => .int .u8 (b.toNat : Nat)
theorem bytesA_len (s : List UInt8) : (bytesA s).length = s.length := by simp [bytesA]
theorem bytesA_get {s : List UInt8} {i : Nat} (h : i < s.length) : (bytesA s)[i]? = some (.int .u8 (s[i].toNat : Nat)) := by simp [bytesA, h]
theorem bytesWorld_same (w : World) (e : TypeId) (s : ByteArray) : (Lib.bytesWorld w e s).os = w.os ∧ (Lib.bytesWorld w e s).tape = w.tape ∧ (Lib.bytesWorld w e s).output = w.output := by
 simp [Lib.bytesWorld, World.freeze, World.alloc, World.drew, -World.alloc_eq, -World.drew_eq]
theorem RunsL.bytesOf {P : Program} {all : Array Oper} {o : Oper} {os : List Oper} {s : St} {K : St → Prop} {src dst e : TypeId} {X : Operand} {x : List UInt8}
 (hw : wantA all s o = some true) (hop : o.op = .convert src dst X) (hsrc : P.underlying src = some .string) (hdst : P.underlying dst = some (.slice e)) (he : P.underlying e = some (.int .u8))
 (hx : s.ev X = some (.str x)) (hfit : s.fits o.dst = true)
 (h : RunsL P all os (s.put o.dst (.row .ro 1 (bytesA x))) K) : RunsL P all (o :: os) s K := by
 refine RunsL.step hw ?_ h
 intro a w g hs
 have hv := (hs.ev hx).str_inv
 let S : ByteArray := ⟨⟨x⟩⟩
 have hS : S.size = x.length := rfl
 let g1 : Gh := { g with perm := fun b => g.perm b ∨ b = w.heap.size }
 have hlt := hs.h.rdlt.lt
 have hr : RdKeep g w g1 (Lib.bytesWorld w e S) := ⟨fun b hb => ⟨.inl hb, Lib.bytesWorld_at_old w e S b (hlt b (.inl hb))⟩, fun b hb => ⟨.inr hb, Lib.bytesWorld_at_old w e S b (hlt b (.inr hb))⟩⟩
 have hsz := Lib.bytesWorld_size w e S
 have hH : HSim s.objs (Lib.bytesWorld w e S) g1 := ⟨fun id sz es hl => by
  obtain ⟨v, hv⟩ := hs.h.obj id sz es hl
  exact ⟨v, hv.stay hr (fun b r hb => ⟨Lib.bytesWorld_at_old w e S b (hs.h.sep b _ hb).2.2, hb⟩) (fun _ => rfl)⟩,
  fun b p hb => by
   obtain ⟨k1, k2, k3⟩ := hs.h.sep b p hb
   exact ⟨fun hc => by rcases hc with hc | hc
                       ·exact k1 hc
                       ·omega, k2, by omega⟩,
  hs.h.rdlt.move hr (fun b hb => by
   rcases hb with (hb | hb) | hb
   ·have := hlt b (.inl hb); omega
   ·omega
   ·have := hlt b (.inr hb); omega)⟩
 have hs1 : Sim s a (Lib.bytesWorld w e S) g1 := hs.turnSame hr (fun _ _ => rfl) (objs := s.objs) hH
 obtain ⟨q1, q2, q3⟩ := bytesWorld_same w e S
 refine ⟨.value (.slice (some ⟨w.heap.size, 0, none⟩) S.size (grownCap w S.size 0 e)), _, Lib.bytesWorld w e S, g1, ?_, .inl ⟨_, rfl, rfl⟩, hs1.put hfit ?_, ?_⟩
 ·exact exec_v (by unfold execOp; simp only [hop, hv]; rfl) (Lib.run_convert_string_bytes (P := P) w src dst e S hsrc hdst he)
 ·rw [hS]
  by_cases hx0 : x = []
  ·subst hx0
   exact .cell _ _ (.emp _ _ _ _ _ (by simp))
  ·have key := Cell.rd (g := g1) (w := Lib.bytesWorld w e S) .bo .ro 1 (bytesA x) (⟨w.heap.size, 0, none⟩ : Addr) (grownCap w S.size 0 e) (fun j => .int .u8 ((x.getD j 0).toNat : Nat)) (by simp) (.inr rfl) rfl
    (by rw [bytesA_len, ← hS]; exact grownCap_ge _ _ _ _)
    (fun i y hy => by
      rw [bytesA, List.getElem?_map] at hy
      obtain ⟨b, hb, rfl⟩ := Option.map_eq_some_iff.1 hy
      rfl)
    (fun i k y z hy hz => by
      have hi : i < x.length := by have := lt_of_get hy; rwa [bytesA_len] at this
      rw [bytesA_get hi] at hy
      obtain rfl := Option.some.inj hy
      cases k with
      | zero =>
       have e1 : ((⟨w.heap.size, 0, none⟩ : Addr).add (i * 1 + 0)) = ⟨w.heap.size, i, none⟩ := by rw [add_lit]; congr 1; omega
       rw [e1, Lib.bytesWorld_cell w e S i hi]
       simp [S]
      | succ k => simp [AV.cells] at hz)
    (fun i k y z hy hz => by
      have hi : i < x.length := by have := lt_of_get hy; rwa [bytesA_len] at this
      rw [bytesA_get hi] at hy
      obtain rfl := Option.some.inj hy
      cases k with
      | zero =>
       simp only [AV.cells, List.getElem?_cons_zero, Option.some.injEq] at hz
       subst hz
       have : x.getD (i * 1 + 0) 0 = x[i] := by simp [List.getD, hi]
       simp only [this]
       exact .int _ _ _
      | succ k => simp [AV.cells] at hz)
   rw [bytesA_len] at key
   exact .cell _ _ key
 ·exact ⟨q1, q2, q3, by omega, fun b hb ho => ⟨Lib.bytesWorld_at_old w e S b hb, ho⟩, fun b hb => .inl hb, fun b hb hp => by
   rcases hp with hp | hp
   ·exact .inl hp
   ·omega, fun _ => Iff.rfl, fun _ _ _ _ => rfl, rfl⟩
end Go.Proofs.YtiilnlihimdnlaaGreatDoorFw
/- Structs of numbers, texts and bools: told apart. -/
namespace Go.Proofs.YtiilnlihimdnlaaGreatDoorFw
open Go Go.RowKit
set_option linter.unusedVariables false
set_option linter.unusedSimpArgs false
def scEq : AV → AV → Bool
 | .int _ n, .int _ m => n == m
 | .str a, .str b => a == b
 | .bool a, .bool b => a == b
 | _, _ => false
def scEqL : List AV → List AV → Bool
 | [], [] => true
 | c :: cs, d :: ds => scEq c d && scEqL cs ds
 | _, _ => false
def sameK : AV → AV → Bool
 | .int k _, .int k' _ => k == k'
 | .str _, .str _ => true
 | .bool _, .bool _ => true
 | _, _ => false
def sameKL : List AV → List AV → Bool
 | [], [] => true
 | c :: cs, d :: ds => sameK c d && sameKL cs ds
 | _, _ => false
theorem run_eqFields_two {P : Program} (w : World) (d : Nat) (cs ds : List AV) : ∀ (fs : List Field) (rc rd : List AV) (k : Nat), cs.drop k = rc → ds.drop k = rd → eqFieldB P k fs rc = true → sameKL rc rd = true →
 (Op.eqFields (d + 1) (valsV cs) (valsV ds) fs).run P w = .ok (scEqL rc rd) w
 | [], [], [], k, _, _, _, _ => rfl
 | [], c :: rc, rd, k, _, _, h, _ => by simp [eqFieldB] at h
 | [], [], d :: rd, k, _, _, _, h => by simp [sameKL] at h
 | f :: fs, [], rd, k, _, _, h, _ => by simp [eqFieldB] at h
 | f :: fs, c :: rc, [], k, _, _, _, h => by simp [sameKL] at h
 | f :: fs, c :: rc, e :: rd, k, hc, hd, h, hs => by
  simp only [eqFieldB, Bool.and_eq_true, bne_iff_ne, ne_eq, beq_iff_eq] at h
  obtain ⟨⟨⟨h1, h2⟩, h3⟩, h4⟩ := h
  simp only [sameKL, Bool.and_eq_true] at hs
  have hk : k < cs.length := by
   rcases Nat.lt_or_ge k cs.length with h' | h'
   ·exact h'
   ·rw [List.drop_eq_nil_of_le h'] at hc; cases hc
  have hk2 : k < ds.length := by
   rcases Nat.lt_or_ge k ds.length with h' | h'
   ·exact h'
   ·rw [List.drop_eq_nil_of_le h'] at hd; cases hd
  rw [List.drop_eq_getElem_cons hk] at hc
  rw [List.drop_eq_getElem_cons hk2] at hd
  obtain ⟨e1, e2⟩ := List.cons.inj hc
  obtain ⟨e3, e4⟩ := List.cons.inj hd
  have ih := run_eqFields_two w d cs ds fs rc rd (k + 1) e2 e4 h4 hs.2
  have hpe : (part f.type (valsV cs) f.offset).run P w = .ok (valOf c) w ∧ (part f.type (valsV ds) f.offset).run P w = .ok (valOf e) w ∧ (Op.equalIn (d + 1) f.type (valOf c) (valOf e)).run P w = .ok (scEq c e) w := by
   have hs1 := hs.1
   cases c with
   | int kk n =>
    cases e with
    | int kk' m =>
     simp only [sameK, beq_iff_eq] at hs1
     subst hs1
     have hu : ∃ k', P.underlying f.type = some (.int k') := by
      cases hh : P.underlying f.type with
      | none => rw [hh] at h3; simp at h3
      | some td => rw [hh] at h3; cases td <;> simp at h3; exact ⟨_, rfl⟩
     obtain ⟨k', hu⟩ := hu
     refine ⟨?_, ?_, ?_⟩
     ·rw [h2]; simp [part, isAgg, run_underlying hu, valsV, hk, e1, valOf]
     ·rw [h2]; simp [part, isAgg, run_underlying hu, valsV, hk2, e3, valOf]
     ·simp only [valOf, scEq]; rw [run_equalIn_int w d f.type kk k' n m hu]
    | _ => simp [sameK] at hs1
   | str s =>
    cases e with
    | str s' =>
     have hu : P.underlying f.type = some .string := by
      cases hh : P.underlying f.type with
      | none => rw [hh] at h3; simp at h3
      | some td => rw [hh] at h3; cases td <;> simp at h3; rfl
     refine ⟨?_, ?_, ?_⟩
     ·rw [h2]; simp [part, isAgg, run_underlying hu, valsV, hk, e1, valOf]
     ·rw [h2]; simp [part, isAgg, run_underlying hu, valsV, hk2, e3, valOf]
     ·simp only [valOf, scEq]; rw [run_equalIn_string w d f.type _ _ hu, bytes_toList, bytes_toList]
    | _ => simp [sameK] at hs1
   | bool b =>
    cases e with
    | bool b' =>
     have hu : P.underlying f.type = some .bool := by
      cases hh : P.underlying f.type with
      | none => rw [hh] at h3; simp at h3
      | some td => rw [hh] at h3; cases td <;> simp at h3; rfl
     refine ⟨?_, ?_, ?_⟩
     ·rw [h2]; simp [part, isAgg, run_underlying hu, valsV, hk, e1, valOf]
     ·rw [h2]; simp [part, isAgg, run_underlying hu, valsV, hk2, e3, valOf]
     ·simp only [valOf, scEq]; rw [run_equalIn_bool w d f.type _ _ hu]
    | _ => simp [sameK] at hs1
   | _ => simp [sameK] at hs1
  obtain ⟨p1, p2, p3⟩ := hpe
  rw [Op.eqFields, if_pos h1]
  simp only [Sem.run_bind, p1, p2, Result.andThen_ok, p3, scEqL]
  cases scEq c e with
  | true => simp only [Bool.not_true, Bool.false_eq_true, if_false, Bool.true_and]; exact ih
  | false => simp
theorem eqTwo_run {P : Program} {t : TypeId} {cs ds : List AV} (h : eqSelfB P t cs = true) (hs : sameKL cs ds = true) (w : World) :
 (Op.equalIn 10000 t (.agg (valsV cs)) (.agg (valsV ds))).run P w = .ok (scEqL cs ds) w ∧ P.eqGuardType P.depth t = false := by
 simp only [eqSelfB, Bool.and_eq_true, Bool.not_eq_true'] at h
 obtain ⟨⟨h1, h2⟩, h3⟩ := h
 refine ⟨?_, h3⟩
 split at h1
 ·rename_i fs hu
  have hf : P.fieldsOf t = fs := by simp [Program.fieldsOf, hu]
  have := run_equalIn_agg (P := P) w 9999 t (valsV cs) (valsV ds) (by rw [hf]; exact hu) h2
  rw [show (10000 : Nat) = 9999 + 1 from rfl, this, hf]
  exact run_eqFields_two (P := P) w 9998 cs ds fs.toList cs ds 0 rfl rfl h1 hs
 ·simp at h1
theorem sameKL_kind : ∀ {cs ds : List AV}, sameKL cs ds = true → ∀ c ∈ ds, (∃ k n, c = .int k n) ∨ (∃ s, c = .str s) ∨ ∃ b, c = .bool b
 | [], [], _, c, hc => by simp at hc
 | x :: cs, y :: ds, h, c, hc => by
  simp only [sameKL, Bool.and_eq_true] at h
  rcases List.mem_cons.1 hc with rfl | hc
  ·have h1 := h.1
   cases x <;> cases c <;> simp_all [sameK]
  ·exact sameKL_kind h.2 c hc
 | [], _ :: _, h, _, _ => by simp [sameKL] at h
 | _ :: _, [], h, _, _ => by simp [sameKL] at h
theorem RunsL.eqTwo {P : Program} {all : Array Oper} {o : Oper} {os : List Oper} {s : St} {K : St → Prop} {op : BinOp} {t tb : TypeId} {X Y : Operand} (cs ds : List AV)
 (hw : wantA all s o = some true) (hop : o.op = .binOp op t X Y tb) (hb : eqSelfB P t cs = true) (hsk : sameKL cs ds = true) (hx : s.ev X = some (.agg cs)) (hy : s.ev Y = some (.agg ds))
 (hfit : s.fits o.dst = true) (z : Bool) (hz : (op = .eql ∧ z = scEqL cs ds) ∨ (op = .neq ∧ z = !scEqL cs ds)) (h : RunsL P all os (s.put o.dst (.bool z)) K) : RunsL P all (o :: os) s K := by
 refine RunsL.step hw (StepOk.pure hfit ?_) h
 intro ac w g hs
 have hk : ∀ c ∈ cs, (∃ k n, c = .int k n) ∨ (∃ s, c = .str s) ∨ ∃ b, c = .bool b := by
  have hb' := hb
  simp only [eqSelfB, Bool.and_eq_true] at hb'
  have h1 := hb'.1.1
  split at h1
  ·exact eqFieldB_kind _ _ _ h1
  ·simp at h1
 have hva := (hs.ev hx).scal_inv hk
 have hvb := (hs.ev hy).scal_inv (sameKL_kind hsk)
 obtain ⟨h1, h2⟩ := eqTwo_run hb hsk w
 refine ⟨.bool z, ?_, Val.mkBool _ _ _⟩
 unfold execOp
 simp only [hop, hva, hvb]
 rcases hz with ⟨rfl, rfl⟩ | ⟨rfl, rfl⟩
 ·simp only [Sem.run_bind, run_eqGuard_agg w .eql t X Y _ _ h2, Result.andThen_ok, run_eql_struct, h1, Sem.run_pure]
 ·simp only [Sem.run_bind, run_eqGuard_agg w .neq t X Y _ _ h2, Result.andThen_ok, run_neq_struct, h1, Sem.run_pure]
theorem les_ {s s2 : St} (h1 : s.nt = s2.nt := by rfl) (h2 : SubS s.slots s2.slots := by (simp only [SubS, lookS, Nat.reduceEqDiff, ↓reduceIte, and_self])) (h3 : SubO s.objs s2.objs := by (simp only [SubO, lookO, Nat.reduceEqDiff, ↓reduceIte, and_self])) (h4 : s.st = s2.st := by rfl) : LeS s s2 := LeS.of h1 h2 h3 h4
end Go.Proofs.YtiilnlihimdnlaaGreatDoorFw
