/- A drawn region that makes an object and appends it to a row of an own object; one operation only moves. -/
import Derived.Test.YtedmpcmfcnfclaaDoorFwD
namespace Go.Proofs.YtedmpcmfcnfclaaDoorFw
open Go Go.RowKit
set_option linter.unusedVariables false

theorem Ext.refl (s : St) : Ext s s := fun _ _ h => h

theorem newO_look (s : St) (d id sz : Nat) (es : List AV) (x : AV) (t : Nat) : lookS (s.newO d id sz es x).slots t = if d = t then some x else (lookS s.slots t).map (mapRef (killF id)) := by
  show lookS (putS (mapS (killF id) s.slots) d x) t = _
  rw [lookS_putS, lookS_mapS]

def delS : List (Nat × AV) → Nat → List (Nat × AV)
  | [], _ => []
  | (t, x) :: r, d => if t = d then delS r d else (t, x) :: delS r d
theorem lookS_delS : ∀ (l : List (Nat × AV)) (d t : Nat), lookS (delS l d) t = if t = d then none else lookS l t
  | [], d, t => by simp [delS, lookS]
  | (u, x) :: r, d, t => by
    have ih := lookS_delS r d t
    simp only [delS]
    by_cases hu : u = d
    · rw [if_pos hu, ih]
      by_cases ht : t = d
      · rw [if_pos ht, if_pos ht]
      · rw [if_neg ht, if_neg ht]; simp only [lookS]; rw [if_neg (by omega)]
    · rw [if_neg hu]
      simp only [lookS]
      by_cases hut : u = t
      · rw [if_pos hut, if_pos hut, if_neg (by omega)]
      · rw [if_neg hut, if_neg hut, ih]

def St.del (s : St) (d : Nat) : St := { s with slots := delS s.slots d }

theorem IStep.cop {P : Program} {T : Tab} (hT : TabOk P T) {all : Array Oper} {o : Oper} {s s' : St} {p : Prop} (hw : wantA all s o = some true) (h : cop T o s = some (p, s')) (hp : p) : IStep P all o s s' := by
  intro a w g hs K Q hK
  rw [wantA_ok hw hs]
  simp only [if_true]
  obtain ⟨r, a1, w1, g1, hr, hcase, hsim, hk⟩ := cop_ok hT h hp a w g hs
  simp only [Oper.wp, hr]
  rcases hcase with ⟨v, rfl, rfl⟩ | ⟨rfl, rfl⟩ <;> exact hK _ _ _ hsim hk

/-- The operation L makes an object, the next one uses it; the operation z only moves. -/
structure AppSt (P : Program) (T : Tab) (all : Array Oper) (L z dz d7 id7 : Nat) (v : AV) (e0 : St) (K : St → Prop) : Prop where
  ex : ∃ (o7 o8 oz : Oper) (sz : Nat) (es : List AV) (xz : Operand) (e2 e2' : St),
    all[L]? = some o7 ∧ o7.dst = some d7 ∧ all[L + 1]? = some o8 ∧ all[z]? = some oz ∧ oz.op = .move xz ∧ oz.dst = some dz ∧ oz.guard = none ∧
    (∀ s' : St, s'.nt = e0.nt → s'.objs = e0.objs → s'.st = e0.st → (∀ t ∈ o7.looksAt all, lookS s'.slots t = lookS e0.slots t) → IStep P all o7 s' (s'.newO d7 id7 sz es (.hd id7 []))) ∧
    mapS (killF id7) e0.slots = e0.slots ∧ lookO e0.objs id7 = none ∧ (∀ d, o8.dst = some d → lookS (e0.newO d7 id7 sz es (.hd id7 [])).slots d = none) ∧
    IStep P all o8 (e0.newO d7 id7 sz es (.hd id7 [])) e2 ∧ IStep P all o8 ((e0.newO d7 id7 sz es (.hd id7 [])).del dz) e2' ∧
    e2.nt = e0.nt ∧ e2.st = e0.st ∧ e2'.nt = e0.nt ∧ e2'.st = e0.st ∧ e2'.objs = e2.objs ∧ (∀ t, t ≠ dz → lookS e2'.slots t = lookS e2.slots t) ∧
    e2.ev xz = some v ∧ lookS e2.slots dz = some v ∧ dz < e0.nt ∧ K e2

theorem RunsA.dqa {P : Program} {T : Tab} (L m z dz d7 id7 : Nat) (v : AV) (hm : P.follows .mixedOrders = true) (hT : TabOk P T) {id : Nat} {all : Array Oper} {s : St} {Q : AE → St → Prop} (hok : drawOk all = true) (htail : tailOk (L + 2) all = true)
    (hreach : ((List.range (L + 1)).all fun j => j == z || (reachOf all (L + 2) (predsOf all (L + 1))).contains j) = true) (hzL : z < L) (hsize : all.size = L + 2 + m)
    (h : goX T all (all.toList.take L) s (fun e0 => AppSt P T all L z dz d7 id7 v e0 fun e2 => RunsL P all (all.toList.drop (L + 2)) e2 fun s3 => At .normal s3 Q)) : RunsA P (.region id all true) s Q := by
  intro a w g hs
  have hq := goX_ok (P := P) hT h
  obtain ⟨e, ⟨o7, o8, oz, sz, es, xz, e2, e2', q1, q2, q3, q4, q5, q6, q7, q8, q9, q10, q11, q12, q13, r1, r2, r3, r4, r5, r6, r7, r8, r9, r10⟩, h1, h2, h3, h4, h5⟩ := hq.tell
  refine wp_region_any hm ?_
  have hget : ∀ (i : Nat) (o : Oper), i < L → all[i]? = some o → (all.toList.take L)[i]? = some o := fun i o hi ho => by
    rw [List.getElem?_take, if_pos hi, Array.getElem?_toList]; exact ho
  have hget2 : ∀ (j : Nat) (o : Oper), (all.toList.take L)[j]? = some o → j < L ∧ all[j]? = some o := fun j o hj => by
    rw [List.getElem?_take] at hj
    split at hj
    · rename_i h'; exact ⟨h', by simpa using hj⟩
    · simp at hj
  have hmap : (List.range' (L + 2) m).map (all[·]?) = (all.toList.drop (L + 2)).map some := by
    apply List.ext_getElem?
    intro i
    simp only [List.getElem?_map, List.getElem?_drop, Array.getElem?_toList]
    by_cases hi : i < m
    · rw [List.getElem?_range' hi]
      simp only [Option.map_some, Nat.one_mul]
      rw [Array.getElem?_eq_getElem (by omega)]; rfl
    · rw [List.getElem?_eq_none (by simp; omega), Array.getElem?_eq_none (by omega)]; rfl
  let e1 := e.newO d7 id7 sz es (.hd id7 [])
  have hspL := drawOk_spec hok q1
  have hspz := drawOk_spec hok q4
  have hsp8 := drawOk_spec hok q3
  have hfix : ∀ t, (lookS e.slots t).map (mapRef (killF id7)) = lookS e.slots t := fun t => by
    rw [← lookS_mapS, q9]
  have e1look : ∀ t, lookS e1.slots t = if d7 = t then some (.hd id7 []) else lookS e.slots t := fun t => by
    show lookS (e.newO d7 id7 sz es (.hd id7 [])).slots t = _
    rw [newO_look, hfix]
  have e1objs : e1.objs = setO e.objs id7 sz es := rfl
  have hext : ∀ s0 s1 : St, s0.objs = e.objs → s1.objs = setO e.objs id7 sz es → Ext s0 s1 := by
    intro s0 s1 w0 w1 id' p hp
    rw [w1, lookO_setO]
    rw [w0] at hp
    rw [if_neg (fun hc => by rw [← hc, q10] at hp; cases hp)]
    exact hp
  have hsetne : ∀ (listed : Array Bool) (i j : Nat), j ≠ i → (listed.setIfInBounds i true).getD j true = listed.getD j true := fun listed i j hji => by
    simp only [Array.getD_eq_getD_getElem?, Array.getElem?_setIfInBounds_ne (fun h => hji h.symm)]
  have hseteq : ∀ (listed : Array Bool) (i : Nat), (listed.setIfInBounds i true).getD i true = true := fun listed i => by
    simp only [Array.getD_eq_getD_getElem?]
    by_cases hi : i < listed.size
    · simp [hi]
    · simp [Array.getElem?_eq_none (show (listed.setIfInBounds i true).size ≤ i by simp; omega)]
  have hmono : ∀ (listed : Array Bool) (i j : Nat), listed.getD j true = true → (listed.setIfInBounds i true).getD j true = true := fun listed i j hj => by
    by_cases hji : j = i
    · rw [hji]; exact hseteq _ _
    · rw [hsetne _ _ _ hji]; exact hj
  -- what is listed is listed with what it comes behind
  let Cl : Array Bool → Prop := fun listed => ∀ i, i < L + 2 → listed.getD i true = true → ∀ j ∈ predsOf all i, listed.getD j true = true
  have hClset : ∀ (listed : Array Bool) (i : Nat), Cl listed → (∀ j ∈ predsOf all i, listed.getD j true = true) → Cl (listed.setIfInBounds i true) := by
    intro listed i hc hp k hk hkl j hj
    by_cases hki : k = i
    · subst hki; exact hmono _ _ _ (hp j hj)
    · rw [hsetne _ _ _ hki] at hkl
      exact hmono _ _ _ (hc k hk hkl j hj)
  have hpredlt : ∀ (i : Nat) (j : Nat), j ∈ predsOf all i → j < i := by
    intro i j hj
    unfold predsOf at hj
    cases ho : all[i]? with
    | none => simp [ho] at hj
    | some o =>
      simp only [ho, List.mem_map, List.mem_filter, Array.mem_toList_iff] at hj
      obtain ⟨e', ⟨he, hb⟩, rfl⟩ := hj
      exact (drawOk_spec hok ho).1 e' he hb
  have hreachCl : ∀ (listed : Array Bool), Cl listed → ∀ (k : Nat) (l : List Nat), (∀ i ∈ l, i < L + 2 ∧ listed.getD i true = true) → ∀ i ∈ reachOf all k l, listed.getD i true = true := by
    intro listed hc k
    induction k with
    | zero => intro l hl i hi; exact (hl i hi).2
    | succ k ih =>
      intro l hl i hi
      simp only [reachOf, List.mem_append] at hi
      rcases hi with hi | hi
      · exact (hl i hi).2
      · refine ih _ ?_ i hi
        intro j hj
        obtain ⟨m', hm', hj⟩ := List.mem_flatMap.1 hj
        have := hpredlt m' j hj
        exact ⟨by have := (hl m' hm').1; omega, hc m' (hl m' hm').1 (hl m' hm').2 j hj⟩
  -- when the last of them is listed, or may be, all but z are
  have hallz : ∀ (listed : Array Bool), Cl listed → (∀ j ∈ predsOf all (L + 1), listed.getD j true = true) → ∀ j, j < L + 1 → j ≠ z → listed.getD j true = true := by
    intro listed hc hp j hj hjz
    have h8 := (List.all_eq_true.1 hreach) j (List.mem_range.2 hj)
    simp only [Bool.or_eq_true, beq_iff_eq] at h8
    rcases h8 with h8 | h8
    · exact absurd h8 hjz
    · exact hreachCl listed hc _ _ (fun i hi => ⟨by have := hpredlt _ _ hi; omega, hp i hi⟩) j (List.contains_iff_mem.1 h8)
  let Inv : Array Bool → St → Prop := fun listed s' => s'.nt = e.nt ∧ s'.st = e.st ∧ Cl listed ∧
    (listed.getD (L + 1) true = true → s'.objs = e2.objs ∧ ∀ t, (∀ (j : Nat) (o : Oper), j < L + 2 → all[j]? = some o → o.dst = some t → listed.getD j true = true) → lookS s'.slots t = lookS e2.slots t) ∧
    (listed.getD (L + 1) true = false → s'.objs = (if listed.getD L true = true then setO e.objs id7 sz es else e.objs) ∧ ∀ t, (∀ (j : Nat) (o : Oper), j < L + 2 → all[j]? = some o → o.dst = some t → listed.getD j true = true) → lookS s'.slots t = lookS e1.slots t)
  have main := draw_anyG (P := P) (all := all) (Q := fun e a' w' => ∃ ae s' g', e = ae.up ∧ Q ae s' ∧ Sim s' a' w' g' ∧ Keep g w g' w') (w0 := w) (g0 := g) (n1 := L + 2) (m := m) hok htail hsize Inv ?_ ?_ (L + 2) (Array.replicate all.size false) s a _ g (by simp) (by rw [nOff_replicate, hsize]) ?_ ?_ (hs.drawn (w.drawn + 1)) (Keep.drawn g w _) ?_
  · rw [hsize]; rw [hsize] at main; exact main
  · rintro listed s' a' w' g' hall ⟨i1, i2, i3, i4, i5⟩ hs' hk'
    obtain ⟨j1, j2⟩ := i4 (hall (L + 1) (by omega))
    have hse : Sim e2 a' w' g' := by
      refine hs'.congr (r1.trans i1.symm) ?_ j1.symm (r2.trans i2.symm)
      intro t; exact (j2 t (fun j o hj _ _ => hall j hj)).symm
    exact r10 a' w' g' hse _ (fun a2 w2 g2 s2 k1 k2 k3 => ⟨.normal, s2, g2, rfl, k3.out, k1, hk'.trans k2⟩) _ hmap
  · rintro listed s' i o hls ho hin hoff hpre ⟨i1, i2, i3, i4, i5⟩
    have hspec := drawOk_spec hok ho
    have hpl : ∀ t ∈ o.looksAt all, (∀ (j : Nat) (o' : Oper), j < L + 2 → all[j]? = some o' → o'.dst = some t → listed.getD j true = true ∧ j < i) := by
      intro t ht j o' hj hj2 hd
      obtain ⟨_, k2⟩ := hspec.2 j o' t hj2 hd
      obtain ⟨k3, e', he, hb, rfl⟩ := k2 ht
      refine ⟨hpre _ ?_, k3⟩
      simp only [predsOf, ho, List.mem_map, List.mem_filter, Array.mem_toList_iff]
      exact ⟨e', ⟨he, hb⟩, rfl⟩
    have hClnew := hClset listed i i3 hpre
    -- only i is written by i
    have honly : ∀ (t j : Nat) (o' : Oper), o.dst = some t → j < L + 2 → all[j]? = some o' → o'.dst = some t → j = i := by
      intro t j o' hd hj hj2 hd2
      rcases (hspec.2 j o' t hj2 hd2).1 with h8 | h8
      · exact h8
      · exact absurd hd h8
    have hback : ∀ (t : Nat), o.dst ≠ some t → (∀ (j : Nat) (o' : Oper), j < L + 2 → all[j]? = some o' → o'.dst = some t → (listed.setIfInBounds i true).getD j true = true) → ∀ (j : Nat) (o' : Oper), j < L + 2 → all[j]? = some o' → o'.dst = some t → listed.getD j true = true := by
      intro t hd ht j o' hj hj2 hd2
      have := ht j o' hj hj2 hd2
      by_cases hji : j = i
      · subst hji; rw [ho] at hj2; obtain rfl := Option.some.inj hj2; exact absurd hd2 hd
      · rw [hsetne listed i j hji] at this; exact this
    by_cases hi8 : i = L + 1
    · -- the second
      subst hi8
      rw [q3] at ho
      obtain rfl := Option.some.inj ho
      have hz' := hallz listed i3 hpre
      obtain ⟨j1, j2⟩ := i5 hoff
      rw [if_pos (hz' L (by omega) (by omega))] at j1
      by_cases hzl : listed.getD z true = true
      · refine ⟨e2, ?_, r1, r2, hClnew, fun _ => ⟨rfl, fun t _ => rfl⟩, fun hc => ?_⟩
        · intro a' w' g' hs' K' Q' hK
          refine q12 a' w' g' ⟨hs'.nt.trans i1, hs'.defers, fun t x hx => ?_, ?_, (i2.symm.trans hs'.st)⟩ K' Q' hK
          · refine hs'.slot t x ?_
            rw [j2 t, hx]
            intro j o' hj hj2 hd
            rcases Nat.lt_or_ge j (L + 1) with h6 | h6
            · by_cases hjz : j = z
              · rw [hjz]; exact hzl
              · exact hz' j h6 hjz
            · have hj8 : j = L + 1 := by omega
              subst hj8
              rw [q3] at hj2
              obtain rfl := Option.some.inj hj2
              have := q11 t hd
              rw [this] at hx; cases hx
          · have := hs'.h; rw [j1] at this; exact this
        · rw [hseteq] at hc; cases hc
      · have hzl' : listed.getD z true = false := by simpa using hzl
        refine ⟨e2', ?_, r3, r4, hClnew, fun _ => ⟨r5, fun t ht => ?_⟩, fun hc => ?_⟩
        · intro a' w' g' hs' K' Q' hK
          refine q13 a' w' g' ⟨hs'.nt.trans i1, hs'.defers, fun t x hx => ?_, ?_, (i2.symm.trans hs'.st)⟩ K' Q' hK
          · refine hs'.slot t x ?_
            have hx' : lookS (delS e1.slots dz) t = some x := hx
            rw [lookS_delS] at hx'
            split at hx'
            · cases hx'
            rename_i htz
            rw [j2 t, hx']
            intro j o' hj hj2 hd
            rcases Nat.lt_or_ge j (L + 1) with h6 | h6
            · refine hz' j h6 ?_
              intro hjz
              subst hjz
              rw [q4] at hj2
              obtain rfl := Option.some.inj hj2
              rw [q6] at hd
              exact htz (Option.some.inj hd).symm
            · have hj8 : j = L + 1 := by omega
              subst hj8
              rw [q3] at hj2
              obtain rfl := Option.some.inj hj2
              have := q11 t hd
              have hx2 : lookS e1.slots t = some x := hx'
              rw [this] at hx2; cases hx2
          · have := hs'.h; rw [j1] at this; exact this
        · refine r6 t ?_
          intro hte
          subst hte
          have := ht z oz (by omega) q4 q6
          rw [hsetne _ _ _ (by omega), hzl'] at this
          cases this
        · rw [hseteq] at hc; cases hc
    have hnew8 : (listed.setIfInBounds i true).getD (L + 1) true = listed.getD (L + 1) true := hsetne _ _ _ (by omega)
    by_cases hl8 : listed.getD (L + 1) true = true
    · -- only z is left
      have hiz : i = z := by
        apply Classical.byContradiction
        intro hiz
        have := hallz listed i3 (i3 (L + 1) (by omega) hl8) i (by omega) hiz
        rw [this] at hoff; cases hoff
      subst hiz
      rw [q4] at ho
      obtain rfl := Option.some.inj ho
      obtain ⟨j1, j2⟩ := i4 hl8
      have hev : s'.ev xz = some v := by
        rw [← r7]
        refine ev_congr (all := all) (o := oz) (fun t ht => j2 t (fun j o' hj hj2 hd => (hpl t ht j o' hj hj2 hd).1)) xz ?_
        rw [q5]; simp [Op.operands]
      have hfits : s'.fits oz.dst = true := by rw [q6]; simp only [St.fits, decide_eq_true_eq]; rw [i1]; exact r9
      refine ⟨s'.put oz.dst v, (QStepX.pure hT (s := s') (by simp [wantA, q7]) hfits (p := True) (by simp only [qval, q5, hev, Option.map_some]) trivial) s' rfl (Ext.refl _) rfl (fun _ _ => rfl), ?_, ?_, hClnew, fun _ => ⟨?_, ?_⟩, fun hc => ?_⟩
      · rw [put_nt]; exact i1
      · rw [put_st]; exact i2
      · rw [put_objs]; exact j1
      · intro t ht
        rw [put_look]
        split
        · rename_i hd
          rw [q6] at hd
          obtain rfl := Option.some.inj hd
          exact r8.symm
        · rename_i hd
          exact j2 t (hback t hd ht)
      · rw [hnew8, hl8] at hc; cases hc
    have hl8' : listed.getD (L + 1) true = false := by simpa using hl8
    obtain ⟨j1, j2⟩ := i5 hl8'
    have hdL : ∀ t ∈ o.looksAt all, i ≤ L → o7.dst ≠ some t := by
      intro t ht hiL hd
      have := (hpl t ht L o7 (by omega) q1 hd).2
      omega
    have hlk : ∀ t ∈ o.looksAt all, lookS s'.slots t = lookS e.slots t := by
      intro t ht
      rw [j2 t (fun j o' hj hj2 hd => (hpl t ht j o' hj hj2 hd).1), e1look, if_neg]
      intro hd
      exact hdL t ht (by omega) (by rw [q2, hd])
    rcases Nat.lt_or_ge i L with hiL | hiL
    · -- quiet
      obtain ⟨si, y, k1, k2, k3, k4, k5, k6⟩ := h5 i o (hget i o hiL ho)
      have hx : Ext si s' := by
        by_cases hlL : listed.getD L true = true
        · rw [if_pos hlL] at j1
          exact hext si s' (k3.trans h2.symm) j1
        · rw [if_neg hlL] at j1
          intro id' p hp
          rw [j1, h2, ← k3]; exact hp
      refine ⟨s'.put o.dst y, k1 s' (i1.trans (h1.trans k2.symm)) hx (i2.trans (h3.trans k4.symm)) ?_, ?_, ?_, hClnew, fun hc => ?_, fun _ => ⟨?_, ?_⟩⟩
      · intro t ht
        rw [hlk t ht]
        refine k5 t (fun j o' hj hj2 hd => ?_)
        obtain ⟨hjL, hj3⟩ := hget2 j o' hj2
        have := (hpl t ht j o' (by omega) hj3 hd).2
        omega
      · rw [put_nt]; exact i1
      · rw [put_st]; exact i2
      · rw [hnew8, hl8'] at hc; cases hc
      · rw [put_objs, j1, hsetne listed i L (by omega)]
      · intro t ht
        rw [put_look]
        split
        · rename_i hd
          have hne : d7 ≠ t := by
            intro hd2
            have := honly t L o7 hd (by omega) q1 (by rw [q2, hd2])
            omega
          rw [e1look, if_neg hne]
          refine (k6 t hd (fun j o' hj hj2 hd2 => ?_)).symm
          obtain ⟨hjL, hj3⟩ := hget2 j o' hj2
          have := honly t j o' hd (by omega) hj3 hd2
          omega
        · rename_i hd
          exact j2 t (hback t hd ht)
    · -- the first
      have hi2 : i = L := by omega
      subst hi2
      rw [q1] at ho
      obtain rfl := Option.some.inj ho
      have hobj : s'.objs = e.objs := by rw [j1, hoff]; simp
      refine ⟨s'.newO d7 id7 sz es (.hd id7 []), q8 s' i1 hobj i2 hlk, i1, i2, hClnew, fun hc => ?_, fun _ => ⟨?_, ?_⟩⟩
      · rw [hnew8, hl8'] at hc; cases hc
      · rw [hseteq, if_pos rfl, ← hobj]; rfl
      · intro t ht
        rw [newO_look, e1look]
        split
        · rfl
        · rename_i hd
          rw [j2 t (hback t (fun hc => hd (by rw [q2] at hc; exact Option.some.inj hc)) ht), e1look, if_neg hd, hfix]
  · intro i hi1 hi2
    simp [Array.getD_eq_getD_getElem?, show i < all.size by omega]
  · intro i hi
    by_cases hlt : i < all.size
    · simp [Array.getD_eq_getD_getElem?, hlt] at hi
    · simp [Array.getD_eq_getD_getElem?, hlt] at hi
  · have hoffj : ∀ j, j < all.size → (Array.replicate all.size false).getD j true = false := fun j hj => by simp [Array.getD_eq_getD_getElem?, hj]
    refine ⟨h1.symm, h3.symm, ?_, fun hc => ?_, fun _ => ⟨?_, ?_⟩⟩
    · intro i hi hc
      rw [hoffj i (by omega)] at hc; cases hc
    · rw [hoffj (L + 1) (by omega)] at hc; cases hc
    · rw [hoffj L (by omega)]; simpa using h2.symm
    · intro t ht
      have hnone : ∀ (j : Nat) (o : Oper), j < L + 2 → all[j]? = some o → o.dst ≠ some t := by
        intro j o hj hj2 hd
        have := ht j o hj hj2 hd
        rw [hoffj j (by omega)] at this
        cases this
      rw [e1look, if_neg (fun hd => hnone L o7 (by omega) q1 (by rw [q2, hd]))]
      refine (h4 t (fun j o hj hd => ?_)).symm
      obtain ⟨hjL, hj3⟩ := hget2 j o hj
      exact hnone j o (by omega) hj3 hd

end Go.Proofs.YtedmpcmfcnfclaaDoorFw
