/- Returns of values that view objects of the call's own. -/
import Derived.Test.YtkhobcmkbldmiaaFw32
namespace Go.Proofs.YtkhobcmkbldmiaaFw
open Go Go.RowKit
set_option linter.unusedVariables false

/-- What is left at a return: the value x in state s. -/
def RetV (n : Nat) (R : AV → List (Nat × List AV) → List (Nat × List AV) → Prop) (s : St) (x : AV) : Prop :=
  ∀ a w g v, Sim s a w g → Val g w x v → ∃ r os' ros g', R r os' ros ∧ Keep g w g' w ∧ os'.length = n ∧ ros.length ≤ 64 ∧
      (∀ b p, g'.own b = some p → ¬ g'.perm b ∧ ¬ g'.bor b ∧ b < w.heap.size) ∧ (∀ b, g'.canRd b → b < w.heap.size) ∧
      (∀ i sz es, os'[i]? = some (sz, es) → noBoL es = true ∧ ∃ v, Cell g' w (.at i []) (.row .own sz es) v) ∧
      (∀ i sz es, ros[i]? = some (sz, es) → noBoL es = true ∧ ∃ v, Cell g' w (.at (100 + i) []) (.row .own sz es) v) ∧
      cleanR n ros.length r = true ∧ Val g' w r v

theorem RetA.v {P : Program} {T : Tab} (hT : TabOk P T) {fn : Func} {n : Nat} {R : AV → List (Nat × List AV) → List (Nat × List AV) → Prop} {s : St} {xs : List AV}
    (hr : resA T s fn.results.toList = some xs) (h : RetV n R s (res1 xs)) : RetA P fn n R s := by
  intro a w g hs
  obtain ⟨vs, hl, hv, hrun⟩ := resA_ok (P := P) hT hs _ _ hr
  have hrun2 : (results fn a.tmps).run P w = .ok (if h : vs.toArray.size = 1 then vs.toArray[0] else .tuple vs.toArray) w := by
    rw [results_eq, Array.mapM_eq_mapM_toList]
    simp only [Sem.run_bind, map_eq_pure_bind, hrun, Result.andThen_ok, Sem.run_pure]
  have hval : Val g w (res1 xs) (if h : vs.toArray.size = 1 then vs.toArray[0] else .tuple vs.toArray) := by
    clear hrun hrun2 hr h
    match xs, vs, hl, hv with
    | [x], [v], _, hv => exact hv 0 x v rfl rfl
    | [], [], _, _ => exact .tup _ _ rfl (fun k c u hc _ => by simp at hc)
    | x :: y :: l, v :: u :: l', hl, hv =>
      have : ¬ ((v :: u :: l').toArray.size = 1) := by simp
      rw [dif_neg this]
      exact .tup _ _ (by simpa using hl) (fun k c u hc hu => hv k c u hc (by simpa using hu))
  obtain ⟨r, os', ros, g', h1⟩ := h a w g _ hs hval
  exact ⟨_, r, os', ros, g', hrun2, h1⟩

theorem RetV.det {n : Nat} {R : AV → List (Nat × List AV) → List (Nat × List AV) → Prop} {s s' : St} {x : AV} {id : Nat} {q : Path} {i k tid : Nat} (hd : s.detach id q i k tid = some s')
    (h : RetV n R s' (mapRef (detF id (q ++ [(i, k)]) tid) x)) : RetV n R s x := by
  intro a w g v hs hv
  have key : ∃ g', Sim s' a w g' ∧ Keep g w g' w ∧ Val g' w (mapRef (detF id (q ++ [(i, k)]) tid) x) v := by
    unfold St.detach at hd
    split at hd
    · simp at hd
    rename_i hc
    split at hd
    · rename_i rsz res hl ht
      split at hd
      · rename_i sz es hn
        split at hd
        · rename_i x' hx
          split at hd
          · rename_i tsz tes hy
            obtain rfl := Option.some.inj hd
            have hH := hs.h.detach hl hn hx hy ht
            have hF : ∀ j r j' r', detF id (q ++ [(i, k)]) tid j r = some (j', r') → (gMove g id (q ++ [(i, k)]) tid []).loc j' r' = g.loc j r := by
              intro j r j' r' hf
              simp only [detF] at hf
              split at hf
              · simp at hf
              · rename_i hne1
                split at hf
                · rename_i e
                  subst e
                  split at hf
                  · rename_i r0 hs0
                    simp only [Option.some.injEq, Prod.mk.injEq] at hf
                    obtain ⟨rfl, rfl⟩ := hf
                    rw [stripP_some hs0]
                    exact gMove_loc_to g _ _ _ [] r0
                  · rename_i hs0
                    simp only [Option.some.injEq, Prod.mk.injEq] at hf
                    obtain ⟨rfl, rfl⟩ := hf
                    exact gMove_loc_else (fun _ e => absurd e hne1) (fun r _ => stripP_none hs0 r)
                · rename_i hne2
                  simp only [Option.some.injEq, Prod.mk.injEq] at hf
                  obtain ⟨rfl, rfl⟩ := hf
                  exact gMove_loc_else (fun _ e => absurd e hne1) (fun _ e => absurd e hne2)
            refine ⟨gMove g id (q ++ [(i, k)]) tid [], hs.turn (gMove_rd g id (q ++ [(i, k)]) tid [] w) hF hH, gMove_keep g id _ tid [] w ?_ (.inr (by omega)), hv.map (gMove_rd g id (q ++ [(i, k)]) tid [] w) hF⟩
            cases hst : g.st with
            | false => exact .inl ⟨by simp, rfl⟩
            | true =>
              refine .inr ?_
              rcases Nat.lt_or_ge id 16 with h16 | h16
              · exact absurd (.inr ⟨hs.st.trans hst, h16⟩) hc
              · exact h16
          · simp at hd
        · simp at hd
      · simp at hd
    · simp at hd
  obtain ⟨g1, h1, h2, h3⟩ := key
  obtain ⟨r, os', ros, g2, k1, k2, k3⟩ := h a w g1 v h1 h3
  exact ⟨r, os', ros, g2, k1, h2.trans k2, k3⟩

theorem RetV.ren {n : Nat} {R : AV → List (Nat × List AV) → List (Nat × List AV) → Prop} {s s' : St} {x : AV} {id id' : Nat} (hd : s.ren id id' = some s')
    (h : RetV n R s' (mapRef (renF id id') x)) : RetV n R s x := by
  intro a w g v hs hv
  have key : ∃ g', Sim s' a w g' ∧ Keep g w g' w ∧ Val g' w (mapRef (renF id id') x) v := by
    unfold St.ren at hd
    split at hd
    · rename_i sz es hl
      split at hd
      · rename_i hc
        obtain rfl := Option.some.inj hd
        have hF : ∀ j r j' r', renF id id' j r = some (j', r') → (gMove g id [] id' []).loc j' r' = g.loc j r := by
          intro j r j' r' hf
          simp only [renF] at hf
          split at hf
          · rename_i e
            subst e
            simp only [Option.some.injEq, Prod.mk.injEq] at hf
            obtain ⟨rfl, rfl⟩ := hf
            exact gMove_loc_to g j [] id' [] r
          · rename_i hne
            split at hf
            · simp at hf
            · rename_i hne2
              simp only [Option.some.injEq, Prod.mk.injEq] at hf
              obtain ⟨rfl, rfl⟩ := hf
              exact gMove_loc_else (fun _ e => absurd e hne2) (fun _ e => absurd e hne)
        exact ⟨gMove g id [] id' [], hs.turn (gMove_rd g id [] id' [] w) hF (hs.h.rename id id' sz es hl hc.2.1), gMove_keep g id [] id' [] w (.inr hc.2.2.1) (.inr hc.2.2.2), hv.map (gMove_rd g id [] id' [] w) hF⟩
      · simp at hd
    · simp at hd
  obtain ⟨g1, h1, h2, h3⟩ := key
  obtain ⟨r, os', ros, g2, k1, k2, k3⟩ := h a w g1 v h1 h3
  exact ⟨r, os', ros, g2, k1, h2.trans k2, k3⟩

theorem RetV.mk {n : Nat} {R : AV → List (Nat × List AV) → List (Nat × List AV) → Prop} {s : St} {x : AV} (m : Nat) {os ros : List (Nat × List AV)}
    (ho : takeO s.objs 0 n = some os) (hro : takeO s.objs 100 m = some ros) (hm : m ≤ 64)
    (hb : noBoO os = true) (hb2 : noBoO ros = true) (hcl : cleanR n m x = true) (hR : R x os ros) : RetV n R s x := by
  intro a w g v hs hv
  obtain ⟨l1, l2⟩ := takeO_get ho
  obtain ⟨m1, m2⟩ := takeO_get hro
  refine ⟨x, os, ros, g, hR, Keep.refl g w, l1, by omega, hs.h.sep, hs.h.rdlt, ?_, ?_, by rw [m1]; exact hcl, hv⟩
  · intro i sz es hi
    exact ⟨noBoO_get hb hi, hs.h.obj i sz es (by simpa using l2 i _ hi)⟩
  · intro i sz es hi
    exact ⟨noBoO_get hb2 hi, hs.h.obj (100 + i) sz es (m2 i _ hi)⟩

end Go.Proofs.YtkhobcmkbldmiaaFw
