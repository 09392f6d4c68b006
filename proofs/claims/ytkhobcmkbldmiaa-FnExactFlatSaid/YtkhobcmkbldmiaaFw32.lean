/- Calls within drawn regions; small drawn regions, order by order. -/
import Derived.Test.YtkhobcmkbldmiaaFw31
namespace Go.Proofs.YtkhobcmkbldmiaaFw
open Go Go.RowKit
set_option linter.unusedVariables false

theorem QRuns.nil {P : Program} {all : Array Oper} {s : St} {K : St → Prop} (h : K s) : QRuns P all [] s K := h

mutual
theorem mapRef_id {f : Nat → Path → Option (Nat × Path)} (hf : ∀ id q, f id q = some (id, q)) : ∀ x : AV, mapRef f x = x
  | .hd id q => by simp only [mapRef, hf]
  | .ref id q sz off n => by simp only [mapRef, hf]
  | .ptr id q sz i k => by simp only [mapRef, hf]
  | .agg cs => by simp only [mapRef, mapRefL_id hf cs]
  | .tup cs => by simp only [mapRef, mapRefL_id hf cs]
  | .fn g cs => by simp only [mapRef, mapRefL_id hf cs]
  | .int k n => rfl
  | .bool b => rfl
  | .str s => rfl
  | .nilI => rfl
  | .nilP => rfl
  | .nilS => rfl
  | .row m sz es => rfl
  | .rp m cs => rfl
  | .vp cs => by simp only [mapRef, mapRefL_id hf cs]
  | .dead => rfl
theorem mapRefL_id {f : Nat → Path → Option (Nat × Path)} (hf : ∀ id q, f id q = some (id, q)) : ∀ l : List AV, mapRefL f l = l
  | [] => rfl
  | x :: r => by simp only [mapRefL, mapRef_id hf x, mapRefL_id hf r]
end

theorem mapS_id {f : Nat → Path → Option (Nat × Path)} (hf : ∀ id q, f id q = some (id, q)) : ∀ l : List (Nat × AV), mapS f l = l
  | [] => rfl
  | (t, x) :: r => by simp only [mapS, mapRef_id hf x, mapS_id hf r]

theorem back_nothing (s : St) (st : Bool) (d : Option Nat) (y : AV) (rid : Nat) : s.back st [] [] [] d y rid = s.put d (mapRef (backR [] rid) y) := by
  have h : mapS (backF st [] rid ([] : List (Nat × List AV)).length) s.slots = s.slots := mapS_id (by
    intro id q
    simp only [backF, List.length_nil, Nat.add_zero, posL]
    rw [if_neg (by omega)]) _
  unfold St.back
  rw [h]
  rfl

theorem evAll_congr {s s' : St} : ∀ {l : List Operand}, (∀ x ∈ l, s'.ev x = s.ev x) → evAll s' l = evAll s l
  | [], _ => rfl
  | x :: r, h => by
    simp only [evAll]
    rw [h x (by simp), evAll_congr (fun y hy => h y (by simp [hy]))]

mutual
theorem argA_congr {s s' : St} (ho : s'.objs = s.objs) (ps : List Nat) : ∀ x : AV, argA s' ps x = argA s ps x
  | .hd id q => by simp only [argA, St.node, ho]
  | .ref id q sz off n => by simp only [argA, St.node, ho]
  | .ptr id q sz i k => by simp only [argA, St.node, ho]
  | .agg cs => by simp only [argA, argAL_congr ho ps cs]
  | .tup cs => by simp only [argA, argAL_congr ho ps cs]
  | .fn g cs => by simp only [argA, argAL_congr ho ps cs]
  | .int k n => rfl
  | .bool b => rfl
  | .str s => rfl
  | .nilI => rfl
  | .nilP => rfl
  | .nilS => rfl
  | .row m sz es => rfl
  | .rp m cs => rfl
  | .vp cs => rfl
  | .dead => rfl
theorem argAL_congr {s s' : St} (ho : s'.objs = s.objs) (ps : List Nat) : ∀ l : List AV, argAL s' ps l = argAL s ps l
  | [] => rfl
  | x :: r => by simp only [argAL, argA_congr ho ps x, argAL_congr ho ps r]
end

theorem QRuns.call {P : Program} {all : Array Oper} {o : Oper} {os : List Oper} {s : St} {K : St → Prop} {c : Call} {f : FuncId} {st : Bool} {xs ys : List AV} {R : AV → List (Nat × List AV) → List (Nat × List AV) → Prop} {y : AV}
    (hw : wantA all s o = some true) (hop : o.op = .call c) (hcal : c.callee = .value (.func f)) (hx : evAll s c.args.toList = some xs) (hy : argAL s [] xs = some ys)
    (hc : FnA P f st ys [] R) (hfit : s.fits o.dst = true) (hR : ∀ r os' ros, R r os' ros → r = y ∧ ros = []) (hb : mapRef (backR [] 16) y = y)
    (h : QRuns P all os (s.put o.dst y) K) : QRuns P all (o :: os) s K := by
  refine ⟨y, ?_, h⟩
  intro s' h1 h2 h3 h4 a w g hs K' Q hK
  have hw' : wantA all s' o = some true := (wantA_congr h4).trans hw
  rw [wantA_ok hw' hs]
  simp only [if_true]
  have hev := ev_congr h4
  have hx' : evAll s' c.args.toList = some xs := (evAll_congr fun x hx2 => hev x (by
    rw [hop]
    simp only [Op.operands, Call.operands, hcal, Array.mem_append]
    exact .inr (by simpa using hx2))).trans hx
  have hrun : (execOp a.eval o).run P w = .ok (.enter f (c.args.map a.eval)) w := by
    unfold execOp
    simp only [hop, resolve, hcal, Act.eval, Deferred.ofValue]
    simp only [pure_bind, invoke]
    rw [show (#[] ++ Array.map a.eval c.args ++ #[] : Array Value) = Array.map a.eval c.args by simp]
    exact run_callFunc hc.ok _ _
  obtain ⟨i1, i2⟩ := evAll_get hx'
  simp only [Oper.wp, hrun, Oper.upon_enter]
  refine (callA_ok hs hc.calls (ps := []) (os := []) List.nodup_nil (by simp) rfl ((argAL_congr h2 [] xs).trans hy) (vs := c.args.map a.eval) (by simp [i1]) ?_ ((fits_congr h1 _).trans hfit) (rid := 16) (by omega) rfl (.inr (.inr rfl))).mono ?_
  · intro k x u hk hu
    obtain ⟨o', h5, h6⟩ := i2 k x hk
    have : u = a.eval o' := by
      rw [Array.getElem?_map] at hu
      have h1' : c.args[k]? = some o' := by simpa using h5
      rw [h1'] at hu
      exact (Option.some.inj hu).symm
    subst this
    exact hs.ev h6
  · rintro e w1 ⟨v, r, os', ros, g1, rfl, hR', hlen, hk, hsim⟩
    obtain ⟨rfl, rfl⟩ := hR _ _ _ hR'
    obtain rfl : os' = [] := List.eq_nil_of_length_eq_zero hlen
    rw [back_nothing, hb] at hsim
    exact hK _ _ _ hsim hk

/-- All orders of a small region. -/
def linsF (all : Array Oper) : Nat → Array Bool → List (List Nat)
  | 0, _ => [[]]
  | k + 1, listed =>
    match Region.ready .any all listed with
    | [] => [[]]
    | r => r.flatMap fun i => (linsF all k (listed.setIfInBounds i true)).map (i :: ·)

theorem lins_mem (all : Array Oper) : ∀ (fuel t : Nat) (listed : Array Bool), Region.linearise.go .any all fuel t listed [] ∈ linsF all fuel listed := by
  intro fuel
  induction fuel with
  | zero => intro t listed; simp [Region.linearise.go, linsF]
  | succ fuel ih =>
    intro t listed
    simp only [Region.linearise.go, linsF]
    change (match (Region.ready .any all listed)[t % (Region.ready .any all listed).length]? with
      | some i => Region.linearise.go .any all fuel (t / (Region.ready .any all listed).length) (listed.setIfInBounds i true) [i]
      | none => [].reverse) ∈ _
    cases hr : Region.ready .any all listed with
    | nil => simp
    | cons x xs =>
      have hlt : t % (x :: xs).length < (x :: xs).length := Nat.mod_lt _ (by simp)
      rw [List.getElem?_eq_getElem hlt]
      simp only
      rw [linearise_go_acc, List.reverse_singleton, List.singleton_append]
      exact List.mem_flatMap.2 ⟨_, List.getElem_mem hlt, List.mem_map.2 ⟨_, ih _ _, rfl⟩⟩

/-- A small drawn region, order by order. -/
theorem RunsA.lins {P : Program} (hm : P.follows .mixedOrders = true) {id : Nat} {all : Array Oper} {s : St} {Q : AE → St → Prop} (ls : List (List Nat)) (hls : linsF all all.size (Array.replicate all.size false) = ls)
    (h : ∀ l ∈ ls, ∃ os : List Oper, l.map (all[·]?) = os.map some ∧ RunsL P all os s (fun s2 => At .normal s2 Q)) : RunsA P (.region id all true) s Q := by
  intro a w g hs
  refine wp_region_draw fun t => ?_
  simp only [Region.schedule, hm, Bool.true_or, if_true]
  obtain ⟨os, h1, h2⟩ := h _ (hls ▸ lins_mem all all.size t (Array.replicate all.size false))
  exact h2 a _ g (hs.drawn _) _ (fun a' w' g' s' k1 k2 k3 => ⟨.normal, s', g', rfl, k3.out, k1, (Keep.drawn g w _).trans k2⟩) _ h1

theorem filterMap_get (all : Array Oper) : ∀ l : List Nat, (l.all fun i => decide (i < all.size)) = true → l.map (all[·]?) = (l.filterMap (all[·]?)).map some
  | [], _ => rfl
  | i :: l, h => by
    simp only [List.all_cons, Bool.and_eq_true, decide_eq_true_eq] at h
    have hi : all[i]? = some all[i] := Array.getElem?_eq_getElem h.1
    rw [List.map_cons, List.filterMap_cons, hi]
    simp only [List.map_cons]
    rw [filterMap_get all l h.2]

theorem RunsA.orders {P : Program} (hm : P.follows .mixedOrders = true) {id : Nat} {all : Array Oper} {s : St} {Q : AE → St → Prop} (ls : List (List Nat)) (hls : linsF all all.size (Array.replicate all.size false) = ls)
    (hv : (ls.all fun l => l.all fun i => decide (i < all.size)) = true) (h : ∀ l ∈ ls, RunsL P all (l.filterMap (all[·]?)) s (fun s2 => At .normal s2 Q)) : RunsA P (.region id all true) s Q :=
  RunsA.lins hm ls hls fun l hl => ⟨_, filterMap_get all l (List.all_eq_true.1 hv l hl), h l hl⟩

attribute [go_sem] goQ qval mapRef backR or_true true_or or_false false_or or_self and_self List.getD_cons_zero List.getD_cons_succ St.ren renF decide_eq_true_eq decide_eq_false_iff_not

end Go.Proofs.YtkhobcmkbldmiaaFw
