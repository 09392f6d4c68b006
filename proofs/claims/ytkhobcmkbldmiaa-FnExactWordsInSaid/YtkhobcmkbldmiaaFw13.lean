/- A row that is gathered out of elements of others: appends, cuts, orders. -/
import Derived.Test.YtkhobcmkbldmiaaFw12
namespace Go.Proofs.YtkhobcmkbldmiaaFw
open Go Go.RowKit
set_option linter.unusedVariables false

/-- Object nid lies at block b; its element i was element i' of object j, where f i tells (j, i'). What is gone is told no more. -/
def gGather (g : Gh) (nid b c n : Nat) (f : Nat → Option (Nat × Nat)) (inv : Nat → Nat → Option Nat) (gone : Nat → Bool) : Gh :=
  { g with
    loc := fun j q =>
      if j = nid then
        match q with
        | [] => some (b, c, n)
        | (i, k) :: r => match f i with | some (j', i') => g.loc j' ((i', k) :: r) | none => none
      else g.loc j q
    own := fun b' =>
      if b' = b then some (nid, [])
      else
        match g.own b' with
        | some (j, (i', k) :: r) => if gone j then (match inv j i' with | some i => some (nid, (i, k) :: r) | none => none) else some (j, (i', k) :: r)
        | some (j, []) => if gone j then none else some (j, [])
        | none => none }

theorem HSim.gather {objs objs' : List Obj} {w w' : World} {g : Gh} (h : HSim objs w g) (nid sz : Nat) (es : List AV) (b c : Nat) (cur : Array Value) (e : TypeId)
    (f : Nat → Option (Nat × Nat)) (inv : Nat → Nat → Option Nat) (gone : Nat → Bool)
    (hb : w'.heap[b]? = some (.cells cur e (0, 0))) (hz : cur.size = c * sz) (hn : es.length ≤ c) (hm : c ≤ maxLen)
    (hwd : ∀ (i : Nat) (x : AV), es[i]? = some x → x.width = sz)
    (hheap : ∀ b', b' < w.heap.size → b' ≠ b → w'.heap[b']? = w.heap[b']?) (hsize : w.heap.size ≤ w'.heap.size) (hbs : b < w'.heap.size)
    (hos : w'.os = w.os ∧ w'.tape = w.tape ∧ w'.output = w.output) (hnid : 16 ≤ nid)
    (hfree : w.heap.size ≤ b ∨ ∃ tid, g.own b = some (tid, []) ∧ gone tid = true)
    (hf : ∀ i j i', f i = some (j, i') → gone j = true ∧ inv j i' = some i)
    (hel : ∀ (i k : Nat) (x y : AV), es[i]? = some x → x.cells[k]? = some y → ∃ u, cur[i * sz + k]? = some u ∧
      ((f i = none ∧ Flat g w y u) ∨ ∃ j i', f i = some (j, i') ∧ Cell g w (.at j [(i', k)]) y u))
    (hobj : ∀ j, lookO objs' j = if j = nid then some (sz, es) else if gone j then none else lookO objs j) :
    HSim objs' w' (gGather g nid b c es.length f inv gone) ∧ RdKeep g w (gGather g nid b c es.length f inv gone) w' ∧ Keep g w (gGather g nid b c es.length f inv gone) w' ∧
      (∀ j q, j ≠ nid → (gGather g nid b c es.length f inv gone).loc j q = g.loc j q) ∧ (gGather g nid b c es.length f inv gone).loc nid [] = some (b, c, es.length) := by
  have hbnr : ¬ g.perm b ∧ ¬ g.bor b := by
    rcases hfree with hfr | ⟨tid, ho, _⟩
    · exact ⟨fun hp => by have := h.rdlt b (.inl hp); omega, fun hp => by have := h.rdlt b (.inr hp); omega⟩
    · exact ⟨(h.sep b _ ho).1, (h.sep b _ ho).2.1⟩
  have hr : RdKeep g w (gGather g nid b c es.length f inv gone) w' :=
    ⟨fun b' hb' => ⟨hb', hheap b' (h.rdlt b' (.inl hb')) (fun e => hbnr.1 (e ▸ hb'))⟩, fun b' hb' => ⟨.inr hb', hheap b' (h.rdlt b' (.inr hb')) (fun e => hbnr.2 (e ▸ hb'))⟩⟩
  have hloc : ∀ j q, j ≠ nid → (gGather g nid b c es.length f inv gone).loc j q = g.loc j q := fun j q hj => by simp [gGather, hj]
  have hnb : ∀ b' j i' k r, g.own b' = some (j, (i', k) :: r) → b' ≠ b := by
    intro b' j i' k r ho e
    subst e
    rcases hfree with hfr | ⟨tid, ho', _⟩
    · have := (h.sep b' _ ho).2.2; omega
    · rw [ho] at ho'; simp at ho'
  have hnb2 : ∀ b' j q, g.own b' = some (j, q) → gone j = false → b' ≠ b := by
    intro b' j q ho hg e
    subst e
    rcases hfree with hfr | ⟨tid, ho', hgt⟩
    · have := (h.sep b' _ ho).2.2; omega
    · rw [ho] at ho'
      simp only [Option.some.injEq, Prod.mk.injEq] at ho'
      rw [ho'.1, hgt] at hg
      simp at hg
  refine ⟨⟨?_, ?_, ?_⟩, hr, ?_, hloc, by simp [gGather]⟩
  · intro j sz' es' hj
    rw [hobj] at hj
    split at hj
    · rename_i hji
      obtain ⟨rfl, rfl⟩ := Prod.mk.inj (Option.some.inj hj)
      subst hji
      refine ⟨_, .own _ _ _ _ b c cur e (fun j => cur.getD j undef) (by simp [gGather]) (by simp [gGather]) hb hn hm hz hwd ?_ ?_⟩
      · intro i k x y hx hy
        obtain ⟨u, hu, _⟩ := hel i k x y hx hy
        simp [Array.getD_eq_getD_getElem?, hu]
      · intro i k x y hx hy
        obtain ⟨u, hu, hcase⟩ := hel i k x y hx hy
        have : cur.getD (i * sz + k) undef = u := by simp [Array.getD_eq_getD_getElem?, hu]
        rw [this]
        rcases hcase with ⟨hfi, hfl⟩ | ⟨j', i', hfi, hcell⟩
        · exact (hfl.still hr).cell (by simp [gGather, hfi])
        · obtain ⟨hg1, hg2⟩ := hf i j' i' hfi
          refine hcell.move hr j' [(i', k)] j [(i, k)] rfl ?_ ?_
          · intro b' r hb'
            have hne := hnb b' j' i' k r (by simpa using hb')
            refine ⟨hheap b' (h.sep b' _ hb').2.2 hne, ?_⟩
            have hb2 : g.own b' = some (j', (i', k) :: r) := by simpa using hb'
            simp only [gGather, if_neg hne, hb2, hg1, if_true, hg2]
            rfl
          · intro r
            simp [gGather, hfi]
    · rename_i hji
      split at hj
      · simp at hj
      · rename_i hgj
        simp only [Bool.not_eq_true] at hgj
        obtain ⟨v, hv⟩ := h.obj j sz' es' hj
        refine ⟨v, hv.stay hr ?_ (fun r => hloc _ _ hji)⟩
        intro b' r hb'
        have hne := hnb2 b' j _ hb' hgj
        refine ⟨hheap b' (h.sep b' _ hb').2.2 hne, ?_⟩
        simp only [gGather, if_neg hne, hb']
        split
        · rename_i hh
          simp only [Option.some.injEq, Prod.mk.injEq] at hh
          rw [← hh.1, hgj]; simp [hh.2]
        · rename_i hh
          simp only [Option.some.injEq, Prod.mk.injEq] at hh
          rw [← hh.1, hgj]; simp [hh.2]
        · rename_i hh; simp at hh
  · intro b' p hb'
    simp only [gGather] at hb' ⊢
    split at hb'
    · rename_i e'; subst e'; exact ⟨hbnr.1, hbnr.2, hbs⟩
    · cases ho : g.own b' with
      | none => rw [ho] at hb'; simp at hb'
      | some jq => have := h.sep b' jq ho; exact ⟨this.1, this.2.1, by omega⟩
  · intro b' hb'
    have := h.rdlt b' hb'
    omega
  · refine ⟨hos.1, hos.2.1, hos.2.2, hsize, ?_, fun _ h => h, fun _ _ h => .inl h, fun _ => Iff.rfl, fun j q hj _ => hloc j q (by omega), rfl⟩
    intro b' hlt ho
    have hne : b' ≠ b := by
      intro e; subst e
      rcases hfree with hfr | ⟨tid, ho', _⟩
      · omega
      · rw [ho] at ho'; simp at ho'
    exact ⟨hheap b' hlt hne, by simp only [gGather, if_neg hne, ho]⟩

/-- An append, whatever is appended: where the row lies then, and what it holds. -/
theorem run_append_any {P : Program} {t t2 ty e : TypeId} {ei : TI} {d2 : TypeDesc} (ht : P.underlying t = some (.slice e)) (he : TIOk P e ei) (ht2 : P.underlying t2 = some d2) (hd2 : ∀ k, d2 ≠ .int k)
    {w : World} {n cap : Nat} {base : Option Addr} {cur : Array Value} {e' : TypeId} {b : Nat}
    (hbase : (base = none ∧ n = 0 ∧ cap = 0) ∨ (base = some ⟨b, 0, none⟩ ∧ w.heap[b]? = some (.cells cur e' (0, 0)) ∧ cur.size = cap * ei.sz ∧ n ≤ cap ∧ cap ≤ maxLen))
    {v2 : Value} {m : Nat} {news : List Value} (hlen : (Builtin.lenOf v2).run P w = .ok m w)
    (hf1 : (Builtin.firstCells ei.sz m v2).run P w = .ok news.toArray w) (hf2 : (Builtin.firstCells ei.sz m v2).run P w.drew = .ok news.toArray w.drew)
    (hl : news.length = m * ei.sz) (h1 : ∀ u ∈ news, u.oneCell' = true) (h63 : n + m ≤ maxLen) (hbytes : (n + m) * ei.by_ ≤ 140737488355328) :
    (base = none ∧ m = 0 ∧ (Builtin.append_ #[t, t2] ty #[.slice base n cap, v2]).run P w = .ok (.slice none 0 0) w) ∨
    ∃ b' c' cur' e'' w', (Builtin.append_ #[t, t2] ty #[.slice base n cap, v2]).run P w = .ok (.slice (some ⟨b', 0, none⟩) (n + m) c') w' ∧
      w'.heap[b']? = some (.cells cur' e'' (0, 0)) ∧ cur'.size = c' * ei.sz ∧ n + m ≤ c' ∧ c' ≤ maxLen ∧
      cur'.toList.take ((n + m) * ei.sz) = (if base = none then [] else cur.toList.take (n * ei.sz)) ++ news ∧
      (∀ k, k < w.heap.size → k ≠ b' → w'.heap[k]? = w.heap[k]?) ∧ w.heap.size ≤ w'.heap.size ∧ b' < w'.heap.size ∧
      (w'.os = w.os ∧ w'.tape = w.tape ∧ w'.output = w.output) ∧ (w.heap.size ≤ b' ∨ base = some ⟨b', 0, none⟩) := by
  obtain ⟨i, z, hi, hs, hby, hz, hzs, hzl, _⟩ := he.info
  have hsz : i.size = ei.sz := hs
  have hb0 : i.bytes = ei.by_ := hby
  have hsmall : n + m ≤ 9223372036854775807 := by simpa [maxLen] using h63
  rcases hbase with ⟨rfl, rfl, rfl⟩ | ⟨rfl, hb, hcs, hnc, hcm⟩
  · by_cases hm : m = 0
    · subst hm
      left
      refine ⟨rfl, rfl, ?_⟩
      simp [Builtin.append_, run_underlying ht, run_underlying ht2, sizeOf, typeInfo, hi, hsz, hlen, hf1]
    · right
      have h63' : ¬ (9223372036854775807 < (m : Int)) := by omega
      have hge := grownCap_ge w m 0 e
      have hcm := grownCap_le_maxLen w m 0 e (by simpa using h63)
      have h48' : ¬ (281474976710656 < Builtin.nextslicecap m 0 * i.bytes) := by
        rw [nextslicecap_zero (by omega), hb0]; simp only [Nat.zero_add] at hbytes; omega
      refine ⟨w.heap.size, grownCap w m 0 e, news.toArray ++ Builtin.zeroCells z.cells (grownCap w m 0 e - m), e, w.drew.alloc (.cells (news.toArray ++ Builtin.zeroCells z.cells (grownCap w m 0 e - m)) e), ?_, ?_, ?_, by simpa using hge, hcm, ?_, ?_, ?_, ?_, ⟨rfl, rfl, rfl⟩, .inl (Nat.le_refl _)⟩
      · simp [Builtin.append_, run_underlying ht, run_underlying ht2, sizeOf, typeInfo, zeroValue, hi, hz, hsz, hlen, hf2, hm, h63', h48', Question.forced, run_firstCells_none, newRow, grownCap]
      · exact heap_alloc_new w.drew _
      · simp only [Array.size_append, List.size_toArray, size_zeroCells, hzs, hl, ← Nat.add_mul]
        congr 1; omega
      · simp only [Array.toList_append, if_true, List.nil_append, Nat.zero_add]
        rw [← hl]; exact List.take_left
      · intro k hk _; exact Below.heap_alloc w.drew _ k hk
      · simp
      · simp
  · right
    by_cases hroom : n + m ≤ cap
    · have hfit : n * ei.sz + 0 + news.length ≤ cur.size := by rw [hl, hcs, Nat.add_zero, ← Nat.add_mul]; exact Nat.mul_le_mul_right _ hroom
      have hst := run_storeCells_at P b (n * ei.sz) e' news 0 cur w hb hfit h1
      simp only [Nat.add_zero] at hst hfit
      refine ⟨b, cap, _, e', w.setRow b (cur.toList.take (n * ei.sz) ++ news ++ cur.toList.drop (n * ei.sz + news.length)).toArray, ?_, setRow_heap w b cur _ e' _ hb, ?_, hroom, hcm, ?_, ?_, ?_, ?_, ⟨rfl, rfl, rfl⟩, .inr rfl⟩
      · simp [Builtin.append_, run_underlying ht, run_underlying ht2, sizeOf, typeInfo, hi, hsz, hlen, hf1, hroom, Addr.add_lit, hst]
      · simp only [List.size_toArray, List.length_append, List.length_take, List.length_drop, Array.length_toList]
        omega
      · simp only [reduceCtorEq, if_false]
        have : (cur.toList.take (n * ei.sz) ++ news).length = (n + m) * ei.sz := by
          rw [List.length_append, List.length_take, hl, Nat.add_mul]; simp; omega
        rw [← this]; exact List.take_left
      · intro k hk hne; exact setRow_other w b k _ hne
      · simp
      · simpa using (Array.getElem?_eq_some_iff.1 hb).1
    · have hge := grownCap_ge w (n + m) cap e
      have hcm' := grownCap_le_maxLen w (n + m) cap e h63
      have holds : ∀ j v, (cur.toList.take (n * ei.sz))[j]? = some v → w.cell? ((⟨b, 0, none⟩ : Addr).add j) = some v := by
        intro j v hj
        rw [List.getElem?_take] at hj
        split at hj
        · exact cell?_own hb (by simpa using hj)
        · simp at hj
      have hlo : (cur.toList.take (n * ei.sz)).length = n * ei.sz := by
        rw [List.length_take, Array.length_toList, hcs]
        exact Nat.min_eq_left (Nat.mul_le_mul_right _ hnc)
      have h63' : ¬ (9223372036854775807 < ((n : Int) + (m : Int))) := by omega
      have h48' : ¬ (281474976710656 < Builtin.nextslicecap (n + m) cap * i.bytes) := by
        have := growslice_fits (need := n + m) (old := cap) (bytes := ei.by_) (by omega) hbytes
        rw [hb0]; omega
      have hfo := run_firstCells_some (P := P) w.drew ei.sz n ⟨b, 0, none⟩ n cap _ hlo (by simpa using holds)
      refine ⟨w.heap.size, grownCap w (n + m) cap e, (cur.toList.take (n * ei.sz)).toArray ++ news.toArray ++ Builtin.zeroCells z.cells (grownCap w (n + m) cap e - (n + m)), e,
        w.drew.alloc (.cells ((cur.toList.take (n * ei.sz)).toArray ++ news.toArray ++ Builtin.zeroCells z.cells (grownCap w (n + m) cap e - (n + m))) e), ?_, ?_, ?_, hge, hcm', ?_, ?_, ?_, ?_, ⟨rfl, rfl, rfl⟩, .inl (Nat.le_refl _)⟩
      · simp only [Builtin.append_]
        simp [run_underlying ht, run_underlying ht2, sizeOf, typeInfo, zeroValue, hi, hz, hsz, hlen, hf2, hroom, h63', h48', Question.forced, hfo, newRow, grownCap]
        congr 2
        apply Array.ext'
        simp [List.append_assoc]
      · exact heap_alloc_new w.drew _
      · simp only [Array.size_append, List.size_toArray, size_zeroCells, hzs, hlo, hl, ← Nat.add_mul]
        congr 1; omega
      · simp only [Array.toList_append, reduceCtorEq, if_false]
        have : ((cur.toList.take (n * ei.sz)) ++ news).length = (n + m) * ei.sz := by rw [List.length_append, hlo, hl, Nat.add_mul]
        rw [← this]; exact List.take_left
      · intro k hk _; exact Below.heap_alloc w.drew _ k hk
      · simp
      · simp

end Go.Proofs.YtkhobcmkbldmiaaFw
