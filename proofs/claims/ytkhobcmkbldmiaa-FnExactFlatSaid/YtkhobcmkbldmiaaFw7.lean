/- Operations that read: places, elements, fields, lengths, cuts. -/
import Derived.Test.YtkhobcmkbldmiaaFw6
namespace Go.Proofs.YtkhobcmkbldmiaaFw
open Go Go.RowKit

theorem Val.agg_inv {g : Gh} {w : World} {cs : List AV} {v : Value} (h : Val g w (.agg cs) v) :
    ∃ vs : Array Value, v = .agg vs ∧ vs.size = cs.length ∧ ∀ (k : Nat) (c : AV) (u : Value), cs[k]? = some c → vs[k]? = some u → Val g w c u := by
  cases h with
  | cell _ _ h => cases h
  | agg _ vs hl h => exact ⟨vs, rfl, hl, h⟩

theorem Val.tup_inv {g : Gh} {w : World} {cs : List AV} {v : Value} (h : Val g w (.tup cs) v) :
    ∃ vs : Array Value, v = .tuple vs ∧ vs.size = cs.length ∧ ∀ (k : Nat) (c : AV) (u : Value), cs[k]? = some c → vs[k]? = some u → Val g w c u := by
  cases h with
  | cell _ _ h => cases h
  | tup _ vs hl h => exact ⟨vs, rfl, hl, h⟩

theorem Val.hd_inv {g : Gh} {w : World} {id : Nat} {q : Path} {v : Value} (h : Val g w (.hd id q) v) :
    (∃ b c n, g.loc id q = some (b, c, n) ∧ v = .slice (some ⟨b, 0, none⟩) n c) ∨ (g.loc id q = none ∧ v = .slice none 0 0) := by
  cases h with
  | cell _ _ h => cases h
  | hd _ _ b c n hl => exact .inl ⟨b, c, n, hl, rfl⟩
  | hdNil _ _ hl => exact .inr ⟨hl, rfl⟩

theorem Val.ptr_inv {g : Gh} {w : World} {id : Nat} {q : Path} {sz i k : Nat} {v : Value} (h : Val g w (.ptr id q sz i k) v) :
    ∃ b c n, g.loc id q = some (b, c, n) ∧ v = .pointer (some ⟨b, i * sz + k, none⟩) := by
  cases h with
  | cell _ _ h => cases h
  | ptr _ _ _ _ _ b c n hl => exact ⟨b, c, n, hl, rfl⟩

theorem Val.ref_inv {g : Gh} {w : World} {id : Nat} {q : Path} {sz off n : Nat} {v : Value} (h : Val g w (.ref id q sz off n) v) :
    (∃ b cap len c a, g.loc id q = some (b, cap, len) ∧ off + c = cap ∧ n ≤ c ∧ (0 < c ∨ off = 0 → a = ⟨b, off * sz, none⟩) ∧ v = .slice (some a) n c) ∨
    (g.loc id q = none ∧ v = .slice none 0 0 ∧ off = 0 ∧ n = 0) := by
  cases h with
  | cell _ _ h => cases h
  | ref _ _ _ _ _ b cap len c a hl hc hn ha => exact .inl ⟨b, cap, len, c, a, hl, hc, hn, ha, rfl⟩
  | refNil _ _ _ hl => exact .inr ⟨hl, rfl, rfl, rfl⟩

theorem Val.rp_inv {g : Gh} {w : World} {m : Md} {cs : List AV} {v : Value} (h : Val g w (.rp m cs) v) :
    ∃ (a : Addr) (us : Nat → Value), v = .pointer (some a) ∧ g.rd m a.block ∧ a.spot = none ∧ (∀ (k : Nat) (y : AV), cs[k]? = some y → w.cell? (a.add k) = some (us k)) ∧
      (∀ (k : Nat) (y : AV), cs[k]? = some y → Cell g w m.pl y (us k)) := by
  cases h with
  | cell _ _ h => cases h
  | rp _ _ a us hm hs hc ht => exact ⟨a, us, rfl, hm, hs, hc, ht⟩

theorem Val.vp_inv {g : Gh} {w : World} {cs : List AV} {v : Value} (h : Val g w (.vp cs) v) :
    ∃ (a : Addr) (us : Nat → Value), v = .pointer (some a) ∧ g.perm a.block ∧ a.spot = none ∧ (∀ (k : Nat) (y : AV), cs[k]? = some y → w.cell? (a.add k) = some (us k)) ∧
      (∀ (k : Nat) (y : AV), cs[k]? = some y → Val g w y (us k)) := by
  cases h with
  | cell _ _ h => cases h
  | vp _ a us hm hs hc ht => exact ⟨a, us, rfl, hm, hs, hc, ht⟩

/-- A row that is only read, or an empty one. -/
theorem Val.row_inv {g : Gh} {w : World} {m : Md} {sz : Nat} {es : List AV} {v : Value} (h : Val g w (.row m sz es) v) :
    (∃ a c, v = .slice a 0 c ∧ es = [] ∧ m ≠ .own) ∨
    ∃ (a : Addr) (c : Nat) (us : Nat → Value), v = .slice (some a) es.length c ∧ g.rd m a.block ∧ a.spot = none ∧ es.length ≤ c ∧ (∀ (i : Nat) (x : AV), es[i]? = some x → x.width = sz) ∧
      (∀ (i k : Nat) (x y : AV), es[i]? = some x → x.cells[k]? = some y → w.cell? (a.add (i * sz + k)) = some (us (i * sz + k))) ∧
      (∀ (i k : Nat) (x y : AV), es[i]? = some x → x.cells[k]? = some y → Cell g w m.pl y (us (i * sz + k))) := by
  cases h with
  | cell _ _ h =>
    cases h with
    | emp _ _ _ a c hm => exact .inl ⟨a, c, rfl, rfl, hm⟩
    | rd _ _ _ _ a c us hp hm hs hl hw hc ht => exact .inr ⟨a, c, us, rfl, hm, hs, hl, hw, hc, ht⟩

/-! ### the node behind a place -/
def St.node (s : St) (id : Nat) (q : Path) : Option (Nat × List AV) :=
  match lookO s.objs id with
  | some (rsz, res) => navG res rsz q
  | none => none

theorem St.node_some {s : St} {id : Nat} {q : Path} {sz : Nat} {es : List AV} (h : s.node id q = some (sz, es)) : ∃ rsz res, lookO s.objs id = some (rsz, res) ∧ navG res rsz q = some (sz, es) := by
  unfold St.node at h
  split at h
  · rename_i rsz res he; exact ⟨rsz, res, he, h⟩
  · simp at h

theorem Sim.node {s : St} {a : Act} {w : World} {g : Gh} (h : Sim s a w g) {id : Nat} {q : Path} {sz : Nat} {es : List AV} (hn : s.node id q = some (sz, es)) :
    ∃ v, Cell g w (.at id q) (.row .own sz es) v := by
  obtain ⟨rsz, res, h1, h2⟩ := St.node_some hn
  obtain ⟨v, hv⟩ := h.h.obj id rsz res h1
  obtain ⟨v', hv'⟩ := Cell.nav q [] rsz res v sz es hv h2
  exact ⟨v', by simpa using hv'⟩

theorem Cell.hd {g : Gh} {w : World} {id : Nat} {q : Path} {sz : Nat} {es : List AV} {v v' : Value} (h : Cell g w (.at id q) (.row .own sz es) v) (hv : Val g w (.hd id q) v') : v' = v := by
  have := h.look
  rcases hv.hd_inv with ⟨b, c, n, hl, rfl⟩ | ⟨hl, rfl⟩ <;> rcases this.hd_inv with ⟨b', c', n', hl', rfl⟩ | ⟨hl', rfl⟩ <;> rw [hl] at hl' <;> simp at hl'
  · obtain ⟨rfl, rfl, rfl⟩ := hl'; rfl

/-- How long a node is. -/
theorem Cell.len {g : Gh} {w : World} {id : Nat} {q : Path} {sz : Nat} {es : List AV} {v : Value} (h : Cell g w (.at id q) (.row .own sz es) v) : ∃ a c, v = .slice a es.length c := by
  cases h with
  | rd _ _ _ _ a c us hp hm => exact hm.elim
  | emp _ _ _ a c hm => exact absurd rfl hm
  | ownNil => exact ⟨none, 0, rfl⟩
  | own _ _ _ _ b c => exact ⟨_, c, rfl⟩

/-! ### load -/
def lookL (id : Nat) (q : Path) (i : Nat) : Nat → List AV → List AV
  | _, [] => []
  | k, y :: r => lookA id (q ++ [(i, k)]) y :: lookL id q i (k + 1) r

theorem lookL_get (id : Nat) (q : Path) (i : Nat) : ∀ (l : List AV) (k j : Nat), (lookL id q i k l)[j]? = (l[j]?).map (lookA id (q ++ [(i, k + j)]))
  | [], k, j => by simp [lookL]
  | y :: r, k, 0 => by simp [lookL]
  | y :: r, k, j + 1 => by
    simp only [lookL, List.getElem?_cons_succ]
    rw [lookL_get id q i r (k + 1) j, show k + 1 + j = k + (j + 1) by omega]

theorem lookL_length (id : Nat) (q : Path) (i : Nat) : ∀ (l : List AV) (k : Nat), (lookL id q i k l).length = l.length
  | [], k => rfl
  | y :: r, k => by simp [lookL, lookL_length id q i r (k + 1)]

def vLoad (T : Tab) (s : St) (t : TypeId) (x : AV) : Option AV :=
  match T t with
  | none => none
  | some ti =>
    match x with
    | .ptr id q sz i k =>
      match s.node id q with
      | some (sz', es) =>
        if sz' = sz then
          match es[i]? with
          | some e =>
            match ti.k with
            | .struct _ => if k + ti.sz ≤ e.width then some (.agg (lookL id q i k ((e.cells.drop k).take ti.sz))) else none
            | .arr _ _ => none
            | _ =>
              if ti.sz = 1 then
                match e.cells[k]? with
                | some y => some (lookA id (q ++ [(i, k)]) y)
                | none => none
              else none
          | none => none
        else none
      | none => none
    | .rp _ cs =>
      match ti.k with
      | .struct _ => if ti.sz ≤ cs.length then some (.agg (cs.take ti.sz)) else none
      | .arr _ _ => none
      | _ =>
        if ti.sz = 1 then cs[0]? else none
    | .vp cs =>
      match ti.k with
      | .struct _ => if ti.sz ≤ cs.length then some (.agg (cs.take ti.sz)) else none
      | .arr _ _ => none
      | _ =>
        if ti.sz = 1 then cs[0]? else none
    | _ => none

theorem agg_val {g : Gh} {w : World} {cs : List AV} {us : List Value} (hl : us.length = cs.length)
    (h : ∀ (k : Nat) (c : AV) (u : Value), cs[k]? = some c → us[k]? = some u → Val g w c u) : Val g w (.agg cs) (.agg us.toArray) :=
  .agg _ _ (by simpa using hl) (fun k c u hc hu => h k c u hc (by simpa using hu))

theorem run_loadVar_agg {P : Program} {t : TypeId} {ti : TI} (h : TIOk P t ti) {w : World} {a : Addr} {us : List Value} (hl : us.length = ti.sz) (hk : isAggK ti.k = true)
    (hc : ∀ (k : Nat) (u : Value), us[k]? = some u → w.cell? (a.add k) = some u) : (loadVar t a).run P w = .ok (.agg us.toArray) w := by
  have := run_loadVar h hl (by simp [hk]) hc
  simpa [hk] using this

theorem run_loadVar_one {P : Program} {t : TypeId} {ti : TI} (h : TIOk P t ti) {w : World} {a : Addr} {u : Value} (hk : isAggK ti.k = false)
    (hc : w.cell? a = some u) : (loadVar t a).run P w = .ok u w := by
  unfold loadVar
  simp [run_isAgg h.kind, hk, run_load, hc]

theorem run_loadAt {P : Program} {t : TypeId} {a : Addr} {w : World} : (Instr.loadAt t (.pointer (some a))).run P w = (loadVar t a).run P w := by
  simp [Instr.loadAt, Instr.sureAddr]

theorem vLoad_ok {P : Program} {T : Tab} (hT : TabOk P T) {s : St} {t : TypeId} {x y : AV} (h : vLoad T s t x = some y) {a : Act} {w : World} {g : Gh} (hs : Sim s a w g) {v : Value} (hv : Val g w x v) :
    ∃ r, (Instr.loadAt t v).run P w = .ok r w ∧ Val g w y r := by
  unfold vLoad at h
  split at h
  · simp at h
  · rename_i ti hti
    have hTI := hT t ti hti
    split at h
    · rename_i id q sz i k
      split at h
      · rename_i sz' es hn
        split at h
        · rename_i hsz
          subst hsz
          split at h
          · rename_i e he
            obtain ⟨b, c, n, hloc, rfl⟩ := hv.ptr_inv
            obtain ⟨v', hnode⟩ := hs.node hn
            obtain ⟨b', c', cur, ee, us, rfl, hloc', hown, hb, hlc, hcm, hcz, hw, hc, ht⟩ := hnode.node he
            rw [hloc] at hloc'
            simp only [Option.some.injEq, Prod.mk.injEq] at hloc'
            obtain ⟨rfl, rfl, rfl⟩ := hloc'
            rw [run_loadAt]
            have hcell : ∀ j z, e.cells[k + j]? = some z → w.cell? ((⟨b, i * sz' + k, none⟩ : Addr).add j) = some (us (i * sz' + (k + j))) := by
              intro j z hz
              rw [add_lit, cell_of_block hb, Nat.add_assoc]
              exact hc i (k + j) e z he hz
            split at h
            · rename_i fs hk
              split at h
              · rename_i hlen
                obtain rfl := Option.some.inj h
                have hl : ((List.range ti.sz).map fun j => us (i * sz' + (k + j))).length = ti.sz := by simp
                refine ⟨_, run_loadVar_agg hTI hl (by rw [hk]; rfl) ?_, ?_⟩
                · intro j u hu
                  rw [List.getElem?_map] at hu
                  cases hj : (List.range ti.sz)[j]? with
                  | none => simp [hj] at hu
                  | some j' =>
                    have hlt := lt_of_get hj
                    simp only [List.length_range] at hlt
                    rw [List.getElem?_range hlt] at hj
                    obtain rfl := Option.some.inj hj
                    rw [List.getElem?_range hlt] at hu
                    obtain rfl := Option.some.inj hu
                    have hlt2 : k + j < e.cells.length := by have : e.width = e.cells.length := rfl; omega
                    exact hcell j _ (List.getElem?_eq_getElem hlt2)
                · refine agg_val (by rw [lookL_length]; simp; have : e.width = e.cells.length := rfl; omega) ?_
                  intro j z u hz hu
                  rw [lookL_get] at hz
                  cases hd : ((e.cells.drop k).take ti.sz)[j]? with
                  | none => simp [hd] at hz
                  | some z0 =>
                    rw [hd] at hz
                    obtain rfl := Option.some.inj hz
                    rw [List.getElem?_take] at hd
                    split at hd
                    · rename_i hlt
                      rw [List.getElem?_drop] at hd
                      rw [List.getElem?_map, List.getElem?_range hlt] at hu
                      obtain rfl := Option.some.inj hu
                      exact (ht i (k + j) e z0 he hd).look
                    · simp at hd
              · simp at h
            · simp at h
            · rename_i hns hna
              split at h
              · rename_i h1
                split at h
                · rename_i z hz
                  obtain rfl := Option.some.inj h
                  have hk : isAggK ti.k = false := by
                    cases hkk : ti.k <;> first | rfl | (exact absurd hkk (hns _)) | (exact absurd hkk (hna _ _))
                  have := hcell 0 z hz
                  simp only [Addr.add_zero', Nat.add_zero] at this
                  exact ⟨_, run_loadVar_one hTI hk this, (ht i k e z he hz).look⟩
                · simp at h
              · simp at h
          · simp at h
        · simp at h
      · simp at h
    · rename_i m cs
      obtain ⟨ad, us, rfl, hm, hsp, hc, ht⟩ := hv.rp_inv
      rw [run_loadAt]
      split at h
      · rename_i fs hk
        split at h
        · rename_i hlen
          obtain rfl := Option.some.inj h
          have hl : ((List.range ti.sz).map us).length = ti.sz := by simp
          refine ⟨_, run_loadVar_agg hTI hl (by rw [hk]; rfl) ?_, ?_⟩
          · intro j u hu
            rw [List.getElem?_map] at hu
            cases hj : (List.range ti.sz)[j]? with
            | none => simp [hj] at hu
            | some j' =>
              have hlt := lt_of_get hj
              simp only [List.length_range] at hlt
              rw [List.getElem?_range hlt] at hu
              obtain rfl := Option.some.inj hu
              have hlt2 : j < cs.length := by omega
              exact hc j _ (List.getElem?_eq_getElem hlt2)
          · refine agg_val (by simp; omega) ?_
            intro j z u hz hu
            rw [List.getElem?_take] at hz
            split at hz
            · rename_i hlt
              rw [List.getElem?_map, List.getElem?_range hlt] at hu
              obtain rfl := Option.some.inj hu
              exact (ht j z hz).lookRo
            · simp at hz
        · simp at h
      · simp at h
      · rename_i hns hna
        split at h
        · rename_i h1
          have hk : isAggK ti.k = false := by
            cases hkk : ti.k <;> first | rfl | (exact absurd hkk (hns _)) | (exact absurd hkk (hna _ _))
          have := hc 0 y h
          simp only [Addr.add_zero'] at this
          exact ⟨_, run_loadVar_one hTI hk this, (ht 0 y h).lookRo⟩
        · simp at h
    · rename_i cs
      obtain ⟨ad, us, rfl, hm, hsp, hc, ht⟩ := hv.vp_inv
      rw [run_loadAt]
      split at h
      · rename_i fs hk
        split at h
        · rename_i hlen
          obtain rfl := Option.some.inj h
          have hl : ((List.range ti.sz).map us).length = ti.sz := by simp
          refine ⟨_, run_loadVar_agg hTI hl (by rw [hk]; rfl) ?_, ?_⟩
          · intro j u hu
            rw [List.getElem?_map] at hu
            cases hj : (List.range ti.sz)[j]? with
            | none => simp [hj] at hu
            | some j' =>
              have hlt := lt_of_get hj
              simp only [List.length_range] at hlt
              rw [List.getElem?_range hlt] at hu
              obtain rfl := Option.some.inj hu
              have hlt2 : j < cs.length := by omega
              exact hc j _ (List.getElem?_eq_getElem hlt2)
          · refine agg_val (by simp; omega) ?_
            intro j z u hz hu
            rw [List.getElem?_take] at hz
            split at hz
            · rename_i hlt
              rw [List.getElem?_map, List.getElem?_range hlt] at hu
              obtain rfl := Option.some.inj hu
              exact (ht j z hz)
            · simp at hz
        · simp at h
      · simp at h
      · rename_i hns hna
        split at h
        · rename_i h1
          have hk : isAggK ti.k = false := by
            cases hkk : ti.k <;> first | rfl | (exact absurd hkk (hns _)) | (exact absurd hkk (hna _ _))
          have := hc 0 y h
          simp only [Addr.add_zero'] at this
          exact ⟨_, run_loadVar_one hTI hk this, (ht 0 y h)⟩
        · simp at h
    · simp at h

end Go.Proofs.YtkhobcmkbldmiaaFw
