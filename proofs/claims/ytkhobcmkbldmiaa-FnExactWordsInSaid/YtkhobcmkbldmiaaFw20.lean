/- Calls: what a function makes of its arguments and of the objects that are handed to it. -/
import Derived.Test.YtkhobcmkbldmiaaFw19
namespace Go.Proofs.YtkhobcmkbldmiaaFw
open Go Go.RowKit
set_option linter.unusedVariables false

/-- What may be read for ever stays as it is. -/
def PermKeep (g : Gh) (w : World) (g' : Gh) (w' : World) : Prop := ∀ b, g.perm b → g'.perm b ∧ w'.heap[b]? = w.heap[b]?

theorem Cell.stillRo {g g' : Gh} {w w' : World} (hr : PermKeep g w g' w') {p : Pl} {x : AV} {v : Value} (h : Cell g w p x v) : p = .ro → Cell g' w' .ro x v := by
  induction h with
  | int p k n => intro _; exact .int _ _ _
  | bool p b => intro _; exact .bool _ _
  | str p s => intro _; exact .str _ _
  | nilI p => intro _; exact .nilI _
  | dead p v h1 => intro _; exact .dead _ _ h1
  | emp p m sz a c hm => intro _; exact .emp _ _ _ _ _ hm
  | rd p m sz es a c us hp hm hs hl hw hc ht ih =>
    intro he
    cases m with
    | own => exact hm.elim
    | bo => exact absurd he (hp rfl)
    | ro => exact .rd _ _ _ _ _ _ us (by simp) (hr _ hm).1 hs hl hw (fun i k x y hx hy => (cell?_heap (by rw [add_block]; exact (hr _ hm).2)).trans (hc i k x y hx hy)) (fun i k x y hx hy => ih i k x y hx hy rfl)
  | ownNil => intro he; simp at he
  | own => intro he; simp at he

/-- A tree that holds nothing lent, found at another place. -/
theorem Cell.moveN {g g' : Gh} {w w' : World} (hr : PermKeep g w g' w') {p : Pl} {x : AV} {v : Value} (h : Cell g w p x v) : noBo x = true →
    ((∀ id q, p ≠ .at id q) → Cell g' w' p x v) ∧
    ∀ (id : Nat) (q : Path) (id' : Nat) (q' : Path), p = .at id q →
    (∀ b r, g.own b = some (id, q ++ r) → w'.heap[b]? = w.heap[b]? ∧ g'.own b = some (id', q' ++ r)) →
    (∀ r, g'.loc id' (q' ++ r) = g.loc id (q ++ r)) → Cell g' w' (.at id' q') x v := by
  induction h with
  | int p k n => intros; exact ⟨fun _ => .int _ _ _, fun _ _ _ _ _ _ _ => .int _ _ _⟩
  | bool p b => intros; exact ⟨fun _ => .bool _ _, fun _ _ _ _ _ _ _ => .bool _ _⟩
  | str p s => intros; exact ⟨fun _ => .str _ _, fun _ _ _ _ _ _ _ => .str _ _⟩
  | nilI p => intros; exact ⟨fun _ => .nilI _, fun _ _ _ _ _ _ _ => .nilI _⟩
  | dead p v h1 => intros; exact ⟨fun _ => .dead _ _ h1, fun _ _ _ _ _ _ _ => .dead _ _ h1⟩
  | emp p m sz a c hm => intros; exact ⟨fun _ => .emp _ _ _ _ _ hm, fun _ _ _ _ _ _ _ => .emp _ _ _ _ _ hm⟩
  | rd p m sz es a c us hp hm hs hl hw hc ht ih =>
    intro hb
    cases m with
    | own => exact hm.elim
    | bo =>
      cases es with
      | nil => exact ⟨fun _ => .emp _ _ _ _ _ (by simp), fun _ _ _ _ _ _ _ => .emp _ _ _ _ _ (by simp)⟩
      | cons x r => simp [noBo] at hb
    | ro =>
      have hm' := hr _ hm
      have key : ∀ p', (Md.ro = .bo → p' ≠ .ro) → Cell g' w' p' (.row .ro sz es) (.slice (some a) es.length c) := fun p' hp' =>
        .rd _ _ _ _ _ _ us hp' hm'.1 hs hl hw (fun i k x y hx hy => (cell?_heap (by rw [add_block]; exact hm'.2)).trans (hc i k x y hx hy)) (fun i k x y hx hy => (ht i k x y hx hy).stillRo hr rfl)
      exact ⟨fun _ => key p hp, fun _ _ _ _ _ _ _ => key _ (by simp)⟩
  | ownNil id q sz hl =>
    intro hb
    refine ⟨fun h => absurd rfl (h _ _), ?_⟩
    intro id1 q1 id' q' he _ h2
    obtain ⟨rfl, rfl⟩ := Pl.at.inj he
    exact .ownNil _ _ _ (by have := h2 []; simp only [List.append_nil] at this; rw [this]; exact hl)
  | own id q sz es b c cur e us hl ho hb hn hm hz hw hc ht ih =>
    intro hnb
    simp only [noBo] at hnb
    refine ⟨fun h => absurd rfl (h _ _), ?_⟩
    intro id1 q1 id' q' he h1 h2
    obtain ⟨rfl, rfl⟩ := Pl.at.inj he
    have h0 := h1 b [] (by simpa using ho)
    refine .own _ _ _ _ b c cur e us ?_ (by simpa using h0.2) (by rw [h0.1]; exact hb) hn hm hz hw hc ?_
    · have := h2 []; simp only [List.append_nil] at this; rw [this]; exact hl
    · intro i k x y hx hy
      refine (ih i k x y hx hy (noBo_cells (noBoL_get hnb hx) hy)).2 id (q ++ [(i, k)]) id' (q' ++ [(i, k)]) rfl ?_ ?_
      · intro b' r hb'
        have := h1 b' ((i, k) :: r) (by simpa using hb')
        simpa using this
      · intro r
        have := h2 ((i, k) :: r)
        simpa using this

mutual
/-- A value that views nothing of the call's own and nothing lent. -/
def clean : AV → Bool
  | .hd _ _ => false
  | .ref _ _ _ _ _ => false
  | .ptr _ _ _ _ _ => false
  | .agg cs => cleanL cs
  | .tup cs => cleanL cs
  | .fn _ cs => cleanL cs
  | .row m sz es => noBo (.row m sz es)
  | .rp m _ => decide (m = .ro)
  | .vp _ => false
  | _ => true
def cleanL : List AV → Bool
  | [] => true
  | x :: r => clean x && cleanL r
end

theorem cleanL_get {l : List AV} (h : cleanL l = true) {i : Nat} {x : AV} (hx : l[i]? = some x) : clean x = true := by
  induction l generalizing i with
  | nil => simp at hx
  | cons y r ih =>
    simp only [cleanL, Bool.and_eq_true] at h
    cases i with
    | zero => simp at hx; rw [← hx]; exact h.1
    | succ i => exact ih h.2 (by simpa using hx)

theorem Val.cleanTo {g g' : Gh} {w w' : World} (hr : PermKeep g w g' w') {x : AV} {v : Value} (h : Val g w x v) : clean x = true → Val g' w' x v := by
  induction h with
  | cell x v h =>
    intro hb
    refine .cell _ _ ((h.moveN hr ?_).1 (by simp))
    cases h <;> first | exact hb | rfl
  | nilS => intro _; exact .nilS
  | nilP => intro _; exact .nilP
  | agg cs vs hl h ih => intro hb; exact .agg _ _ hl (fun k c u hc hu => ih k c u hc hu (cleanL_get (by simpa [clean] using hb) hc))
  | tup cs vs hl h ih => intro hb; exact .tup _ _ hl (fun k c u hc hu => ih k c u hc hu (cleanL_get (by simpa [clean] using hb) hc))
  | fn f' cs vs hl h ih => intro hb; exact .fn _ _ _ hl (fun k c u hc hu => ih k c u hc hu (cleanL_get (by simpa [clean] using hb) hc))
  | hd id q b c n hl => intro hb; simp [clean] at hb
  | hdNil id q hl => intro hb; simp [clean] at hb
  | ref id q sz off n b cap len c a hl hc hn ha => intro hb; simp [clean] at hb
  | refNil id q sz hl => intro hb; simp [clean] at hb
  | ptr id q sz i k b cap len hl => intro hb; simp [clean] at hb
  | rp m cs a us hm hs hc ht =>
    intro hb
    simp only [clean, decide_eq_true_eq] at hb
    subst hb
    have hm' := hr _ hm
    exact .rp _ _ _ us hm'.1 hs (fun k y hy => (cell?_heap (by rw [add_block]; exact hm'.2)).trans (hc k y hy)) (fun k y hy => (ht k y hy).stillRo hr rfl)
  | vp cs a us hm hs hc ht ih => intro hb; simp [clean] at hb
  | dead v => intro _; exact .dead _

def okRef (n m id : Nat) : Bool := decide (id < n) || (decide (100 ≤ id) && decide (id < 100 + m))

mutual
/-- A result: it views what was handed over (below n) and what is handed back (100, 101, ..: m of them), and nothing lent. -/
def cleanR (n m : Nat) : AV → Bool
  | .hd id _ => okRef n m id
  | .ref id _ _ _ _ => okRef n m id
  | .ptr id _ _ _ _ => okRef n m id
  | .agg cs => cleanRL n m cs
  | .tup cs => cleanRL n m cs
  | .fn _ cs => cleanRL n m cs
  | .row k sz es => noBo (.row k sz es)
  | .rp k _ => decide (k = .ro)
  | .vp _ => false
  | _ => true
def cleanRL (n m : Nat) : List AV → Bool
  | [] => true
  | x :: r => cleanR n m x && cleanRL n m r
end

theorem cleanRL_get {n m : Nat} {l : List AV} (h : cleanRL n m l = true) {i : Nat} {x : AV} (hx : l[i]? = some x) : cleanR n m x = true := by
  induction l generalizing i with
  | nil => simp at hx
  | cons y r ih =>
    simp only [cleanRL, Bool.and_eq_true] at h
    cases i with
    | zero => simp at hx; rw [← hx]; exact h.1
    | succ i => exact ih h.2 (by simpa using hx)

theorem Val.backTo {g g' : Gh} {w w' : World} (hr : PermKeep g w g' w') {n m : Nat} {f : Nat → Path → Option (Nat × Path)}
    (hf : ∀ id q, okRef n m id = true → ∃ id', f id q = some (id', q) ∧ g'.loc id' q = g.loc id q) {x : AV} {v : Value} (h : Val g w x v) : cleanR n m x = true → Val g' w' (mapRef f x) v := by
  induction h with
  | cell x v h =>
    intro hb
    cases h with
    | int => exact .cell _ _ (.int _ _ _)
    | bool => exact .cell _ _ (.bool _ _)
    | str => exact .cell _ _ (.str _ _)
    | nilI => exact .cell _ _ (.nilI _)
    | dead _ _ h1 => exact .dead _
    | emp _ k sz a c hm => exact .cell _ _ (.emp _ _ _ _ _ hm)
    | rd _ k sz es a c us hp hm hs hl hw hc ht =>
      have h := Cell.rd .bo k sz es a c us hp hm hs hl hw hc ht
      exact .cell _ _ ((h.moveN hr (by simpa only [cleanR] using hb)).1 (by simp))
  | nilS => intro _; exact .nilS
  | nilP => intro _; exact .nilP
  | agg cs vs hl h ih =>
    intro hb
    exact .agg _ _ (by rw [mapRefL_length]; exact hl) (mapRefL_agg (P := fun c u => Val g' w' c u) fun k c u hc hu => ih k c u hc hu (cleanRL_get (by simpa [cleanR] using hb) hc))
  | tup cs vs hl h ih =>
    intro hb
    exact .tup _ _ (by rw [mapRefL_length]; exact hl) (mapRefL_agg (P := fun c u => Val g' w' c u) fun k c u hc hu => ih k c u hc hu (cleanRL_get (by simpa [cleanR] using hb) hc))
  | fn f' cs vs hl h ih =>
    intro hb
    exact .fn _ _ _ (by rw [mapRefL_length]; exact hl) (mapRefL_agg (P := fun c u => Val g' w' c u) fun k c u hc hu => ih k c u hc hu (cleanRL_get (by simpa [cleanR] using hb) hc))
  | hd id q b c n' hl =>
    intro hb
    obtain ⟨id', h1, h2⟩ := hf id q (by simpa [cleanR] using hb)
    simp only [mapRef, h1]
    exact .hd _ _ b c n' (h2.trans hl)
  | hdNil id q hl =>
    intro hb
    obtain ⟨id', h1, h2⟩ := hf id q (by simpa [cleanR] using hb)
    simp only [mapRef, h1]
    exact .hdNil _ _ (h2.trans hl)
  | ref id q sz off n' b cap len c a hl hc hn ha =>
    intro hb
    obtain ⟨id', h1, h2⟩ := hf id q (by simpa [cleanR] using hb)
    simp only [mapRef, h1]
    exact .ref _ _ _ _ _ b cap len c a (h2.trans hl) hc hn ha
  | refNil id q sz hl =>
    intro hb
    obtain ⟨id', h1, h2⟩ := hf id q (by simpa [cleanR] using hb)
    simp only [mapRef, h1]
    exact .refNil _ _ _ (h2.trans hl)
  | ptr id q sz i k b cap len hl =>
    intro hb
    obtain ⟨id', h1, h2⟩ := hf id q (by simpa [cleanR] using hb)
    simp only [mapRef, h1]
    exact .ptr _ _ _ _ _ b cap len (h2.trans hl)
  | rp k cs a us hm hs hc ht =>
    intro hb
    simp only [cleanR, decide_eq_true_eq] at hb
    subst hb
    have hm' := hr _ hm
    exact .rp _ _ _ us hm'.1 hs (fun k y hy => (cell?_heap (by rw [add_block]; exact hm'.2)).trans (hc k y hy)) (fun k y hy => (ht k y hy).stillRo hr rfl)
  | vp cs a us hm hs hc ht ih => intro hb; simp [cleanR] at hb
  | dead v => intro _; exact .dead _

/-- A call of function f on values that read as xs, with objects os handed over (numbers 0, 1, ..), returns what R tells: the result, the objects then, what objects are handed back (numbers 100, 101, ..). st: no row of what was handed over moves. -/
def CallsA (P : Program) (f : FuncId) (st : Bool) (xs : List AV) (os : List (Nat × List AV)) (R : AV → List (Nat × List AV) → List (Nat × List AV) → Prop) : Prop :=
  ∀ (vs : Array Value) (w : World) (g : Gh), g.st = st → vs.size = xs.length → (∀ (k : Nat) (x : AV) (u : Value), xs[k]? = some x → vs[k]? = some u → Val g w x u) →
    (∀ b p, g.own b = some p → ¬ g.perm b ∧ ¬ g.bor b ∧ b < w.heap.size) → (∀ b, g.canRd b → b < w.heap.size) →
    (∀ i sz es, os[i]? = some (sz, es) → ∃ v, Cell g w (.at i []) (.row .own sz es) v) →
    Calls P f vs w fun e w' => ∃ v r os' ros g', e = .returned v ∧ R r os' ros ∧ Keep g w g' w' ∧ os'.length = os.length ∧ ros.length ≤ 64 ∧
      (∀ b p, g'.own b = some p → ¬ g'.perm b ∧ ¬ g'.bor b ∧ b < w'.heap.size) ∧ (∀ b, g'.canRd b → b < w'.heap.size) ∧
      (∀ i sz es, os'[i]? = some (sz, es) → noBoL es = true ∧ ∃ v, Cell g' w' (.at i []) (.row .own sz es) v) ∧
      (∀ i sz es, ros[i]? = some (sz, es) → noBoL es = true ∧ ∃ v, Cell g' w' (.at (100 + i) []) (.row .own sz es) v) ∧
      cleanR os.length ros.length r = true ∧ Val g' w' r v

end Go.Proofs.YtkhobcmkbldmiaaFw
