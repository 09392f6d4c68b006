/- Types as the program tells them: a check by computing. -/
import Derived.Test.YtkhobcmkbldmiaaFw26
import Derived.KernelRfl
namespace Go.Proofs.YtkhobcmkbldmiaaFw
open Go Go.RowKit

def zokB : AV → Value → Bool
  | .int k n, .int k' n' => decide (k = k') && decide (n = n')
  | .bool b, .bool b' => b == b'
  | .str s, .string s' => decide (s'.data.toList = s)
  | .row .own _ [], .slice none 0 0 => true
  | .nilI, .nilIface => true
  | .dead, u => u.oneCell'
  | _, _ => false

theorem zokB_ok {y : AV} {u : Value} (h : zokB y u = true) : ZOk y u := by
  unfold zokB at h
  split at h
  · simp only [Bool.and_eq_true, decide_eq_true_eq] at h; exact h
  · simpa [ZOk] using h
  · rename_i s s'
    simp only [decide_eq_true_eq] at h
    show s' = ⟨⟨s⟩⟩
    rw [← h]
  · trivial
  · trivial
  · simpa [ZOk] using h
  · simp at h

def zokL : List AV → List Value → Bool
  | [], [] => true
  | y :: ys, u :: us => zokB y u && zokL ys us
  | _, _ => false

theorem zokL_ok : ∀ {ys : List AV} {us : List Value}, zokL ys us = true → ys.length = us.length ∧ ∀ (k : Nat) (y : AV), ys[k]? = some y → ∃ u, us[k]? = some u ∧ ZOk y u
  | [], [], _ => ⟨rfl, fun k y h => by simp at h⟩
  | y :: ys, u :: us, h => by
    simp only [zokL, Bool.and_eq_true] at h
    obtain ⟨h1, h2⟩ := zokL_ok h.2
    refine ⟨by simp [h1], ?_⟩
    intro k z hk
    cases k with
    | zero => simp at hk; subst hk; exact ⟨u, rfl, zokB_ok h.1⟩
    | succ k => exact h2 k z (by simpa using hk)
  | [], _ :: _, h => by simp [zokL] at h
  | _ :: _, [], h => by simp [zokL] at h

def chkK (P : Program) (t : TypeId) : TK → Bool
  | .int k => match P.underlying t with | some (.int k') => decide (k = k') | _ => false
  | .bool => match P.underlying t with | some .bool => true | _ => false
  | .str => match P.underlying t with | some .string => true | _ => false
  | .slice e => match P.underlying t with | some (.slice e') => e == e' | _ => false
  | .struct fs => match P.underlying t with | some (.struct fields) => fields.toList.map (fun f => (f.offset, f.type)) == fs | _ => false
  | .arr n e => match P.underlying t with | some (.array n' e') => n == n' && e == e' | _ => false
  | .other => match P.underlying t with | some (.struct _) => false | some (.array _ _) => false | some _ => true | none => false

theorem chkK_ok {P : Program} {t : TypeId} {k : TK} (h : chkK P t k = true) : TKOk P t k := by
  unfold chkK at h
  split at h <;> split at h <;> try (simp at h; done)
  · rename_i k k' he; simp only [decide_eq_true_eq] at h; subst h; exact he
  · rename_i he; exact he
  · rename_i he; exact he
  · rename_i e e' he; simp only [beq_iff_eq] at h; subst h; exact he
  · rename_i fs fields he; exact ⟨fields, he, by simpa using h⟩
  · rename_i n e n' e' he; simp only [Bool.and_eq_true, beq_iff_eq] at h; obtain ⟨rfl, rfl⟩ := h; exact he
  · rename_i d h1 h2 he; exact ⟨d, he, fun fs e => h1 fs e, fun n e' e => h2 n e' e⟩

def chkTI (P : Program) (t : TypeId) (ti : TI) : Bool :=
  match P.info? t with
  | some i => i.size == ti.sz && i.bytes == ti.by_ && ti.z.length == ti.sz && chkK P t ti.k && (match i.zero with | some z => zokL ti.z z.cells.toList | none => false)
  | none => false

theorem chkTI_ok {P : Program} {t : TypeId} {ti : TI} (h : chkTI P t ti = true) : TIOk P t ti := by
  unfold chkTI at h
  split at h
  · rename_i i hi
    simp only [Bool.and_eq_true, beq_iff_eq] at h
    obtain ⟨⟨⟨⟨h1, h2⟩, h3⟩, h4⟩, h5⟩ := h
    split at h5
    · rename_i z hz
      obtain ⟨l1, l2⟩ := zokL_ok h5
      refine ⟨⟨i, z, hi, h1, h2, hz, ?_, h3, ?_⟩, chkK_ok h4⟩
      · simp only [Array.length_toList] at l1; omega
      · intro k y hk
        obtain ⟨u, hu, hz⟩ := l2 k y hk
        exact ⟨u, by simpa using hu, hz⟩
    · simp at h5
  · simp at h

def lookT : List (TypeId × TI) → Tab
  | [], _ => none
  | (t, ti) :: r, u => if t = u then some ti else lookT r u

theorem tabOk_of {P : Program} : ∀ {l : List (TypeId × TI)}, (l.all fun p => chkTI P p.1 p.2) = true → TabOk P (lookT l)
  | [], _, t, ti, h => by simp [lookT] at h
  | p :: r, hl, t, ti, h => by
    simp only [List.all_cons, Bool.and_eq_true] at hl
    simp only [lookT] at h
    split at h
    · rename_i e; subst e; obtain rfl := Option.some.inj h; exact chkTI_ok hl.1
    · exact tabOk_of hl.2 t ti h

end Go.Proofs.YtkhobcmkbldmiaaFw
