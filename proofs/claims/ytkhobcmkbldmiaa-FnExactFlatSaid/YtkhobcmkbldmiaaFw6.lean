/- Operations that only compute. -/
import Derived.Test.YtkhobcmkbldmiaaFw5
namespace Go.Proofs.YtkhobcmkbldmiaaFw
open Go Go.RowKit

theorem bytes_toList (s : List UInt8) : (ByteArray.mk ⟨s⟩).toList = s := by
  have h : ∀ (n i : Nat) (acc : List UInt8), s.length - i = n → i ≤ s.length → ByteArray.toList.loop (ByteArray.mk ⟨s⟩) i acc = acc.reverse ++ s.drop i := by
    intro n
    induction n with
    | zero =>
      intro i acc h1 h2
      unfold ByteArray.toList.loop
      have : ¬ i < (ByteArray.mk ⟨s⟩).size := by simp [ByteArray.size]; omega
      rw [if_neg this, List.drop_of_length_le (by omega), List.append_nil]
    | succ n ih =>
      intro i acc h1 h2
      unfold ByteArray.toList.loop
      have hlt : i < s.length := by omega
      have : i < (ByteArray.mk ⟨s⟩).size := by simpa [ByteArray.size] using hlt
      rw [if_pos this, ih (i + 1) _ (by omega) (by omega), List.drop_eq_getElem_cons hlt]
      simp [ByteArray.get!, hlt]
  have := h (s.length - 0) 0 [] rfl (Nat.zero_le _)
  simpa [ByteArray.toList] using this

theorem bytes_size (s : List UInt8) : (ByteArray.mk ⟨s⟩).size = s.length := rfl

theorem bytes_append (s t : List UInt8) : (ByteArray.mk ⟨s⟩) ++ (ByteArray.mk ⟨t⟩) = ByteArray.mk ⟨s ++ t⟩ := by
  apply ByteArray.ext
  simp [ByteArray.data_append]

theorem bytes_extract (s : List UInt8) (l h : Nat) : (ByteArray.mk ⟨s⟩).extract l h = ByteArray.mk ⟨(s.drop l).take (h - l)⟩ := by
  apply ByteArray.ext
  rw [ByteArray.data_extract]
  apply Array.ext'
  simp

/-! ### numbers, texts -/
def isBoolT (T : Tab) (t : TypeId) : Bool :=
  match T t with
  | some { k := .bool, .. } => true
  | _ => false

def abin (T : Tab) (t : TypeId) (op : BinOp) : AV → AV → Option (Prop × AV)
  | .int k a, .int k' b =>
    match op with
    | .shl => some (0 ≤ b ∧ b ≤ k.bits, .int k (k.wrap (a * 2 ^ b.toNat)))
    | .shr => some (0 ≤ b ∧ b ≤ k.bits, .int k (a / 2 ^ b.toNat))
    | .add => if k = k' then some (True, .int k (k.wrap (a + b))) else none
    | .sub => if k = k' then some (True, .int k (k.wrap (a - b))) else none
    | .mul => if k = k' then some (True, .int k (k.wrap (a * b))) else none
    | .quo => if k = k' then some (b ≠ 0, .int k (k.wrap (Int.tdiv a b))) else none
    | .rem => if k = k' then some (b ≠ 0, .int k (Int.tmod a b)) else none
    | .and => if k = k' then some (True, .int k (bits .and k a b)) else none
    | .or => if k = k' then some (True, .int k (bits .or k a b)) else none
    | .xor => if k = k' then some (True, .int k (bits .xor k a b)) else none
    | .andNot => if k = k' then some (True, .int k (bits .andNot k a b)) else none
    | .eql => if k = k' then some (True, .bool (a == b)) else none
    | .neq => if k = k' then some (True, .bool (a != b)) else none
    | .lss => if k = k' then some (True, .bool (decide (a < b))) else none
    | .leq => if k = k' then some (True, .bool (decide (a ≤ b))) else none
    | .gtr => if k = k' then some (True, .bool (decide (b < a))) else none
    | .geq => if k = k' then some (True, .bool (decide (b ≤ a))) else none
  | .bool a, .bool b =>
    match op with
    | .eql => if isBoolT T t then some (True, .bool (a == b)) else none
    | .neq => if isBoolT T t then some (True, .bool (a != b)) else none
    | _ => none
  | .str a, .str b =>
    match op with
    | .eql => some (True, .bool (a == b))
    | .neq => some (True, .bool (a != b))
    | .lss => some (True, .bool (Op.bytesLess a b))
    | .geq => some (True, .bool (!Op.bytesLess a b))
    | .add => some (a.length + b.length ≤ 9223372036854775807, .str (a ++ b))
    | _ => none
  | _, _ => none

theorem Val.int_inv {g : Gh} {w : World} {k : IntKind} {n : Int} {v : Value} (h : Val g w (.int k n) v) : v = .int k n := by
  cases h with
  | cell _ _ h => cases h; rfl

theorem Val.bool_inv {g : Gh} {w : World} {b : Bool} {v : Value} (h : Val g w (.bool b) v) : v = .bool b := by
  cases h with
  | cell _ _ h => cases h; rfl

theorem Val.str_inv {g : Gh} {w : World} {s : List UInt8} {v : Value} (h : Val g w (.str s) v) : v = .string ⟨⟨s⟩⟩ := by
  cases h with
  | cell _ _ h => cases h; rfl

theorem Val.mkInt (g : Gh) (w : World) (k : IntKind) (n : Int) : Val g w (.int k n) (.int k n) := .cell _ _ (.int _ _ _)
theorem Val.mkBool (g : Gh) (w : World) (b : Bool) : Val g w (.bool b) (.bool b) := .cell _ _ (.bool _ _)
theorem Val.mkStr (g : Gh) (w : World) (s : List UInt8) : Val g w (.str s) (.string ⟨⟨s⟩⟩) := .cell _ _ (.str _ _)

theorem run_equal_bool {P : Program} {t : TypeId} (h : P.underlying t = some .bool) (a b : Bool) (w : World) : (Op.equal t (.bool a) (.bool b)).run P w = .ok (a == b) w := by
  have h' : ∀ d, (Op.equalIn (d + 1) t (.bool a) (.bool b)).run P w = .ok (a == b) w := fun d => by simp [Op.equalIn, run_underlying h]
  exact h' 9999

theorem isBoolT_ok {P : Program} {T : Tab} (hT : TabOk P T) {t : TypeId} (h : isBoolT T t = true) : P.underlying t = some .bool := by
  unfold isBoolT at h
  split at h
  · rename_i sz by_ z he
    exact (hT t _ he).kind
  · simp at h

theorem abin_ok {P : Program} {T : Tab} (hT : TabOk P T) {g : Gh} {w : World} {op : BinOp} {x y z : AV} {c : Prop} {t : TypeId} (h : abin T t op x y = some (c, z)) (hc : c) {v u : Value} (hv : Val g w x v) (hu : Val g w y u)
    (X Y : Operand) : ∃ r, (do eqGuard op t X Y v u; binOp op t v u : Sem Value).run P w = .ok r w ∧ Val g w z r := by
  unfold abin at h
  split at h
  · rename_i k a k' b
    obtain rfl := hv.int_inv
    obtain rfl := hu.int_inv
    rw [eqGuard_at_int]
    simp only [pure_bind]
    by_cases hk : k = k'
    · subst hk
      cases op <;> simp only [if_true, Option.some.injEq, Prod.mk.injEq] at h <;> obtain ⟨rfl, rfl⟩ := h
      case shl => exact ⟨_, by rw [binOp_shl, shift_shl _ _ _ _ hc.1 hc.2]; rfl, Val.mkInt _ _ _ _⟩
      case shr => exact ⟨_, by rw [binOp_shr, shift_shr _ _ _ _ hc.1 hc.2]; rfl, Val.mkInt _ _ _ _⟩
      case quo => exact ⟨_, by simp only [binOp_quo, Op.intDiv, if_neg hc, Sem.run_pure], Val.mkInt _ _ _ _⟩
      case rem => exact ⟨_, by simp only [binOp_rem, Op.intDiv, if_neg hc, Sem.run_pure], Val.mkInt _ _ _ _⟩
      case add => exact ⟨_, by simp only [binOp_add, Op.intArith, Sem.run_pure], Val.mkInt _ _ _ _⟩
      case sub => exact ⟨_, by simp only [binOp_sub, Op.intArith, Sem.run_pure], Val.mkInt _ _ _ _⟩
      case mul => exact ⟨_, by simp only [binOp_mul, Op.intArith, Sem.run_pure], Val.mkInt _ _ _ _⟩
      case and => exact ⟨_, by simp only [binOp_and, intBits_and, Sem.run_pure], Val.mkInt _ _ _ _⟩
      case or => exact ⟨_, by simp only [binOp_or, intBits_or, Sem.run_pure], Val.mkInt _ _ _ _⟩
      case xor => exact ⟨_, by simp only [binOp_xor, intBits_xor, Sem.run_pure], Val.mkInt _ _ _ _⟩
      case andNot => exact ⟨_, by simp only [binOp_andNot, intBits_andNot, Sem.run_pure], Val.mkInt _ _ _ _⟩
      case eql => exact ⟨_, by simp only [binOp_eql, Sem.run_pure], Val.mkBool _ _ _⟩
      case neq => exact ⟨_, by simp only [binOp_neq, Sem.run_pure], Val.mkBool _ _ _⟩
      case lss => exact ⟨_, by simp only [binOp_lss, Sem.run_pure], Val.mkBool _ _ _⟩
      case leq => exact ⟨_, by simp only [binOp_leq, Sem.run_pure], Val.mkBool _ _ _⟩
      case gtr => exact ⟨_, by simp only [binOp_gtr, Sem.run_pure], Val.mkBool _ _ _⟩
      case geq => exact ⟨_, by simp only [binOp_geq, Sem.run_pure], Val.mkBool _ _ _⟩
    · cases op <;> simp only [if_neg hk, Option.some.injEq, Prod.mk.injEq, reduceCtorEq] at h <;> obtain ⟨rfl, rfl⟩ := h
      case shl => exact ⟨_, by rw [binOp_shl, shift_shl _ _ _ _ hc.1 hc.2]; rfl, Val.mkInt _ _ _ _⟩
      case shr => exact ⟨_, by rw [binOp_shr, shift_shr _ _ _ _ hc.1 hc.2]; rfl, Val.mkInt _ _ _ _⟩
  · rename_i a b
    obtain rfl := hv.bool_inv
    obtain rfl := hu.bool_inv
    rw [eqGuard_at_bool]
    simp only [pure_bind]
    cases op <;> simp only [reduceCtorEq] at h
    case eql =>
      split at h
      · rename_i hb
        simp only [Option.some.injEq, Prod.mk.injEq] at h; obtain ⟨rfl, rfl⟩ := h
        exact ⟨.bool (a == b), by simp only [binOp, Sem.run_bind, run_equal_bool (isBoolT_ok hT hb), Result.andThen_ok, Sem.run_pure], Val.mkBool _ _ _⟩
      · simp at h
    case neq =>
      split at h
      · rename_i hb
        simp only [Option.some.injEq, Prod.mk.injEq] at h; obtain ⟨rfl, rfl⟩ := h
        exact ⟨.bool (a != b), by simp only [binOp, Sem.run_bind, run_equal_bool (isBoolT_ok hT hb), Result.andThen_ok, Sem.run_pure]; rfl, Val.mkBool _ _ _⟩
      · simp at h
  · rename_i a b
    obtain rfl := hv.str_inv
    obtain rfl := hu.str_inv
    rw [eqGuard_at_string]
    simp only [pure_bind]
    cases op <;> simp only [Option.some.injEq, Prod.mk.injEq, reduceCtorEq] at h <;> obtain ⟨rfl, rfl⟩ := h
    case add =>
      refine ⟨.string ⟨⟨a ++ b⟩⟩, ?_, Val.mkStr _ _ _⟩
      have hn : ¬ (((ByteArray.mk ⟨a⟩).size + (ByteArray.mk ⟨b⟩).size : Nat) : Int) > IntKind.i64.max := by
        rw [bytes_size, bytes_size, IntKind.max_i64]; omega
      simp only [binOp, Op.stringOp, if_neg hn, bytes_append, Sem.run_pure]
    case eql => exact ⟨.bool (a == b), by simp only [binOp, Op.stringOp, bytes_toList, Sem.run_pure], Val.mkBool _ _ _⟩
    case neq => exact ⟨.bool (a != b), by simp only [binOp, Op.stringOp, bytes_toList, Sem.run_pure]; rfl, Val.mkBool _ _ _⟩
    case lss => exact ⟨_, by simp only [binOp, Op.stringOp, bytes_toList, Sem.run_pure], Val.mkBool _ _ _⟩
    case geq => exact ⟨_, by simp only [binOp, Op.stringOp, bytes_toList, Sem.run_pure], Val.mkBool _ _ _⟩
  · simp at h

end Go.Proofs.YtkhobcmkbldmiaaFw
