/- Rules for the walk: what is read off a goal's form. -/
import Derived.Test.YtkhobcmkbldmiaaFw28
namespace Go.Proofs.YtkhobcmkbldmiaaFw
open Go Go.RowKit
set_option linter.unusedVariables false

def thenR (P : Program) (y : Code) (Q : AE → St → Prop) : AE → St → Prop
  | .normal, s => RunsA P y s Q
  | e, s => Q e s

def blkR (id : Nat) (Q : AE → St → Prop) : AE → St → Prop
  | .exit id', s => if id' = id then Q .normal s else Q (.exit id') s
  | e, s => Q e s

theorem RunsA.sq {P : Program} {x y : Code} {s : St} {Q : AE → St → Prop} (h : RunsA P x s (thenR P y Q)) : RunsA P (.seq x y) s Q :=
  RunsA.seq fun K hK => h.mono fun e s' hq => by cases e <;> first | exact hK _ hq | exact hq

theorem RunsA.bk {P : Program} {s : St} {id : Nat} {c : Code} {Q : AE → St → Prop} (h : RunsA P c s (blkR id Q)) : RunsA P (.block id c) s Q :=
  RunsA.block (h.mono fun e s' hq => by cases e <;> exact hq)

/-- Where code ends: nothing else is left to go. -/
structure At (e : AE) (s : St) (Q : AE → St → Prop) : Prop where
  out : Q e s

theorem RunsA.sk {P : Program} {s : St} {Q : AE → St → Prop} (h : At .normal s Q) : RunsA P .skip s Q := .skip h.out
theorem RunsA.rt {P : Program} {s : St} {Q : AE → St → Prop} (h : At .ret s Q) : RunsA P .ret s Q := .ret h.out
theorem RunsA.ex {P : Program} {s : St} {id : Nat} {Q : AE → St → Prop} (h : At (.exit id) s Q) : RunsA P (.exit id) s Q := .exit h.out

theorem At.n {P : Program} {y : Code} {s : St} {Q : AE → St → Prop} (h : RunsA P y s Q) : At .normal s (thenR P y Q) := ⟨h⟩
theorem At.x {P : Program} {y : Code} {s : St} {id : Nat} {Q : AE → St → Prop} (h : At (.exit id) s Q) : At (.exit id) s (thenR P y Q) := ⟨h.out⟩
theorem At.r {P : Program} {y : Code} {s : St} {Q : AE → St → Prop} (h : At .ret s Q) : At .ret s (thenR P y Q) := ⟨h.out⟩
theorem At.bn {s : St} {id : Nat} {Q : AE → St → Prop} (h : At .normal s Q) : At .normal s (blkR id Q) := ⟨h.out⟩
theorem At.br {s : St} {id : Nat} {Q : AE → St → Prop} (h : At .ret s Q) : At .ret s (blkR id Q) := ⟨h.out⟩
theorem At.bx {s : St} {id : Nat} {Q : AE → St → Prop} (h : At .normal s Q) : At (.exit id) s (blkR id Q) := ⟨by simp only [blkR, if_true]; exact h.out⟩
theorem At.by_ {s : St} {id id' : Nat} {Q : AE → St → Prop} (hne : (id' == id) = false) (h : At (.exit id') s Q) : At (.exit id') s (blkR id Q) := ⟨by simp only [blkR]; rw [if_neg (by simpa using hne)]; exact h.out⟩
theorem At.kn {s : St} {K : St → Prop} {Q : AE → St → Prop} (h : K s) : At .normal s (thenA K Q) := ⟨h⟩
theorem At.kx {s : St} {id : Nat} {K : St → Prop} {Q : AE → St → Prop} (h : At (.exit id) s Q) : At (.exit id) s (thenA K Q) := ⟨h.out⟩
theorem At.kr {s : St} {K : St → Prop} {Q : AE → St → Prop} (h : At .ret s Q) : At .ret s (thenA K Q) := ⟨h.out⟩
theorem At.er {s : St} {K : St → Prop} (h : K s) : At .ret s (endA K) := ⟨h⟩
theorem At.en {s : St} {K : St → Prop} (h : K s) : At .normal s (endA K) := ⟨h⟩

/-- A region at the head: its operations by computing. -/
theorem RunsA.rq {P : Program} {T : Tab} (hT : TabOk P T) {id : Nat} {all : Array Oper} {s : St} {Q : AE → St → Prop}
    (h : ∀ J : List Oper → St → Prop, (∀ os' s', RunsL P all os' s' (fun s2 => At .normal s2 Q) → J os' s') → goA T all all.toList s J) : RunsA P (.region id all false) s Q :=
  RunsA.region (K := fun s2 => At .normal s2 Q) (RunsL.go hT h) fun s2 h => h.out

theorem FnA.of {P : Program} {f : FuncId} {fn : Func} {c : Code} {st : Bool} {xs : List AV} {os : List (Nat × List AV)} {R : AV → List (Nat × List AV) → List (Nat × List AV) → Prop}
    (hf : P.funcs[f]? = some fn) (hb : fn.body = some c) (hn : (fn.name == "runtime.NumGoroutine") = false) {nt : Nat} (hnt : fn.ntmps = nt) (hnt1 : xs.length ≤ nt)
    (h : RunsA P c ⟨nt, zipS 0 xs, zipO 0 os, st⟩ (endA (RetA P fn os.length R))) : FnA P f st xs os R :=
  fnA_of hf hb hn hnt hnt1 fun K hK => h.mono fun e s' hq => by cases e <;> first | exact hK _ hq | exact hq

/-- Ways meet in what s0 tells. -/
theorem RunsA.meet {P : Program} {x y : Code} {s : St} {Q : AE → St → Prop} (s0 : St) (h1 : RunsA P x s (thenA (fun s' => s0.nt = s'.nt ∧ SubS s0.slots s'.slots ∧ SubO s0.objs s'.objs ∧ s0.st = s'.st) Q)) (h2 : RunsA P y s0 Q) : RunsA P (.seq x y) s Q :=
  RunsA.sq (h1.mono fun e s' hq => by
    cases e with
    | normal => exact h2.sub hq.1 hq.2.1 hq.2.2.1 hq.2.2.2
    | exit id => exact hq
    | ret => exact hq)

theorem wrap_id {n : Int} (h0 : -9223372036854775808 ≤ n) (h1 : n ≤ 9223372036854775807) : IntKind.i64.wrap n = n := by
  rw [IntKind.wrap_i64]; omega

theorem natCast_nonneg (n : Nat) : ((0 : Int) ≤ (n : Int)) = True := by simp

attribute [go_sem] goA wantA isCallF cop movesOf viewsOf lastP preD St.detach detF evCells bop aop aBuiltin St.fits St.ev evO evL lookS constA St.put putS sAssign elemOf' idOf St.newO mapS mapRef mapRefL killF setO dropO lookO vLenB vLen strT sliceT abin isBoolT
  St.node navG vIndexAddr vIndex arrOf vLoad lookA lookL fieldOf vFieldAddr vField vNilCheck vExtract vUn vConv vSlice bndA bnd0 sBox sAlloc sBuildSl elsOf mkE mkEl isAggK seqFrom sMake sAppend baseOf srcOf byteT
  dropOpt killG goneB cellsOf cellOf mkObj posOf isDead sStore St.storeL St.store1 St.plugL St.plug1 plugF navSet AV.setC AV.cells AV.width killP stripP solid vBytes isU8 u8Of allU8 u8L vBuild fillA setR slotZ fieldsTold
  tiFields St.back backF backR setRL setOL posL cell1 flatL flatC flatC.flatCs zipS zipO argA argAL passL evAll takeO resA res1 brw brwL mx mn

attribute [go_sem] if_true if_false Option.map_some Option.map_none Option.bind_some Option.bind_none List.map_cons List.map_nil List.getElem?_cons_zero List.getElem?_cons_succ List.getElem?_nil List.length_cons List.length_nil
  List.cons_append List.nil_append List.append_nil List.set_cons_zero List.set_cons_succ List.drop_zero List.drop_succ_cons List.take_succ_cons List.take_zero List.take_nil List.drop_nil Nat.zero_add Nat.add_zero Nat.mul_zero
  Nat.zero_mul Nat.mul_one Nat.one_mul true_and and_true false_and and_false Nat.lt_irrefl Nat.le_refl decide_true decide_false Bool.true_eq_false Bool.false_eq_true Bool.not_true Bool.not_false Bool.and_true Bool.true_and
  Bool.and_false Bool.false_and Bool.or_true Bool.true_or Bool.or_false Bool.false_or reduceCtorEq beq_self_eq_true ite_self eq_self not_false_eq_true not_true_eq_false ne_eq List.getElem?_toArray List.toList_toArray
  Option.some.injEq Option.isSome_some List.all_cons List.all_nil List.replicate_zero List.replicate_succ Int.toNat_zero Int.toNat_natCast List.contains_cons List.nodup_cons natCast_nonneg

end Go.Proofs.YtkhobcmkbldmiaaFw
