/- Tokens: rows of them; the tokens of a tree, the reference's. -/
import Derived.Test.YtedmpcmfcnfclaaDoorA5
import Derived.Test.YtedmpcmfcnfclaaDoorFwD
namespace Go.Proofs.YtedmpcmfcnfclaaDoorFw
open Go Go.RowKit
set_option linter.unusedVariables false
set_option linter.unusedSimpArgs false
set_option maxRecDepth 4000
set_option pp.deepTerms.threshold 6
set_option pp.deepTerms false

structure TokV where
  k : Int
  n : Int
  s : Str

def tokA (x : TokV) : AV := .agg [.int .i64 x.k, .int .i64 x.n, .str x.s]
def toksA (l : List TokV) : List AV := l.map tokA
theorem toksA_len (l : List TokV) : (toksA l).length = l.length := by simp [toksA]
theorem toksA_get {l : List TokV} {i : Nat} (h : i < l.length) : (toksA l)[i]? = some (tokA l[i]) := by simp [toksA, h]
theorem brw_toks : ∀ l : List TokV, brwL (toksA l) = toksA l
  | [] => rfl
  | e :: r => by
    have := brw_toks r
    simp only [toksA, List.map_cons, brwL, tokA, brw] at *
    rw [this]
theorem noBo_toks : ∀ l : List TokV, noBoL (toksA l) = true
  | [] => rfl
  | e :: r => by
    have := noBo_toks r
    simp only [toksA, List.map_cons, noBoL, tokA, noBo, Bool.and_self] at *
    rw [this]; rfl
theorem toksA_app (a b : List TokV) : toksA a ++ toksA b = toksA (a ++ b) := by simp [toksA]

def markT (s : Str) : TokV := ⟨4, 0, s⟩
def nameT (s : Str) : TokV := ⟨1, 0, s⟩
theorem toksA_snoc (l : List TokV) (k n : Int) (s : Str) : toksA l ++ [.agg [.int .i64 k, .int .i64 n, .str s]] = toksA (l ++ [⟨k, n, s⟩]) := by simp [toksA, tokA]

/-- Names with commas between. -/
def sepT : List Str → List TokV
  | [] => []
  | m :: r => nameT m :: r.flatMap fun x => [markT [44], nameT x]
theorem sepT_snoc (l : List Str) (x : Str) : sepT (l ++ [x]) = if l = [] then [nameT x] else (sepT l ++ [markT [44]]) ++ [nameT x] := by
  cases l with
  | nil => simp [sepT]
  | cons m r => simp [sepT]
theorem sepT_len (l : List Str) : (sepT l).length ≤ 2 * l.length := by
  cases l with
  | nil => simp [sepT]
  | cons m r =>
    have h : ∀ r : List Str, (r.flatMap fun x => [markT [44], nameT x]).length = 2 * r.length := by
      intro r
      induction r with
      | nil => rfl
      | cons a t ih => rw [List.flatMap_cons, List.length_append, ih]; simp only [List.length_cons, List.length_nil]; omega
    simp only [sepT, List.length_cons, h]; omega

mutual
def SegV.toks : SegV → List TokV
  | .mk n ms ks => (([nameT n, markT [40]] ++ sepT ms) ++ [markT [41]]) ++ (if ks.length = 0 then [] else ([markT [60]] ++ SegV.toksL ks) ++ [markT [62]])
def SegV.toksL : List SegV → List TokV
  | [] => []
  | k :: r => k.toks ++ SegV.toksL r
end
theorem SegV.toksL_snoc : ∀ (l : List SegV) (i : Nat) (h : i < l.length), SegV.toksL (l.take (i + 1)) = SegV.toksL (l.take i) ++ l[i].toks
  | s :: r, 0, h => by simp [SegV.toksL]
  | s :: r, i + 1, h => by
    simp only [List.take_succ_cons, SegV.toksL, List.getElem_cons_succ]
    rw [SegV.toksL_snoc r i (by simpa using h), List.append_assoc]
mutual
theorem SegV.toks_len : ∀ s : SegV, s.toks.length ≤ 5 * s.tot + 5
  | .mk n ms ks => by
    have h1 := SegV.toksL_len ks
    have h2 := sepT_len ms
    simp only [SegV.toks, SegV.tot, totS, List.length_append, List.length_cons, List.length_nil]
    split
    · simp only [List.length_nil]; omega
    · simp only [List.length_append, List.length_cons, List.length_nil]; omega
theorem SegV.toksL_len : ∀ l : List SegV, (SegV.toksL l).length ≤ 5 * SegV.totL l + 5 * l.length
  | [] => by simp [SegV.toksL]
  | s :: r => by
    have h1 := SegV.toks_len s
    have h2 := SegV.toksL_len r
    simp only [SegV.toksL, SegV.totL, List.length_append, List.length_cons]; omega
end

theorem l10Mark_ok (s : Str) : FnA Tryd.prog 23 false [.str s] [] (fun r os ros => r = .agg [.int .i64 4, .int .i64 0, .str s] ∧ os = [] ∧ ros = []) := by
  refine FnA.of Tryd.func23 rfl (by decide) Tryd.ntmps23 (by simp) ?_
  repeat (first | refine RunsA.sq ?_ | refine RunsA.bk ?_ | refine RunsA.sk ?_ | refine RunsA.ex ?_ | refine RunsA.rt ?_ | refine At.n ?_ | refine At.x ?_ | refine At.r ?_ | refine At.bn ?_ | refine At.br ?_ | refine At.bx ?_ | refine At.by_ rfl ?_ | refine At.kx ?_ | refine At.kr ?_ | refine At.kn ?_ | refine At.er ?_ | refine At.en ?_ | (refine RunsA.rq tabOk fun J hJ => ?_; simp only [go_sem, ↓reduceIte, Nat.reduceAdd, Nat.reduceSub, Nat.reduceMul, Nat.reduceLT, Nat.reduceLeDiff, Nat.reduceEqDiff, Nat.reduceBEq, Int.reduceToNat]; (try simp (disch := omega) only [wrap_id]); (repeat refine ⟨by omega, ?_⟩); refine hJ _ _ (RunsL.nil ?_); clear hJ J) | (refine RunsA.dq mixed tabOk (by kernel_rfl) fun J hJ => ?_; simp only [go_sem, ↓reduceIte, Nat.reduceAdd, Nat.reduceSub, Nat.reduceMul, Nat.reduceLT, Nat.reduceLeDiff, Nat.reduceEqDiff, Nat.reduceBEq, Int.reduceToNat]; (try simp (disch := omega) only [wrap_id]); (repeat refine ⟨by omega, ?_⟩); refine hJ _ _ (QRuns.nil ?_); clear hJ J))
  exact RetA.mk tabOk 0 rfl rfl rfl (by omega) rfl rfl rfl ⟨rfl, rfl, rfl⟩
theorem markTi_ok (s : Str) : FnA Tryd.prog 30 false [.str s] [] (fun r os ros => r = .agg [.int .i64 4, .int .i64 0, .str s] ∧ os = [] ∧ ros = []) := by
  refine FnA.of Tryd.func30 rfl (by decide) Tryd.ntmps30 (by simp) ?_
  repeat (first | refine RunsA.sq ?_ | refine RunsA.bk ?_ | refine RunsA.sk ?_ | refine RunsA.ex ?_ | refine RunsA.rt ?_ | refine At.n ?_ | refine At.x ?_ | refine At.r ?_ | refine At.bn ?_ | refine At.br ?_ | refine At.bx ?_ | refine At.by_ rfl ?_ | refine At.kx ?_ | refine At.kr ?_ | refine At.kn ?_ | refine At.er ?_ | refine At.en ?_ | (refine RunsA.rq tabOk fun J hJ => ?_; simp only [go_sem, ↓reduceIte, Nat.reduceAdd, Nat.reduceSub, Nat.reduceMul, Nat.reduceLT, Nat.reduceLeDiff, Nat.reduceEqDiff, Nat.reduceBEq, Int.reduceToNat]; (try simp (disch := omega) only [wrap_id]); (repeat refine ⟨by omega, ?_⟩); refine hJ _ _ (RunsL.nil ?_); clear hJ J) | (refine RunsA.dq mixed tabOk (by kernel_rfl) fun J hJ => ?_; simp only [go_sem, ↓reduceIte, Nat.reduceAdd, Nat.reduceSub, Nat.reduceMul, Nat.reduceLT, Nat.reduceLeDiff, Nat.reduceEqDiff, Nat.reduceBEq, Int.reduceToNat]; (try simp (disch := omega) only [wrap_id]); (repeat refine ⟨by omega, ?_⟩); refine hJ _ _ (QRuns.nil ?_); clear hJ J))
  exact RetA.mk tabOk 0 rfl rfl rfl (by omega) rfl rfl rfl ⟨rfl, rfl, rfl⟩

end Go.Proofs.YtedmpcmfcnfclaaDoorFw
