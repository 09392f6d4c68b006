/- Tokens: rows of them; the tokens of a tree, the reference's. -/
import Derived.Test.YtgjeemfggfhibaaGreatDoorLA
import Derived.Test.YtgjeemfggfhibaaGreatDoorFwD
import Derived.Ground.NamesProg
import Derived.Shelf.Lays
import Derived.Shelf.Strings.OnBuilder
import Derived.Test.YtgjeemfggfhibaaGreatDoorProg
import Derived.Lib.Join
set_option linter.unusedVariables false
set_option linter.unusedSimpArgs false
set_option pp.deepTerms.threshold 6
set_option pp.deepTerms false
set_option maxRecDepth 4000
namespace Go.Proofs.YtgjeemfggfhibaaGreatDoorFw
open Go Go.RowKit
structure TokV where
  k : Int
  n : Int
  s : Str
def tokA (x : TokV) : AV := .agg [.int .i64 x.k, .int .i64 x.n, .str x.s]
def toksA (l : List TokV) : List AV := l.map tokA
theorem toksA_len (l : List TokV) : (toksA l).length = l.length := by simp [toksA]
theorem toksA_get {l : List TokV} {i : Nat} (h : i < l.length) : (toksA l)[i]? = some (tokA l[i]) := by simp [toksA, h]
theorem brw_toks : ∀ l : List TokV, brwL (toksA l) = toksA l
  | [] => rfl
  | e :: r => by
    have := brw_toks r
    simp only [toksA, List.map_cons, brwL, tokA, brw] at *
    rw [this]
theorem noBo_toks : ∀ l : List TokV, noBoL (toksA l) = true
  | [] => rfl
  | e :: r => by
    have := noBo_toks r
    simp only [toksA, List.map_cons, noBoL, tokA, noBo, Bool.and_self] at *
    rw [this]; rfl
theorem toksA_app (a b : List TokV) : toksA a ++ toksA b = toksA (a ++ b) := by simp [toksA]
def markT (s : Str) : TokV := ⟨4, 0, s⟩
def nameT (s : Str) : TokV := ⟨1, 0, s⟩
def sepT : List Str → List TokV
  | [] => []
  | m :: r => nameT m :: r.flatMap fun x => [markT [44], nameT x]
mutual
def SegV.toks : SegV → List TokV
  | .mk n ms ks => (([nameT n, markT [40]] ++ sepT ms) ++ [markT [41]]) ++ (if ks.length = 0 then [] else ([markT [60]] ++ SegV.toksL ks) ++ [markT [62]])
def SegV.toksL : List SegV → List TokV
  | [] => []
  | k :: r => k.toks ++ SegV.toksL r
end
theorem l10Mark_ok (s : Str) : FnA Tryz.prog 112 false [.str s] [] (fun r os ros => r = .agg [.int .i64 4, .int .i64 0, .str s] ∧ os = [] ∧ ros = []) := by
  refine FnA.of Tryz.func112 rfl (by decide) Tryz.ntmps112 (by simp) ?_
  refine run_ ?_
  exact RetA.mk tabOk 0 rfl rfl rfl (by omega) rfl rfl rfl ⟨rfl, rfl, rfl⟩
theorem markTi_ok (s : Str) : FnA Tryz.prog 102 false [.str s] [] (fun r os ros => r = .agg [.int .i64 4, .int .i64 0, .str s] ∧ os = [] ∧ ros = []) := by
  refine FnA.of Tryz.func102 rfl (by decide) Tryz.ntmps102 (by simp) ?_
  refine run_ ?_
  exact RetA.mk tabOk 0 rfl rfl rfl (by omega) rfl rfl rfl ⟨rfl, rfl, rfl⟩
end Go.Proofs.YtgjeemfggfhibaaGreatDoorFw
namespace Go.Proofs
open Go.Shelf
def Tryz.lays156_ren : Go.Shelf.Ren := ⟨fun | 156 => 125 | 165 => 153 | 166 => 154 | 169 => 155 | 240 => 175 | 241 => 176 | 276 => 190 | 277 => 191 | n => n, fun | 31 => 27 | 9 => 9 | 3 => 3 | 4 => 4 | 0 => 0 | 20 => 20 | 72 => 137 | 76 => 141 | 70 => 135 | 37 => 116 | 75 => 140 | 127 => 158 | 164 => 170 | 5 => 5 | 80 => 84 | n => n, fun | n => n⟩
theorem Tryz.lays156 : Go.Proofs.Lays.n156 Tryz.prog Tryz.lays156_ren := {
  mixed := by kernel_rfl
  f156 := Tryz.func125.trans (congrArg some (by kernel_rfl))
  f165 := Tryz.func153.trans (congrArg some (by kernel_rfl))
  f166 := Tryz.func154.trans (congrArg some (by kernel_rfl))
  f169 := Tryz.func155.trans (congrArg some (by kernel_rfl))
  f240 := Tryz.func175.trans (congrArg some (by kernel_rfl))
  f241 := Tryz.func176.trans (congrArg some (by kernel_rfl))
  f276 := Tryz.func190.trans (congrArg some (by kernel_rfl))
  f277 := Tryz.func191.trans (congrArg some (by kernel_rfl))
  t0 := Tryz.underlying0
  a0 := Tryz.isAgg0
  z0 := Tryz.sizeOf0
  v0 := Tryz.zeroValue0
  t3 := Tryz.underlying3
  a3 := Tryz.isAgg3
  z3 := Tryz.sizeOf3
  v3 := Tryz.zeroValue3
  t4 := Tryz.underlying4
  a4 := Tryz.isAgg4
  z4 := Tryz.sizeOf4
  v4 := Tryz.zeroValue4
  t9 := Tryz.underlying9
  a9 := Tryz.isAgg9
  z9 := Tryz.sizeOf9
  v9 := Tryz.zeroValue9
  t20 := Tryz.underlying20
  a20 := Tryz.isAgg20
  z20 := Tryz.sizeOf20
  v20 := Tryz.zeroValue20
  t31 := Tryz.underlying27
  a31 := Tryz.isAgg27
  z31 := Tryz.sizeOf27
  v31 := Tryz.zeroValue27
  t37 := Tryz.underlying116
  a37 := Tryz.isAgg116
  z37 := Tryz.sizeOf116
  v37 := Tryz.zeroValue116
  t70 := Tryz.underlying135
  a70 := Tryz.isAgg135
  z70 := Tryz.sizeOf135
  v70 := Tryz.zeroValue135
  t72 := Tryz.underlying137
  a72 := Tryz.isAgg137
  z72 := Tryz.sizeOf137
  v72 := Tryz.zeroValue137
  t75 := Tryz.underlying140
  a75 := Tryz.isAgg140
  z75 := Tryz.sizeOf140
  v75 := Tryz.zeroValue140
  t76 := Tryz.underlying141
  a76 := Tryz.isAgg141
  z76 := Tryz.sizeOf141
  v76 := Tryz.zeroValue141
  t127 := Tryz.underlying158
  a127 := Tryz.isAgg158
  z127 := Tryz.sizeOf158
  v127 := Tryz.zeroValue158
  t164 := Tryz.underlying170
  a164 := Tryz.isAgg170
  z164 := Tryz.sizeOf170
  v164 := Tryz.zeroValue170 }
theorem Tryz.Builder_Extra_156 : Builder.Extra Tryz.prog Tryz.lays156_ren := {
  sizeBuilder := by kernel_rfl
  liesBuilder := by kernel_rfl
  t5 := Tryz.underlying5
  a5 := Tryz.isAgg5
  z5 := Tryz.sizeOf5
  v5 := Tryz.zeroValue5
  infoByte := by kernel_rfl
  cellsByte := by kernel_rfl
  sizeByte := by kernel_rfl
  neB5 := by decide }
end Go.Proofs
namespace Go.Proofs.YtgjeemfggfhibaaGreatDoorFw
open Go Go.RowKit Go.Proofs
theorem joinS_call (bk o c : Nat) (xs : List ByteArray) (sep : ByteArray) (w : World) (hcells : ∀ (j : Nat) x, xs[j]? = some x → w.cell? ⟨bk, o + j, none⟩ = some (.string x)) (hbk : bk < w.heap.size) (hN : xs.length ≤ 140737488355328) (hcap : xs.length ≤ c)
    (hlen : (Lib.join (xs.map (·.data.toList)) sep.data.toList).length ≤ 140737488355328) :
    Calls Tryz.prog 125 #[.slice (some ⟨bk, o, none⟩) xs.length c, .string sep] w fun e w' => e = .returned (.string ⟨(Lib.join (xs.map (·.data.toList)) sep.data.toList).toArray⟩) ∧ Below w.heap.size w w' :=
  Any.strings_Join Tryz.lays156 Tryz.Builder_Extra_156 bk o c xs sep w hcells hbk hN hcap hlen
theorem joinS_none (a : Option Addr) (c : Nat) (sep : ByteArray) (w : World) :
    Calls Tryz.prog 125 #[.slice a 0 c, .string sep] w fun e w' => e = .returned (.string ⟨#[]⟩) ∧ w' = w :=
  Any.strings_Join_none Tryz.lays156 Tryz.Builder_Extra_156 a c sep w
theorem join_ok (st : Bool) (l : List Str) (sep : Str) (hl : l.length ≤ 140737488355328) (hj : (Lib.join l sep).length ≤ 140737488355328) :
    FnA Tryz.prog 125 st [.row .bo 1 (strs l), .str sep] [] (fun r os ros => r = .str (Lib.join l sep) ∧ os = [] ∧ ros = []) := by
  refine ⟨⟨_, Tryz.func125, rfl, by decide⟩, ?_⟩
  intro vs w g hst hvl hv hsep hrd hob
  obtain ⟨v1, v2, rfl⟩ : ∃ v1 v2, vs = #[v1, v2] := by
    obtain ⟨vl⟩ := vs
    match vl, hvl with
    | [v1, v2], _ => exact ⟨v1, v2, rfl⟩
  have h1 := hv 0 (.row .bo 1 (strs l)) v1 rfl rfl
  have h2 := hv 1 (.str sep) v2 rfl rfl
  obtain rfl : v2 = .string ⟨⟨sep⟩⟩ := h2.str_inv
  have hfin : ∀ (w' : World) (r : Str), r = Lib.join l sep → Below w.heap.size w w' →
      ∃ v r' os' ros g', Ending.returned (.string ⟨⟨r⟩⟩) = .returned v ∧ (r' = .str (Lib.join l sep) ∧ os' = [] ∧ ros = []) ∧ Keep g w g' w' ∧ os'.length = ([] : List (Nat × List AV)).length ∧ ros.length ≤ 64 ∧
      (∀ b p, g'.own b = some p → ¬ g'.perm b ∧ ¬ g'.bor b ∧ b < w'.heap.size) ∧ RdOk g' w' ∧
      (∀ i sz es, os'[i]? = some (sz, es) → noBoL es = true ∧ ∃ v, Cell g' w' (.at i []) (.row .own sz es) v) ∧
      (∀ i sz es, ros[i]? = some (sz, es) → noBoL es = true ∧ ∃ v, Cell g' w' (.at (100 + i) []) (.row .own sz es) v) ∧
      cleanR ([] : List (Nat × List AV)).length ros.length r' = true ∧ Val g' w' r' v := by
    intro w' r hr hb
    subst hr
    refine ⟨_, _, [], [], g, rfl, ⟨rfl, rfl, rfl⟩, ⟨hb.os, hb.tape, hb.output, hb.size, fun b hlt ho => ⟨hb.block b hlt, ho⟩, fun _ h => h, fun _ _ h => .inl h, fun _ => Iff.rfl, fun _ _ _ _ => rfl, rfl⟩, rfl, by simp, fun b p h => ?_, hrd.move ⟨fun b hb' => ⟨hb', hb.block b (hrd.lt b (.inl hb'))⟩, fun b hb' => ⟨.inr hb', hb.block b (hrd.lt b (.inr hb'))⟩⟩ (fun b h => Nat.lt_of_lt_of_le (hrd.lt b h) hb.size), fun i sz es h => by simp at h, fun i sz es h => by simp at h, rfl, .cell _ _ (.str _ _)⟩
    obtain ⟨k1, k2, k3⟩ := hsep b p h
    exact ⟨k1, k2, Nat.lt_of_lt_of_le k3 hb.size⟩
  generalize he : strs l = es at h1
  cases h1 with
  | cell _ _ h =>
    cases h with
    | emp _ _ _ a c hm =>
      obtain rfl : l = [] := by cases l with
        | nil => rfl
        | cons x r => simp [strs] at he
      refine (joinS_none a c ⟨⟨sep⟩⟩ w).mono ?_
      rintro e w' ⟨rfl, rfl⟩
      exact hfin w' [] rfl (Below.refl _ _)
    | rd _ _ _ _ a c us hp hm hs hl2 hw hc ht =>
      subst he
      obtain ⟨bk, o, sp⟩ := a
      simp only at hs
      subst hs
      rw [strs_len] at *
      have hm' : g.canRd bk := hm
      have hlen : (l.map fun s => (⟨⟨s⟩⟩ : ByteArray)).length = l.length := by simp
      have hmap : (l.map fun s => (⟨⟨s⟩⟩ : ByteArray)).map (·.data.toList) = l := by rw [List.map_map]; exact (List.map_congr_left (fun s _ => rfl)).trans (List.map_id l)
      have hcells : ∀ (j : Nat) x, (l.map fun s => (⟨⟨s⟩⟩ : ByteArray))[j]? = some x → w.cell? ⟨bk, o + j, none⟩ = some (.string x) := by
        intro j x hx
        rw [List.getElem?_map, Option.map_eq_some_iff] at hx
        obtain ⟨s, hs1, rfl⟩ := hx
        have hx1 : (strs l)[j]? = some (.str s) := strs_get' hs1
        have k1 := hc j 0 _ (.str s) hx1 rfl
        have k2 := ht j 0 _ (.str s) hx1 rfl
        simp only [Nat.mul_one, Nat.add_zero] at k1 k2
        rw [add_lit] at k1
        generalize us j = u at k1 k2
        cases k2
        exact k1
      have := joinS_call bk o c (l.map fun s => (⟨⟨s⟩⟩ : ByteArray)) ⟨⟨sep⟩⟩ w hcells (hrd bk hm') (by rw [hlen]; exact hl) (by rw [hlen]; exact hl2) (by rw [hmap]; exact hj)
      rw [hlen, hmap] at this
      refine this.mono ?_
      rintro e w' ⟨rfl, hb⟩
      exact hfin w' _ rfl hb
end Go.Proofs.YtgjeemfggfhibaaGreatDoorFw
