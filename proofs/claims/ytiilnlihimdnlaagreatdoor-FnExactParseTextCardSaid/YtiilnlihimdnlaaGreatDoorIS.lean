/- The program's table and its two errors lie where they are told, in what is laid. -/
import Derived.Test.YtiilnlihimdnlaaGreatDoorFwE
import Derived.Test.YtiilnlihimdnlaaGreatDoorTab
import Derived.Test.YtiilnlihimdnlaaGreatDoorRows
import Derived.Lib.LaidTab
import Derived.LaidLaws
namespace Go.Proofs.YtiilnlihimdnlaaGreatDoorFw
open Go Go.RowKit
set_option linter.unusedVariables false
theorem var_heap {P : Program} {W : World} {n : String} {g : Nat} {cs : Array Value} (hg : P.globalNamed n = some g) (h : W.var? P n = some cs) : ∃ t ro, W.heap[g]? = some (.cells cs t ro) := by
 unfold World.var? at h
 rw [hg] at h
 simp only [Option.bind_some] at h
 split at h
 ·rename_i c t ro hh
  obtain rfl := Option.some.inj h
  exact ⟨t, ro, hh⟩
 ·cases h
theorem laid_tail {P : Program} {x : String × DataW Unit} {r : List (String × DataW Unit)} {w : World} (h : laidMet P (x :: r) w) : laidMet P r w := by
 obtain ⟨ps, hv, hnd, hrows⟩ := h
 obtain ⟨n, d⟩ := x
 obtain ⟨g, t, cs, fuel, p, q, _, _, _, _, hq, rfl⟩ := hv
 exact ⟨q, hq, List.Nodup.sublist (List.sublist_append_right _ _) hnd, fun b off hm => hrows b off (List.mem_append_right _ hm)⟩
theorem laid_cells {P : Program} {n : String} {d : DataW Unit} {r : List (String × DataW Unit)} {W : World} {g : Nat} {ti : TypeId} (h : laidMet P ((n, d) :: r) W) (hg : P.globalNamed n = some g) (ht : (P.globals[g]?).map (·.type) = some ti) :
 ∃ cs fuel p, W.var? P n = some cs ∧ DataW.trod (fun _ => ()) P W 0 (fun _ => true) false fuel ti cs.toList = some (d, p) ∧ (0 < cs.size → ∃ e, W.heap[g]? = some (.cells cs e (0, 0))) := by
 obtain ⟨ps, ⟨g1, t1, cs1, f1, p1, q1, hg1, ht1, hv1, hd1, _, e1⟩, _, hrows⟩ := h
 obtain rfl := Option.some.inj (hg.symm.trans hg1)
 obtain rfl := Option.some.inj (ht.symm.trans ht1)
 refine ⟨cs1, f1, p1, hv1, hd1, fun hsz => ?_⟩
 obtain ⟨t, ro, hh⟩ := var_heap hg hv1
 have hm : MemPlace.cell g 0 ∈ ps := by
  rw [e1]
  refine List.mem_append_left _ (List.mem_append_left _ ?_)
  unfold MemPlace.row
  exact List.mem_map.2 ⟨0, List.mem_range.2 hsz, rfl⟩
 obtain ⟨⟨c2, t2, hh2⟩, _⟩ := hrows g 0 hm
 rw [hh] at hh2
 obtain ⟨rfl, rfl, rfl⟩ : cs1 = c2 ∧ t = t2 ∧ ro = (0, 0) := by simpa using hh2
 exact ⟨t, hh⟩
theorem laid_err {P : Program} {n nm : String} {d : DataW Unit} {r : List (String × DataW Unit)} {W : World} {g : Nat} {ti : TypeId} {ms : Array (String × TypeId)} (h : laidMet P ((n, .iface nm d) :: r) W) (hg : P.globalNamed n = some g) (ht : (P.globals[g]?).map (·.type) = some ti)
 (hi : P.underlying ti = some (.interface ms)) : ∃ t p e, W.heap[g]? = some (.cells #[.iface t p] e (0, 0)) := by
 obtain ⟨cs, fuel, p, _, hd, hc⟩ := laid_cells h hg ht
 obtain ⟨f', u, v, hcs, _, _⟩ := iface_of_trod hi hd
 have e : cs = #[.iface u v] := Array.toList_inj.1 (by rw [hcs])
 subst e
 obtain ⟨e, he⟩ := hc (by simp)
 exact ⟨u, v, e, he⟩
theorem und_err : ∃ ms, Tryz.prog.underlying 135 = some (.interface ms) := by
 have h : (match Tryz.prog.underlying 135 with
  | some (.interface _) => true
  | _ => false) = true := by kernel_rfl
 split at h
 ·rename_i ms e
  exact ⟨ms, e⟩
 ·cases h
theorem lbIn_of {W : World} {r1 r2 r3 : List (String × DataW Unit)} {nm nm' : String} {d3 d4 : DataW Unit} (h64 : laidMet Tryz.prog (("math/bits.deBruijn64tab", Go.Proofs.YtiilnlihimdnlaaGreatDoor.Rows.laid_math_bits_deBruijn64tab) :: r1) W)
 (hRg : laidMet Tryz.prog (("strconv.ErrRange", .iface nm d3) :: r2) W) (hSx : laidMet Tryz.prog (("strconv.ErrSyntax", .iface nm' d4) :: r3) W) : LbIn W := by
 constructor
 ·intro b c hb
  unfold lbTab at hb
  split at hb
  ·rename_i h5
   subst h5
   obtain ⟨cs1, f1, p1, hv1, hd1, hcl⟩ := laid_cells h64 (show Tryz.prog.globalNamed "math/bits.deBruijn64tab" = some 7 by kernel_rfl) (show (Tryz.prog.globals[7]?).map (·.type) = some 195 by kernel_rfl)
   have hc := Lib.cells_of_tab (zs := [0, 1, 56, 2, 57, 49, 28, 3, 61, 58, 42, 50, 38, 29, 17, 4, 62, 47, 59, 36, 45, 43, 51, 22, 53, 39, 33, 30, 24, 18, 12, 5, 63, 55, 48, 27, 60, 41, 37, 16, 46, 35, 44, 21, 52, 32, 23, 11, 54, 26, 40, 15, 34, 20, 31, 10, 25, 14, 19, 9, 13, 8, 7, 6])
    (k := .u8) (e := 5) (n := 64) (by kernel_rfl) (by kernel_rfl) (by kernel_rfl) (by kernel_rfl) hd1
   have hcc : cs1 = c := by
    apply Array.toList_inj.1
    rw [hc, ← Option.some.inj hb]
   subst hcc
   exact hcl (by rw [← Array.length_toList, hc]; simp)
  ·cases hb
 ·intro b hb
  unfold lbErr at hb
  simp only [Bool.or_eq_true, beq_iff_eq] at hb
  rcases hb with rfl | rfl
  ·exact laid_err hSx (show Tryz.prog.globalNamed "strconv.ErrSyntax" = some 3 by kernel_rfl) (show (Tryz.prog.globals[3]?).map (·.type) = some 135 by kernel_rfl) (und_err).choose_spec
  ·exact laid_err hRg (show Tryz.prog.globalNamed "strconv.ErrRange" = some 4 by kernel_rfl) (show (Tryz.prog.globals[4]?).map (·.type) = some 135 by kernel_rfl) (und_err).choose_spec
theorem lbIn_ok {W : World} {n0 n2 nm nm' : String} {d0 d2 d3 d4 : DataW Unit} {rest : List (String × DataW Unit)} (hL : laidMet Tryz.prog ((n0, d0) :: ("math/bits.deBruijn64tab", Go.Proofs.YtiilnlihimdnlaaGreatDoor.Rows.laid_math_bits_deBruijn64tab) :: (n2, d2) :: ("strconv.ErrRange", .iface nm d3) :: ("strconv.ErrSyntax", .iface nm' d4) :: rest) W) : LbIn W :=
 lbIn_of (laid_tail hL) (laid_tail (laid_tail (laid_tail hL))) (laid_tail (laid_tail (laid_tail (laid_tail hL))))
theorem lbIn2_ok {W : World} {n0 n2 n5 nm nm' : String} {d0 d2 d5 d3 d4 : DataW Unit} {rest : List (String × DataW Unit)} (hL : laidMet Tryz.prog ((n0, d0) :: ("math/bits.deBruijn64tab", Go.Proofs.YtiilnlihimdnlaaGreatDoor.Rows.laid_math_bits_deBruijn64tab) :: (n2, d2) :: (n5, d5) :: ("strconv.ErrRange", .iface nm d3) :: ("strconv.ErrSyntax", .iface nm' d4) :: rest) W) : LbIn W :=
 lbIn_of (laid_tail hL) (laid_tail (laid_tail (laid_tail (laid_tail hL)))) (laid_tail (laid_tail (laid_tail (laid_tail (laid_tail hL)))))
end Go.Proofs.YtiilnlihimdnlaaGreatDoorFw
