/- Each operation of the machine does what the abstract state tells. -/
import Derived.Test.YtkhobcmkbldmiaaFw23
namespace Go.Proofs.YtkhobcmkbldmiaaFw
open Go Go.RowKit
set_option linter.unusedVariables false

theorem aop_ok {P : Program} {T : Tab} (hT : TabOk P T) {o : Oper} {s s' : St} {p : Prop} (h : aop T o s = some (p, s')) (hp : p) : StepOk P o s s' := by
  unfold aop at h
  split at h
  · simp at h
  rename_i hfits
  have hd : s.fits o.dst = true := by simpa using hfits
  split at h
  · rename_i x hop -- move
    simp only [Option.map_eq_some_iff, Prod.mk.injEq] at h
    obtain ⟨y, hy, rfl, rfl⟩ := h
    exact fun a w g hs => ⟨_, _, w, g, by unfold execOp; simp only [hop, Sem.run_pure], .inl ⟨_, rfl, rfl⟩, hs.put hd (hs.ev hy), Keep.refl g w⟩
  · rename_i x hop -- assign
    simp only [Option.map_eq_some_iff, Prod.mk.injEq] at h
    obtain ⟨y, hy, rfl, rfl⟩ := h
    intro a w g hs
    obtain ⟨g', h1, h2⟩ := sAssign_ok (T := T) (t := o.type) hd hs (hs.ev hy)
    exact ⟨_, _, w, g', by unfold execOp; simp only [hop, Sem.run_pure], .inl ⟨_, rfl, rfl⟩, h1, h2⟩
  · rename_i t hop -- alloc
    split at h
    · rename_i d hdd
      simp only [Option.map_eq_some_iff, Prod.mk.injEq] at h
      obtain ⟨s1, hs1, rfl, rfl⟩ := h
      intro a w g hs
      obtain ⟨r, w', g', hr, h1, h2⟩ := sAlloc_ok hT hs1 hs
      exact ⟨_, _, w', g', exec_v (by unfold execOp; simp only [hop]) hr, .inl ⟨_, rfl, rfl⟩, by rw [hdd]; exact h1, h2⟩
    · simp at h
  · rename_i t x hop -- box
    split at h
    · rename_i d y hdd hy
      simp only [Option.map_eq_some_iff, Prod.mk.injEq] at h
      obtain ⟨s1, hs1, rfl, rfl⟩ := h
      intro a w g hs
      obtain ⟨r, w', g', hr, h1, h2⟩ := sBox_ok (P := P) hT hs1 hs (hs.ev hy)
      exact ⟨_, _, w', g', exec_v (by unfold execOp; simp only [hop]) hr, .inl ⟨_, rfl, rfl⟩, by rw [hdd]; exact h1, h2⟩
    · simp at h
  · rename_i t ps hop -- build
    split at h
    · rename_i htf
      simp only [Option.map_eq_some_iff, Prod.mk.injEq] at h
      obtain ⟨y, hy, rfl, rfl⟩ := h
      intro a w g hs
      obtain ⟨r, hr, hval⟩ := vBuild_ok (P := P) hT hy (fun ti fs h1 h2 => by
        unfold tiFields at htf
        rw [h1] at htf
        simp only [h2] at htf
        exact htf) hs
      exact ⟨_, _, w, g, exec_v (by unfold execOp; simp only [hop]) hr, .inl ⟨_, rfl, rfl⟩, hs.put hd hval, Keep.refl g w⟩
    · simp at h
  · rename_i t n ps hop -- buildSlice
    split at h
    · rename_i d hdd
      simp only [Option.map_eq_some_iff, Prod.mk.injEq] at h
      obtain ⟨s1, hs1, rfl, rfl⟩ := h
      intro a w g hs
      obtain ⟨r, w', g', hr, h1, h2⟩ := sBuildSl_ok hT hs1 hs
      exact ⟨_, _, w', g', exec_v (by unfold execOp; simp only [hop]) hr, .inl ⟨_, rfl, rfl⟩, by rw [hdd]; exact h1, h2⟩
    · simp at h
  · rename_i t x hop -- load
    split at h
    · rename_i x' hx'
      simp only [Option.map_eq_some_iff, Prod.mk.injEq] at h
      obtain ⟨y, hy, rfl, rfl⟩ := h
      intro a w g hs
      obtain ⟨r, hr, hval⟩ := vLoad_ok hT hy hs (hs.ev hx')
      exact ⟨_, _, w, g, exec_v (by unfold execOp; simp only [hop]) hr, .inl ⟨_, rfl, rfl⟩, hs.put hd hval, Keep.refl g w⟩
    · simp at h
  · rename_i t x y hop -- store
    split at h
    · rename_i x' y' hdd hx' hy'
      simp only [Option.map_eq_some_iff, Prod.mk.injEq] at h
      obtain ⟨s1, hs1, rfl, rfl⟩ := h
      intro a w g hs
      obtain ⟨w', g', hr, h1, h2⟩ := sStore_ok hT hs1 hs (hs.ev hx') (hs.ev hy')
      exact ⟨_, _, w', g', exec_u (by unfold execOp; simp only [hop]) hr, .inr ⟨rfl, rfl⟩, by rw [hdd]; exact h1, h2⟩
    · simp at h
  · rename_i x hop -- nilCheck
    split at h
    · rename_i x' hx'
      simp only [Option.map_eq_some_iff, Prod.mk.injEq] at h
      obtain ⟨y, hy, rfl, rfl⟩ := h
      intro a w g hs
      obtain ⟨rfl, hcase⟩ := vNilCheck_ok hy (hs.ev hx')
      refine ⟨_, _, w, g, ?_, .inl ⟨a.eval x, rfl, rfl⟩, hs.put hd (hs.ev hx'), Keep.refl g w⟩
      unfold execOp
      simp only [hop]
      rcases hcase with ⟨ad, e⟩ | ⟨f, vs, e⟩ <;> rw [e] <;> rfl
    · simp at h
  · rename_i op t x y t2 hop -- binOp
    split at h
    · rename_i x' y' hx' hy'
      simp only [Option.map_eq_some_iff, Prod.mk.injEq] at h
      obtain ⟨⟨q, z⟩, hz, rfl, rfl⟩ := h
      intro a w g hs
      obtain ⟨r, hr, hval⟩ := abin_ok (P := P) hT hz hp (hs.ev hx') (hs.ev hy') x y
      exact ⟨_, _, w, g, exec_v (by unfold execOp; simp only [hop]) hr, .inl ⟨_, rfl, rfl⟩, hs.put hd hval, Keep.refl g w⟩
    · simp at h
  · rename_i op t x hop -- unOp
    split at h
    · rename_i x' hx'
      simp only [Option.map_eq_some_iff, Prod.mk.injEq] at h
      obtain ⟨y, hy, rfl, rfl⟩ := h
      intro a w g hs
      obtain ⟨r, hr, hval⟩ := vUn_ok (P := P) hy (hs.ev hx')
      exact ⟨_, _, w, g, exec_v (by unfold execOp; simp only [hop]) hr, .inl ⟨_, rfl, rfl⟩, hs.put hd hval, Keep.refl g w⟩
    · simp at h
  · rename_i t u x hop -- convert
    split at h
    · rename_i x' hx'
      simp only [Option.map_eq_some_iff, Prod.mk.injEq] at h
      obtain ⟨y, hy, rfl, rfl⟩ := h
      intro a w g hs
      obtain ⟨r, hr, hval⟩ := vConv_ok (P := P) hT hy (hs.ev hx')
      exact ⟨_, _, w, g, exec_v (by unfold execOp; simp only [hop]) hr, .inl ⟨_, rfl, rfl⟩, hs.put hd hval, Keep.refl g w⟩
    · simp at h
  · rename_i t x y hop -- makeSlice
    split at h
    · rename_i d x' y' hdd hx' hy'
      intro a w g hs
      obtain ⟨r, w', g', hr, h1, h2⟩ := sMake_ok (P := P) hT h hp hs (hs.ev hx') (hs.ev hy')
      exact ⟨_, _, w', g', exec_v (by unfold execOp; simp only [hop]) hr, .inl ⟨_, rfl, rfl⟩, by rw [hdd]; exact h1, h2⟩
    · simp at h
  · rename_i t x lo hi hop -- slice
    split at h
    · rename_i x' lo' hi' hx' hlo hhi
      simp only [Option.map_eq_some_iff, Prod.mk.injEq] at h
      obtain ⟨⟨q, z⟩, hz, rfl, rfl⟩ := h
      intro a w g hs
      obtain ⟨r, hr, hval⟩ := vSlice_ok (P := P) hT hz hp hs (hs.ev hx') (evO_ok hs hlo) (evO_ok hs hhi)
      exact ⟨_, _, w, g, exec_v (by unfold execOp; simp only [hop, Option.map_none]) hr, .inl ⟨_, rfl, rfl⟩, hs.put hd hval, Keep.refl g w⟩
    · simp at h
  · rename_i t x f hop -- fieldAddr
    split at h
    · rename_i x' hx'
      simp only [Option.map_eq_some_iff, Prod.mk.injEq] at h
      obtain ⟨y, hy, rfl, rfl⟩ := h
      intro a w g hs
      obtain ⟨r, hr, hval⟩ := vFieldAddr_ok (P := P) hT hy (hs.ev hx')
      exact ⟨_, _, w, g, exec_v (by unfold execOp; simp only [hop]) hr, .inl ⟨_, rfl, rfl⟩, hs.put hd hval, Keep.refl g w⟩
    · simp at h
  · rename_i t x f hop -- field
    split at h
    · rename_i x' hx'
      simp only [Option.map_eq_some_iff, Prod.mk.injEq] at h
      obtain ⟨y, hy, rfl, rfl⟩ := h
      intro a w g hs
      obtain ⟨r, hr, hval⟩ := vField_ok (P := P) hT hy (hs.ev hx')
      exact ⟨_, _, w, g, exec_v (by unfold execOp; simp only [hop]) hr, .inl ⟨_, rfl, rfl⟩, hs.put hd hval, Keep.refl g w⟩
    · simp at h
  · rename_i t x i hop -- indexAddr
    split at h
    · rename_i x' i' hx' hi'
      simp only [Option.map_eq_some_iff, Prod.mk.injEq] at h
      obtain ⟨⟨q, z⟩, hz, rfl, rfl⟩ := h
      intro a w g hs
      obtain ⟨r, hr, hval⟩ := vIndexAddr_ok (P := P) hT hz hp hs (hs.ev hx') (hs.ev hi')
      exact ⟨_, _, w, g, exec_v (by unfold execOp; simp only [hop]) hr, .inl ⟨_, rfl, rfl⟩, hs.put hd hval, Keep.refl g w⟩
    · simp at h
  · rename_i t x i hop -- index
    split at h
    · rename_i x' i' hx' hi'
      simp only [Option.map_eq_some_iff, Prod.mk.injEq] at h
      obtain ⟨⟨q, z⟩, hz, rfl, rfl⟩ := h
      intro a w g hs
      obtain ⟨r, hr, hval⟩ := vIndex_ok (P := P) hT hz hp (hs.ev hx') (hs.ev hi')
      exact ⟨_, _, w, g, exec_v (by unfold execOp; simp only [hop]) hr, .inl ⟨_, rfl, rfl⟩, hs.put hd hval, Keep.refl g w⟩
    · simp at h
  · rename_i x i hop -- extract
    split at h
    · rename_i x' hx'
      simp only [Option.map_eq_some_iff, Prod.mk.injEq] at h
      obtain ⟨y, hy, rfl, rfl⟩ := h
      intro a w g hs
      obtain ⟨r, hr, hval⟩ := vExtract_ok (P := P) hy (hs.ev hx')
      exact ⟨_, _, w, g, exec_v (by unfold execOp; simp only [hop]) hr, .inl ⟨_, rfl, rfl⟩, hs.put hd hval, Keep.refl g w⟩
    · simp at h
  · rename_i c hop -- call
    split at h
    · rename_i b hcal
      exact aBuiltin_ok hT hop hcal hd h hp
    · simp at h
  · simp at h

end Go.Proofs.YtkhobcmkbldmiaaFw
