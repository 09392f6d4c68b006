/- A drawn region that makes an object of a text and appends it: how it is told. -/
import Derived.Test.YtedmpcmfcnfclaaDoorFw42
namespace Go.Proofs.YtedmpcmfcnfclaaDoorFw
open Go Go.RowKit
set_option linter.unusedVariables false
set_option linter.unusedSimpArgs false

theorem build1 {P : Program} {T : Tab} (hT : TabOk P T) {all : Array Oper} {o : Oper} {t x d : Nat} {ei : TI} {u : List UInt8} (hop : o.op = .buildSlice t 1 #[(0, .tmp x)]) (hd : o.dst = some d) (hg : o.guard = none) (he : elemOf' T t = some ei) (hsz : ei.sz = 1)
    (hels : elsOf ei.z ei.k 0 [.str u] = some ([.str u], [])) {s' : St} (hx : lookS s'.slots x = some (.str u)) (hfit : d < s'.nt) : IStep P all o s' (s'.newO d (idOf (some d)) 1 [.str u] (.hd (idOf (some d)) [])) := by
  refine IStep.cop hT (by simp [wantA, hg]) (p := True) ?_ trivial
  have hid : 16 ≤ idOf (some d) := idOf_le _
  simp [cop, movesOf, hop, evCells, St.ev, hx, AV.cells, viewsOf, bop, aop, hd, St.fits, hfit, sBuildSl, he, evL, seqFrom, hsz, hels, St.plugL, hid]

theorem AppSt.mk' {P : Program} {T : Tab} (hT : TabOk P T) {all : Array Oper} {L z dz d7 id7 : Nat} {v : AV} {e0 : St} {K : St → Prop} {o7 o8 oz : Oper} {t7 x7 : Nat} {u : List UInt8} {ei : TI} {xz : Operand} {p p' : Prop} {e2 e2' : St}
    (q1 : all[L]? = some o7) (q2 : o7.dst = some d7) (hop : o7.op = .buildSlice t7 1 #[(0, .tmp x7)]) (hg : o7.guard = none) (he : elemOf' T t7 = some ei) (hsz : ei.sz = 1) (hels : elsOf ei.z ei.k 0 [.str u] = some ([.str u], [])) (hx : lookS e0.slots x7 = some (.str u)) (hfit : d7 < e0.nt) (hid : id7 = idOf (some d7))
    (q3 : all[L + 1]? = some o8) (hg8 : o8.guard = none) (q4 : all[z]? = some oz) (q5 : oz.op = .move xz) (q6 : oz.dst = some dz) (q7 : oz.guard = none)
    (q9 : mapS (killF id7) e0.slots = e0.slots) (q10 : lookO e0.objs id7 = none) (q11 : ∀ d, o8.dst = some d → lookS (e0.newO d7 id7 1 [.str u] (.hd id7 [])).slots d = none)
    (c1 : cop T o8 (e0.newO d7 id7 1 [.str u] (.hd id7 [])) = some (p, e2)) (c2 : cop T o8 ((e0.newO d7 id7 1 [.str u] (.hd id7 [])).del dz) = some (p', e2'))
    (r1 : e2.nt = e0.nt) (r2 : e2.st = e0.st) (r3 : e2'.nt = e0.nt) (r4 : e2'.st = e0.st) (r5 : e2'.objs = e2.objs) (r6 : e2'.slots = delS e2.slots dz) (r7 : e2.ev xz = some v) (r8 : lookS e2.slots dz = some v) (r9 : dz < e0.nt) (hp : p) (hp' : p') (hK : K e2) : AppSt P T all L z dz d7 id7 v e0 K := by
  subst hid
  refine ⟨⟨o7, o8, oz, 1, [.str u], xz, e2, e2', q1, q2, q3, q4, q5, q6, q7, ?_, q9, q10, q11, IStep.cop hT (by simp [wantA, hg8]) c1 hp, IStep.cop hT (by simp [wantA, hg8]) c2 hp', r1, r2, r3, r4, r5, ?_, r7, r8, r9, hK⟩⟩
  · intro s' h1 h2 h3 h4
    refine build1 hT hop q2 hg he hsz hels ?_ (by rw [h1]; exact hfit)
    rw [h4 x7 ?_, hx]
    refine List.mem_append_left _ (List.mem_filterMap.2 ⟨.tmp x7, ?_, rfl⟩)
    rw [hop]; simp [Op.operands]
  · intro t ht
    rw [r6, lookS_delS, if_neg ht]

attribute [go_sem] St.del delS

end Go.Proofs.YtedmpcmfcnfclaaDoorFw
