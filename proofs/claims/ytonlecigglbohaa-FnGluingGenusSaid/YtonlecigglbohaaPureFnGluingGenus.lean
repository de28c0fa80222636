import Derived.Test.YtonlecigglbohaaLdraw
import Derived.Test.YtonlecigglbohaaLgl
import Derived.Test.YtonlecigglbohaaQ10
/- The genus of a gluing: the law, for every code. -/
namespace Go.Proofs.Ytonlecigglbohaa.Pure
set_option linter.unusedVariables false
set_option linter.unusedSimpArgs false
open Go.RowKit Go.Proofs.Ytonlecigglbohaa.Q Go.Proofs.YtonlecigglbohaaW.PrintWords Go.Proofs.YtonlecigglbohaaW.PrintLast Go.Proofs.Ytonlecigglbohaa.M Go.Proofs.Ytonlecigglbohaa.B Go.Proofs.Ytonlecigglbohaa.Lpick Go.Proofs.Ytonlecigglbohaa.Ldraw Go.Proofs.Ytonlecigglbohaa.Lgv Go.Proofs.Ytonlecigglbohaa.Lgl

def genChk (l : List Int) : Bool := match impl_GluingGenus.f 600 l with
  | none => false
  | some v => spec_GluingGenus.f 600 l == some v && laws_FnGluingGenus.j0 800 l v v (decide (v < 0)) == some true
theorem gen_1 : (gls 1).all genChk = true := by decide +kernel
theorem gen_2 : (gls 2).all genChk = true := by decide +kernel
theorem gen_3 : (gls 3).all genChk = true := by decide +kernel
theorem gen_4 : (gls 4).all genChk = true := by decide +kernel
theorem gen_5_0 : (gl5 0).all genChk = true := by decide +kernel
theorem gen_5_1 : (gl5 1).all genChk = true := by decide +kernel
theorem gen_5_2 : (gl5 2).all genChk = true := by decide +kernel
theorem gen_5_3 : (gl5 3).all genChk = true := by decide +kernel
theorem gen_5_4 : (gl5 4).all genChk = true := by decide +kernel
theorem gen_5_5 : (gl5 5).all genChk = true := by decide +kernel
theorem gen_5_6 : (gl5 6).all genChk = true := by decide +kernel
theorem gen_5_7 : (gl5 7).all genChk = true := by decide +kernel
theorem gen_5_8 : (gl5 8).all genChk = true := by decide +kernel
theorem gen_5 : (gls 5).all genChk = true := gl5_all genChk gen_5_0 gen_5_1 gen_5_2 gen_5_3 gen_5_4 gen_5_5 gen_5_6 gen_5_7 gen_5_8
theorem FnGluingGenus : laws_FnGluingGenus.Pure := by
  intro l h1 h2 h3
  refine Ev.rounds ?_
  unfold laws_FnGluingGenus.f
  by_cases hb : (l.length : Int) > 1048576
  · exact Ev.pos hb (Ev.now _)
  refine Ev.neg hb ?_
  have hd : EvP (fun k => spec_DrawGluingGenus.f k l) (fun x => x.length ≤ 1000) := by
    obtain ⟨b, hb, hrb⟩ := open_rb l h3
    unfold spec_DrawGluingGenus.f
    refine EvP.bindc hb ?_
    refine EvP.bind (gl_p b hrb 0 5 (by omega) (by omega) (by omega) (by omega)) (fun r h => ?_)
    exact EvP.now (by omega)
  refine Ev.bindp hd ?_
  intro x hx
  cases hg : gvB x with
  | true =>
    
    have hc := gv_cases genChk gen_1 gen_2 gen_3 gen_4 gen_5 x hg
    unfold genChk at hc
    split at hc
    · cases hc
    · rename_i v hv
      simp only [Bool.and_eq_true, beq_iff_eq] at hc
      refine Ev.bind (Ev.of (impl_GluingGenus.mono _) hv) ?_
      refine Ev.bind (Ev.of (spec_GluingGenus.mono _) hc.1) ?_
      refine Ev.pos rfl ?_
      exact Ev.of (fun k => laws_FnGluingGenus.mono_l k _ _ _ _) hc.2
  | false =>
    have hi : Ev (fun k => impl_GluingGenus.f k x) (-1) := by unfold impl_GluingGenus.f; exact Ev.bind (Ev.same (impl_gv x (by omega)) hg) (Ev.neg (by simp) (Ev.now _))
    have hs : Ev (fun k => spec_GluingGenus.f k x) (-1) := by unfold spec_GluingGenus.f; exact Ev.bind (Ev.same (spec_gv x (by omega)) hg) (Ev.neg (by simp) (Ev.now _))
    refine Ev.bind hi ?_
    refine Ev.bind hs ?_
    refine Ev.pos rfl (Ev.ret (fun k => ?_))
    simp only [laws_FnGluingGenus.j0]
    rfl
end Go.Proofs.Ytonlecigglbohaa.Pure
