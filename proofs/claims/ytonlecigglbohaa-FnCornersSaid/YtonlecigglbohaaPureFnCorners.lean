import Derived.Test.YtonlecigglbohaaLdraw
import Derived.Test.YtonlecigglbohaaLgl
import Derived.Test.YtonlecigglbohaaQ7
/- Corners of a gluing: the law, for every code. -/
namespace Go.Proofs.Ytonlecigglbohaa.Pure
set_option linter.unusedVariables false
set_option linter.unusedSimpArgs false
open Go.RowKit Go.Proofs.Ytonlecigglbohaa.Q Go.Proofs.YtonlecigglbohaaW.PrintWords Go.Proofs.YtonlecigglbohaaW.PrintLast Go.Proofs.Ytonlecigglbohaa.M Go.Proofs.Ytonlecigglbohaa.B Go.Proofs.Ytonlecigglbohaa.Lpick Go.Proofs.Ytonlecigglbohaa.Ldraw Go.Proofs.Ytonlecigglbohaa.Lgv Go.Proofs.Ytonlecigglbohaa.Lgl

def cornChk (l : List Int) : Bool := match impl_GluingCorners.f 600 l with
  | none => false
  | some v => spec_GluingCorners.f 600 l == some v && laws_FnCorners.j0 800 l v v (decide (v < 0)) == some true
theorem corn_1 : (gls 1).all cornChk = true := by decide +kernel
theorem corn_2 : (gls 2).all cornChk = true := by decide +kernel
theorem corn_3 : (gls 3).all cornChk = true := by decide +kernel
theorem corn_4 : (gls 4).all cornChk = true := by decide +kernel
theorem corn_5_0 : (gl5 0).all cornChk = true := by decide +kernel
theorem corn_5_1 : (gl5 1).all cornChk = true := by decide +kernel
theorem corn_5_2 : (gl5 2).all cornChk = true := by decide +kernel
theorem corn_5_3 : (gl5 3).all cornChk = true := by decide +kernel
theorem corn_5_4 : (gl5 4).all cornChk = true := by decide +kernel
theorem corn_5_5 : (gl5 5).all cornChk = true := by decide +kernel
theorem corn_5_6 : (gl5 6).all cornChk = true := by decide +kernel
theorem corn_5_7 : (gl5 7).all cornChk = true := by decide +kernel
theorem corn_5_8 : (gl5 8).all cornChk = true := by decide +kernel
theorem corn_5 : (gls 5).all cornChk = true := gl5_all cornChk corn_5_0 corn_5_1 corn_5_2 corn_5_3 corn_5_4 corn_5_5 corn_5_6 corn_5_7 corn_5_8
theorem FnCorners : laws_FnCorners.Pure := by
  intro l h1 h2 h3
  refine Ev.rounds ?_
  unfold laws_FnCorners.f
  by_cases hb : (l.length : Int) > 1048576
  · exact Ev.pos hb (Ev.now _)
  refine Ev.neg hb ?_
  have hd : EvP (fun k => spec_DrawGluingCorners.f k l) (fun x => x.length ≤ 1000) := by
    obtain ⟨b, hb, hrb⟩ := open_rb l h3
    unfold spec_DrawGluingCorners.f
    refine EvP.bindc hb ?_
    refine EvP.bind (gl_p b hrb 0 5 (by omega) (by omega) (by omega) (by omega)) (fun r h => ?_)
    exact EvP.now (by omega)
  refine Ev.bindp hd ?_
  intro x hx
  cases hg : gvB x with
  | true =>
    
    have hc := gv_cases cornChk corn_1 corn_2 corn_3 corn_4 corn_5 x hg
    unfold cornChk at hc
    split at hc
    · cases hc
    · rename_i v hv
      simp only [Bool.and_eq_true, beq_iff_eq] at hc
      refine Ev.bind (Ev.of (impl_GluingCorners.mono _) hv) ?_
      refine Ev.bind (Ev.of (spec_GluingCorners.mono _) hc.1) ?_
      refine Ev.pos rfl ?_
      exact Ev.of (fun k => laws_FnCorners.mono_l k _ _ _ _) hc.2
  | false =>
    have hi : Ev (fun k => impl_GluingCorners.f k x) (-1) := by unfold impl_GluingCorners.f; exact Ev.bind (Ev.same (impl_gv x (by omega)) hg) (Ev.neg (by simp) (Ev.now _))
    have hs : Ev (fun k => spec_GluingCorners.f k x) (-1) := by unfold spec_GluingCorners.f; exact Ev.bind (Ev.same (spec_gv x (by omega)) hg) (Ev.neg (by simp) (Ev.now _))
    refine Ev.bind hi ?_
    refine Ev.bind hs ?_
    refine Ev.pos rfl (Ev.ret (fun k => ?_))
    simp only [laws_FnCorners.j0]
    rfl
end Go.Proofs.Ytonlecigglbohaa.Pure
