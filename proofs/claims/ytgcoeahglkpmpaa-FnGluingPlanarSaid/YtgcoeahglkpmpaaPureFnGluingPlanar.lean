import Derived.Test.YtgcoeahglkpmpaaLdraw
import Derived.Test.YtgcoeahglkpmpaaLchord
import Derived.Test.YtgcoeahglkpmpaaLgl
import Derived.Test.YtgcoeahglkpmpaaQ61
/- Planar gluings are those of genus naught: the law, for every code. -/
namespace Go.Proofs.Ytgcoeahglkpmpaa.Pure
set_option linter.unusedVariables false
set_option linter.unusedSimpArgs false
open Go.RowKit Go.Proofs.Ytgcoeahglkpmpaa.Q Go.Proofs.YtgcoeahglkpmpaaW.PrintWords Go.Proofs.YtgcoeahglkpmpaaW.PrintLast Go.Proofs.Ytgcoeahglkpmpaa.M Go.Proofs.Ytgcoeahglkpmpaa.B Go.Proofs.Ytgcoeahglkpmpaa.Lpick Go.Proofs.Ytgcoeahglkpmpaa.Ldraw Go.Proofs.Ytgcoeahglkpmpaa.Lgv Go.Proofs.Ytgcoeahglkpmpaa.Lchord Go.Proofs.Ytgcoeahglkpmpaa.Lgl

def planChk (l : List Int) : Bool := match impl_GluingPlanar.f 60 l with
  | none => false
  | some v => spec_GluingPlanar.f 60 l == some v && laws_FnGluingPlanar.j0 120 l v v (!v) == some true
theorem plan_1 : (gls 1).all planChk = true := by decide +kernel
theorem plan_2 : (gls 2).all planChk = true := by decide +kernel
theorem plan_3 : (gls 3).all planChk = true := by decide +kernel
theorem plan_4 : (gls 4).all planChk = true := by decide +kernel
theorem plan_5 : (gls 5).all planChk = true := by decide +kernel
theorem FnGluingPlanar : laws_FnGluingPlanar.Pure := by
  intro l h1 h2 h3
  refine Ev.rounds ?_
  unfold laws_FnGluingPlanar.f
  by_cases hb : (l.length : Int) > 1048576
  · exact Ev.pos hb (Ev.now _)
  refine Ev.neg hb ?_
  have hd : EvP (fun k => spec_DrawGluingPlanar.f k l) (fun x => x.length ≤ 1000) := by
    obtain ⟨b, hb, hrb⟩ := open_rb l h3
    unfold spec_DrawGluingPlanar.f
    refine EvP.bindc hb ?_
    refine EvP.bind (gl_p b hrb 0 4 (by omega) (by omega) (by omega) (by omega)) (fun r h => ?_)
    exact EvP.now (by omega)
  refine Ev.bindp hd ?_
  intro x hx
  cases hg : gvB x with
  | true =>
    
    have hc := gv_cases planChk plan_1 plan_2 plan_3 plan_4 plan_5 x hg
    unfold planChk at hc
    split at hc
    · cases hc
    · rename_i v hv
      simp only [Bool.and_eq_true, beq_iff_eq] at hc
      refine Ev.bind (Ev.of (impl_GluingPlanar.mono _) hv) ?_
      refine Ev.bind (Ev.of (spec_GluingPlanar.mono _) hc.1) ?_
      refine Ev.neg (by simp) ?_
      exact Ev.of (fun k => (laws_FnGluingPlanar.mono_l k).1 _ _ _ _) hc.2
  | false =>
    have hi : Ev (fun k => impl_GluingPlanar.f k x) false := by unfold impl_GluingPlanar.f; exact Ev.bind (impl_chord x (by omega)) (Ev.same (Ev.now _) (by simp [chordR, hg]))
    have hs : Ev (fun k => spec_GluingPlanar.f k x) false := by unfold spec_GluingPlanar.f; exact Ev.bind (spec_chord x (by omega)) (Ev.same (Ev.now _) (by simp [chordR, hg]))
    refine Ev.bind hi ?_
    refine Ev.bind hs ?_
    refine Ev.neg (by simp) (Ev.ret (fun k => ?_))
    simp only [laws_FnGluingPlanar.j0]
    rfl
end Go.Proofs.Ytgcoeahglkpmpaa.Pure
