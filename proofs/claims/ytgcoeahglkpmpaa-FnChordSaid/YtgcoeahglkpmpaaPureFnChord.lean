import Derived.Test.YtgcoeahglkpmpaaLdraw
import Derived.Test.YtgcoeahglkpmpaaLchord
import Derived.Test.YtgcoeahglkpmpaaLgl
import Derived.Test.YtgcoeahglkpmpaaQ32
/- Two sides of a chord cross: the law of the crossing pairs, for every code. -/
namespace Go.Proofs.Ytgcoeahglkpmpaa.Pure
set_option linter.unusedVariables false
set_option linter.unusedSimpArgs false
open Go.RowKit Go.Proofs.Ytgcoeahglkpmpaa.Q Go.Proofs.YtgcoeahglkpmpaaW.PrintWords Go.Proofs.YtgcoeahglkpmpaaW.PrintLast Go.Proofs.Ytgcoeahglkpmpaa.M Go.Proofs.Ytgcoeahglkpmpaa.B Go.Proofs.Ytgcoeahglkpmpaa.Lpick Go.Proofs.Ytgcoeahglkpmpaa.Ldraw Go.Proofs.Ytgcoeahglkpmpaa.Lgv Go.Proofs.Ytgcoeahglkpmpaa.Lchord Go.Proofs.Ytgcoeahglkpmpaa.Lgl

def chordChk (l : List Int) : Bool := match impl_GluingChord.f 60 l with
  | none => false
  | some v => spec_GluingChord.f 60 l == some v && laws_FnChord.j0 90 l v v (decide (v < 0)) == some true
theorem chord_1 : (gls 1).all chordChk = true := by decide +kernel
theorem chord_2 : (gls 2).all chordChk = true := by decide +kernel
theorem chord_3 : (gls 3).all chordChk = true := by decide +kernel
theorem chord_4 : (gls 4).all chordChk = true := by decide +kernel
theorem chord_5 : (gls 5).all chordChk = true := by decide +kernel
theorem FnChord : laws_FnChord.Pure := by
  intro l h1 h2 h3
  refine Ev.rounds ?_
  unfold laws_FnChord.f
  by_cases hb : (l.length : Int) > 1048576
  · exact Ev.pos hb (Ev.now _)
  refine Ev.neg hb ?_
  have hd : EvP (fun k => spec_DrawGluingChord.f k l) (fun x => x.length ≤ 1000) := by
    obtain ⟨b, hb, hrb⟩ := open_rb l h3
    unfold spec_DrawGluingChord.f
    refine EvP.bindc hb ?_
    refine EvP.bind (gl_p b hrb 0 5 (by omega) (by omega) (by omega) (by omega)) (fun r h => ?_)
    exact EvP.now (by omega)
  refine Ev.bindp hd ?_
  intro x hx
  cases hg : gvB x with
  | true =>
    
    have hc := gv_cases chordChk chord_1 chord_2 chord_3 chord_4 chord_5 x hg
    unfold chordChk at hc
    split at hc
    · cases hc
    · rename_i v hv
      simp only [Bool.and_eq_true, beq_iff_eq] at hc
      refine Ev.bind (Ev.of (impl_GluingChord.mono _) hv) ?_
      refine Ev.bind (Ev.of (spec_GluingChord.mono _) hc.1) ?_
      refine Ev.pos rfl ?_
      exact Ev.of (fun k => (laws_FnChord.mono_l k).1 _ _ _ _) hc.2
  | false =>
    refine Ev.bind (a := -1) (Ev.same (impl_chord x (by omega)) (by simp [chordR, hg])) ?_
    refine Ev.bind (a := -1) (Ev.same (spec_chord x (by omega)) (by simp [chordR, hg])) ?_
    refine Ev.pos rfl (Ev.ret (fun k => ?_))
    simp only [laws_FnChord.j0]
    rfl
end Go.Proofs.Ytgcoeahglkpmpaa.Pure
