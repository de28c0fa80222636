/- The program's number of crossing pairs is the reference's, for every list of numbers. -/
import Derived.Test.YtiljbffgcajapaaL1
import Derived.Test.YtiljbffgcajapaaLchord
import Derived.Test.YtiljbffgcajapaaQ27
namespace Go.Proofs.Ytiljbffgcajapaa.Pure
set_option linter.unusedVariables false
set_option linter.unusedSimpArgs false
open Go.RowKit Go.Proofs.Ytiljbffgcajapaa.Q Go.Proofs.YtiljbffgcajapaaW.PrintWords Go.Proofs.YtiljbffgcajapaaW.PrintLast Go.Proofs.Ytiljbffgcajapaa.M Go.Proofs.Ytiljbffgcajapaa.B Go.Proofs.Ytiljbffgcajapaa.L1 Go.Proofs.Ytiljbffgcajapaa.Lchord

/-- where both come to one answer, the law holds -/
theorem FnExactGluingChord_of (l : List Int) (r : Int) (hl : l.length ≤ 1048576) (hs : Ev (fun k => spec_GluingChord.f k l) r) (hi : Ev (fun k => impl_GluingChord.f k l) r) : Ev (fun k => laws_FnExactGluingChord.f k l) true := by
  have h0 : l.length ≤ 35184372088832 := by omega
  unfold laws_FnExactGluingChord.f
  refine Ev.neg (by omega) ?_
  refine Ev.bind (toIntS l h0) ?_
  refine Ev.bind hs ?_
  refine Ev.bind (toIntS l h0) ?_
  refine Ev.bind hi ?_
  refine Ev.pos rfl ?_
  refine Ev.bind (toIntS l h0) ?_
  refine Ev.bind (eqIntS_self l h0) ?_
  exact Ev.pos rfl (Ev.now _)

theorem FnExactGluingChord : laws_FnExactGluingChord.Pure := by
  intro l h1 h2 h3
  refine Ev.rounds ?_
  by_cases hb : (l.length : Int) > 1048576
  · unfold laws_FnExactGluingChord.f
    exact Ev.pos hb (Ev.now _)
  exact FnExactGluingChord_of l (chordR l) (by omega) (spec_chord l (by omega)) (impl_chord l (by omega))
end Go.Proofs.Ytiljbffgcajapaa.Pure
