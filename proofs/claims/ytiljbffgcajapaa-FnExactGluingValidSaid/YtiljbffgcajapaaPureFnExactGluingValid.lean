/- The program's test of a gluing answers as the reference's does, for every list of numbers. -/
import Derived.Test.YtiljbffgcajapaaLgv
import Derived.Test.YtiljbffgcajapaaQ3
namespace Go.Proofs.Ytiljbffgcajapaa.Pure
set_option linter.unusedVariables false
set_option linter.unusedSimpArgs false
open Go.RowKit Go.Proofs.Ytiljbffgcajapaa.Q Go.Proofs.YtiljbffgcajapaaW.PrintWords Go.Proofs.YtiljbffgcajapaaW.PrintLast Go.Proofs.Ytiljbffgcajapaa.B Go.Proofs.Ytiljbffgcajapaa.L1 Go.Proofs.Ytiljbffgcajapaa.Lgv

theorem FnExactGluingValid : laws_FnExactGluingValid.Pure := by
  intro l h1 h2 h3
  refine Ev.rounds ?_
  unfold laws_FnExactGluingValid.f
  by_cases hb : (l.length : Int) > 1048576
  · exact Ev.pos hb (Ev.now _)
  · refine Ev.neg hb ?_
    have hl : l.length ≤ 35184372088832 := by omega
    refine Ev.bind (toIntS l hl) ?_
    refine Ev.bind (spec_gv l hl) ?_
    refine Ev.bind (toIntS l hl) ?_
    refine Ev.bind (impl_gv l hl) ?_
    refine Ev.neg (by simp) ?_
    refine Ev.bind (toIntS l hl) ?_
    refine Ev.bind (eqIntS_self l hl) ?_
    exact Ev.pos rfl (Ev.now _)
end Go.Proofs.Ytiljbffgcajapaa.Pure
