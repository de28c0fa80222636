import Derived.Test.YtdaiohcgdpclnaaLrM
import Derived.Test.YtdaiohcgdpclnaaQ15
/- The roots of all maps are added up alike: the law, for all arguments. -/
namespace Go.Proofs.Ytdaiohcgdpclnaa.Pure
set_option linter.unusedVariables false
open Go.RowKit Go.Proofs.YtdaiohcgdpclnaaW.PrintWords Go.Proofs.YtdaiohcgdpclnaaW.PrintMore Go.Proofs.Ytdaiohcgdpclnaa.Q Go.Proofs.Ytdaiohcgdpclnaa.M Go.Proofs.Ytdaiohcgdpclnaa.B Go.Proofs.Ytdaiohcgdpclnaa.LrA
theorem FnExactRootlessRoots : laws_FnExactRootlessRoots.Pure := by
  intro a0 a1 h0 h1
  refine Ev.rounds ?_
  unfold laws_FnExactRootlessRoots.f
  refine Ev.bind (spec_rts a0 a1) ?_
  exact Ev.bind (impl_rts a0 a1) (Ev.pos rfl (Ev.now _))
end Go.Proofs.Ytdaiohcgdpclnaa.Pure
