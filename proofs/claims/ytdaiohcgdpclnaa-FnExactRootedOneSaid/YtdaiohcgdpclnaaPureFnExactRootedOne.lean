import Derived.Test.YtdaiohcgdpclnaaLrO
import Derived.Test.YtdaiohcgdpclnaaQ15
/- Rooted maps with one face are counted alike: the law. -/
namespace Go.Proofs.Ytdaiohcgdpclnaa.Pure
open Go.RowKit Go.Proofs.YtdaiohcgdpclnaaW.PrintWords Go.Proofs.YtdaiohcgdpclnaaW.PrintMore Go.Proofs.Ytdaiohcgdpclnaa.Q Go.Proofs.Ytdaiohcgdpclnaa.M Go.Proofs.Ytdaiohcgdpclnaa.B Go.Proofs.Ytdaiohcgdpclnaa.LrA
theorem FnExactRootedOne : laws_FnExactRootedOne.Pure := by
  intro a0 a1 h0 h1
  refine Ev.rounds ?_
  unfold laws_FnExactRootedOne.f
  refine Ev.bind (spec_one a0 a1) ?_
  exact Ev.bind (impl_one a0 a1) (Ev.pos rfl (Ev.now _))
end Go.Proofs.Ytdaiohcgdpclnaa.Pure
