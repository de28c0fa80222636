import Derived.Test.YtonlecigglbohaaL1
import Derived.Test.YtonlecigglbohaaLmark
import Derived.Test.YtonlecigglbohaaQ5
/- Maps of two rows: told alike, marked, and found marked. -/
namespace Go.Proofs.Ytonlecigglbohaa.Lmap
set_option linter.unusedVariables false
set_option linter.unusedSimpArgs false
open Go.RowKit Go.Proofs.YtonlecigglbohaaW.PrintWords Go.Proofs.YtonlecigglbohaaW.PrintMore Go.Proofs.Ytonlecigglbohaa.Q Go.Proofs.Ytonlecigglbohaa.M Go.Proofs.Ytonlecigglbohaa.B Go.Proofs.Ytonlecigglbohaa.L1 Go.Proofs.Ytonlecigglbohaa.Lmark

theorem eqMap_self (a b : List Int) (ha : a.length ≤ 35184372088832) (hb : b.length ≤ 35184372088832) : Ev (fun k => laws_eqMap.f k a b a b) true := by
  unfold laws_eqMap.f
  refine Ev.bind (eqIntS_self a ha) ?_
  refine Ev.pos rfl ?_
  refine Ev.bind (eqIntS_self b hb) ?_
  exact Ev.pos rfl (Ev.now _)
theorem markMap (a b : List Int) (m0 : Int) (ha : a.length ≤ 1000000000) (hb : b.length ≤ 1000000000) (h0 : 0 ≤ m0) (h1 : m0 ≤ 1000000000) :
    Ev (fun k => laws_markMap.f k a b m0) (m0 + a.length + b.length, marks m0 a.length, marks (m0 + a.length) b.length) := by
  unfold laws_markMap.f
  refine Ev.bind (markIntS a m0 ha h0 (by omega)) ?_
  refine Ev.bind (markIntS b (m0 + a.length) hb (by omega) (by omega)) ?_
  exact Ev.now _
end Go.Proofs.Ytonlecigglbohaa.Lmap
