/- The program's number of corners is the reference's, for every list of numbers. -/
import Derived.Test.YtiljbffgcajapaaL1
import Derived.Test.YtiljbffgcajapaaLcorn
import Derived.Test.YtiljbffgcajapaaQ48
import Derived.Test.YtiljbffgcajapaaQ51
import Derived.Test.YtiljbffgcajapaaQ52
namespace Go.Proofs.Ytiljbffgcajapaa.Pure
set_option linter.unusedVariables false
set_option linter.unusedSimpArgs false
open Go.RowKit Go.Proofs.Ytiljbffgcajapaa.Q Go.Proofs.YtiljbffgcajapaaW.PrintWords Go.Proofs.YtiljbffgcajapaaW.PrintLast Go.Proofs.Ytiljbffgcajapaa.M Go.Proofs.Ytiljbffgcajapaa.B Go.Proofs.Ytiljbffgcajapaa.L1 Go.Proofs.Ytiljbffgcajapaa.Lgv Go.Proofs.Ytiljbffgcajapaa.Lcyc Go.Proofs.Ytiljbffgcajapaa.Lcorn

/-- where both come to one answer, the law holds -/
theorem FnExactGluingCorners_of (l : List Int) (r : Int) (hl : l.length ≤ 1048576) (hs : Ev (fun k => spec_GluingCorners.f k l) r) (hi : Ev (fun k => impl_GluingCorners.f k l) r) : Ev (fun k => laws_FnExactGluingCorners.f k l) true := by
  have h0 : l.length ≤ 35184372088832 := by omega
  unfold laws_FnExactGluingCorners.f
  refine Ev.neg (by omega) ?_
  refine Ev.bind (toIntS l h0) ?_
  refine Ev.bind hs ?_
  refine Ev.bind (toIntS l h0) ?_
  refine Ev.bind hi ?_
  refine Ev.pos rfl ?_
  refine Ev.bind (toIntS l h0) ?_
  refine Ev.bind (eqIntS_self l h0) ?_
  exact Ev.pos rfl (Ev.now _)

theorem corners_spec (l : List Int) (hl : l.length ≤ 1048576) : Ev (fun k => spec_GluingCorners.f k l) (if gvB l then ((cycles (corn l)).length : Int) else -1) := by
  unfold spec_GluingCorners.f
  refine Ev.bind (spec_gv l (by omega)) ?_
  cases h : gvB l with
  | false => exact Ev.neg (by simp) (Ev.now _)
  | true =>
    have hg := gv_nn l h
    refine Ev.pos rfl ?_
    refine Ev.bind (spec_corn l hg.1 hg.2.1) ?_
    refine Ev.bind (spec_cycles (corn l) (corn_into l) (by rw [corn_len]; exact hg.2.1)) ?_
    exact Ev.now _

theorem corners_impl (l : List Int) (hl : l.length ≤ 1048576) : Ev (fun k => impl_GluingCorners.f k l) (if gvB l then ((cycles (corn l)).length : Int) else -1) := by
  unfold impl_GluingCorners.f
  refine Ev.bind (impl_gv l (by omega)) ?_
  cases h : gvB l with
  | false => exact Ev.neg (by simp) (Ev.now _)
  | true =>
    have hg := gv_nn l h
    refine Ev.pos rfl ?_
    refine Ev.bind (impl_corn l hg.1 hg.2.1) ?_
    refine Ev.bind (impl_cycles (corn l) (corn_into l) (by rw [corn_len]; exact hg.2.1)) ?_
    exact Ev.now _
theorem FnExactGluingCorners : laws_FnExactGluingCorners.Pure := by
  intro l h1 h2 h3
  refine Ev.rounds ?_
  by_cases hb : (l.length : Int) > 1048576
  · unfold laws_FnExactGluingCorners.f
    exact Ev.pos hb (Ev.now _)
  exact FnExactGluingCorners_of l _ (by omega) (corners_spec l (by omega)) (corners_impl l (by omega))
end Go.Proofs.Ytiljbffgcajapaa.Pure
