/- The program's genus of a gluing is the reference's, for every list of numbers. -/
import Derived.Test.YtgcoeahglkpmpaaL1
import Derived.Test.YtgcoeahglkpmpaaLcorn
import Derived.Test.YtgcoeahglkpmpaaQ16
import Derived.Test.YtgcoeahglkpmpaaQ17
import Derived.Test.YtgcoeahglkpmpaaQ22
import Derived.Test.YtgcoeahglkpmpaaQ23
namespace Go.Proofs.Ytgcoeahglkpmpaa.Pure
set_option linter.unusedVariables false
set_option linter.unusedSimpArgs false
open Go.RowKit Go.Proofs.Ytgcoeahglkpmpaa.Q Go.Proofs.YtgcoeahglkpmpaaW.PrintWords Go.Proofs.YtgcoeahglkpmpaaW.PrintLast Go.Proofs.Ytgcoeahglkpmpaa.M Go.Proofs.Ytgcoeahglkpmpaa.B Go.Proofs.Ytgcoeahglkpmpaa.L1 Go.Proofs.Ytgcoeahglkpmpaa.Lgv Go.Proofs.Ytgcoeahglkpmpaa.Lcyc Go.Proofs.Ytgcoeahglkpmpaa.Lcorn

/-- where both come to one answer, the law holds -/
theorem FnExactGluingGenus_of (l : List Int) (r : Int) (hl : l.length ≤ 1048576) (hs : Ev (fun k => spec_GluingGenus.f k l) r) (hi : Ev (fun k => impl_GluingGenus.f k l) r) : Ev (fun k => laws_FnExactGluingGenus.f k l) true := by
  have h0 : l.length ≤ 35184372088832 := by omega
  unfold laws_FnExactGluingGenus.f
  refine Ev.neg (by omega) ?_
  refine Ev.bind (toIntS l h0) ?_
  refine Ev.bind hs ?_
  refine Ev.bind (toIntS l h0) ?_
  refine Ev.bind hi ?_
  refine Ev.pos rfl ?_
  refine Ev.bind (toIntS l h0) ?_
  refine Ev.bind (eqIntS_self l h0) ?_
  exact Ev.pos rfl (Ev.now _)

theorem corners_spec (l : List Int) (hl : l.length ≤ 1048576) : Ev (fun k => spec_GluingCorners.f k l) (if gvB l then ((cycles (corn l)).length : Int) else -1) := by
  unfold spec_GluingCorners.f
  refine Ev.bind (spec_gv l (by omega)) ?_
  cases h : gvB l with
  | false => exact Ev.neg (by simp) (Ev.now _)
  | true =>
    have hg := gv_nn l h
    refine Ev.pos rfl ?_
    refine Ev.bind (spec_corn l hg.1 hg.2.1) ?_
    refine Ev.bind (spec_cycles (corn l) (corn_into l) (by rw [corn_len]; exact hg.2.1)) ?_
    exact Ev.now _

def genusR (l : List Int) : Int := wrap64 (Int.tdiv (wrap64 (wrap64 (wrap64 ((l.length : Int) / 2) + 1) - ((cycles (corn l)).length : Int))) 2)
theorem genus_spec (l : List Int) (hl : l.length ≤ 1048576) : Ev (fun k => spec_GluingGenus.f k l) (if gvB l then genusR l else -1) := by
  unfold spec_GluingGenus.f
  refine Ev.bind (spec_gv l (by omega)) ?_
  have hc := corners_spec l hl
  cases h : gvB l with
  | false => exact Ev.neg (by simp) (Ev.now _)
  | true =>
    rw [h, if_pos rfl] at hc
    rw [if_pos rfl]
    refine Ev.pos rfl ?_
    refine Ev.bind hc ?_
    unfold genusR
    exact Ev.now _
theorem genus_impl (l : List Int) (hl : l.length ≤ 1048576) : Ev (fun k => impl_GluingGenus.f k l) (if gvB l then genusR l else -1) := by
  unfold impl_GluingGenus.f
  refine Ev.bind (impl_gv l (by omega)) ?_
  cases h : gvB l with
  | false => exact Ev.neg (by simp) (Ev.now _)
  | true =>
    have hg := gv_nn l h
    rw [if_pos rfl]
    refine Ev.pos rfl ?_
    refine Ev.bind (a := genusR l) ?_ (Ev.now _)
    unfold impl_gluedGenus.f genusR
    refine Ev.bind (impl_corn l hg.1 hg.2.1) ?_
    refine Ev.bind (impl_cycles (corn l) (corn_into l) (by rw [corn_len]; exact hg.2.1)) ?_
    exact Ev.now _
theorem FnExactGluingGenus : laws_FnExactGluingGenus.Pure := by
  intro l h1 h2 h3
  refine Ev.rounds ?_
  by_cases hb : (l.length : Int) > 1048576
  · unfold laws_FnExactGluingGenus.f
    exact Ev.pos hb (Ev.now _)
  exact FnExactGluingGenus_of l _ (by omega) (genus_spec l (by omega)) (genus_impl l (by omega))
end Go.Proofs.Ytgcoeahglkpmpaa.Pure
