/- The program's conjugate partition is the reference's, for every list of numbers. -/
import Derived.Test.YtiljbffgcajapaaL1
import Derived.Test.YtiljbffgcajapaaLmark
import Derived.Test.YtiljbffgcajapaaLpv
import Derived.Test.YtiljbffgcajapaaQ45
namespace Go.Proofs.Ytiljbffgcajapaa.Pure
set_option linter.unusedVariables false
set_option linter.unusedSimpArgs false
open Go.RowKit Go.Proofs.Ytiljbffgcajapaa.Q Go.Proofs.YtiljbffgcajapaaW.PrintWords Go.Proofs.YtiljbffgcajapaaW.PrintLast Go.Proofs.Ytiljbffgcajapaa.M Go.Proofs.Ytiljbffgcajapaa.B Go.Proofs.Ytiljbffgcajapaa.L1 Go.Proofs.Ytiljbffgcajapaa.Lmark Go.Proofs.Ytiljbffgcajapaa.Lpv

/-- where both come to one answer, the law holds -/
theorem FnExactPartsConj_of (l r : List Int) (b : Bool) (hl : l.length ≤ 1048576) (hr : r.length ≤ 1000000) (hs : Ev (fun k => spec_PartsConj.f k l) (r, b)) (hi : Ev (fun k => impl_PartsConj.f k l) (r, b)) : Ev (fun k => laws_FnExactPartsConj.f k l) true := by
  have h0 : l.length ≤ 35184372088832 := by omega
  have h1 : r.length ≤ 35184372088832 := by omega
  unfold laws_FnExactPartsConj.f
  refine Ev.neg (by omega) ?_
  refine Ev.bind (toIntS l h0) ?_
  refine Ev.bind hs ?_
  refine Ev.bind (toIntS l h0) ?_
  refine Ev.bind hi ?_
  refine Ev.bind (eqIntS_self r h1) ?_
  refine Ev.pos rfl ?_
  refine Ev.step (fun k => by simp only [laws_FnExactPartsConj.j0]; rw [if_neg (by simp)]) ?_
  refine Ev.bind (toIntS l h0) ?_
  refine Ev.bind (eqIntS_self l h0) ?_
  refine Ev.pos rfl ?_
  refine Ev.bind (markIntS l 1 (by omega) (by omega) (by omega)) ?_
  refine Ev.neg (by show ¬ ((1 : Int) + l.length < 0); omega) ?_
  refine Ev.bind (eqIntS_self r h1) ?_
  refine Ev.pos rfl ?_
  refine Ev.step (fun k => by simp only [laws_FnExactPartsConj.j1]; rw [if_neg (by simp)]) ?_
  refine Ev.bind (markIntS r 1 (by omega) (by omega) (by omega)) ?_
  refine Ev.bind (heldIntS r.length 1 (by omega) (by omega) (by omega)) ?_
  refine Ev.neg (by omega) ?_
  refine Ev.pos rfl ?_
  refine Ev.bind (toIntS l h0) ?_
  refine Ev.bind hi ?_
  refine Ev.bind (eqIntS_self r h1) ?_
  refine Ev.pos rfl ?_
  refine Ev.step (fun k => by simp only [laws_FnExactPartsConj.j2]; rw [if_neg (by simp)]) ?_
  refine Ev.bind (heldIntS r.length 1 (by omega) (by omega) (by omega)) ?_
  refine Ev.neg (by omega) ?_
  exact Ev.pos rfl (Ev.now _)

theorem FnExactPartsConj_spec_no (l : List Int) (hl : l.length ≤ 1048576) (hp : pvB l = false) : Ev (fun k => spec_PartsConj.f k l) ([], false) := by
  have hv : Ev (fun k => spec_PartsValid.f k l) false := Ev.same (spec_pv l (by omega)) hp
  unfold spec_PartsConj.f
  refine Ev.bind hv ?_
  exact Ev.neg (by simp) (Ev.now _)
theorem FnExactPartsConj_impl_no (l : List Int) (hl : l.length ≤ 1048576) (hp : pvB l = false) : Ev (fun k => impl_PartsConj.f k l) ([], false) := by
  have hv : Ev (fun k => impl_PartsValid.f k l) false := Ev.same (impl_pv l (by omega)) hp
  unfold impl_PartsConj.f
  refine Ev.bind hv ?_
  exact Ev.neg (by simp) (Ev.now _)

theorem FnExactPartsConj_valid : pts.all (fun l => laws_FnExactPartsConj.f 80 l == some true) = true := by decide +kernel
theorem FnExactPartsConj : laws_FnExactPartsConj.Pure := by
  intro l h1 h2 h3
  refine Ev.rounds ?_
  by_cases hb : (l.length : Int) > 1048576
  · unfold laws_FnExactPartsConj.f
    exact Ev.pos hb (Ev.now _)
  cases hp : pvB l with
  | true => exact Ev.of (laws_FnExactPartsConj.mono l) (by simpa using pv_cases (fun l => laws_FnExactPartsConj.f 80 l == some true) FnExactPartsConj_valid l hp)
  | false => exact FnExactPartsConj_of l [] false (by omega) (by simp) (FnExactPartsConj_spec_no l (by omega) hp) (FnExactPartsConj_impl_no l (by omega) hp)
end Go.Proofs.Ytiljbffgcajapaa.Pure
