/- The program's turned gluing is the reference's, for every list of numbers. -/
import Derived.Test.YtiljbffgcajapaaL1
import Derived.Test.YtiljbffgcajapaaLmark
import Derived.Test.YtiljbffgcajapaaLturn
import Derived.Test.YtiljbffgcajapaaQ32
namespace Go.Proofs.Ytiljbffgcajapaa.Pure
set_option linter.unusedVariables false
set_option linter.unusedSimpArgs false
open Go.RowKit Go.Proofs.Ytiljbffgcajapaa.Q Go.Proofs.YtiljbffgcajapaaW.PrintWords Go.Proofs.YtiljbffgcajapaaW.PrintLast Go.Proofs.Ytiljbffgcajapaa.M Go.Proofs.Ytiljbffgcajapaa.B Go.Proofs.Ytiljbffgcajapaa.L1 Go.Proofs.Ytiljbffgcajapaa.Lmark Go.Proofs.Ytiljbffgcajapaa.Lgv Go.Proofs.Ytiljbffgcajapaa.Lturn

/-- where both come to one answer, the law holds -/
theorem FnExactGluingTurn_of (l r : List Int) (b : Bool) (hl : l.length ≤ 1048576) (hr : r.length ≤ 1000000) (hs : Ev (fun k => spec_GluingTurn.f k l) (r, b)) (hi : Ev (fun k => impl_GluingTurn.f k l) (r, b)) : Ev (fun k => laws_FnExactGluingTurn.f k l) true := by
  have h0 : l.length ≤ 35184372088832 := by omega
  have h1 : r.length ≤ 35184372088832 := by omega
  unfold laws_FnExactGluingTurn.f
  refine Ev.neg (by omega) ?_
  refine Ev.bind (toIntS l h0) ?_
  refine Ev.bind hs ?_
  refine Ev.bind (toIntS l h0) ?_
  refine Ev.bind hi ?_
  refine Ev.bind (eqIntS_self r h1) ?_
  refine Ev.pos rfl ?_
  refine Ev.step (fun k => by simp only [laws_FnExactGluingTurn.j0]; rw [if_neg (by simp)]) ?_
  refine Ev.bind (toIntS l h0) ?_
  refine Ev.bind (eqIntS_self l h0) ?_
  refine Ev.pos rfl ?_
  refine Ev.bind (markIntS l 1 (by omega) (by omega) (by omega)) ?_
  refine Ev.neg (by show ¬ ((1 : Int) + l.length < 0); omega) ?_
  refine Ev.bind (eqIntS_self r h1) ?_
  refine Ev.pos rfl ?_
  refine Ev.step (fun k => by simp only [laws_FnExactGluingTurn.j1]; rw [if_neg (by simp)]) ?_
  refine Ev.bind (markIntS r 1 (by omega) (by omega) (by omega)) ?_
  refine Ev.bind (heldIntS r.length 1 (by omega) (by omega) (by omega)) ?_
  refine Ev.neg (by omega) ?_
  refine Ev.pos rfl ?_
  refine Ev.bind (toIntS l h0) ?_
  refine Ev.bind hi ?_
  refine Ev.bind (eqIntS_self r h1) ?_
  refine Ev.pos rfl ?_
  refine Ev.step (fun k => by simp only [laws_FnExactGluingTurn.j2]; rw [if_neg (by simp)]) ?_
  refine Ev.bind (heldIntS r.length 1 (by omega) (by omega) (by omega)) ?_
  refine Ev.neg (by omega) ?_
  exact Ev.pos rfl (Ev.now _)

theorem FnExactGluingTurn : laws_FnExactGluingTurn.Pure := by
  intro l h1 h2 h3
  refine Ev.rounds ?_
  by_cases hb : (l.length : Int) > 1048576
  · unfold laws_FnExactGluingTurn.f
    exact Ev.pos hb (Ev.now _)
  have hl : (turnR l).1.length ≤ 1000000 := by
    unfold turnR
    cases h : gvB l with
    | false => simp
    | true => have := gvB_iff l |>.1 h; simp [turned_len]; omega
  exact FnExactGluingTurn_of l (turnR l).1 (turnR l).2 (by omega) hl (spec_turn l (by omega)) (impl_turn l (by omega))
end Go.Proofs.Ytiljbffgcajapaa.Pure
