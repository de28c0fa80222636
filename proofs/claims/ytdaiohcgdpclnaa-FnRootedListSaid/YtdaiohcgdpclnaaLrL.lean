import Derived.Test.YtdaiohcgdpclnaaLrJ2
import Derived.Test.YtdaiohcgdpclnaaQ4
import Derived.Test.YtdaiohcgdpclnaaQ9
/- Both sides' lists of rooted maps. -/
namespace Go.Proofs.Ytdaiohcgdpclnaa.LrA
set_option linter.unusedVariables false
open Go.RowKit Go.Proofs.YtdaiohcgdpclnaaW.PrintWords Go.Proofs.YtdaiohcgdpclnaaW.PrintMore Go.Proofs.Ytdaiohcgdpclnaa.Q Go.Proofs.Ytdaiohcgdpclnaa.M Go.Proofs.Ytdaiohcgdpclnaa.B

def rlR (e g : Int) : List S33 × Bool := if 1 ≤ e ∧ e ≤ 2 ∧ 0 ≤ g then (lst e g, true) else ([], false)
theorem impl_rl (e g : Int) : impl_RootedList.f e g = some (rlR e g) := by
  unfold impl_RootedList.f rlR
  by_cases c0 : e < 1
  · rw [if_pos c0, if_neg (by omega)]
  rw [if_neg c0]
  by_cases c1 : e > 2
  · rw [if_pos c1, if_neg (by omega)]
  rw [if_neg c1]
  by_cases c2 : g < 0
  · rw [if_pos c2, if_neg (by omega)]
  rw [if_neg c2, if_pos (by omega), impl_all e g (by omega) (by omega)]
  rfl
theorem spec_rl (e g : Int) : Ev (fun k => spec_RootedList.f k e g) (rlR e g) := by
  unfold spec_RootedList.f spec_l6In.f rlR
  by_cases c0 : e < 1
  · rw [if_neg (show ¬ e ≥ 1 by omega), if_neg (show ¬ (1 ≤ e ∧ e ≤ 2 ∧ 0 ≤ g) by omega)]
    exact Ev.bindc rfl (Ev.neg Bool.false_ne_true (Ev.now _))
  rw [if_pos (show e ≥ 1 by omega)]
  by_cases c1 : e > 2
  · rw [if_neg (show ¬ (1 ≤ e ∧ e ≤ 2 ∧ 0 ≤ g) by omega)]
    exact Ev.bindc rfl (Ev.neg (by simp; omega) (Ev.now _))
  refine Ev.bindc rfl (Ev.pos (by simp; omega) ?_)
  by_cases c2 : g < 0
  · rw [if_neg (show ¬ (1 ≤ e ∧ e ≤ 2 ∧ 0 ≤ g) by omega)]
    exact Ev.pos c2 (Ev.now _)
  rw [if_pos (show 1 ≤ e ∧ e ≤ 2 ∧ 0 ≤ g by omega)]
  refine Ev.neg c2 ?_
  exact Ev.bind (spec_all e g (by omega) (by omega)) (Ev.now _)
end Go.Proofs.Ytdaiohcgdpclnaa.LrA
