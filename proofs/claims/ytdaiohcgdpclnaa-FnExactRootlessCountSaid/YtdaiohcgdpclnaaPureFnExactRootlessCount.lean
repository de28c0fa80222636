import Derived.Test.YtdaiohcgdpclnaaLrR
import Derived.Test.YtdaiohcgdpclnaaQ13
import Derived.Test.YtdaiohcgdpclnaaQ7
/- Maps without a root are counted alike: the law. -/
namespace Go.Proofs.Ytdaiohcgdpclnaa.Pure
set_option linter.unusedVariables false
open Go.RowKit Go.Proofs.YtdaiohcgdpclnaaW.PrintWords Go.Proofs.YtdaiohcgdpclnaaW.PrintMore Go.Proofs.Ytdaiohcgdpclnaa.Q Go.Proofs.Ytdaiohcgdpclnaa.M Go.Proofs.Ytdaiohcgdpclnaa.B Go.Proofs.Ytdaiohcgdpclnaa.LrA
set_option maxRecDepth 100000
theorem impl_cnt (a0 a1 : Int) : impl_RootedCount.f a0 a1 = some (if a0 < 1 then -1 else if a0 > 3 then -1 else if a1 < 0 then -1 else ((lst a0 a1).length : Int)) := by
  unfold impl_RootedCount.f
  by_cases c0 : a0 < 1
  · rw [if_pos c0, if_pos c0]
  rw [if_neg c0, if_neg c0]
  by_cases c1 : a0 > 3
  · rw [if_pos c1, if_pos c1]
  rw [if_neg c1, if_neg c1]
  by_cases c2 : a1 < 0
  · rw [if_pos c2, if_pos c2]
  rw [if_neg c2, if_neg c2, impl_all a0 a1 (by omega) (by omega)]; rfl
def vDif (a0 a1 : Int) : Int := if a0 < 1 then -1 else if a0 > 3 then -1 else if a1 < 0 then -1 else ((dif (lst a0 a1)).length : Int)
theorem spec_less (a0 a1 : Int) : Ev (fun k => spec_RootlessCount.f k a0 a1) (vDif a0 a1) := by
  unfold spec_RootlessCount.f spec_l6In.f vDif
  by_cases c0 : a0 < 1
  · rw [if_pos c0, if_neg (by omega)]
    exact Ev.bindc rfl (Ev.neg Bool.false_ne_true (Ev.now _))
  rw [if_neg c0, if_pos (by omega)]
  by_cases c1 : a0 > 3
  · rw [if_pos c1]
    exact Ev.bindc rfl (Ev.neg (by simp; omega) (Ev.now _))
  rw [if_neg c1]
  refine Ev.bindc rfl (Ev.pos (by simp; omega) ?_)
  by_cases c2 : a1 < 0
  · rw [if_pos c2]; exact Ev.pos c2 (Ev.now _)
  rw [if_neg c2]
  refine Ev.neg c2 ?_
  exact Ev.bind (spec_dif a0 a1 (by omega) (by omega)) (Ev.now _)
theorem impl_less (a0 a1 : Int) : Ev (fun k => impl_RootlessCount.f k a0 a1) (vDif a0 a1) := by
  unfold impl_RootlessCount.f vDif
  refine Ev.bindc (impl_cnt a0 a1) ?_
  by_cases c0 : a0 < 1
  · rw [if_pos c0, if_pos c0]; exact Ev.pos (by decide) (Ev.now _)
  rw [if_neg c0, if_neg c0]
  by_cases c1 : a0 > 3
  · rw [if_pos c1, if_pos c1]; exact Ev.pos (by decide) (Ev.now _)
  rw [if_neg c1, if_neg c1]
  by_cases c2 : a1 < 0
  · rw [if_pos c2, if_pos c2]; exact Ev.pos (by decide) (Ev.now _)
  rw [if_neg c2, if_neg c2]
  refine Ev.neg (by omega) ?_
  exact Ev.bind (impl_dif a0 a1 (by omega) (by omega)) (Ev.now _)
theorem FnExactRootlessCount : laws_FnExactRootlessCount.Pure := by
  intro a0 a1 h0 h1
  refine Ev.rounds ?_
  unfold laws_FnExactRootlessCount.f
  refine Ev.bind (spec_less a0 a1) ?_
  exact Ev.bind (impl_less a0 a1) (Ev.pos rfl (Ev.now _))
end Go.Proofs.Ytdaiohcgdpclnaa.Pure
