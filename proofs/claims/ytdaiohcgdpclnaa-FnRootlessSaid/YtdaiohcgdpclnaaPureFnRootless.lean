import Derived.Test.YtdaiohcgdpclnaaLrR
import Derived.Test.YtdaiohcgdpclnaaLrD
import Derived.Test.YtdaiohcgdpclnaaQ14
import Derived.Test.YtdaiohcgdpclnaaQ8
/- Maps without a root, beside those with one: the law, for every code. -/
namespace Go.Proofs.Ytdaiohcgdpclnaa.Pure
set_option linter.unusedVariables false
open Go.RowKit Go.Proofs.YtdaiohcgdpclnaaW.PrintWords Go.Proofs.YtdaiohcgdpclnaaW.PrintMore Go.Proofs.Ytdaiohcgdpclnaa.Q Go.Proofs.Ytdaiohcgdpclnaa.M Go.Proofs.Ytdaiohcgdpclnaa.B Go.Proofs.Ytdaiohcgdpclnaa.LrA
set_option maxRecDepth 100000
theorem impl_cnt (a0 a1 : Int) : impl_RootedCount.f a0 a1 = some (if a0 < 1 then -1 else if a0 > 3 then -1 else if a1 < 0 then -1 else ((lst a0 a1).length : Int)) := by
  unfold impl_RootedCount.f
  by_cases c0 : a0 < 1
  · rw [if_pos c0, if_pos c0]
  rw [if_neg c0, if_neg c0]
  by_cases c1 : a0 > 3
  · rw [if_pos c1, if_pos c1]
  rw [if_neg c1, if_neg c1]
  by_cases c2 : a1 < 0
  · rw [if_pos c2, if_pos c2]
  rw [if_neg c2, if_neg c2, impl_all a0 a1 (by omega) (by omega)]; rfl
def vDif (a0 a1 : Int) : Int := if a0 < 1 then -1 else if a0 > 3 then -1 else if a1 < 0 then -1 else ((dif (lst a0 a1)).length : Int)
theorem spec_less (a0 a1 : Int) : Ev (fun k => spec_RootlessCount.f k a0 a1) (vDif a0 a1) := by
  unfold spec_RootlessCount.f spec_l6In.f vDif
  by_cases c0 : a0 < 1
  · rw [if_pos c0, if_neg (by omega)]
    exact Ev.bindc rfl (Ev.neg Bool.false_ne_true (Ev.now _))
  rw [if_neg c0, if_pos (by omega)]
  by_cases c1 : a0 > 3
  · rw [if_pos c1]
    exact Ev.bindc rfl (Ev.neg (by simp; omega) (Ev.now _))
  rw [if_neg c1]
  refine Ev.bindc rfl (Ev.pos (by simp; omega) ?_)
  by_cases c2 : a1 < 0
  · rw [if_pos c2]; exact Ev.pos c2 (Ev.now _)
  rw [if_neg c2]
  refine Ev.neg c2 ?_
  exact Ev.bind (spec_dif a0 a1 (by omega) (by omega)) (Ev.now _)
theorem impl_less (a0 a1 : Int) : Ev (fun k => impl_RootlessCount.f k a0 a1) (vDif a0 a1) := by
  unfold impl_RootlessCount.f vDif
  refine Ev.bindc (impl_cnt a0 a1) ?_
  by_cases c0 : a0 < 1
  · rw [if_pos c0, if_pos c0]; exact Ev.pos (by decide) (Ev.now _)
  rw [if_neg c0, if_neg c0]
  by_cases c1 : a0 > 3
  · rw [if_pos c1, if_pos c1]; exact Ev.pos (by decide) (Ev.now _)
  rw [if_neg c1, if_neg c1]
  by_cases c2 : a1 < 0
  · rw [if_pos c2, if_pos c2]; exact Ev.pos (by decide) (Ev.now _)
  rw [if_neg c2, if_neg c2]
  refine Ev.neg (by omega) ?_
  exact Ev.bind (impl_dif a0 a1 (by omega) (by omega)) (Ev.now _)
/-- the law behind the draw and the counts -/
def lessRest (e g v c : Int) : Option Bool := if v ≤ c then (if (wrap64 ((wrap64 (2 * e)) * v)) ≥ c then (some ((v == 0) == (c == 0))) else (some false)) else (some false)
theorem rest_all : (List.range 3).all (fun i => (List.range 3).all (fun j => lessRest ((i : Int) + 1) (j : Int) ((dif (lst ((i : Int) + 1) (j : Int))).length : Int) ((lst ((i : Int) + 1) (j : Int)).length : Int) == some true)) = true := by decide +kernel
theorem FnRootless : laws_FnRootless.Pure := by
  intro l h1 h2 h3
  refine Ev.rounds ?_
  unfold laws_FnRootless.f
  by_cases hb : (l.length : Int) > 1048576
  · exact Ev.pos hb (Ev.now _)
  refine Ev.neg hb ?_
  have hd : EvP (fun k => spec_DrawRootlessCount.f k l) (fun r => (-1 ≤ r.1 ∧ r.1 ≤ 4) ∧ -1 ≤ r.2 ∧ r.2 ≤ 2) := by
    unfold spec_DrawRootlessCount.f
    exact EvP.bind (draw_p l h3) (fun r h => EvP.now h)
  refine Ev.bindp hd ?_
  rintro ⟨e, g⟩ ⟨⟨e0, e1⟩, g0, g1⟩
  simp only at e0 e1 g0 g1
  refine Ev.bind (impl_less e g) ?_
  refine Ev.bind (spec_less e g) ?_
  refine Ev.pos rfl ?_
  by_cases cn : vDif e g < 0
  · refine Ev.pos cn ?_
    rw [beq_self_eq_true]
    exact Ev.now _
  refine Ev.neg cn ?_
  have c0 : ¬ e < 1 := fun c => cn (by unfold vDif; rw [if_pos c]; decide)
  have c1 : ¬ e > 3 := fun c => cn (by unfold vDif; rw [if_neg c0, if_pos c]; decide)
  have c2 : ¬ g < 0 := fun c => cn (by unfold vDif; rw [if_neg c0, if_neg c1, if_pos c]; decide)
  have hv : vDif e g = ((dif (lst e g)).length : Int) := by unfold vDif; rw [if_neg c0, if_neg c1, if_neg c2]
  have hc : impl_RootedCount.f e g = some ((lst e g).length : Int) := by rw [impl_cnt, if_neg c0, if_neg c1, if_neg c2]
  have := all_ints2 3 3 (fun x y => lessRest (x + 1) y ((dif (lst (x + 1) y)).length : Int) ((lst (x + 1) y).length : Int) == some true) rest_all (e - 1) g (by omega) (by omega) (by omega) (by omega)
  simp only [Int.sub_add_cancel, beq_iff_eq] at this
  rw [← hv] at this
  refine Ev.bindc hc ?_
  show Ev (fun _ => lessRest e g (vDif e g) ((lst e g).length : Int)) true
  rw [this]
  exact Ev.now _
end Go.Proofs.Ytdaiohcgdpclnaa.Pure
