import Derived.Test.YtdaiohcgdpclnaaLrJ
import Derived.Test.YtdaiohcgdpclnaaLrD
import Derived.Test.YtdaiohcgdpclnaaQ18
/- Rooted maps are counted by their recursion: the law, for every code. -/
namespace Go.Proofs.Ytdaiohcgdpclnaa.Pure
set_option linter.unusedVariables false
open Go.RowKit Go.Proofs.YtdaiohcgdpclnaaW.PrintWords Go.Proofs.YtdaiohcgdpclnaaW.PrintMore Go.Proofs.Ytdaiohcgdpclnaa.Q Go.Proofs.Ytdaiohcgdpclnaa.M Go.Proofs.Ytdaiohcgdpclnaa.B Go.Proofs.Ytdaiohcgdpclnaa.LrA
set_option maxRecDepth 100000
theorem spec_cnt (a0 a1 : Int) : Ev (fun k => spec_RootedCount.f k a0 a1) (if a0 < 1 then -1 else if a0 > 3 then -1 else if a1 < 0 then -1 else ((lst a0 a1).length : Int)) := by
  unfold spec_RootedCount.f spec_l6In.f
  by_cases c0 : a0 < 1
  · rw [if_pos c0, if_neg (by omega)]
    exact Ev.bindc rfl (Ev.neg Bool.false_ne_true (Ev.now _))
  rw [if_neg c0, if_pos (by omega)]
  by_cases c1 : a0 > 3
  · rw [if_pos c1]
    exact Ev.bindc rfl (Ev.neg (by simp; omega) (Ev.now _))
  rw [if_neg c1]
  refine Ev.bindc rfl (Ev.pos (by simp; omega) ?_)
  by_cases c2 : a1 < 0
  · rw [if_pos c2]; exact Ev.pos c2 (Ev.now _)
  rw [if_neg c2]
  refine Ev.neg c2 ?_
  exact Ev.bind (spec_all a0 a1 (by omega) (by omega)) (Ev.now _)
theorem impl_cnt (a0 a1 : Int) : impl_RootedCount.f a0 a1 = some (if a0 < 1 then -1 else if a0 > 3 then -1 else if a1 < 0 then -1 else ((lst a0 a1).length : Int)) := by
  unfold impl_RootedCount.f
  by_cases c0 : a0 < 1
  · rw [if_pos c0, if_pos c0]
  rw [if_neg c0, if_neg c0]
  by_cases c1 : a0 > 3
  · rw [if_pos c1, if_pos c1]
  rw [if_neg c1, if_neg c1]
  by_cases c2 : a1 < 0
  · rw [if_pos c2, if_pos c2]
  rw [if_neg c2, if_neg c2, impl_all a0 a1 (by omega) (by omega)]; rfl
def vCnt (a0 a1 : Int) : Int := if a0 < 1 then -1 else if a0 > 3 then -1 else if a1 < 0 then -1 else ((lst a0 a1).length : Int)
/-- the law behind the draw and the counts -/
def cntRest (e g v : Int) : Option Bool := (impl_RootedRun.f e g).bind fun t => if t = (-1) then (if (wrap64 (2 * g)) ≤ e then (some true) else (some (v == 0))) else (if t = v then (if (wrap64 (2 * g)) ≤ e then (some true) else (some (v == 0))) else (some false))
theorem rest_all : (List.range 3).all (fun i => (List.range 3).all (fun j => cntRest ((i : Int) + 1) (j : Int) ((lst ((i : Int) + 1) (j : Int)).length : Int) == some true)) = true := by decide +kernel
theorem FnCount : laws_FnCount.Pure := by
  intro l h1 h2 h3
  refine Ev.rounds ?_
  unfold laws_FnCount.f
  by_cases hb : (l.length : Int) > 1048576
  · exact Ev.pos hb (Ev.now _)
  refine Ev.neg hb ?_
  refine Ev.bindp (draw_p l h3) ?_
  rintro ⟨e, g⟩ ⟨⟨e0, e1⟩, g0, g1⟩
  simp only at e0 e1 g0 g1
  refine Ev.bindc (a := vCnt e g) (impl_cnt e g) ?_
  refine Ev.bind (a := vCnt e g) (spec_cnt e g) ?_
  refine Ev.pos rfl ?_
  by_cases cn : vCnt e g < 0
  · refine Ev.pos cn ?_
    rw [beq_self_eq_true]
    exact Ev.now _
  refine Ev.neg cn ?_
  have c0 : ¬ e < 1 := fun c => cn (by unfold vCnt; rw [if_pos c]; decide)
  have c1 : ¬ e > 3 := fun c => cn (by unfold vCnt; rw [if_neg c0, if_pos c]; decide)
  have c2 : ¬ g < 0 := fun c => cn (by unfold vCnt; rw [if_neg c0, if_neg c1, if_pos c]; decide)
  have hv : vCnt e g = ((lst e g).length : Int) := by unfold vCnt; rw [if_neg c0, if_neg c1, if_neg c2]
  have := all_ints2 3 3 (fun x y => cntRest (x + 1) y ((lst (x + 1) y).length : Int) == some true) rest_all (e - 1) g (by omega) (by omega) (by omega) (by omega)
  simp only [Int.sub_add_cancel, beq_iff_eq] at this
  rw [← hv] at this
  show Ev (fun _ => cntRest e g (vCnt e g)) true
  rw [this]
  exact Ev.now _
end Go.Proofs.Ytdaiohcgdpclnaa.Pure
