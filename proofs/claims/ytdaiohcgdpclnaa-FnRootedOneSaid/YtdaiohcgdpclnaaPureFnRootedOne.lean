import Derived.Test.YtdaiohcgdpclnaaLrO
import Derived.Test.YtdaiohcgdpclnaaLrD
import Derived.Test.YtdaiohcgdpclnaaQ17
/- Rooted maps with one face are counted by their recursion: the law, for every code. -/
namespace Go.Proofs.Ytdaiohcgdpclnaa.Pure
set_option linter.unusedVariables false
open Go.RowKit Go.Proofs.YtdaiohcgdpclnaaW.PrintWords Go.Proofs.YtdaiohcgdpclnaaW.PrintMore Go.Proofs.Ytdaiohcgdpclnaa.Q Go.Proofs.Ytdaiohcgdpclnaa.M Go.Proofs.Ytdaiohcgdpclnaa.B Go.Proofs.Ytdaiohcgdpclnaa.LrA
set_option maxRecDepth 100000
theorem rest_all : (List.range 3).all (fun i => (List.range 3).all (fun j => laws_FnRootedOne.j0 300 ((i : Int) + 1) (j : Int) (one1 (lst ((i : Int) + 1) (j : Int))) (one1 (lst ((i : Int) + 1) (j : Int))) (decide (one1 (lst ((i : Int) + 1) (j : Int)) < 0)) == some true)) = true := by decide +kernel
theorem FnRootedOne : laws_FnRootedOne.Pure := by
  intro l h1 h2 h3
  refine Ev.rounds ?_
  unfold laws_FnRootedOne.f
  by_cases hb : (l.length : Int) > 1048576
  · exact Ev.pos hb (Ev.now _)
  refine Ev.neg hb ?_
  have hd : EvP (fun k => spec_DrawRootedOne.f k l) (fun r => (-1 ≤ r.1 ∧ r.1 ≤ 4) ∧ -1 ≤ r.2 ∧ r.2 ≤ 2) := by
    unfold spec_DrawRootedOne.f
    exact EvP.bind (draw_p l h3) (fun r h => EvP.now h)
  refine Ev.bindp hd ?_
  rintro ⟨e, g⟩ ⟨⟨e0, e1⟩, g0, g1⟩
  simp only at e0 e1 g0 g1
  refine Ev.bind (impl_one e g) ?_
  refine Ev.bind (spec_one e g) ?_
  refine Ev.pos rfl ?_
  have hneg : vOne e g = -1 → Ev (fun k => laws_FnRootedOne.j0 k e g (vOne e g) (vOne e g) (decide (vOne e g < 0))) true := by
    intro h
    rw [h]
    exact Ev.ret (fun k => rfl)
  by_cases c0 : e < 1
  · exact hneg (by unfold vOne; rw [if_pos c0])
  by_cases c1 : e > 3
  · exact hneg (by unfold vOne; rw [if_neg c0, if_pos c1])
  by_cases c2 : g < 0
  · exact hneg (by unfold vOne; rw [if_neg c0, if_neg c1, if_pos c2])
  have hv : vOne e g = one1 (lst e g) := by unfold vOne; rw [if_neg c0, if_neg c1, if_neg c2]
  rw [hv]
  have := all_ints2 3 3 (fun x y => laws_FnRootedOne.j0 300 (x + 1) y (one1 (lst (x + 1) y)) (one1 (lst (x + 1) y)) (decide (one1 (lst (x + 1) y) < 0)) == some true) rest_all (e - 1) g (by omega) (by omega) (by omega) (by omega)
  simp only [Int.sub_add_cancel, beq_iff_eq] at this
  exact Ev.of (fun k => laws_FnRootedOne.mono_l k e g _ _ _) this
end Go.Proofs.Ytdaiohcgdpclnaa.Pure
