import Derived.Test.YtdaiohcgdpclnaaLrM
import Derived.Test.YtdaiohcgdpclnaaLrD
import Derived.Test.YtdaiohcgdpclnaaQ12
/- Roots are darts that are not turned into each other: the law, for every code. -/
namespace Go.Proofs.Ytdaiohcgdpclnaa.Pure
set_option linter.unusedVariables false
open Go.RowKit Go.Proofs.YtdaiohcgdpclnaaW.PrintWords Go.Proofs.YtdaiohcgdpclnaaW.PrintMore Go.Proofs.Ytdaiohcgdpclnaa.Q Go.Proofs.Ytdaiohcgdpclnaa.M Go.Proofs.Ytdaiohcgdpclnaa.B Go.Proofs.Ytdaiohcgdpclnaa.LrA
set_option maxRecDepth 100000
theorem roots_all : (List.range 3).all (fun i => (List.range 3).all (fun j => rts ((i : Int) + 1) (dif (lst ((i : Int) + 1) (j : Int))) == ((lst ((i : Int) + 1) (j : Int)).length : Int))) = true := by decide +kernel
theorem FnRoots : laws_FnRoots.Pure := by
  intro l h1 h2 h3
  refine Ev.rounds ?_
  unfold laws_FnRoots.f
  by_cases hb : (l.length : Int) > 1048576
  · exact Ev.pos hb (Ev.now _)
  refine Ev.neg hb ?_
  have hd : EvP (fun k => spec_DrawRootlessRoots.f k l) (fun r => (-1 ≤ r.1 ∧ r.1 ≤ 4) ∧ -1 ≤ r.2 ∧ r.2 ≤ 2) := by
    unfold spec_DrawRootlessRoots.f
    exact EvP.bind (draw_p l h3) (fun r h => EvP.now h)
  refine Ev.bindp hd ?_
  rintro ⟨e, g⟩ ⟨⟨e0, e1⟩, g0, g1⟩
  simp only at e0 e1 g0 g1
  refine Ev.bind (impl_rts e g) (Ev.bind (spec_rts e g) (Ev.pos rfl ?_))
  by_cases hn : vM e g < 0
  · exact Ev.pos hn (Ev.same (Ev.now _) (by simp))
  refine Ev.neg hn (Ev.bindc (impl_cnt e g) (Ev.same (Ev.now _) ?_))
  have c0 : ¬ e < 1 := fun c => hn (by unfold vM; rw [if_pos c]; omega)
  have c1 : ¬ e > 3 := fun c => hn (by unfold vM; rw [if_neg c0, if_pos c]; omega)
  have c2 : ¬ g < 0 := fun c => hn (by unfold vM; rw [if_neg c0, if_neg c1, if_pos c]; omega)
  have hv : vM e g = rts e (dif (lst e g)) := by unfold vM; rw [if_neg c0, if_neg c1, if_neg c2]
  rw [hv, if_neg c0, if_neg c1, if_neg c2]
  have h := all_ints2 3 3 (fun i j => rts (i + 1) (dif (lst (i + 1) j)) == ((lst (i + 1) j).length : Int)) roots_all (e - 1) g (by omega) (by omega) (by omega) (by omega)
  simp only [show e - 1 + 1 = e by omega] at h
  exact h
end Go.Proofs.Ytdaiohcgdpclnaa.Pure
