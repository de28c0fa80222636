import Derived.Test.YtdaiohcgdpclnaaLrL
import Derived.Test.YtdaiohcgdpclnaaQ9
/- Rooted maps are listed alike: the law, for every number of edges and every genus. -/
namespace Go.Proofs.Ytdaiohcgdpclnaa.Pure
set_option linter.unusedVariables false
open Go.RowKit Go.Proofs.YtdaiohcgdpclnaaW.PrintWords Go.Proofs.YtdaiohcgdpclnaaW.PrintMore Go.Proofs.Ytdaiohcgdpclnaa.Q Go.Proofs.Ytdaiohcgdpclnaa.M Go.Proofs.Ytdaiohcgdpclnaa.B Go.Proofs.Ytdaiohcgdpclnaa.LrA

def chk (L : List S33) : Bool := decide (L.length ≤ 1000000) && (laws_eqMapS.f 200 L L == some true) && (match laws_markMapS.all L 1 with
  | some m => (laws_heldMapS.f 200 m.1 1 == some m.2) && decide (0 ≤ m.2)
  | none => false)
theorem chk_ev (L : List S33) (h : chk L = true) : L.length ≤ 1000000 ∧ laws_eqMapS.f 200 L L = some true ∧ ∃ m, laws_markMapS.all L 1 = some m ∧ laws_heldMapS.f 200 m.1 1 = some m.2 ∧ 0 ≤ m.2 := by
  unfold chk at h
  simp only [Bool.and_eq_true, decide_eq_true_eq, beq_iff_eq] at h
  refine ⟨h.1.1, h.1.2, ?_⟩
  have h2 := h.2
  split at h2
  · rename_i m hm
    simp only [Bool.and_eq_true, decide_eq_true_eq, beq_iff_eq] at h2
    exact ⟨m, hm, h2⟩
  · cases h2
theorem chk0 : chk [] = true := by decide +kernel
theorem chk10 : chk (sel 0 le1) = true := by decide +kernel
theorem chk20 : chk (sel 0 le2) = true := by decide +kernel
theorem chk21 : chk (sel 1 le2) = true := by decide +kernel
theorem chk_rl (e g : Int) : chk (rlR e g).1 = true := by
  unfold rlR
  by_cases c : 1 ≤ e ∧ e ≤ 2 ∧ 0 ≤ g
  · rw [if_pos c]
    exact lst_cases (fun _ _ L => chk L = true) chk10 chk20 chk21 (fun _ _ _ _ => chk0) e g c.1 c.2.1
  · rw [if_neg c]; exact chk0
theorem FnExactRootedList : laws_FnExactRootedList.Pure := by
  intro a0 a1 h0 h1
  refine Ev.rounds ?_
  unfold laws_FnExactRootedList.f
  obtain ⟨c1, c2, m, c3, c4⟩ := chk_ev _ (chk_rl a0 a1)
  refine Ev.bind (spec_rl a0 a1) (Ev.bindc (impl_rl a0 a1) (Ev.pos ⟨rfl, c1, c2⟩ (Ev.bindc c3 (Ev.pos c4 (Ev.now _)))))
end Go.Proofs.Ytdaiohcgdpclnaa.Pure
