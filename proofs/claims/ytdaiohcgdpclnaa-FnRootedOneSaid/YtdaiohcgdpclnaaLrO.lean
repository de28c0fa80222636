import Derived.Test.YtdaiohcgdpclnaaLrJ
import Derived.Test.YtdaiohcgdpclnaaQ15
import Derived.Test.YtdaiohcgdpclnaaQ11
import Derived.Test.YtdaiohcgdpclnaaQ14
/- Rooted maps with one face: both sides count alike, for every edge and genus. -/
namespace Go.Proofs.Ytdaiohcgdpclnaa.LrA
set_option linter.unusedVariables false
open Go.RowKit Go.Proofs.YtdaiohcgdpclnaaW.PrintWords Go.Proofs.YtdaiohcgdpclnaaW.PrintMore Go.Proofs.Ytdaiohcgdpclnaa.Q Go.Proofs.Ytdaiohcgdpclnaa.M Go.Proofs.Ytdaiohcgdpclnaa.B
set_option maxRecDepth 100000
theorem impl_cnt (a0 a1 : Int) : impl_RootedCount.f a0 a1 = some (if a0 < 1 then -1 else if a0 > 3 then -1 else if a1 < 0 then -1 else ((lst a0 a1).length : Int)) := by
  unfold impl_RootedCount.f
  by_cases c0 : a0 < 1
  · rw [if_pos c0, if_pos c0]
  rw [if_neg c0, if_neg c0]
  by_cases c1 : a0 > 3
  · rw [if_pos c1, if_pos c1]
  rw [if_neg c1, if_neg c1]
  by_cases c2 : a1 < 0
  · rw [if_pos c2, if_pos c2]
  rw [if_neg c2, if_neg c2, impl_all a0 a1 (by omega) (by omega)]; rfl
def chk1 (L : List S33) : Bool := match spec_RootedOne.l0 200 0 L 0 with
  | some v => impl_RootedOne.l0 200 0 L (L.length : Int) 0 == some v && decide (0 ≤ v)
  | none => false
def one1 (L : List S33) : Int := (spec_RootedOne.l0 200 0 L 0).getD 0
theorem chk1_is {L : List S33} (h : chk1 L = true) : spec_RootedOne.l0 200 0 L 0 = some (one1 L) ∧ impl_RootedOne.l0 200 0 L (L.length : Int) 0 = some (one1 L) ∧ 0 ≤ one1 L := by
  unfold chk1 at h
  unfold one1
  generalize spec_RootedOne.l0 200 0 L 0 = o at h ⊢
  cases o with
  | none => cases h
  | some v =>
    simp only [Bool.and_eq_true, beq_iff_eq, decide_eq_true_eq] at h
    exact ⟨rfl, h.1, h.2⟩
theorem lst_cases (P : List S33 → Bool) (hn : P [] = true) (h10 : P (sel 0 le1) = true) (h20 : P (sel 0 le2) = true) (h21 : P (sel 1 le2) = true) (h30 : P (sel 0 le3) = true) (h31 : P (sel 1 le3) = true) (e g : Int) : P (lst e g) = true := by
  have h11 : P (sel 1 le1) = true := hn
  have l1 : low le1 = true := by decide +kernel
  have l2 : low le2 = true := by decide +kernel
  have l3 : low le3 = true := by decide +kernel
  unfold lst
  by_cases g0 : g = 0
  · subst g0
    split
    · exact h10
    split
    · exact h20
    exact h30
  by_cases g1 : g = 1
  · subst g1
    split
    · exact h11
    split
    · exact h21
    exact h31
  split
  · rw [sel_else g g0 g1 _ l1]; exact hn
  split
  · rw [sel_else g g0 g1 _ l2]; exact hn
  rw [sel_else g g0 g1 _ l3]; exact hn
theorem chk1_all (e g : Int) : chk1 (lst e g) = true :=
  lst_cases chk1 (by decide +kernel) (by decide +kernel) (by decide +kernel) (by decide +kernel) (by decide +kernel) (by decide +kernel) e g
def vOne (a0 a1 : Int) : Int := if a0 < 1 then -1 else if a0 > 3 then -1 else if a1 < 0 then -1 else one1 (lst a0 a1)
theorem spec_one (a0 a1 : Int) : Ev (fun k => spec_RootedOne.f k a0 a1) (vOne a0 a1) := by
  unfold spec_RootedOne.f spec_l6In.f vOne
  by_cases c0 : a0 < 1
  · rw [if_pos c0, if_neg (by omega)]
    exact Ev.bindc rfl (Ev.neg Bool.false_ne_true (Ev.ret (fun k => rfl)))
  rw [if_neg c0, if_pos (by omega)]
  by_cases c1 : a0 > 3
  · rw [if_pos c1]
    exact Ev.bindc rfl (Ev.neg (by simp; omega) (Ev.ret (fun k => rfl)))
  rw [if_neg c1]
  refine Ev.bindc rfl (Ev.pos (by simp; omega) ?_)
  by_cases c2 : a1 < 0
  · rw [if_pos c2, decide_eq_true c2]; exact Ev.ret (fun k => rfl)
  rw [if_neg c2, decide_eq_false c2]
  refine Ev.step (f := fun k => (spec_l3All.f k a0 a1).bind fun t => spec_RootedOne.l0 k 0 t 0) (fun k => rfl) ?_
  exact Ev.bind (spec_all a0 a1 (by omega) (by omega)) (Ev.of (fun k => (spec_RootedOne.mono_l k).2 0 (lst a0 a1) 0) (chk1_is (chk1_all a0 a1)).1)
theorem impl_one (a0 a1 : Int) : Ev (fun k => impl_RootedOne.f k a0 a1) (vOne a0 a1) := by
  unfold impl_RootedOne.f vOne
  refine Ev.bindc (impl_cnt a0 a1) ?_
  by_cases c0 : a0 < 1
  · rw [if_pos c0, if_pos c0]; exact Ev.pos (by decide) (Ev.now _)
  rw [if_neg c0, if_neg c0]
  by_cases c1 : a0 > 3
  · rw [if_pos c1, if_pos c1]; exact Ev.pos (by decide) (Ev.now _)
  rw [if_neg c1, if_neg c1]
  by_cases c2 : a1 < 0
  · rw [if_pos c2, if_pos c2]; exact Ev.pos (by decide) (Ev.now _)
  rw [if_neg c2, if_neg c2]
  refine Ev.neg (by omega) ?_
  refine Ev.bindc (impl_all a0 a1 (by omega) (by omega)) ?_
  exact Ev.of (fun k => impl_RootedOne.mono_l k 0 (lst a0 a1) _ 0) (chk1_is (chk1_all a0 a1)).2.1
end Go.Proofs.Ytdaiohcgdpclnaa.LrA
