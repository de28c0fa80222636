import Derived.Test.YtdaiohcgdpclnaaLrJ
import Derived.Test.YtdaiohcgdpclnaaQ6
import Derived.Test.YtdaiohcgdpclnaaQ12
/- Maps without a root: both sides list the same. -/
namespace Go.Proofs.Ytdaiohcgdpclnaa.LrA
set_option linter.unusedVariables false
open Go.RowKit Go.Proofs.YtdaiohcgdpclnaaW.PrintWords Go.Proofs.YtdaiohcgdpclnaaW.PrintMore Go.Proofs.Ytdaiohcgdpclnaa.Q Go.Proofs.Ytdaiohcgdpclnaa.M Go.Proofs.Ytdaiohcgdpclnaa.B
set_option maxRecDepth 100000
def imp2 (L : List S33) : Option (List S33) := impl_rootless.l0 300 [] L (L.length : Int) 0
def spe2 (L : List S33) : Option (List S33) := spec_l3Different.l0 300 [] L 0
def same2 (L : List S33) : Bool := match imp2 L with
  | some D => eqO eqS (spe2 L) D
  | none => false
def dif (L : List S33) : List S33 := (imp2 L).getD []
theorem same2_is {L : List S33} (h : same2 L = true) : imp2 L = some (dif L) ∧ spe2 L = some (dif L) := by
  unfold same2 at h
  unfold dif
  generalize imp2 L = o at h ⊢
  cases o with
  | none => cases h
  | some D => exact ⟨rfl, eqO_eq eqS_eq h⟩
theorem lst_cases (P : List S33 → Bool) (hn : P [] = true) (h10 : P (sel 0 le1) = true) (h20 : P (sel 0 le2) = true) (h21 : P (sel 1 le2) = true) (h30 : P (sel 0 le3) = true) (h31 : P (sel 1 le3) = true) (e g : Int) : P (lst e g) = true := by
  have h11 : P (sel 1 le1) = true := hn
  have l1 : low le1 = true := by decide +kernel
  have l2 : low le2 = true := by decide +kernel
  have l3 : low le3 = true := by decide +kernel
  unfold lst
  by_cases g0 : g = 0
  · subst g0
    split
    · exact h10
    split
    · exact h20
    exact h30
  by_cases g1 : g = 1
  · subst g1
    split
    · exact h11
    split
    · exact h21
    exact h31
  split
  · rw [sel_else g g0 g1 _ l1]; exact hn
  split
  · rw [sel_else g g0 g1 _ l2]; exact hn
  rw [sel_else g g0 g1 _ l3]; exact hn
set_option maxHeartbeats 16000000 in
theorem same30 : same2 (sel 0 le3) = true := by decide +kernel
set_option maxHeartbeats 16000000 in
theorem same31 : same2 (sel 1 le3) = true := by decide +kernel
theorem same_all (e g : Int) : same2 (lst e g) = true :=
  lst_cases same2 (by decide +kernel) (by decide +kernel) (by decide +kernel) (by decide +kernel) same30 same31 e g
theorem spec_dif (e g : Int) (h0 : 1 ≤ e) (h1 : e ≤ 3) : Ev (fun k => spec_l3Different.f k e g) (dif (lst e g)) := by
  unfold spec_l3Different.f
  exact Ev.bind (spec_all e g h0 h1) (Ev.of (fun k => spec_l3Different.mono_l k [] (lst e g) 0) (same2_is (same_all e g)).2)
theorem impl_dif (e g : Int) (h0 : 1 ≤ e) (h1 : e ≤ 3) : Ev (fun k => impl_rootless.f k e g) (dif (lst e g)) := by
  unfold impl_rootless.f
  exact Ev.bindc (impl_all e g h0 h1) (Ev.of (fun k => impl_rootless.mono_l k [] (lst e g) _ 0) (same2_is (same_all e g)).1)
end Go.Proofs.Ytdaiohcgdpclnaa.LrA
