import Derived.Test.YtdaiohcgdpclnaaLrR
import Derived.Test.YtdaiohcgdpclnaaQ7
import Derived.Test.YtdaiohcgdpclnaaQ12
/- The darts that are not turned into each other, over all maps without a root: both sides add up alike. -/
namespace Go.Proofs.Ytdaiohcgdpclnaa.LrA
set_option linter.unusedVariables false
open Go.RowKit Go.Proofs.YtdaiohcgdpclnaaW.PrintWords Go.Proofs.YtdaiohcgdpclnaaW.PrintMore Go.Proofs.Ytdaiohcgdpclnaa.Q Go.Proofs.Ytdaiohcgdpclnaa.M Go.Proofs.Ytdaiohcgdpclnaa.B
set_option maxRecDepth 100000
def sums (e : Int) (D : List S33) : Bool := match spec_RootlessRoots.l0 900 e 0 D 0 with
  | some v => impl_RootlessRoots.l0 900 e 0 D (D.length : Int) 0 == some v && decide (0 ≤ v)
  | none => false
def rts (e : Int) (D : List S33) : Int := (spec_RootlessRoots.l0 900 e 0 D 0).getD 0
theorem sums_is {e : Int} {D : List S33} (h : sums e D = true) : spec_RootlessRoots.l0 900 e 0 D 0 = some (rts e D) ∧ impl_RootlessRoots.l0 900 e 0 D (D.length : Int) 0 = some (rts e D) ∧ 0 ≤ rts e D := by
  unfold sums at h
  unfold rts
  generalize spec_RootlessRoots.l0 900 e 0 D 0 = o at h ⊢
  cases o with
  | none => cases h
  | some v =>
    simp only [Bool.and_eq_true, beq_iff_eq, decide_eq_true_eq] at h
    exact ⟨rfl, h.1, h.2⟩
def chkM (L : List S33) : Bool := match imp2 L with
  | some D => sums 1 D && sums 2 D && sums 3 D
  | none => false
theorem chkM_is {L : List S33} (h : chkM L = true) (e : Int) (h0 : 1 ≤ e) (h1 : e ≤ 3) : sums e (dif L) = true := by
  unfold chkM at h
  unfold dif
  generalize imp2 L = o at h ⊢
  cases o with
  | none => cases h
  | some D =>
    simp only [Bool.and_eq_true] at h
    have : e = 1 ∨ e = 2 ∨ e = 3 := by omega
    rcases this with rfl | rfl | rfl
    · exact h.1.1
    · exact h.1.2
    · exact h.2
set_option maxHeartbeats 16000000 in
theorem chkM30 : chkM (sel 0 le3) = true := by decide +kernel
set_option maxHeartbeats 16000000 in
theorem chkM31 : chkM (sel 1 le3) = true := by decide +kernel
theorem chkM_all (e g : Int) : chkM (lst e g) = true :=
  lst_cases chkM (by decide +kernel) (by decide +kernel) (by decide +kernel) (by decide +kernel) chkM30 chkM31 e g
theorem impl_cnt (a0 a1 : Int) : impl_RootedCount.f a0 a1 = some (if a0 < 1 then -1 else if a0 > 3 then -1 else if a1 < 0 then -1 else ((lst a0 a1).length : Int)) := by
  unfold impl_RootedCount.f
  by_cases c0 : a0 < 1
  · rw [if_pos c0, if_pos c0]
  rw [if_neg c0, if_neg c0]
  by_cases c1 : a0 > 3
  · rw [if_pos c1, if_pos c1]
  rw [if_neg c1, if_neg c1]
  by_cases c2 : a1 < 0
  · rw [if_pos c2, if_pos c2]
  rw [if_neg c2, if_neg c2, impl_all a0 a1 (by omega) (by omega)]; rfl
def vM (a0 a1 : Int) : Int := if a0 < 1 then -1 else if a0 > 3 then -1 else if a1 < 0 then -1 else rts a0 (dif (lst a0 a1))
theorem spec_rts (a0 a1 : Int) : Ev (fun k => spec_RootlessRoots.f k a0 a1) (vM a0 a1) := by
  have stop : Ev (fun k => spec_RootlessRoots.j0 k a0 a1 true) (-1) := Ev.ret (fun k => rfl)
  unfold spec_RootlessRoots.f spec_l6In.f vM
  by_cases c0 : a0 < 1
  · rw [if_pos c0, if_neg (by omega)]
    exact Ev.bindc rfl (Ev.neg Bool.false_ne_true stop)
  rw [if_neg c0, if_pos (by omega)]
  by_cases c1 : a0 > 3
  · rw [if_pos c1]
    exact Ev.bindc rfl (Ev.neg (by simp; omega) stop)
  rw [if_neg c1]
  refine Ev.bindc rfl (Ev.pos (by simp; omega) ?_)
  by_cases c2 : a1 < 0
  · rw [if_pos c2, decide_eq_true c2]; exact stop
  rw [if_neg c2, decide_eq_false c2]
  refine Ev.step (f := fun k => (spec_l3Different.f k a0 a1).bind fun t => spec_RootlessRoots.l0 k a0 0 t 0) (fun k => rfl) ?_
  exact Ev.bind (spec_dif a0 a1 (by omega) (by omega)) (Ev.of (fun k => (spec_RootlessRoots.mono_l k).2 _ _ _ _) (sums_is (chkM_is (chkM_all a0 a1) a0 (by omega) (by omega))).1)
theorem impl_rts (a0 a1 : Int) : Ev (fun k => impl_RootlessRoots.f k a0 a1) (vM a0 a1) := by
  unfold impl_RootlessRoots.f vM
  refine Ev.bindc (impl_cnt a0 a1) ?_
  by_cases c0 : a0 < 1
  · rw [if_pos c0, if_pos c0]; exact Ev.pos (by decide) (Ev.now _)
  rw [if_neg c0, if_neg c0]
  by_cases c1 : a0 > 3
  · rw [if_pos c1, if_pos c1]; exact Ev.pos (by decide) (Ev.now _)
  rw [if_neg c1, if_neg c1]
  by_cases c2 : a1 < 0
  · rw [if_pos c2, if_pos c2]; exact Ev.pos (by decide) (Ev.now _)
  rw [if_neg c2, if_neg c2]
  refine Ev.neg (by omega) ?_
  exact Ev.bind (impl_dif a0 a1 (by omega) (by omega)) (Ev.of (fun k => impl_RootlessRoots.mono_l k _ _ _ _ _) (sums_is (chkM_is (chkM_all a0 a1) a0 (by omega) (by omega))).2.1)
end Go.Proofs.Ytdaiohcgdpclnaa.LrA
