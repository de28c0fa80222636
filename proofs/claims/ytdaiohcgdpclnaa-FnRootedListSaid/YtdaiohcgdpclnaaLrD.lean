import Derived.Test.YtdaiohcgdpclnaaLpick
import Derived.Test.YtdaiohcgdpclnaaQ4
/- What the draws of rooted maps come to. -/
namespace Go.Proofs.Ytdaiohcgdpclnaa.LrA
set_option linter.unusedVariables false
set_option linter.unusedSimpArgs false
open Go.RowKit Go.Proofs.Ytdaiohcgdpclnaa.Q Go.Proofs.YtdaiohcgdpclnaaW.PrintWords Go.Proofs.YtdaiohcgdpclnaaW.PrintLast Go.Proofs.Ytdaiohcgdpclnaa.M Go.Proofs.Ytdaiohcgdpclnaa.B Go.Proofs.Ytdaiohcgdpclnaa.Lpick

theorem edges_p (b : List Int) (hb : RB b) (p a : Int) (h0 : 0 ≤ a) (ha : a ≤ 10) (h1 : 1 ≤ a) (h4 : 0 ≤ p) (h5 : p ≤ 5000) :
    EvP (fun k => spec_l91Edges.f k b p a) (fun r => (-1 ≤ r.1 ∧ r.1 ≤ a + 1) ∧ -1 ≤ r.2.1 ∧ r.2.1 ≤ 2) := by
  unfold spec_l91Edges.f
  refine EvP.bind (pick_p b p 16 hb h4 (by omega) (by omega) (by omega)) ?_
  rintro ⟨v, p'⟩ ⟨⟨v0, v1⟩, e⟩
  simp only at v0 v1 e
  subst e
  have ea : wrap64 (a + 1) = a + 1 := wr _ (by omega) (by omega)
  by_cases c : v = 0
  · refine EvP.pos c ?_
    refine EvP.bindc rfl ?_
    refine EvP.bind (pick_p b (p + 1) 3 hb (by omega) (by omega) (by omega) (by omega)) ?_
    rintro ⟨u, p'⟩ ⟨⟨u0, u1⟩, e⟩
    simp only at u0 u1 e
    subst e
    refine EvP.pos u0 ?_
    refine EvP.pos (by show u < 3; omega) ?_
    refine EvP.bind (pick_p b (p + 1 + 1) 3 hb (by omega) (by omega) (by omega) (by omega)) ?_
    rintro ⟨t, p'⟩ ⟨⟨t0, t1⟩, e⟩
    simp only at t0 t1 e
    subst e
    refine EvP.now ⟨?_, ?_⟩
    · show -1 ≤ rd [0, wrap64 (a + 1), -1] u ∧ rd [0, wrap64 (a + 1), -1] u ≤ a + 1
      rw [ea]
      have hu : u = 0 ∨ u = 1 ∨ u = 2 := by omega
      rcases hu with rfl | rfl | rfl
      · show -1 ≤ (0 : Int) ∧ (0 : Int) ≤ a + 1; omega
      · show -1 ≤ a + 1 ∧ a + 1 ≤ a + 1; omega
      · show -1 ≤ (-1 : Int) ∧ (-1 : Int) ≤ a + 1; omega
    · show -1 ≤ wrap64 (t - 1) ∧ wrap64 (t - 1) ≤ 2
      rw [wr _ (by omega) (by omega)]; omega
  · refine EvP.neg c ?_
    refine EvP.bind (pick_p b (p + 1) a hb (by omega) (by omega) (by omega) (by omega)) ?_
    rintro ⟨u, p'⟩ ⟨⟨u0, u1⟩, e⟩
    simp only at u0 u1 e
    subst e
    refine EvP.bind (pick_p b (p + 1 + 1) 3 hb (by omega) (by omega) (by omega) (by omega)) ?_
    rintro ⟨t, p'⟩ ⟨⟨t0, t1⟩, e⟩
    simp only at t0 t1 e
    subst e
    refine EvP.now ⟨?_, ?_⟩
    · show -1 ≤ wrap64 (1 + u) ∧ wrap64 (1 + u) ≤ a + 1
      rw [wr _ (by omega) (by omega)]; omega
    · show -1 ≤ t ∧ t ≤ 2
      omega
end Go.Proofs.Ytdaiohcgdpclnaa.LrA
