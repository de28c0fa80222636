import Derived.Test.YtonlecigglbohaaLparts
import Derived.Test.YtonlecigglbohaaQ2
/- Drawn pairs of partitions. -/
namespace Go.Proofs.Ytonlecigglbohaa.Lpair
set_option linter.unusedVariables false
set_option linter.unusedSimpArgs false
open Go.RowKit Go.Proofs.YtonlecigglbohaaW.PrintWords Go.Proofs.YtonlecigglbohaaW.PrintMore Go.Proofs.Ytonlecigglbohaa.Q Go.Proofs.Ytonlecigglbohaa.M Go.Proofs.Ytonlecigglbohaa.B Go.Proofs.Ytonlecigglbohaa.Lpick Go.Proofs.Ytonlecigglbohaa.Lparts
theorem pair_p (b : List Int) (hb : RB b) (p a : Int) (h0 : 1 ≤ a) (ha : a ≤ 6) (h4 : 0 ≤ p) (h5 : p ≤ 5000) :
    EvP (fun k => spec_l91Pair.f k b p a) (fun r => r.1.length ≤ 20 ∧ r.2.1.length ≤ 20) := by
  unfold spec_l91Pair.f
  refine EvP.bind (pick_p b p a hb h4 (by omega) (by omega) (by omega)) ?_
  rintro ⟨v, p'⟩ ⟨⟨v0, v1⟩, e⟩
  simp only at v0 v1 e
  subst e
  have e1 : wrap64 (1 + v) = 1 + v := wr _ (by omega) (by omega)
  simp only [e1]
  refine EvP.bind (parts_p b hb (p + 1) (1 + v) (by omega) (by omega) (by omega) (by omega)) ?_
  rintro ⟨x, p'⟩ ⟨hx, q1, q2⟩
  simp only at hx q1 q2
  refine EvP.bind (pick_p b p' 16 hb (by omega) (by omega) (by omega) (by omega)) ?_
  rintro ⟨u, p''⟩ ⟨⟨u0, u1⟩, e⟩
  simp only at u0 u1 e
  subst e
  by_cases c1 : u = 0
  · refine EvP.pos c1 ?_
    refine EvP.bind (pick_p b (p' + 1) a hb (by omega) (by omega) (by omega) (by omega)) ?_
    rintro ⟨t, p''⟩ ⟨⟨t0, t1⟩, e⟩
    simp only at t0 t1 e
    subst e
    have e2 : wrap64 (1 + t) = 1 + t := wr _ (by omega) (by omega)
    simp only [e2]
    refine EvP.bind (parts_p b hb _ (1 + t) (by omega) (by omega) (by omega) (by omega)) (fun r h => ?_)
    exact EvP.now ⟨hx, h.1⟩
  · refine EvP.neg c1 ?_
    refine EvP.bind (parts_p b hb _ (1 + v) (by omega) (by omega) (by omega) (by omega)) (fun r h => ?_)
    exact EvP.now ⟨hx, h.1⟩
end Go.Proofs.Ytonlecigglbohaa.Lpair
