import Derived.Test.YtonlecigglbohaaLgof
import Derived.Test.YtonlecigglbohaaLmap
import Derived.Test.YtonlecigglbohaaQ6
/- The gluing of a map: the program answers as the reference, for all maps and darts. -/
namespace Go.Proofs.Ytonlecigglbohaa.Pure
set_option linter.unusedVariables false
set_option linter.unusedSimpArgs false
open Go.RowKit Go.Proofs.YtonlecigglbohaaW.PrintWords Go.Proofs.YtonlecigglbohaaW.PrintMore Go.Proofs.Ytonlecigglbohaa.Q Go.Proofs.Ytonlecigglbohaa.M Go.Proofs.Ytonlecigglbohaa.B Go.Proofs.Ytonlecigglbohaa.L1 Go.Proofs.Ytonlecigglbohaa.Lmark Go.Proofs.Ytonlecigglbohaa.Lmap Go.Proofs.Ytonlecigglbohaa.Lmv Go.Proofs.Ytonlecigglbohaa.Lgof

theorem gof_len (t f : List Int) (r : Int) : (gofR t f r).1.length ≤ t.length := by
  by_cases h : mvB t f = true ∧ t.length ≤ 10 ∧ (0 ≤ r ∧ r < t.length) ∧ (cycles (ml f t)).length = 1
  · rw [show gofR t f r = (ren (pl (ml f t) r.toNat) f, true) from if_pos h]
    obtain ⟨pi, pj, pn, pf, hn, hl, fi, ti⟩ := face h.1
    have hd := one_cycle (ml f t) pi pj h.2.2.2 r.toNat (by omega)
    have := (pl_ok (ml f t) pi r.toNat (by omega) hd).1
    show (ren _ f).length ≤ _
    rw [ren_len]; omega
  · rw [gof_no h]; simp
theorem FnExactGluingOf (t f : List Int) (r : Int) (ht : t.length ≤ maxLen) (hf : f.length ≤ maxLen) : ∃ k, laws_FnExactGluingOf.f k t f r = some true := by
  refine Ev.rounds ?_
  unfold maxLen at ht hf
  have hs : ∃ v, laws_szMap.f t f 1048576 = some v ∧ (v < 0 ∨ t.length ≤ 1048576 ∧ f.length ≤ 1048576) := by
    unfold laws_szMap.f laws_szIntS.f
    rw [wr (1048576 - (t.length : Int)) (by omega) (by omega)]
    by_cases c : 1048576 - (t.length : Int) < 0
    · rw [if_pos c]; exact ⟨-1, rfl, .inl (by decide)⟩
    · rw [if_neg c]
      show ∃ v, (if 1048576 - (t.length : Int) < 0 then some (-1) else (if wrap64 (1048576 - (t.length : Int) - (f.length : Int)) < 0 then some (-1) else some (wrap64 (1048576 - (t.length : Int) - (f.length : Int)))).bind fun t193 => if t193 < 0 then some (-1) else some t193) = some v ∧ _
      rw [if_neg c, wr (1048576 - (t.length : Int) - (f.length : Int)) (by omega) (by omega)]
      by_cases c2 : 1048576 - (t.length : Int) - (f.length : Int) < 0
      · rw [if_pos c2]; exact ⟨-1, rfl, .inl (by decide)⟩
      · rw [if_neg c2]
        refine ⟨1048576 - (t.length : Int) - (f.length : Int), ?_, .inr (by omega)⟩
        show (if _ < 0 then _ else _) = _
        rw [if_neg c2]
  obtain ⟨v, hv, hj⟩ := hs
  unfold laws_FnExactGluingOf.f
  refine Ev.bindc hv ?_
  by_cases c : v < 0
  · exact Ev.pos c (Ev.now _)
  refine Ev.neg c ?_
  obtain ⟨lt, lf⟩ := hj.resolve_left c
  have eT : Ev (fun k => laws_toMap.f k t f) (t, f) := by
    unfold laws_toMap.f
    exact Ev.bind (L1.toIntS t (by omega)) (Ev.bind (L1.toIntS f (by omega)) (Ev.now _))
  have hg := gof_len t f r
  have eE := eqIntS_self (gofR t f r).1 (by omega)
  refine Ev.bind eT (Ev.bind (spec_gof t f r (by omega) (by omega)) (Ev.bind eT (Ev.bind (impl_gof t f r) (Ev.bind eE (Ev.pos rfl ?_)))))
  refine Ev.congr (fun k => by rw [show ((gofR t f r).2 != (gofR t f r).2) = false by simp]) ?_
  refine Ev.step (fun k => by simp only [laws_FnExactGluingOf.j0]; rw [if_neg (by simp)]) ?_
  refine Ev.bind eT (Ev.bind (eqMap_self t f (by omega) (by omega)) (Ev.pos rfl (Ev.bind (markMap t f 1 (by omega) (by omega) (by omega) (by omega)) (Ev.neg (by show ¬ (1 + (t.length : Int) + (f.length : Int)) < 0; omega) (Ev.bind eE (Ev.pos rfl ?_))))))
  refine Ev.congr (fun k => by rw [show ((gofR t f r).2 != (gofR t f r).2) = false by simp]) ?_
  refine Ev.step (fun k => by simp only [laws_FnExactGluingOf.j1]; rw [if_neg (by simp)]) ?_
  have eH := heldIntS (gofR t f r).1.length 1 (by omega) (by omega) (by omega)
  refine Ev.bind (markIntS (gofR t f r).1 1 (by omega) (by omega) (by omega)) (Ev.bind eH (Ev.neg (by omega) (Ev.pos rfl (Ev.bind eT (Ev.bind (impl_gof t f r) (Ev.bind eE (Ev.pos rfl ?_)))))))
  refine Ev.congr (fun k => by rw [show ((gofR t f r).2 != (gofR t f r).2) = false by simp]) ?_
  refine Ev.step (fun k => by simp only [laws_FnExactGluingOf.j2]; rw [if_neg (by simp)]) ?_
  exact Ev.bind eH (Ev.neg (by omega) (Ev.pos rfl (Ev.now _)))
end Go.Proofs.Ytonlecigglbohaa.Pure
