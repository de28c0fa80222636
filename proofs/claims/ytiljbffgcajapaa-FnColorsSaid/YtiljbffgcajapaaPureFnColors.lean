/- Colors tell genera apart: the law of the colored gluings, for every code. -/
import Derived.Test.YtiljbffgcajapaaL1
import Derived.Test.YtiljbffgcajapaaLpick
import Derived.Test.YtiljbffgcajapaaQ40
namespace Go.Proofs.Ytiljbffgcajapaa.Pure
set_option linter.unusedVariables false
set_option linter.unusedSimpArgs false
open Go.RowKit Go.Proofs.Ytiljbffgcajapaa.Q Go.Proofs.YtiljbffgcajapaaW.PrintWords Go.Proofs.YtiljbffgcajapaaW.PrintLast Go.Proofs.Ytiljbffgcajapaa.B Go.Proofs.Ytiljbffgcajapaa.L1 Go.Proofs.Ytiljbffgcajapaa.Lpick

def colChk (n g : Int) : Bool := match impl_GluingColors.f 60 n g with
  | none => false
  | some v => spec_GluingColors.f 60 n g == some v && laws_FnColors.j0 60 n g v v (decide (v < 0)) == some true
theorem col_small : (List.range 8).all (fun n => (List.range 9).all (fun g => colChk (n : Int) (g : Int))) = true := by decide +kernel
theorem FnColors : laws_FnColors.Pure := by
  intro l h1 h2 h3
  refine Ev.rounds ?_
  unfold laws_FnColors.f
  by_cases hb : (l.length : Int) > 1048576
  · exact Ev.pos hb (Ev.now _)
  refine Ev.neg hb ?_
  have hd : EvP (fun k => spec_DrawGluingColors.f k l) (fun _ => True) := by
    obtain ⟨b, hb, hrb⟩ := open_rb l h3
    unfold spec_DrawGluingColors.f
    refine EvP.bindc hb ?_
    refine EvP.bind (pick_p b 0 8 hrb (by omega) (by omega) (by omega) (by omega)) (fun r1 h1 => ?_)
    refine EvP.bind (pick_p b r1.2 16 hrb (by omega) (by omega) (by omega) (by omega)) (fun r2 h2 => ?_)
    refine EvP.bind (pick_p b r2.2 10 hrb (by omega) (by omega) (by omega) (by omega)) (fun r3 h3 => ?_)
    refine EvP.bind (pick_p b r3.2 16 hrb (by omega) (by omega) (by omega) (by omega)) (fun r4 h4 => ?_)
    exact EvP.now trivial
  refine Ev.bindp hd ?_
  rintro ⟨n, c⟩ -
  by_cases h : (0 ≤ n ∧ n < 8) ∧ 0 ≤ c ∧ c < 9
  · obtain ⟨⟨h1, h2⟩, h3, h4⟩ := h
    have hc := all_ints2 8 9 colChk col_small n c h1 h2 h3 h4
    unfold colChk at hc
    split at hc
    · cases hc
    · rename_i v hv
      simp only [Bool.and_eq_true, beq_iff_eq] at hc
      refine Ev.bind (Ev.of (impl_GluingColors.mono _ _) hv) ?_
      refine Ev.bind (Ev.of (spec_GluingColors.mono _ _) hc.1) ?_
      refine Ev.pos rfl ?_
      exact Ev.of (fun k => (laws_FnColors.mono_l k).1 _ _ _ _ _) hc.2
  · have hi : impl_GluingColors.f 1 n c = some (-1) := by
      unfold impl_GluingColors.f
      by_cases a1 : n < 1
      · rw [if_pos a1]; rfl
      by_cases a2 : n > 7
      · rw [if_neg a1, if_pos a2]; rfl
      by_cases a3 : c < 0
      · rw [if_neg a1, if_neg a2, if_pos a3]; rfl
      rw [if_neg a1, if_neg a2, if_neg a3, decide_eq_true (show c > 8 by omega)]; rfl
    have hs : spec_GluingColors.f 1 n c = some (-1) := by
      unfold spec_GluingColors.f
      simp only [l6In, Option.bind_some]
      by_cases a1 : 1 ≤ n ∧ n ≤ 7
      · have a2 : ¬ (0 ≤ c ∧ c ≤ 8) := by omega
        simp [a1, a2, spec_GluingColors.j0]
      · simp [a1, spec_GluingColors.j0]
    refine Ev.bind (Ev.of (impl_GluingColors.mono _ _) hi) ?_
    refine Ev.bind (Ev.of (spec_GluingColors.mono _ _) hs) ?_
    refine Ev.pos rfl (Ev.ret (fun k => ?_))
    simp only [laws_FnColors.j0]
    rfl
end Go.Proofs.Ytiljbffgcajapaa.Pure
