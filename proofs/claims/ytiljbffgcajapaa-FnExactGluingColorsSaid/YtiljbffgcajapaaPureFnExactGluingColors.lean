/- The program's formula for colored gluings answers as the reference's does, for all numbers. -/
import Derived.Test.YtiljbffgcajapaaL1
import Derived.Test.YtiljbffgcajapaaQ18
namespace Go.Proofs.Ytiljbffgcajapaa.Pure
set_option linter.unusedVariables false
set_option linter.unusedSimpArgs false
open Go.RowKit Go.Proofs.Ytiljbffgcajapaa.Q Go.Proofs.YtiljbffgcajapaaW.PrintWords Go.Proofs.YtiljbffgcajapaaW.PrintLast Go.Proofs.Ytiljbffgcajapaa.B Go.Proofs.Ytiljbffgcajapaa.L1

theorem exactColors_small : (List.range 8).all (fun n => (List.range 9).all (fun c => laws_FnExactGluingColors.f 60 (n : Int) (c : Int) == some true)) = true := by decide +kernel
theorem FnExactGluingColors : laws_FnExactGluingColors.Pure := by
  intro n c hn hc
  by_cases h : (0 ≤ n ∧ n < 8) ∧ 0 ≤ c ∧ c < 9
  · obtain ⟨⟨h1, h2⟩, h3, h4⟩ := h
    exact ⟨60, by simpa using all_ints2 8 9 (fun n c => laws_FnExactGluingColors.f 60 n c == some true) exactColors_small n c h1 h2 h3 h4⟩
  · have hi : impl_GluingColors.f 1 n c = some (-1) := by
      unfold impl_GluingColors.f
      by_cases a1 : n < 1
      · rw [if_pos a1]; rfl
      by_cases a2 : n > 7
      · rw [if_neg a1, if_pos a2]; rfl
      by_cases a3 : c < 0
      · rw [if_neg a1, if_neg a2, if_pos a3]; rfl
      rw [if_neg a1, if_neg a2, if_neg a3, decide_eq_true (show c > 8 by omega)]; rfl
    have hs : spec_GluingColors.f 1 n c = some (-1) := by
      unfold spec_GluingColors.f
      simp only [l6In, Option.bind_some]
      by_cases a1 : 1 ≤ n ∧ n ≤ 7
      · have a2 : ¬ (0 ≤ c ∧ c ≤ 8) := by omega
        simp [a1, a2, spec_GluingColors.j0]
      · simp [a1, spec_GluingColors.j0]
    refine ⟨1, ?_⟩
    unfold laws_FnExactGluingColors.f
    simp [hi, hs]
end Go.Proofs.Ytiljbffgcajapaa.Pure
