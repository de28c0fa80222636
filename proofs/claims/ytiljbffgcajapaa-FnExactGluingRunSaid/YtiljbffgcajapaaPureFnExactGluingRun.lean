/- The program's recursion for gluings answers as the reference's does, for all numbers. -/
import Derived.Test.YtiljbffgcajapaaL1
import Derived.Test.YtiljbffgcajapaaQ5
namespace Go.Proofs.Ytiljbffgcajapaa.Pure
set_option linter.unusedVariables false
set_option linter.unusedSimpArgs false
open Go.RowKit Go.Proofs.Ytiljbffgcajapaa.Q Go.Proofs.YtiljbffgcajapaaW.PrintWords Go.Proofs.YtiljbffgcajapaaW.PrintLast Go.Proofs.Ytiljbffgcajapaa.B Go.Proofs.Ytiljbffgcajapaa.L1

theorem exactRun_small : (List.range 10).all (fun n => (List.range 6).all (fun g => laws_FnExactGluingRun.f 40 (n : Int) (g : Int) == some true)) = true := by decide +kernel
theorem FnExactGluingRun : laws_FnExactGluingRun.Pure := by
  intro n g hn hg
  by_cases h : (0 ≤ n ∧ n < 10) ∧ 0 ≤ g ∧ g < 6
  · obtain ⟨⟨h1, h2⟩, h3, h4⟩ := h
    exact ⟨40, by simpa using all_ints2 10 6 (fun n g => laws_FnExactGluingRun.f 40 n g == some true) exactRun_small n g h1 h2 h3 h4⟩
  · have hi : impl_GluingRun.f n g = some (-1) := by
      unfold impl_GluingRun.f
      by_cases a1 : n < 0
      · rw [if_pos a1]
      by_cases a2 : n > 9
      · rw [if_neg a1, if_pos a2]
      by_cases a3 : g < 0
      · rw [if_neg a1, if_neg a2, if_pos a3]
      rw [if_neg a1, if_neg a2, if_neg a3, if_pos (by omega)]
    have hs : ∀ k, spec_GluingRun.f k n g = some (-1) := fun k => by
      unfold spec_GluingRun.f
      simp only [l6In, Option.bind_some]
      by_cases a1 : 0 ≤ n ∧ n ≤ 9
      · have a2 : ¬ (0 ≤ g ∧ g ≤ 5) := by omega
        simp [a1, a2]
      · simp [a1]
    refine ⟨0, ?_⟩
    unfold laws_FnExactGluingRun.f
    simp [hi, hs]
end Go.Proofs.Ytiljbffgcajapaa.Pure
