import Derived.Test.YtkfeildndcdbaaaQ3
import Derived.Test.YtkfeildndcdbaaaQ2
/- All gluings: the program answers as the reference, for all numbers. -/
namespace Go.Proofs.Ytkfeildndcdbaaa.Pure
set_option linter.unusedVariables false
set_option linter.unusedSimpArgs false
open Go.RowKit Go.Proofs.YtkfeildndcdbaaaW.PrintWords Go.Proofs.YtkfeildndcdbaaaW.PrintMore Go.Proofs.Ytkfeildndcdbaaa.Q

theorem all_GluingAll : [(1 : Int), 2, 3].all (fun n => laws_FnExactGluingAll.f 400 n == some true) = true := by decide +kernel
theorem FnExactGluingAll : laws_FnExactGluingAll.Pure := by
  intro a0 _
  by_cases h : 1 ≤ a0 ∧ a0 ≤ 3
  · have hm : a0 ∈ [(1 : Int), 2, 3] := by
      have : a0 = 1 ∨ a0 = 2 ∨ a0 = 3 := by omega
      rcases this with rfl | rfl | rfl <;> decide
    have h1 := List.all_eq_true.1 all_GluingAll a0 hm
    exact ⟨400, by simpa using h1⟩
  · have hs : spec_GluingAll.f 400 a0 = some ([], false) := by
      unfold spec_GluingAll.f spec_l6In.f
      by_cases c : a0 ≥ 1
      · rw [if_pos c, Option.bind_some, if_neg (by simp; omega)]
      · rw [if_neg c, Option.bind_some, if_neg (by simp)]
    have hi : impl_GluingAll.f a0 = some ([], false) := by
      unfold impl_GluingAll.f
      by_cases c : a0 < 1
      · rw [if_pos c]
      · rw [if_neg c, if_pos (by omega)]
    refine ⟨400, ?_⟩
    unfold laws_FnExactGluingAll.f
    rw [hs, hi]
    decide +kernel
end Go.Proofs.Ytkfeildndcdbaaa.Pure
