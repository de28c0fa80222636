import Derived.Test.YtkfeildndcdbaaaB1
import Derived.Test.YtkfeildndcdbaaaQ5
/- What the laws' small helpers and the tests of a gluing answer. -/
namespace Go.Proofs.Ytkfeildndcdbaaa.L1
set_option linter.unusedVariables false
set_option linter.unusedSimpArgs false
open Go.RowKit Go.Proofs.YtkfeildndcdbaaaW.PrintWords Go.Proofs.YtkfeildndcdbaaaW.PrintMore Go.Proofs.Ytkfeildndcdbaaa.Q Go.Proofs.Ytkfeildndcdbaaa.M Go.Proofs.Ytkfeildndcdbaaa.B

theorem l6In (a b c : Int) : spec_l6In.f a b c = some (decide (b ≤ a ∧ a ≤ c)) := by
  unfold spec_l6In.f
  by_cases h : a ≥ b
  · rw [if_pos h]; simp [h]
  · rw [if_neg h]; simp; omega
end Go.Proofs.Ytkfeildndcdbaaa.L1
