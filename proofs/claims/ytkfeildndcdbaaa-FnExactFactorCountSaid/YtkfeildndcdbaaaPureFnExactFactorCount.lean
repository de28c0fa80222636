import Derived.Test.YtkfeildndcdbaaaLss
import Derived.Test.YtkfeildndcdbaaaLfc
import Derived.Test.YtkfeildndcdbaaaQ11
/- The number of factorizations: the program answers as the reference, for all lists of lists. -/
namespace Go.Proofs.Ytkfeildndcdbaaa.Pure
set_option linter.unusedVariables false
set_option linter.unusedSimpArgs false
open Go.RowKit Go.Proofs.YtkfeildndcdbaaaW.PrintWords Go.Proofs.YtkfeildndcdbaaaW.PrintMore Go.Proofs.Ytkfeildndcdbaaa.Q Go.Proofs.Ytkfeildndcdbaaa.M Go.Proofs.Ytkfeildndcdbaaa.B Go.Proofs.Ytkfeildndcdbaaa.L1 Go.Proofs.Ytkfeildndcdbaaa.Lss Go.Proofs.Ytkfeildndcdbaaa.Lfc

theorem FnExactFactorCount (l : List (List Int)) (hmx : l.length ≤ maxLen) (hwf : ∀ x ∈ l, x.length ≤ maxLen ∧ ∀ n ∈ x, (Lit.int .i64 n).wf = true) : ∃ k, laws_FnExactFactorCount.f k l = some true := by
  refine Ev.rounds ?_
  unfold maxLen at hmx hwf
  obtain ⟨v, hv, hj⟩ := sz_ev l hmx (fun x hx => (hwf x hx).1)
  unfold laws_FnExactFactorCount.f
  refine Ev.bind hv ?_
  by_cases c : v < 0
  · exact Ev.pos c (Ev.now _)
  refine Ev.neg c ?_
  obtain ⟨hl, hx⟩ : l.length ≤ 1048576 ∧ ∀ x ∈ l, x.length ≤ 1048576 := hj.resolve_left c
  refine Ev.bind (toIntSS l hl hx) ?_
  refine Ev.bind (spec_cnt l hl hx) ?_
  refine Ev.bind (toIntSS l hl hx) ?_
  refine Ev.bind (impl_cnt l hl hx) ?_
  refine Ev.pos rfl ?_
  refine Ev.bind (toIntSS l hl hx) ?_
  refine Ev.bind (eqSS_self l hl hx) ?_
  exact Ev.pos rfl (Ev.now _)
end Go.Proofs.Ytkfeildndcdbaaa.Pure
