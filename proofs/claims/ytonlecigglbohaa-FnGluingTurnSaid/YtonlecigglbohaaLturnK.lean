import Derived.Test.YtonlecigglbohaaLgl
import Derived.Test.YtonlecigglbohaaLturnS
import Derived.Test.YtonlecigglbohaaQ2
/- Turned all around, a gluing is as it was: the law, for every code. -/
namespace Go.Proofs.Ytonlecigglbohaa.LturnK
set_option linter.unusedVariables false
set_option linter.unusedSimpArgs false
open Go.RowKit Go.Proofs.Ytonlecigglbohaa.Q Go.Proofs.YtonlecigglbohaaW.PrintWords Go.Proofs.YtonlecigglbohaaW.PrintMore Go.Proofs.YtonlecigglbohaaW.PrintLast Go.Proofs.Ytonlecigglbohaa.M Go.Proofs.Ytonlecigglbohaa.B Go.Proofs.Ytonlecigglbohaa.Lgv Go.Proofs.Ytonlecigglbohaa.Lgl Go.Proofs.Ytonlecigglbohaa.Lcorn Go.Proofs.Ytonlecigglbohaa.Lturn

def itT : Nat → List Int → Option (List Int)
  | 0, x => some x
  | d + 1, x => if gvB x then itT d (turned x) else none
def eqv (a b : Option Int) : Bool := match a with
  | some v => b == some v
  | none => false
theorem eqv_is {a b : Option Int} (h : eqv a b = true) : ∃ v, a = some v ∧ b = some v := by
  cases a with
  | none => cases h
  | some v => exact ⟨v, rfl, by simpa [eqv] using h⟩
def tchk (p : List Int) : Bool := gvB (turned p) && (itT p.length p == some p) && eqv (impl_GluingGenus.f 400 (turned p)) (impl_GluingGenus.f 400 p) && eqv (impl_GluingChord.f 400 (turned p)) (impl_GluingChord.f 400 p) &&
  allFrom (fun i => nth (turned p) ((i + 1) % p.length) == (nth p i + 1) % (p.length : Int)) 0 p.length
end Go.Proofs.Ytonlecigglbohaa.LturnK
