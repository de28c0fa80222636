/- The program's size of a class is the reference's, for every list of numbers. -/
import Derived.Test.YtgcoeahglkpmpaaL1
import Derived.Test.YtgcoeahglkpmpaaLpv
import Derived.Test.YtgcoeahglkpmpaaQ12
namespace Go.Proofs.Ytgcoeahglkpmpaa.Pure
set_option linter.unusedVariables false
set_option linter.unusedSimpArgs false
open Go.RowKit Go.Proofs.Ytgcoeahglkpmpaa.Q Go.Proofs.YtgcoeahglkpmpaaW.PrintWords Go.Proofs.YtgcoeahglkpmpaaW.PrintLast Go.Proofs.Ytgcoeahglkpmpaa.M Go.Proofs.Ytgcoeahglkpmpaa.B Go.Proofs.Ytgcoeahglkpmpaa.L1 Go.Proofs.Ytgcoeahglkpmpaa.Lpv

/-- where both come to one answer, the law holds -/
theorem FnExactClassSize_of (l : List Int) (r : Int) (hl : l.length ≤ 1048576) (hs : Ev (fun k => spec_ClassSize.f k l) r) (hi : Ev (fun k => impl_ClassSize.f k l) r) : Ev (fun k => laws_FnExactClassSize.f k l) true := by
  have h0 : l.length ≤ 35184372088832 := by omega
  unfold laws_FnExactClassSize.f
  refine Ev.neg (by omega) ?_
  refine Ev.bind (toIntS l h0) ?_
  refine Ev.bind hs ?_
  refine Ev.bind (toIntS l h0) ?_
  refine Ev.bind hi ?_
  refine Ev.pos rfl ?_
  refine Ev.bind (toIntS l h0) ?_
  refine Ev.bind (eqIntS_self l h0) ?_
  exact Ev.pos rfl (Ev.now _)

def FnExactClassSizeChk (l : List Int) : Bool := match spec_ClassSize.f 120 l with
  | none => false
  | some v => impl_ClassSize.f 120 l == some v
theorem FnExactClassSize_valid : pts.all FnExactClassSizeChk = true := by decide +kernel
theorem FnExactClassSize : laws_FnExactClassSize.Pure := by
  intro l h1 h2 h3
  refine Ev.rounds ?_
  by_cases hb : (l.length : Int) > 1048576
  · unfold laws_FnExactClassSize.f
    exact Ev.pos hb (Ev.now _)
  cases hp : pvB l with
  | true =>
    have hc := pv_cases FnExactClassSizeChk FnExactClassSize_valid l hp
    unfold FnExactClassSizeChk at hc
    split at hc
    · cases hc
    · rename_i v hv
      exact FnExactClassSize_of l v (by omega) (Ev.of (spec_ClassSize.mono l) hv) (Ev.of (impl_ClassSize.mono l) (by simpa using hc))
  | false =>
    refine FnExactClassSize_of l (-1) (by omega) ?_ ?_
    · unfold spec_ClassSize.f
      exact Ev.bind (Ev.same (spec_pv l (by omega)) hp) (Ev.neg (by simp) (Ev.now _))
    · unfold impl_ClassSize.f
      exact Ev.bind (Ev.same (impl_pv l (by omega)) hp) (Ev.neg (by simp) (Ev.now _))
end Go.Proofs.Ytgcoeahglkpmpaa.Pure
