/- The program's degree of a character is the reference's, for every list of numbers. -/
import Derived.Test.YtgcoeahglkpmpaaL1
import Derived.Test.YtgcoeahglkpmpaaLpv
import Derived.Test.YtgcoeahglkpmpaaQ48
namespace Go.Proofs.Ytgcoeahglkpmpaa.Pure
set_option linter.unusedVariables false
set_option linter.unusedSimpArgs false
open Go.RowKit Go.Proofs.Ytgcoeahglkpmpaa.Q Go.Proofs.YtgcoeahglkpmpaaW.PrintWords Go.Proofs.YtgcoeahglkpmpaaW.PrintLast Go.Proofs.Ytgcoeahglkpmpaa.M Go.Proofs.Ytgcoeahglkpmpaa.B Go.Proofs.Ytgcoeahglkpmpaa.L1 Go.Proofs.Ytgcoeahglkpmpaa.Lpv

/-- where both come to one answer, the law holds -/
theorem FnExactCharDegree_of (l : List Int) (r : Int) (hl : l.length ≤ 1048576) (hs : Ev (fun k => spec_CharDegree.f k l) r) (hi : Ev (fun k => impl_CharDegree.f k l) r) : Ev (fun k => laws_FnExactCharDegree.f k l) true := by
  have h0 : l.length ≤ 35184372088832 := by omega
  unfold laws_FnExactCharDegree.f
  refine Ev.neg (by omega) ?_
  refine Ev.bind (toIntS l h0) ?_
  refine Ev.bind hs ?_
  refine Ev.bind (toIntS l h0) ?_
  refine Ev.bind hi ?_
  refine Ev.pos rfl ?_
  refine Ev.bind (toIntS l h0) ?_
  refine Ev.bind (eqIntS_self l h0) ?_
  exact Ev.pos rfl (Ev.now _)

def FnExactCharDegreeChk (l : List Int) : Bool := match spec_CharDegree.f 120 l with
  | none => false
  | some v => impl_CharDegree.f 120 l == some v
theorem FnExactCharDegree_valid : pts.all FnExactCharDegreeChk = true := by decide +kernel
theorem FnExactCharDegree : laws_FnExactCharDegree.Pure := by
  intro l h1 h2 h3
  refine Ev.rounds ?_
  by_cases hb : (l.length : Int) > 1048576
  · unfold laws_FnExactCharDegree.f
    exact Ev.pos hb (Ev.now _)
  cases hp : pvB l with
  | true =>
    have hc := pv_cases FnExactCharDegreeChk FnExactCharDegree_valid l hp
    unfold FnExactCharDegreeChk at hc
    split at hc
    · cases hc
    · rename_i v hv
      exact FnExactCharDegree_of l v (by omega) (Ev.of (spec_CharDegree.mono l) hv) (Ev.of (impl_CharDegree.mono l) (by simpa using hc))
  | false =>
    refine FnExactCharDegree_of l (-1) (by omega) ?_ ?_
    · unfold spec_CharDegree.f
      exact Ev.bind (Ev.same (spec_pv l (by omega)) hp) (Ev.neg (by simp) (Ev.now _))
    · unfold impl_CharDegree.f
      exact Ev.bind (Ev.same (impl_pv l (by omega)) hp) (Ev.neg (by simp) (Ev.now _))
end Go.Proofs.Ytgcoeahglkpmpaa.Pure
