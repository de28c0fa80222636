/- The program's value of a character is the reference's, for every two lists of numbers. -/
import Derived.Test.YtgcoeahglkpmpaaL1
import Derived.Test.YtgcoeahglkpmpaaLpv
import Derived.Test.YtgcoeahglkpmpaaQ69
namespace Go.Proofs.Ytgcoeahglkpmpaa.Pure
set_option linter.unusedVariables false
set_option linter.unusedSimpArgs false
open Go.RowKit Go.Proofs.Ytgcoeahglkpmpaa.Q Go.Proofs.YtgcoeahglkpmpaaW.PrintWords Go.Proofs.YtgcoeahglkpmpaaW.PrintLast Go.Proofs.Ytgcoeahglkpmpaa.M Go.Proofs.Ytgcoeahglkpmpaa.B Go.Proofs.Ytgcoeahglkpmpaa.L1 Go.Proofs.Ytgcoeahglkpmpaa.Lpv

theorem FnExactCharValue_of (l m : List Int) (r : Int) (b : Bool) (hl : l.length ≤ 1048576) (hm : m.length ≤ 1048576) (hs : Ev (fun k => spec_CharValue.f k l m) (r, b)) (hi : Ev (fun k => impl_CharValue.f k l m) (r, b)) : Ev (fun k => laws_FnExactCharValue.f k l m) true := by
  have h0 : l.length ≤ 35184372088832 := by omega
  have h1 : m.length ≤ 35184372088832 := by omega
  unfold laws_FnExactCharValue.f
  refine Ev.neg (by omega) ?_
  refine Ev.neg (by omega) ?_
  refine Ev.bind (toIntS l h0) ?_
  refine Ev.bind (toIntS m h1) ?_
  refine Ev.bind hs ?_
  refine Ev.bind (toIntS l h0) ?_
  refine Ev.bind (toIntS m h1) ?_
  refine Ev.bind hi ?_
  refine Ev.pos rfl ?_
  refine Ev.step (fun k => by simp only [laws_FnExactCharValue.j0]; rw [if_neg (by simp)]) ?_
  refine Ev.bind (toIntS l h0) ?_
  refine Ev.bind (eqIntS_self l h0) ?_
  refine Ev.pos rfl ?_
  refine Ev.bind (toIntS m h1) ?_
  refine Ev.bind (eqIntS_self m h1) ?_
  exact Ev.pos rfl (Ev.now _)
def charChk (l m : List Int) : Bool := match spec_CharValue.f 400 l m with
  | none => false
  | some v => impl_CharValue.f 400 l m == some v
theorem char_valid : pts.all (fun l => pts.all (charChk l)) = true := by decide +kernel
theorem FnExactCharValue : laws_FnExactCharValue.Pure := by
  intro l m h1 h2 h3 g1 g2 g3
  refine Ev.rounds ?_
  by_cases hb : (l.length : Int) > 1048576
  · unfold laws_FnExactCharValue.f
    exact Ev.pos hb (Ev.now _)
  by_cases hb2 : (m.length : Int) > 1048576
  · unfold laws_FnExactCharValue.f
    exact Ev.neg hb (Ev.pos hb2 (Ev.now _))
  have e1 := impl_pv l (by omega)
  have e2 := impl_pv m (by omega)
  have e3 := spec_pv l (by omega)
  have e4 := spec_pv m (by omega)
  cases hp : pvB l with
  | true =>
    rw [hp] at e1 e3
    cases hq : pvB m with
    | true =>
      have hc := pv_cases (charChk l) (pv_cases (fun l => pts.all (charChk l)) char_valid l hp) m hq
      unfold charChk at hc
      split at hc
      · cases hc
      · rename_i v hv
        exact FnExactCharValue_of l m v.1 v.2 (by omega) (by omega) (Ev.of (spec_CharValue.mono l m) hv) (Ev.of (impl_CharValue.mono l m) (by simpa using hc))
    | false =>
      rw [hq] at e2 e4
      refine FnExactCharValue_of l m 0 false (by omega) (by omega) ?_ ?_
      · unfold spec_CharValue.f
        exact Ev.bind e3 (Ev.pos rfl (Ev.bind e4 (Ev.neg (by simp) (Ev.now _))))
      · unfold impl_CharValue.f
        exact Ev.bind e1 (Ev.pos rfl (Ev.bind e2 (Ev.neg (by simp) (Ev.ret (fun k => by simp only [impl_CharValue.j0]; rfl)))))
  | false =>
    rw [hp] at e1 e3
    refine FnExactCharValue_of l m 0 false (by omega) (by omega) ?_ ?_
    · unfold spec_CharValue.f
      exact Ev.bind e3 (Ev.neg (by simp) (Ev.now _))
    · unfold impl_CharValue.f
      exact Ev.bind e1 (Ev.neg (by simp) (Ev.ret (fun k => by simp only [impl_CharValue.j0]; rfl)))
end Go.Proofs.Ytgcoeahglkpmpaa.Pure
