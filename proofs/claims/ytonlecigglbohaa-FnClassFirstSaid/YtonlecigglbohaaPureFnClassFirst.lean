import Derived.Test.YtonlecigglbohaaLparts
import Derived.Test.YtonlecigglbohaaLpv
import Derived.Test.YtonlecigglbohaaQ10
/- The first of a class: the law, for every code. -/
namespace Go.Proofs.Ytonlecigglbohaa.Pure
set_option linter.unusedVariables false
set_option linter.unusedSimpArgs false
open Go.RowKit Go.Proofs.Ytonlecigglbohaa.Q Go.Proofs.YtonlecigglbohaaW.PrintWords Go.Proofs.YtonlecigglbohaaW.PrintLast Go.Proofs.Ytonlecigglbohaa.M Go.Proofs.Ytonlecigglbohaa.B Go.Proofs.Ytonlecigglbohaa.Lpick Go.Proofs.Ytonlecigglbohaa.Lparts Go.Proofs.Ytonlecigglbohaa.Lpv

/-- the law behind the draw -/
def theRest (k : Nat) (x : List Int) : Option Bool := (impl_ClassFirst.f k x).bind fun p => (spec_ClassFirst.f k x).bind fun q => if (p.2 != q.2) = true then laws_FnClassFirst.j0 k x p.1 p.2 q.1 q.2 true else (laws_sameInts.f k p.1 q.1).bind fun t => if t = true then laws_FnClassFirst.j0 k x p.1 p.2 q.1 q.2 (!p.2) else laws_FnClassFirst.j0 k x p.1 p.2 q.1 q.2 true
theorem theRest_mono (x : List Int) : ∀ k, LeO (theRest k x) (theRest (k + 1) x) := by
  intro k
  have ih0 := laws_FnClassFirst.mono_l k
  unfold theRest
  repeat' first
      | (with_reducible exact ih0.1 _ _ _ _ _ _)
      | (with_reducible exact impl_ClassFirst.mono _ _)
      | (with_reducible exact laws_sameInts.mono _ _ _)
      | (with_reducible exact spec_ClassFirst.mono _ _)
      | (with_reducible exact LeO.refl _)
      | (with_reducible exact LeO.none _)
      | (with_reducible refine LeO.ite ?_ ?_)
      | (with_reducible refine LeO.bind ?_ (fun _ => ?_))
theorem rest_valid : pts.all (fun l => theRest 400 l == some true) = true := by decide +kernel
theorem FnClassFirst : laws_FnClassFirst.Pure := by
  intro l h1 h2 h3
  refine Ev.rounds ?_
  unfold laws_FnClassFirst.f
  by_cases hb : (l.length : Int) > 1048576
  · exact Ev.pos hb (Ev.now _)
  refine Ev.neg hb ?_
  have hd0 : EvP (fun k => spec_DrawPartsConj.f k l) (fun x => x.length ≤ 20) := by
    obtain ⟨b, hb, hrb⟩ := open_rb l h3
    unfold spec_DrawPartsConj.f
    refine EvP.bindc hb ?_
    refine EvP.bind (pick_p b 0 6 hrb (by omega) (by omega) (by omega) (by omega)) ?_
    rintro ⟨v, p'⟩ ⟨⟨v0, v1⟩, e⟩
    simp only at v0 v1 e
    subst e
    have e1 : wrap64 (1 + v) = 1 + v := wr _ (by omega) (by omega)
    simp only [e1]
    refine EvP.bind (parts_p b hrb _ (1 + v) (by omega) (by omega) (by omega) (by omega)) (fun r h => ?_)
    exact EvP.now h.1
  have hd : EvP (fun k => spec_DrawClassFirst.f k l) (fun x => x.length ≤ 20) := by
    unfold spec_DrawClassFirst.f
    exact EvP.bind hd0 (fun r h => EvP.now h)
  refine Ev.bindp hd ?_
  intro x hx
  cases hp : pvB x with
  | true =>
    have hc : theRest 400 x = some true := by simpa using pv_cases (fun l => theRest 400 l == some true) rest_valid x hp
    exact Ev.congr (fun k => show _ = theRest k x from rfl) (Ev.of (theRest_mono x) hc)
  | false =>
    have hv : Ev (fun k => spec_PartsValid.f k x) false := Ev.same (spec_pv x (by omega)) hp
    have rest : Ev (fun k => spec_ClassFirst.j1 k x [] 0 false) ([], false) := by
      refine Ev.step (fun k => by simp only [spec_ClassFirst.j1]; rw [if_neg (by simp)]) ?_
      exact Ev.bind hv (Ev.now _)
    have hs : Ev (fun k => spec_ClassFirst.f k x) ([], false) := by
      unfold spec_ClassFirst.f
      by_cases h : (0 : Int) < x.length
      · refine Ev.step (fun k => by simp only [spec_ClassFirst.l0]; rw [if_pos h]) ?_
        exact Ev.bind hv rest
      · exact Ev.step (fun k => by simp only [spec_ClassFirst.l0]; rw [if_neg h]) rest
    have hi : Ev (fun k => impl_ClassFirst.f k x) ([], false) := by
      unfold impl_ClassFirst.f
      exact Ev.bind (Ev.same (impl_pv x (by omega)) hp) (Ev.neg (by simp) (Ev.now _))
    refine Ev.bind hi ?_
    refine Ev.bind hs ?_
    refine Ev.neg (by simp) ?_
    have h0 : Ev (fun k => laws_sameInts.f k ([] : List Int) []) true := by
      unfold laws_sameInts.f
      exact Ev.pos rfl (Ev.ret (fun k => by simp only [laws_sameInts.l0]; rw [if_neg (by simp)]))
    refine Ev.bind h0 ?_
    refine Ev.pos rfl ?_
    refine Ev.step (fun k => by simp only [laws_FnClassFirst.j0]; rw [if_pos (by rfl), if_pos (by rfl)]) ?_
    exact Ev.bind h0 (Ev.now _)
end Go.Proofs.Ytonlecigglbohaa.Pure
