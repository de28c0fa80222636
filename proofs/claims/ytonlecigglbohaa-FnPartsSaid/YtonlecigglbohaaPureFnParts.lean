import Derived.Test.YtonlecigglbohaaLparts
import Derived.Test.YtonlecigglbohaaLpv
import Derived.Test.YtonlecigglbohaaQ8
/- Partitions are types: the law, for every code. -/
namespace Go.Proofs.Ytonlecigglbohaa.Pure
set_option linter.unusedVariables false
set_option linter.unusedSimpArgs false
open Go.RowKit Go.Proofs.Ytonlecigglbohaa.Q Go.Proofs.YtonlecigglbohaaW.PrintWords Go.Proofs.YtonlecigglbohaaW.PrintLast Go.Proofs.Ytonlecigglbohaa.M Go.Proofs.Ytonlecigglbohaa.B Go.Proofs.Ytonlecigglbohaa.Lpick Go.Proofs.Ytonlecigglbohaa.Lparts Go.Proofs.Ytonlecigglbohaa.Lpv

/-- the law behind the draw -/
def theRest (k : Nat) (x : List Int) : Option Bool := (impl_PartsValid.f k x).bind fun a => (spec_PartsValid.f k x).bind fun b => if (a != b) = true then laws_FnParts.j0 k x a b true else laws_FnParts.j0 k x a b (!a)
theorem theRest_mono (x : List Int) : ∀ k, LeO (theRest k x) (theRest (k + 1) x) := by
  intro k
  have ih0 := laws_FnParts.mono_l k
  unfold theRest
  repeat' first
      | (with_reducible exact ih0.1 _ _ _ _)
      | (with_reducible exact impl_PartsValid.mono _ _)
      | (with_reducible exact spec_PartsValid.mono _ _)
      | (with_reducible exact LeO.refl _)
      | (with_reducible exact LeO.none _)
      | (with_reducible refine LeO.ite ?_ ?_)
      | (with_reducible refine LeO.bind ?_ (fun _ => ?_))
theorem rest_valid : pts.all (fun l => theRest 400 l == some true) = true := by decide +kernel
theorem FnParts : laws_FnParts.Pure := by
  intro l h1 h2 h3
  refine Ev.rounds ?_
  unfold laws_FnParts.f
  by_cases hb : (l.length : Int) > 1048576
  · exact Ev.pos hb (Ev.now _)
  refine Ev.neg hb ?_
  have hd : EvP (fun k => spec_DrawPartsValid.f k l) (fun x => x.length ≤ 20) := by
    obtain ⟨b, hb, hrb⟩ := open_rb l h3
    unfold spec_DrawPartsValid.f
    refine EvP.bindc hb ?_
    refine EvP.bind (pick_p b 0 7 hrb (by omega) (by omega) (by omega) (by omega)) ?_
    rintro ⟨v, p'⟩ ⟨⟨v0, v1⟩, e⟩
    simp only at v0 v1 e
    subst e
    have e1 : wrap64 (1 + v) = 1 + v := wr _ (by omega) (by omega)
    simp only [e1]
    refine EvP.bind (parts_p b hrb _ (1 + v) (by omega) (by omega) (by omega) (by omega)) (fun r h => ?_)
    exact EvP.now h.1
  refine Ev.bindp hd ?_
  intro x hx
  cases hp : pvB x with
  | true =>
    have hc : theRest 400 x = some true := by simpa using pv_cases (fun l => theRest 400 l == some true) rest_valid x hp
    exact Ev.congr (fun k => show _ = theRest k x from rfl) (Ev.of (theRest_mono x) hc)
  | false =>
    refine Ev.bind (Ev.same (impl_pv x (by omega)) hp) ?_
    refine Ev.bind (Ev.same (spec_pv x (by omega)) hp) ?_
    refine Ev.neg (by simp) ?_
    exact Ev.ret (fun k => by simp only [laws_FnParts.j0]; rfl)
end Go.Proofs.Ytonlecigglbohaa.Pure
