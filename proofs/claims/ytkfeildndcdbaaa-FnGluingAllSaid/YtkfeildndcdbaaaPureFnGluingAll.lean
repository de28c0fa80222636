import Derived.Test.YtkfeildndcdbaaaLpick
import Derived.Test.YtkfeildndcdbaaaQ5
/- Each gluing is there once: the law, for every code. -/
namespace Go.Proofs.Ytkfeildndcdbaaa.Pure
set_option linter.unusedVariables false
set_option linter.unusedSimpArgs false
open Go.RowKit Go.Proofs.Ytkfeildndcdbaaa.Q Go.Proofs.YtkfeildndcdbaaaW.PrintWords Go.Proofs.YtkfeildndcdbaaaW.PrintLast Go.Proofs.Ytkfeildndcdbaaa.M Go.Proofs.Ytkfeildndcdbaaa.B Go.Proofs.Ytkfeildndcdbaaa.Lpick

/-- the law behind the draw -/
def allRest (k : Nat) (n : Int) : Option Bool := (impl_GluingAll.f n).bind fun p => (spec_GluingAll.f k n).bind fun q => if (p.2 != q.2) = true then laws_FnGluingAll.j0 k n p.1 p.2 q.1 q.2 true else (laws_sameLists.f k p.1 q.1).bind fun t => if t = true then laws_FnGluingAll.j0 k n p.1 p.2 q.1 q.2 (!p.2) else laws_FnGluingAll.j0 k n p.1 p.2 q.1 q.2 true
theorem allRest_mono (n : Int) : ∀ k, LeO (allRest k n) (allRest (k + 1) n) := by
  intro k
  have ih0 := (laws_FnGluingAll.mono_l k).1
  unfold allRest
  repeat' first
      | (with_reducible exact ih0 _ _ _ _ _ _)
      | (with_reducible exact laws_sameLists.mono _ _ _)
      | (with_reducible exact spec_GluingAll.mono _ _)
      | (with_reducible exact LeO.refl _)
      | (with_reducible exact LeO.none _)
      | (with_reducible refine LeO.ite ?_ ?_)
      | (with_reducible refine LeO.bind ?_ (fun _ => ?_))
theorem all_five : (List.range 5).all (fun n => allRest 400 (n : Int) == some true) = true := by decide +kernel
theorem FnGluingAll : laws_FnGluingAll.Pure := by
  intro l h1 h2 h3
  refine Ev.rounds ?_
  unfold laws_FnGluingAll.f
  by_cases hb : (l.length : Int) > 1048576
  · exact Ev.pos hb (Ev.now _)
  refine Ev.neg hb ?_
  have hd : EvP (fun k => spec_DrawGluingAll.f k l) (fun n => 0 ≤ n ∧ n < 5) := by
    obtain ⟨b, hb, hrb⟩ := open_rb l h3
    unfold spec_DrawGluingAll.f
    refine EvP.bindc hb ?_
    refine EvP.bind (pick_p b 0 5 hrb (by omega) (by omega) (by omega) (by omega)) (fun r h => ?_)
    exact EvP.now h.1
  refine Ev.bindp hd ?_
  rintro n ⟨n0, n1⟩
  have hc : allRest 400 n = some true := by simpa using all_ints 5 (fun n => allRest 400 n == some true) all_five n n0 n1
  exact Ev.congr (fun k => show _ = allRest k n from rfl) (Ev.of (allRest_mono n) hc)
end Go.Proofs.Ytkfeildndcdbaaa.Pure
