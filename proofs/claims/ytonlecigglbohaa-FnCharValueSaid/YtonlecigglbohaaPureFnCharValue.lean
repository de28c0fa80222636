import Derived.Test.YtonlecigglbohaaLpair
import Derived.Test.YtonlecigglbohaaLpv
import Derived.Test.YtonlecigglbohaaQ8
/- Values of characters: the law, for every code. -/
namespace Go.Proofs.Ytonlecigglbohaa.Pure
set_option linter.unusedVariables false
set_option linter.unusedSimpArgs false
open Go.RowKit Go.Proofs.Ytonlecigglbohaa.Q Go.Proofs.YtonlecigglbohaaW.PrintWords Go.Proofs.YtonlecigglbohaaW.PrintLast Go.Proofs.Ytonlecigglbohaa.M Go.Proofs.Ytonlecigglbohaa.B Go.Proofs.Ytonlecigglbohaa.Lpick Go.Proofs.Ytonlecigglbohaa.Lparts Go.Proofs.Ytonlecigglbohaa.Lpair Go.Proofs.Ytonlecigglbohaa.Lpv

/-- the law behind the draw -/
def charRest (k : Nat) (x y : List Int) : Option Bool := (impl_CharValue.f k x y).bind fun p => (spec_CharValue.f k x y).bind fun q => if (p.2 != q.2) = true then laws_FnCharValue.j0 k x y p.1 p.2 q.1 q.2 true else if p.1 = q.1 then laws_FnCharValue.j0 k x y p.1 p.2 q.1 q.2 (!p.2) else laws_FnCharValue.j0 k x y p.1 p.2 q.1 q.2 true
theorem charRest_mono (x y : List Int) : ∀ k, LeO (charRest k x y) (charRest (k + 1) x y) := by
  intro k
  have ih0 := laws_FnCharValue.mono_l k
  unfold charRest
  repeat' first
      | (with_reducible exact ih0 _ _ _ _ _ _ _)
      | (with_reducible exact impl_CharValue.mono _ _ _)
      | (with_reducible exact spec_CharValue.mono _ _ _)
      | (with_reducible exact LeO.refl _)
      | (with_reducible exact LeO.none _)
      | (with_reducible refine LeO.ite ?_ ?_)
      | (with_reducible refine LeO.bind ?_ (fun _ => ?_))
theorem char_valid : pts.all (fun l => pts.all (fun m => charRest 400 l m == some true)) = true := by decide +kernel
theorem FnCharValue : laws_FnCharValue.Pure := by
  intro l h1 h2 h3
  refine Ev.rounds ?_
  unfold laws_FnCharValue.f
  by_cases hb : (l.length : Int) > 1048576
  · exact Ev.pos hb (Ev.now _)
  refine Ev.neg hb ?_
  have hd : EvP (fun k => spec_DrawCharValue.f k l) (fun r => r.1.length ≤ 20 ∧ r.2.length ≤ 20) := by
    obtain ⟨b, hb, hrb⟩ := open_rb l h3
    unfold spec_DrawCharValue.f
    refine EvP.bindc hb ?_
    refine EvP.bind (pair_p b hrb 0 6 (by omega) (by omega) (by omega) (by omega)) (fun r h => ?_)
    exact EvP.now h
  refine Ev.bindp hd ?_
  rintro ⟨x, y⟩ ⟨hx, hy⟩
  simp only at hx hy
  have e1 := impl_pv x (by omega)
  have e2 := impl_pv y (by omega)
  have e3 := spec_pv x (by omega)
  have e4 := spec_pv y (by omega)
  have no : Ev (fun k => spec_CharValue.f k x y) (0, false) → Ev (fun k => impl_CharValue.f k x y) (0, false) → Ev (fun k => charRest k x y) true := by
    intro hs hi
    unfold charRest
    refine Ev.bind hi ?_
    refine Ev.bind hs ?_
    refine Ev.neg (by simp) ?_
    refine Ev.pos rfl ?_
    exact Ev.ret (fun k => by simp only [laws_FnCharValue.j0]; rfl)
  refine Ev.congr (fun k => show _ = charRest k x y from rfl) ?_
  cases hp : pvB x with
  | true =>
    rw [hp] at e1 e3
    cases hq : pvB y with
    | true =>
      have hc : charRest 400 x y = some true := by
        simpa using pv_cases (fun m => charRest 400 x m == some true) (pv_cases (fun l => pts.all (fun m => charRest 400 l m == some true)) char_valid x hp) y hq
      exact Ev.of (charRest_mono x y) hc
    | false =>
      rw [hq] at e2 e4
      refine no ?_ ?_
      · unfold spec_CharValue.f
        exact Ev.bind e3 (Ev.pos rfl (Ev.bind e4 (Ev.neg (by simp) (Ev.now _))))
      · unfold impl_CharValue.f
        exact Ev.bind e1 (Ev.pos rfl (Ev.bind e2 (Ev.neg (by simp) (Ev.ret (fun k => by simp only [impl_CharValue.j0]; rfl)))))
  | false =>
    rw [hp] at e1 e3
    refine no ?_ ?_
    · unfold spec_CharValue.f
      exact Ev.bind e3 (Ev.neg (by simp) (Ev.now _))
    · unfold impl_CharValue.f
      exact Ev.bind e1 (Ev.neg (by simp) (Ev.ret (fun k => by simp only [impl_CharValue.j0]; rfl)))
end Go.Proofs.Ytonlecigglbohaa.Pure
