import Derived.Test.YtgcoeahglkpmpaaLparts
import Derived.Test.YtgcoeahglkpmpaaLpv
import Derived.Test.YtgcoeahglkpmpaaQ7
/- The degree is the character where nothing moves: the law, for every code. -/
namespace Go.Proofs.Ytgcoeahglkpmpaa.Pure
set_option linter.unusedVariables false
set_option linter.unusedSimpArgs false
open Go.RowKit Go.Proofs.Ytgcoeahglkpmpaa.Q Go.Proofs.YtgcoeahglkpmpaaW.PrintWords Go.Proofs.YtgcoeahglkpmpaaW.PrintLast Go.Proofs.Ytgcoeahglkpmpaa.M Go.Proofs.Ytgcoeahglkpmpaa.B Go.Proofs.Ytgcoeahglkpmpaa.Lpick Go.Proofs.Ytgcoeahglkpmpaa.Lparts Go.Proofs.Ytgcoeahglkpmpaa.Lpv

/-- the law behind the draw -/
def theRest (k : Nat) (x : List Int) : Option Bool := (impl_CharDegree.f k x).bind fun a => (spec_CharDegree.f k x).bind fun b => if a = b then laws_FnDegree.j0 k x a b (decide (a < 0)) else laws_FnDegree.j0 k x a b true
theorem theRest_mono (x : List Int) : ∀ k, LeO (theRest k x) (theRest (k + 1) x) := by
  intro k
  have ih0 := laws_FnDegree.mono_l k
  unfold theRest
  repeat' first
      | (with_reducible exact ih0.1 _ _ _ _)
      | (with_reducible exact impl_CharDegree.mono _ _)
      | (with_reducible exact spec_CharDegree.mono _ _)
      | (with_reducible exact LeO.refl _)
      | (with_reducible exact LeO.none _)
      | (with_reducible refine LeO.ite ?_ ?_)
      | (with_reducible refine LeO.bind ?_ (fun _ => ?_))
theorem rest_valid : pts.all (fun l => theRest 3000 l == some true) = true := by decide +kernel
theorem FnDegree : laws_FnDegree.Pure := by
  intro l h1 h2 h3
  refine Ev.rounds ?_
  unfold laws_FnDegree.f
  by_cases hb : (l.length : Int) > 1048576
  · exact Ev.pos hb (Ev.now _)
  refine Ev.neg hb ?_
  have hd0 : EvP (fun k => spec_DrawPartsConj.f k l) (fun x => x.length ≤ 20) := by
    obtain ⟨b, hb, hrb⟩ := open_rb l h3
    unfold spec_DrawPartsConj.f
    refine EvP.bindc hb ?_
    refine EvP.bind (pick_p b 0 6 hrb (by omega) (by omega) (by omega) (by omega)) ?_
    rintro ⟨v, p'⟩ ⟨⟨v0, v1⟩, e⟩
    simp only at v0 v1 e
    subst e
    have e1 : wrap64 (1 + v) = 1 + v := wr _ (by omega) (by omega)
    simp only [e1]
    refine EvP.bind (parts_p b hrb _ (1 + v) (by omega) (by omega) (by omega) (by omega)) (fun r h => ?_)
    exact EvP.now h.1
  have hd : EvP (fun k => spec_DrawCharDegree.f k l) (fun x => x.length ≤ 20) := by
    unfold spec_DrawCharDegree.f
    exact EvP.bind hd0 (fun r h => EvP.now h)
  refine Ev.bindp hd ?_
  intro x hx
  cases hp : pvB x with
  | true =>
    have hc : theRest 3000 x = some true := by simpa using pv_cases (fun l => theRest 3000 l == some true) rest_valid x hp
    exact Ev.congr (fun k => show _ = theRest k x from rfl) (Ev.of (theRest_mono x) hc)
  | false =>
    have hs : Ev (fun k => spec_CharDegree.f k x) (-1) := by
      unfold spec_CharDegree.f
      exact Ev.bind (Ev.same (spec_pv x (by omega)) hp) (Ev.neg (by simp) (Ev.now _))
    have hi : Ev (fun k => impl_CharDegree.f k x) (-1) := by
      unfold impl_CharDegree.f
      exact Ev.bind (Ev.same (impl_pv x (by omega)) hp) (Ev.neg (by simp) (Ev.now _))
    refine Ev.bind hi ?_
    refine Ev.bind hs ?_
    refine Ev.pos rfl ?_
    exact Ev.ret (fun k => by simp only [laws_FnDegree.j0]; rfl)
end Go.Proofs.Ytgcoeahglkpmpaa.Pure
