import Derived.Test.YtonlecigglbohaaLdraw
import Derived.Test.YtonlecigglbohaaLgl
import Derived.Test.YtonlecigglbohaaQ10
/- The map of a gluing: the law, for every code. -/
namespace Go.Proofs.Ytonlecigglbohaa.Pure
set_option linter.unusedVariables false
set_option linter.unusedSimpArgs false
open Go.RowKit Go.Proofs.Ytonlecigglbohaa.Q Go.Proofs.YtonlecigglbohaaW.PrintWords Go.Proofs.YtonlecigglbohaaW.PrintLast Go.Proofs.Ytonlecigglbohaa.M Go.Proofs.Ytonlecigglbohaa.B Go.Proofs.Ytonlecigglbohaa.Lpick Go.Proofs.Ytonlecigglbohaa.Ldraw Go.Proofs.Ytonlecigglbohaa.Lgv Go.Proofs.Ytonlecigglbohaa.Lgl

/-- the law behind the draw -/
def mapRest (k : Nat) (x : List Int) : Option Bool := (impl_GluingMap.f k x).bind fun p => (spec_GluingMap.f k x).bind fun q => if (p.2.2 != q.2.2) = true then laws_FnGluingMap.j0 k x p.2.2 q.2.2 true p.1 p.2.1 q.1 q.2.1 else (laws_sameMap.f k p.1 p.2.1 q.1 q.2.1).bind fun t => if t = true then laws_FnGluingMap.j0 k x p.2.2 q.2.2 (!p.2.2) p.1 p.2.1 q.1 q.2.1 else laws_FnGluingMap.j0 k x p.2.2 q.2.2 true p.1 p.2.1 q.1 q.2.1
theorem mapRest_mono (x : List Int) : ∀ k, LeO (mapRest k x) (mapRest (k + 1) x) := by
  intro k
  have ih0 := laws_FnGluingMap.mono_l k
  unfold mapRest
  repeat' first
      | (with_reducible exact ih0 _ _ _ _ _ _ _ _)
      | (with_reducible exact impl_GluingMap.mono _ _)
      | (with_reducible exact laws_sameMap.mono _ _ _ _ _)
      | (with_reducible exact spec_GluingMap.mono _ _)
      | (with_reducible exact LeO.refl _)
      | (with_reducible exact LeO.none _)
      | (with_reducible refine LeO.ite ?_ ?_)
      | (with_reducible refine LeO.bind ?_ (fun _ => ?_))
def mapChk (x : List Int) : Bool := mapRest 800 x == some true
theorem map_1 : (gls 1).all mapChk = true := by decide +kernel
theorem map_2 : (gls 2).all mapChk = true := by decide +kernel
theorem map_3 : (gls 3).all mapChk = true := by decide +kernel
theorem map_4 : (gls 4).all mapChk = true := by decide +kernel
theorem map_5_0 : (gl5 0).all mapChk = true := by decide +kernel
theorem map_5_1 : (gl5 1).all mapChk = true := by decide +kernel
theorem map_5_2 : (gl5 2).all mapChk = true := by decide +kernel
theorem map_5_3 : (gl5 3).all mapChk = true := by decide +kernel
theorem map_5_4 : (gl5 4).all mapChk = true := by decide +kernel
theorem map_5_5 : (gl5 5).all mapChk = true := by decide +kernel
theorem map_5_6 : (gl5 6).all mapChk = true := by decide +kernel
theorem map_5_7 : (gl5 7).all mapChk = true := by decide +kernel
theorem map_5_8 : (gl5 8).all mapChk = true := by decide +kernel
theorem map_5 : (gls 5).all mapChk = true := gl5_all mapChk map_5_0 map_5_1 map_5_2 map_5_3 map_5_4 map_5_5 map_5_6 map_5_7 map_5_8
theorem FnGluingMap : laws_FnGluingMap.Pure := by
  intro l h1 h2 h3
  refine Ev.rounds ?_
  unfold laws_FnGluingMap.f
  by_cases hb : (l.length : Int) > 1048576
  · exact Ev.pos hb (Ev.now _)
  refine Ev.neg hb ?_
  have hd : EvP (fun k => spec_DrawGluingMap.f k l) (fun x => x.length ≤ 1000) := by
    obtain ⟨b, hb, hrb⟩ := open_rb l h3
    unfold spec_DrawGluingMap.f
    refine EvP.bindc hb ?_
    refine EvP.bind (gl_p b hrb 0 5 (by omega) (by omega) (by omega) (by omega)) (fun r h => ?_)
    exact EvP.now (by omega)
  refine Ev.bindp hd ?_
  intro x hx
  cases hg : gvB x with
  | true =>
    have hc : mapRest 800 x = some true := by simpa [mapChk] using gv_cases mapChk map_1 map_2 map_3 map_4 map_5 x hg
    exact Ev.congr (fun k => show _ = mapRest k x from rfl) (Ev.of (mapRest_mono x) hc)
  | false =>
    have hi : Ev (fun k => impl_GluingMap.f k x) ([], [], false) := by unfold impl_GluingMap.f; exact Ev.bind (Ev.same (impl_gv x (by omega)) hg) (Ev.neg (by simp) (Ev.now _))
    have hs : Ev (fun k => spec_GluingMap.f k x) ([], [], false) := by unfold spec_GluingMap.f; exact Ev.bind (Ev.same (spec_gv x (by omega)) hg) (Ev.neg (by simp) (Ev.now _))
    refine Ev.bind hi ?_
    refine Ev.bind hs ?_
    refine Ev.neg (by simp) ?_
    have h0 : Ev (fun k => laws_sameMap.f k ([] : List Int) [] [] []) true := Ev.of (r := true) (fun k => laws_sameMap.mono _ _ _ _ k) (k := 5) (by decide +kernel)
    refine Ev.bind h0 ?_
    refine Ev.pos rfl ?_
    refine Ev.step (fun k => by simp only [laws_FnGluingMap.j0]; rw [if_pos (by rfl), if_pos (by rfl)]) ?_
    exact Ev.bind h0 (Ev.now _)
end Go.Proofs.Ytonlecigglbohaa.Pure
