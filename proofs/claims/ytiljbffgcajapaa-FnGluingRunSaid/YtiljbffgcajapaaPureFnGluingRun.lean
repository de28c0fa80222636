/- All gluings are counted by genus: the law of the recursion, for every code. -/
import Derived.Test.YtiljbffgcajapaaL1
import Derived.Test.YtiljbffgcajapaaLpick
import Derived.Test.YtiljbffgcajapaaQ23
namespace Go.Proofs.Ytiljbffgcajapaa.Pure
set_option linter.unusedVariables false
set_option linter.unusedSimpArgs false
open Go.RowKit Go.Proofs.Ytiljbffgcajapaa.Q Go.Proofs.YtiljbffgcajapaaW.PrintWords Go.Proofs.YtiljbffgcajapaaW.PrintLast Go.Proofs.Ytiljbffgcajapaa.B Go.Proofs.Ytiljbffgcajapaa.L1 Go.Proofs.Ytiljbffgcajapaa.Lpick

def runChk (n g : Int) : Bool := match impl_GluingRun.f n g with
  | none => false
  | some v => spec_GluingRun.f 40 n g == some v && laws_FnGluingRun.j0 60 n g v v (decide (v < 0)) == some true
theorem run_small : (List.range 10).all (fun n => (List.range 6).all (fun g => runChk (n : Int) (g : Int))) = true := by decide +kernel
theorem FnGluingRun : laws_FnGluingRun.Pure := by
  intro l h1 h2 h3
  refine Ev.rounds ?_
  unfold laws_FnGluingRun.f
  by_cases hb : (l.length : Int) > 1048576
  · exact Ev.pos hb (Ev.now _)
  refine Ev.neg hb ?_
  have hd : EvP (fun k => spec_DrawGluingRun.f k l) (fun _ => True) := by
    obtain ⟨b, hb, hrb⟩ := open_rb l h3
    unfold spec_DrawGluingRun.f spec_DrawRootedRun.f
    refine EvP.bind (P := fun _ => True) ?_ (fun _ _ => EvP.now trivial)
    refine EvP.bindc hb ?_
    refine EvP.bind (pick_p b 0 11 hrb (by omega) (by omega) (by omega) (by omega)) (fun r1 h1 => ?_)
    refine EvP.bind (pick_p b r1.2 16 hrb (by omega) (by omega) (by omega) (by omega)) (fun r2 h2 => ?_)
    refine EvP.bind (pick_p b r2.2 7 hrb (by omega) (by omega) (by omega) (by omega)) (fun r3 h3 => ?_)
    refine EvP.bind (pick_p b r3.2 16 hrb (by omega) (by omega) (by omega) (by omega)) (fun r4 h4 => ?_)
    exact EvP.now trivial
  refine Ev.bindp hd ?_
  rintro ⟨n, g⟩ -
  show Ev (fun k => (impl_GluingRun.f n g).bind _) true
  by_cases h : (0 ≤ n ∧ n < 10) ∧ 0 ≤ g ∧ g < 6
  · obtain ⟨⟨h1, h2⟩, h3, h4⟩ := h
    have hc := all_ints2 10 6 runChk run_small n g h1 h2 h3 h4
    unfold runChk at hc
    split at hc
    · cases hc
    · rename_i v hv
      simp only [Bool.and_eq_true, beq_iff_eq] at hc
      refine Ev.bindc hv ?_
      refine Ev.bind (Ev.of (spec_GluingRun.mono _ _) hc.1) ?_
      refine Ev.pos rfl ?_
      exact Ev.of (fun k => (laws_FnGluingRun.mono_l k).1 _ _ _ _ _) hc.2
  · have hi : impl_GluingRun.f n g = some (-1) := by
      unfold impl_GluingRun.f
      by_cases a1 : n < 0
      · rw [if_pos a1]
      by_cases a2 : n > 9
      · rw [if_neg a1, if_pos a2]
      by_cases a3 : g < 0
      · rw [if_neg a1, if_neg a2, if_pos a3]
      rw [if_neg a1, if_neg a2, if_neg a3, if_pos (by omega)]
    have hs : ∀ k, spec_GluingRun.f k n g = some (-1) := fun k => by
      unfold spec_GluingRun.f
      simp only [l6In, Option.bind_some]
      by_cases a1 : 0 ≤ n ∧ n ≤ 9
      · have a2 : ¬ (0 ≤ g ∧ g ≤ 5) := by omega
        simp [a1, a2]
      · simp [a1]
    refine Ev.bindc hi ?_
    refine Ev.bind (a := -1) (Ev.congr (fun k => hs k) (Ev.now _)) ?_
    refine Ev.pos rfl (Ev.ret (fun k => ?_))
    simp only [laws_FnGluingRun.j0]
    rfl
end Go.Proofs.Ytiljbffgcajapaa.Pure
