import Derived.Test.YtkfeildndcdbaaaLpick
import Derived.Test.YtkfeildndcdbaaaQ25
/- Trees of swaps: the law, for every code. -/
namespace Go.Proofs.Ytkfeildndcdbaaa.Pure
set_option linter.unusedVariables false
set_option linter.unusedSimpArgs false
open Go.RowKit Go.Proofs.Ytkfeildndcdbaaa.Q Go.Proofs.YtkfeildndcdbaaaW.PrintWords Go.Proofs.YtkfeildndcdbaaaW.PrintLast Go.Proofs.Ytkfeildndcdbaaa.M Go.Proofs.Ytkfeildndcdbaaa.B Go.Proofs.Ytkfeildndcdbaaa.Lpick

/-- the law behind the draw -/
def treeRest (k : Nat) (n : Int) : Option Bool := (impl_PartsAll.f n).bind fun p => (spec_PartsAll.f k n).bind fun q => if (p.2 != q.2) = true then laws_FnTreesOfSwaps.j0 k n p.1 p.2 q.1 q.2 true else (laws_sameLists.f k p.1 q.1).bind fun t => if t = true then laws_FnTreesOfSwaps.j0 k n p.1 p.2 q.1 q.2 (!p.2) else laws_FnTreesOfSwaps.j0 k n p.1 p.2 q.1 q.2 true
theorem treeRest_mono (n : Int) : ∀ k, LeO (treeRest k n) (treeRest (k + 1) n) := by
  intro k
  obtain ⟨ih0, ih1⟩ := laws_FnTreesOfSwaps.mono_l k
  unfold treeRest
  repeat' first
      | (with_reducible exact ih0 _ _ _ _ _ _)
      | (with_reducible exact laws_sameLists.mono _ _ _)
      | (with_reducible exact spec_PartsAll.mono _ _)
      | (with_reducible exact LeO.refl _)
      | (with_reducible exact LeO.none _)
      | (with_reducible refine LeO.ite ?_ ?_)
      | (with_reducible refine LeO.bind ?_ (fun _ => ?_))
theorem tree_eight : (List.range 8).all (fun n => treeRest 600 (n : Int) == some true) = true := by decide +kernel
theorem FnTreesOfSwaps : laws_FnTreesOfSwaps.Pure := by
  intro l h1 h2 h3
  refine Ev.rounds ?_
  unfold laws_FnTreesOfSwaps.f
  by_cases hb : (l.length : Int) > 1048576
  · exact Ev.pos hb (Ev.now _)
  refine Ev.neg hb ?_
  have hd : EvP (fun k => spec_DrawPartsAll.f k l) (fun n => 0 ≤ n ∧ n < 8) := by
    obtain ⟨b, hb, hrb⟩ := open_rb l h3
    unfold spec_DrawPartsAll.f
    refine EvP.bindc hb ?_
    refine EvP.bind (pick_p b 0 8 hrb (by omega) (by omega) (by omega) (by omega)) (fun r h => ?_)
    exact EvP.now h.1
  refine Ev.bindp hd ?_
  rintro n ⟨n0, n1⟩
  have hc : treeRest 600 n = some true := by simpa using all_ints 8 (fun n => treeRest 600 n == some true) tree_eight n n0 n1
  exact Ev.congr (fun k => show _ = treeRest k n from rfl) (Ev.of (treeRest_mono n) hc)
end Go.Proofs.Ytkfeildndcdbaaa.Pure
