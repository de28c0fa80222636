/- The program's map of a gluing is the reference's, for every list of numbers. -/
import Derived.Test.YtgcoeahglkpmpaaLmap
import Derived.Test.YtgcoeahglkpmpaaLcorn
import Derived.Test.YtgcoeahglkpmpaaQ34
import Derived.Test.YtgcoeahglkpmpaaQ36
import Derived.Test.YtgcoeahglkpmpaaQ42
namespace Go.Proofs.Ytgcoeahglkpmpaa.Pure
set_option linter.unusedVariables false
set_option linter.unusedSimpArgs false
open Go.RowKit Go.Proofs.Ytgcoeahglkpmpaa.Q Go.Proofs.YtgcoeahglkpmpaaW.PrintWords Go.Proofs.YtgcoeahglkpmpaaW.PrintLast Go.Proofs.Ytgcoeahglkpmpaa.M Go.Proofs.Ytgcoeahglkpmpaa.B Go.Proofs.Ytgcoeahglkpmpaa.L1 Go.Proofs.Ytgcoeahglkpmpaa.Lgv Go.Proofs.Ytgcoeahglkpmpaa.Lcyc Go.Proofs.Ytgcoeahglkpmpaa.Lcorn Go.Proofs.Ytgcoeahglkpmpaa.Lmark Go.Proofs.Ytgcoeahglkpmpaa.Lmap

/-- where both come to one answer, the law holds -/
theorem FnExactGluingMap_of (l a b : List Int) (r : Bool) (hl : l.length ≤ 1048576) (ha : a.length ≤ 1000000) (hb : b.length ≤ 1000000) (hs : Ev (fun k => spec_GluingMap.f k l) (a, b, r)) (hi : Ev (fun k => impl_GluingMap.f k l) (a, b, r)) : Ev (fun k => laws_FnExactGluingMap.f k l) true := by
  have h0 : l.length ≤ 35184372088832 := by omega
  have a0 : a.length ≤ 35184372088832 := by omega
  have b0 : b.length ≤ 35184372088832 := by omega
  unfold laws_FnExactGluingMap.f
  refine Ev.neg (by omega) ?_
  refine Ev.bind (toIntS l h0) ?_
  refine Ev.bind hs ?_
  refine Ev.bind (toIntS l h0) ?_
  refine Ev.bind hi ?_
  refine Ev.bind (eqMap_self a b a0 b0) ?_
  refine Ev.pos rfl ?_
  refine Ev.step (fun k => by simp only [laws_FnExactGluingMap.j0]; rw [if_neg (by simp)]) ?_
  refine Ev.bind (toIntS l h0) ?_
  refine Ev.bind (eqIntS_self l h0) ?_
  refine Ev.pos rfl ?_
  refine Ev.bind (markIntS l 1 (by omega) (by omega) (by omega)) ?_
  refine Ev.neg (by show ¬ ((1 : Int) + l.length < 0); omega) ?_
  refine Ev.bind (eqMap_self a b a0 b0) ?_
  refine Ev.pos rfl ?_
  refine Ev.step (fun k => by simp only [laws_FnExactGluingMap.j1]; rw [if_neg (by simp)]) ?_
  refine Ev.bind (markMap a b 1 (by omega) (by omega) (by omega) (by omega)) ?_
  refine Ev.bind (heldMap a.length b.length 1 (by omega) (by omega) (by omega) (by omega)) ?_
  refine Ev.neg (by omega) ?_
  refine Ev.pos rfl ?_
  refine Ev.bind (toIntS l h0) ?_
  refine Ev.bind hi ?_
  refine Ev.bind (eqMap_self a b a0 b0) ?_
  refine Ev.pos rfl ?_
  refine Ev.step (fun k => by simp only [laws_FnExactGluingMap.j2]; rw [if_neg (by simp)]) ?_
  refine Ev.bind (heldMap a.length b.length 1 (by omega) (by omega) (by omega) (by omega)) ?_
  refine Ev.neg (by omega) ?_
  exact Ev.pos rfl (Ev.now _)
theorem map_spec (l : List Int) (hl : l.length ≤ 1048576) : Ev (fun k => spec_GluingMap.f k l) (if gvB l then (corn l, l, true) else ([], [], false)) := by
  unfold spec_GluingMap.f
  refine Ev.bind (spec_gv l (by omega)) ?_
  cases h : gvB l with
  | false => exact Ev.neg (by simp) (Ev.now _)
  | true =>
    have hg := gv_nn l h
    refine Ev.pos rfl ?_
    refine Ev.bind (spec_corn l hg.1 hg.2.1) ?_
    refine Ev.bindc (a := l) ?_ (Ev.now _)
    unfold spec_l2Copy.f
    show (if 0 + l.length < 17592186044416 then some ([] ++ l) else none) = _
    rw [if_pos (by omega)]; rfl
theorem map_impl (l : List Int) (hl : l.length ≤ 1048576) : Ev (fun k => impl_GluingMap.f k l) (if gvB l then (corn l, l, true) else ([], [], false)) := by
  unfold impl_GluingMap.f
  refine Ev.bind (impl_gv l (by omega)) ?_
  cases h : gvB l with
  | false => exact Ev.neg (by simp) (Ev.now _)
  | true =>
    have hg := gv_nn l h
    refine Ev.pos rfl ?_
    refine Ev.bind (impl_corn l hg.1 hg.2.1) ?_
    refine Ev.bindc (a := l) ?_ (Ev.now _)
    unfold slices_Clone_int_int.f
    rw [if_pos (by omega)]
theorem FnExactGluingMap : laws_FnExactGluingMap.Pure := by
  intro l h1 h2 h3
  refine Ev.rounds ?_
  by_cases hb : (l.length : Int) > 1048576
  · unfold laws_FnExactGluingMap.f
    exact Ev.pos hb (Ev.now _)
  have hs := map_spec l (by omega)
  have hi := map_impl l (by omega)
  cases h : gvB l with
  | false => rw [h] at hs hi; exact FnExactGluingMap_of l [] [] false (by omega) (by simp) (by simp) hs hi
  | true =>
    rw [h] at hs hi
    have hg := gv_nn l h
    exact FnExactGluingMap_of l (corn l) l true (by omega) (by rw [corn_len]; omega) (by omega) hs hi
end Go.Proofs.Ytgcoeahglkpmpaa.Pure
