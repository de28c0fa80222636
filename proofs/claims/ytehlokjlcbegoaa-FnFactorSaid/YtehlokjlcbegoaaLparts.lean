import Derived.Test.YtehlokjlcbegoaaLpick
import Derived.Test.YtehlokjlcbegoaaQ1
import Derived.Test.YtehlokjlcbegoaaQ2
/- Drawn partitions: every draw comes to an end, and the row is short. -/
namespace Go.Proofs.Ytehlokjlcbegoaa.Lparts
set_option linter.unusedVariables false
set_option linter.unusedSimpArgs false
open Go.RowKit Go.Proofs.YtehlokjlcbegoaaW.PrintWords Go.Proofs.YtehlokjlcbegoaaW.PrintMore Go.Proofs.Ytehlokjlcbegoaa.Q Go.Proofs.Ytehlokjlcbegoaa.M Go.Proofs.Ytehlokjlcbegoaa.B Go.Proofs.Ytehlokjlcbegoaa.Lpick

def allChk (n : Int) : Bool := match spec_l5All.f 60 n n with
  | none => false
  | some L => decide (1 ≤ L.length) && decide (L.length ≤ 100) && L.all (fun l => decide (1 ≤ l.length) && decide (l.length ≤ 10))
theorem all_small : (List.range 7).all (fun i => allChk (1 + (i : Int))) = true := by decide +kernel
theorem all_p (n : Int) (h0 : 1 ≤ n) (h1 : n ≤ 7) : EvP (fun k => spec_l5All.f k n n) (fun L => (1 ≤ L.length ∧ L.length ≤ 100) ∧ ∀ l ∈ L, 1 ≤ l.length ∧ l.length ≤ 10) := by
  have hc := all_ints 7 (fun i => allChk (1 + i)) all_small (n - 1) (by omega) (by omega)
  simp only [show 1 + (n - 1) = n by omega] at hc
  unfold allChk at hc
  split at hc
  · cases hc
  · rename_i L hL
    simp only [Bool.and_eq_true, decide_eq_true_eq, List.all_eq_true] at hc
    exact EvP.of ⟨hc.1, fun l hl => hc.2 l hl⟩ (Ev.of (spec_l5All.mono n n) hL)
theorem parts_p (b : List Int) (hb : RB b) (p a : Int) (h0 : 1 ≤ a) (ha : a ≤ 7) (h4 : 0 ≤ p) (h5 : p ≤ 10000) :
    EvP (fun k => spec_l91Parts.f k b p a) (fun r => r.1.length ≤ 20 ∧ p ≤ r.2 ∧ r.2 ≤ p + 10) := by
  unfold spec_l91Parts.f
  refine EvP.bind (all_p a h0 ha) (fun L hL => ?_)
  refine EvP.bind (pick_p b p L.length hb h4 (by omega) (by omega) (by omega)) ?_
  rintro ⟨v, p'⟩ ⟨⟨v0, v1⟩, e⟩
  simp only at v0 v1 e
  subst e
  refine EvP.pos v0 ?_
  refine EvP.pos v1 ?_
  have hm : rd_L1 L v ∈ L := by
    show L.getD v.toNat _ ∈ L
    rw [List.getD_eq_getElem?_getD, List.getElem?_eq_getElem (by omega), Option.getD_some]
    exact List.getElem_mem _
  have hl := hL.2 _ hm
  generalize rd_L1 L v = x at hl
  refine EvP.bindc (a := x) ?_ ?_
  · unfold spec_l2Copy.f
    show (if 0 + x.length < 17592186044416 then some ([] ++ x) else none) = _
    rw [if_pos (by omega)]; rfl
  refine EvP.bind (pick_p b (p + 1) 40 hb (by omega) (by omega) (by omega) (by omega)) ?_
  rintro ⟨v, p'⟩ ⟨⟨v0, v1⟩, e⟩
  simp only at v0 v1 e
  subst e
  by_cases c1 : v = 0
  · refine EvP.pos c1 ?_
    refine EvP.bindc rfl ?_
    refine EvP.bind (pick_p b (p + 1 + 1) 3 hb (by omega) (by omega) (by omega) (by omega)) ?_
    rintro ⟨v, p'⟩ ⟨⟨v0, v1⟩, e⟩
    simp only at v0 v1 e
    subst e
    refine EvP.pos v0 ?_
    refine EvP.pos (by show v < 3; omega) ?_
    refine EvP.pos (by omega) ?_
    exact EvP.now ⟨by simp; omega, by show p ≤ p + 1 + 1 + 1; omega, by show p + 1 + 1 + 1 ≤ p + 10; omega⟩
  · refine EvP.neg c1 ?_
    by_cases c2 : v = 1
    · refine EvP.pos c2 ?_
      refine EvP.pos (by omega) ?_
      refine EvP.pos (by omega) ?_
      exact EvP.now ⟨by simp; omega, by show p ≤ p + 1 + 1; omega, by show p + 1 + 1 ≤ p + 10; omega⟩
    · refine EvP.neg c2 ?_
      by_cases c3 : v = 2
      · refine EvP.pos c3 ?_
        exact EvP.now ⟨by simp, by show p ≤ p + 1 + 1; omega, by show p + 1 + 1 ≤ p + 10; omega⟩
      · refine EvP.neg c3 ?_
        exact EvP.now ⟨by show x.length ≤ 20; omega, by show p ≤ p + 1 + 1; omega, by show p + 1 + 1 ≤ p + 10; omega⟩
end Go.Proofs.Ytehlokjlcbegoaa.Lparts
