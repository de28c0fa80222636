import Derived.Test.YtkfeildndcdbaaaLpick
import Derived.Test.YtkfeildndcdbaaaQ5
import Derived.Test.YtkfeildndcdbaaaQ6
/- Gluings are counted by their recursion: the law, for every code. -/
namespace Go.Proofs.Ytkfeildndcdbaaa.Pure
set_option linter.unusedVariables false
set_option linter.unusedSimpArgs false
open Go.RowKit Go.Proofs.Ytkfeildndcdbaaa.Q Go.Proofs.YtkfeildndcdbaaaW.PrintWords Go.Proofs.YtkfeildndcdbaaaW.PrintLast Go.Proofs.Ytkfeildndcdbaaa.M Go.Proofs.Ytkfeildndcdbaaa.B Go.Proofs.Ytkfeildndcdbaaa.Lpick

theorem edges_p (b : List Int) (hb : RB b) (p a : Int) (h0 : 0 ≤ a) (ha : a ≤ 10) (h1 : 1 ≤ a) (h4 : 0 ≤ p) (h5 : p ≤ 5000) :
    EvP (fun k => spec_l91Edges.f k b p a) (fun r => (-1 ≤ r.1 ∧ r.1 ≤ a + 1) ∧ -1 ≤ r.2.1 ∧ r.2.1 ≤ 2) := by
  unfold spec_l91Edges.f
  refine EvP.bind (pick_p b p 16 hb h4 (by omega) (by omega) (by omega)) ?_
  rintro ⟨v, p'⟩ ⟨⟨v0, v1⟩, e⟩
  simp only at v0 v1 e
  subst e
  have ea : wrap64 (a + 1) = a + 1 := wr _ (by omega) (by omega)
  by_cases c : v = 0
  · refine EvP.pos c ?_
    refine EvP.bindc rfl ?_
    refine EvP.bind (pick_p b (p + 1) 3 hb (by omega) (by omega) (by omega) (by omega)) ?_
    rintro ⟨u, p'⟩ ⟨⟨u0, u1⟩, e⟩
    simp only at u0 u1 e
    subst e
    refine EvP.pos u0 ?_
    refine EvP.pos (by show u < 3; omega) ?_
    refine EvP.bind (pick_p b (p + 1 + 1) 3 hb (by omega) (by omega) (by omega) (by omega)) ?_
    rintro ⟨t, p'⟩ ⟨⟨t0, t1⟩, e⟩
    simp only at t0 t1 e
    subst e
    refine EvP.now ⟨?_, ?_⟩
    · show -1 ≤ rd [0, wrap64 (a + 1), -1] u ∧ rd [0, wrap64 (a + 1), -1] u ≤ a + 1
      rw [ea]
      have hu : u = 0 ∨ u = 1 ∨ u = 2 := by omega
      rcases hu with rfl | rfl | rfl
      · show -1 ≤ (0 : Int) ∧ (0 : Int) ≤ a + 1; omega
      · show -1 ≤ a + 1 ∧ a + 1 ≤ a + 1; omega
      · show -1 ≤ (-1 : Int) ∧ (-1 : Int) ≤ a + 1; omega
    · show -1 ≤ wrap64 (t - 1) ∧ wrap64 (t - 1) ≤ 2
      rw [wr _ (by omega) (by omega)]; omega
  · refine EvP.neg c ?_
    refine EvP.bind (pick_p b (p + 1) a hb (by omega) (by omega) (by omega) (by omega)) ?_
    rintro ⟨u, p'⟩ ⟨⟨u0, u1⟩, e⟩
    simp only at u0 u1 e
    subst e
    refine EvP.bind (pick_p b (p + 1 + 1) 3 hb (by omega) (by omega) (by omega) (by omega)) ?_
    rintro ⟨t, p'⟩ ⟨⟨t0, t1⟩, e⟩
    simp only at t0 t1 e
    subst e
    refine EvP.now ⟨?_, ?_⟩
    · show -1 ≤ wrap64 (1 + u) ∧ wrap64 (1 + u) ≤ a + 1
      rw [wr _ (by omega) (by omega)]; omega
    · show -1 ≤ t ∧ t ≤ 2
      omega
/-- the law behind the draw -/
def cntRest (k : Nat) (n g : Int) : Option Bool := (impl_GluingCount.f n g).bind fun a => (spec_GluingCount.f k n g).bind fun b => if a = b then laws_FnGluingCount.j0 k n g a b (decide (a < 0)) else laws_FnGluingCount.j0 k n g a b true
theorem cntRest_mono (n g : Int) : ∀ k, LeO (cntRest k n g) (cntRest (k + 1) n g) := by
  intro k
  have ih0 := laws_FnGluingCount.mono_l k
  unfold cntRest
  repeat' first
      | (with_reducible exact ih0 _ _ _ _ _)
      | (with_reducible exact spec_GluingCount.mono _ _ _)
      | (with_reducible exact LeO.refl _)
      | (with_reducible exact LeO.none _)
      | (with_reducible refine LeO.ite ?_ ?_)
      | (with_reducible refine LeO.bind ?_ (fun _ => ?_))
theorem all_cnt : (List.range 7).all (fun i => (List.range 4).all (fun j => cntRest 600 ((i : Int) - 1) ((j : Int) - 1) == some true)) = true := by decide +kernel
theorem FnGluingCount : laws_FnGluingCount.Pure := by
  intro l h1 h2 h3
  refine Ev.rounds ?_
  unfold laws_FnGluingCount.f
  by_cases hb : (l.length : Int) > 1048576
  · exact Ev.pos hb (Ev.now _)
  refine Ev.neg hb ?_
  have hd : EvP (fun k => spec_DrawGluingCount.f k l) (fun r => (-1 ≤ r.1 ∧ r.1 ≤ 5) ∧ -1 ≤ r.2 ∧ r.2 ≤ 2) := by
    obtain ⟨b, hb, hrb⟩ := open_rb l h3
    unfold spec_DrawGluingCount.f
    refine EvP.bindc hb ?_
    refine EvP.bind (edges_p b hrb 0 4 (by omega) (by omega) (by omega) (by omega) (by omega)) (fun r h => ?_)
    exact EvP.now ⟨by have := h.1; exact ⟨by omega, by omega⟩, h.2⟩
  refine Ev.bindp hd ?_
  rintro ⟨n, g⟩ ⟨⟨n0, n1⟩, g0, g1⟩
  simp only at n0 n1 g0 g1
  have hc : cntRest 600 n g = some true := by
    have := all_ints2 7 4 (fun x y => cntRest 600 (x - 1) (y - 1) == some true) all_cnt (n + 1) (g + 1) (by omega) (by omega) (by omega) (by omega)
    simp only [Int.add_sub_cancel] at this
    simpa using this
  exact Ev.congr (fun k => show _ = cntRest k n g from rfl) (Ev.of (cntRest_mono n g) hc)
end Go.Proofs.Ytkfeildndcdbaaa.Pure
