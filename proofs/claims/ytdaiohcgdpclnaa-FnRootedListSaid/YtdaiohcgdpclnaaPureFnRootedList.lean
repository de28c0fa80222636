import Derived.Test.YtdaiohcgdpclnaaLrL
import Derived.Test.YtdaiohcgdpclnaaLrD
import Derived.Test.YtdaiohcgdpclnaaQ4
import Derived.Test.YtdaiohcgdpclnaaQ11
import Derived.Test.YtdaiohcgdpclnaaQ10
/- Each rooted map is there once: the law, for every code. -/
namespace Go.Proofs.Ytdaiohcgdpclnaa.Pure
set_option linter.unusedVariables false
open Go.RowKit Go.Proofs.YtdaiohcgdpclnaaW.PrintWords Go.Proofs.YtdaiohcgdpclnaaW.PrintMore Go.Proofs.Ytdaiohcgdpclnaa.Q Go.Proofs.Ytdaiohcgdpclnaa.M Go.Proofs.Ytdaiohcgdpclnaa.B Go.Proofs.Ytdaiohcgdpclnaa.Lpick Go.Proofs.Ytdaiohcgdpclnaa.LrA

theorem draw_p (l : List Int) (h3 : ∀ x ∈ l, (Lit.int .u8 x).wf = true) : EvP (fun k => spec_DrawRootedList.f k l) (fun _ => True) := by
  obtain ⟨b, hb, hrb⟩ := open_rb l h3
  unfold spec_DrawRootedList.f
  exact EvP.bindc hb (EvP.bind (edges_p b hrb 0 2 (by omega) (by omega) (by omega) (by omega) (by omega)) (fun r _ => EvP.now trivial))
theorem s0 : laws_sameMaps.f 400 [] [] = some true := by decide +kernel
theorem s10 : laws_sameMaps.f 400 (sel 0 le1) (sel 0 le1) = some true := by decide +kernel
theorem s20 : laws_sameMaps.f 400 (sel 0 le2) (sel 0 le2) = some true := by decide +kernel
theorem s21 : laws_sameMaps.f 400 (sel 1 le2) (sel 1 le2) = some true := by decide +kernel
theorem same_rl (e g : Int) : laws_sameMaps.f 400 (rlR e g).1 (rlR e g).1 = some true := by
  unfold rlR
  by_cases c : 1 ≤ e ∧ e ≤ 2 ∧ 0 ≤ g
  · rw [if_pos c]
    exact lst_cases (fun _ _ L => laws_sameMaps.f 400 L L = some true) s10 s20 s21 (fun _ _ _ _ => s0) e g c.1 c.2.1
  · rw [if_neg c]; exact s0
theorem a10 : [0, 1].all (fun r => laws_FnRootedList.all 400 1 0 r (sel 0 le1) (sel 0 le1) 0) = true := by decide +kernel
theorem a20_0 : laws_FnRootedList.all 400 2 0 0 (sel 0 le2) (sel 0 le2) 0 = true := by decide +kernel
theorem a20_1 : laws_FnRootedList.all 400 2 0 1 (sel 0 le2) (sel 0 le2) 0 = true := by decide +kernel
theorem a20_2 : laws_FnRootedList.all 400 2 0 2 (sel 0 le2) (sel 0 le2) 0 = true := by decide +kernel
theorem a20_3 : laws_FnRootedList.all 400 2 0 3 (sel 0 le2) (sel 0 le2) 0 = true := by decide +kernel
theorem a21 : [0, 1, 2, 3].all (fun r => laws_FnRootedList.all 400 2 1 r (sel 1 le2) (sel 1 le2) 0) = true := by decide +kernel
theorem len10 : (sel 0 le1).length ≤ 1000 := by decide +kernel
theorem len20 : (sel 0 le2).length ≤ 1000 := by decide +kernel
theorem len21 : (sel 1 le2).length ≤ 1000 := by decide +kernel
theorem all_rl (e g : Int) (h0 : 1 ≤ e) (h1 : e ≤ 2) : ∀ r, 0 ≤ r → r < 2 * e → (lst e g).length ≤ 1000 ∧ laws_FnRootedList.all 400 e g r (lst e g) (lst e g) 0 = true := by
  refine lst_cases (fun e g L => ∀ r, 0 ≤ r → r < 2 * e → L.length ≤ 1000 ∧ laws_FnRootedList.all 400 e g r L L 0 = true) ?_ ?_ ?_ ?_ e g h0 h1
  · intro r r0 r1
    have h := a10
    simp only [List.all_cons, List.all_nil, Bool.and_eq_true] at h
    have : r = 0 ∨ r = 1 := by omega
    rcases this with rfl | rfl
    · exact ⟨len10, h.1⟩
    · exact ⟨len10, h.2.1⟩
  · intro r r0 r1
    have : r = 0 ∨ r = 1 ∨ r = 2 ∨ r = 3 := by omega
    rcases this with rfl | rfl | rfl | rfl
    · exact ⟨len20, a20_0⟩
    · exact ⟨len20, a20_1⟩
    · exact ⟨len20, a20_2⟩
    · exact ⟨len20, a20_3⟩
  · intro r r0 r1
    have h := a21
    simp only [List.all_cons, List.all_nil, Bool.and_eq_true] at h
    have : r = 0 ∨ r = 1 ∨ r = 2 ∨ r = 3 := by omega
    rcases this with rfl | rfl | rfl | rfl
    · exact ⟨len21, h.1⟩
    · exact ⟨len21, h.2.1⟩
    · exact ⟨len21, h.2.2.1⟩
    · exact ⟨len21, h.2.2.2.1⟩
  · intro e g _ _ r _ _
    exact ⟨by simp, rfl⟩
theorem cnt_rl (e g : Int) (h0 : 1 ≤ e) (h1 : e ≤ 2) (h2 : 0 ≤ g) : impl_RootedCount.f e g = some ((lst e g).length : Int) := by
  unfold impl_RootedCount.f
  rw [if_neg (by omega), if_neg (by omega), if_neg (by omega), impl_all e g h0 h1]
  rfl
theorem FnRootedList : laws_FnRootedList.Pure := by
  intro l0 l1 h1 h2 h3 g1 g2 g3
  refine Ev.rounds ?_
  unfold laws_FnRootedList.f
  by_cases b1 : (l0.length : Int) > 1048576
  · exact Ev.pos b1 (Ev.now _)
  refine Ev.neg b1 ?_
  by_cases b2 : (l1.length : Int) > 1048576
  · exact Ev.pos b2 (Ev.now _)
  refine Ev.neg b2 ?_
  refine Ev.bindp (draw_p l0 h3) ?_
  rintro ⟨e, g⟩ _
  dsimp only
  refine Ev.bindc (impl_rl e g) (Ev.bind (spec_rl e g) ?_)
  refine Ev.pos ⟨rfl, same_rl e g⟩ ?_
  by_cases c : 1 ≤ e ∧ e ≤ 2 ∧ 0 ≤ g
  · rw [show rlR e g = (lst e g, true) from if_pos c]
    have t0 := Int.tmod_nonneg (a := (l1.length : Int)) (2 * e) (by omega)
    have t1 := Int.tmod_lt_of_pos (l1.length : Int) (b := 2 * e) (by omega)
    obtain ⟨a1, a2⟩ := all_rl e g c.1 c.2.1 _ t0 t1
    exact Ev.pos rfl (Ev.pos ⟨⟨a1, by omega, by omega⟩, cnt_rl e g c.1 c.2.1 c.2.2, a2⟩ (Ev.now _))
  · rw [show rlR e g = ([], false) from if_neg c]
    exact Ev.neg (by simp) (Ev.now _)
end Go.Proofs.Ytdaiohcgdpclnaa.Pure
