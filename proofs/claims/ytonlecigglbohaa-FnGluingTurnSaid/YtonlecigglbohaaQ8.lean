import Derived.Test.YtonlecigglbohaaQ0
import Derived.Test.YtonlecigglbohaaQ1
import Derived.Test.YtonlecigglbohaaQ2
import Derived.Test.YtonlecigglbohaaQ4
import Derived.Test.YtonlecigglbohaaQ5
import Derived.Test.YtonlecigglbohaaQ7
import Derived.Test.YtonlecigglbohaaQ3
namespace Go.Proofs.Ytonlecigglbohaa.Q
open Go.RowKit Go.Proofs.YtonlecigglbohaaW.PrintWords Go.Proofs.YtonlecigglbohaaW.PrintLast Go.Proofs.YtonlecigglbohaaW.PrintMore
attribute [local go_sem] max2_int min2_int max_two min_two max_three min_three max_four min_four   -- for this text's walks alone
set_option linter.unusedVariables false
set_option linter.unusedSimpArgs false

/-! ### impl_MapSame: function 58 -/
def impl_MapSame.j0 : Nat → Bool → List Int → List Int → List Int → List Int → Option (Bool)
  | 0, _, _, _, _, _ => none
  | k + 1, x21, x365000, x365001, x366000, x366001 => if x21 = true then (some false) else ((impl_leastForm.f k x365000 x365001).bind fun bt368 => ((impl_leastForm.f k x366000 x366001).bind fun bt374 => ((impl_compareMaps.f k bt368.1 bt368.2 bt374.1 bt374.2).bind fun t380 => (some (t380 == 0)))))
def impl_MapSame.f (k : Nat) (l0_0 : List Int) (l0_1 : List Int) (l1_0 : List Int) (l1_1 : List Int) : Option (Bool) := (impl_MapValid.f k l0_0 l0_1).bind fun t366 => (if t366 = true then ((impl_MapValid.f k l1_0 l1_1).bind fun t367 => (if t367 = true then (impl_MapSame.j0 k ((l0_0.length : Int) != (l1_0.length : Int)) l0_0 l0_1 l1_0 l1_1) else (impl_MapSame.j0 k true l0_0 l0_1 l1_0 l1_1))) else (impl_MapSame.j0 k true l0_0 l0_1 l1_0 l1_1))
theorem impl_MapSame.mono_l : ∀ k, (∀ y0 y1 y2 y3 y4, LeO (impl_MapSame.j0 k y0 y1 y2 y3 y4) (impl_MapSame.j0 (k + 1) y0 y1 y2 y3 y4))
  | 0 => fun _ _ _ _ _ r h => by simp [impl_MapSame.j0] at h
  | k + 1 => by
    have ih0 := impl_MapSame.mono_l k
    · intro y0 y1 y2 y3 y4
      unfold impl_MapSame.j0
      repeat' first
      | (with_reducible exact ih0 _ _ _ _ _)
      | (with_reducible exact impl_MapValid.mono _ _ _)
      | (with_reducible exact impl_compareMaps.mono _ _ _ _ _)
      | (with_reducible exact impl_leastForm.mono _ _ _)
      | (with_reducible exact LeO.refl _)
      | (with_reducible exact LeO.none _)
      | (with_reducible refine LeO.ite ?_ ?_)
      | (with_reducible refine LeO.bind ?_ (fun _ => ?_))
      | exact ih0 _ _ _ _ _
      | exact impl_MapValid.mono _ _ _
      | exact impl_compareMaps.mono _ _ _ _ _
      | exact impl_leastForm.mono _ _ _
      | exact LeO.none _
      | refine LeO.ite ?_ ?_
      | refine LeO.bind ?_ (fun _ => ?_)
theorem impl_MapSame.mono : ∀ a0 a1 a2 a3 k, LeO (impl_MapSame.f k a0 a1 a2 a3) (impl_MapSame.f (k + 1) a0 a1 a2 a3) := by
  intro a0 a1 a2 a3 k
  have ih0 := impl_MapSame.mono_l k
  unfold impl_MapSame.f
  repeat' first
      | (with_reducible exact ih0 _ _ _ _ _)
      | (with_reducible exact impl_MapValid.mono _ _ _)
      | (with_reducible exact impl_compareMaps.mono _ _ _ _ _)
      | (with_reducible exact impl_leastForm.mono _ _ _)
      | (with_reducible exact LeO.refl _)
      | (with_reducible exact LeO.none _)
      | (with_reducible refine LeO.ite ?_ ?_)
      | (with_reducible refine LeO.bind ?_ (fun _ => ?_))
      | exact ih0 _ _ _ _ _
      | exact impl_MapValid.mono _ _ _
      | exact impl_compareMaps.mono _ _ _ _ _
      | exact impl_leastForm.mono _ _ _
      | exact LeO.none _
      | refine LeO.ite ?_ ?_
      | refine LeO.bind ?_ (fun _ => ?_)
set_option maxHeartbeats 8000000 in
set_option maxRecDepth 100000 in
theorem impl_MapSame.calls (k : Nat) (A0_0 : Option Addr) (c0_0 : Nat) (l0_0 : List Int) (A0_1 : Option Addr) (c0_1 : Nat) (l0_1 : List Int) (A1_0 : Option Addr) (c1_0 : Nat) (l1_0 : List Int) (A1_1 : Option Addr) (c1_1 : Nat) (l1_1 : List Int) (r : Bool) (w : World) (hr0_0 : Kd.C (Kd.int .i64) w A0_0 l0_0.length l0_0) (hc0_0 : l0_0.length ≤ c0_0) (hr0_1 : Kd.C (Kd.int .i64) w A0_1 l0_1.length l0_1) (hc0_1 : l0_1.length ≤ c0_1) (hr1_0 : Kd.C (Kd.int .i64) w A1_0 l1_0.length l1_0) (hc1_0 : l1_0.length ≤ c1_0) (hr1_1 : Kd.C (Kd.int .i64) w A1_1 l1_1.length l1_1) (hc1_1 : l1_1.length ≤ c1_1) (h : impl_MapSame.f k l0_0 l0_1 l1_0 l1_1 = some r) :
    Calls Try.prog 58 #[.agg #[.slice A0_0 l0_0.length c0_0, .slice A0_1 l0_1.length c0_1], .agg #[.slice A1_0 l1_0.length c1_0, .slice A1_1 l1_1.length c1_1]] w fun e w' => e = .returned (.bool r) ∧ Below w.heap.size w w' := by
  have hu27 := Try.underlying27
  have HR0_0 := Aside0.mk hr0_0
  have HC0_0 := Aside0.mk hc0_0
  clear hr0_0 hc0_0
  have HR0_1 := Aside0.mk hr0_1
  have HC0_1 := Aside0.mk hc0_1
  clear hr0_1 hc0_1
  have HR1_0 := Aside0.mk hr1_0
  have HC1_0 := Aside0.mk hc1_0
  clear hr1_0 hc1_0
  have HR1_1 := Aside0.mk hr1_1
  have HC1_1 := Aside0.mk hc1_1
  clear hr1_1 hc1_1
  have HB := Aside0.mk (Below.refl w.heap.size w)
  have H : ((impl_MapValid.f k l0_0 l0_1).bind fun t366 => (if t366 = true then ((impl_MapValid.f k l1_0 l1_1).bind fun t367 => (if t367 = true then (impl_MapSame.j0 k ((l0_0.length : Int) != (l1_0.length : Int)) l0_0 l0_1 l1_0 l1_1) else (impl_MapSame.j0 k true l0_0 l0_1 l1_0 l1_1))) else (impl_MapSame.j0 k true l0_0 l0_1 l1_0 l1_1))) = some r := h
  clear h
  have HC3 := Aside0.mk H
  clear H
  go_enter Try.func58, Try.ntmps58
  go_upto_region 1 with (first | ((with_reducible refine gate_dst (N := 2) rfl ?_); (try (refine gate_guard (by rfl) ?_; dsimp only)); refine box_event ?hg (N := 2) ?hd (cs := #[.slice A0_0 l0_0.length c0_0, .slice A0_1 l0_1.length c0_1]) (t := 27) ?hr ?_; (case hd => rfl); (case hg => rfl); (case hr => first | (go_simp; done) | (go_simp; rfl)); intro gb364 hg w4 hbox hb; have n0_ := Aside0.mk (below_step (by repeat (first | (with_reducible first | exact HB.out | apply below_alloc | apply pw_below_drewN | apply below_drew1) | exact HB.out)) hb); have n1_ := Aside0.mk (hbox); have n2_ := Aside0.mk ((by rw [hg]; exact (below_size (by repeat (first | (with_reducible first | exact HB.out | apply below_alloc | apply pw_below_drewN | apply below_drew1) | exact HB.out))) : w.heap.size ≤ gb364)); have n3_ := Aside0.mk ((by rw [hg]; exact (below_size (by repeat (first | (with_reducible first | exact HB.out | apply below_alloc | apply pw_below_drewN | apply below_drew1) | exact HB.out))) : w.heap.size ≤ gb364)); clear HB; have HB := n0_; have BK364 := n1_; have GW364 := n2_; have GE364 := n3_; clear n0_ n1_ n2_ n3_; clear hb hbox hg) | ((with_reducible refine gate_dst (N := 3) rfl ?_); (try (refine gate_guard (by rfl) ?_; dsimp only)); refine box_event ?hg (N := 3) ?hd (cs := #[.slice A1_0 l1_0.length c1_0, .slice A1_1 l1_1.length c1_1]) (t := 27) ?hr ?_; (case hd => rfl); (case hg => rfl); (case hr => first | (go_simp; done) | (go_simp; rfl)); intro gb365 hg w5 hbox hb; have n0_ := Aside0.mk (blk_below (g := gb364) (o := .cells #[.slice A0_0 l0_0.length c0_0, .slice A0_1 l0_1.length c0_1] 27 (0, 0)) (by (with_reducible repeat (first | refine blk_drewN ?_ _ | refine blk_drew ?_ | refine blk_alloc ?_ _)); exact BK364.out) hb); have n1_ := Aside0.mk (below_step (by repeat (first | (with_reducible first | exact HB.out | apply below_alloc | apply pw_below_drewN | apply below_drew1 | refine below_set ?_ GE364.out) | exact HB.out)) hb); have n2_ := Aside0.mk (hbox); have n3_ := Aside0.mk ((by rw [hg]; exact (below_size (by repeat (first | (with_reducible first | exact HB.out | apply below_alloc | apply pw_below_drewN | apply below_drew1 | refine below_set ?_ GE364.out) | exact HB.out))) : w.heap.size ≤ gb365)); have n4_ := Aside0.mk ((by rw [hg]; exact (below_size (by repeat (first | (with_reducible first | exact HB.out | apply below_alloc | apply pw_below_drewN | apply below_drew1 | refine below_set ?_ GE364.out) | exact HB.out))) : w.heap.size ≤ gb365)); have n5_ := Aside0.mk ((by rw [hg]; exact Nat.ne_of_lt (blk_lt (g := gb364) (o := .cells #[.slice A0_0 l0_0.length c0_0, .slice A0_1 l0_1.length c0_1] 27 (0, 0)) (by (with_reducible repeat (first | refine blk_drewN ?_ _ | refine blk_drew ?_ | refine blk_alloc ?_ _)); exact BK364.out)) : gb364 ≠ gb365)); have n6_ := Aside0.mk ((by rw [hg]; exact Nat.ne_of_gt (blk_lt (g := gb364) (o := .cells #[.slice A0_0 l0_0.length c0_0, .slice A0_1 l0_1.length c0_1] 27 (0, 0)) (by (with_reducible repeat (first | refine blk_drewN ?_ _ | refine blk_drew ?_ | refine blk_alloc ?_ _)); exact BK364.out)) : gb365 ≠ gb364)); clear BK364; clear HB; have BK364 := n0_; have HB := n1_; have BK365 := n2_; have GW365 := n3_; have GE365 := n4_; have NB364_365 := n5_; have NB365_364 := n6_; clear n0_ n1_ n2_ n3_ n4_ n5_ n6_; clear hb hbox hg))
  (try simp only [Act.put, List.setIfInBounds_toArray, List.set_cons_zero, List.set_cons_succ])
  go_cut [21] (fun v21 wc => ∃ (kq : Nat) (x21_2 : Bool), v21 = .bool x21_2 ∧ Aside0 (impl_MapSame.j0 kq x21_2 l0_0 l0_1 l1_0 l1_1 = some r) ∧ Aside0 (kq ≤ k) ∧ Aside0 (wc.heap[gb364]? = some (.cells #[(.slice A0_0 l0_0.length c0_0), (.slice A0_1 l0_1.length c0_1)] 27 (0, 0))) ∧ Aside0 (wc.heap[gb365]? = some (.cells #[(.slice A1_0 l1_0.length c1_0), (.slice A1_1 l1_1.length c1_1)] 27 (0, 0))) ∧ Aside0 (Below w.heap.size w wc))
  case first =>
    have H := HC3.out
    clear HC3
    replace H := Option.bind_eq_some_iff.mp H
    obtain ⟨t366, A60, H⟩ := H
    replace H : (if t366 = true then ((impl_MapValid.f k l1_0 l1_1).bind fun t367 => (if t367 = true then (impl_MapSame.j0 k ((l0_0.length : Int) != (l1_0.length : Int)) l0_0 l0_1 l1_0 l1_1) else (impl_MapSame.j0 k true l0_0 l0_1 l1_0 l1_1))) else (impl_MapSame.j0 k true l0_0 l0_1 l1_0 l1_1)) = some r := H
    have A6 := Aside0.mk A60
    clear A60
    by_cases c7 : t366 = true
    · subst c7
      have H1 : ((impl_MapValid.f k l1_0 l1_1).bind fun t367 => (if t367 = true then (impl_MapSame.j0 k ((l0_0.length : Int) != (l1_0.length : Int)) l0_0 l0_1 l1_0 l1_1) else (impl_MapSame.j0 k true l0_0 l0_1 l1_0 l1_1))) = some r := by rw [if_pos rfl] at H; exact H
      clear H
      have H := H1
      clear H1
      replace H := Option.bind_eq_some_iff.mp H
      obtain ⟨t367, A80, H⟩ := H
      replace H : (if t367 = true then (impl_MapSame.j0 k ((l0_0.length : Int) != (l1_0.length : Int)) l0_0 l0_1 l1_0 l1_1) else (impl_MapSame.j0 k true l0_0 l0_1 l1_0 l1_1)) = some r := H
      have A8 := Aside0.mk A80
      clear A80
      by_cases c9 : t367 = true
      · subst c9
        have H1 : (impl_MapSame.j0 k ((l0_0.length : Int) != (l1_0.length : Int)) l0_0 l0_1 l1_0 l1_1) = some r := by rw [if_pos rfl] at H; exact H
        clear H
        have H := H1
        clear H1
        have H' := Aside0.mk H
        clear H
        have hnb10 := NB364_365.out
        have hnc10 := NB365_364.out
        have hcz11_0 : w5.cell? ⟨gb364, 0, none⟩ = some (.slice A0_0 l0_0.length c0_0) := (blk_cell BK364.out 0).trans rfl
        have hcz11_1 : w5.cell? ⟨gb364, 1, none⟩ = some (.slice A0_1 l0_1.length c0_1) := (blk_cell BK364.out 1).trans rfl
        have hfz11_0 := blk_frozen BK364.out 0
        have hfz11_1 := blk_frozen BK364.out 1
        go_wp2_with (first | ((with_reducible refine gate_callee (f := 33) rfl ?_); refine goesL_ (some 6) rfl rfl Try.func33 (by kernel_rfl) rfl #[.agg #[.slice A0_0 l0_0.length c0_0, .slice A0_1 l0_1.length c0_1]] rfl (by (try simp only [List.map_toArray, List.map_cons, List.map_nil]); first | done | rfl | (simp only [List.length_drop, List.length_take]; rfl)) ?_; (with_reducible refine (impl_MapValid.calls k (fun k_ => k_ < w.heap.size) _ _ l0_0 (fun k_ => k_ < w.heap.size) _ _ l0_1 true _ ?side1 ?side2 A6.out).mono ?_); (case side1 => exact Kd.V_mk HC0_0.out (Kd.F_below (Kd.C_F (Kd.heap_int .i64) HR0_0.out) (by repeat (first | (with_reducible first | exact HB.out | apply below_alloc | apply pw_below_drewN | apply below_drew1 | refine below_set ?_ GE364.out | refine below_set ?_ GE365.out) | exact HB.out)))); (case side2 => exact Kd.V_mk HC0_1.out (Kd.F_below (Kd.C_F (Kd.heap_int .i64) HR0_1.out) (by repeat (first | (with_reducible first | exact HB.out | apply below_alloc | apply pw_below_drewN | apply below_drew1 | refine below_set ?_ GE364.out | refine below_set ?_ GE365.out) | exact HB.out)))); rintro e w12 ⟨rfl, hb⟩; refine ⟨_, rfl, ?_⟩; have n0_ := Aside0.mk (blk_below (g := gb364) (o := .cells #[.slice A0_0 l0_0.length c0_0, .slice A0_1 l0_1.length c0_1] 27 (0, 0)) (by (with_reducible repeat (first | refine blk_drewN ?_ _ | refine blk_drew ?_ | refine blk_alloc ?_ _)); exact BK364.out) hb); have n1_ := Aside0.mk (blk_below (g := gb365) (o := .cells #[.slice A1_0 l1_0.length c1_0, .slice A1_1 l1_1.length c1_1] 27 (0, 0)) (by (with_reducible repeat (first | refine blk_drewN ?_ _ | refine blk_drew ?_ | refine blk_alloc ?_ _)); exact BK365.out) hb); have n2_ := Aside0.mk (below_step (by repeat (first | (with_reducible first | exact HB.out | apply below_alloc | apply pw_below_drewN | apply below_drew1 | refine below_set ?_ GE364.out | refine below_set ?_ GE365.out) | exact HB.out)) hb); clear BK364; clear BK365; clear HB; have BK364 := n0_; have BK365 := n1_; have HB := n2_; clear n0_ n1_ n2_; (try clear hb); (try clear hb2); (try clear hk); (try clear hi); have hcz13_0 : w12.cell? ⟨gb365, 0, none⟩ = some (.slice A1_0 l1_0.length c1_0) := (blk_cell BK365.out 0).trans rfl; have hcz13_1 : w12.cell? ⟨gb365, 1, none⟩ = some (.slice A1_1 l1_1.length c1_1) := (blk_cell BK365.out 1).trans rfl; have hfz13_0 := blk_frozen BK365.out 0; have hfz13_1 := blk_frozen BK365.out 1) | (go_at_call 33; (with_reducible refine (impl_MapValid.calls k (fun k_ => k_ < w.heap.size) _ _ l1_0 (fun k_ => k_ < w.heap.size) _ _ l1_1 true _ ?side1 ?side2 A8.out).mono ?_); (case side1 => exact Kd.V_mk HC1_0.out (Kd.F_below (Kd.C_F (Kd.heap_int .i64) HR1_0.out) (by repeat (first | (with_reducible first | exact HB.out | apply below_alloc | apply pw_below_drewN | apply below_drew1 | refine below_set ?_ GE364.out | refine below_set ?_ GE365.out) | exact HB.out)))); (case side2 => exact Kd.V_mk HC1_1.out (Kd.F_below (Kd.C_F (Kd.heap_int .i64) HR1_1.out) (by repeat (first | (with_reducible first | exact HB.out | apply below_alloc | apply pw_below_drewN | apply below_drew1 | refine below_set ?_ GE364.out | refine below_set ?_ GE365.out) | exact HB.out)))); rintro e w14 ⟨rfl, hb⟩; have n0_ := Aside0.mk (blk_below (g := gb364) (o := .cells #[.slice A0_0 l0_0.length c0_0, .slice A0_1 l0_1.length c0_1] 27 (0, 0)) (by (with_reducible repeat (first | refine blk_drewN ?_ _ | refine blk_drew ?_ | refine blk_alloc ?_ _)); exact BK364.out) hb); have n1_ := Aside0.mk (blk_below (g := gb365) (o := .cells #[.slice A1_0 l1_0.length c1_0, .slice A1_1 l1_1.length c1_1] 27 (0, 0)) (by (with_reducible repeat (first | refine blk_drewN ?_ _ | refine blk_drew ?_ | refine blk_alloc ?_ _)); exact BK365.out) hb); have n2_ := Aside0.mk (below_step (by repeat (first | (with_reducible first | exact HB.out | apply below_alloc | apply pw_below_drewN | apply below_drew1 | refine below_set ?_ GE364.out | refine below_set ?_ GE365.out) | exact HB.out)) hb); clear BK364; clear BK365; clear HB; have BK364 := n0_; have BK365 := n1_; have HB := n2_; clear n0_ n1_ n2_; (try clear hb); (try clear hb2); (try clear hk); (try clear hi); have hcz15_0 : w14.cell? ⟨gb364, 0, none⟩ = some (.slice A0_0 l0_0.length c0_0) := (blk_cell BK364.out 0).trans rfl; have hcz15_1 : w14.cell? ⟨gb364, 1, none⟩ = some (.slice A0_1 l0_1.length c0_1) := (blk_cell BK364.out 1).trans rfl; have hfz15_0 := blk_frozen BK364.out 0; have hfz15_1 := blk_frozen BK364.out 1; have hcz16_0 : w14.cell? ⟨gb365, 0, none⟩ = some (.slice A1_0 l1_0.length c1_0) := (blk_cell BK365.out 0).trans rfl; have hcz16_1 : w14.cell? ⟨gb365, 1, none⟩ = some (.slice A1_1 l1_1.length c1_1) := (blk_cell BK365.out 1).trans rfl; have hfz16_0 := blk_frozen BK365.out 0; have hfz16_1 := blk_frozen BK365.out 1))
        go_meet
        case rel => exact ⟨_, (((l0_0.length : Int) != (l1_0.length : Int))), (by first | rfl | (simp; done) | (simp [*]; done)), H', ⟨by first | omega | exact Nat.le_refl _⟩, ⟨by (with_reducible repeat (first | refine blk_drewN ?_ _ | refine blk_drew ?_ | refine blk_alloc ?_ _)); exact BK364.out⟩, ⟨by (with_reducible repeat (first | refine blk_drewN ?_ _ | refine blk_drew ?_ | refine blk_alloc ?_ _)); exact BK365.out⟩, ⟨by repeat (first | (with_reducible first | exact HB.out | apply below_alloc | apply pw_below_drewN | apply below_drew1 | refine below_set ?_ GE364.out | refine below_set ?_ GE365.out) | exact HB.out)⟩⟩
      · replace c9 := Bool.eq_false_iff.mpr c9
        subst c9
        have H1 : (impl_MapSame.j0 k true l0_0 l0_1 l1_0 l1_1) = some r := by rw [if_neg (show ¬ (false = true) by decide)] at H; exact H
        clear H
        have H := H1
        clear H1
        have H' := Aside0.mk H
        clear H
        have hnb17 := NB364_365.out
        have hnc17 := NB365_364.out
        have hcz18_0 : w5.cell? ⟨gb364, 0, none⟩ = some (.slice A0_0 l0_0.length c0_0) := (blk_cell BK364.out 0).trans rfl
        have hcz18_1 : w5.cell? ⟨gb364, 1, none⟩ = some (.slice A0_1 l0_1.length c0_1) := (blk_cell BK364.out 1).trans rfl
        have hfz18_0 := blk_frozen BK364.out 0
        have hfz18_1 := blk_frozen BK364.out 1
        go_wp2_with (first | ((with_reducible refine gate_callee (f := 33) rfl ?_); refine goesL_ (some 6) rfl rfl Try.func33 (by kernel_rfl) rfl #[.agg #[.slice A0_0 l0_0.length c0_0, .slice A0_1 l0_1.length c0_1]] rfl (by (try simp only [List.map_toArray, List.map_cons, List.map_nil]); first | done | rfl | (simp only [List.length_drop, List.length_take]; rfl)) ?_; (with_reducible refine (impl_MapValid.calls k (fun k_ => k_ < w.heap.size) _ _ l0_0 (fun k_ => k_ < w.heap.size) _ _ l0_1 true _ ?side1 ?side2 A6.out).mono ?_); (case side1 => exact Kd.V_mk HC0_0.out (Kd.F_below (Kd.C_F (Kd.heap_int .i64) HR0_0.out) (by repeat (first | (with_reducible first | exact HB.out | apply below_alloc | apply pw_below_drewN | apply below_drew1 | refine below_set ?_ GE364.out | refine below_set ?_ GE365.out) | exact HB.out)))); (case side2 => exact Kd.V_mk HC0_1.out (Kd.F_below (Kd.C_F (Kd.heap_int .i64) HR0_1.out) (by repeat (first | (with_reducible first | exact HB.out | apply below_alloc | apply pw_below_drewN | apply below_drew1 | refine below_set ?_ GE364.out | refine below_set ?_ GE365.out) | exact HB.out)))); rintro e w19 ⟨rfl, hb⟩; refine ⟨_, rfl, ?_⟩; have n0_ := Aside0.mk (blk_below (g := gb364) (o := .cells #[.slice A0_0 l0_0.length c0_0, .slice A0_1 l0_1.length c0_1] 27 (0, 0)) (by (with_reducible repeat (first | refine blk_drewN ?_ _ | refine blk_drew ?_ | refine blk_alloc ?_ _)); exact BK364.out) hb); have n1_ := Aside0.mk (blk_below (g := gb365) (o := .cells #[.slice A1_0 l1_0.length c1_0, .slice A1_1 l1_1.length c1_1] 27 (0, 0)) (by (with_reducible repeat (first | refine blk_drewN ?_ _ | refine blk_drew ?_ | refine blk_alloc ?_ _)); exact BK365.out) hb); have n2_ := Aside0.mk (below_step (by repeat (first | (with_reducible first | exact HB.out | apply below_alloc | apply pw_below_drewN | apply below_drew1 | refine below_set ?_ GE364.out | refine below_set ?_ GE365.out) | exact HB.out)) hb); clear BK364; clear BK365; clear HB; have BK364 := n0_; have BK365 := n1_; have HB := n2_; clear n0_ n1_ n2_; (try clear hb); (try clear hb2); (try clear hk); (try clear hi); have hcz20_0 : w19.cell? ⟨gb365, 0, none⟩ = some (.slice A1_0 l1_0.length c1_0) := (blk_cell BK365.out 0).trans rfl; have hcz20_1 : w19.cell? ⟨gb365, 1, none⟩ = some (.slice A1_1 l1_1.length c1_1) := (blk_cell BK365.out 1).trans rfl; have hfz20_0 := blk_frozen BK365.out 0; have hfz20_1 := blk_frozen BK365.out 1) | (go_at_call 33; (with_reducible refine (impl_MapValid.calls k (fun k_ => k_ < w.heap.size) _ _ l1_0 (fun k_ => k_ < w.heap.size) _ _ l1_1 false _ ?side1 ?side2 A8.out).mono ?_); (case side1 => exact Kd.V_mk HC1_0.out (Kd.F_below (Kd.C_F (Kd.heap_int .i64) HR1_0.out) (by repeat (first | (with_reducible first | exact HB.out | apply below_alloc | apply pw_below_drewN | apply below_drew1 | refine below_set ?_ GE364.out | refine below_set ?_ GE365.out) | exact HB.out)))); (case side2 => exact Kd.V_mk HC1_1.out (Kd.F_below (Kd.C_F (Kd.heap_int .i64) HR1_1.out) (by repeat (first | (with_reducible first | exact HB.out | apply below_alloc | apply pw_below_drewN | apply below_drew1 | refine below_set ?_ GE364.out | refine below_set ?_ GE365.out) | exact HB.out)))); rintro e w21 ⟨rfl, hb⟩; have n0_ := Aside0.mk (blk_below (g := gb364) (o := .cells #[.slice A0_0 l0_0.length c0_0, .slice A0_1 l0_1.length c0_1] 27 (0, 0)) (by (with_reducible repeat (first | refine blk_drewN ?_ _ | refine blk_drew ?_ | refine blk_alloc ?_ _)); exact BK364.out) hb); have n1_ := Aside0.mk (blk_below (g := gb365) (o := .cells #[.slice A1_0 l1_0.length c1_0, .slice A1_1 l1_1.length c1_1] 27 (0, 0)) (by (with_reducible repeat (first | refine blk_drewN ?_ _ | refine blk_drew ?_ | refine blk_alloc ?_ _)); exact BK365.out) hb); have n2_ := Aside0.mk (below_step (by repeat (first | (with_reducible first | exact HB.out | apply below_alloc | apply pw_below_drewN | apply below_drew1 | refine below_set ?_ GE364.out | refine below_set ?_ GE365.out) | exact HB.out)) hb); clear BK364; clear BK365; clear HB; have BK364 := n0_; have BK365 := n1_; have HB := n2_; clear n0_ n1_ n2_; (try clear hb); (try clear hb2); (try clear hk); (try clear hi)))
        go_meet
        case rel => exact ⟨_, (true), (by first | rfl | (simp; done) | (simp [*]; done)), H', ⟨by first | omega | exact Nat.le_refl _⟩, ⟨by (with_reducible repeat (first | refine blk_drewN ?_ _ | refine blk_drew ?_ | refine blk_alloc ?_ _)); exact BK364.out⟩, ⟨by (with_reducible repeat (first | refine blk_drewN ?_ _ | refine blk_drew ?_ | refine blk_alloc ?_ _)); exact BK365.out⟩, ⟨by repeat (first | (with_reducible first | exact HB.out | apply below_alloc | apply pw_below_drewN | apply below_drew1 | refine below_set ?_ GE364.out | refine below_set ?_ GE365.out) | exact HB.out)⟩⟩
    · replace c7 := Bool.eq_false_iff.mpr c7
      subst c7
      have H1 : (impl_MapSame.j0 k true l0_0 l0_1 l1_0 l1_1) = some r := by rw [if_neg (show ¬ (false = true) by decide)] at H; exact H
      clear H
      have H := H1
      clear H1
      have H' := Aside0.mk H
      clear H
      have hnb22 := NB364_365.out
      have hnc22 := NB365_364.out
      have hcz23_0 : w5.cell? ⟨gb364, 0, none⟩ = some (.slice A0_0 l0_0.length c0_0) := (blk_cell BK364.out 0).trans rfl
      have hcz23_1 : w5.cell? ⟨gb364, 1, none⟩ = some (.slice A0_1 l0_1.length c0_1) := (blk_cell BK364.out 1).trans rfl
      have hfz23_0 := blk_frozen BK364.out 0
      have hfz23_1 := blk_frozen BK364.out 1
      go_wp2_with (first | ((with_reducible refine gate_callee (f := 33) rfl ?_); refine goesL_ (some 6) rfl rfl Try.func33 (by kernel_rfl) rfl #[.agg #[.slice A0_0 l0_0.length c0_0, .slice A0_1 l0_1.length c0_1]] rfl (by (try simp only [List.map_toArray, List.map_cons, List.map_nil]); first | done | rfl | (simp only [List.length_drop, List.length_take]; rfl)) ?_; (with_reducible refine (impl_MapValid.calls k (fun k_ => k_ < w.heap.size) _ _ l0_0 (fun k_ => k_ < w.heap.size) _ _ l0_1 false _ ?side1 ?side2 A6.out).mono ?_); (case side1 => exact Kd.V_mk HC0_0.out (Kd.F_below (Kd.C_F (Kd.heap_int .i64) HR0_0.out) (by repeat (first | (with_reducible first | exact HB.out | apply below_alloc | apply pw_below_drewN | apply below_drew1 | refine below_set ?_ GE364.out | refine below_set ?_ GE365.out) | exact HB.out)))); (case side2 => exact Kd.V_mk HC0_1.out (Kd.F_below (Kd.C_F (Kd.heap_int .i64) HR0_1.out) (by repeat (first | (with_reducible first | exact HB.out | apply below_alloc | apply pw_below_drewN | apply below_drew1 | refine below_set ?_ GE364.out | refine below_set ?_ GE365.out) | exact HB.out)))); rintro e w24 ⟨rfl, hb⟩; refine ⟨_, rfl, ?_⟩; have n0_ := Aside0.mk (blk_below (g := gb364) (o := .cells #[.slice A0_0 l0_0.length c0_0, .slice A0_1 l0_1.length c0_1] 27 (0, 0)) (by (with_reducible repeat (first | refine blk_drewN ?_ _ | refine blk_drew ?_ | refine blk_alloc ?_ _)); exact BK364.out) hb); have n1_ := Aside0.mk (blk_below (g := gb365) (o := .cells #[.slice A1_0 l1_0.length c1_0, .slice A1_1 l1_1.length c1_1] 27 (0, 0)) (by (with_reducible repeat (first | refine blk_drewN ?_ _ | refine blk_drew ?_ | refine blk_alloc ?_ _)); exact BK365.out) hb); have n2_ := Aside0.mk (below_step (by repeat (first | (with_reducible first | exact HB.out | apply below_alloc | apply pw_below_drewN | apply below_drew1 | refine below_set ?_ GE364.out | refine below_set ?_ GE365.out) | exact HB.out)) hb); clear BK364; clear BK365; clear HB; have BK364 := n0_; have BK365 := n1_; have HB := n2_; clear n0_ n1_ n2_; (try clear hb); (try clear hb2); (try clear hk); (try clear hi)))
      go_meet
      case rel => exact ⟨_, (true), (by first | rfl | (simp; done) | (simp [*]; done)), H', ⟨by first | omega | exact Nat.le_refl _⟩, ⟨by (with_reducible repeat (first | refine blk_drewN ?_ _ | refine blk_drew ?_ | refine blk_alloc ?_ _)); exact BK364.out⟩, ⟨by (with_reducible repeat (first | refine blk_drewN ?_ _ | refine blk_drew ?_ | refine blk_alloc ?_ _)); exact BK365.out⟩, ⟨by repeat (first | (with_reducible first | exact HB.out | apply below_alloc | apply pw_below_drewN | apply below_drew1 | refine below_set ?_ GE364.out | refine below_set ?_ GE365.out) | exact HB.out)⟩⟩
  case rest =>
    clear HC3
    try clear c1
    try clear c2
    try clear p2
    try clear c3
    try clear c5
    try clear c7
    try clear c9
    try clear c10
    try clear c17
    try clear c22
    try clear hcz11_0
    try clear hcz11_1
    try clear hcz13_0
    try clear hcz13_1
    try clear hcz15_0
    try clear hcz15_1
    try clear hcz16_0
    try clear hcz16_1
    try clear hcz18_0
    try clear hcz18_1
    try clear hcz20_0
    try clear hcz20_1
    try clear hcz23_0
    try clear hcz23_1
    try clear hfz11_0
    try clear hfz11_1
    try clear hfz13_0
    try clear hfz13_1
    try clear hfz15_0
    try clear hfz15_1
    try clear hfz16_0
    try clear hfz16_1
    try clear hfz18_0
    try clear hfz18_1
    try clear hfz20_0
    try clear hfz20_1
    try clear hfz23_0
    try clear hfz23_1
    obtain ⟨kq, x21_2, rfl, HA, HJ2, BK364, BK365, HB⟩ := hcut
    cases kq with
    | zero => exact absurd HA.out (by simp [impl_MapSame.j0])
    | succ kj2 =>
      have H := HA.out
      clear HA
      simp only [impl_MapSame.j0] at H
      by_cases c25 : x21_2 = true
      · subst c25
        have H1 : (some false) = some r := by rw [if_pos rfl] at H; exact H
        clear H
        have H := H1
        clear H1
        obtain rfl := Option.some.inj H
        go_wp2
        go_ret
        exact ⟨by first | rfl | (simp [errW_none, errW_some] <;> rfl) | (simp [*, errW_none, errW_some] <;> rfl), by repeat (first | (with_reducible first | exact HB.out | apply below_alloc | apply pw_below_drewN | apply below_drew1 | refine below_set ?_ GE364.out | refine below_set ?_ GE365.out) | exact HB.out)⟩
      · replace c25 := Bool.eq_false_iff.mpr c25
        subst c25
        have H1 : ((impl_leastForm.f kj2 l0_0 l0_1).bind fun bt368 => ((impl_leastForm.f kj2 l1_0 l1_1).bind fun bt374 => ((impl_compareMaps.f kj2 bt368.1 bt368.2 bt374.1 bt374.2).bind fun t380 => (some (t380 == 0))))) = some r := by rw [if_neg (show ¬ (false = true) by decide)] at H; exact H
        clear H
        have H := H1
        clear H1
        replace H := Option.bind_eq_some_iff.mp H
        obtain ⟨⟨t368, t371⟩, A260, H⟩ := H
        replace H : ((impl_leastForm.f kj2 l1_0 l1_1).bind fun bt374 => ((impl_compareMaps.f kj2 t368 t371 bt374.1 bt374.2).bind fun t380 => (some (t380 == 0)))) = some r := H
        have A26 := Aside0.mk A260
        clear A260
        replace H := Option.bind_eq_some_iff.mp H
        obtain ⟨⟨t374, t377⟩, A270, H⟩ := H
        replace H : ((impl_compareMaps.f kj2 t368 t371 t374 t377).bind fun t380 => (some (t380 == 0))) = some r := H
        have A27 := Aside0.mk A270
        clear A270
        replace H := Option.bind_eq_some_iff.mp H
        obtain ⟨t380, A280, H⟩ := H
        replace H : (some (t380 == 0)) = some r := H
        have A28 := Aside0.mk A280
        clear A280
        obtain rfl := Option.some.inj H
        try go_wp2
        have n0_ := Aside0.mk (blk_drew BK364.out)
        have n1_ := Aside0.mk (blk_drew BK365.out)
        have n2_ := Aside0.mk (below_drew1 HB.out)
        clear BK364
        clear BK365
        clear HB
        have BK364 := n0_
        have BK365 := n1_
        have HB := n2_
        clear n0_ n1_ n2_
        refine start_ (n := 7) (S := fun w' => w'.cell? ⟨gb364, 0, none⟩ = some (.slice A0_0 l0_0.length c0_0) ∧ w'.cell? ⟨gb364, 1, none⟩ = some (.slice A0_1 l0_1.length c0_1) ∧ w'.cell? ⟨gb365, 0, none⟩ = some (.slice A1_0 l1_0.length c1_0) ∧ w'.cell? ⟨gb365, 1, none⟩ = some (.slice A1_1 l1_1.length c1_1)) (ds := []) #[false, false, false, false, false, false, false] (by kernel_rfl) rfl rfl ⟨(blk_cell BK364.out 0).trans rfl, (blk_cell BK364.out 1).trans rfl, (blk_cell BK365.out 0).trans rfl, (blk_cell BK365.out 1).trans rfl⟩ (fun hHeld => ?_)
        generalize wc.drew = w29 at BK364 BK365 HB hHeld ⊢
        refine take_ (i := 0) (N := some 22) (v := ?_) (a' := ?_) #[true, false, false, false, false, false, false] rfl rfl (by kernel_rfl) (fun _ _ _ h => h) (Or.inl ⟨by rfl, ?_⟩) hHeld ?_ ?_
        rotate_left
        · rintro w' ⟨s0, s1, s2, s3⟩
          go_simp
          with_reducible rfl
        rotate_left
        · simp only [Act.put, List.setIfInBounds_toArray, List.set_cons_zero, List.set_cons_succ, i64_w, i32_w]
          rfl
        refine take_ (i := 2) (N := some 24) (v := ?_) (a' := ?_) #[true, false, true, false, false, false, false] rfl rfl (by kernel_rfl) (fun _ _ _ h => h) (Or.inl ⟨by rfl, ?_⟩) hHeld ?_ ?_
        rotate_left
        · rintro w' ⟨s0, s1, s2, s3⟩
          go_simp
          with_reducible rfl
        rotate_left
        · simp only [Act.put, List.setIfInBounds_toArray, List.set_cons_zero, List.set_cons_succ, i64_w, i32_w]
          rfl
        refine one_ (i := 1) (N := some 23) #[true, true, true, false, false, false, false] rfl rfl (by kernel_rfl) (by decide) (fun K hK => ?_)
        refine goes_ Try.func114 (by kernel_rfl) rfl #[.agg #[.slice A0_0 l0_0.length c0_0, .slice A0_1 l0_1.length c0_1]] (by rfl) rfl rfl (by (try simp only [List.map_toArray, List.map_cons, List.map_nil]); first | done | rfl | (simp only [List.length_drop, List.length_take]; rfl)) ?_
        with_reducible refine (impl_leastForm.calls kj2 _ _ l0_0 _ _ l0_1 t368 t371 _ ?side1 ?side2 ?side3 ?side4 A26.out).mono ?_
        (case side1 => repeat (first | exact (Kd.C_below HR0_0.out HB.out) | (with_reducible exact HR0_0.out) | (with_reducible refine Kd.C_alloc ?_ _) | (with_reducible refine Kd.C_drewN ?_ _) | (with_reducible refine Kd.C_drew ?_)))
        (case side2 => exact HC0_0.out)
        (case side3 => repeat (first | exact (Kd.C_below HR0_1.out HB.out) | (with_reducible exact HR0_1.out) | (with_reducible refine Kd.C_alloc ?_ _) | (with_reducible refine Kd.C_drewN ?_ _) | (with_reducible refine Kd.C_drew ?_)))
        (case side4 => exact HC0_1.out)
        rintro e w30 ⟨v369, v372, rfl, ho0, ho1, hb⟩
        refine ⟨_, rfl, ?_⟩
        have n0_ := Aside0.mk (Kd.R_lower ho0 (below_size (by repeat (first | (with_reducible first | exact HB.out | apply below_alloc | apply pw_below_drewN | apply below_drew1 | refine below_set ?_ GE364.out | refine below_set ?_ GE365.out) | exact HB.out))))
        have n1_ := Aside0.mk (Kd.R_lower ho1 (below_size (by repeat (first | (with_reducible first | exact HB.out | apply below_alloc | apply pw_below_drewN | apply below_drew1 | refine below_set ?_ GE364.out | refine below_set ?_ GE365.out) | exact HB.out))))
        have n2_ := Aside0.mk (blk_below (g := gb364) (o := .cells #[.slice A0_0 l0_0.length c0_0, .slice A0_1 l0_1.length c0_1] 27 (0, 0)) (by (with_reducible repeat (first | refine blk_drewN ?_ _ | refine blk_drew ?_ | refine blk_alloc ?_ _)); exact BK364.out) hb)
        have n3_ := Aside0.mk (blk_below (g := gb365) (o := .cells #[.slice A1_0 l1_0.length c1_0, .slice A1_1 l1_1.length c1_1] 27 (0, 0)) (by (with_reducible repeat (first | refine blk_drewN ?_ _ | refine blk_drew ?_ | refine blk_alloc ?_ _)); exact BK365.out) hb)
        have n4_ := Aside0.mk (below_step (by repeat (first | (with_reducible first | exact HB.out | apply below_alloc | apply pw_below_drewN | apply below_drew1 | refine below_set ?_ GE364.out | refine below_set ?_ GE365.out) | exact HB.out)) hb)
        clear BK364
        clear BK365
        clear HB
        have HO370 := n0_
        have HO373 := n1_
        have BK364 := n2_
        have BK365 := n3_
        have HB := n4_
        clear n0_ n1_ n2_ n3_ n4_
        (try clear hb)
        (try clear hb2)
        (try clear hk)
        (try clear hi)
        (try clear ho0)
        (try clear ho1)
        refine hK.out _ _ ⟨(blk_cell BK364.out 0).trans rfl, (blk_cell BK364.out 1).trans rfl, (blk_cell BK365.out 0).trans rfl, (blk_cell BK365.out 1).trans rfl⟩ (fun hHeld => ?_)
        clear hK K
        refine norm_ (a' := ?_) ?_ ?_
        rotate_left
        · show Act.put _ (some 23) _ = _
          simp only [Act.put, List.setIfInBounds_toArray, List.set_cons_zero, List.set_cons_succ, i64_w, i32_w]
          rfl
        refine one_ (i := 3) (N := some 25) #[true, true, true, true, false, false, false] rfl rfl (by kernel_rfl) (by decide) (fun K hK => ?_)
        refine goes_ Try.func114 (by kernel_rfl) rfl #[.agg #[.slice A1_0 l1_0.length c1_0, .slice A1_1 l1_1.length c1_1]] (by rfl) rfl rfl (by (try simp only [List.map_toArray, List.map_cons, List.map_nil]); first | done | rfl | (simp only [List.length_drop, List.length_take]; rfl)) ?_
        with_reducible refine (impl_leastForm.calls kj2 _ _ l1_0 _ _ l1_1 t374 t377 _ ?side1 ?side2 ?side3 ?side4 A27.out).mono ?_
        (case side1 => repeat (first | exact (Kd.C_below HR1_0.out HB.out) | (with_reducible exact HR1_0.out) | (with_reducible refine Kd.C_alloc ?_ _) | (with_reducible refine Kd.C_drewN ?_ _) | (with_reducible refine Kd.C_drew ?_)))
        (case side2 => exact HC1_0.out)
        (case side3 => repeat (first | exact (Kd.C_below HR1_1.out HB.out) | (with_reducible exact HR1_1.out) | (with_reducible refine Kd.C_alloc ?_ _) | (with_reducible refine Kd.C_drewN ?_ _) | (with_reducible refine Kd.C_drew ?_)))
        (case side4 => exact HC1_1.out)
        rintro e w31 ⟨v375, v378, rfl, ho0, ho1, hb⟩
        refine ⟨_, rfl, ?_⟩
        have n0_ := Aside0.mk (Kd.R_mono (Kd.R_told (Kd.R_told (Kd.R_old (by (with_reducible repeat (first | apply Kd.R_alloc | apply Kd.R_drewN | apply Kd.R_drew)); exact HO370.out) hb) (Kd.R_base ho0)) (Kd.R_base ho1)) (fun _ h_ => h_.1))
        have n1_ := Aside0.mk (Kd.R_mono (Kd.R_told (Kd.R_told (Kd.R_old (by (with_reducible repeat (first | apply Kd.R_alloc | apply Kd.R_drewN | apply Kd.R_drew)); exact HO373.out) hb) (Kd.R_base ho0)) (Kd.R_base ho1)) (fun _ h_ => h_.1))
        have n2_ := Aside0.mk (Kd.R_lower (Kd.R_new' (Kd.R_new' ho0 (Kd.R_lt (by (with_reducible repeat (first | apply Kd.R_alloc | apply Kd.R_drewN | apply Kd.R_drew)); exact HO370.out))) (Kd.R_lt (by (with_reducible repeat (first | apply Kd.R_alloc | apply Kd.R_drewN | apply Kd.R_drew)); exact HO373.out))) (below_size (by repeat (first | (with_reducible first | exact HB.out | apply below_alloc | apply pw_below_drewN | apply below_drew1 | refine below_set ?_ GE364.out | refine below_set ?_ GE365.out) | exact HB.out))))
        have n3_ := Aside0.mk (Kd.R_lower (Kd.R_new' (Kd.R_new' ho1 (Kd.R_lt (by (with_reducible repeat (first | apply Kd.R_alloc | apply Kd.R_drewN | apply Kd.R_drew)); exact HO370.out))) (Kd.R_lt (by (with_reducible repeat (first | apply Kd.R_alloc | apply Kd.R_drewN | apply Kd.R_drew)); exact HO373.out))) (below_size (by repeat (first | (with_reducible first | exact HB.out | apply below_alloc | apply pw_below_drewN | apply below_drew1 | refine below_set ?_ GE364.out | refine below_set ?_ GE365.out) | exact HB.out))))
        have n4_ := Aside0.mk (blk_below (g := gb364) (o := .cells #[.slice A0_0 l0_0.length c0_0, .slice A0_1 l0_1.length c0_1] 27 (0, 0)) (by (with_reducible repeat (first | refine blk_drewN ?_ _ | refine blk_drew ?_ | refine blk_alloc ?_ _)); exact BK364.out) hb)
        have n5_ := Aside0.mk (blk_below (g := gb365) (o := .cells #[.slice A1_0 l1_0.length c1_0, .slice A1_1 l1_1.length c1_1] 27 (0, 0)) (by (with_reducible repeat (first | refine blk_drewN ?_ _ | refine blk_drew ?_ | refine blk_alloc ?_ _)); exact BK365.out) hb)
        have n6_ := Aside0.mk (below_step (by repeat (first | (with_reducible first | exact HB.out | apply below_alloc | apply pw_below_drewN | apply below_drew1 | refine below_set ?_ GE364.out | refine below_set ?_ GE365.out) | exact HB.out)) hb)
        clear HO370
        clear HO373
        clear BK364
        clear BK365
        clear HB
        have HO370 := n0_
        have HO373 := n1_
        have HO376 := n2_
        have HO379 := n3_
        have BK364 := n4_
        have BK365 := n5_
        have HB := n6_
        clear n0_ n1_ n2_ n3_ n4_ n5_ n6_
        (try clear hb)
        (try clear hb2)
        (try clear hk)
        (try clear hi)
        (try clear ho0)
        (try clear ho1)
        obtain ⟨Ao32, co32, eo32⟩ := Kd.R_slice HO370.out
        (first | subst eo32 | (injection eo32 with f1_ f2_ f3_; have f4_ := f1_.symm; have f5_ := f3_.symm; clear f1_ f2_ f3_; subst f4_; subst f5_))
        obtain ⟨Ao33, co33, eo33⟩ := Kd.R_slice HO373.out
        (first | subst eo33 | (injection eo33 with f1_ f2_ f3_; have f4_ := f1_.symm; have f5_ := f3_.symm; clear f1_ f2_ f3_; subst f4_; subst f5_))
        obtain ⟨Ao34, co34, eo34⟩ := Kd.R_slice HO376.out
        (first | subst eo34 | (injection eo34 with f1_ f2_ f3_; have f4_ := f1_.symm; have f5_ := f3_.symm; clear f1_ f2_ f3_; subst f4_; subst f5_))
        obtain ⟨Ao35, co35, eo35⟩ := Kd.R_slice HO379.out
        (first | subst eo35 | (injection eo35 with f1_ f2_ f3_; have f4_ := f1_.symm; have f5_ := f3_.symm; clear f1_ f2_ f3_; subst f4_; subst f5_))
        refine hK.out _ _ ⟨(blk_cell BK364.out 0).trans rfl, (blk_cell BK364.out 1).trans rfl, (blk_cell BK365.out 0).trans rfl, (blk_cell BK365.out 1).trans rfl⟩ (fun hHeld => ?_)
        clear hK K
        refine norm_ (a' := ?_) ?_ ?_
        rotate_left
        · show Act.put _ (some 25) _ = _
          simp only [Act.put, List.setIfInBounds_toArray, List.set_cons_zero, List.set_cons_succ, i64_w, i32_w]
          rfl
        refine one_ (i := 4) (N := some 26) #[true, true, true, true, true, false, false] rfl rfl (by kernel_rfl) (by decide) (fun K hK => ?_)
        refine goes_ Try.func113 (by kernel_rfl) rfl #[.agg #[.slice Ao32 t368.length co32, .slice Ao33 t371.length co33], .agg #[.slice Ao34 t374.length co34, .slice Ao35 t377.length co35]] (by rfl) rfl rfl (by (try simp only [List.map_toArray, List.map_cons, List.map_nil]); first | done | rfl | (simp only [List.length_drop, List.length_take]; rfl)) ?_
        with_reducible refine (impl_compareMaps.calls kj2 _ _ t368 _ _ t371 _ _ t374 _ _ t377 t380 _ ?side1 ?side2 ?side3 ?side4 ?side5 ?side6 ?side7 ?side8 A28.out).mono ?_
        (case side1 => repeat (first | exact (Kd.R_reads' HO370.out).2.2 | (with_reducible refine Kd.C_alloc ?_ _) | (with_reducible refine Kd.C_drewN ?_ _) | (with_reducible refine Kd.C_drew ?_)))
        (case side2 => exact (Kd.R_reads' HO370.out).2.1)
        (case side3 => repeat (first | exact (Kd.R_reads' HO373.out).2.2 | (with_reducible refine Kd.C_alloc ?_ _) | (with_reducible refine Kd.C_drewN ?_ _) | (with_reducible refine Kd.C_drew ?_)))
        (case side4 => exact (Kd.R_reads' HO373.out).2.1)
        (case side5 => repeat (first | exact (Kd.R_reads' HO376.out).2.2 | (with_reducible refine Kd.C_alloc ?_ _) | (with_reducible refine Kd.C_drewN ?_ _) | (with_reducible refine Kd.C_drew ?_)))
        (case side6 => exact (Kd.R_reads' HO376.out).2.1)
        (case side7 => repeat (first | exact (Kd.R_reads' HO379.out).2.2 | (with_reducible refine Kd.C_alloc ?_ _) | (with_reducible refine Kd.C_drewN ?_ _) | (with_reducible refine Kd.C_drew ?_)))
        (case side8 => exact (Kd.R_reads' HO379.out).2.1)
        rintro e w36 ⟨rfl, hb⟩
        refine ⟨_, rfl, ?_⟩
        have n0_ := Aside0.mk (Kd.R_below (by (with_reducible repeat (first | apply Kd.R_alloc | apply Kd.R_drewN | apply Kd.R_drew)); exact HO370.out) hb)
        have n1_ := Aside0.mk (Kd.R_below (by (with_reducible repeat (first | apply Kd.R_alloc | apply Kd.R_drewN | apply Kd.R_drew)); exact HO373.out) hb)
        have n2_ := Aside0.mk (Kd.R_below (by (with_reducible repeat (first | apply Kd.R_alloc | apply Kd.R_drewN | apply Kd.R_drew)); exact HO376.out) hb)
        have n3_ := Aside0.mk (Kd.R_below (by (with_reducible repeat (first | apply Kd.R_alloc | apply Kd.R_drewN | apply Kd.R_drew)); exact HO379.out) hb)
        have n4_ := Aside0.mk (blk_below (g := gb364) (o := .cells #[.slice A0_0 l0_0.length c0_0, .slice A0_1 l0_1.length c0_1] 27 (0, 0)) (by (with_reducible repeat (first | refine blk_drewN ?_ _ | refine blk_drew ?_ | refine blk_alloc ?_ _)); exact BK364.out) hb)
        have n5_ := Aside0.mk (blk_below (g := gb365) (o := .cells #[.slice A1_0 l1_0.length c1_0, .slice A1_1 l1_1.length c1_1] 27 (0, 0)) (by (with_reducible repeat (first | refine blk_drewN ?_ _ | refine blk_drew ?_ | refine blk_alloc ?_ _)); exact BK365.out) hb)
        have n6_ := Aside0.mk (below_step (by repeat (first | (with_reducible first | exact HB.out | apply below_alloc | apply pw_below_drewN | apply below_drew1 | refine below_set ?_ GE364.out | refine below_set ?_ GE365.out) | exact HB.out)) hb)
        clear HO370
        clear HO373
        clear HO376
        clear HO379
        clear BK364
        clear BK365
        clear HB
        have HO370 := n0_
        have HO373 := n1_
        have HO376 := n2_
        have HO379 := n3_
        have BK364 := n4_
        have BK365 := n5_
        have HB := n6_
        clear n0_ n1_ n2_ n3_ n4_ n5_ n6_
        (try clear hb)
        (try clear hb2)
        (try clear hk)
        (try clear hi)
        refine hK.out _ _ ⟨(blk_cell BK364.out 0).trans rfl, (blk_cell BK364.out 1).trans rfl, (blk_cell BK365.out 0).trans rfl, (blk_cell BK365.out 1).trans rfl⟩ (fun hHeld => ?_)
        clear hK K
        refine norm_ (a' := ?_) ?_ ?_
        rotate_left
        · show Act.put _ (some 26) _ = _
          simp only [Act.put, List.setIfInBounds_toArray, List.set_cons_zero, List.set_cons_succ, i64_w, i32_w]
          rfl
        refine pure_ (i := 5) (N := some 27) (v := ?_) (a' := ?_) #[true, true, true, true, true, true, false] rfl rfl (by kernel_rfl) (fun _ _ _ h => h) (Or.inl ⟨by rfl, ?_⟩) ?_ ?_
        rotate_left
        · intro w'
          go_simp
          with_reducible rfl
        rotate_left
        · simp only [Act.put, List.setIfInBounds_toArray, List.set_cons_zero, List.set_cons_succ, i64_w, i32_w]
          rfl
        refine pure_ (i := 6) (N := some 4) (v := ?_) (a' := ?_) #[true, true, true, true, true, true, true] rfl rfl (by kernel_rfl) (fun _ _ _ h => h) (Or.inl ⟨by rfl, ?_⟩) ?_ ?_
        rotate_left
        · intro w'
          go_simp
          with_reducible rfl
        rotate_left
        · simp only [Act.put, List.setIfInBounds_toArray, List.set_cons_zero, List.set_cons_succ, i64_w, i32_w]
          rfl
        refine done_ (by kernel_rfl) ?_
        try go_wp2
        go_ret
        exact ⟨by first | rfl | (simp [errW_none, errW_some] <;> rfl) | (simp [*, errW_none, errW_some] <;> rfl), by repeat (first | (with_reducible first | exact HB.out | apply below_alloc | apply pw_below_drewN | apply below_drew1 | refine below_set ?_ GE364.out | refine below_set ?_ GE365.out) | exact HB.out)⟩

/-! ### laws_FnGluingTurn: function 9 (a section of my own) -/
def laws_FnGluingTurn.turns (k : Nat) : Nat → List Int → Option (List Int)
  | 0, x => some x
  | d + 1, x => (impl_GluingTurn.f k x).bind fun o => if o.2 = true then laws_FnGluingTurn.turns k d o.1 else none
def laws_FnGluingTurn.r (k : Nat) (p q : List Int) : Option Bool := (laws_FnGluingTurn.turns k p.length p).bind fun x => (impl_GluingMap.f k p).bind fun a => (impl_GluingMap.f k q).bind fun b => (laws_sameInts.f k x p).bind fun e => (impl_GluingGenus.f k q).bind fun g1 => (impl_GluingGenus.f k p).bind fun g2 => (impl_GluingChord.f k q).bind fun h1 => (impl_GluingChord.f k p).bind fun h2 => (impl_MapSame.f k a.1 a.2.1 b.1 b.2.1).bind fun s => if a.2.2 = true ∧ b.2.2 = true ∧ e = true ∧ g1 = g2 ∧ h1 = h2 ∧ s = true ∧ p.length ≤ 1000 then some true else none
def laws_FnGluingTurn.f (k : Nat) (l0 : List Int) : Option Bool := if (l0.length : Int) > 1048576 then some true else (spec_DrawGluingTurn.f k l0).bind fun p => (impl_GluingTurn.f k p).bind fun o => (spec_GluingTurn.f k p).bind fun u => if o.2 = u.2 then (laws_sameInts.f k o.1 u.1).bind fun e => if e = true then (if o.2 = true then laws_FnGluingTurn.r k p o.1 else some true) else none else none
theorem laws_FnGluingTurn.inb {w : World} {a : Addr} {v : Value} (h : w.cell? a = some v) : a.block < w.heap.size := by
  refine Nat.lt_of_not_le fun hle => ?_
  have h1 : w.heap[a.block]? = none := Array.getElem?_eq_none hle
  simp [World.cell?, h1] at h
set_option maxHeartbeats 16000000 in
set_option maxRecDepth 100000 in
theorem laws_FnGluingTurn.calls (k : Nat) (A0 : Option Addr) (c0 : Nat) (l0 : List Int) (r : Bool) (w : World) (hr0 : Kd.C (Kd.int .u8) w A0 l0.length l0) (hc0 : l0.length ≤ c0) (h : laws_FnGluingTurn.f k l0 = some r) :
    Calls Try.prog 9 #[.slice A0 l0.length c0] w fun e w' => e = .returned (.bool r) ∧ Below w.heap.size w w' := by
  unfold laws_FnGluingTurn.f at h
  by_cases c1 : (l0.length : Int) > 1048576
  · rw [if_pos c1] at h
    obtain rfl := Option.some.inj h
    have c1b : decide (1048576 < (l0.length : Int)) = true := decide_eq_true c1
    have HB := Aside0.mk (Below.refl w.heap.size w)
    clear h c1
    go_enter Try.func9, Try.ntmps9
    go_wp2
    go_ret
    exact ⟨rfl, HB.out⟩
  rw [if_neg c1] at h
  have c1b : decide (1048576 < (l0.length : Int)) = false := decide_eq_false c1
  clear c1
  obtain ⟨p, hp, h2⟩ := Option.bind_eq_some_iff.mp h
  obtain ⟨⟨q, q2⟩, hq, h3⟩ := Option.bind_eq_some_iff.mp h2
  obtain ⟨⟨u, u2⟩, hu, h4⟩ := Option.bind_eq_some_iff.mp h3
  clear h h2 h3
  simp only at h4
  by_cases c2 : ¬ q2 = u2
  · rw [if_neg c2] at h4; cases h4
  replace c2 := Classical.not_not.mp c2
  rw [if_pos c2] at h4
  subst c2
  obtain ⟨e, he, h5⟩ := Option.bind_eq_some_iff.mp h4
  clear h4
  by_cases c3 : ¬ e = true
  · rw [if_neg c3] at h5; cases h5
  replace c3 := Classical.not_not.mp c3
  rw [if_pos c3] at h5
  subst c3
  have HT := Aside0.mk hp
  have HO := Aside0.mk hq
  have HW := Aside0.mk hu
  have HE := Aside0.mk he
  have HR0 := Aside0.mk hr0
  have HC0 := Aside0.mk hc0
  have HH := Aside0.mk h5
  clear hp hq hu he hr0 hc0 h5
  have key : ∀ b : Bool, q2 = b → Calls Try.prog 9 #[.slice A0 l0.length c0] w fun e w' => e = .returned (.bool r) ∧ Below w.heap.size w w' := by
    intro b hb
    subst hb
    cases q2
    · have h := HH.out
      rw [if_neg (by simp)] at h
      obtain rfl := Option.some.inj h
      clear h HH
      go_enter Try.func9, Try.ntmps9
      go_upto_region 4 with (go_at_call 56; refine (spec_DrawGluingTurn.calls k A0 c0 l0 p w HR0.out HC0.out HT.out).mono ?_; rintro e w1 ⟨v1, rfl, ho, hb⟩; obtain ⟨Ap, cp, rfl⟩ := Kd.R_slice ho; have HPP := Aside0.mk (Kd.R_reads' ho).2; have HB1 := Aside0.mk hb; clear ho hb)
      go_upto_region 5 with (go_at_call 20; refine (impl_GluingTurn.calls k Ap cp p q false w1 HPP.out.2 HPP.out.1 HO.out).mono ?_; rintro e w2 ⟨v2, rfl, ho, hb⟩; obtain ⟨Aq, cq, rfl⟩ := Kd.R_slice ho; have HQ := Aside0.mk (Kd.R_reads' ho).2; have HB2 := Aside0.mk hb; clear ho hb)
      go_upto_region 6 with (go_at_call 57; refine (spec_GluingTurn.calls k Ap cp p u false w2 (Kd.C_below HPP.out.2 HB2.out) HPP.out.1 HW.out).mono ?_; rintro e w3 ⟨v3, rfl, ho, hb⟩; obtain ⟨Au, cu, rfl⟩ := Kd.R_slice ho; have HU := Aside0.mk (Kd.R_reads' ho).2; have HQ3 := Aside0.mk (And.intro HQ.out.1 (Kd.C_below HQ.out.2 hb)); have HB3 := Aside0.mk (below_step HB1.out (below_step HB2.out hb)); clear ho hb)
      clear HT HO HW HR0 HC0 HPP HQ HB1 HB2
      go_wp2_with (first | (go_at_call 25; with_reducible refine (laws_sameInts.calls k Aq cq q Au cu u true w3 HQ3.out.2 HQ3.out.1 HU.out.2 HU.out.1 HE.out).mono ?_; rintro e w' ⟨rfl, ⟨n1, rfl⟩⟩) | (go_at_call 25; with_reducible refine (laws_sameInts.calls k Aq cq q Au cu u true _ (Kd.C_drewN HQ3.out.2 _) HQ3.out.1 (Kd.C_drewN HU.out.2 _) HU.out.1 HE.out).mono ?_; rintro e w' ⟨rfl, ⟨n2, rfl⟩⟩))
      go_ret
      exact ⟨rfl, by repeat (first | exact HB3.out | apply pw_below_drewN)⟩
    · have h := HH.out
      rw [if_pos rfl] at h
      clear HH
      unfold laws_FnGluingTurn.r at h
      obtain ⟨X, hX, h1⟩ := Option.bind_eq_some_iff.mp h
      obtain ⟨⟨a1, a2, a3⟩, ha, h2⟩ := Option.bind_eq_some_iff.mp h1
      obtain ⟨⟨b1, b2, b3⟩, hb, h3⟩ := Option.bind_eq_some_iff.mp h2
      obtain ⟨e2, he2, h4⟩ := Option.bind_eq_some_iff.mp h3
      obtain ⟨g1, hg1, h5⟩ := Option.bind_eq_some_iff.mp h4
      obtain ⟨g2, hg2, h6⟩ := Option.bind_eq_some_iff.mp h5
      obtain ⟨d1, hd1, h7⟩ := Option.bind_eq_some_iff.mp h6
      obtain ⟨d2, hd2, h8⟩ := Option.bind_eq_some_iff.mp h7
      obtain ⟨s, hs, h9⟩ := Option.bind_eq_some_iff.mp h8
      clear h h1 h2 h3 h4 h5 h6 h7 h8
      simp only at h9 hs
      by_cases c4 : ¬ (a3 = true ∧ b3 = true ∧ e2 = true ∧ g1 = g2 ∧ d1 = d2 ∧ s = true ∧ p.length ≤ 1000)
      · rw [if_neg c4] at h9; cases h9
      replace c4 := Classical.not_not.mp c4
      rw [if_pos c4] at h9
      obtain rfl := Option.some.inj h9
      obtain ⟨rfl, rfl, rfl, rfl, rfl, rfl, hpl⟩ := c4
      have HX := Aside0.mk hX
      have HMA := Aside0.mk ha
      have HMB := Aside0.mk hb
      have HE2 := Aside0.mk he2
      have HG1 := Aside0.mk hg1
      have HG2 := Aside0.mk hg2
      have HD1 := Aside0.mk hd1
      have HD2 := Aside0.mk hd2
      have HS := Aside0.mk hs
      have HPL := Aside0.mk hpl
      clear h9 hX ha hb he2 hg1 hg2 hd1 hd2 hs hpl
      go_enter Try.func9, Try.ntmps9
      go_upto_region 4 with (go_at_call 56; refine (spec_DrawGluingTurn.calls k A0 c0 l0 p w HR0.out HC0.out HT.out).mono ?_; rintro e w1 ⟨v1, rfl, ho, hb⟩; obtain ⟨Ap, cp, rfl⟩ := Kd.R_slice ho; have HPP := Aside0.mk (Kd.R_reads' ho).2; have HB1 := Aside0.mk hb; clear ho hb)
      go_upto_region 5 with (go_at_call 20; refine (impl_GluingTurn.calls k Ap cp p q true w1 HPP.out.2 HPP.out.1 HO.out).mono ?_; rintro e w2 ⟨v2, rfl, ho, hb⟩; obtain ⟨Aq, cq, rfl⟩ := Kd.R_slice ho; have HQ := Aside0.mk (Kd.R_reads' ho).2; have HB2 := Aside0.mk hb; clear ho hb)
      go_upto_region 6 with (go_at_call 57; refine (spec_GluingTurn.calls k Ap cp p u true w2 (Kd.C_below HPP.out.2 HB2.out) HPP.out.1 HW.out).mono ?_; rintro e w3 ⟨v3, rfl, ho, hb⟩; obtain ⟨Au, cu, rfl⟩ := Kd.R_slice ho; have HU := Aside0.mk (Kd.R_reads' ho).2; have HQ3 := Aside0.mk (And.intro HQ.out.1 (Kd.C_below HQ.out.2 hb)); have HP3 := Aside0.mk (And.intro HPP.out.1 (Kd.C_below HPP.out.2 (below_step HB2.out hb))); have HB3 := Aside0.mk (below_step HB1.out (below_step HB2.out hb)); clear ho hb)
      clear HT HO HW HR0 HC0 HPP HQ HB1 HB2
      go_upto_region 8 with (go_at_call 25; refine (laws_sameInts.calls k Aq cq q Au cu u true w3 HQ3.out.2 HQ3.out.1 HU.out.2 HU.out.1 HE.out).mono ?_; rintro e w' ⟨rfl, ⟨n1, rfl⟩⟩)
      have HQ4 := Aside0.mk (And.intro HQ3.out.1 (Kd.C_drewN HQ3.out.2 n1))
      have HP4 := Aside0.mk (And.intro HP3.out.1 (Kd.C_drewN HP3.out.2 n1))
      have HB4 := Aside0.mk (pw_below_drewN HB3.out n1)
      clear HQ3 HP3 HB3 HU HE
      generalize w3.drewN n1 = w4 at HQ4 HP4 HB4 ⊢
      go_wp2
      go_loopg [8, 9, 10] p.length (fun d v8 v9 v10 wr => ∃ (i : Int) (x : List Int) (A : Option Addr) (c : Nat), v8 = .slice A x.length c ∧ v9 = .bool true ∧ v10 = .int .i64 i ∧ Aside0 (0 ≤ i ∧ i + (d : Int) = (p.length : Int)) ∧ Aside0 (laws_FnGluingTurn.turns k d x = some X) ∧ Aside0 (x.length ≤ c ∧ Kd.C (Kd.int .i64) wr A x.length x) ∧ Aside0 (Below w4.heap.size w4 wr))
      case atStart => exact ⟨0, p, Ap, cp, rfl, rfl, rfl, ⟨by omega, by omega⟩, HX, HP4, ⟨Below.refl _ _⟩⟩
      case round =>
        clear HX
        obtain ⟨i, x, A, c, rfl, rfl, rfl, HI, HX, HXC, HBr⟩ := hrel
        cases gk with
        | succ d =>
          have hc : decide (i < (p.length : Int)) = true := decide_eq_true (by have := HI.out; omega)
          have hX := HX.out
          simp only [laws_FnGluingTurn.turns] at hX
          obtain ⟨⟨o, o2⟩, ho, hX2⟩ := Option.bind_eq_some_iff.mp hX
          simp only at hX2
          by_cases c5 : ¬ o2 = true
          · rw [if_neg c5] at hX2; cases hX2
          replace c5 := Classical.not_not.mp c5
          rw [if_pos c5] at hX2
          subst c5
          have HOO := Aside0.mk ho
          have HX3 := Aside0.mk hX2
          clear hX ho hX2
          go_wp2_with (go_at_call 20; refine (impl_GluingTurn.calls k A c x o true wr HXC.out.2 HXC.out.1 HOO.out).mono ?_; rintro e w5 ⟨v5, rfl, ho, hb⟩; obtain ⟨A5, c5, rfl⟩ := Kd.R_slice ho; have HX5 := Aside0.mk (Kd.R_reads' ho).2; have HB5 := Aside0.mk (below_step HBr.out hb); clear ho hb)
          go_roundg d
          case measure => omega
          case rel => exact ⟨i + 1, o, A5, c5, rfl, rfl, by rw [show wrap64 (i + 1) = i + 1 by unfold wrap64; have := HI.out; have := HPL.out; omega], ⟨by have := HI.out; omega, by have := HI.out; omega⟩, HX3, HX5, HB5⟩
        | zero =>
          have hc : decide (i < (p.length : Int)) = false := decide_eq_false (by have := HI.out; omega)
          have hx : x = X := by have := HX.out; simpa [laws_FnGluingTurn.turns] using this
          subst hx
          go_upto_region 14 with (fail)
          clear hc HI HX
          have HP5 := Aside0.mk (And.intro HP4.out.1 (Kd.C_below HP4.out.2 HBr.out))
          have HQ5 := Aside0.mk (And.intro HQ4.out.1 (Kd.C_below HQ4.out.2 HBr.out))
          have HB5 := Aside0.mk (below_step HB4.out HBr.out)
          clear HP4 HQ4 HB4 HBr
          go_cut [11, 12] (fun v11 v12 wc => ∃ (g : Nat) (Ax Ay : Option Addr) (cx cy : Nat), v11 = .pointer (some ⟨g, 0, none⟩) ∧ v12 = .bool true ∧ Aside0 (wc.cell? ⟨g, 0, none⟩ = some (.slice Ax a1.length cx) ∧ wc.cell? ⟨g, 1, none⟩ = some (.slice Ay a2.length cy)) ∧ Aside0 (a1.length ≤ cx ∧ Kd.C (Kd.int .i64) wc Ax a1.length a1) ∧ Aside0 (a2.length ≤ cy ∧ Kd.C (Kd.int .i64) wc Ay a2.length a2) ∧ Aside0 (Below wr.heap.size wr wc))
          case first =>
            go_wp2_with (go_at_call 18; refine (impl_GluingMap.calls k Ap cp p a1 a2 true wr HP5.out.2 HP5.out.1 HMA.out).mono ?_; rintro e w6 ⟨v0, v1, rfl, hq, hr, hb⟩; obtain ⟨Ax, cx, rfl⟩ := Kd.R_slice hq; obtain ⟨Ay, cy, rfl⟩ := Kd.R_slice hr; have HX6 := Aside0.mk (Kd.R_reads' hq).2; have HY6 := Aside0.mk (Kd.R_reads' hr).2; have HB6 := Aside0.mk hb; clear hq hr hb)
            go_meet
            case rel => exact ⟨w6.heap.size, Ax, Ay, cx, cy, rfl, rfl, ⟨by rw [World.cell?_alloc_new]; rfl, by rw [World.cell?_alloc_new]; rfl⟩, ⟨HX6.out.1, Kd.C_alloc HX6.out.2 _⟩, ⟨HY6.out.1, Kd.C_alloc HY6.out.2 _⟩, ⟨below_alloc HB6.out _⟩⟩
          case rest =>
            obtain ⟨g, Ax, Ay, cx, cy, rfl, rfl, HCE, HX6, HY6, HB6⟩ := hcut
            have HP6 := Aside0.mk (And.intro HP5.out.1 (Kd.C_below HP5.out.2 HB6.out))
            have HQ6 := Aside0.mk (And.intro HQ5.out.1 (Kd.C_below HQ5.out.2 HB6.out))
            have HXC6 := Aside0.mk (And.intro HXC.out.1 (Kd.C_below HXC.out.2 HB6.out))
            have HBB6 := Aside0.mk (below_step HB5.out HB6.out)
            have HIN := Aside0.mk (And.intro (laws_FnGluingTurn.inb HCE.out.1) (laws_FnGluingTurn.inb HCE.out.2))
            clear HP5 HQ5 HXC HB5 HB6 HMA
            go_upto_region 15 with (fail)
            go_cut [13, 14] (fun v13 v14 wd => ∃ (g3 : Nat) (Az At : Option Addr) (cz ct : Nat), v13 = .pointer (some ⟨g3, 0, none⟩) ∧ v14 = .bool true ∧ Aside0 (wd.cell? ⟨g3, 0, none⟩ = some (.slice Az b1.length cz) ∧ wd.cell? ⟨g3, 1, none⟩ = some (.slice At b2.length ct)) ∧ Aside0 (b1.length ≤ cz ∧ Kd.C (Kd.int .i64) wd Az b1.length b1) ∧ Aside0 (b2.length ≤ ct ∧ Kd.C (Kd.int .i64) wd At b2.length b2) ∧ Aside0 (Below wc.heap.size wc wd))
            case first =>
              go_wp2_with (go_at_call 18; refine (impl_GluingMap.calls k Aq cq q b1 b2 true wc HQ6.out.2 HQ6.out.1 HMB.out).mono ?_; rintro e w6 ⟨v0, v1, rfl, hq, hr, hb⟩; obtain ⟨Az, cz, rfl⟩ := Kd.R_slice hq; obtain ⟨At, ct, rfl⟩ := Kd.R_slice hr; have HX7 := Aside0.mk (Kd.R_reads' hq).2; have HY7 := Aside0.mk (Kd.R_reads' hr).2; have HB7 := Aside0.mk hb; clear hq hr hb)
              go_meet
              case rel => exact ⟨w6.heap.size, Az, At, cz, ct, rfl, rfl, ⟨by rw [World.cell?_alloc_new]; rfl, by rw [World.cell?_alloc_new]; rfl⟩, ⟨HX7.out.1, Kd.C_alloc HX7.out.2 _⟩, ⟨HY7.out.1, Kd.C_alloc HY7.out.2 _⟩, ⟨below_alloc HB7.out _⟩⟩
            case rest =>
              obtain ⟨g3, Az, At, cz, ct, rfl, rfl, HCE3, HX7, HY7, HB7⟩ := hcut
              have HP7 := Aside0.mk (And.intro HP6.out.1 (Kd.C_below HP6.out.2 HB7.out))
              have HQ7 := Aside0.mk (And.intro HQ6.out.1 (Kd.C_below HQ6.out.2 HB7.out))
              have HXC7 := Aside0.mk (And.intro HXC6.out.1 (Kd.C_below HXC6.out.2 HB7.out))
              have HX6b := Aside0.mk (And.intro HX6.out.1 (Kd.C_below HX6.out.2 HB7.out))
              have HY6b := Aside0.mk (And.intro HY6.out.1 (Kd.C_below HY6.out.2 HB7.out))
              have HBB7 := Aside0.mk (below_step HBB6.out HB7.out)
              have HIN3 := Aside0.mk (And.intro (laws_FnGluingTurn.inb HCE3.out.1) (laws_FnGluingTurn.inb HCE3.out.2))
              have HCEb := Aside0.mk (And.intro ((HB7.out.cell (p := ⟨g, 0, none⟩) HIN.out.1).trans HCE.out.1) ((HB7.out.cell (p := ⟨g, 1, none⟩) HIN.out.2).trans HCE.out.2))
              have HINb := Aside0.mk (And.intro (laws_FnGluingTurn.inb HCEb.out.1) (laws_FnGluingTurn.inb HCEb.out.2))
              clear HP6 HQ6 HXC6 HX6 HY6 HBB6 HCE HIN HB7 HMB
              have eg : (g1 == g1) = true := beq_self_eq_true _
              have ed : (d1 == d1) = true := beq_self_eq_true _
              go_wp2_with (first | (go_at_call 25; with_reducible refine (laws_sameInts.calls k A c x Ap cp p true wc HXC7.out.2 HXC7.out.1 HP7.out.2 HP7.out.1 HE2.out).mono ?_; rintro e w' ⟨rfl, ⟨n2, rfl⟩⟩; have HB8 := Aside0.mk (pw_below_drewN (Below.refl wc.heap.size wc) n2)) | (go_at_call 27; with_reducible refine (impl_GluingGenus.calls k Aq cq q _ _ (Kd.C_below HQ7.out.2 HB8.out) HQ7.out.1 HG1.out).mono ?_; rintro e w9 ⟨rfl, hb⟩; have HB9 := Aside0.mk (below_step HB8.out hb); clear hb) | (go_at_call 27; with_reducible refine (impl_GluingGenus.calls k Ap cp p _ w9 (Kd.C_below HP7.out.2 HB9.out) HP7.out.1 HG2.out).mono ?_; rintro e w10 ⟨rfl, hb⟩; have HB10 := Aside0.mk (below_step HB9.out hb); clear hb; have hf0 : ∀ n, (w10.drewN n).cell? ⟨g, 0, none⟩ = some (.slice Ax a1.length cx) := fun n => ((pw_below_drewN HB10.out n).cell (p := ⟨g, 0, none⟩) HINb.out.1).trans HCEb.out.1; have hf1 : ∀ n, (w10.drewN n).cell? ⟨g, 1, none⟩ = some (.slice Ay a2.length cy) := fun n => ((pw_below_drewN HB10.out n).cell (p := ⟨g, 1, none⟩) HINb.out.2).trans HCEb.out.2; have hf2 : ∀ n, (w10.drewN n).cell? ⟨g3, 0, none⟩ = some (.slice Az b1.length cz) := fun n => ((pw_below_drewN HB10.out n).cell (p := ⟨g3, 0, none⟩) HIN3.out.1).trans HCE3.out.1; have hf3 : ∀ n, (w10.drewN n).cell? ⟨g3, 1, none⟩ = some (.slice At b2.length ct) := fun n => ((pw_below_drewN HB10.out n).cell (p := ⟨g3, 1, none⟩) HIN3.out.2).trans HCE3.out.2; have ef0 := hf0 0; have ef1 := hf1 0; have ef2 := hf2 0; have ef3 := hf3 0; rw [World.drewN_zero] at ef0 ef1 ef2 ef3) | (go_at_call 31; with_reducible refine (impl_GluingChord.calls k Aq cq q _ _ (Kd.C_below HQ7.out.2 HB10.out) HQ7.out.1 HD1.out).mono ?_; rintro e w' ⟨rfl, ⟨n3, rfl⟩⟩) | (go_at_call 31; with_reducible refine (impl_GluingChord.calls k Ap cp p _ _ (Kd.C_drewN (Kd.C_below HP7.out.2 HB10.out) _) HP7.out.1 HD2.out).mono ?_; rintro e w' ⟨rfl, ⟨n4, rfl⟩⟩) | (go_at_call 58; with_reducible refine (impl_MapSame.calls k Ax cx a1 Ay cy a2 Az cz b1 At ct b2 true _ (Kd.C_drewN (Kd.C_below HX6b.out.2 HB10.out) _) HX6b.out.1 (Kd.C_drewN (Kd.C_below HY6b.out.2 HB10.out) _) HY6b.out.1 (Kd.C_drewN (Kd.C_below HX7.out.2 HB10.out) _) HX7.out.1 (Kd.C_drewN (Kd.C_below HY7.out.2 HB10.out) _) HY7.out.1 HS.out).mono ?_; rintro e w12 ⟨rfl, hb⟩; have HB12 := Aside0.mk (below_step HBB7.out (below_step (pw_below_drewN HB10.out _) hb)); clear hb))
              go_ret
              exact ⟨by first | rfl | (simp; done) | (simp [*]; done), HB12.out⟩
  exact key q2 rfl
def laws_FnGluingTurn.Pure : Prop := ∀ (l0 : List Int), l0.length ≤ maxLen → l0.length * 1 ≤ 140737488351232 → (∀ x ∈ l0, (Lit.int .u8 x).wf = true) → ∃ k, laws_FnGluingTurn.f k l0 = some true
theorem laws_FnGluingTurn.walk (P : laws_FnGluingTurn.Pure) (a0 : Option Addr) (len0 cap0 : Nat) (z0 : List Int) (w : World) (w0 : (a0 = none ∧ len0 = 0 ∧ cap0 = 0 ∧ z0 = []) ∨ ∃ x, a0 = some x ∧ len0 ≤ cap0 ∧ cap0 ≤ maxLen ∧ z0.length = cap0 ∧ (∀ i, i < z0.length → w.cell? (x.add i) = some (.int .u8 (z0.getD i 0))) ∧ ∀ n ∈ z0, (Lit.int .u8 n).wf = true) (y0 : len0 * 1 ≤ 140737488351232) :
    Calls Try.prog 9 #[.slice a0 len0 cap0] w fun e w' => e = .returned (.bool true) ∧ Below w.heap.size w w' := by
  obtain ⟨l0, rfl, hr0, hm0, hw0, hc0⟩ := ReadsInt.ofRowC w0
  obtain ⟨k, h⟩ := P l0 hm0 y0 hw0
  exact laws_FnGluingTurn.calls k _ _ l0 true w (Kd.C_of_reads (d := (0 : Int)) (h1 := fun _ => rfl) hr0) hc0 h

end Go.Proofs.Ytonlecigglbohaa.Q
