import Derived.Test.YtkfeildndcdbaaaQ0
import Derived.Test.YtkfeildndcdbaaaQ1
import Derived.Test.YtkfeildndcdbaaaQ2
import Derived.Test.YtkfeildndcdbaaaQ3
import Derived.Deep.WholeRow
import Derived.Laws.CopyOwn
import Derived.Laws.EntriesVeiled
namespace Go.Proofs.Ytkfeildndcdbaaa.Q
open Go.RowKit Go.Proofs.YtkfeildndcdbaaaW.PrintWords Go.Proofs.YtkfeildndcdbaaaW.PrintLast Go.Proofs.YtkfeildndcdbaaaW.PrintMore
attribute [local go_sem] max2_int min2_int max_two min_two max_three min_three max_four min_four   -- for this text's walks alone
set_option linter.unusedVariables false
set_option linter.unusedSimpArgs false

/-! ### spec_GluingCount: function 22 -/
mutual
def spec_GluingCount.j0 : Nat → Int → Int → Bool → Option (Int)
  | 0, _, _, _ => none
  | k + 1, x0, x1, x14 => if x14 = true then (some (-1)) else ((spec_l4Free.f k x0).bind fun t203 => ((spec_l4All.f k t203).bind fun t206 => (spec_GluingCount.l0 k x1 0 t206 0)))
def spec_GluingCount.l0 : Nat → Int → Int → List (List Int) → Int → Option (Int)
  | 0, _, _, _, _ => none
  | k + 1, x1, x5, x6, x7 => if x7 < (x6.length : Int) then (if 0 ≤ x7 then ((spec_GluingGenus.f k (rd_L1 x6 x7)).bind fun t210 => (if t210 = x1 then (spec_GluingCount.l0 k x1 (wrap64 (x5 + 1)) x6 (wrap64 (x7 + 1))) else (spec_GluingCount.l0 k x1 x5 x6 (wrap64 (x7 + 1))))) else (none)) else (some x5)
end
def spec_GluingCount.f (k : Nat) (a0 : Int) (a1 : Int) : Option (Int) := (spec_l6In.f a0 1 4).bind fun t202 => (if t202 = true then (spec_GluingCount.j0 k a0 a1 (decide (a1 < 0))) else (spec_GluingCount.j0 k a0 a1 true))
theorem spec_GluingCount.mono_l : ∀ k, (∀ y0 y1 y2, LeO (spec_GluingCount.j0 k y0 y1 y2) (spec_GluingCount.j0 (k + 1) y0 y1 y2)) ∧ (∀ y0 y1 y2 y3, LeO (spec_GluingCount.l0 k y0 y1 y2 y3) (spec_GluingCount.l0 (k + 1) y0 y1 y2 y3))
  | 0 => ⟨fun _ _ _ r h => by simp [spec_GluingCount.j0] at h, fun _ _ _ _ r h => by simp [spec_GluingCount.l0] at h⟩
  | k + 1 => by
    obtain ⟨ih0, ih1⟩ := spec_GluingCount.mono_l k
    refine ⟨?_, ?_⟩
    · intro y0 y1 y2
      unfold spec_GluingCount.j0
      repeat' first
      | (with_reducible exact ih0 _ _ _)
      | (with_reducible exact ih1 _ _ _ _)
      | (with_reducible exact spec_GluingGenus.mono _ _)
      | (with_reducible exact spec_l4All.mono _ _)
      | (with_reducible exact spec_l4Free.mono _ _)
      | (with_reducible exact LeO.refl _)
      | (with_reducible exact LeO.none _)
      | (with_reducible refine LeO.ite ?_ ?_)
      | (with_reducible refine LeO.bind ?_ (fun _ => ?_))
      | exact ih0 _ _ _
      | exact ih1 _ _ _ _
      | exact spec_GluingGenus.mono _ _
      | exact spec_l4All.mono _ _
      | exact spec_l4Free.mono _ _
      | exact LeO.none _
      | refine LeO.ite ?_ ?_
      | refine LeO.bind ?_ (fun _ => ?_)
    · intro y0 y1 y2 y3
      unfold spec_GluingCount.l0
      repeat' first
      | (with_reducible exact ih0 _ _ _)
      | (with_reducible exact ih1 _ _ _ _)
      | (with_reducible exact spec_GluingGenus.mono _ _)
      | (with_reducible exact spec_l4All.mono _ _)
      | (with_reducible exact spec_l4Free.mono _ _)
      | (with_reducible exact LeO.refl _)
      | (with_reducible exact LeO.none _)
      | (with_reducible refine LeO.ite ?_ ?_)
      | (with_reducible refine LeO.bind ?_ (fun _ => ?_))
      | exact ih0 _ _ _
      | exact ih1 _ _ _ _
      | exact spec_GluingGenus.mono _ _
      | exact spec_l4All.mono _ _
      | exact spec_l4Free.mono _ _
      | exact LeO.none _
      | refine LeO.ite ?_ ?_
      | refine LeO.bind ?_ (fun _ => ?_)
theorem spec_GluingCount.mono : ∀ a0 a1 k, LeO (spec_GluingCount.f k a0 a1) (spec_GluingCount.f (k + 1) a0 a1) := by
  intro a0 a1 k
  obtain ⟨ih0, ih1⟩ := spec_GluingCount.mono_l k
  unfold spec_GluingCount.f
  repeat' first
      | (with_reducible exact ih0 _ _ _)
      | (with_reducible exact ih1 _ _ _ _)
      | (with_reducible exact spec_GluingGenus.mono _ _)
      | (with_reducible exact spec_l4All.mono _ _)
      | (with_reducible exact spec_l4Free.mono _ _)
      | (with_reducible exact LeO.refl _)
      | (with_reducible exact LeO.none _)
      | (with_reducible refine LeO.ite ?_ ?_)
      | (with_reducible refine LeO.bind ?_ (fun _ => ?_))
      | exact ih0 _ _ _
      | exact ih1 _ _ _ _
      | exact spec_GluingGenus.mono _ _
      | exact spec_l4All.mono _ _
      | exact spec_l4Free.mono _ _
      | exact LeO.none _
      | refine LeO.ite ?_ ?_
      | refine LeO.bind ?_ (fun _ => ?_)
set_option maxHeartbeats 8000000 in
set_option maxRecDepth 100000 in
theorem spec_GluingCount.calls (k : Nat) (a0 : Int) (a1 : Int) (r : Int) (w : World) (h : spec_GluingCount.f k a0 a1 = some r) :
    Calls Try.prog 22 #[.int .i64 a0, .int .i64 a1] w fun e w' => e = .returned (.int .i64 r) ∧ Below w.heap.size w w' := by
  have HB := Aside0.mk (Below.refl w.heap.size w)
  have H : ((spec_l6In.f a0 1 4).bind fun t202 => (if t202 = true then (spec_GluingCount.j0 k a0 a1 (decide (a1 < 0))) else (spec_GluingCount.j0 k a0 a1 true))) = some r := h
  clear h
  have HC3 := Aside0.mk H
  clear H
  go_enter Try.func22, Try.ntmps22
  go_upto_region 1 with (fail)
  go_cut [14] (fun v14 wc => ∃ (kq : Nat) (x14_2 : Bool), v14 = .bool x14_2 ∧ Aside0 (spec_GluingCount.j0 kq a0 a1 x14_2 = some r) ∧ Aside0 (kq ≤ k) ∧ Aside0 (Below w.heap.size w wc))
  case first =>
    have H := HC3.out
    clear HC3
    replace H := Option.bind_eq_some_iff.mp H
    obtain ⟨t202, A40, H⟩ := H
    replace H : (if t202 = true then (spec_GluingCount.j0 k a0 a1 (decide (a1 < 0))) else (spec_GluingCount.j0 k a0 a1 true)) = some r := H
    have A4 := Aside0.mk A40
    clear A40
    by_cases c5 : t202 = true
    · subst c5
      have H1 : (spec_GluingCount.j0 k a0 a1 (decide (a1 < 0))) = some r := by rw [if_pos rfl] at H; exact H
      clear H
      have H := H1
      clear H1
      have H' := Aside0.mk H
      clear H
      go_wp2_with (first | ((with_reducible refine gate_callee (f := 50) rfl ?_); refine goesL_ (some 9) rfl rfl Try.func50 (by kernel_rfl) rfl #[.int .i64 a0, .int .i64 1, .int .i64 4] rfl (by (try simp only [List.map_toArray, List.map_cons, List.map_nil]); first | done | rfl | (simp only [List.length_drop, List.length_take]; rfl)) ?_; (with_reducible refine (spec_l6In.calls a0 1 4 true _ A4.out).mono ?_); rintro e w' ⟨rfl, ⟨nd, rfl⟩⟩; refine ⟨_, rfl, ?_⟩))
      go_meet
      case rel => exact ⟨_, (decide (a1 < 0)), (by first | rfl | (simp; done) | (simp [*]; done)), H', ⟨by first | omega | exact Nat.le_refl _⟩, ⟨by repeat (first | (with_reducible first | exact HB.out | apply below_alloc | apply pw_below_drewN | apply below_drew1) | exact HB.out)⟩⟩
    · replace c5 := Bool.eq_false_iff.mpr c5
      subst c5
      have H1 : (spec_GluingCount.j0 k a0 a1 true) = some r := by rw [if_neg (show ¬ (false = true) by decide)] at H; exact H
      clear H
      have H := H1
      clear H1
      have H' := Aside0.mk H
      clear H
      go_wp2_with (first | ((with_reducible refine gate_callee (f := 50) rfl ?_); refine goesL_ (some 9) rfl rfl Try.func50 (by kernel_rfl) rfl #[.int .i64 a0, .int .i64 1, .int .i64 4] rfl (by (try simp only [List.map_toArray, List.map_cons, List.map_nil]); first | done | rfl | (simp only [List.length_drop, List.length_take]; rfl)) ?_; (with_reducible refine (spec_l6In.calls a0 1 4 false _ A4.out).mono ?_); rintro e w' ⟨rfl, ⟨nd, rfl⟩⟩; refine ⟨_, rfl, ?_⟩))
      go_meet
      case rel => exact ⟨_, (true), (by first | rfl | (simp; done) | (simp [*]; done)), H', ⟨by first | omega | exact Nat.le_refl _⟩, ⟨by repeat (first | (with_reducible first | exact HB.out | apply below_alloc | apply pw_below_drewN | apply below_drew1) | exact HB.out)⟩⟩
  case rest =>
    clear HC3
    try clear c2
    try clear p2
    try clear c5
    obtain ⟨kq, x14_2, rfl, HA, HJ2, HB⟩ := hcut
    cases kq with
    | zero => exact absurd HA.out (by simp [spec_GluingCount.j0])
    | succ kj2 =>
      have H := HA.out
      clear HA
      simp only [spec_GluingCount.j0] at H
      by_cases c6 : x14_2 = true
      · subst c6
        have H1 : (some (-1)) = some r := by rw [if_pos rfl] at H; exact H
        clear H
        have H := H1
        clear H1
        obtain rfl := Option.some.inj H
        go_wp2
        go_ret
        exact ⟨by first | rfl | (simp [errW_none, errW_some] <;> rfl) | (simp [*, errW_none, errW_some] <;> rfl), by repeat (first | (with_reducible first | exact HB.out | apply below_alloc | apply pw_below_drewN | apply below_drew1) | exact HB.out)⟩
      · replace c6 := Bool.eq_false_iff.mpr c6
        subst c6
        have H1 : ((spec_l4Free.f kj2 a0).bind fun t203 => ((spec_l4All.f kj2 t203).bind fun t206 => (spec_GluingCount.l0 kj2 a1 0 t206 0))) = some r := by rw [if_neg (show ¬ (false = true) by decide)] at H; exact H
        clear H
        have H := H1
        clear H1
        replace H := Option.bind_eq_some_iff.mp H
        obtain ⟨t203, A70, H⟩ := H
        replace H : ((spec_l4All.f kj2 t203).bind fun t206 => (spec_GluingCount.l0 kj2 a1 0 t206 0)) = some r := H
        have A7 := Aside0.mk A70
        clear A70
        replace H := Option.bind_eq_some_iff.mp H
        obtain ⟨t206, A80, H⟩ := H
        replace H : (spec_GluingCount.l0 kj2 a1 0 t206 0) = some r := H
        have A8 := Aside0.mk A80
        clear A80
        have H' := Aside0.mk H
        clear H
        go_wp2_with (first | ((with_reducible refine gate_callee (f := 57) rfl ?_); refine goesL_ (some 16) rfl rfl Try.func57 (by kernel_rfl) rfl #[.int .i64 a0] rfl (by (try simp only [List.map_toArray, List.map_cons, List.map_nil]); first | done | rfl | (simp only [List.length_drop, List.length_take]; rfl)) ?_; (with_reducible refine (spec_l4Free.calls kj2 a0 t203 _ A7.out).mono ?_); rintro e w9 ⟨v204, rfl, ho0, hb⟩; refine ⟨_, rfl, ?_⟩; have n0_ := Aside0.mk (Kd.R_lower ho0 (below_size (by repeat (first | (with_reducible first | exact HB.out | apply below_alloc | apply pw_below_drewN | apply below_drew1) | exact HB.out)))); have n1_ := Aside0.mk (below_step (by repeat (first | (with_reducible first | exact HB.out | apply below_alloc | apply pw_below_drewN | apply below_drew1) | exact HB.out)) hb); clear HB; have HO205 := n0_; have HB := n1_; clear n0_ n1_; (try clear hb); (try clear hb2); (try clear hk); (try clear hi); (try clear ho0); obtain ⟨Ao10, co10, eo10⟩ := Kd.R_slice HO205.out; subst eo10) | ((with_reducible refine gate_callee (f := 56) rfl ?_); refine goesL_ (some 17) rfl rfl Try.func56 (by kernel_rfl) rfl #[.slice Ao10 t203.length co10] rfl (by (try simp only [List.map_toArray, List.map_cons, List.map_nil]); first | done | rfl | (simp only [List.length_drop, List.length_take]; rfl)) ?_; (with_reducible refine (spec_l4All.calls kj2 (fun k_ => some k_ = (.slice Ao10 t203.length co10 : Value).ownBlock) _ _ t203 t206 _ ?side1 A8.out).mono ?_); (case side1 => exact Kd.R_V (Kd.R_tight rfl (HO205.out))); rintro e w11 ⟨v207, rfl, ho0, hb⟩; refine ⟨_, rfl, ?_⟩; have n0_ := Aside0.mk (Kd.R_below (by (with_reducible repeat (first | apply Kd.R_alloc | apply Kd.R_drewN | apply Kd.R_drew)); exact HO205.out) hb); have n1_ := Aside0.mk (Kd.N_lower (Kd.N_mono (ok' := fun k_ => True) ho0 (fun k_ hk_ => trivial)) (below_size (by repeat (first | (with_reducible first | exact HB.out | apply below_alloc | apply pw_below_drewN | apply below_drew1) | exact HB.out)))); have n2_ := Aside0.mk (below_step (by repeat (first | (with_reducible first | exact HB.out | apply below_alloc | apply pw_below_drewN | apply below_drew1) | exact HB.out)) hb); clear HO205; clear HB; have HO205 := n0_; have HO208 := n1_; have HB := n2_; clear n0_ n1_ n2_; (try clear hb); (try clear hb2); (try clear hk); (try clear hi); (try clear ho0)))
        go_loopg [5, 7] kj2 (fun kq v5 v7 w' => ∃ (x5_2 : Int) (x7_2 : Int), v5 = .int .i64 x5_2 ∧ v7 = .int .i64 x7_2 ∧ Aside0 (spec_GluingCount.l0 kq a1 x5_2 t206 x7_2 = some r) ∧ Aside0 (kq ≤ kj2) ∧ Aside0 (Kd.N (Kd.slice 3 (Kd.int .i64)) 32 w' w.heap.size (fun _ => True) v207 t206) ∧ Aside0 (Below w.heap.size w w'))
        case atStart => exact ⟨(0), (0), (by first | rfl | (simp; done) | (simp [*]; done)), (by first | rfl | (simp; done) | (simp [*]; done)), H', ⟨Nat.le_refl _⟩, ⟨by (with_reducible repeat (first | apply Kd.N_alloc | apply Kd.N_drewN | apply Kd.N_drew)); exact HO208.out⟩, ⟨by repeat (first | (with_reducible first | exact HB.out | apply below_alloc | apply pw_below_drewN | apply below_drew1) | exact HB.out)⟩⟩
        case round =>
          clear H'
          try clear c2
          try clear p2
          try clear c5
          try clear c6
          try clear p2
          obtain ⟨x5_2, x7_2, rfl, rfl, HA, HK2, HO_6, HB⟩ := hrel
          cases gk with
          | zero => exact absurd HA.out (by simp [spec_GluingCount.l0])
          | succ k2 =>
            have H := HA.out
            clear HA
            simp only [spec_GluingCount.l0] at H
            by_cases c12 : x7_2 < (t206.length : Int)
            · rw [if_pos c12] at H
              have c12b0 : decide (x7_2 < (t206.length : Int)) = true := decide_eq_true c12
              clear c12
              by_cases c13 : 0 ≤ x7_2
              · rw [if_pos c13] at H
                have c13b0 : decide (0 ≤ x7_2) = true := decide_eq_true c13
                clear c13
                replace H := Option.bind_eq_some_iff.mp H
                obtain ⟨t210, A140, H⟩ := H
                replace H : (if t210 = a1 then (spec_GluingCount.l0 k2 a1 (wrap64 (x5_2 + 1)) t206 (wrap64 (x7_2 + 1))) else (spec_GluingCount.l0 k2 a1 x5_2 t206 (wrap64 (x7_2 + 1)))) = some r := H
                have A14 := Aside0.mk A140
                clear A140
                by_cases c15 : t210 = a1
                · rw [if_pos c15] at H
                  have c15b0 : (t210 == a1) = true := beq_iff_eq.mpr c15
                  have c15b1 : (t210 != a1) = false := bne_eq_false_iff_eq.mpr c15
                  clear c15
                  have H' := Aside0.mk H
                  clear H
                  obtain ⟨Ao16, co16, eo16⟩ := Kd.N_slice HO_6.out
                  subst eo16
                  have p209 : 0 ≤ (x7_2 : Int) := of_decide_eq_true (by first | (with_reducible assumption) | assumption)
                  have q209 : x7_2 < (t206.length : Int) := of_decide_eq_true (by first | (with_reducible assumption) | assumption)
                  obtain ⟨ad209, A209_0, c209_0, e209, hx209_0, hl209_0, hi209_0⟩ := at_L1 (Kd.N_reads' HO_6.out).2.2 x7_2 p209 q209
                  cases e209
                  obtain ⟨ce209, hce209, hMe209, hcc209⟩ := Kd.N_get HO_6.out [] x7_2 p209 (by first | exact q209 | exact of_decide_eq_true (by first | (with_reducible assumption) | assumption) | (have e_ := (Kd.N_reads' HO_6.out).1; omega))
                  obtain ⟨ua209_0, uc209_0, rfl, ul209_0, ge209_0⟩ := Kd.FK_slice_open hMe209
                  have hv209_0 := hcc209 0 _ rfl
                  rw [Nat.add_zero, show ((Kd.slice 3 (Kd.int .i64))).sz = 1 from rfl, Nat.mul_one] at hv209_0
                  replace hv209_0 := Option.some.inj (hv209_0.symm.trans hx209_0)
                  injection hv209_0 with hva_ hvn_ hvc_
                  rw [hva_] at ge209_0
                  rw [hvc_] at ul209_0
                  have HL209_0 := Aside0.mk (show Kd.V (Kd.int .i64) 3 _ w.heap.size _ _ (rd_L1 t206 x7_2) from Kd.V_mk ul209_0 ge209_0)
                  clear hva_ hvn_ hvc_ ge209_0 ul209_0
                  clear hcc209 hce209
                  have HR209_0 := Aside0.mk hi209_0
                  have HC209_0 := Aside0.mk hl209_0
                  clear hi209_0 hl209_0
                  replace p209 := eq_true p209
                  replace q209 := eq_true q209
                  go_wp2_with (first | ((with_reducible refine gate_callee (f := 60) rfl ?_); refine goesL_ (some 28) rfl rfl Try.func60 (by kernel_rfl) rfl #[.slice A209_0 (rd_L1 t206 x7_2).length c209_0] rfl (by (try simp only [List.map_toArray, List.map_cons, List.map_nil]); first | done | rfl | (simp only [List.length_drop, List.length_take]; rfl)) ?_; (with_reducible refine (spec_GluingGenus.calls k2 _ _ (rd_L1 t206 x7_2) t210 _ ?side1 ?side2 A14.out).mono ?_); (case side1 => repeat (first | exact (by repeat (first | (with_reducible exact HR209_0.out) | (with_reducible refine Kd.C_alloc ?_ _) | (with_reducible refine Kd.C_drewN ?_ _) | (with_reducible refine Kd.C_drew ?_) | exact HR209_0.out)) | (with_reducible refine Kd.C_alloc ?_ _) | (with_reducible refine Kd.C_drewN ?_ _) | (with_reducible refine Kd.C_drew ?_))); (case side2 => exact HC209_0.out); rintro e w17 ⟨rfl, hb⟩; refine ⟨_, rfl, ?_⟩; have n0_ := Aside0.mk (Kd.N_below (by (with_reducible repeat (first | apply Kd.N_alloc | apply Kd.N_drewN | apply Kd.N_drew)); exact HO_6.out) hb); have n1_ := Aside0.mk (Kd.V_below (by (with_reducible repeat (first | apply Kd.V_alloc | apply Kd.V_drewN | apply Kd.V_drew)); exact HL209_0.out) hb); have n2_ := Aside0.mk (Kd.C_below (by repeat (first | (with_reducible exact HR209_0.out) | (with_reducible refine Kd.C_alloc ?_ _) | (with_reducible refine Kd.C_drewN ?_ _) | (with_reducible refine Kd.C_drew ?_) | exact HR209_0.out)) hb); have n3_ := Aside0.mk (below_step (by repeat (first | (with_reducible first | exact HB.out | apply below_alloc | apply pw_below_drewN | apply below_drew1) | exact HB.out)) hb); clear HO_6; clear HL209_0; clear HR209_0; clear HB; have HO_6 := n0_; have HL209_0 := n1_; have HR209_0 := n2_; have HB := n3_; clear n0_ n1_ n2_ n3_; (try clear hb); (try clear hb2); (try clear hk); (try clear hi)))
                  go_roundg k2
                  case measure => have := HJ2.out; have := HK2.out; omega
                  case rel => exact ⟨(wrap64 (x5_2 + 1)), (wrap64 (x7_2 + 1)), (by first | rfl | (simp; done) | (simp [*]; done)), (by first | rfl | (simp; done) | (simp [*]; done)), H', ⟨by have := HJ2.out; have := HK2.out; omega⟩, ⟨by (with_reducible repeat (first | apply Kd.N_alloc | apply Kd.N_drewN | apply Kd.N_drew)); exact HO_6.out⟩, ⟨by repeat (first | (with_reducible first | exact HB.out | apply below_alloc | apply pw_below_drewN | apply below_drew1) | exact HB.out)⟩⟩
                · rw [if_neg c15] at H
                  have c15b0 : (t210 == a1) = false := beq_eq_false_iff_ne.mpr c15
                  have c15b1 : (t210 != a1) = true := bne_iff_ne.mpr c15
                  have H' := Aside0.mk H
                  clear H
                  obtain ⟨Ao18, co18, eo18⟩ := Kd.N_slice HO_6.out
                  subst eo18
                  have p209 : 0 ≤ (x7_2 : Int) := of_decide_eq_true (by first | (with_reducible assumption) | assumption)
                  have q209 : x7_2 < (t206.length : Int) := of_decide_eq_true (by first | (with_reducible assumption) | assumption)
                  obtain ⟨ad209, A209_0, c209_0, e209, hx209_0, hl209_0, hi209_0⟩ := at_L1 (Kd.N_reads' HO_6.out).2.2 x7_2 p209 q209
                  cases e209
                  obtain ⟨ce209, hce209, hMe209, hcc209⟩ := Kd.N_get HO_6.out [] x7_2 p209 (by first | exact q209 | exact of_decide_eq_true (by first | (with_reducible assumption) | assumption) | (have e_ := (Kd.N_reads' HO_6.out).1; omega))
                  obtain ⟨ua209_0, uc209_0, rfl, ul209_0, ge209_0⟩ := Kd.FK_slice_open hMe209
                  have hv209_0 := hcc209 0 _ rfl
                  rw [Nat.add_zero, show ((Kd.slice 3 (Kd.int .i64))).sz = 1 from rfl, Nat.mul_one] at hv209_0
                  replace hv209_0 := Option.some.inj (hv209_0.symm.trans hx209_0)
                  injection hv209_0 with hva_ hvn_ hvc_
                  rw [hva_] at ge209_0
                  rw [hvc_] at ul209_0
                  have HL209_0 := Aside0.mk (show Kd.V (Kd.int .i64) 3 _ w.heap.size _ _ (rd_L1 t206 x7_2) from Kd.V_mk ul209_0 ge209_0)
                  clear hva_ hvn_ hvc_ ge209_0 ul209_0
                  clear hcc209 hce209
                  have HR209_0 := Aside0.mk hi209_0
                  have HC209_0 := Aside0.mk hl209_0
                  clear hi209_0 hl209_0
                  replace p209 := eq_true p209
                  replace q209 := eq_true q209
                  go_wp2_with (first | ((with_reducible refine gate_callee (f := 60) rfl ?_); refine goesL_ (some 28) rfl rfl Try.func60 (by kernel_rfl) rfl #[.slice A209_0 (rd_L1 t206 x7_2).length c209_0] rfl (by (try simp only [List.map_toArray, List.map_cons, List.map_nil]); first | done | rfl | (simp only [List.length_drop, List.length_take]; rfl)) ?_; (with_reducible refine (spec_GluingGenus.calls k2 _ _ (rd_L1 t206 x7_2) t210 _ ?side1 ?side2 A14.out).mono ?_); (case side1 => repeat (first | exact (by repeat (first | (with_reducible exact HR209_0.out) | (with_reducible refine Kd.C_alloc ?_ _) | (with_reducible refine Kd.C_drewN ?_ _) | (with_reducible refine Kd.C_drew ?_) | exact HR209_0.out)) | (with_reducible refine Kd.C_alloc ?_ _) | (with_reducible refine Kd.C_drewN ?_ _) | (with_reducible refine Kd.C_drew ?_))); (case side2 => exact HC209_0.out); rintro e w19 ⟨rfl, hb⟩; refine ⟨_, rfl, ?_⟩; have n0_ := Aside0.mk (Kd.N_below (by (with_reducible repeat (first | apply Kd.N_alloc | apply Kd.N_drewN | apply Kd.N_drew)); exact HO_6.out) hb); have n1_ := Aside0.mk (Kd.V_below (by (with_reducible repeat (first | apply Kd.V_alloc | apply Kd.V_drewN | apply Kd.V_drew)); exact HL209_0.out) hb); have n2_ := Aside0.mk (Kd.C_below (by repeat (first | (with_reducible exact HR209_0.out) | (with_reducible refine Kd.C_alloc ?_ _) | (with_reducible refine Kd.C_drewN ?_ _) | (with_reducible refine Kd.C_drew ?_) | exact HR209_0.out)) hb); have n3_ := Aside0.mk (below_step (by repeat (first | (with_reducible first | exact HB.out | apply below_alloc | apply pw_below_drewN | apply below_drew1) | exact HB.out)) hb); clear HO_6; clear HL209_0; clear HR209_0; clear HB; have HO_6 := n0_; have HL209_0 := n1_; have HR209_0 := n2_; have HB := n3_; clear n0_ n1_ n2_ n3_; (try clear hb); (try clear hb2); (try clear hk); (try clear hi)))
                  go_roundg k2
                  case measure => have := HJ2.out; have := HK2.out; omega
                  case rel => exact ⟨(x5_2), (wrap64 (x7_2 + 1)), (by first | rfl | (simp; done) | (simp [*]; done)), (by first | rfl | (simp; done) | (simp [*]; done)), H', ⟨by have := HJ2.out; have := HK2.out; omega⟩, ⟨by (with_reducible repeat (first | apply Kd.N_alloc | apply Kd.N_drewN | apply Kd.N_drew)); exact HO_6.out⟩, ⟨by repeat (first | (with_reducible first | exact HB.out | apply below_alloc | apply pw_below_drewN | apply below_drew1) | exact HB.out)⟩⟩
              · rw [if_neg c13] at H
                exact absurd H (by simp)
            · rw [if_neg c12] at H
              have c12b0 : decide (x7_2 < (t206.length : Int)) = false := decide_eq_false c12
              clear c12
              obtain rfl := Option.some.inj H
              obtain ⟨Ao20, co20, eo20⟩ := Kd.N_slice HO_6.out
              subst eo20
              go_wp2
              go_ret
              exact ⟨by first | rfl | (simp [errW_none, errW_some] <;> rfl) | (simp [*, errW_none, errW_some] <;> rfl), by repeat (first | (with_reducible first | exact HB.out | apply below_alloc | apply pw_below_drewN | apply below_drew1) | exact HB.out)⟩

-- NOT PRINTED: function 58 (impl_flipsOf)

/-! ### impl_GluingCount: function 23 (a section of my own) -/

def impl_GluingCount.own (bo bg be h0 k : Nat) : Prop := k = bo ∨ k = bg ∨ k = be ∨ h0 ≤ k
def impl_GluingCount.loop (g : List Int → Option (List (List Int))) (p : List Int) (a : Int) : Nat → Int → Option (List (List Int))
  | 0, _ => some []
  | d + 1, k => if rd p k < 0 then (if rd p k = -1 ∧ rd p a = -1 then (g ((p.set a.toNat k).set k.toNat a)).bind fun x => (impl_GluingCount.loop g p a d (k + 1)).bind fun y => some (x ++ y) else none) else impl_GluingCount.loop g p a d (k + 1)
def impl_GluingCount.gen : Nat → List Int → Option (List (List Int))
  | 0, _ => none
  | f + 1, p => (slices_Index_int_int.f 60 p (-1)).bind fun t => if t < 0 then some [p] else if t < (p.length : Int) then impl_GluingCount.loop (impl_GluingCount.gen f) p t (p.length - (t.toNat + 1)) (t + 1) else none
/-- the function value that try holds; the four variables, and the row that is being filled -/
def impl_GluingCount.TV (bn bt bp bf : Nat) : Value := .func (.func 92) #[] #[.pointer (some ⟨bp, 0, none⟩), .pointer (some ⟨bt, 0, none⟩), .pointer (some ⟨bn, 0, none⟩), .pointer (some ⟨bf, 0, none⟩)]
structure impl_GluingCount.FS (W : World) (bn bt bp bf gp n cp base : Nat) (F : Value) (p : List Int) : Prop where
  hn : W.heap[bn]? = some (.cells #[.int .i64 (n : Int)] 3 (0, 0))
  ht : W.heap[bt]? = some (.cells #[F] 60 (0, 0))
  hp : W.heap[bp]? = some (.cells #[.slice (some ⟨gp, 0, none⟩) n cp] 32 (0, 0))
  hf : W.heap[bf]? = some (.cells #[impl_GluingCount.TV bn bt bp bf] 1 (0, 0))
  hr : Kd.R (Kd.int .i64) 3 W base (fun k => k = gp) (.slice (some ⟨gp, 0, none⟩) n cp) p
  hl : p.length = n
structure impl_GluingCount.Ne (bn bt bp bf gp h0 : Nat) : Prop where
  n : bn < h0 ∧ bn ≠ gp
  t : bt < h0 ∧ bt ≠ gp
  p : bp < h0 ∧ bp ≠ gp
  f : bf < h0 ∧ bf ≠ gp
  g : gp < h0
structure impl_GluingCount.Fr (w w' : World) (h0 bo be gp : Nat) : Prop where
  size : w.heap.size ≤ w'.heap.size
  keep : ∀ k, k < h0 → k ≠ bo → k ≠ be → k ≠ gp → w'.heap[k]? = w.heap[k]?
theorem impl_GluingCount.Fr.refl (w : World) (h0 bo be gp : Nat) : impl_GluingCount.Fr w w h0 bo be gp := ⟨Nat.le_refl _, fun _ _ _ _ _ => rfl⟩
theorem impl_GluingCount.Fr.trans {w w1 w2 : World} {h0 bo be gp : Nat} (a : impl_GluingCount.Fr w w1 h0 bo be gp) (b : impl_GluingCount.Fr w1 w2 h0 bo be gp) : impl_GluingCount.Fr w w2 h0 bo be gp := ⟨Nat.le_trans a.size b.size, fun k h1 h2 h3 h4 => (b.keep k h1 h2 h3 h4).trans (a.keep k h1 h2 h3 h4)⟩
section
variable {W W' : World} {bn bt bp bf gp n cp base : Nat} {F : Value} {p : List Int}
theorem impl_GluingCount.FS.step (h : impl_GluingCount.FS W bn bt bp bf gp n cp base F p) (h1 : W'.heap[bn]? = W.heap[bn]?) (h2 : W'.heap[bt]? = W.heap[bt]?) (h3 : W'.heap[bp]? = W.heap[bp]?) (h4 : W'.heap[bf]? = W.heap[bf]?) (h5 : W'.heap[gp]? = W.heap[gp]?) : impl_GluingCount.FS W' bn bt bp bf gp n cp base F p :=
  ⟨h1.trans h.hn, h2.trans h.ht, h3.trans h.hp, h4.trans h.hf, Kd.R_step h.hr (fun k hk _ => by rw [hk]; exact h5), h.hl⟩
theorem impl_GluingCount.FS.put (h : impl_GluingCount.FS W bn bt bp bf gp n cp base F p) {h0 : Nat} (hne : impl_GluingCount.Ne bn bt bp bf gp h0) (i v : Int) : impl_GluingCount.FS (W.setCell ⟨gp, i.toNat, none⟩ (.int .i64 v)) bn bt bp bf gp n cp base F (p.set i.toNat v) :=
  ⟨(heap_setCell_other W _ bn _ hne.n.2).trans h.hn, (heap_setCell_other W _ bt _ hne.t.2).trans h.ht, (heap_setCell_other W _ bp _ hne.p.2).trans h.hp, (heap_setCell_other W _ bf _ hne.f.2).trans h.hf, Kd.R_putn h.hr i v, by rw [List.length_set]; exact h.hl⟩
end
structure impl_GluingCount.Bx (bo bg be h0 bn bt bp bf gp : Nat) : Prop where
  o : bo < h0
  e : be < h0
  go : gp ≠ bo ∧ gp ≠ bg ∧ gp ≠ be
  no : bn ≠ bo ∧ bn ≠ be
  tt : bt ≠ bo ∧ bt ≠ be
  po : bp ≠ bo ∧ bp ≠ be
  fo : bf ≠ bo ∧ bf ≠ be
theorem impl_GluingCount.FS.over {W W' : World} {bn bt bp bf gp n cp base h0 bo bg be : Nat} {F : Value} {p : List Int} (h : impl_GluingCount.FS W bn bt bp bf gp n cp base F p) (hne : impl_GluingCount.Ne bn bt bp bf gp h0) (hbx : impl_GluingCount.Bx bo bg be h0 bn bt bp bf gp) (hk : ∀ k, k < h0 → k ≠ bo → k ≠ be → W'.heap[k]? = W.heap[k]?) : impl_GluingCount.FS W' bn bt bp bf gp n cp base F p :=
  h.step (hk bn hne.n.1 hbx.no.1 hbx.no.2) (hk bt hne.t.1 hbx.tt.1 hbx.tt.2) (hk bp hne.p.1 hbx.po.1 hbx.po.2) (hk bf hne.f.1 hbx.fo.1 hbx.fo.2) (hk gp hne.g hbx.go.1 hbx.go.2.2)
theorem impl_GluingCount.own_ne {bo bg be h0 bn bt bp bf gp q : Nat} (hbx : impl_GluingCount.Bx bo bg be h0 bn bt bp bf gp) (hne : impl_GluingCount.Ne bn bt bp bf gp h0) (h : impl_GluingCount.own bo bg be h0 q) : q ≠ gp := by
  have h1 := hbx.go; have h2 := hne.g
  unfold impl_GluingCount.own at h
  omega
theorem impl_GluingCount.put_back (p : List Int) (a k : Int) (ha : 0 ≤ a) (hak : a < k) (hk : k < (p.length : Int)) (h1 : rd p k = -1) (h2 : rd p a = -1) : (((p.set a.toNat k).set k.toNat a).set a.toNat (-1)).set k.toNat (-1) = p := by
  have r1 : p.getD k.toNat 0 = -1 := h1
  have r2 : p.getD a.toNat 0 = -1 := h2
  rw [List.getD_eq_getElem?_getD, List.getElem?_eq_getElem (by omega), Option.getD_some] at r1 r2
  apply List.ext_getElem (by simp)
  intro i h3 h4
  simp only [List.length_set] at h3
  simp only [List.getElem_set]
  by_cases e1 : k.toNat = i
  · subst e1; simp [r1]
  · by_cases e2 : a.toNat = i
    · subst e2; simp [e1, r2]
    · simp [e1, e2]

def impl_GluingCount.FV (bo bg : Nat) : Value := (.func (.func 61) #[] #[.pointer (some ⟨bg, 0, none⟩), .pointer (some ⟨bo, 0, none⟩)] : Value)
def impl_GluingCount.Q (x : List Int) : Prop := x.length ≤ 40 ∧ (impl_gluedGenus.f 2000 x).isSome = true
def impl_GluingCount.cnt (g : Int) (rows : List (List Int)) : Option Int := rows.foldl (fun m x => m.bind fun m => (impl_gluedGenus.f 2000 x).bind fun t => some (if t = g then wrap64 (m + 1) else m)) (some 0)
def impl_GluingCount.I (W : World) (bo bg be h0 base : Nat) (g : Int) (rows : List (List Int)) : Prop :=
  bo ≠ bg ∧ W.heap[bg]? = some (.cells #[.int .i64 g] 3 (0, 0)) ∧ ∃ m, impl_GluingCount.cnt g rows = some m ∧ W.heap[bo]? = some (.cells #[.int .i64 m] 3 (0, 0))
theorem impl_GluingCount.I_step {W W' : World} {bo bg be h0 base : Nat} {g : Int} {rows : List (List Int)} (h : impl_GluingCount.I W bo bg be h0 base g rows) (hm : ∀ k, impl_GluingCount.own bo bg be h0 k → k < W.heap.size → W'.heap[k]? = W.heap[k]?) : impl_GluingCount.I W' bo bg be h0 base g rows := by
  obtain ⟨h1, hg, m, hcm, hv⟩ := h
  exact ⟨h1, (hm bg (.inr (.inl rfl)) (Array.getElem?_eq_some_iff.1 hg).1).trans hg, m, hcm, (hm bo (.inl rfl) (Array.getElem?_eq_some_iff.1 hv).1).trans hv⟩
set_option maxHeartbeats 8000000 in
set_option maxRecDepth 100000 in
theorem impl_GluingCount.tell (x : List Int) (A : Option Addr) (c : Nat) (w1 w w0 : World) (bo bg be h0 : Nat) (g : Int) (rows : List (List Int)) (hrow : rows.length ≤ 1000000) (hq : impl_GluingCount.Q x) (HI : impl_GluingCount.I w1 bo bg be h0 w0.heap.size g rows) (hbx : Below w1.heap.size w1 w)
    (HR : Kd.R (Kd.int .i64) 3 w w1.heap.size (fun _ => True) (.slice A x.length c) x) (hbo : bo < h0) (hbe : be < h0) (hh : h0 ≤ w1.heap.size) (hob : w0.heap.size ≤ bo) (hb : w0.heap.size ≤ h0) (heb : w0.heap.size ≤ be) (HB : Below w0.heap.size w0 w1) :
    Calls Try.prog 61 #[.slice A x.length c, .pointer (some ⟨bg, 0, none⟩), .pointer (some ⟨bo, 0, none⟩)] w fun e w' =>
      e = .returned (.tuple #[]) ∧ impl_GluingCount.I w' bo bg be h0 w0.heap.size g (rows ++ [x]) ∧ w1.heap.size ≤ w'.heap.size ∧ (∀ q, q < h0 → q ≠ bo → q ≠ be → w'.heap[q]? = w1.heap[q]?) ∧ Below w0.heap.size w0 w' := by
  obtain ⟨hne, hg, m, hcm, hv⟩ := HI
  obtain ⟨t, ht⟩ := Option.isSome_iff_exists.mp hq.2
  have hgl : bg < w1.heap.size := (Array.getElem?_eq_some_iff.1 hg).1
  have hvl : bo < w1.heap.size := (Array.getElem?_eq_some_iff.1 hv).1
  have HGW := Aside0.mk ((hbx.block bg hgl).trans hg)
  have HVW := Aside0.mk ((hbx.block bo hvl).trans hv)
  have HCN := Aside0.mk (show impl_GluingCount.cnt g (rows ++ [x]) = some (if t = g then wrap64 (m + 1) else m) by
    have h1 := hcm
    unfold impl_GluingCount.cnt at h1 ⊢
    rw [List.foldl_append, h1]
    simp only [List.foldl_cons, List.foldl_nil, Option.bind_some, ht])
  have HGG := Aside0.mk (show Calls Try.prog 62 #[.slice A x.length c] w.drew fun e w' => e = .returned (.int .i64 t) ∧ Below w.drew.heap.size w.drew w' from
    impl_gluedGenus.calls 2000 A c x t w.drew (Kd.C_drew (Kd.R_reads' HR).2.2) (Kd.R_reads' HR).2.1 ht)
  have HN := Aside0.mk (show bg < w1.heap.size ∧ bo < w1.heap.size ∧ h0 ≤ w1.heap.size ∧ w0.heap.size ≤ bo ∧ bo ≠ bg ∧ w1.heap.size ≤ w.heap.size from ⟨hgl, hvl, hh, hob, hne, hbx.size⟩)
  have HX := Aside0.mk hbx
  have HB0 := Aside0.mk (below_step HB hbx)
  have hcg : w.cell? ⟨bg, 0, none⟩ = some (.int .i64 g) := cell_of_row w bg 0 _ _ _ HGW.out
  have HCG := Aside0.mk hcg
  clear hne hg hcm hv ht hgl hvl hrow hq hbx HR hbo hbe hh hob hb heb HB
  by_cases ce : t = g
  · have ceb : (t == g) = true := beq_iff_eq.mpr ce
    have HC2 := Aside0.mk (show impl_GluingCount.cnt g (rows ++ [x]) = some (wrap64 (m + 1)) by rw [HCN.out, if_pos ce])
    clear ce HCN
    go_enter Try.func61, Try.ntmps61
    go_wp2_with fail
    go_region_held3 (fun w' => w'.cell? ⟨bg, 0, none⟩ = some (.int .i64 g)) (first | exact HKX.out | exact HCG.out | exact hcg | go_keep) (first | (go_at_call 62; refine HGG.out.mono ?_; rintro e wx ⟨rfl, hbx⟩; have HBX1 := Aside0.mk (show Below w.heap.size w wx from (Below.refl _ _).drew.trans (hbx.mono (by simp))); have HKX := Aside0.mk ((HBX1.out.cell (p := ⟨bg, 0, none⟩) (Nat.lt_of_lt_of_le HN.out.1 HN.out.2.2.2.2.2)).trans HCG.out); clear hbx))
    all_goals (
      have HV2 := Aside0.mk ((HBX1.out.block bo (Nat.lt_of_lt_of_le HN.out.2.1 HN.out.2.2.2.2.2)).trans HVW.out)
      have hco : wx.cell? ⟨bo, 0, none⟩ = some (.int .i64 m) := cell_of_row wx bo 0 _ _ _ HV2.out
      have hfo : wx.frozen? ⟨bo, 0, none⟩ = false := frozen_of_row wx bo 0 _ _ HV2.out)
    all_goals go_wp2
    all_goals go_end0
    all_goals (
      have HG2 := (HBX1.out.block bg (Nat.lt_of_lt_of_le HN.out.1 HN.out.2.2.2.2.2)).trans HGW.out
      refine ⟨rfl, ⟨HN.out.2.2.2.2.1, (heap_setCell_other wx _ bg _ (fun e => HN.out.2.2.2.2.1 e.symm)).trans HG2, _, HC2.out, heap_setCell_same wx bo 0 _ _ _ HV2.out⟩, ?_, fun q hq hqo _ => ?_, below_set (below_step HB0.out HBX1.out) HN.out.2.2.2.1⟩
      · have h1 : wx.heap.size ≤ (wx.setCell ⟨bo, 0, none⟩ (.int .i64 (wrap64 (m + 1)))).heap.size := by simp
        exact Nat.le_trans HN.out.2.2.2.2.2 (Nat.le_trans HBX1.out.size h1)
      · exact ((heap_setCell_other wx _ q _ hqo).trans (HBX1.out.block q (by have := HN.out; omega))).trans (HX.out.block q (by have := HN.out; omega)))
  · have ceb : (t == g) = false := beq_eq_false_iff_ne.mpr ce
    have HC2 := Aside0.mk (show impl_GluingCount.cnt g (rows ++ [x]) = some m by rw [HCN.out, if_neg ce])
    clear ce HCN
    go_enter Try.func61, Try.ntmps61
    go_wp2_with fail
    go_region_held3 (fun w' => w'.cell? ⟨bg, 0, none⟩ = some (.int .i64 g)) (first | exact HKX.out | exact HCG.out | exact hcg | go_keep) (first | (go_at_call 62; refine HGG.out.mono ?_; rintro e wx ⟨rfl, hbx⟩; have HBX1 := Aside0.mk (show Below w.heap.size w wx from (Below.refl _ _).drew.trans (hbx.mono (by simp))); have HKX := Aside0.mk ((HBX1.out.cell (p := ⟨bg, 0, none⟩) (Nat.lt_of_lt_of_le HN.out.1 HN.out.2.2.2.2.2)).trans HCG.out); clear hbx))
    all_goals go_wp2
    all_goals go_end0
    all_goals (
      have HG2 := (HBX1.out.block bg (Nat.lt_of_lt_of_le HN.out.1 HN.out.2.2.2.2.2)).trans HGW.out
      have HV2 := (HBX1.out.block bo (Nat.lt_of_lt_of_le HN.out.2.1 HN.out.2.2.2.2.2)).trans HVW.out
      refine ⟨rfl, ⟨HN.out.2.2.2.2.1, HG2, _, HC2.out, HV2⟩, Nat.le_trans HN.out.2.2.2.2.2 HBX1.out.size, fun q hq hqo _ => ?_, below_step HB0.out HBX1.out⟩
      exact (HBX1.out.block q (by have := HN.out; omega)).trans (HX.out.block q (by have := HN.out; omega)))

set_option maxHeartbeats 16000000 in
set_option maxRecDepth 100000 in
theorem impl_GluingCount.leafcase (bn bt bp bf gp n cp bo bg be h0 : Nat) (g : Int) (w0 : World) (hne : impl_GluingCount.Ne bn bt bp bf gp h0) (hbx : impl_GluingCount.Bx bo bg be h0 bn bt bp bf gp) (hb0 : w0.heap.size ≤ bo ∧ w0.heap.size ≤ gp ∧ w0.heap.size ≤ h0 ∧ w0.heap.size ≤ be) (hn : n ≤ 40)
    (p : List Int) (w : World) (rows : List (List Int)) (t : Int) (ht : slices_Index_int_int.f 60 p (-1) = some t) (c1 : t < 0) (hrow : rows.length + 1 ≤ 1000000) (hq : impl_GluingCount.Q p)
    (HFS : impl_GluingCount.FS w bn bt bp bf gp n cp w0.heap.size (impl_GluingCount.FV bo bg) p) (HI : impl_GluingCount.I w bo bg be h0 w0.heap.size g rows) (hh : h0 ≤ w.heap.size) (HB : Below w0.heap.size w0 w) :
    Calls Try.prog 92 #[.pointer (some ⟨bp, 0, none⟩), .pointer (some ⟨bt, 0, none⟩), .pointer (some ⟨bn, 0, none⟩), .pointer (some ⟨bf, 0, none⟩)] w fun e w' =>
      e = .returned (.tuple #[]) ∧ impl_GluingCount.FS w' bn bt bp bf gp n cp w0.heap.size (impl_GluingCount.FV bo bg) p ∧ impl_GluingCount.I w' bo bg be h0 w0.heap.size g (rows ++ [p]) ∧ impl_GluingCount.Fr w w' h0 bo be gp ∧ Below w0.heap.size w0 w' := by
  have HFS0 := Aside0.mk HFS
  have HI0 := Aside0.mk HI
  have HB0 := Aside0.mk HB
  have HH := Aside0.mk hh
  have HROW := Aside0.mk hrow
  have HQ := Aside0.mk hq
  have HNE := Aside0.mk hne
  have HBX := Aside0.mk hbx
  have HB00 := Aside0.mk hb0
  have hnc : n ≤ cp := (Kd.R_reads' HFS.hr).2.1
  have HLN := Aside0.mk (show p.length = n ∧ n ≤ 40 ∧ n ≤ cp from ⟨HFS.hl, hn, hnc⟩)
  have hcp : w.cell? ⟨bp, 0, none⟩ = some (.slice (some ⟨gp, 0, none⟩) n cp) := cell_of_row w bp 0 _ _ _ HFS.hp
  have HIX := Aside0.mk (show Calls Try.prog 93 #[.slice (some ⟨gp, 0, none⟩) n cp, .int .i64 (-1)] w fun e w' => e = .returned (.int .i64 t) ∧ Drawn0 w w' by
    have h1 := slices_Index_int_int.calls 60 (some ⟨gp, 0, none⟩) cp p (-1) t w (Kd.R_reads' HFS.hr).2.2 (by rw [HFS.hl]; exact hnc) ht
    rw [HFS.hl] at h1
    exact h1)
  have c1b : decide (t < 0) = true := decide_eq_true c1
  clear HFS HI HB hh hrow hq hne hbx hb0 hnc ht hn c1
  go_enter Try.func92, Try.ntmps92
  go_upto_region 1 with (go_at_call 93; refine HIX.out.mono ?_; rintro e w' ⟨rfl, ⟨nd, rfl⟩⟩)
  generalize hw9 : w.drewN nd = wc
  have hwc : Aside0 (∃ m, wc = w.drewN m) := ⟨⟨nd, hw9.symm⟩⟩
  clear hw9
  ·
    have HFS := Aside0.mk (show impl_GluingCount.FS wc bn bt bp bf gp n cp w0.heap.size (impl_GluingCount.FV bo bg) p by obtain ⟨m, rfl⟩ := hwc.out; exact HFS0.out.step rfl rfl rfl rfl rfl)
    have HI := Aside0.mk (show impl_GluingCount.I wc bo bg be h0 w0.heap.size g rows by obtain ⟨m, rfl⟩ := hwc.out; exact impl_GluingCount.I_step HI0.out (fun _ _ _ => rfl))
    have HB := Aside0.mk (show Below w0.heap.size w0 wc by obtain ⟨m, rfl⟩ := hwc.out; exact pw_below_drewN HB0.out m)
    have HFR := Aside0.mk (show impl_GluingCount.Fr w wc h0 bo be gp by obtain ⟨m, rfl⟩ := hwc.out; exact ⟨Nat.le_refl _, fun _ _ _ _ _ => rfl⟩)
    have HSZ := Aside0.mk (show h0 ≤ wc.heap.size by have := HFR.out.size; have := HH.out; omega)
    clear hwc HFS0 HI0 HB0 HIX hcp
    have hcp : wc.cell? ⟨bp, 0, none⟩ = some (.slice (some ⟨gp, 0, none⟩) n cp) := cell_of_row wc bp 0 _ _ _ HFS.out.hp
    have hct : wc.cell? ⟨bt, 0, none⟩ = some (.func (.func 61) #[] #[.pointer (some ⟨bg, 0, none⟩), .pointer (some ⟨bo, 0, none⟩)] : Value) := cell_of_row wc bt 0 _ _ _ HFS.out.ht
    have HCC := Aside0.mk (And.intro hct hcp)
    have HCL := Aside0.mk (show Calls Try.prog 53 #[.slice (some ⟨gp, 0, none⟩) n cp] wc.drew fun e w' => ∃ v0_ : Value, e = .returned (v0_) ∧ Kd.R (Kd.int .i64) 3 w' wc.drew.heap.size (fun _ => True) v0_ p ∧ Below wc.drew.heap.size wc.drew w' by
      have h1 := slices_Clone_int_int.calls (some ⟨gp, 0, none⟩) cp p p wc.drew (Kd.C_drew (Kd.R_reads' HFS.out.hr).2.2) (by rw [HLN.out.1]; exact HLN.out.2.2) (by unfold slices_Clone_int_int.f; rw [if_pos (by have := HLN.out; omega)])
      rw [HLN.out.1] at h1
      exact h1)
    go_wp2_with fail
    go_region_held3 (fun w' => w'.cell? ⟨bt, 0, none⟩ = some (.func (.func 61) #[] #[.pointer (some ⟨bg, 0, none⟩), .pointer (some ⟨bo, 0, none⟩)] : Value) ∧ w'.cell? ⟨bp, 0, none⟩ = some (.slice (some ⟨gp, 0, none⟩) n cp)) (first | exact ⟨HKZ.out.1, HKZ.out.2⟩ | exact ⟨HKX.out.1, HKX.out.2⟩ | exact ⟨hct, hcp⟩ | go_keep) (first | (go_at_call 53; refine HCL.out.mono ?_; rintro e wx ⟨vx, rfl, hox, hbx⟩; obtain ⟨Ax, cx, rfl⟩ := Kd.R_slice hox; have HBX1 := Aside0.mk (show Below wc.heap.size wc wx from (Below.refl _ _).drew.trans (hbx.mono (by simp))); have HOX := Aside0.mk (Kd.R_lower (base' := wc.heap.size) hox (by simp)); have HKX := Aside0.mk (And.intro ((HBX1.out.cell (p := ⟨bt, 0, none⟩) (Nat.lt_of_lt_of_le HNE.out.t.1 HSZ.out)).trans HCC.out.1) ((HBX1.out.cell (p := ⟨bp, 0, none⟩) (Nat.lt_of_lt_of_le HNE.out.p.1 HSZ.out)).trans HCC.out.2)); clear hox hbx) | (go_at_call 61; refine (impl_GluingCount.tell p Ax cx wc wx w0 bo bg be h0 g rows (by have := HROW.out; omega) HQ.out HI.out HBX1.out HOX.out HBX.out.o HBX.out.e HSZ.out HB00.out.1 HB00.out.2.2.1 HB00.out.2.2.2 HB.out).mono ?_; rintro e wz ⟨rfl, hiz, hsz, hkz, hbz⟩; have HIZ := Aside0.mk hiz; have HFZ := Aside0.mk (HFS.out.over HNE.out HBX.out hkz); have HRZ := Aside0.mk (show impl_GluingCount.Fr wc wz h0 bo be gp from ⟨hsz, fun k a b c _ => hkz k a b c⟩); have HBZ := Aside0.mk hbz; have HKZ := Aside0.mk (And.intro (cell_of_row wz bt 0 _ _ _ HFZ.out.ht) (cell_of_row wz bp 0 _ _ _ HFZ.out.hp)); clear hiz hsz hkz hbz))
    all_goals go_wp2
    all_goals (first | go_end0 | ((try simp only [Exit.inBlock, Exit.then]); refine bodyPost_ret (results_none rfl _ _ _) rfl ?_))
    all_goals exact ⟨rfl, HFZ.out, HIZ.out, HFR.out.trans HRZ.out, HBZ.out⟩

set_option maxHeartbeats 16000000 in
set_option maxRecDepth 100000 in
theorem impl_GluingCount.try_ (bn bt bp bf gp n cp bo bg be h0 : Nat) (g : Int) (w0 : World) (hne : impl_GluingCount.Ne bn bt bp bf gp h0) (hbx : impl_GluingCount.Bx bo bg be h0 bn bt bp bf gp) (hb0 : w0.heap.size ≤ bo ∧ w0.heap.size ≤ gp ∧ w0.heap.size ≤ h0 ∧ w0.heap.size ≤ be) (hn : n ≤ 40) :
    ∀ (f : Nat) (p : List Int) (out : List (List Int)) (w : World) (rows : List (List Int)), impl_GluingCount.gen f p = some out → rows.length + out.length ≤ 1000000 → (∀ x ∈ out, impl_GluingCount.Q x) →
    impl_GluingCount.FS w bn bt bp bf gp n cp w0.heap.size (impl_GluingCount.FV bo bg) p → impl_GluingCount.I w bo bg be h0 w0.heap.size g rows → h0 ≤ w.heap.size → Below w0.heap.size w0 w →
    Calls Try.prog 92 #[.pointer (some ⟨bp, 0, none⟩), .pointer (some ⟨bt, 0, none⟩), .pointer (some ⟨bn, 0, none⟩), .pointer (some ⟨bf, 0, none⟩)] w fun e w' =>
      e = .returned (.tuple #[]) ∧ impl_GluingCount.FS w' bn bt bp bf gp n cp w0.heap.size (impl_GluingCount.FV bo bg) p ∧ impl_GluingCount.I w' bo bg be h0 w0.heap.size g (rows ++ out) ∧ impl_GluingCount.Fr w w' h0 bo be gp ∧ Below w0.heap.size w0 w' := by
  intro f
  induction f with
  | zero => intro p out w rows h; simp [impl_GluingCount.gen] at h
  | succ f ih =>
    intro p out w rows h hrow hq HFS HI hh HB
    simp only [impl_GluingCount.gen] at h
    obtain ⟨t, ht, h⟩ := Option.bind_eq_some_iff.mp h
    by_cases c1 : t < 0
    · rw [if_pos c1] at h
      obtain rfl := Option.some.inj h
      exact impl_GluingCount.leafcase bn bt bp bf gp n cp bo bg be h0 g w0 hne hbx hb0 hn p w rows t ht c1 hrow (hq p (by simp)) HFS HI hh HB
    rw [if_neg c1] at h
    by_cases c2 : t < (p.length : Int)
    · rw [if_pos c2] at h
      have HIH := Aside0.mk ih
      have HFS0 := Aside0.mk HFS
      have HI0 := Aside0.mk HI
      have HB0 := Aside0.mk HB
      have HH := Aside0.mk hh
      have HROW := Aside0.mk hrow
      have HQ := Aside0.mk hq
      have HNE := Aside0.mk hne
      have HBX := Aside0.mk hbx
      have HB00 := Aside0.mk hb0
      have hnc : n ≤ cp := (Kd.R_reads' HFS.hr).2.1
      have HLN := Aside0.mk (show p.length = n ∧ n ≤ 40 ∧ n ≤ cp from ⟨HFS.hl, hn, hnc⟩)
      have hcp : w.cell? ⟨bp, 0, none⟩ = some (.slice (some ⟨gp, 0, none⟩) n cp) := cell_of_row w bp 0 _ _ _ HFS.hp
      have HIX := Aside0.mk (show Calls Try.prog 93 #[.slice (some ⟨gp, 0, none⟩) n cp, .int .i64 (-1)] w fun e w' => e = .returned (.int .i64 t) ∧ Drawn0 w w' by
        have h1 := slices_Index_int_int.calls 60 (some ⟨gp, 0, none⟩) cp p (-1) t w (Kd.R_reads' HFS.hr).2.2 (by rw [HFS.hl]; exact hnc) ht
        rw [HFS.hl] at h1
        exact h1)
      have c1b : decide (t < 0) = false := decide_eq_false c1
      have HT := Aside0.mk (show 0 ≤ t ∧ t < (n : Int) from ⟨by omega, by rw [← HFS.hl]; exact c2⟩)
      have HL := Aside0.mk (show impl_GluingCount.loop (impl_GluingCount.gen f) p t (n - (t.toNat + 1)) (t + 1) = some out by rw [HFS.hl] at h; exact h)
      have HW := Aside0.mk (show wrap64 (t + 1) = t + 1 by have := HT.out; have := HLN.out; unfold wrap64; omega)
      clear HFS HI HB hh hrow hq hne hbx hb0 hnc ht h hn c1 c2 ih
      go_enter Try.func92, Try.ntmps92
      go_upto_region 1 with (go_at_call 93; refine HIX.out.mono ?_; rintro e w' ⟨rfl, ⟨nd, rfl⟩⟩)
      generalize hw9 : w.drewN nd = wc
      have hwc : Aside0 (∃ m, wc = w.drewN m) := ⟨⟨nd, hw9.symm⟩⟩
      clear hw9
      ·
        have HFS := Aside0.mk (show impl_GluingCount.FS wc bn bt bp bf gp n cp w0.heap.size (impl_GluingCount.FV bo bg) p by obtain ⟨m, rfl⟩ := hwc.out; exact HFS0.out.step rfl rfl rfl rfl rfl)
        have HI := Aside0.mk (show impl_GluingCount.I wc bo bg be h0 w0.heap.size g rows by obtain ⟨m, rfl⟩ := hwc.out; exact impl_GluingCount.I_step HI0.out (fun _ _ _ => rfl))
        have HB := Aside0.mk (show Below w0.heap.size w0 wc by obtain ⟨m, rfl⟩ := hwc.out; exact pw_below_drewN HB0.out m)
        have HFR := Aside0.mk (show impl_GluingCount.Fr w wc h0 bo be gp by obtain ⟨m, rfl⟩ := hwc.out; exact ⟨Nat.le_refl _, fun _ _ _ _ _ => rfl⟩)
        clear hwc HFS0 HI0 HB0 HIX hcp
        go_wp2
        go_loopg [5] (n - (t.toNat + 1)) (fun d v5 wr => ∃ (k : Int) (rows1 : List (List Int)), v5 = .int .i64 k ∧ Aside0 (k + d = n ∧ t + 1 ≤ k) ∧ Aside0 (impl_GluingCount.FS wr bn bt bp bf gp n cp w0.heap.size (impl_GluingCount.FV bo bg) p) ∧ Aside0 (impl_GluingCount.I wr bo bg be h0 w0.heap.size g rows1) ∧ Aside0 (∃ rest, impl_GluingCount.loop (impl_GluingCount.gen f) p t d k = some rest ∧ rows1 ++ rest = rows ++ out ∧ ∀ z ∈ rest, impl_GluingCount.Q z) ∧ Aside0 (impl_GluingCount.Fr w wr h0 bo be gp) ∧ Aside0 (Below w0.heap.size w0 wr))
        case atStart => exact ⟨wrap64 (t + 1), rows, rfl, ⟨by rw [HW.out]; have := HT.out; omega, by rw [HW.out]; omega⟩, HFS, HI, ⟨⟨out, by rw [HW.out]; exact HL.out, rfl, HQ.out⟩⟩, HFR, HB⟩
        case round =>
          clear HFS HI HB HFR HL
          obtain ⟨k, rows1, rfl, HK, HFS, HI, HE, HFR, HB⟩ := hrel
          have hcn : wr.cell? ⟨bn, 0, none⟩ = some (.int .i64 (n : Int)) := cell_of_row wr bn 0 _ _ _ HFS.out.hn
          cases gk with
          | zero =>
            have hc : decide (k < (n : Int)) = false := decide_eq_false (by have := HK.out; omega)
            have HE2 := Aside0.mk (show rows1 = rows ++ out by obtain ⟨rest, h1, h2, _⟩ := HE.out; simp only [impl_GluingCount.loop] at h1; obtain rfl := Option.some.inj h1; rw [List.append_nil] at h2; exact h2)
            go_wp2
            go_end0
            exact ⟨rfl, HFS.out, by rw [← HE2.out]; exact HI.out, HFR.out, HB.out⟩
          | succ d =>
            have hc : decide (k < (n : Int)) = true := decide_eq_true (by have := HK.out; omega)
            have HWK := Aside0.mk (show wrap64 (k + 1) = k + 1 by have := HK.out; have := HLN.out; have := HT.out; unfold wrap64; omega)
            go_upto_block 1 with (fail)
            go_cut [] (fun wd => ∃ rows2 : List (List Int), Aside0 (impl_GluingCount.FS wd bn bt bp bf gp n cp w0.heap.size (impl_GluingCount.FV bo bg) p) ∧ Aside0 (impl_GluingCount.I wd bo bg be h0 w0.heap.size g rows2) ∧ Aside0 (∃ rest, impl_GluingCount.loop (impl_GluingCount.gen f) p t d (k + 1) = some rest ∧ rows2 ++ rest = rows ++ out ∧ ∀ z ∈ rest, impl_GluingCount.Q z) ∧ Aside0 (impl_GluingCount.Fr w wd h0 bo be gp) ∧ Aside0 (Below w0.heap.size w0 wd))
            case first =>
              have hcp : wr.cell? ⟨bp, 0, none⟩ = some (.slice (some ⟨gp, 0, none⟩) n cp) := cell_of_row wr bp 0 _ _ _ HFS.out.hp
              have i1 : (0 ≤ k) = True := eq_true (by have := HK.out; have := HT.out; omega)
              have i2 : (k < (n : Int)) = True := eq_true (by have := HK.out; omega)
              obtain ⟨hxk, hfk⟩ := Kd.R_celln 0 HFS.out.hr k (by have := HK.out; have := HT.out; omega) (by have := HK.out; omega)
              have HKN := Aside0.mk (show k.toNat < n ∧ t.toNat < k.toNat ∧ 0 ≤ t ∧ t < k ∧ k < (n : Int) by have := HK.out; have := HT.out; omega)
              have hx1 : wr.cell? ⟨gp, k.toNat, none⟩ = some (.int .i64 (rd p k)) := hxk
              clear hxk
              by_cases cn : rd p k < 0
              · have cnb : decide (rd p k < 0) = true := decide_eq_true cn
                have HE' := Aside0.mk (show (rd p k = -1 ∧ rd p t = -1) ∧ ∃ x y, impl_GluingCount.gen f ((p.set t.toNat k).set k.toNat t) = some x ∧ impl_GluingCount.loop (impl_GluingCount.gen f) p t d (k + 1) = some y ∧ rows1 ++ x ++ y = rows ++ out ∧ (∀ z ∈ x, impl_GluingCount.Q z) ∧ ∀ z ∈ y, impl_GluingCount.Q z by
                  obtain ⟨rest, h1, h2, h3⟩ := HE.out
                  simp only [impl_GluingCount.loop] at h1
                  rw [if_pos cn] at h1
                  by_cases ce : rd p k = -1 ∧ rd p t = -1
                  · rw [if_pos ce] at h1
                    obtain ⟨x, hx, h1⟩ := Option.bind_eq_some_iff.mp h1
                    obtain ⟨y, hy, h1⟩ := Option.bind_eq_some_iff.mp h1
                    obtain rfl := Option.some.inj h1
                    exact ⟨ce, x, y, hx, hy, by rw [← h2, List.append_assoc], fun z hz => h3 z (by simp [hz]), fun z hz => h3 z (by simp [hz])⟩
                  · rw [if_neg ce] at h1; cases h1)
                clear HE cn
                obtain ⟨x, y, hx, hy, hxy⟩ := HE'.out.2
                have HX := Aside0.mk (And.intro hx (And.intro hy hxy))
                clear hx hy hxy
                obtain ⟨p1, hp1⟩ : ∃ p1, p1 = (p.set t.toNat k).set k.toNat t := ⟨_, rfl⟩
                have HP1 := Aside0.mk hp1
                clear hp1
                go_upto_region 7 with (fail)
                go_cut [] (fun we => Aside0 (impl_GluingCount.FS we bn bt bp bf gp n cp w0.heap.size (impl_GluingCount.FV bo bg) p1) ∧ Aside0 (impl_GluingCount.I we bo bg be h0 w0.heap.size g rows1) ∧ Aside0 (impl_GluingCount.Fr w we h0 bo be gp) ∧ Aside0 (Below w0.heap.size w0 we))
                case first =>
                  have j1 : (0 ≤ t) = True := eq_true (by have := HKN.out; omega)
                  have j2 : (t < (n : Int)) = True := eq_true (by have := HKN.out; omega)
                  obtain ⟨hx2, hf2⟩ := Kd.R_celln 0 HFS.out.hr t (by have := HKN.out; omega) (by have := HKN.out; omega)
                  have hne1 : gp ≠ bp := fun e => HNE.out.p.2 e.symm
                  have hne2 : bp ≠ gp := HNE.out.p.2
                  have hne3 : t.toNat ≠ k.toNat := by have := HKN.out; omega
                  have hne4 : k.toNat ≠ t.toNat := by have := HKN.out; omega
                  go_region
                  all_goals go_wp2
                  all_goals go_meet
                  all_goals (
                    have h1 := (HFS.out.put HNE.out t k).put HNE.out k t
                    rw [← HP1.out] at h1
                    refine ⟨⟨impl_GluingCount.FS.step h1 rfl rfl rfl rfl rfl⟩, ⟨impl_GluingCount.I_step HI.out (fun q hq _ => ?_)⟩, ⟨HFR.out.trans ⟨?_, fun q a b c e => ?_⟩⟩, ⟨below_drew1 (below_set (below_set HB.out HB00.out.2.1) HB00.out.2.1)⟩⟩
                    · have hqg := impl_GluingCount.own_ne HBX.out HNE.out hq
                      exact (heap_setCell_other _ _ q _ hqg).trans (heap_setCell_other _ _ q _ hqg)
                    · show wr.heap.size ≤ ((wr.setCell _ _).setCell _ _).heap.size
                      simp
                    · exact (heap_setCell_other _ _ q _ e).trans (heap_setCell_other _ _ q _ e))
                case rest =>
                  obtain ⟨HFS1, HI1, HFR1, HB1⟩ := hcut
                  clear HFS HI HFR HB hcp hcn hx1 hfk
                  have hcf : wc.cell? ⟨bf, 0, none⟩ = some (.func (.func 92) #[] #[.pointer (some ⟨bp, 0, none⟩), .pointer (some ⟨bt, 0, none⟩), .pointer (some ⟨bn, 0, none⟩), .pointer (some ⟨bf, 0, none⟩)]) := cell_of_row wc bf 0 _ _ _ HFS1.out.hf
                  go_upto_region 9 with (go_at_call 92; go_loud (refine (HIH.out p1 x wc rows1 (by rw [HP1.out]; exact HX.out.1) (by have h1 := congrArg List.length HX.out.2.2.1; simp only [List.length_append] at h1; have := HROW.out; omega) HX.out.2.2.2.1 HFS1.out HI1.out (by have := HFR1.out.size; have := HH.out; omega) HB1.out).mono ?_; rintro e wf ⟨rfl, hfs, hi, hfr, hb⟩; have HFS2 := Aside0.mk hfs; have HI2 := Aside0.mk hi; have HFR2 := Aside0.mk hfr; have HB2 := Aside0.mk hb; clear hfs hi hfr hb))
                  clear hcf
                  have hcp : wf.cell? ⟨bp, 0, none⟩ = some (.slice (some ⟨gp, 0, none⟩) n cp) := cell_of_row wf bp 0 _ _ _ HFS2.out.hp
                  have j1 : (0 ≤ t) = True := eq_true (by have := HKN.out; omega)
                  have j2 : (t < (n : Int)) = True := eq_true (by have := HKN.out; omega)
                  obtain ⟨hx2, hf2⟩ := Kd.R_celln 0 HFS2.out.hr t (by have := HKN.out; omega) (by have := HKN.out; omega)
                  obtain ⟨hx1, hfk⟩ := Kd.R_celln 0 HFS2.out.hr k (by have := HKN.out; omega) (by have := HKN.out; omega)
                  have hne1 : gp ≠ bp := fun e => HNE.out.p.2 e.symm
                  have hne2 : bp ≠ gp := HNE.out.p.2
                  have hne3 : t.toNat ≠ k.toNat := by have := HKN.out; omega
                  have hne4 : k.toNat ≠ t.toNat := by have := HKN.out; omega
                  go_region
                  all_goals go_wp2
                  all_goals go_meet
                  all_goals (
                    have h1 := (HFS2.out.put HNE.out t (-1)).put HNE.out k (-1)
                    rw [HP1.out, impl_GluingCount.put_back p t k HKN.out.2.2.1 HKN.out.2.2.2.1 (by rw [HLN.out.1]; exact HKN.out.2.2.2.2) HE'.out.1.1 HE'.out.1.2] at h1
                    refine ⟨rows1 ++ x, ⟨impl_GluingCount.FS.step h1 rfl rfl rfl rfl rfl⟩, ⟨impl_GluingCount.I_step HI2.out (fun q hq _ => ?_)⟩, ⟨⟨y, HX.out.2.1, HX.out.2.2.1, HX.out.2.2.2.2⟩⟩, ⟨(HFR1.out.trans HFR2.out).trans ⟨?_, fun q a b c e => ?_⟩⟩, ⟨below_drew1 (below_set (below_set HB2.out HB00.out.2.1) HB00.out.2.1)⟩⟩
                    · have hqg := impl_GluingCount.own_ne HBX.out HNE.out hq
                      exact (heap_setCell_other _ _ q _ hqg).trans (heap_setCell_other _ _ q _ hqg)
                    · show wf.heap.size ≤ ((wf.setCell _ _).setCell _ _).heap.size
                      simp
                    · exact (heap_setCell_other _ _ q _ e).trans (heap_setCell_other _ _ q _ e))
              · have cnb : decide (rd p k < 0) = false := decide_eq_false cn
                have HE' := Aside0.mk (show ∃ rest, impl_GluingCount.loop (impl_GluingCount.gen f) p t d (k + 1) = some rest ∧ rows1 ++ rest = rows ++ out ∧ ∀ z ∈ rest, impl_GluingCount.Q z by
                  obtain ⟨rest, h1, h2⟩ := HE.out
                  simp only [impl_GluingCount.loop] at h1
                  rw [if_neg cn] at h1
                  exact ⟨rest, h1, h2⟩)
                clear HE cn
                go_wp2
                go_meet
                exact ⟨rows1, HFS, HI, HE', HFR, HB⟩
            case rest =>
              obtain ⟨rows2, HFS2, HI2, HE2, HFR2, HB2⟩ := hcut
              go_wp2
              go_roundg d
              case measure => omega
              case rel => exact ⟨wrap64 (k + 1), rows2, rfl, ⟨by rw [HWK.out]; have := HK.out; omega, by rw [HWK.out]; have := HK.out; omega⟩, HFS2, HI2, ⟨by rw [HWK.out]; exact HE2.out⟩, HFR2, HB2⟩
    · rw [if_neg c2] at h; cases h

theorem impl_GluingCount.two (w : World) (A B : Obj) : ((w.alloc A).alloc B).heap[w.heap.size]? = some A ∧ ((w.alloc A).alloc B).heap[w.heap.size + 1]? = some B ∧ ((w.alloc A).alloc B).heap.size = w.heap.size + 2 := by
  show ((w.heap.push A).push B)[w.heap.size]? = some A ∧ ((w.heap.push A).push B)[w.heap.size + 1]? = some B ∧ ((w.heap.push A).push B).size = w.heap.size + 2
  have e1 : (w.heap.push A).size = w.heap.size + 1 := Array.size_push _
  refine ⟨?_, ?_, ?_⟩
  · rw [Array.getElem?_push, if_neg (by omega), Array.getElem?_push, if_pos rfl]
  · rw [Array.getElem?_push, if_pos (by omega)]
  · rw [Array.size_push, e1]
theorem impl_GluingCount.fill_step (n : Nat) (i : Int) (h0 : 0 ≤ i) (h : i < (n : Int)) : (List.replicate i.toNat (-1 : Int) ++ List.replicate (n - i.toNat) 0).set i.toNat (-1) = List.replicate (i + 1).toNat (-1) ++ List.replicate (n - (i + 1).toNat) 0 := by
  obtain ⟨j, rfl⟩ := Int.eq_ofNat_of_zero_le h0
  have e1 : ((j : Int)).toNat = j := Int.toNat_natCast j
  have e2 : ((j : Int) + 1).toNat = j + 1 := by omega
  rw [e1, e2]
  obtain ⟨m, hm⟩ : ∃ m, n - j = m + 1 := ⟨n - j - 1, by omega⟩
  rw [hm, show n - (j + 1) = m by omega, List.set_append_right _ _ (by simp), List.length_replicate, Nat.sub_self]
  rw [List.replicate_succ, List.set_cons_zero, List.replicate_succ' (n := j), List.append_assoc]
  rfl
set_option maxHeartbeats 16000000 in
set_option maxRecDepth 100000 in
theorem impl_GluingCount.flips (nI : Nat) (out : List (List Int)) (w w0 : World) (bo bg be : Nat) (g : Int) (hn : 1 ≤ nI ∧ nI ≤ 20) (hgen : impl_GluingCount.gen 12 (List.replicate nI (-1)) = some out) (hout : out.length ≤ 1000000) (hq : ∀ x ∈ out, impl_GluingCount.Q x)
    (HI : ∀ h0, w.heap.size ≤ h0 → impl_GluingCount.I w bo bg be h0 w0.heap.size g []) (hbo : bo < w.heap.size ∧ bg < w.heap.size ∧ be < w.heap.size) (hb : w0.heap.size ≤ bo ∧ w0.heap.size ≤ be) (HB : Below w0.heap.size w0 w) :
    Calls Try.prog 58 #[.int .i64 (nI : Int), impl_GluingCount.FV bo bg] w fun e w' => e = .returned (.tuple #[]) ∧ ∃ h0, w.heap.size ≤ h0 ∧ impl_GluingCount.I w' bo bg be h0 w0.heap.size g out ∧ (∀ k, k < w.heap.size → k ≠ bo → k ≠ be → w'.heap[k]? = w.heap[k]?) ∧ w.heap.size ≤ w'.heap.size ∧ Below w0.heap.size w0 w' := by
  have HN := Aside0.mk hn
  have HG := Aside0.mk (And.intro hgen (And.intro hout hq))
  have HI0 := Aside0.mk HI
  have HBO := Aside0.mk (And.intro hbo hb)
  have HB0 := Aside0.mk HB
  clear hn hgen hout hq HI hbo hb HB
  unfold impl_GluingCount.FV
  go_enter Try.func58, Try.ntmps58
  go_upto_region 2 with ((with_reducible refine gate_dst (N := 8) rfl ?_); refine Kd.R_make (Kd.int .i64) _ 3 rfl (N := 8) rfl 32 _ _ rfl (nI : Int) rfl rfl Try.underlying32 (.int .i64 0) 8 info3 rfl (by decide) (by omega) 0 (ok := fun _ => True) (okp := fun _ => True) rfl (fun _ hk => hk) trivial (by omega) (by have := HN.out; omega) (Below.refl _ _) (Nat.le_refl _) ?_; intro v185 w4 ho5 hb hg_ hnew_; clear hg_ hnew_; rw [Int.toNat_natCast] at ho5; obtain ⟨gp, cp, ev, hgb, hgl, cl_, hG_⟩ := Kd.R_form ho5 (by have := HN.out; simp; omega); rw [List.length_replicate] at ev; subst ev; clear hG_ cl_; have HGB := Aside0.mk (And.intro hgb hgl); have HO5 := Aside0.mk ho5; have HB4 := Aside0.mk hb; clear hgb hgl ho5 hb)
  have hsz2 := (impl_GluingCount.two w (.cells #[.int .i64 (nI : Int)] 3 (0, 0)) (.cells #[(.func (.func 61) #[] #[.pointer (some ⟨bg, 0, none⟩), .pointer (some ⟨bo, 0, none⟩)] : Value)] 60 (0, 0))).2.2
  have HS4 := Aside0.mk (show w.heap.size + 2 ≤ gp ∧ gp < w4.heap.size by have h1 := HGB.out; rw [hsz2] at h1; exact h1)
  have HN4 := Aside0.mk (show w4.heap[w.heap.size]? = some (.cells #[.int .i64 (nI : Int)] 3 (0, 0)) from (HB4.out.block _ (by rw [hsz2]; omega)).trans (impl_GluingCount.two w _ _).1)
  have HT4 := Aside0.mk (show w4.heap[w.heap.size + 1]? = some (.cells #[(.func (.func 61) #[] #[.pointer (some ⟨bg, 0, none⟩), .pointer (some ⟨bo, 0, none⟩)] : Value)] 60 (0, 0)) from (HB4.out.block _ (by rw [hsz2]; omega)).trans (impl_GluingCount.two w _ _).2.1)
  have HBW := Aside0.mk (show Below w.heap.size w w4 from below_step (below_alloc (below_alloc (Below.refl _ _) _) _) HB4.out)
  have HR4 := Aside0.mk (show Kd.R (Kd.int .i64) 3 w4 w0.heap.size (fun k => k = gp) (.slice (some ⟨gp, 0, none⟩) nI cp) (List.replicate nI 0) from Kd.R_mono (Kd.R_tight rfl (Kd.R_lower HO5.out (by rw [hsz2]; have := HB0.out.size; omega))) (fun k hk => by simpa [Value.ownBlock] using hk))
  clear HO5 HB4 HGB hsz2
  generalize hw5 : World.alloc w4 _ = w5
  have HN5 := Aside0.mk (show w5.heap[w.heap.size]? = some (.cells #[.int .i64 (nI : Int)] 3 (0, 0)) by rw [← hw5]; exact ((below_alloc (Below.refl _ _) _).block _ (by have := HS4.out; omega)).trans HN4.out)
  have HT5 := Aside0.mk (show w5.heap[w.heap.size + 1]? = some (.cells #[(.func (.func 61) #[] #[.pointer (some ⟨bg, 0, none⟩), .pointer (some ⟨bo, 0, none⟩)] : Value)] 60 (0, 0)) by rw [← hw5]; exact ((below_alloc (Below.refl _ _) _).block _ (by have := HS4.out; omega)).trans HT4.out)
  have HP5 := Aside0.mk (show w5.heap[w4.heap.size]? = some (.cells #[.slice (some ⟨gp, 0, none⟩) nI cp] 32 (0, 0)) by rw [← hw5]; exact blk_new w4 _)
  have HR5 := Aside0.mk (show Kd.R (Kd.int .i64) 3 w5 w0.heap.size (fun k => k = gp) (.slice (some ⟨gp, 0, none⟩) nI cp) (List.replicate nI 0) by rw [← hw5]; exact Kd.R_alloc HR4.out _)
  have HBW5 := Aside0.mk (show Below w.heap.size w w5 by rw [← hw5]; exact below_alloc HBW.out _)
  have HS5 := Aside0.mk (show w5.heap.size = w4.heap.size + 1 by rw [← hw5]; exact Array.size_push _)
  clear hw5 HN4 HT4 HR4 HBW
  have hcp5 : w5.cell? ⟨w4.heap.size, 0, none⟩ = some (.slice (some ⟨gp, 0, none⟩) nI cp) := cell_of_row w5 _ 0 _ _ _ HP5.out
  go_wp2
  go_loopg [11] nI (fun d v11 wr => ∃ i : Int, v11 = .int .i64 i ∧ Aside0 (0 ≤ i ∧ i + d = nI) ∧ Aside0 (wr.heap[w.heap.size]? = some (.cells #[.int .i64 (nI : Int)] 3 (0, 0)) ∧ wr.heap[w.heap.size + 1]? = some (.cells #[(.func (.func 61) #[] #[.pointer (some ⟨bg, 0, none⟩), .pointer (some ⟨bo, 0, none⟩)] : Value)] 60 (0, 0)) ∧ wr.heap[w4.heap.size]? = some (.cells #[.slice (some ⟨gp, 0, none⟩) nI cp] 32 (0, 0)) ∧ wr.heap.size = w4.heap.size + 1) ∧ Aside0 (Kd.R (Kd.int .i64) 3 wr w0.heap.size (fun k => k = gp) (.slice (some ⟨gp, 0, none⟩) nI cp) (List.replicate i.toNat (-1) ++ List.replicate (nI - i.toNat) 0)) ∧ Aside0 (Below w.heap.size w wr))
  case atStart => exact ⟨0, rfl, ⟨by omega, by omega⟩, ⟨HN5.out, HT5.out, HP5.out, HS5.out⟩, HR5, HBW5⟩
  case round =>
    clear HN5 HT5 HP5 HR5 HBW5 HS5 hcp5
    obtain ⟨i, rfl, HI1, HF, HR, HBW⟩ := hrel
    cases gk with
    | zero =>
      have hc : decide (i < (nI : Int)) = false := decide_eq_false (by have := HI1.out; omega)
      have HR1 := Aside0.mk (show Kd.R (Kd.int .i64) 3 wr w0.heap.size (fun k => k = gp) (.slice (some ⟨gp, 0, none⟩) nI cp) (List.replicate nI (-1)) by
        have h1 := HR.out
        rw [show i.toNat = nI by have := HI1.out; omega, Nat.sub_self, List.replicate_zero, List.append_nil] at h1
        exact h1)
      clear HR
      have HX := Aside0.mk (show impl_GluingCount.Ne w.heap.size (w.heap.size + 1) w4.heap.size wr.heap.size gp (wr.heap.size + 1) from by have h1 := HS4.out; have h2 := HF.out.2.2.2; exact ⟨⟨by omega, by omega⟩, ⟨by omega, by omega⟩, ⟨by omega, by omega⟩, ⟨by omega, by omega⟩, by omega⟩)
      have HY := Aside0.mk (show impl_GluingCount.Bx bo bg be (wr.heap.size + 1) w.heap.size (w.heap.size + 1) w4.heap.size wr.heap.size gp from by have h1 := HS4.out; have h2 := HF.out.2.2.2; have h3 := HBO.out; exact ⟨by omega, by omega, ⟨by omega, by omega, by omega⟩, ⟨by omega, by omega⟩, ⟨by omega, by omega⟩, ⟨by omega, by omega⟩, ⟨by omega, by omega⟩⟩)
      have HSW := Aside0.mk (show w0.heap.size ≤ w.heap.size from HB0.out.size)
      have HTRY := Aside0.mk (show ∀ wf, wf = wr.alloc (.cells #[impl_GluingCount.TV w.heap.size (w.heap.size + 1) w4.heap.size wr.heap.size] 1 (0, 0)) → Calls Try.prog 92 #[.pointer (some ⟨w4.heap.size, 0, none⟩), .pointer (some ⟨w.heap.size + 1, 0, none⟩), .pointer (some ⟨w.heap.size, 0, none⟩), .pointer (some ⟨wr.heap.size, 0, none⟩)] wf fun e w' => e = .returned (.tuple #[]) ∧ impl_GluingCount.I w' bo bg be (wr.heap.size + 1) w0.heap.size g out ∧ (∀ k, k < w.heap.size → k ≠ bo → k ≠ be → w'.heap[k]? = w.heap[k]?) ∧ w.heap.size ≤ w'.heap.size ∧ Below w0.heap.size w0 w' by
        intro wf hwf
        have hold : ∀ k, k < wr.heap.size → wf.heap[k]? = wr.heap[k]? := fun k hk => by rw [hwf]; exact (below_alloc (Below.refl _ _) _).block k hk
        have h1 := HS4.out
        have h2 := HF.out.2.2.2
        have hsf : wf.heap.size = wr.heap.size + 1 := by rw [hwf]; exact Array.size_push _
        have hfs : impl_GluingCount.FS wf w.heap.size (w.heap.size + 1) w4.heap.size wr.heap.size gp nI cp w0.heap.size (impl_GluingCount.FV bo bg) (List.replicate nI (-1)) :=
          ⟨(hold _ (by omega)).trans HF.out.1, (hold _ (by omega)).trans HF.out.2.1, (hold _ (by omega)).trans HF.out.2.2.1, by rw [hwf]; exact blk_new wr _, Kd.R_step HR1.out (fun k hk _ => by rw [hk]; exact hold gp (by omega)), List.length_replicate⟩
        have hi : impl_GluingCount.I wf bo bg be (wr.heap.size + 1) w0.heap.size g [] := impl_GluingCount.I_step (HI0.out (wr.heap.size + 1) (by omega)) (fun k _ hk => (hold k (by omega)).trans (HBW.out.block k hk))
        have hbf : Below w0.heap.size w0 wf := by
          have h3 := below_step HB0.out HBW.out
          rw [hwf]; exact below_alloc h3 _
        refine (impl_GluingCount.try_ w.heap.size (w.heap.size + 1) w4.heap.size wr.heap.size gp nI cp bo bg be (wr.heap.size + 1) g w0 HX.out HY.out (by have := HBO.out; have := HSW.out; omega) (by have := HN.out; omega) 12 (List.replicate nI (-1)) out wf [] HG.out.1 (by simpa using HG.out.2.1) HG.out.2.2 hfs hi (by omega) hbf).mono ?_
        rintro e w' ⟨he, _, hi', hfr, hb'⟩
        refine ⟨he, by simpa using hi', fun k hk a b => ?_, ?_, hb'⟩
        · exact ((hfr.keep k (by omega) a b (by omega)).trans (hold k (by omega))).trans (HBW.out.block k hk)
        · have := hfr.size; omega)
      unfold impl_GluingCount.TV at HTRY
      clear HF
      go_wp2_with (go_at_call 92; refine (HTRY.out _ rfl).mono ?_; rintro e w' ⟨rfl, hi', hk', hs', hb'⟩; have HI9 := Aside0.mk hi'; have HK9 := Aside0.mk (And.intro hk' (And.intro hs' hb')); clear hi' hk' hs' hb')
      go_end0
      exact ⟨rfl, _, by have := HBW.out.size; omega, HI9.out, HK9.out.1, HK9.out.2.1, HK9.out.2.2⟩
    | succ d =>
      have hc : decide (i < (nI : Int)) = true := decide_eq_true (by have := HI1.out; omega)
      have HW := Aside0.mk (show wrap64 (i + 1) = i + 1 by have := HI1.out; have := HN.out; unfold wrap64; omega)
      have i1 : (0 ≤ i) = True := eq_true HI1.out.1
      have i2 : (i < (nI : Int)) = True := eq_true (by have := HI1.out; omega)
      have hcp : wr.cell? ⟨w4.heap.size, 0, none⟩ = some (.slice (some ⟨gp, 0, none⟩) nI cp) := cell_of_row wr _ 0 _ _ _ HF.out.2.2.1
      obtain ⟨hx, hf⟩ := Kd.R_celln 0 HR.out i HI1.out.1 (by have := HI1.out; omega)
      go_wp2
      go_roundg d
      case measure => omega
      case rel =>
        have h1 := HS4.out
        refine ⟨wrap64 (i + 1), rfl, ⟨by rw [HW.out]; have := HI1.out; omega, by rw [HW.out]; have := HI1.out; omega⟩, ⟨?_, ?_, ?_, ?_⟩, ⟨?_⟩, ⟨?_⟩⟩
        · exact (heap_setCell_other wr _ _ _ (by show w.heap.size ≠ gp; omega)).trans HF.out.1
        · exact (heap_setCell_other wr _ _ _ (by show w.heap.size + 1 ≠ gp; omega)).trans HF.out.2.1
        · exact (heap_setCell_other wr _ _ _ (by show w4.heap.size ≠ gp; omega)).trans HF.out.2.2.1
        · rw [← HF.out.2.2.2]; simp
        · rw [HW.out, ← impl_GluingCount.fill_step nI i HI1.out.1 (by have := HI1.out; omega)]
          exact Kd.R_putn HR.out i (-1)
        · exact below_set HBW.out (by omega)

def impl_GluingCount.f (a0 : Int) (a1 : Int) : Option (Int) := if a0 < 1 then some (-1) else if 4 < a0 then some (-1) else if a1 < 0 then some (-1) else (impl_GluingCount.gen 12 (List.replicate (2 * a0).toNat (-1))).bind fun L => if L.length ≤ 1000000 then (if L.all (fun x => decide (x.length ≤ 40) && (impl_gluedGenus.f 2000 x).isSome) = true then impl_GluingCount.cnt a1 L else none) else none
set_option maxHeartbeats 8000000 in
set_option maxRecDepth 100000 in
theorem impl_GluingCount.calls (a0 : Int) (a1 : Int) (r : Int) (w : World) (h : impl_GluingCount.f a0 a1 = some r) :
    Calls Try.prog 23 #[.int .i64 a0, .int .i64 a1] w fun e w' => e = .returned (.int .i64 r) ∧ Below w.heap.size w w' := by
  have HB := Aside0.mk (Below.refl w.heap.size w)
  unfold impl_GluingCount.f at h
  by_cases c1 : a0 < 1
  · rw [if_pos c1] at h
    obtain rfl := Option.some.inj h
    have c1b : decide (a0 < 1) = true := decide_eq_true c1
    clear h c1
    go_enter Try.func23, Try.ntmps23
    go_wp2
    go_ret
    exact ⟨rfl, below_alloc HB.out _⟩
  · rw [if_neg c1] at h
    have c1b : decide (a0 < 1) = false := decide_eq_false c1
    by_cases c2 : 4 < a0
    · rw [if_pos c2] at h
      obtain rfl := Option.some.inj h
      have c2b : decide (4 < a0) = true := decide_eq_true c2
      clear h c1 c2
      go_enter Try.func23, Try.ntmps23
      go_wp2
      go_ret
      exact ⟨rfl, below_alloc HB.out _⟩
    · rw [if_neg c2] at h
      have c2b : decide (4 < a0) = false := decide_eq_false c2
      by_cases c3 : a1 < 0
      · rw [if_pos c3] at h
        obtain rfl := Option.some.inj h
        have c3b : decide (a1 < 0) = true := decide_eq_true c3
        clear h c1 c2 c3
        go_enter Try.func23, Try.ntmps23
        go_wp2
        go_ret
        exact ⟨rfl, below_alloc HB.out _⟩
      · rw [if_neg c3] at h
        have c3b : decide (a1 < 0) = false := decide_eq_false c3
        obtain ⟨L, hL, h⟩ := Option.bind_eq_some_iff.mp h
        by_cases c4 : L.length ≤ 1000000
        · rw [if_pos c4] at h
          by_cases c5 : L.all (fun x => decide (x.length ≤ 40) && (impl_gluedGenus.f 2000 x).isSome) = true
          · rw [if_pos c5] at h
            have HA := Aside0.mk (show 1 ≤ a0 ∧ a0 ≤ 4 by omega)
            have HL := Aside0.mk (show impl_GluingCount.gen 12 (List.replicate (2 * a0).toNat (-1)) = some L ∧ L.length ≤ 1000000 ∧ (∀ x ∈ L, impl_GluingCount.Q x) ∧ impl_GluingCount.cnt a1 L = some r from ⟨hL, c4, fun x hx => by have h1 := List.all_eq_true.1 c5 x hx; simp only [Bool.and_eq_true, decide_eq_true_eq] at h1; exact h1, h⟩)
            have HW := Aside0.mk (show wrap64 (2 * a0) = (((2 * a0).toNat : Nat) : Int) by have := HA.out; unfold wrap64; omega)
            clear h c1 c2 c3 c4 c5 hL
            go_enter Try.func23, Try.ntmps23
            go_wp2_with (go_at_call 58; rw [HW.out]; refine (impl_GluingCount.flips (2 * a0).toNat L _ w (w.heap.size + 1) w.heap.size (w.heap.size + 1) a1 (by have := HA.out; omega) HL.out.1 HL.out.2.1 HL.out.2.2.1 (fun h0 _ => ⟨by omega, (impl_GluingCount.two w _ _).1, 0, rfl, (impl_GluingCount.two w _ _).2.1⟩) (by rw [(impl_GluingCount.two w _ _).2.2]; omega) (by omega) (below_alloc (below_alloc HB.out _) _)).mono ?_; rintro e w1 ⟨rfl, h0, hh0, ⟨hne, hg1, m1, hm1, hv1⟩, hk, hsz, hb1⟩; have hc1 : w1.cell? ⟨w.heap.size + 1, 0, none⟩ = some (.int .i64 m1) := cell_of_row w1 _ 0 _ _ _ hv1; have HM1 := Aside0.mk hm1; have HB1 := Aside0.mk hb1; clear hm1 hb1 hk hsz hv1 hg1)
            go_ret
            have h1 : m1 = r := Option.some.inj (HM1.out.symm.trans HL.out.2.2.2)
            exact ⟨by rw [h1]; rfl, HB1.out⟩
          · rw [if_neg c5] at h; cases h
        · rw [if_neg c4] at h; cases h

/-! ### impl_GluingRun: function 26 (a section of my own) -/
def impl_GluingRun.at_ (T : List Int) (n : Nat) : Int := T.getD n 0
def impl_GluingRun.s1 (T : List Int) (k h : Int) : Int := wrap64 (wrap64 (2 * wrap64 (wrap64 (2 * k) - 1)) * impl_GluingRun.at_ T ((wrap64 (k - 1)).toNat * 6 + h.toNat))
def impl_GluingRun.s2 (T : List Int) (k h : Int) : Int := wrap64 (impl_GluingRun.s1 T k h + wrap64 (wrap64 (wrap64 (wrap64 (wrap64 (2 * k) - 1) * wrap64 (k - 1)) * wrap64 (wrap64 (2 * k) - 3)) * impl_GluingRun.at_ T ((wrap64 (k - 2)).toNat * 6 + (wrap64 (h - 1)).toNat)))
def impl_GluingRun.put (T : List Int) (k h s : Int) : List Int := T.set (k.toNat * 6 + h.toNat) (wrap64 (Int.tdiv s (wrap64 (k + 1))))
def impl_GluingRun.rowl (k : Int) : Nat → List Int → Int → List Int
  | 0, T, _ => T
  | d + 1, T, h => if 2 ≤ k then (if 1 ≤ h then impl_GluingRun.rowl k d (impl_GluingRun.put T k h (impl_GluingRun.s2 T k h)) (h + 1) else impl_GluingRun.rowl k d (impl_GluingRun.put T k h (impl_GluingRun.s1 T k h)) (h + 1)) else impl_GluingRun.rowl k d (impl_GluingRun.put T k h (impl_GluingRun.s1 T k h)) (h + 1)
def impl_GluingRun.lp (g1 : Nat) : Nat → List Int → Int → List Int
  | 0, T, _ => T
  | d + 1, T, k => impl_GluingRun.lp g1 d (impl_GluingRun.rowl k g1 T 0) (k + 1)
def impl_GluingRun.f (a0 : Int) (a1 : Int) : Option Int := if a0 < 0 then some (-1) else if a0 > 9 then some (-1) else if a1 < 0 then some (-1) else if a1 > 5 then some (-1) else
  some (impl_GluingRun.at_ (impl_GluingRun.lp (a1.toNat + 1) a0.toNat ((List.replicate 60 0).set 0 1) 1) (a0.toNat * 6 + a1.toNat))
theorem impl_GluingRun.put_len (T : List Int) (k h s : Int) : (impl_GluingRun.put T k h s).length = T.length := by simp [impl_GluingRun.put]
theorem impl_GluingRun.cellT {W : World} {g : Nat} {T : List Int} {t : TypeId} (h : W.heap[g]? = some (.cells (T.map (Value.int .i64)).toArray t (0, 0))) (n : Nat) (hn : n < T.length) :
    W.cell? ⟨g, n, none⟩ = some (.int .i64 (impl_GluingRun.at_ T n)) := by
  rw [cell_of_row W g n _ _ _ h]
  simp [impl_GluingRun.at_, List.getD_eq_getElem?_getD, hn]
def impl_GluingRun.Z : Array Value := ((List.replicate 60 (0 : Int)).map (Value.int .i64)).toArray
theorem impl_GluingRun.built1 : (Try.prog.built 64 []).isSome = true := by kernel_rfl
theorem impl_GluingRun.built2 : (Try.prog.built 64 []).getD #[] = impl_GluingRun.Z := by kernel_rfl
theorem impl_GluingRun.infoZ : (Try.prog.info? 64).map (·.size) = some impl_GluingRun.Z.size := by kernel_rfl
theorem impl_GluingRun.oneZ : impl_GluingRun.Z.all (·.oneCell') = true := by kernel_rfl
set_option maxHeartbeats 8000000 in
set_option maxRecDepth 100000 in
theorem impl_GluingRun.calls (a0 : Int) (a1 : Int) (r : Int) (w : World) (h : impl_GluingRun.f a0 a1 = some r) :
    Calls Try.prog 26 #[.int .i64 a0, .int .i64 a1] w fun e w' => e = .returned (.int .i64 r) ∧ Below w.heap.size w w' := by
  have HB := Aside0.mk (Below.refl w.heap.size w)
  unfold impl_GluingRun.f at h
  by_cases c1 : a0 < 0
  · rw [if_pos c1] at h
    obtain rfl := Option.some.inj h
    have b1 : decide (a0 < 0) = true := decide_eq_true c1
    clear h c1
    go_enter Try.func26, Try.ntmps26
    go_wp2
    go_ret
    exact ⟨rfl, HB.out⟩
  rw [if_neg c1] at h
  have b1 : decide (a0 < 0) = false := decide_eq_false c1
  by_cases c2 : a0 > 9
  · rw [if_pos c2] at h
    obtain rfl := Option.some.inj h
    have b2 : decide (9 < a0) = true := decide_eq_true c2
    clear h c1 c2
    go_enter Try.func26, Try.ntmps26
    go_wp2
    go_ret
    exact ⟨rfl, HB.out⟩
  rw [if_neg c2] at h
  have b2 : decide (9 < a0) = false := decide_eq_false c2
  by_cases c3 : a1 < 0
  · rw [if_pos c3] at h
    obtain rfl := Option.some.inj h
    have b3 : decide (a1 < 0) = true := decide_eq_true c3
    clear h c1 c2 c3
    go_enter Try.func26, Try.ntmps26
    go_wp2
    go_ret
    exact ⟨rfl, HB.out⟩
  rw [if_neg c3] at h
  have b3 : decide (a1 < 0) = false := decide_eq_false c3
  by_cases c4 : a1 > 5
  · rw [if_pos c4] at h
    obtain rfl := Option.some.inj h
    have b4 : decide (5 < a1) = true := decide_eq_true c4
    clear h c1 c2 c3 c4
    go_enter Try.func26, Try.ntmps26
    go_wp2
    go_ret
    exact ⟨rfl, HB.out⟩
  rw [if_neg c4] at h
  have b4 : decide (5 < a1) = false := decide_eq_false c4
  have HN := Aside0.mk (show 0 ≤ a0 ∧ a0 ≤ 9 ∧ 0 ≤ a1 ∧ a1 ≤ 5 by omega)
  have HR := Aside0.mk (Option.some.inj h)
  clear h c1 c2 c3 c4
  go_enter Try.func26, Try.ntmps26
  go_upto_region 4 with (first
    | ((with_reducible refine gate_dst (N := 23) rfl ?_); refine wpList_build rfl 64 #[] rfl impl_GluingRun.built1 ?_; rw [show (Try.prog.built 64 (Array.map (fun x => (x.1, x.2)) (#[] : Array (Nat × Value))).toList) = Try.prog.built 64 [] from rfl, impl_GluingRun.built2])
    | ((with_reducible refine gate_dst (N := 5) rfl ?_); refine box_event rfl (N := 5) rfl (cs := impl_GluingRun.Z) (t := 64) ?hr ?_; (case hr => first | (go_simp; done) | (go_simp; rfl)); intro g hg w1 hblk hb)
    | ((with_reducible refine gate_store (t := 64) (p := 5) rfl ?_); refine wpList_store_row rfl 64 (.tmp 5) (.tmp 23) rfl g impl_GluingRun.Z rfl rfl 64 impl_GluingRun.Z hblk impl_GluingRun.infoZ rfl impl_GluingRun.oneZ ?_))
  simp only [Act.put, List.setIfInBounds_toArray, List.set_cons_succ, List.set_cons_zero]
  go_cut [5] (fun v5 wc => v5 = .pointer (some ⟨g, 0, none⟩) ∧ ∃ T : List Int, Aside0 (T = (List.replicate 60 0).set 0 1) ∧ Aside0 (wc.heap[g]? = some (.cells (T.map (Value.int .i64)).toArray 64 (0, 0))) ∧ Aside0 (Below w.heap.size w wc))
  case first =>
    have hW : (w1.setRow g impl_GluingRun.Z).heap[g]? = some (.cells impl_GluingRun.Z 64 (0, 0)) := setRow_heap _ _ _ _ _ _ hblk
    have hB : Below w.heap.size w (w1.setRow g impl_GluingRun.Z) := below_setRow hb (by rw [hg]; exact Nat.le_refl _) _
    generalize w1.setRow g impl_GluingRun.Z = W1 at hW hB ⊢
    have hc : W1.cell? ⟨g, 0, none⟩ = some (.int .i64 0) := cell_of_row W1 g 0 _ _ _ hW
    have hf : W1.frozen? ⟨g, 0, none⟩ = false := frozen_of_row W1 g 0 _ _ hW
    have HW := Aside0.mk hW
    have HB1 := Aside0.mk hB
    have HB0 := Aside0.mk hb
    have HK0 := Aside0.mk hblk
    have HG := Aside0.mk hg
    clear hW hB hb hblk hg
    go_wp2
    go_meet
    case rel => exact ⟨rfl, _, ⟨rfl⟩, ⟨heap_setCell_same W1 g 0 _ _ _ HW.out⟩, ⟨below_set HB1.out (by rw [HG.out]; exact Nat.le_refl _)⟩⟩
  case rest =>
    obtain ⟨rfl, T, HT, HG, HBc⟩ := hcut
    have HG0 := Aside0.mk hg
    clear hg hb hblk
    go_wp2
    go_loopg [6, 7, 8] a0.toNat (fun d v6 v7 v8 wr => ∃ (k : Int) (T : List Int), v6 = .int .i64 k ∧ Aside0 (1 ≤ k ∧ k + d = a0 + 1) ∧ Aside0 (T.length = 60) ∧ Aside0 (impl_GluingRun.at_ (impl_GluingRun.lp (a1.toNat + 1) d T k) (a0.toNat * 6 + a1.toNat) = r) ∧ Aside0 (wr.heap[g]? = some (.cells (T.map (Value.int .i64)).toArray 64 (0, 0))) ∧ Aside0 (Below w.heap.size w wr))
    case atStart => exact ⟨1, T, rfl, ⟨by omega, by have := HN.out; omega⟩, ⟨by rw [HT.out]; rfl⟩, ⟨by rw [HT.out]; exact HR.out⟩, HG, HBc⟩
    case round =>
      clear HT HG HBc HR T
      obtain ⟨k, T, rfl, HX, HT, HA, HG, HBc⟩ := hrel
      cases gk with
      | zero =>
        have ck : decide (k ≤ a0) = false := decide_eq_false (by have := HX.out; omega)
        have i1 : (0 ≤ a0) = True := eq_true (by have := HN.out; omega)
        have i2 : (a0 < 10) = True := eq_true (by have := HN.out; omega)
        have i3 : (0 ≤ a1) = True := eq_true (by have := HN.out; omega)
        have i4 : (a1 < 6) = True := eq_true (by have := HN.out; omega)
        have hcell := impl_GluingRun.cellT HG.out (a0.toNat * 6 + a1.toNat) (by have := HN.out; rw [HT.out]; omega)
        have hr : impl_GluingRun.at_ T (a0.toNat * 6 + a1.toNat) = r := HA.out
        rw [hr] at hcell
        clear hr
        go_wp2
        go_ret
        exact ⟨rfl, HBc.out⟩
      | succ d =>
        have ck : decide (k ≤ a0) = true := decide_eq_true (by have := HX.out; omega)
        have HK := Aside0.mk (show 1 ≤ k ∧ k ≤ 9 by have := HX.out; have := HN.out; omega)
        go_wp2
        go_loopg [7, 8] (a1.toNat + 1) (fun e v7 v8 wr => ∃ (h : Int) (T1 : List Int), v7 = .int .i64 h ∧ Aside0 (0 ≤ h ∧ h + e = a1 + 1) ∧ Aside0 (T1.length = 60) ∧ Aside0 (impl_GluingRun.rowl k e T1 h = impl_GluingRun.rowl k (a1.toNat + 1) T 0) ∧ Aside0 (wr.heap[g]? = some (.cells (T1.map (Value.int .i64)).toArray 64 (0, 0))) ∧ Aside0 (Below w.heap.size w wr))
        case atStart => exact ⟨0, T, rfl, ⟨by omega, by have := HN.out; omega⟩, HT, ⟨rfl⟩, HG, HBc⟩
        case round =>
          clear HG HBc HT
          obtain ⟨h, T1, rfl, HY, HT, HE, HG, HBc⟩ := hrel
          cases gk with
          | zero =>
            have ch : decide (h ≤ a1) = false := decide_eq_false (by have := HY.out; omega)
            have HW := Aside0.mk (show wrap64 (k + 1) = k + 1 by have := HK.out; unfold wrap64; omega)
            go_wp2
            go_roundg d
            case measure => omega
            case rel => exact ⟨wrap64 (k + 1), T1, rfl, ⟨by rw [HW.out]; have := HX.out; omega, by rw [HW.out]; have := HX.out; omega⟩, HT, ⟨by rw [HW.out]; have h1 := HA.out; simp only [impl_GluingRun.lp] at h1; have h2 := HE.out; simp only [impl_GluingRun.rowl] at h2; rw [h2]; exact h1⟩, HG, HBc⟩
          | succ e =>
            have ch : decide (h ≤ a1) = true := decide_eq_true (by have := HY.out; omega)
            have HH := Aside0.mk (show 0 ≤ h ∧ h ≤ 5 by have := HY.out; have := HN.out; omega)
            have HW := Aside0.mk (show wrap64 (h + 1) = h + 1 by have := HH.out; unfold wrap64; omega)
            have HE1 := Aside0.mk (show wrap64 (k + 1) = k + 1 by have := HK.out; unfold wrap64; omega)
            have HE2 := Aside0.mk (show wrap64 (k - 1) = k - 1 by have := HK.out; unfold wrap64; omega)
            have HE3 := Aside0.mk (show wrap64 (k - 2) = k - 2 by have := HK.out; unfold wrap64; omega)
            have HE4 := Aside0.mk (show wrap64 (h - 1) = h - 1 by have := HH.out; unfold wrap64; omega)
            have i1 : (0 ≤ wrap64 (k - 1)) = True := eq_true (by rw [HE2.out]; have := HK.out; omega)
            have i2 : (wrap64 (k - 1) < 10) = True := eq_true (by rw [HE2.out]; have := HK.out; omega)
            have i3 : (0 ≤ h) = True := eq_true HH.out.1
            have i4 : (h < 6) = True := eq_true (by have := HH.out; omega)
            have i5 : (0 ≤ k) = True := eq_true (by have := HK.out; omega)
            have i6 : (k < 10) = True := eq_true (by have := HK.out; omega)
            have i7 : (wrap64 (k + 1) == 0) = false := beq_eq_false_iff_ne.mpr (by rw [HE1.out]; have := HK.out; omega)
            have i8 : ¬ (wrap64 (k + 1) = 0) := by rw [HE1.out]; have := HK.out; omega
            have hcA := impl_GluingRun.cellT HG.out ((wrap64 (k - 1)).toNat * 6 + h.toNat) (by rw [HT.out, HE2.out]; have := HK.out; have := HH.out; omega)
            have hcS := impl_GluingRun.cellT HG.out (k.toNat * 6 + h.toNat) (by rw [HT.out]; have := HK.out; have := HH.out; omega)
            have hfS : wr.frozen? ⟨g, k.toNat * 6 + h.toNat, none⟩ = false := frozen_of_row wr _ _ _ _ HG.out
            have hE := HE.out
            simp only [impl_GluingRun.rowl] at hE
            by_cases c2 : 2 ≤ k
            · rw [if_pos c2] at hE
              have d2 : decide (2 ≤ k) = true := decide_eq_true c2
              by_cases c1 : 1 ≤ h
              · rw [if_pos c1] at hE
                have d1 : decide (1 ≤ h) = true := decide_eq_true c1
                have HE' := Aside0.mk hE
                have j1 : (0 ≤ wrap64 (k - 2)) = True := eq_true (by rw [HE3.out]; omega)
                have j2 : (wrap64 (k - 2) < 10) = True := eq_true (by rw [HE3.out]; have := HK.out; omega)
                have j3 : (0 ≤ wrap64 (h - 1)) = True := eq_true (by rw [HE4.out]; omega)
                have j4 : (wrap64 (h - 1) < 6) = True := eq_true (by rw [HE4.out]; have := HH.out; omega)
                have hcB := impl_GluingRun.cellT HG.out ((wrap64 (k - 2)).toNat * 6 + (wrap64 (h - 1)).toNat) (by rw [HT.out, HE3.out, HE4.out]; have := HK.out; have := HH.out; omega)
                clear hE HE c1 c2
                go_upto_region 14 with (fail)
                rw [show wrap64 (wrap64 (wrap64 (2 * wrap64 (wrap64 (2 * k) - 1)) * impl_GluingRun.at_ T1 ((wrap64 (k - 1)).toNat * 6 + h.toNat)) + wrap64 (wrap64 (wrap64 (wrap64 (wrap64 (2 * k) - 1) * wrap64 (k - 1)) * wrap64 (wrap64 (2 * k) - 3)) * impl_GluingRun.at_ T1 ((wrap64 (k - 2)).toNat * 6 + (wrap64 (h - 1)).toNat))) = impl_GluingRun.s2 T1 k h from rfl]
                obtain ⟨s, HS⟩ : ∃ s, Aside0 (impl_GluingRun.s2 T1 k h = s) := ⟨_, ⟨rfl⟩⟩
                rw [HS.out]
                go_region
                go_wp2
                go_roundg e
                case measure => omega
                case rel =>
                  refine ⟨wrap64 (h + 1), impl_GluingRun.put T1 k h s, rfl, ⟨by rw [HW.out]; have := HY.out; omega, by rw [HW.out]; have := HY.out; omega⟩, ⟨by rw [impl_GluingRun.put_len]; exact HT.out⟩, ⟨by rw [HW.out, ← HS.out]; exact HE'.out⟩, ⟨?_⟩, ⟨?_⟩⟩
                  · have h1 := heap_setCell_same wr g (k.toNat * 6 + h.toNat) _ _ (.int .i64 (wrap64 (Int.tdiv s (wrap64 (k + 1))))) HG.out
                    rw [List.setIfInBounds_toArray, ← List.map_set] at h1
                    exact h1
                  · exact below_drew1 (below_set HBc.out (by rw [HG0.out]; exact Nat.le_refl _))
              · rw [if_neg c1] at hE
                have d1 : decide (1 ≤ h) = false := decide_eq_false c1
                have HE' := Aside0.mk hE
                clear hE HE c1 c2
                go_upto_region 14 with (fail)
                rw [show wrap64 (wrap64 (2 * wrap64 (wrap64 (2 * k) - 1)) * impl_GluingRun.at_ T1 ((wrap64 (k - 1)).toNat * 6 + h.toNat)) = impl_GluingRun.s1 T1 k h from rfl]
                obtain ⟨s, HS⟩ : ∃ s, Aside0 (impl_GluingRun.s1 T1 k h = s) := ⟨_, ⟨rfl⟩⟩
                rw [HS.out]
                go_region
                go_wp2
                go_roundg e
                case measure => omega
                case rel =>
                  refine ⟨wrap64 (h + 1), impl_GluingRun.put T1 k h s, rfl, ⟨by rw [HW.out]; have := HY.out; omega, by rw [HW.out]; have := HY.out; omega⟩, ⟨by rw [impl_GluingRun.put_len]; exact HT.out⟩, ⟨by rw [HW.out, ← HS.out]; exact HE'.out⟩, ⟨?_⟩, ⟨?_⟩⟩
                  · have h1 := heap_setCell_same wr g (k.toNat * 6 + h.toNat) _ _ (.int .i64 (wrap64 (Int.tdiv s (wrap64 (k + 1))))) HG.out
                    rw [List.setIfInBounds_toArray, ← List.map_set] at h1
                    exact h1
                  · exact below_drew1 (below_set HBc.out (by rw [HG0.out]; exact Nat.le_refl _))
            · rw [if_neg c2] at hE
              have d2 : decide (2 ≤ k) = false := decide_eq_false c2
              have HE' := Aside0.mk hE
              clear hE HE c2
              go_upto_region 14 with (fail)
              rw [show wrap64 (wrap64 (2 * wrap64 (wrap64 (2 * k) - 1)) * impl_GluingRun.at_ T1 ((wrap64 (k - 1)).toNat * 6 + h.toNat)) = impl_GluingRun.s1 T1 k h from rfl]
              obtain ⟨s, HS⟩ : ∃ s, Aside0 (impl_GluingRun.s1 T1 k h = s) := ⟨_, ⟨rfl⟩⟩
              rw [HS.out]
              go_region
              go_wp2
              go_roundg e
              case measure => omega
              case rel =>
                refine ⟨wrap64 (h + 1), impl_GluingRun.put T1 k h s, rfl, ⟨by rw [HW.out]; have := HY.out; omega, by rw [HW.out]; have := HY.out; omega⟩, ⟨by rw [impl_GluingRun.put_len]; exact HT.out⟩, ⟨by rw [HW.out, ← HS.out]; exact HE'.out⟩, ⟨?_⟩, ⟨?_⟩⟩
                · have h1 := heap_setCell_same wr g (k.toNat * 6 + h.toNat) _ _ (.int .i64 (wrap64 (Int.tdiv s (wrap64 (k + 1))))) HG.out
                  rw [List.setIfInBounds_toArray, ← List.map_set] at h1
                  exact h1
                · exact below_drew1 (below_set HBc.out (by rw [HG0.out]; exact Nat.le_refl _))

/-- A state of type 71 at block g of W; what its slices lead to came in by w0. -/
def IsS71 (w0 W : World) (g : Nat) (f0 : List Int) (f1 : Int) : Prop := ∃ A0 c0, W.heap[g]? = some (.cells #[.slice A0 f0.length c0, .int .i64 f1] 71 (0, 0)) ∧ w0.heap.size ≤ g ∧ Kd.C (Kd.int .u8) w0 A0 f0.length f0
theorem IsS71.grown {w0 W : World} {g : Nat} {f0 : List Int} {f1 : Int} {W1 : World} {row : Option Nat} (h : IsS71 w0 W g f0 f1) (hw : W.grownBy W1 row) (hne : some g ≠ row) : IsS71 w0 W1 g f0 f1 := by
  obtain ⟨A0, c0, hb, hg, hr0⟩ := h
  exact ⟨A0, c0, blk_grown hb hw hne, hg, hr0⟩
theorem IsS71.own_neN {w0 W : World} {g : Nat} {f0 : List Int} {f1 : Int} {α : Type} {d : Kd α} {e : Nat} {base : Nat} {ok : Nat → Prop} {v : Value} {xs : List α} (h : IsS71 w0 W g f0 f1) (ho : Kd.N d e W base ok v xs) (ht : e ≠ 71) : some g ≠ v.ownBlock := by
  obtain ⟨A0, c0, hb, hg, hr0⟩ := h
  exact Kd.N_ne ho hb ht
theorem IsS71.fresh {w0 W : World} {g : Nat} {f0 : List Int} {f1 : Int} (h : IsS71 w0 W g f0 f1) : ∀ k, W.heap.size ≤ k → k ≠ g := by
  obtain ⟨A0, c0, hb, hg, hr0⟩ := h
  exact Kd.freshB hb
theorem IsS71.kept {w0 W : World} {g : Nat} {f0 : List Int} {f1 : Int} {W1 : World} {S : Nat → Prop} (h : IsS71 w0 W g f0 f1) (hk : Kept W W1 S) (hne : ¬ S g) : IsS71 w0 W1 g f0 f1 := by
  obtain ⟨A0, c0, hb, hg, hr0⟩ := h
  exact ⟨A0, c0, blk_kept hb hk hne, hg, hr0⟩
theorem IsS71.below {w0 W : World} {g : Nat} {f0 : List Int} {f1 : Int} {W1 : World} (h : IsS71 w0 W g f0 f1) (hw : Below W.heap.size W W1) : IsS71 w0 W1 g f0 f1 := h.grown (grown_of_below hw none) (by simp)
theorem IsS71.alloc {w0 W : World} {g : Nat} {f0 : List Int} {f1 : Int} (h : IsS71 w0 W g f0 f1) (o : Obj) : IsS71 w0 (W.alloc o) g f0 f1 := h.below (below_alloc (Below.refl _ _) o)
theorem IsS71.drewN {w0 W : World} {g : Nat} {f0 : List Int} {f1 : Int} (h : IsS71 w0 W g f0 f1) (m : Nat) : IsS71 w0 (W.drewN m) g f0 f1 := h
theorem IsS71.drew {w0 W : World} {g : Nat} {f0 : List Int} {f1 : Int} (h : IsS71 w0 W g f0 f1) : IsS71 w0 W.drew g f0 f1 := h
theorem IsS71.at_ {w0 W : World} {g : Nat} {f0 : List Int} {f1 : Int} {w' : World} {m : Nat} (hq : W.drewN m = w') (h : IsS71 w0 W g f0 f1) : IsS71 w0 w' g f0 f1 := by subst hq; exact IsS71.drewN h m
theorem IsS71.apart {w0 W : World} {g : Nat} {f0 : List Int} {f1 : Int} {α : Type} {d : Kd α} {e : Nat} {base : Nat} {ok : Nat → Prop} {v : Value} {xs : List α} (h : IsS71 w0 W g f0 f1) (ho : d.R e W base ok v xs) (ht : ∀ q, q ∈ e :: d.E → q ≠ 71) : d.R e W base (fun k => ok k ∧ k ≠ g) v xs := by
  obtain ⟨A0, c0, hb, hg, hr0⟩ := h
  exact Kd.R_types ho hb ht
theorem IsS71.own_ne {w0 W : World} {g : Nat} {f0 : List Int} {f1 : Int} {α : Type} {d : Kd α} {e : Nat} {base : Nat} {ok : Nat → Prop} {v : Value} {xs : List α} (h : IsS71 w0 W g f0 f1) (ho : d.R e W base ok v xs) (ht : e ≠ 71) : some g ≠ v.ownBlock := by
  obtain ⟨A0, c0, hb, hg, hr0⟩ := h
  exact Kd.R_ne ho hb ht
theorem IsS71.apartQ {w0 W : World} {g : Nat} {f0 : List Int} {f1 : Int} {α : Type} {d : Kd α} {e : Nat} {base : Nat} {ok : Nat → Prop} {v : Value} {xs : List α} (h : IsS71 w0 W g f0 f1) (ho : d.Q e W base ok v xs) (ht : ∀ q, q ∈ e :: d.E → q ≠ 71) : d.Q e W base (fun k => ok k ∧ k ≠ g) v xs := by
  obtain ⟨A0, c0, hb, hg, hr0⟩ := h
  exact Kd.Q_types ho hb ht
theorem IsS71.own_neQ {w0 W : World} {g : Nat} {f0 : List Int} {f1 : Int} {α : Type} {d : Kd α} {e : Nat} {base : Nat} {ok : Nat → Prop} {v : Value} {xs : List α} (h : IsS71 w0 W g f0 f1) (ho : d.Q e W base ok v xs) (ht : e ≠ 71) : some g ≠ v.ownBlock := by
  obtain ⟨A0, c0, hb, hg, hr0⟩ := h
  exact Kd.Q_ne ho hb ht
theorem IsS71.apartS {w0 W : World} {g : Nat} {f0 : List Int} {f1 : Int} {α : Type} {d : Kd α} {e : Nat} {base : Nat} {ok : Nat → Prop} {v : Value} {xs : List α} (h : IsS71 w0 W g f0 f1) (ho : d.S e W base ok v xs) (ht : ∀ q, q ∈ e :: d.E → q ≠ 71) : d.S e W base (fun k => ok k ∧ k ≠ g) v xs := by
  obtain ⟨A0, c0, hb, hg, hr0⟩ := h
  exact Kd.S_types ho hb ht
theorem IsS71.own_neS {w0 W : World} {g : Nat} {f0 : List Int} {f1 : Int} {α : Type} {d : Kd α} {e : Nat} {base : Nat} {ok : Nat → Prop} {v : Value} {xs : List α} (h : IsS71 w0 W g f0 f1) (ho : d.S e W base ok v xs) (ht : e ≠ 71) : some g ≠ v.ownBlock := by
  obtain ⟨A0, c0, hb, hg, hr0⟩ := h
  exact Kd.S_ne ho hb ht
theorem IsS71.lt {w0 W : World} {g : Nat} {f0 : List Int} {f1 : Int} (h : IsS71 w0 W g f0 f1) : g < W.heap.size := by
  obtain ⟨A0, c0, hb, hg, hr0⟩ := h
  exact blk_lt hb
theorem IsS71.ge {w0 W : World} {g : Nat} {f0 : List Int} {f1 : Int} (h : IsS71 w0 W g f0 f1) : w0.heap.size ≤ g := by
  obtain ⟨A0, c0, hb, hg, hr0⟩ := h
  exact hg
theorem IsS71.ne_blk {w0 W : World} {g : Nat} {f0 : List Int} {f1 : Int} {a : Nat} {cs : Array Value} {t : TypeId} {fr : Nat × Nat} (h : IsS71 w0 W g f0 f1) (hb2 : W.heap[a]? = some (.cells cs t fr)) (ht : t ≠ 71) : g ≠ a := by
  obtain ⟨A0, c0, hb, hg, hr0⟩ := h
  rintro rfl
  rw [hb] at hb2
  injection hb2 with hb2
  injection hb2 with _ ht2
  exact ht ht2.symm
theorem IsS71.far {w0 W : World} {g : Nat} {f0 : List Int} {f1 : Int} {p : Addr} (h : IsS71 w0 W g f0 f1) (hne : g ≠ p.block) (u : Value) : IsS71 w0 (W.setCell p u) g f0 f1 := by
  obtain ⟨A0, c0, hb, hg, hr0⟩ := h
  exact ⟨A0, c0, blk_far hb hne u, hg, hr0⟩
theorem cellS71_0 {W : World} {g : Nat} {A0 : Option Addr} {c0 : Nat} {f0 : List Int} {f1 : Int} (h : W.heap[g]? = some (.cells #[.slice A0 f0.length c0, .int .i64 f1] 71 (0, 0))) : W.cell? ⟨g, 0, none⟩ = some (.slice A0 f0.length c0) := (blk_cell h 0).trans rfl
theorem cellS71_1 {W : World} {g : Nat} {A0 : Option Addr} {c0 : Nat} {f0 : List Int} {f1 : Int} (h : W.heap[g]? = some (.cells #[.slice A0 f0.length c0, .int .i64 f1] 71 (0, 0))) : W.cell? ⟨g, 1, none⟩ = some (.int .i64 f1) := (blk_cell h 1).trans rfl
theorem IsS71.set_1 {w0 W : World} {g : Nat} {f0 : List Int} {f1 : Int} (h : IsS71 w0 W g f0 f1) (x : Int) : IsS71 w0 (W.setCell ⟨g, 1, none⟩ (.int .i64 x)) g f0 x := by
  obtain ⟨A0, c0, hb, hg, hr0⟩ := h
  exact ⟨A0, c0, by simpa using blk_set hb 1 (.int .i64 x), hg, hr0⟩
theorem IsS71.new (w0 W : World) (A0 : Option Addr) (c0 : Nat) (f0 : List Int) (f1 : Int) (hB : Below w0.heap.size w0 W) (hr0 : Kd.C (Kd.int .u8) w0 A0 f0.length f0) : IsS71 w0 (W.alloc (.cells #[.slice A0 f0.length c0, .int .i64 f1] 71)) W.heap.size f0 f1 := ⟨A0, c0, by simpa using heap_alloc_new W _, hB.size, hr0⟩

/-! ### spec_l6Open: function 63 -/
def spec_l6Open.f (l0 : List Int) : Option (List Int × Int) := if (l0.length : Int) > 2000 then (if 2000 ≤ (l0.length : Int) then (some (l0.take 2000, 0)) else (none)) else (some (l0, 0))
set_option maxHeartbeats 8000000 in
set_option maxRecDepth 100000 in
theorem spec_l6Open.calls (A0 : Option Addr) (c0 : Nat) (l0 : List Int) (r1 : List Int) (r2 : Int) (w0 w : World) (hB : Below w0.heap.size w0 w) (hr0 : Kd.C (Kd.int .u8) w0 A0 l0.length l0) (hc0 : l0.length ≤ c0) (h : spec_l6Open.f l0 = some (r1, r2)) :
    Calls Try.prog 63 #[.slice A0 l0.length c0] w fun e w' => ∃ g_ : Nat, e = .returned (.pointer (some ⟨g_, 0, none⟩)) ∧ IsS71 w0 w' g_ r1 r2 ∧ Below w0.heap.size w0 w' ∧ Below w.heap.size w w' := by
  have hu71 := Try.underlying71
  have HR0 := Aside0.mk hr0
  have HC0 := Aside0.mk hc0
  clear hr0 hc0
  have HBW := Aside0.mk (Below.refl w.heap.size w)
  have HW0 := Aside0.mk hB.size
  have HB := Aside0.mk hB
  clear hB
  have H : (if (l0.length : Int) > 2000 then (if 2000 ≤ (l0.length : Int) then (some (l0.take 2000, 0)) else (none)) else (some (l0, 0))) = some (r1, r2) := h
  clear h
  by_cases c2 : (l0.length : Int) > 2000
  · rw [if_pos c2] at H
    have c2b0 : decide (2000 < (l0.length : Int)) = true := decide_eq_true c2
    have c2b1 : decide (2000 < l0.length) = true := decide_eq_true (by omega)
    clear c2
    by_cases c3 : 2000 ≤ (l0.length : Int)
    · rw [if_pos c3] at H
      have c3b0 := eq_true c3
      have c3b1 : decide (2000 ≤ (l0.length : Int)) = true := decide_eq_true c3
      clear c3
      simp only [Option.some.injEq, Prod.mk.injEq] at H
      obtain ⟨rfl, rfl⟩ := H
      obtain ⟨i04, hi04, _, hsz4, _⟩ := info_parts info5
      obtain ⟨hcut4, hA4, hC4⟩ := print_take_of (P := Try.prog) (Value.int .u8) 0 30 5 .i64 Try.underlying30 hi04 hsz4 A0 c0 l0 2000 (by omega) (of_decide_eq_true (by first | (with_reducible assumption) | assumption)) HC0.out
      have HR217 := Aside0.mk (Kd.C_of_reads (h1 := fun _ => rfl) (hA4 _ (Kd.reads_of_C HR0.out)))
      have HC217 := Aside0.mk hC4
      clear hA4 hC4 hi04 hsz4
      go_enter Try.func63, Try.ntmps63
      go_wp2_with (first | ((with_reducible refine gate_dst (N := 10) rfl ?_); refine box_event ?hg (N := 10) ?hd (cs := #[.slice A0 (l0.take 2000).length c0, .int .i64 0]) (t := 71) ?hr ?_; (case hd => rfl); (case hg => rfl); (case hr => first | (go_simp; done) | (go_simp; rfl)); intro gb218 hg w5 hbox hb; have n0_ := Aside0.mk (below_step HBW.out hb); have n1_ := Aside0.mk (below_step (by repeat (first | (with_reducible first | exact HB.out | apply below_alloc | apply pw_below_drewN | apply below_drew1) | exact HB.out)) hb); have n2_ := Aside0.mk (hbox); have n3_ := Aside0.mk ((by rw [hg]; exact (below_size (by repeat (first | (with_reducible first | exact HBW.out | apply below_alloc | apply pw_below_drewN | apply below_drew1) | exact HBW.out))) : w.heap.size ≤ gb218)); have n4_ := Aside0.mk ((Nat.le_trans HW0.out (by rw [hg]; exact (below_size (by repeat (first | (with_reducible first | exact HBW.out | apply below_alloc | apply pw_below_drewN | apply below_drew1) | exact HBW.out))) : w.heap.size ≤ gb218) : w0.heap.size ≤ gb218)); clear HBW; clear HB; have HBW := n0_; have HB := n1_; have BK218 := n2_; have GW218 := n3_; have GE218 := n4_; clear n0_ n1_ n2_ n3_ n4_; clear hb hbox hg))
      go_ret
      exact ⟨_, rfl, (show IsS71 w0 _ gb218 (l0.take 2000) 0 from ⟨_, _, by (with_reducible repeat (first | refine blk_drewN ?_ _ | refine blk_drew ?_ | refine blk_alloc ?_ _)); exact BK218.out, GE218.out, HR217.out⟩), by repeat (first | (with_reducible first | exact HB.out | apply below_alloc | apply pw_below_drewN | apply below_drew1 | refine below_set ?_ GE218.out) | exact HB.out), by repeat (first | (with_reducible first | exact HBW.out | apply below_alloc | apply pw_below_drewN | apply below_drew1 | refine below_set ?_ GW218.out) | exact HBW.out)⟩
    · rw [if_neg c3] at H
      exact absurd H (by simp)
  · rw [if_neg c2] at H
    have c2b0 : decide (2000 < (l0.length : Int)) = false := decide_eq_false c2
    have c2b1 : decide (2000 < l0.length) = false := decide_eq_false (by omega)
    clear c2
    simp only [Option.some.injEq, Prod.mk.injEq] at H
    obtain ⟨rfl, rfl⟩ := H
    go_enter Try.func63, Try.ntmps63
    go_wp2_with (first | ((with_reducible refine gate_dst (N := 10) rfl ?_); refine box_event ?hg (N := 10) ?hd (cs := #[.slice A0 l0.length c0, .int .i64 0]) (t := 71) ?hr ?_; (case hd => rfl); (case hg => rfl); (case hr => first | (go_simp; done) | (go_simp; rfl)); intro gb219 hg w6 hbox hb; have n0_ := Aside0.mk (below_step HBW.out hb); have n1_ := Aside0.mk (below_step (by repeat (first | (with_reducible first | exact HB.out | apply below_alloc | apply pw_below_drewN | apply below_drew1) | exact HB.out)) hb); have n2_ := Aside0.mk (hbox); have n3_ := Aside0.mk ((by rw [hg]; exact (below_size (by repeat (first | (with_reducible first | exact HBW.out | apply below_alloc | apply pw_below_drewN | apply below_drew1) | exact HBW.out))) : w.heap.size ≤ gb219)); have n4_ := Aside0.mk ((Nat.le_trans HW0.out (by rw [hg]; exact (below_size (by repeat (first | (with_reducible first | exact HBW.out | apply below_alloc | apply pw_below_drewN | apply below_drew1) | exact HBW.out))) : w.heap.size ≤ gb219) : w0.heap.size ≤ gb219)); clear HBW; clear HB; have HBW := n0_; have HB := n1_; have BK219 := n2_; have GW219 := n3_; have GE219 := n4_; clear n0_ n1_ n2_ n3_ n4_; clear hb hbox hg))
    go_ret
    exact ⟨_, rfl, (show IsS71 w0 _ gb219 l0 0 from ⟨_, _, by (with_reducible repeat (first | refine blk_drewN ?_ _ | refine blk_drew ?_ | refine blk_alloc ?_ _)); exact BK219.out, GE219.out, HR0.out⟩), by repeat (first | (with_reducible first | exact HB.out | apply below_alloc | apply pw_below_drewN | apply below_drew1 | refine below_set ?_ GE219.out) | exact HB.out), by repeat (first | (with_reducible first | exact HBW.out | apply below_alloc | apply pw_below_drewN | apply below_drew1 | refine below_set ?_ GW219.out) | exact HBW.out)⟩

/-! ### spec_l6Rd_pick: function 64 -/
def spec_l6Rd_pick.j0 : Nat → Int → Bool → List Int → Int → Option (Int × Int)
  | 0, _, _, _, _ => none
  | k + 1, x1, x24, x1000, x1001 => if x24 = true then (some (0, x1001)) else (if (wrap64 (x1001 - 1)) < (x1000.length : Int) then (if 0 ≤ (wrap64 (x1001 - 1)) then (if x1 = 0 then (none) else (some (Int.tmod (wrap64 (rd x1000 (wrap64 (x1001 - 1)))) x1, x1001))) else (none)) else (if (x1000.length : Int) = 0 then (none) else (if 0 ≤ (Int.tmod (wrap64 (x1001 - 1)) (x1000.length : Int)) then (if (Int.tmod (wrap64 (x1001 - 1)) (x1000.length : Int)) < (x1000.length : Int) then (if 0 ≤ (Int.tmod (wrap64 ((wrap64 ((wrap64 (x1001 - 1)) * 7)) + 3)) (x1000.length : Int)) then (if (Int.tmod (wrap64 ((wrap64 ((wrap64 (x1001 - 1)) * 7)) + 3)) (x1000.length : Int)) < (x1000.length : Int) then (if x1 = 0 then (none) else (some (Int.tmod (Go.bits .xor .i64 (wrap64 ((wrap64 ((wrap64 ((wrap64 ((wrap64 (rd x1000 (Int.tmod (wrap64 (x1001 - 1)) (x1000.length : Int)))) * 131)) + (wrap64 ((wrap64 (rd x1000 (Int.tmod (wrap64 ((wrap64 ((wrap64 (x1001 - 1)) * 7)) + 3)) (x1000.length : Int)))) * 1117)))) + (wrap64 ((wrap64 (x1001 - 1)) * 29)))) + (wrap64 ((wrap64 (Int.tdiv (wrap64 (x1001 - 1)) (x1000.length : Int))) * 53)))) (wrap64 (Int.tdiv (wrap64 ((wrap64 ((wrap64 ((wrap64 ((wrap64 (rd x1000 (Int.tmod (wrap64 (x1001 - 1)) (x1000.length : Int)))) * 131)) + (wrap64 ((wrap64 (rd x1000 (Int.tmod (wrap64 ((wrap64 ((wrap64 (x1001 - 1)) * 7)) + 3)) (x1000.length : Int)))) * 1117)))) + (wrap64 ((wrap64 (x1001 - 1)) * 29)))) + (wrap64 ((wrap64 (Int.tdiv (wrap64 (x1001 - 1)) (x1000.length : Int))) * 53)))) 64))) x1, x1001))) else (none)) else (none)) else (none)) else (none))))
def spec_l6Rd_pick.f (k : Nat) (s0_0 : List Int) (s0_1 : Int) (a1 : Int) : Option (Int × Int) := if a1 < 1 then (spec_l6Rd_pick.j0 k a1 true s0_0 (wrap64 (s0_1 + 1))) else (spec_l6Rd_pick.j0 k a1 ((s0_0.length : Int) == 0) s0_0 (wrap64 (s0_1 + 1)))
theorem spec_l6Rd_pick.mono_l : ∀ k, (∀ y0 y1 y2 y3, LeO (spec_l6Rd_pick.j0 k y0 y1 y2 y3) (spec_l6Rd_pick.j0 (k + 1) y0 y1 y2 y3))
  | 0 => fun _ _ _ _ r h => by simp [spec_l6Rd_pick.j0] at h
  | k + 1 => by
    have ih0 := spec_l6Rd_pick.mono_l k
    · intro y0 y1 y2 y3
      unfold spec_l6Rd_pick.j0
      repeat' first
      | (with_reducible exact ih0 _ _ _ _)
      | (with_reducible exact LeO.refl _)
      | (with_reducible exact LeO.none _)
      | (with_reducible refine LeO.ite ?_ ?_)
      | (with_reducible refine LeO.bind ?_ (fun _ => ?_))
      | exact ih0 _ _ _ _
      | exact LeO.none _
      | refine LeO.ite ?_ ?_
      | refine LeO.bind ?_ (fun _ => ?_)
theorem spec_l6Rd_pick.mono : ∀ a0 a1 a2 k, LeO (spec_l6Rd_pick.f k a0 a1 a2) (spec_l6Rd_pick.f (k + 1) a0 a1 a2) := by
  intro a0 a1 a2 k
  have ih0 := spec_l6Rd_pick.mono_l k
  unfold spec_l6Rd_pick.f
  repeat' first
      | (with_reducible exact ih0 _ _ _ _)
      | (with_reducible exact LeO.refl _)
      | (with_reducible exact LeO.none _)
      | (with_reducible refine LeO.ite ?_ ?_)
      | (with_reducible refine LeO.bind ?_ (fun _ => ?_))
      | exact ih0 _ _ _ _
      | exact LeO.none _
      | refine LeO.ite ?_ ?_
      | refine LeO.bind ?_ (fun _ => ?_)
set_option maxHeartbeats 8000000 in
set_option maxRecDepth 100000 in
theorem spec_l6Rd_pick.calls (k : Nat) (g : Nat) (s0_0 : List Int) (s0_1 : Int) (a1 : Int) (r1 : Int) (r2 : Int) (w0 w : World) (hI : IsS71 w0 w g s0_0 s0_1) (hB : Below w0.heap.size w0 w) (h : spec_l6Rd_pick.f k s0_0 s0_1 a1 = some (r1, r2)) :
    Calls Try.prog 64 #[.pointer (some ⟨g, 0, none⟩), .int .i64 a1] w fun e w' => e = .returned (.int .i64 r1) ∧ IsS71 w0 w' g s0_0 r2 ∧ Below w0.heap.size w0 w' ∧ KeepBut w w' g none := by
  have HI0 := Aside0.mk hI
  have HK := Aside0.mk (KeepBut.refl w g none)
  have HL := Aside0.mk hB.size
  clear hI
  have HW0 := Aside0.mk hB.size
  have HB := Aside0.mk hB
  clear hB
  have H : (if a1 < 1 then (spec_l6Rd_pick.j0 k a1 true s0_0 (wrap64 (s0_1 + 1))) else (spec_l6Rd_pick.j0 k a1 ((s0_0.length : Int) == 0) s0_0 (wrap64 (s0_1 + 1)))) = some (r1, r2) := h
  clear h
  have HC3 := Aside0.mk H
  clear H
  obtain ⟨ASz4_0, cSz4_0, HGz4, hgz4, HSz4_0⟩ := HI0.out
  have hcz4_0 := cellS71_0 HGz4
  have hcz4_1 := cellS71_1 HGz4
  have hfz4_1 := blk_frozen HGz4 1
  clear HGz4 hgz4
  go_enter Try.func64, Try.ntmps64
  go_upto_region 2 with (fail)
  repeat (go_quiet (fail); go_upto_region 2 with (fail))
  go_cut [24] (fun v24 wc => ∃ (kq : Nat) (x24_2 : Bool), v24 = .bool x24_2 ∧ Aside0 (spec_l6Rd_pick.j0 kq a1 x24_2 s0_0 (wrap64 (s0_1 + 1)) = some (r1, r2)) ∧ Aside0 (kq ≤ k) ∧ Aside0 (IsS71 w0 wc g s0_0 (wrap64 (s0_1 + 1))) ∧ Aside0 (KeepBut w wc g none) ∧ Aside0 (Below w0.heap.size w0 wc))
  case first =>
    have H := HC3.out
    clear HC3
    by_cases c5 : a1 < 1
    · rw [if_pos c5] at H
      have c5b0 : decide (a1 < 1) = true := decide_eq_true c5
      clear c5
      (first | rw [c5b0] | (simp only [i64_w, i32_w]; rw [c5b0]) | skip)
      have H' := Aside0.mk H
      clear H
      go_wp2
      repeat (go_quiet (fail); try go_wp2)
      go_meet
      case rel => exact ⟨_, (true), (by first | rfl | (simp; done) | (simp [*]; done)), H', ⟨by first | omega | exact Nat.le_refl _⟩, ⟨by repeat (first | (with_reducible first | exact HI0.out | apply IsS71.alloc | apply IsS71.drewN | apply IsS71.drew | apply IsS71.set_1) | exact HI0.out)⟩, ⟨by repeat (first | (with_reducible first | exact HK.out | apply KeepBut.set_ | apply keep_drewN | apply keep_drew | apply keep_alloc) | exact HK.out)⟩, ⟨by repeat (first | (with_reducible first | exact HB.out | apply below_alloc | apply pw_below_drewN | apply below_drew1 | refine below_set ?_ (IsS71.ge HI0.out)) | exact HB.out)⟩⟩
    · rw [if_neg c5] at H
      have c5b0 : decide (a1 < 1) = false := decide_eq_false c5
      clear c5
      (first | rw [c5b0] | (simp only [i64_w, i32_w]; rw [c5b0]) | skip)
      have H' := Aside0.mk H
      clear H
      obtain ⟨ASz6_0, cSz6_0, HGz6, hgz6, HSz6_0⟩ := HI0.out
      have hcz6_0 := cellS71_0 HGz6
      have hcz6_1 := cellS71_1 HGz6
      have hfz6_1 := blk_frozen HGz6 1
      clear HGz6 hgz6
      go_wp2
      repeat (go_quiet (fail); try go_wp2)
      go_meet
      case rel => exact ⟨_, (((s0_0.length : Int) == 0)), (by first | rfl | (simp; done) | (simp [*]; done)), H', ⟨by first | omega | exact Nat.le_refl _⟩, ⟨by repeat (first | (with_reducible first | exact HI0.out | apply IsS71.alloc | apply IsS71.drewN | apply IsS71.drew | apply IsS71.set_1) | exact HI0.out)⟩, ⟨by repeat (first | (with_reducible first | exact HK.out | apply KeepBut.set_ | apply keep_drewN | apply keep_drew | apply keep_alloc) | exact HK.out)⟩, ⟨by repeat (first | (with_reducible first | exact HB.out | apply below_alloc | apply pw_below_drewN | apply below_drew1 | refine below_set ?_ (IsS71.ge HI0.out)) | exact HB.out)⟩⟩
  case rest =>
    clear HC3
    try clear p2
    try clear c5
    try clear c5b0
    try clear c6
    try clear p6
    try clear hcz4_0
    try clear hcz4_1
    try clear hcz6_0
    try clear hcz6_1
    try clear hfz4_1
    try clear hfz6_1
    obtain ⟨kq, x24_2, rfl, HA, HJ2, HI0, HK, HB⟩ := hcut
    cases kq with
    | zero => exact absurd HA.out (by simp [spec_l6Rd_pick.j0])
    | succ kj2 =>
      have H := HA.out
      clear HA
      simp only [spec_l6Rd_pick.j0] at H
      by_cases c7 : x24_2 = true
      · subst c7
        have H1 : (some (0, (wrap64 (s0_1 + 1)))) = some (r1, r2) := by rw [if_pos rfl] at H; exact H
        clear H
        have H := H1
        clear H1
        simp only [Option.some.injEq, Prod.mk.injEq] at H
        obtain ⟨rfl, rfl⟩ := H
        go_wp2
        repeat (go_quiet (fail); try go_wp2)
        go_ret
        exact ⟨by first | rfl | (simp [errW_none, errW_some] <;> rfl) | (simp [*, errW_none, errW_some] <;> rfl), by repeat (first | (with_reducible first | exact HI0.out | apply IsS71.alloc | apply IsS71.drewN | apply IsS71.drew | apply IsS71.set_1) | exact HI0.out), by repeat (first | (with_reducible first | exact HB.out | apply below_alloc | apply pw_below_drewN | apply below_drew1 | refine below_set ?_ (IsS71.ge HI0.out)) | exact HB.out), by repeat (first | (with_reducible first | exact HK.out | apply KeepBut.set_ | apply keep_drewN | apply keep_drew | apply keep_alloc) | exact HK.out)⟩
      · replace c7 := Bool.eq_false_iff.mpr c7
        subst c7
        have H1 : (if (wrap64 ((wrap64 (s0_1 + 1)) - 1)) < (s0_0.length : Int) then (if 0 ≤ (wrap64 ((wrap64 (s0_1 + 1)) - 1)) then (if a1 = 0 then (none) else (some (Int.tmod (wrap64 (rd s0_0 (wrap64 ((wrap64 (s0_1 + 1)) - 1)))) a1, (wrap64 (s0_1 + 1))))) else (none)) else (if (s0_0.length : Int) = 0 then (none) else (if 0 ≤ (Int.tmod (wrap64 ((wrap64 (s0_1 + 1)) - 1)) (s0_0.length : Int)) then (if (Int.tmod (wrap64 ((wrap64 (s0_1 + 1)) - 1)) (s0_0.length : Int)) < (s0_0.length : Int) then (if 0 ≤ (Int.tmod (wrap64 ((wrap64 ((wrap64 ((wrap64 (s0_1 + 1)) - 1)) * 7)) + 3)) (s0_0.length : Int)) then (if (Int.tmod (wrap64 ((wrap64 ((wrap64 ((wrap64 (s0_1 + 1)) - 1)) * 7)) + 3)) (s0_0.length : Int)) < (s0_0.length : Int) then (if a1 = 0 then (none) else (some (Int.tmod (Go.bits .xor .i64 (wrap64 ((wrap64 ((wrap64 ((wrap64 ((wrap64 (rd s0_0 (Int.tmod (wrap64 ((wrap64 (s0_1 + 1)) - 1)) (s0_0.length : Int)))) * 131)) + (wrap64 ((wrap64 (rd s0_0 (Int.tmod (wrap64 ((wrap64 ((wrap64 ((wrap64 (s0_1 + 1)) - 1)) * 7)) + 3)) (s0_0.length : Int)))) * 1117)))) + (wrap64 ((wrap64 ((wrap64 (s0_1 + 1)) - 1)) * 29)))) + (wrap64 ((wrap64 (Int.tdiv (wrap64 ((wrap64 (s0_1 + 1)) - 1)) (s0_0.length : Int))) * 53)))) (wrap64 (Int.tdiv (wrap64 ((wrap64 ((wrap64 ((wrap64 ((wrap64 (rd s0_0 (Int.tmod (wrap64 ((wrap64 (s0_1 + 1)) - 1)) (s0_0.length : Int)))) * 131)) + (wrap64 ((wrap64 (rd s0_0 (Int.tmod (wrap64 ((wrap64 ((wrap64 ((wrap64 (s0_1 + 1)) - 1)) * 7)) + 3)) (s0_0.length : Int)))) * 1117)))) + (wrap64 ((wrap64 ((wrap64 (s0_1 + 1)) - 1)) * 29)))) + (wrap64 ((wrap64 (Int.tdiv (wrap64 ((wrap64 (s0_1 + 1)) - 1)) (s0_0.length : Int))) * 53)))) 64))) a1, (wrap64 (s0_1 + 1))))) else (none)) else (none)) else (none)) else (none)))) = some (r1, r2) := by rw [if_neg (show ¬ (false = true) by decide)] at H; exact H
        clear H
        have H := H1
        clear H1
        by_cases c8 : (wrap64 ((wrap64 (s0_1 + 1)) - 1)) < (s0_0.length : Int)
        · rw [if_pos c8] at H
          have c8b0 : decide ((wrap64 ((wrap64 (s0_1 + 1)) - 1)) < (s0_0.length : Int)) = true := decide_eq_true c8
          clear c8
          obtain ⟨ji9, hji9⟩ : ∃ j_ : Int, (wrap64 ((wrap64 (s0_1 + 1)) - 1)) = j_ := ⟨_, rfl⟩
          replace H : (if 0 ≤ (ji9) then (if a1 = 0 then (none) else (some (Int.tmod (wrap64 (rd s0_0 (ji9))) a1, (wrap64 (s0_1 + 1))))) else (none)) = some (r1, r2) := by first | (rw [hji9] at H; exact H) | (simp only [hji9] at H ⊢; exact H)
          (try rw [hji9] at c8b0)
          have hji9w : (IntKind.i64.wrap ((wrap64 (s0_1 + 1)) - 1)) = ji9 := (i64_w _).trans hji9
          by_cases c10 : 0 ≤ (ji9)
          · rw [if_pos c10] at H
            have c10b0 : decide (0 ≤ (ji9)) = true := decide_eq_true c10
            clear c10
            by_cases c11 : a1 = 0
            · rw [if_pos c11] at H
              exact absurd H (by simp)
            · rw [if_neg c11] at H
              have c11b0 : (a1 == 0) = false := beq_eq_false_iff_ne.mpr c11
              have c11b1 : (a1 != 0) = true := bne_iff_ne.mpr c11
              simp only [Option.some.injEq, Prod.mk.injEq] at H
              obtain ⟨rfl, rfl⟩ := H
              obtain ⟨ASz12_0, cSz12_0, HGz12, hgz12, HSz12_0⟩ := HI0.out
              have hcz12_0 := cellS71_0 HGz12
              have hcz12_1 := cellS71_1 HGz12
              have hfz12_1 := blk_frozen HGz12 1
              clear HGz12 hgz12
              have p220 : 0 ≤ ((ji9) : Int) := of_decide_eq_true (by first | (with_reducible assumption) | assumption)
              have q220 : (ji9) < (s0_0.length : Int) := of_decide_eq_true (by first | (with_reducible assumption) | assumption)
              obtain ⟨ad220, e220, hx220_0⟩ := Kd.at_int HSz12_0 (ji9) p220 q220
              cases e220
              replace hx220_0 := pw_cell_below HB.out hx220_0
              replace p220 := eq_true p220
              replace q220 := eq_true q220
              go_wp2
              repeat (go_quiet (fail); try go_wp2)
              go_ret
              exact ⟨by first | rfl | (simp [errW_none, errW_some] <;> rfl) | (simp only [← hji9]; first | rfl | (simp [errW_none, errW_some] <;> rfl)) | (simp [*, errW_none, errW_some] <;> rfl), by repeat (first | (with_reducible first | exact HI0.out | apply IsS71.alloc | apply IsS71.drewN | apply IsS71.drew | apply IsS71.set_1) | exact HI0.out), by repeat (first | (with_reducible first | exact HB.out | apply below_alloc | apply pw_below_drewN | apply below_drew1 | refine below_set ?_ (IsS71.ge HI0.out)) | exact HB.out), by repeat (first | (with_reducible first | exact HK.out | apply KeepBut.set_ | apply keep_drewN | apply keep_drew | apply keep_alloc) | exact HK.out)⟩
          · rw [if_neg c10] at H
            exact absurd H (by simp)
        · rw [if_neg c8] at H
          have c8b0 : decide ((wrap64 ((wrap64 (s0_1 + 1)) - 1)) < (s0_0.length : Int)) = false := decide_eq_false c8
          clear c8
          by_cases c13 : (s0_0.length : Int) = 0
          · rw [if_pos c13] at H
            exact absurd H (by simp)
          · rw [if_neg c13] at H
            have c13b0 : ((s0_0.length : Int) == 0) = false := beq_eq_false_iff_ne.mpr c13
            have c13b1 : ((s0_0.length : Int) != 0) = true := bne_iff_ne.mpr c13
            have c13b2 : ¬ (s0_0 = []) := fun h_ => c13 (by rw [h_]; rfl)
            obtain ⟨ji14, hji14⟩ : ∃ j_ : Int, (Int.tmod (wrap64 ((wrap64 (s0_1 + 1)) - 1)) (s0_0.length : Int)) = j_ := ⟨_, rfl⟩
            replace H : (if 0 ≤ (ji14) then (if (ji14) < (s0_0.length : Int) then (if 0 ≤ (Int.tmod (wrap64 ((wrap64 ((wrap64 ((wrap64 (s0_1 + 1)) - 1)) * 7)) + 3)) (s0_0.length : Int)) then (if (Int.tmod (wrap64 ((wrap64 ((wrap64 ((wrap64 (s0_1 + 1)) - 1)) * 7)) + 3)) (s0_0.length : Int)) < (s0_0.length : Int) then (if a1 = 0 then (none) else (some (Int.tmod (Go.bits .xor .i64 (wrap64 ((wrap64 ((wrap64 ((wrap64 ((wrap64 (rd s0_0 (ji14))) * 131)) + (wrap64 ((wrap64 (rd s0_0 (Int.tmod (wrap64 ((wrap64 ((wrap64 ((wrap64 (s0_1 + 1)) - 1)) * 7)) + 3)) (s0_0.length : Int)))) * 1117)))) + (wrap64 ((wrap64 ((wrap64 (s0_1 + 1)) - 1)) * 29)))) + (wrap64 ((wrap64 (Int.tdiv (wrap64 ((wrap64 (s0_1 + 1)) - 1)) (s0_0.length : Int))) * 53)))) (wrap64 (Int.tdiv (wrap64 ((wrap64 ((wrap64 ((wrap64 ((wrap64 (rd s0_0 (ji14))) * 131)) + (wrap64 ((wrap64 (rd s0_0 (Int.tmod (wrap64 ((wrap64 ((wrap64 ((wrap64 (s0_1 + 1)) - 1)) * 7)) + 3)) (s0_0.length : Int)))) * 1117)))) + (wrap64 ((wrap64 ((wrap64 (s0_1 + 1)) - 1)) * 29)))) + (wrap64 ((wrap64 (Int.tdiv (wrap64 ((wrap64 (s0_1 + 1)) - 1)) (s0_0.length : Int))) * 53)))) 64))) a1, (wrap64 (s0_1 + 1))))) else (none)) else (none)) else (none)) else (none)) = some (r1, r2) := by first | (rw [hji14] at H; exact H) | (simp only [hji14] at H ⊢; exact H)
            by_cases c15 : 0 ≤ (ji14)
            · rw [if_pos c15] at H
              have c15b0 : decide (0 ≤ (ji14)) = true := decide_eq_true c15
              clear c15
              by_cases c16 : (ji14) < (s0_0.length : Int)
              · rw [if_pos c16] at H
                have c16b0 : decide ((ji14) < (s0_0.length : Int)) = true := decide_eq_true c16
                clear c16
                obtain ⟨ji17, hji17⟩ : ∃ j_ : Int, (Int.tmod (wrap64 ((wrap64 ((wrap64 ((wrap64 (s0_1 + 1)) - 1)) * 7)) + 3)) (s0_0.length : Int)) = j_ := ⟨_, rfl⟩
                replace H : (if 0 ≤ (ji17) then (if (ji17) < (s0_0.length : Int) then (if a1 = 0 then (none) else (some (Int.tmod (Go.bits .xor .i64 (wrap64 ((wrap64 ((wrap64 ((wrap64 ((wrap64 (rd s0_0 (ji14))) * 131)) + (wrap64 ((wrap64 (rd s0_0 (ji17))) * 1117)))) + (wrap64 ((wrap64 ((wrap64 (s0_1 + 1)) - 1)) * 29)))) + (wrap64 ((wrap64 (Int.tdiv (wrap64 ((wrap64 (s0_1 + 1)) - 1)) (s0_0.length : Int))) * 53)))) (wrap64 (Int.tdiv (wrap64 ((wrap64 ((wrap64 ((wrap64 ((wrap64 (rd s0_0 (ji14))) * 131)) + (wrap64 ((wrap64 (rd s0_0 (ji17))) * 1117)))) + (wrap64 ((wrap64 ((wrap64 (s0_1 + 1)) - 1)) * 29)))) + (wrap64 ((wrap64 (Int.tdiv (wrap64 ((wrap64 (s0_1 + 1)) - 1)) (s0_0.length : Int))) * 53)))) 64))) a1, (wrap64 (s0_1 + 1))))) else (none)) else (none)) = some (r1, r2) := by first | (rw [hji17] at H; exact H) | (simp only [hji17] at H ⊢; exact H)
                by_cases c18 : 0 ≤ (ji17)
                · rw [if_pos c18] at H
                  have c18b0 : decide (0 ≤ (ji17)) = true := decide_eq_true c18
                  clear c18
                  by_cases c19 : (ji17) < (s0_0.length : Int)
                  · rw [if_pos c19] at H
                    have c19b0 : decide ((ji17) < (s0_0.length : Int)) = true := decide_eq_true c19
                    clear c19
                    by_cases c20 : a1 = 0
                    · rw [if_pos c20] at H
                      exact absurd H (by simp)
                    · rw [if_neg c20] at H
                      have c20b0 : (a1 == 0) = false := beq_eq_false_iff_ne.mpr c20
                      have c20b1 : (a1 != 0) = true := bne_iff_ne.mpr c20
                      simp only [Option.some.injEq, Prod.mk.injEq] at H
                      obtain ⟨rfl, rfl⟩ := H
                      obtain ⟨ASz21_0, cSz21_0, HGz21, hgz21, HSz21_0⟩ := HI0.out
                      have hcz21_0 := cellS71_0 HGz21
                      have hcz21_1 := cellS71_1 HGz21
                      have hfz21_1 := blk_frozen HGz21 1
                      clear HGz21 hgz21
                      have p221 : 0 ≤ ((ji14) : Int) := of_decide_eq_true (by first | (with_reducible assumption) | assumption)
                      have q221 : (ji14) < (s0_0.length : Int) := of_decide_eq_true (by first | (with_reducible assumption) | assumption)
                      obtain ⟨ad221, e221, hx221_0⟩ := Kd.at_int HSz21_0 (ji14) p221 q221
                      cases e221
                      replace hx221_0 := pw_cell_below HB.out hx221_0
                      replace p221 := eq_true p221
                      replace q221 := eq_true q221
                      have p222 : 0 ≤ ((ji17) : Int) := of_decide_eq_true (by first | (with_reducible assumption) | assumption)
                      have q222 : (ji17) < (s0_0.length : Int) := of_decide_eq_true (by first | (with_reducible assumption) | assumption)
                      obtain ⟨ad222, e222, hx222_0⟩ := Kd.at_int HSz21_0 (ji17) p222 q222
                      obtain rfl : ad221 = ad222 := (by injection e222)
                      replace hx222_0 := pw_cell_below HB.out hx222_0
                      replace p222 := eq_true p222
                      replace q222 := eq_true q222
                      go_wp2
                      repeat (go_quiet (fail); try go_wp2)
                      go_ret
                      exact ⟨by first | rfl | (simp [errW_none, errW_some] <;> rfl) | (simp only [← hji14, ← hji17]; first | rfl | (simp [errW_none, errW_some] <;> rfl)) | (simp [*, errW_none, errW_some] <;> rfl), by repeat (first | (with_reducible first | exact HI0.out | apply IsS71.alloc | apply IsS71.drewN | apply IsS71.drew | apply IsS71.set_1) | exact HI0.out), by repeat (first | (with_reducible first | exact HB.out | apply below_alloc | apply pw_below_drewN | apply below_drew1 | refine below_set ?_ (IsS71.ge HI0.out)) | exact HB.out), by repeat (first | (with_reducible first | exact HK.out | apply KeepBut.set_ | apply keep_drewN | apply keep_drew | apply keep_alloc) | exact HK.out)⟩
                  · rw [if_neg c19] at H
                    exact absurd H (by simp)
                · rw [if_neg c18] at H
                  exact absurd H (by simp)
              · rw [if_neg c16] at H
                exact absurd H (by simp)
            · rw [if_neg c15] at H
              exact absurd H (by simp)

end Go.Proofs.Ytkfeildndcdbaaa.Q
