import Derived.Test.YtkfeildndcdbaaaQ0
import Derived.Deep.WholeRow
import Derived.Laws.CopyOwn
namespace Go.Proofs.Ytkfeildndcdbaaa.Q
open Go.RowKit Go.Proofs.YtkfeildndcdbaaaW.PrintWords Go.Proofs.YtkfeildndcdbaaaW.PrintLast Go.Proofs.YtkfeildndcdbaaaW.PrintMore
attribute [local go_sem] max2_int min2_int max_two min_two max_three min_three max_four min_four   -- for this text's walks alone
set_option linter.unusedVariables false
set_option linter.unusedSimpArgs false

/-! ### laws_sameInts: function 28 -/
def laws_sameInts.l0 : Nat → List Int → List Int → Int → Option (Bool)
  | 0, _, _, _ => none
  | k + 1, x0, x1, x5 => if x5 < (x0.length : Int) then (if 0 ≤ x5 then (if x5 < (x1.length : Int) then (if (rd x0 x5) = (rd x1 x5) then (laws_sameInts.l0 k x0 x1 (wrap64 (x5 + 1))) else (some false)) else (none)) else (none)) else (some true)
def laws_sameInts.f (k : Nat) (l0 : List Int) (l1 : List Int) : Option (Bool) := if (l0.length : Int) = (l1.length : Int) then (laws_sameInts.l0 k l0 l1 0) else (some false)
theorem laws_sameInts.mono_l : ∀ k, (∀ y0 y1 y2, LeO (laws_sameInts.l0 k y0 y1 y2) (laws_sameInts.l0 (k + 1) y0 y1 y2))
  | 0 => fun _ _ _ r h => by simp [laws_sameInts.l0] at h
  | k + 1 => by
    have ih0 := laws_sameInts.mono_l k
    · intro y0 y1 y2
      unfold laws_sameInts.l0
      repeat' first
      | (with_reducible exact ih0 _ _ _)
      | (with_reducible exact LeO.refl _)
      | (with_reducible exact LeO.none _)
      | (with_reducible refine LeO.ite ?_ ?_)
      | (with_reducible refine LeO.bind ?_ (fun _ => ?_))
      | exact ih0 _ _ _
      | exact LeO.none _
      | refine LeO.ite ?_ ?_
      | refine LeO.bind ?_ (fun _ => ?_)
theorem laws_sameInts.mono : ∀ a0 a1 k, LeO (laws_sameInts.f k a0 a1) (laws_sameInts.f (k + 1) a0 a1) := by
  intro a0 a1 k
  have ih0 := laws_sameInts.mono_l k
  unfold laws_sameInts.f
  repeat' first
      | (with_reducible exact ih0 _ _ _)
      | (with_reducible exact LeO.refl _)
      | (with_reducible exact LeO.none _)
      | (with_reducible refine LeO.ite ?_ ?_)
      | (with_reducible refine LeO.bind ?_ (fun _ => ?_))
      | exact ih0 _ _ _
      | exact LeO.none _
      | refine LeO.ite ?_ ?_
      | refine LeO.bind ?_ (fun _ => ?_)
set_option maxHeartbeats 8000000 in
set_option maxRecDepth 100000 in
theorem laws_sameInts.calls (k : Nat) (A0 : Option Addr) (c0 : Nat) (l0 : List Int) (A1 : Option Addr) (c1 : Nat) (l1 : List Int) (r : Bool) (w : World) (hr0 : Kd.C (Kd.int .i64) w A0 l0.length l0) (hc0 : l0.length ≤ c0) (hr1 : Kd.C (Kd.int .i64) w A1 l1.length l1) (hc1 : l1.length ≤ c1) (h : laws_sameInts.f k l0 l1 = some r) :
    Calls Try.prog 28 #[.slice A0 l0.length c0, .slice A1 l1.length c1] w fun e w' => e = .returned (.bool r) ∧ Drawn0 w w' := by
  have HR0 := Aside0.mk hr0
  have HC0 := Aside0.mk hc0
  clear hr0 hc0
  have HR1 := Aside0.mk hr1
  have HC1 := Aside0.mk hc1
  clear hr1 hc1
  have H : (if (l0.length : Int) = (l1.length : Int) then (laws_sameInts.l0 k l0 l1 0) else (some false)) = some r := h
  clear h
  by_cases c3 : (l0.length : Int) = (l1.length : Int)
  · rw [if_pos c3] at H
    have c3b0 : ((l0.length : Int) == (l1.length : Int)) = true := beq_iff_eq.mpr c3
    have c3b1 : ((l0.length : Int) != (l1.length : Int)) = false := bne_eq_false_iff_eq.mpr c3
    have c3b2 : (l0.length == l1.length) = true := by first | simpa using c3 | (simp at c3 ⊢; omega)
    clear c3
    have H' := Aside0.mk H
    clear H
    go_enter Try.func28, Try.ntmps28
    go_wp2
    repeat (go_quiet (fail); try go_wp2)
    go_loopg [5] k (fun kq v5 w' => ∃ (x5_1 : Int), v5 = .int .i64 x5_1 ∧ Aside0 (laws_sameInts.l0 kq l0 l1 x5_1 = some r) ∧ Aside0 (kq ≤ k) ∧ Drawn0 w w')
    case atStart => exact ⟨(0), (by first | rfl | (simp; done) | (simp [*]; done)), H', ⟨Nat.le_refl _⟩, by repeat (first | exact Drawn0.refl _ | apply Drawn0.step)⟩
    case round =>
      clear H'
      try clear c1
      try clear c2
      try clear p2
      try clear c3
      try clear c3b0
      try clear c3b1
      try clear c3b2
      obtain ⟨x5_1, rfl, HA, HK1, ⟨m1, rfl⟩⟩ := hrel
      cases gk with
      | zero => exact absurd HA.out (by simp [laws_sameInts.l0])
      | succ k1 =>
        have H := HA.out
        clear HA
        simp only [laws_sameInts.l0] at H
        by_cases c4 : x5_1 < (l0.length : Int)
        · rw [if_pos c4] at H
          have c4b0 : decide (x5_1 < (l0.length : Int)) = true := decide_eq_true c4
          clear c4
          by_cases c5 : 0 ≤ x5_1
          · rw [if_pos c5] at H
            have c5b0 : decide (0 ≤ x5_1) = true := decide_eq_true c5
            clear c5
            by_cases c6 : x5_1 < (l1.length : Int)
            · rw [if_pos c6] at H
              have c6b0 : decide (x5_1 < (l1.length : Int)) = true := decide_eq_true c6
              clear c6
              by_cases c7 : (rd l0 x5_1) = (rd l1 x5_1)
              · rw [if_pos c7] at H
                have c7b0 : ((rd l0 x5_1) == (rd l1 x5_1)) = true := beq_iff_eq.mpr c7
                have c7b1 : ((rd l0 x5_1) != (rd l1 x5_1)) = false := bne_eq_false_iff_eq.mpr c7
                clear c7
                have H' := Aside0.mk H
                clear H
                have p262 : 0 ≤ (x5_1 : Int) := of_decide_eq_true (by first | (with_reducible assumption) | assumption)
                have q262 : x5_1 < (l0.length : Int) := of_decide_eq_true (by first | (with_reducible assumption) | assumption)
                obtain ⟨ad262, e262, hx262_0⟩ := Kd.at_int HR0.out x5_1 p262 q262
                cases e262
                replace p262 := eq_true p262
                replace q262 := eq_true q262
                have p263 : 0 ≤ (x5_1 : Int) := of_decide_eq_true (by first | (with_reducible assumption) | assumption)
                have q263 : x5_1 < (l1.length : Int) := of_decide_eq_true (by first | (with_reducible assumption) | assumption)
                obtain ⟨ad263, e263, hx263_0⟩ := Kd.at_int HR1.out x5_1 p263 q263
                cases e263
                replace p263 := eq_true p263
                replace q263 := eq_true q263
                go_wp2
                repeat (go_quiet (fail); try go_wp2)
                go_roundg k1
                case measure => have := HK1.out; omega
                case rel => exact ⟨(wrap64 (x5_1 + 1)), (by first | rfl | (simp; done) | (simp [*]; done)), H', ⟨by have := HK1.out; omega⟩, by repeat (first | exact Drawn0.refl _ | apply Drawn0.step)⟩
              · rw [if_neg c7] at H
                have c7b0 : ((rd l0 x5_1) == (rd l1 x5_1)) = false := beq_eq_false_iff_ne.mpr c7
                have c7b1 : ((rd l0 x5_1) != (rd l1 x5_1)) = true := bne_iff_ne.mpr c7
                obtain rfl := Option.some.inj H
                have p262 : 0 ≤ (x5_1 : Int) := of_decide_eq_true (by first | (with_reducible assumption) | assumption)
                have q262 : x5_1 < (l0.length : Int) := of_decide_eq_true (by first | (with_reducible assumption) | assumption)
                obtain ⟨ad262, e262, hx262_0⟩ := Kd.at_int HR0.out x5_1 p262 q262
                cases e262
                replace p262 := eq_true p262
                replace q262 := eq_true q262
                have p263 : 0 ≤ (x5_1 : Int) := of_decide_eq_true (by first | (with_reducible assumption) | assumption)
                have q263 : x5_1 < (l1.length : Int) := of_decide_eq_true (by first | (with_reducible assumption) | assumption)
                obtain ⟨ad263, e263, hx263_0⟩ := Kd.at_int HR1.out x5_1 p263 q263
                cases e263
                replace p263 := eq_true p263
                replace q263 := eq_true q263
                go_wp2
                repeat (go_quiet (fail); try go_wp2)
                go_ret
                exact ⟨by first | rfl | (simp; done) | (simp [*]; done), by repeat (first | exact Drawn0.refl _ | apply Drawn0.step)⟩
            · rw [if_neg c6] at H
              exact absurd H (by simp)
          · rw [if_neg c5] at H
            exact absurd H (by simp)
        · rw [if_neg c4] at H
          have c4b0 : decide (x5_1 < (l0.length : Int)) = false := decide_eq_false c4
          clear c4
          obtain rfl := Option.some.inj H
          go_wp2
          repeat (go_quiet (fail); try go_wp2)
          go_ret
          exact ⟨by first | rfl | (simp; done) | (simp [*]; done), by repeat (first | exact Drawn0.refl _ | apply Drawn0.step)⟩
  · rw [if_neg c3] at H
    have c3b0 : ((l0.length : Int) == (l1.length : Int)) = false := beq_eq_false_iff_ne.mpr c3
    have c3b1 : ((l0.length : Int) != (l1.length : Int)) = true := bne_iff_ne.mpr c3
    have c3b2 : (l0.length == l1.length) = false := by first | simpa using c3 | (simp at c3 ⊢; omega)
    obtain rfl := Option.some.inj H
    go_enter Try.func28, Try.ntmps28
    go_wp2
    repeat (go_quiet (fail); try go_wp2)
    go_ret
    exact ⟨by first | rfl | (simp; done) | (simp [*]; done), by repeat (first | exact Drawn0.refl _ | apply Drawn0.step)⟩

/-! ### laws_sameLists: function 25 -/
def laws_sameLists.l0 : Nat → List (List Int) → List (List Int) → Int → Option (Bool)
  | 0, _, _, _ => none
  | k + 1, x0, x1, x5 => if x5 < (x0.length : Int) then (if 0 ≤ x5 then (if x5 < (x1.length : Int) then ((laws_sameInts.f k (rd_L1 x0 x5) (rd_L1 x1 x5)).bind fun t266 => (if t266 = true then (laws_sameLists.l0 k x0 x1 (wrap64 (x5 + 1))) else (some false))) else (none)) else (none)) else (some true)
def laws_sameLists.f (k : Nat) (l0 : List (List Int)) (l1 : List (List Int)) : Option (Bool) := if (l0.length : Int) = (l1.length : Int) then (laws_sameLists.l0 k l0 l1 0) else (some false)
theorem laws_sameLists.mono_l : ∀ k, (∀ y0 y1 y2, LeO (laws_sameLists.l0 k y0 y1 y2) (laws_sameLists.l0 (k + 1) y0 y1 y2))
  | 0 => fun _ _ _ r h => by simp [laws_sameLists.l0] at h
  | k + 1 => by
    have ih0 := laws_sameLists.mono_l k
    · intro y0 y1 y2
      unfold laws_sameLists.l0
      repeat' first
      | (with_reducible exact ih0 _ _ _)
      | (with_reducible exact laws_sameInts.mono _ _ _)
      | (with_reducible exact LeO.refl _)
      | (with_reducible exact LeO.none _)
      | (with_reducible refine LeO.ite ?_ ?_)
      | (with_reducible refine LeO.bind ?_ (fun _ => ?_))
      | exact ih0 _ _ _
      | exact laws_sameInts.mono _ _ _
      | exact LeO.none _
      | refine LeO.ite ?_ ?_
      | refine LeO.bind ?_ (fun _ => ?_)
theorem laws_sameLists.mono : ∀ a0 a1 k, LeO (laws_sameLists.f k a0 a1) (laws_sameLists.f (k + 1) a0 a1) := by
  intro a0 a1 k
  have ih0 := laws_sameLists.mono_l k
  unfold laws_sameLists.f
  repeat' first
      | (with_reducible exact ih0 _ _ _)
      | (with_reducible exact laws_sameInts.mono _ _ _)
      | (with_reducible exact LeO.refl _)
      | (with_reducible exact LeO.none _)
      | (with_reducible refine LeO.ite ?_ ?_)
      | (with_reducible refine LeO.bind ?_ (fun _ => ?_))
      | exact ih0 _ _ _
      | exact laws_sameInts.mono _ _ _
      | exact LeO.none _
      | refine LeO.ite ?_ ?_
      | refine LeO.bind ?_ (fun _ => ?_)
set_option maxHeartbeats 8000000 in
set_option maxRecDepth 100000 in
theorem laws_sameLists.calls (k : Nat) (A0 : Option Addr) (c0 : Nat) (l0 : List (List Int)) (A1 : Option Addr) (c1 : Nat) (l1 : List (List Int)) (r : Bool) (w : World) (hr0 : Kd.C (Kd.slice 3 (Kd.int .i64)) w A0 l0.length l0) (hc0 : l0.length ≤ c0) (hr1 : Kd.C (Kd.slice 3 (Kd.int .i64)) w A1 l1.length l1) (hc1 : l1.length ≤ c1) (h : laws_sameLists.f k l0 l1 = some r) :
    Calls Try.prog 25 #[.slice A0 l0.length c0, .slice A1 l1.length c1] w fun e w' => e = .returned (.bool r) ∧ Drawn0 w w' := by
  have HR0 := Aside0.mk hr0
  have HC0 := Aside0.mk hc0
  clear hr0 hc0
  have HR1 := Aside0.mk hr1
  have HC1 := Aside0.mk hc1
  clear hr1 hc1
  have H : (if (l0.length : Int) = (l1.length : Int) then (laws_sameLists.l0 k l0 l1 0) else (some false)) = some r := h
  clear h
  by_cases c3 : (l0.length : Int) = (l1.length : Int)
  · rw [if_pos c3] at H
    have c3b0 : ((l0.length : Int) == (l1.length : Int)) = true := beq_iff_eq.mpr c3
    have c3b1 : ((l0.length : Int) != (l1.length : Int)) = false := bne_eq_false_iff_eq.mpr c3
    have c3b2 : (l0.length == l1.length) = true := by first | simpa using c3 | (simp at c3 ⊢; omega)
    clear c3
    have H' := Aside0.mk H
    clear H
    go_enter Try.func25, Try.ntmps25
    go_wp2
    repeat (go_quiet (fail); try go_wp2)
    go_loopg [5] k (fun kq v5 w' => ∃ (x5_1 : Int), v5 = .int .i64 x5_1 ∧ Aside0 (laws_sameLists.l0 kq l0 l1 x5_1 = some r) ∧ Aside0 (kq ≤ k) ∧ Drawn0 w w')
    case atStart => exact ⟨(0), (by first | rfl | (simp; done) | (simp [*]; done)), H', ⟨Nat.le_refl _⟩, by repeat (first | exact Drawn0.refl _ | apply Drawn0.step)⟩
    case round =>
      clear H'
      try clear c1
      try clear c2
      try clear p2
      try clear c3
      try clear c3b0
      try clear c3b1
      try clear c3b2
      obtain ⟨x5_1, rfl, HA, HK1, ⟨m1, rfl⟩⟩ := hrel
      cases gk with
      | zero => exact absurd HA.out (by simp [laws_sameLists.l0])
      | succ k1 =>
        have H := HA.out
        clear HA
        simp only [laws_sameLists.l0] at H
        by_cases c4 : x5_1 < (l0.length : Int)
        · rw [if_pos c4] at H
          have c4b0 : decide (x5_1 < (l0.length : Int)) = true := decide_eq_true c4
          clear c4
          by_cases c5 : 0 ≤ x5_1
          · rw [if_pos c5] at H
            have c5b0 : decide (0 ≤ x5_1) = true := decide_eq_true c5
            clear c5
            by_cases c6 : x5_1 < (l1.length : Int)
            · rw [if_pos c6] at H
              have c6b0 : decide (x5_1 < (l1.length : Int)) = true := decide_eq_true c6
              clear c6
              replace H := Option.bind_eq_some_iff.mp H
              obtain ⟨t266, A70, H⟩ := H
              replace H : (if t266 = true then (laws_sameLists.l0 k1 l0 l1 (wrap64 (x5_1 + 1))) else (some false)) = some r := H
              have A7 := Aside0.mk A70
              clear A70
              by_cases c8 : t266 = true
              · subst c8
                have H1 : (laws_sameLists.l0 k1 l0 l1 (wrap64 (x5_1 + 1))) = some r := by rw [if_pos rfl] at H; exact H
                clear H
                have H := H1
                clear H1
                have H' := Aside0.mk H
                clear H
                have p264 : 0 ≤ (x5_1 : Int) := of_decide_eq_true (by first | (with_reducible assumption) | assumption)
                have q264 : x5_1 < (l0.length : Int) := of_decide_eq_true (by first | (with_reducible assumption) | assumption)
                obtain ⟨ad264, A264_0, c264_0, e264, hx264_0, hl264_0, hi264_0⟩ := at_L1 HR0.out x5_1 p264 q264
                cases e264
                have HR264_0 := Aside0.mk hi264_0
                have HC264_0 := Aside0.mk hl264_0
                clear hi264_0 hl264_0
                replace p264 := eq_true p264
                replace q264 := eq_true q264
                have p265 : 0 ≤ (x5_1 : Int) := of_decide_eq_true (by first | (with_reducible assumption) | assumption)
                have q265 : x5_1 < (l1.length : Int) := of_decide_eq_true (by first | (with_reducible assumption) | assumption)
                obtain ⟨ad265, A265_0, c265_0, e265, hx265_0, hl265_0, hi265_0⟩ := at_L1 HR1.out x5_1 p265 q265
                cases e265
                have HR265_0 := Aside0.mk hi265_0
                have HC265_0 := Aside0.mk hl265_0
                clear hi265_0 hl265_0
                replace p265 := eq_true p265
                replace q265 := eq_true q265
                go_wp2_with (first | (go_at_call 28; (with_reducible refine (laws_sameInts.calls k1 _ _ (rd_L1 l0 x5_1) _ _ (rd_L1 l1 x5_1) true _ ?side1 ?side2 ?side3 ?side4 A7.out).mono ?_); (case side1 => repeat (first | exact HR264_0.out | (with_reducible refine Kd.C_alloc ?_ _) | (with_reducible refine Kd.C_drewN ?_ _) | (with_reducible refine Kd.C_drew ?_))); (case side2 => exact HC264_0.out); (case side3 => repeat (first | exact HR265_0.out | (with_reducible refine Kd.C_alloc ?_ _) | (with_reducible refine Kd.C_drewN ?_ _) | (with_reducible refine Kd.C_drew ?_))); (case side4 => exact HC265_0.out); rintro e w' ⟨rfl, ⟨nd, rfl⟩⟩; (try first | exact ⟨rfl, _, World.drewN_drewN _ _ _⟩ | exact ⟨rfl, _, Eq.trans (World.drewN_drewN _ _ _) (congrArg (World.drewN _) (Nat.add_assoc _ _ _))⟩)))
                repeat (go_quiet (first | (go_at_call 28; (with_reducible refine (laws_sameInts.calls k1 _ _ (rd_L1 l0 x5_1) _ _ (rd_L1 l1 x5_1) true _ ?side1 ?side2 ?side3 ?side4 A7.out).mono ?_); (case side1 => repeat (first | exact HR264_0.out | (with_reducible refine Kd.C_alloc ?_ _) | (with_reducible refine Kd.C_drewN ?_ _) | (with_reducible refine Kd.C_drew ?_))); (case side2 => exact HC264_0.out); (case side3 => repeat (first | exact HR265_0.out | (with_reducible refine Kd.C_alloc ?_ _) | (with_reducible refine Kd.C_drewN ?_ _) | (with_reducible refine Kd.C_drew ?_))); (case side4 => exact HC265_0.out); rintro e w' ⟨rfl, ⟨nd, rfl⟩⟩; (try first | exact ⟨rfl, _, World.drewN_drewN _ _ _⟩ | exact ⟨rfl, _, Eq.trans (World.drewN_drewN _ _ _) (congrArg (World.drewN _) (Nat.add_assoc _ _ _))⟩))); try go_wp2_with (first | (go_at_call 28; (with_reducible refine (laws_sameInts.calls k1 _ _ (rd_L1 l0 x5_1) _ _ (rd_L1 l1 x5_1) true _ ?side1 ?side2 ?side3 ?side4 A7.out).mono ?_); (case side1 => repeat (first | exact HR264_0.out | (with_reducible refine Kd.C_alloc ?_ _) | (with_reducible refine Kd.C_drewN ?_ _) | (with_reducible refine Kd.C_drew ?_))); (case side2 => exact HC264_0.out); (case side3 => repeat (first | exact HR265_0.out | (with_reducible refine Kd.C_alloc ?_ _) | (with_reducible refine Kd.C_drewN ?_ _) | (with_reducible refine Kd.C_drew ?_))); (case side4 => exact HC265_0.out); rintro e w' ⟨rfl, ⟨nd, rfl⟩⟩; (try first | exact ⟨rfl, _, World.drewN_drewN _ _ _⟩ | exact ⟨rfl, _, Eq.trans (World.drewN_drewN _ _ _) (congrArg (World.drewN _) (Nat.add_assoc _ _ _))⟩))))
                go_roundg k1
                case measure => have := HK1.out; omega
                case rel => exact ⟨(wrap64 (x5_1 + 1)), (by first | rfl | (simp; done) | (simp [*]; done)), H', ⟨by have := HK1.out; omega⟩, by repeat (first | exact Drawn0.refl _ | apply Drawn0.step)⟩
              · replace c8 := Bool.eq_false_iff.mpr c8
                subst c8
                have H1 : (some false) = some r := by rw [if_neg (show ¬ (false = true) by decide)] at H; exact H
                clear H
                have H := H1
                clear H1
                obtain rfl := Option.some.inj H
                have p264 : 0 ≤ (x5_1 : Int) := of_decide_eq_true (by first | (with_reducible assumption) | assumption)
                have q264 : x5_1 < (l0.length : Int) := of_decide_eq_true (by first | (with_reducible assumption) | assumption)
                obtain ⟨ad264, A264_0, c264_0, e264, hx264_0, hl264_0, hi264_0⟩ := at_L1 HR0.out x5_1 p264 q264
                cases e264
                have HR264_0 := Aside0.mk hi264_0
                have HC264_0 := Aside0.mk hl264_0
                clear hi264_0 hl264_0
                replace p264 := eq_true p264
                replace q264 := eq_true q264
                have p265 : 0 ≤ (x5_1 : Int) := of_decide_eq_true (by first | (with_reducible assumption) | assumption)
                have q265 : x5_1 < (l1.length : Int) := of_decide_eq_true (by first | (with_reducible assumption) | assumption)
                obtain ⟨ad265, A265_0, c265_0, e265, hx265_0, hl265_0, hi265_0⟩ := at_L1 HR1.out x5_1 p265 q265
                cases e265
                have HR265_0 := Aside0.mk hi265_0
                have HC265_0 := Aside0.mk hl265_0
                clear hi265_0 hl265_0
                replace p265 := eq_true p265
                replace q265 := eq_true q265
                go_wp2_with (first | (go_at_call 28; (with_reducible refine (laws_sameInts.calls k1 _ _ (rd_L1 l0 x5_1) _ _ (rd_L1 l1 x5_1) false _ ?side1 ?side2 ?side3 ?side4 A7.out).mono ?_); (case side1 => repeat (first | exact HR264_0.out | (with_reducible refine Kd.C_alloc ?_ _) | (with_reducible refine Kd.C_drewN ?_ _) | (with_reducible refine Kd.C_drew ?_))); (case side2 => exact HC264_0.out); (case side3 => repeat (first | exact HR265_0.out | (with_reducible refine Kd.C_alloc ?_ _) | (with_reducible refine Kd.C_drewN ?_ _) | (with_reducible refine Kd.C_drew ?_))); (case side4 => exact HC265_0.out); rintro e w' ⟨rfl, ⟨nd, rfl⟩⟩; (try first | exact ⟨rfl, _, World.drewN_drewN _ _ _⟩ | exact ⟨rfl, _, Eq.trans (World.drewN_drewN _ _ _) (congrArg (World.drewN _) (Nat.add_assoc _ _ _))⟩)))
                repeat (go_quiet (first | (go_at_call 28; (with_reducible refine (laws_sameInts.calls k1 _ _ (rd_L1 l0 x5_1) _ _ (rd_L1 l1 x5_1) false _ ?side1 ?side2 ?side3 ?side4 A7.out).mono ?_); (case side1 => repeat (first | exact HR264_0.out | (with_reducible refine Kd.C_alloc ?_ _) | (with_reducible refine Kd.C_drewN ?_ _) | (with_reducible refine Kd.C_drew ?_))); (case side2 => exact HC264_0.out); (case side3 => repeat (first | exact HR265_0.out | (with_reducible refine Kd.C_alloc ?_ _) | (with_reducible refine Kd.C_drewN ?_ _) | (with_reducible refine Kd.C_drew ?_))); (case side4 => exact HC265_0.out); rintro e w' ⟨rfl, ⟨nd, rfl⟩⟩; (try first | exact ⟨rfl, _, World.drewN_drewN _ _ _⟩ | exact ⟨rfl, _, Eq.trans (World.drewN_drewN _ _ _) (congrArg (World.drewN _) (Nat.add_assoc _ _ _))⟩))); try go_wp2_with (first | (go_at_call 28; (with_reducible refine (laws_sameInts.calls k1 _ _ (rd_L1 l0 x5_1) _ _ (rd_L1 l1 x5_1) false _ ?side1 ?side2 ?side3 ?side4 A7.out).mono ?_); (case side1 => repeat (first | exact HR264_0.out | (with_reducible refine Kd.C_alloc ?_ _) | (with_reducible refine Kd.C_drewN ?_ _) | (with_reducible refine Kd.C_drew ?_))); (case side2 => exact HC264_0.out); (case side3 => repeat (first | exact HR265_0.out | (with_reducible refine Kd.C_alloc ?_ _) | (with_reducible refine Kd.C_drewN ?_ _) | (with_reducible refine Kd.C_drew ?_))); (case side4 => exact HC265_0.out); rintro e w' ⟨rfl, ⟨nd, rfl⟩⟩; (try first | exact ⟨rfl, _, World.drewN_drewN _ _ _⟩ | exact ⟨rfl, _, Eq.trans (World.drewN_drewN _ _ _) (congrArg (World.drewN _) (Nat.add_assoc _ _ _))⟩))))
                go_ret
                exact ⟨by first | rfl | (simp; done) | (simp [*]; done), by repeat (first | exact Drawn0.refl _ | apply Drawn0.step)⟩
            · rw [if_neg c6] at H
              exact absurd H (by simp)
          · rw [if_neg c5] at H
            exact absurd H (by simp)
        · rw [if_neg c4] at H
          have c4b0 : decide (x5_1 < (l0.length : Int)) = false := decide_eq_false c4
          clear c4
          obtain rfl := Option.some.inj H
          go_wp2
          repeat (go_quiet (fail); try go_wp2)
          go_ret
          exact ⟨by first | rfl | (simp; done) | (simp [*]; done), by repeat (first | exact Drawn0.refl _ | apply Drawn0.step)⟩
  · rw [if_neg c3] at H
    have c3b0 : ((l0.length : Int) == (l1.length : Int)) = false := beq_eq_false_iff_ne.mpr c3
    have c3b1 : ((l0.length : Int) != (l1.length : Int)) = true := bne_iff_ne.mpr c3
    have c3b2 : (l0.length == l1.length) = false := by first | simpa using c3 | (simp at c3 ⊢; omega)
    obtain rfl := Option.some.inj H
    go_enter Try.func25, Try.ntmps25
    go_wp2
    repeat (go_quiet (fail); try go_wp2)
    go_ret
    exact ⟨by first | rfl | (simp; done) | (simp [*]; done), by repeat (first | exact Drawn0.refl _ | apply Drawn0.step)⟩

/-! ### impl_GluingRun: function 26 (a section of my own) -/
def impl_GluingRun.at_ (T : List Int) (n : Nat) : Int := T.getD n 0
def impl_GluingRun.s1 (T : List Int) (k h : Int) : Int := wrap64 (wrap64 (2 * wrap64 (wrap64 (2 * k) - 1)) * impl_GluingRun.at_ T ((wrap64 (k - 1)).toNat * 6 + h.toNat))
def impl_GluingRun.s2 (T : List Int) (k h : Int) : Int := wrap64 (impl_GluingRun.s1 T k h + wrap64 (wrap64 (wrap64 (wrap64 (wrap64 (2 * k) - 1) * wrap64 (k - 1)) * wrap64 (wrap64 (2 * k) - 3)) * impl_GluingRun.at_ T ((wrap64 (k - 2)).toNat * 6 + (wrap64 (h - 1)).toNat)))
def impl_GluingRun.put (T : List Int) (k h s : Int) : List Int := T.set (k.toNat * 6 + h.toNat) (wrap64 (Int.tdiv s (wrap64 (k + 1))))
def impl_GluingRun.rowl (k : Int) : Nat → List Int → Int → List Int
  | 0, T, _ => T
  | d + 1, T, h => if 2 ≤ k then (if 1 ≤ h then impl_GluingRun.rowl k d (impl_GluingRun.put T k h (impl_GluingRun.s2 T k h)) (h + 1) else impl_GluingRun.rowl k d (impl_GluingRun.put T k h (impl_GluingRun.s1 T k h)) (h + 1)) else impl_GluingRun.rowl k d (impl_GluingRun.put T k h (impl_GluingRun.s1 T k h)) (h + 1)
def impl_GluingRun.lp (g1 : Nat) : Nat → List Int → Int → List Int
  | 0, T, _ => T
  | d + 1, T, k => impl_GluingRun.lp g1 d (impl_GluingRun.rowl k g1 T 0) (k + 1)
def impl_GluingRun.f (a0 : Int) (a1 : Int) : Option Int := if a0 < 0 then some (-1) else if a0 > 9 then some (-1) else if a1 < 0 then some (-1) else if a1 > 5 then some (-1) else
  some (impl_GluingRun.at_ (impl_GluingRun.lp (a1.toNat + 1) a0.toNat ((List.replicate 60 0).set 0 1) 1) (a0.toNat * 6 + a1.toNat))
theorem impl_GluingRun.put_len (T : List Int) (k h s : Int) : (impl_GluingRun.put T k h s).length = T.length := by simp [impl_GluingRun.put]
theorem impl_GluingRun.cellT {W : World} {g : Nat} {T : List Int} {t : TypeId} (h : W.heap[g]? = some (.cells (T.map (Value.int .i64)).toArray t (0, 0))) (n : Nat) (hn : n < T.length) :
    W.cell? ⟨g, n, none⟩ = some (.int .i64 (impl_GluingRun.at_ T n)) := by
  rw [cell_of_row W g n _ _ _ h]
  simp [impl_GluingRun.at_, List.getD_eq_getElem?_getD, hn]
def impl_GluingRun.Z : Array Value := ((List.replicate 60 (0 : Int)).map (Value.int .i64)).toArray
theorem impl_GluingRun.built1 : (Try.prog.built 64 []).isSome = true := by kernel_rfl
theorem impl_GluingRun.built2 : (Try.prog.built 64 []).getD #[] = impl_GluingRun.Z := by kernel_rfl
theorem impl_GluingRun.infoZ : (Try.prog.info? 64).map (·.size) = some impl_GluingRun.Z.size := by kernel_rfl
theorem impl_GluingRun.oneZ : impl_GluingRun.Z.all (·.oneCell') = true := by kernel_rfl
set_option maxHeartbeats 8000000 in
set_option maxRecDepth 100000 in
theorem impl_GluingRun.calls (a0 : Int) (a1 : Int) (r : Int) (w : World) (h : impl_GluingRun.f a0 a1 = some r) :
    Calls Try.prog 26 #[.int .i64 a0, .int .i64 a1] w fun e w' => e = .returned (.int .i64 r) ∧ Below w.heap.size w w' := by
  have HB := Aside0.mk (Below.refl w.heap.size w)
  unfold impl_GluingRun.f at h
  by_cases c1 : a0 < 0
  · rw [if_pos c1] at h
    obtain rfl := Option.some.inj h
    have b1 : decide (a0 < 0) = true := decide_eq_true c1
    clear h c1
    go_enter Try.func26, Try.ntmps26
    go_wp2
    go_ret
    exact ⟨rfl, HB.out⟩
  rw [if_neg c1] at h
  have b1 : decide (a0 < 0) = false := decide_eq_false c1
  by_cases c2 : a0 > 9
  · rw [if_pos c2] at h
    obtain rfl := Option.some.inj h
    have b2 : decide (9 < a0) = true := decide_eq_true c2
    clear h c1 c2
    go_enter Try.func26, Try.ntmps26
    go_wp2
    go_ret
    exact ⟨rfl, HB.out⟩
  rw [if_neg c2] at h
  have b2 : decide (9 < a0) = false := decide_eq_false c2
  by_cases c3 : a1 < 0
  · rw [if_pos c3] at h
    obtain rfl := Option.some.inj h
    have b3 : decide (a1 < 0) = true := decide_eq_true c3
    clear h c1 c2 c3
    go_enter Try.func26, Try.ntmps26
    go_wp2
    go_ret
    exact ⟨rfl, HB.out⟩
  rw [if_neg c3] at h
  have b3 : decide (a1 < 0) = false := decide_eq_false c3
  by_cases c4 : a1 > 5
  · rw [if_pos c4] at h
    obtain rfl := Option.some.inj h
    have b4 : decide (5 < a1) = true := decide_eq_true c4
    clear h c1 c2 c3 c4
    go_enter Try.func26, Try.ntmps26
    go_wp2
    go_ret
    exact ⟨rfl, HB.out⟩
  rw [if_neg c4] at h
  have b4 : decide (5 < a1) = false := decide_eq_false c4
  have HN := Aside0.mk (show 0 ≤ a0 ∧ a0 ≤ 9 ∧ 0 ≤ a1 ∧ a1 ≤ 5 by omega)
  have HR := Aside0.mk (Option.some.inj h)
  clear h c1 c2 c3 c4
  go_enter Try.func26, Try.ntmps26
  go_upto_region 4 with (first
    | ((with_reducible refine gate_dst (N := 23) rfl ?_); refine wpList_build rfl 64 #[] rfl impl_GluingRun.built1 ?_; rw [show (Try.prog.built 64 (Array.map (fun x => (x.1, x.2)) (#[] : Array (Nat × Value))).toList) = Try.prog.built 64 [] from rfl, impl_GluingRun.built2])
    | ((with_reducible refine gate_dst (N := 5) rfl ?_); refine box_event rfl (N := 5) rfl (cs := impl_GluingRun.Z) (t := 64) ?hr ?_; (case hr => first | (go_simp; done) | (go_simp; rfl)); intro g hg w1 hblk hb)
    | ((with_reducible refine gate_store (t := 64) (p := 5) rfl ?_); refine wpList_store_row rfl 64 (.tmp 5) (.tmp 23) rfl g impl_GluingRun.Z rfl rfl 64 impl_GluingRun.Z hblk impl_GluingRun.infoZ rfl impl_GluingRun.oneZ ?_))
  simp only [Act.put, List.setIfInBounds_toArray, List.set_cons_succ, List.set_cons_zero]
  go_cut [5] (fun v5 wc => v5 = .pointer (some ⟨g, 0, none⟩) ∧ ∃ T : List Int, Aside0 (T = (List.replicate 60 0).set 0 1) ∧ Aside0 (wc.heap[g]? = some (.cells (T.map (Value.int .i64)).toArray 64 (0, 0))) ∧ Aside0 (Below w.heap.size w wc))
  case first =>
    have hW : (w1.setRow g impl_GluingRun.Z).heap[g]? = some (.cells impl_GluingRun.Z 64 (0, 0)) := setRow_heap _ _ _ _ _ _ hblk
    have hB : Below w.heap.size w (w1.setRow g impl_GluingRun.Z) := below_setRow hb (by rw [hg]; exact Nat.le_refl _) _
    generalize w1.setRow g impl_GluingRun.Z = W1 at hW hB ⊢
    have hc : W1.cell? ⟨g, 0, none⟩ = some (.int .i64 0) := cell_of_row W1 g 0 _ _ _ hW
    have hf : W1.frozen? ⟨g, 0, none⟩ = false := frozen_of_row W1 g 0 _ _ hW
    have HW := Aside0.mk hW
    have HB1 := Aside0.mk hB
    have HB0 := Aside0.mk hb
    have HK0 := Aside0.mk hblk
    have HG := Aside0.mk hg
    clear hW hB hb hblk hg
    go_wp2
    go_meet
    case rel => exact ⟨rfl, _, ⟨rfl⟩, ⟨heap_setCell_same W1 g 0 _ _ _ HW.out⟩, ⟨below_set HB1.out (by rw [HG.out]; exact Nat.le_refl _)⟩⟩
  case rest =>
    obtain ⟨rfl, T, HT, HG, HBc⟩ := hcut
    have HG0 := Aside0.mk hg
    clear hg hb hblk
    go_wp2
    go_loopg [6, 7, 8] a0.toNat (fun d v6 v7 v8 wr => ∃ (k : Int) (T : List Int), v6 = .int .i64 k ∧ Aside0 (1 ≤ k ∧ k + d = a0 + 1) ∧ Aside0 (T.length = 60) ∧ Aside0 (impl_GluingRun.at_ (impl_GluingRun.lp (a1.toNat + 1) d T k) (a0.toNat * 6 + a1.toNat) = r) ∧ Aside0 (wr.heap[g]? = some (.cells (T.map (Value.int .i64)).toArray 64 (0, 0))) ∧ Aside0 (Below w.heap.size w wr))
    case atStart => exact ⟨1, T, rfl, ⟨by omega, by have := HN.out; omega⟩, ⟨by rw [HT.out]; rfl⟩, ⟨by rw [HT.out]; exact HR.out⟩, HG, HBc⟩
    case round =>
      clear HT HG HBc HR T
      obtain ⟨k, T, rfl, HX, HT, HA, HG, HBc⟩ := hrel
      cases gk with
      | zero =>
        have ck : decide (k ≤ a0) = false := decide_eq_false (by have := HX.out; omega)
        have i1 : (0 ≤ a0) = True := eq_true (by have := HN.out; omega)
        have i2 : (a0 < 10) = True := eq_true (by have := HN.out; omega)
        have i3 : (0 ≤ a1) = True := eq_true (by have := HN.out; omega)
        have i4 : (a1 < 6) = True := eq_true (by have := HN.out; omega)
        have hcell := impl_GluingRun.cellT HG.out (a0.toNat * 6 + a1.toNat) (by have := HN.out; rw [HT.out]; omega)
        have hr : impl_GluingRun.at_ T (a0.toNat * 6 + a1.toNat) = r := HA.out
        rw [hr] at hcell
        clear hr
        go_wp2
        go_ret
        exact ⟨rfl, HBc.out⟩
      | succ d =>
        have ck : decide (k ≤ a0) = true := decide_eq_true (by have := HX.out; omega)
        have HK := Aside0.mk (show 1 ≤ k ∧ k ≤ 9 by have := HX.out; have := HN.out; omega)
        go_wp2
        go_loopg [7, 8] (a1.toNat + 1) (fun e v7 v8 wr => ∃ (h : Int) (T1 : List Int), v7 = .int .i64 h ∧ Aside0 (0 ≤ h ∧ h + e = a1 + 1) ∧ Aside0 (T1.length = 60) ∧ Aside0 (impl_GluingRun.rowl k e T1 h = impl_GluingRun.rowl k (a1.toNat + 1) T 0) ∧ Aside0 (wr.heap[g]? = some (.cells (T1.map (Value.int .i64)).toArray 64 (0, 0))) ∧ Aside0 (Below w.heap.size w wr))
        case atStart => exact ⟨0, T, rfl, ⟨by omega, by have := HN.out; omega⟩, HT, ⟨rfl⟩, HG, HBc⟩
        case round =>
          clear HG HBc HT
          obtain ⟨h, T1, rfl, HY, HT, HE, HG, HBc⟩ := hrel
          cases gk with
          | zero =>
            have ch : decide (h ≤ a1) = false := decide_eq_false (by have := HY.out; omega)
            have HW := Aside0.mk (show wrap64 (k + 1) = k + 1 by have := HK.out; unfold wrap64; omega)
            go_wp2
            go_roundg d
            case measure => omega
            case rel => exact ⟨wrap64 (k + 1), T1, rfl, ⟨by rw [HW.out]; have := HX.out; omega, by rw [HW.out]; have := HX.out; omega⟩, HT, ⟨by rw [HW.out]; have h1 := HA.out; simp only [impl_GluingRun.lp] at h1; have h2 := HE.out; simp only [impl_GluingRun.rowl] at h2; rw [h2]; exact h1⟩, HG, HBc⟩
          | succ e =>
            have ch : decide (h ≤ a1) = true := decide_eq_true (by have := HY.out; omega)
            have HH := Aside0.mk (show 0 ≤ h ∧ h ≤ 5 by have := HY.out; have := HN.out; omega)
            have HW := Aside0.mk (show wrap64 (h + 1) = h + 1 by have := HH.out; unfold wrap64; omega)
            have HE1 := Aside0.mk (show wrap64 (k + 1) = k + 1 by have := HK.out; unfold wrap64; omega)
            have HE2 := Aside0.mk (show wrap64 (k - 1) = k - 1 by have := HK.out; unfold wrap64; omega)
            have HE3 := Aside0.mk (show wrap64 (k - 2) = k - 2 by have := HK.out; unfold wrap64; omega)
            have HE4 := Aside0.mk (show wrap64 (h - 1) = h - 1 by have := HH.out; unfold wrap64; omega)
            have i1 : (0 ≤ wrap64 (k - 1)) = True := eq_true (by rw [HE2.out]; have := HK.out; omega)
            have i2 : (wrap64 (k - 1) < 10) = True := eq_true (by rw [HE2.out]; have := HK.out; omega)
            have i3 : (0 ≤ h) = True := eq_true HH.out.1
            have i4 : (h < 6) = True := eq_true (by have := HH.out; omega)
            have i5 : (0 ≤ k) = True := eq_true (by have := HK.out; omega)
            have i6 : (k < 10) = True := eq_true (by have := HK.out; omega)
            have i7 : (wrap64 (k + 1) == 0) = false := beq_eq_false_iff_ne.mpr (by rw [HE1.out]; have := HK.out; omega)
            have i8 : ¬ (wrap64 (k + 1) = 0) := by rw [HE1.out]; have := HK.out; omega
            have hcA := impl_GluingRun.cellT HG.out ((wrap64 (k - 1)).toNat * 6 + h.toNat) (by rw [HT.out, HE2.out]; have := HK.out; have := HH.out; omega)
            have hcS := impl_GluingRun.cellT HG.out (k.toNat * 6 + h.toNat) (by rw [HT.out]; have := HK.out; have := HH.out; omega)
            have hfS : wr.frozen? ⟨g, k.toNat * 6 + h.toNat, none⟩ = false := frozen_of_row wr _ _ _ _ HG.out
            have hE := HE.out
            simp only [impl_GluingRun.rowl] at hE
            by_cases c2 : 2 ≤ k
            · rw [if_pos c2] at hE
              have d2 : decide (2 ≤ k) = true := decide_eq_true c2
              by_cases c1 : 1 ≤ h
              · rw [if_pos c1] at hE
                have d1 : decide (1 ≤ h) = true := decide_eq_true c1
                have HE' := Aside0.mk hE
                have j1 : (0 ≤ wrap64 (k - 2)) = True := eq_true (by rw [HE3.out]; omega)
                have j2 : (wrap64 (k - 2) < 10) = True := eq_true (by rw [HE3.out]; have := HK.out; omega)
                have j3 : (0 ≤ wrap64 (h - 1)) = True := eq_true (by rw [HE4.out]; omega)
                have j4 : (wrap64 (h - 1) < 6) = True := eq_true (by rw [HE4.out]; have := HH.out; omega)
                have hcB := impl_GluingRun.cellT HG.out ((wrap64 (k - 2)).toNat * 6 + (wrap64 (h - 1)).toNat) (by rw [HT.out, HE3.out, HE4.out]; have := HK.out; have := HH.out; omega)
                clear hE HE c1 c2
                go_upto_region 14 with (fail)
                rw [show wrap64 (wrap64 (wrap64 (2 * wrap64 (wrap64 (2 * k) - 1)) * impl_GluingRun.at_ T1 ((wrap64 (k - 1)).toNat * 6 + h.toNat)) + wrap64 (wrap64 (wrap64 (wrap64 (wrap64 (2 * k) - 1) * wrap64 (k - 1)) * wrap64 (wrap64 (2 * k) - 3)) * impl_GluingRun.at_ T1 ((wrap64 (k - 2)).toNat * 6 + (wrap64 (h - 1)).toNat))) = impl_GluingRun.s2 T1 k h from rfl]
                obtain ⟨s, HS⟩ : ∃ s, Aside0 (impl_GluingRun.s2 T1 k h = s) := ⟨_, ⟨rfl⟩⟩
                rw [HS.out]
                go_region
                go_wp2
                go_roundg e
                case measure => omega
                case rel =>
                  refine ⟨wrap64 (h + 1), impl_GluingRun.put T1 k h s, rfl, ⟨by rw [HW.out]; have := HY.out; omega, by rw [HW.out]; have := HY.out; omega⟩, ⟨by rw [impl_GluingRun.put_len]; exact HT.out⟩, ⟨by rw [HW.out, ← HS.out]; exact HE'.out⟩, ⟨?_⟩, ⟨?_⟩⟩
                  · have h1 := heap_setCell_same wr g (k.toNat * 6 + h.toNat) _ _ (.int .i64 (wrap64 (Int.tdiv s (wrap64 (k + 1))))) HG.out
                    rw [List.setIfInBounds_toArray, ← List.map_set] at h1
                    exact h1
                  · exact below_drew1 (below_set HBc.out (by rw [HG0.out]; exact Nat.le_refl _))
              · rw [if_neg c1] at hE
                have d1 : decide (1 ≤ h) = false := decide_eq_false c1
                have HE' := Aside0.mk hE
                clear hE HE c1 c2
                go_upto_region 14 with (fail)
                rw [show wrap64 (wrap64 (2 * wrap64 (wrap64 (2 * k) - 1)) * impl_GluingRun.at_ T1 ((wrap64 (k - 1)).toNat * 6 + h.toNat)) = impl_GluingRun.s1 T1 k h from rfl]
                obtain ⟨s, HS⟩ : ∃ s, Aside0 (impl_GluingRun.s1 T1 k h = s) := ⟨_, ⟨rfl⟩⟩
                rw [HS.out]
                go_region
                go_wp2
                go_roundg e
                case measure => omega
                case rel =>
                  refine ⟨wrap64 (h + 1), impl_GluingRun.put T1 k h s, rfl, ⟨by rw [HW.out]; have := HY.out; omega, by rw [HW.out]; have := HY.out; omega⟩, ⟨by rw [impl_GluingRun.put_len]; exact HT.out⟩, ⟨by rw [HW.out, ← HS.out]; exact HE'.out⟩, ⟨?_⟩, ⟨?_⟩⟩
                  · have h1 := heap_setCell_same wr g (k.toNat * 6 + h.toNat) _ _ (.int .i64 (wrap64 (Int.tdiv s (wrap64 (k + 1))))) HG.out
                    rw [List.setIfInBounds_toArray, ← List.map_set] at h1
                    exact h1
                  · exact below_drew1 (below_set HBc.out (by rw [HG0.out]; exact Nat.le_refl _))
            · rw [if_neg c2] at hE
              have d2 : decide (2 ≤ k) = false := decide_eq_false c2
              have HE' := Aside0.mk hE
              clear hE HE c2
              go_upto_region 14 with (fail)
              rw [show wrap64 (wrap64 (2 * wrap64 (wrap64 (2 * k) - 1)) * impl_GluingRun.at_ T1 ((wrap64 (k - 1)).toNat * 6 + h.toNat)) = impl_GluingRun.s1 T1 k h from rfl]
              obtain ⟨s, HS⟩ : ∃ s, Aside0 (impl_GluingRun.s1 T1 k h = s) := ⟨_, ⟨rfl⟩⟩
              rw [HS.out]
              go_region
              go_wp2
              go_roundg e
              case measure => omega
              case rel =>
                refine ⟨wrap64 (h + 1), impl_GluingRun.put T1 k h s, rfl, ⟨by rw [HW.out]; have := HY.out; omega, by rw [HW.out]; have := HY.out; omega⟩, ⟨by rw [impl_GluingRun.put_len]; exact HT.out⟩, ⟨by rw [HW.out, ← HS.out]; exact HE'.out⟩, ⟨?_⟩, ⟨?_⟩⟩
                · have h1 := heap_setCell_same wr g (k.toNat * 6 + h.toNat) _ _ (.int .i64 (wrap64 (Int.tdiv s (wrap64 (k + 1))))) HG.out
                  rw [List.setIfInBounds_toArray, ← List.map_set] at h1
                  exact h1
                · exact below_drew1 (below_set HBc.out (by rw [HG0.out]; exact Nat.le_refl _))

end Go.Proofs.Ytkfeildndcdbaaa.Q
