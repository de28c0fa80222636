import Derived.Test.YtkfeildndcdbaaaQ0
import Derived.Laws.EntriesVeiled
namespace Go.Proofs.Ytkfeildndcdbaaa.Q
open Go.RowKit Go.Proofs.YtkfeildndcdbaaaW.PrintWords Go.Proofs.YtkfeildndcdbaaaW.PrintLast Go.Proofs.YtkfeildndcdbaaaW.PrintMore
attribute [local go_sem] max2_int min2_int max_two min_two max_three min_three max_four min_four   -- for this text's walks alone
set_option linter.unusedVariables false
set_option linter.unusedSimpArgs false

/-! ### spec_l6In: function 50 -/
def spec_l6In.f (a0 : Int) (a1 : Int) (a2 : Int) : Option (Bool) := if a0 ≥ a1 then (some (decide (a0 ≤ a2))) else (some false)
set_option maxHeartbeats 8000000 in
set_option maxRecDepth 100000 in
theorem spec_l6In.calls (a0 : Int) (a1 : Int) (a2 : Int) (r : Bool) (w : World) (h : spec_l6In.f a0 a1 a2 = some r) :
    Calls Try.prog 50 #[.int .i64 a0, .int .i64 a1, .int .i64 a2] w fun e w' => e = .returned (.bool r) ∧ Drawn0 w w' := by
  have H : (if a0 ≥ a1 then (some (decide (a0 ≤ a2))) else (some false)) = some r := h
  clear h
  by_cases c4 : a0 ≥ a1
  · rw [if_pos c4] at H
    have c4b0 : decide (a1 ≤ a0) = true := decide_eq_true c4
    clear c4
    obtain rfl := Option.some.inj H
    go_enter Try.func50, Try.ntmps50
    go_wp2
    go_ret
    exact ⟨by first | rfl | (simp; done) | (simp [*]; done), by repeat (first | exact Drawn0.refl _ | apply Drawn0.step)⟩
  · rw [if_neg c4] at H
    have c4b0 : decide (a1 ≤ a0) = false := decide_eq_false c4
    clear c4
    obtain rfl := Option.some.inj H
    go_enter Try.func50, Try.ntmps50
    go_wp2
    go_ret
    exact ⟨by first | rfl | (simp; done) | (simp [*]; done), by repeat (first | exact Drawn0.refl _ | apply Drawn0.step)⟩

/-! ### spec_l2Copy: function 84 -/
def spec_l2Copy.f (l0 : List Int) : Option (List Int) := (some (([] : List Int) : List Int)).bind fun y101 => (if y101.length + l0.length < 17592186044416 then (some (y101 ++ l0)) else (none))
set_option maxHeartbeats 8000000 in
set_option maxRecDepth 100000 in
theorem spec_l2Copy.calls (A0 : Option Addr) (c0 : Nat) (l0 : List Int) (r : List Int) (w : World) (hr0 : Kd.C (Kd.int .i64) w A0 l0.length l0) (hc0 : l0.length ≤ c0) (h : spec_l2Copy.f l0 = some r) :
    Calls Try.prog 84 #[.slice A0 l0.length c0] w fun e w' => ∃ v0_ : Value, e = .returned (v0_) ∧ Kd.R (Kd.int .i64) 3 w' w.heap.size (fun _ => True) v0_ r ∧ Below w.heap.size w w' := by
  have HR0 := Aside0.mk hr0
  have HC0 := Aside0.mk hc0
  clear hr0 hc0
  have HB := Aside0.mk (Below.refl w.heap.size w)
  have H : ((some (([] : List Int) : List Int)).bind fun y101 => (if y101.length + l0.length < 17592186044416 then (some (y101 ++ l0)) else (none))) = some r := h
  clear h
  obtain ⟨y101, hy101⟩ : ∃ y_ : List Int, y_ = (([] : List Int)) := ⟨_, rfl⟩
  replace H : (if y101.length + l0.length < 17592186044416 then (some (y101 ++ l0)) else (none)) = some r := by first | (rw [hy101]; with_reducible exact H) | (have H2_ := (Option.bind_some _ _).symm.trans H; rw [hy101]; with_reducible exact H2_) | (have H2_ := (Option.bind_some _ _).symm.trans H; with_reducible exact H2_) | with_reducible exact H | (rw [hy101]; exact H) | exact H
  have Ny101 := Aside0.mk hy101
  clear hy101
  by_cases c2 : y101.length + l0.length < 17592186044416
  · rw [if_pos c2] at H
    have LMc2 := Aside0.mk c2
    clear c2
    obtain ⟨y104, hy104⟩ : ∃ y_ : List Int, y_ = (y101 ++ l0) := ⟨_, rfl⟩
    replace H : (some y104) = some r := by first | (rw [hy104]; with_reducible exact H) | (have H2_ := (Option.bind_some _ _).symm.trans H; rw [hy104]; with_reducible exact H2_) | (have H2_ := (Option.bind_some _ _).symm.trans H; with_reducible exact H2_) | with_reducible exact H | (rw [hy104]; exact H) | exact H
    have Ny104 := Aside0.mk hy104
    clear hy104
    obtain rfl := Option.some.inj H
    go_enter Try.func84, Try.ntmps84
    go_wp2_with (first | ((with_reducible refine gate_dst (N := 3) rfl ?_); refine Kd.R_lit (Kd.int .i64) _ 3 ?hg (N := 3) ?hd (xs := ([] : List Int)) (inner := []) (ok := fun _ => True) (okp := fun _ => True) ?hr ?hp (fun _ hk => hk) trivial (Below.refl _ _) (Nat.le_refl _) (by simp) ?_; (case hd => rfl); (case hg => rfl); (case hr => first | (go_simp; done) | (go_simp; rfl)); (case hp => exact (Reps.none _ _)); intro v102 w3 ho4 hb hg_ hnew_; clear hg_ hnew_; (first | rw [← Ny101.out] at ho4 | (simp only [Int.reduceToNat] at ho4; rw [← Ny101.out] at ho4)); have n0_ := Aside0.mk (Kd.R_lower ho4 (below_size (by repeat (first | (with_reducible first | exact HB.out | apply below_alloc | apply pw_below_drewN | apply below_drew1) | exact HB.out)))); have n1_ := Aside0.mk (below_step (by repeat (first | (with_reducible first | exact HB.out | apply below_alloc | apply pw_below_drewN | apply below_drew1) | exact HB.out)) hb); clear HB; have HO103 := n0_; have HB := n1_; clear n0_ n1_; clear hb ho4) | ((with_reducible refine gate_builtin (b := .append) (xs := #[.tmp 3, .tmp 4]) rfl ?_); at_builtin; refine Kd.R_append_rows (Kd.int .i64) (w0 := w) w.heap.size rfl (.tmp 3) (.tmp 4) 32 3 (.int .i64 0) 8 rfl Try.underlying32 info3 rfl (by decide) (by omega) v102 y101 l0 _ _ _ (fun _ => True) (fun _ => False) rfl rfl ?aO ?aR (fun _ _ h => h) (fun _ h => h.elim) ?aF ?aB ?aS ?aL ?_; (case aR => repeat (first | exact (Kd.C_below HR0.out HB.out) | (with_reducible exact HR0.out) | (with_reducible refine Kd.C_alloc ?_ _) | (with_reducible refine Kd.C_drewN ?_ _) | (with_reducible refine Kd.C_drew ?_))); (case aB => exact (by repeat (first | (with_reducible first | exact HB.out | apply below_alloc | apply pw_below_drewN | apply below_drew1) | exact HB.out))); (case aF => exact (fun _ _ => trivial)); (case aO => exact (by (with_reducible repeat (first | apply Kd.R_alloc | apply Kd.R_drewN | apply Kd.R_drew)); exact HO103.out)); (case aS => exact (below_size (by repeat (first | (with_reducible first | exact HB.out | apply below_alloc | apply pw_below_drewN | apply below_drew1) | exact HB.out)))); (case aL => have := LMc2.out; omega); intro v105 w5 ho hb hg hat; rw [← Ny104.out] at ho; have n0_ := Aside0.mk (hb); have n1_ := Aside0.mk (ho); clear HB; clear HO103; have HB := n0_; have HO106 := n1_; clear n0_ n1_; clear ho hb hg hat))
    go_ret
    exact ⟨_, by first | rfl | (simp [errW_none, errW_some] <;> rfl) | (simp [*, errW_none, errW_some] <;> rfl), by (with_reducible repeat (first | apply Kd.R_alloc | apply Kd.R_drewN | apply Kd.R_drew)); exact HO106.out, by repeat (first | (with_reducible first | exact HB.out | apply below_alloc | apply pw_below_drewN | apply below_drew1) | exact HB.out)⟩
  · rw [if_neg c2] at H
    exact absurd H (by simp)

/-! ### spec_l4All: function 56 -/
mutual
def spec_l4All.j1 : Nat → List Int → Int → Option ((List (List Int)))
  | 0, _, _ => none
  | k + 1, x0, x3 => if x3 = (x0.length : Int) then (some (([x0] : List (List Int)))) else (spec_l4All.l1 k x0 x3 (([] : List (List Int))) (wrap64 (x3 + 1)))
def spec_l4All.l1 : Nat → List Int → Int → List (List Int) → Int → Option ((List (List Int)))
  | 0, _, _, _, _ => none
  | k + 1, x0, x3, x4, x5 => if x5 < (x0.length : Int) then (if 0 ≤ x5 then (if (rd x0 x5) < 0 then ((spec_l2Copy.f x0).bind fun t115 => (if 0 ≤ x3 then (if x3 < (t115.length : Int) then (if x5 < (t115.length : Int) then ((spec_l4All.f k ((t115.set (x3 : Int).toNat x5).set (x5 : Int).toNat x3)).bind fun t120 => (if x4.length + t120.length < 5864062014805 then (spec_l4All.l1 k x0 x3 (x4 ++ t120) (wrap64 (x5 + 1))) else (none))) else (none)) else (none)) else (none))) else (spec_l4All.l1 k x0 x3 x4 (wrap64 (x5 + 1)))) else (none)) else (some x4)
def spec_l4All.l0 : Nat → List Int → Int → Option ((List (List Int)))
  | 0, _, _ => none
  | k + 1, x0, x3 => if x3 < (x0.length : Int) then (if 0 ≤ x3 then (if (rd x0 x3) ≥ 0 then (spec_l4All.l0 k x0 (wrap64 (x3 + 1))) else (spec_l4All.j1 k x0 x3)) else (none)) else (spec_l4All.j1 k x0 x3)
def spec_l4All.f : Nat → List Int → Option ((List (List Int)))
  | 0, _ => none
  | k + 1, l0 => spec_l4All.l0 k l0 0
end
theorem spec_l4All.mono_l : ∀ k, (∀ y0, LeO (spec_l4All.f k y0) (spec_l4All.f (k + 1) y0)) ∧ (∀ y0 y1, LeO (spec_l4All.j1 k y0 y1) (spec_l4All.j1 (k + 1) y0 y1)) ∧ (∀ y0 y1 y2 y3, LeO (spec_l4All.l1 k y0 y1 y2 y3) (spec_l4All.l1 (k + 1) y0 y1 y2 y3)) ∧ (∀ y0 y1, LeO (spec_l4All.l0 k y0 y1) (spec_l4All.l0 (k + 1) y0 y1))
  | 0 => ⟨fun _ r h => by simp [spec_l4All.f] at h, fun _ _ r h => by simp [spec_l4All.j1] at h, fun _ _ _ _ r h => by simp [spec_l4All.l1] at h, fun _ _ r h => by simp [spec_l4All.l0] at h⟩
  | k + 1 => by
    obtain ⟨ih0, ih1, ih2, ih3⟩ := spec_l4All.mono_l k
    refine ⟨?_, ?_, ?_, ?_⟩
    · intro y0
      unfold spec_l4All.f
      repeat' first
      | (with_reducible exact ih0 _)
      | (with_reducible exact ih1 _ _)
      | (with_reducible exact ih2 _ _ _ _)
      | (with_reducible exact ih3 _ _)
      | (with_reducible exact LeO.refl _)
      | (with_reducible exact LeO.none _)
      | (with_reducible refine LeO.ite ?_ ?_)
      | (with_reducible refine LeO.bind ?_ (fun _ => ?_))
      | exact ih0 _
      | exact ih1 _ _
      | exact ih2 _ _ _ _
      | exact ih3 _ _
      | exact LeO.none _
      | refine LeO.ite ?_ ?_
      | refine LeO.bind ?_ (fun _ => ?_)
    · intro y0 y1
      unfold spec_l4All.j1
      repeat' first
      | (with_reducible exact ih0 _)
      | (with_reducible exact ih1 _ _)
      | (with_reducible exact ih2 _ _ _ _)
      | (with_reducible exact ih3 _ _)
      | (with_reducible exact LeO.refl _)
      | (with_reducible exact LeO.none _)
      | (with_reducible refine LeO.ite ?_ ?_)
      | (with_reducible refine LeO.bind ?_ (fun _ => ?_))
      | exact ih0 _
      | exact ih1 _ _
      | exact ih2 _ _ _ _
      | exact ih3 _ _
      | exact LeO.none _
      | refine LeO.ite ?_ ?_
      | refine LeO.bind ?_ (fun _ => ?_)
    · intro y0 y1 y2 y3
      unfold spec_l4All.l1
      repeat' first
      | (with_reducible exact ih0 _)
      | (with_reducible exact ih1 _ _)
      | (with_reducible exact ih2 _ _ _ _)
      | (with_reducible exact ih3 _ _)
      | (with_reducible exact LeO.refl _)
      | (with_reducible exact LeO.none _)
      | (with_reducible refine LeO.ite ?_ ?_)
      | (with_reducible refine LeO.bind ?_ (fun _ => ?_))
      | exact ih0 _
      | exact ih1 _ _
      | exact ih2 _ _ _ _
      | exact ih3 _ _
      | exact LeO.none _
      | refine LeO.ite ?_ ?_
      | refine LeO.bind ?_ (fun _ => ?_)
    · intro y0 y1
      unfold spec_l4All.l0
      repeat' first
      | (with_reducible exact ih0 _)
      | (with_reducible exact ih1 _ _)
      | (with_reducible exact ih2 _ _ _ _)
      | (with_reducible exact ih3 _ _)
      | (with_reducible exact LeO.refl _)
      | (with_reducible exact LeO.none _)
      | (with_reducible refine LeO.ite ?_ ?_)
      | (with_reducible refine LeO.bind ?_ (fun _ => ?_))
      | exact ih0 _
      | exact ih1 _ _
      | exact ih2 _ _ _ _
      | exact ih3 _ _
      | exact LeO.none _
      | refine LeO.ite ?_ ?_
      | refine LeO.bind ?_ (fun _ => ?_)
theorem spec_l4All.mono : ∀ a0 k, LeO (spec_l4All.f k a0) (spec_l4All.f (k + 1) a0) := by
  intro a0 k
  obtain ⟨ih0, ih1, ih2, ih3⟩ := spec_l4All.mono_l k
  exact ih0 a0
set_option maxHeartbeats 8000000 in
set_option maxRecDepth 100000 in
theorem spec_l4All.calls (k : Nat) : ∀ (P0_ : Nat → Prop) (A0 : Option Addr) (c0 : Nat) (l0 : List Int) (r : List (List Int)) (w : World) (hs0 : Kd.V (Kd.int .i64) 3 w w.heap.size (fun k_ => P0_ k_) (.slice A0 l0.length c0) l0) (h : spec_l4All.f k l0 = some r),
    Calls Try.prog 56 #[.slice A0 l0.length c0] w fun e w' => ∃ v0_ : Value, e = .returned (v0_) ∧ Kd.N (Kd.slice 3 (Kd.int .i64)) 32 w' w.heap.size (fun k_ => (P0_ k_ ∨ w.heap.size ≤ k_)) v0_ r ∧ Below w.heap.size w w' := by
  induction k using Nat.strongRecOn with
  | _ k ih =>
  intro P0_ A0 c0 l0 r w hs0 h
  cases k with
  | zero => exact absurd h (by simp [spec_l4All.f])
  | succ k =>
  simp only [spec_l4All.f] at h
  have HO0 := Aside0.mk (show Kd.V (Kd.int .i64) 3 w w.heap.size (fun k_ => (P0_ k_ ∨ w.heap.size ≤ k_)) (.slice A0 l0.length c0) l0 from Kd.V_mono hs0 (fun k_ hk => .inl hk))
  have HB := Aside0.mk (Below.refl w.heap.size w)
  have H : (spec_l4All.l0 k l0 0) = some r := h
  clear h
  have HC2 := Aside0.mk H
  clear H
  go_enter Try.func56, Try.ntmps56
  go_upto_block 0 with (fail)
  go_cut [3] (fun v3 wc => ∃ (kq : Nat) (x3_1 : Int), v3 = .int .i64 x3_1 ∧ Aside0 (spec_l4All.j1 kq l0 x3_1 = some r) ∧ Aside0 (kq ≤ k) ∧ Aside0 (Kd.V (Kd.int .i64) 3 wc w.heap.size (fun k_ => (P0_ k_ ∨ w.heap.size ≤ k_)) (.slice A0 l0.length c0) l0) ∧ Aside0 (Below w.heap.size w wc))
  case first =>
    have H := HC2.out
    clear HC2
    have H' := Aside0.mk H
    clear H
    go_wp2
    go_loopg [3] k (fun kq v3 w' => ∃ (x3_1 : Int), v3 = .int .i64 x3_1 ∧ Aside0 (spec_l4All.l0 kq l0 x3_1 = some r) ∧ Aside0 (kq ≤ k) ∧ Aside0 (Kd.V (Kd.int .i64) 3 w' w.heap.size (fun k_ => (P0_ k_ ∨ w.heap.size ≤ k_)) (.slice A0 l0.length c0) l0) ∧ Aside0 (Below w.heap.size w w'))
    case atStart => exact ⟨(0), (by first | rfl | (simp; done) | (simp [*]; done)), H', ⟨Nat.le_refl _⟩, ⟨by (with_reducible repeat (first | apply Kd.V_alloc | apply Kd.V_drewN | apply Kd.V_drew)); exact HO0.out⟩, ⟨by repeat (first | (with_reducible first | exact HB.out | apply below_alloc | apply pw_below_drewN | apply below_drew1) | exact HB.out)⟩⟩
    case round =>
      clear H'
      try clear p2
      obtain ⟨x3_1, rfl, HA, HK1, HO_0, HB⟩ := hrel
      cases gk with
      | zero => exact absurd HA.out (by simp [spec_l4All.l0])
      | succ k1 =>
        have H := HA.out
        clear HA
        simp only [spec_l4All.l0] at H
        by_cases c3 : x3_1 < (l0.length : Int)
        · rw [if_pos c3] at H
          have c3b0 : decide (x3_1 < (l0.length : Int)) = true := decide_eq_true c3
          clear c3
          (first | rw [c3b0] | (simp only [i64_w, i32_w]; rw [c3b0]) | skip)
          by_cases c4 : 0 ≤ x3_1
          · rw [if_pos c4] at H
            have c4b0 : decide (0 ≤ x3_1) = true := decide_eq_true c4
            clear c4
            by_cases c5 : (rd l0 x3_1) ≥ 0
            · rw [if_pos c5] at H
              have c5b0 : decide (0 ≤ (rd l0 x3_1)) = true := decide_eq_true c5
              clear c5
              have H' := Aside0.mk H
              clear H
              have p107 : 0 ≤ (x3_1 : Int) := of_decide_eq_true (by first | (with_reducible assumption) | assumption)
              have q107 : x3_1 < (l0.length : Int) := of_decide_eq_true (by first | (with_reducible assumption) | assumption)
              obtain ⟨ad107, e107, hx107_0⟩ := Kd.at_int (Kd.V_reads' HO_0.out).2.2 x3_1 p107 q107
              cases e107
              replace p107 := eq_true p107
              replace q107 := eq_true q107
              go_wp2
              go_roundg k1
              case measure => have := HK1.out; omega
              case rel => exact ⟨(wrap64 (x3_1 + 1)), (by first | rfl | (simp; done) | (simp [*]; done)), H', ⟨by have := HK1.out; omega⟩, ⟨by (with_reducible repeat (first | apply Kd.V_alloc | apply Kd.V_drewN | apply Kd.V_drew)); exact HO_0.out⟩, ⟨by repeat (first | (with_reducible first | exact HB.out | apply below_alloc | apply pw_below_drewN | apply below_drew1) | exact HB.out)⟩⟩
            · rw [if_neg c5] at H
              have c5b0 : decide (0 ≤ (rd l0 x3_1)) = false := decide_eq_false c5
              clear c5
              have H' := Aside0.mk H
              clear H
              have p107 : 0 ≤ (x3_1 : Int) := of_decide_eq_true (by first | (with_reducible assumption) | assumption)
              have q107 : x3_1 < (l0.length : Int) := of_decide_eq_true (by first | (with_reducible assumption) | assumption)
              obtain ⟨ad107, e107, hx107_0⟩ := Kd.at_int (Kd.V_reads' HO_0.out).2.2 x3_1 p107 q107
              cases e107
              replace p107 := eq_true p107
              replace q107 := eq_true q107
              go_wp2
              go_meet
              case rel => exact ⟨_, (x3_1), (by first | rfl | (simp; done) | (simp [*]; done)), H', ⟨by have := HK1.out; first | omega | exact Nat.le_refl _⟩, ⟨by (with_reducible repeat (first | apply Kd.V_alloc | apply Kd.V_drewN | apply Kd.V_drew)); exact HO_0.out⟩, ⟨by repeat (first | (with_reducible first | exact HB.out | apply below_alloc | apply pw_below_drewN | apply below_drew1) | exact HB.out)⟩⟩
          · rw [if_neg c4] at H
            exact absurd H (by simp)
        · rw [if_neg c3] at H
          have c3b0 : decide (x3_1 < (l0.length : Int)) = false := decide_eq_false c3
          clear c3
          (first | rw [c3b0] | (simp only [i64_w, i32_w]; rw [c3b0]) | skip)
          have H' := Aside0.mk H
          clear H
          go_wp2
          go_meet
          case rel => exact ⟨_, (x3_1), (by first | rfl | (simp; done) | (simp [*]; done)), H', ⟨by have := HK1.out; first | omega | exact Nat.le_refl _⟩, ⟨by (with_reducible repeat (first | apply Kd.V_alloc | apply Kd.V_drewN | apply Kd.V_drew)); exact HO_0.out⟩, ⟨by repeat (first | (with_reducible first | exact HB.out | apply below_alloc | apply pw_below_drewN | apply below_drew1) | exact HB.out)⟩⟩
  case rest =>
    clear HC2
    try clear p1
    try clear q1
    try clear hx1
    try clear p2
    try clear c3
    try clear c3b0
    try clear c4
    try clear c4b0
    try clear c5
    try clear c5b0
    try clear hx107_0
    try clear p107
    try clear p2
    try clear q107
    obtain ⟨kq, x3_1, rfl, HA, HJ1, HO_0, HB⟩ := hcut
    cases kq with
    | zero => exact absurd HA.out (by simp [spec_l4All.j1])
    | succ kj1 =>
      have H := HA.out
      clear HA
      simp only [spec_l4All.j1] at H
      by_cases c6 : x3_1 = (l0.length : Int)
      · rw [if_pos c6] at H
        have c6b0 : (x3_1 == (l0.length : Int)) = true := beq_iff_eq.mpr c6
        have c6b1 : (x3_1 != (l0.length : Int)) = false := bne_eq_false_iff_eq.mpr c6
        clear c6
        obtain ⟨y108, hy108⟩ : ∃ y_ : List (List Int), y_ = (([l0] : List (List Int))) := ⟨_, rfl⟩
        replace H : (some y108) = some r := by first | (rw [hy108]; with_reducible exact H) | (have H2_ := (Option.bind_some _ _).symm.trans H; rw [hy108]; with_reducible exact H2_) | (have H2_ := (Option.bind_some _ _).symm.trans H; with_reducible exact H2_) | with_reducible exact H | (rw [hy108]; exact H) | exact H
        have Ny108 := Aside0.mk hy108
        clear hy108
        obtain rfl := Option.some.inj H
        go_wp2_with (first | ((with_reducible refine gate_dst (N := 25) rfl ?_); refine Kd.N_lit (Kd.slice 3 (Kd.int .i64)) _ 32 ?hg (N' := 25) ?hd (xs := ([l0] : List (List Int))) (inner := [.slice A0 l0.length c0]) (ok := (fun k_ => (P0_ k_ ∨ w.heap.size ≤ k_))) (okp := (fun k_ => (P0_ k_ ∨ w.heap.size ≤ k_))) ?hr ?hp (fun _ hk => hk) ((show ∀ k_, wc.heap.size ≤ k_ → (fun k_ => (P0_ k_ ∨ w.heap.size ≤ k_)) k_ from fun k_ hk => (.inr (Nat.le_trans (below_size (by repeat (first | (with_reducible first | exact HB.out | apply below_alloc | apply pw_below_drewN | apply below_drew1) | exact HB.out))) hk))) _ (Nat.le_refl _)) (Below.refl _ _) (Nat.le_refl _) (by simp) ?_; (case hd => rfl); (case hg => rfl); (case hr => first | (go_simp; done) | (go_simp; rfl)); (case hp => exact (Reps.one (show Kd.FK (Kd.slice 3 (Kd.int .i64)) _ _ l0 [.slice A0 l0.length c0] from (Kd.FK_slice_mk (Kd.V_reads' (Kd.V_mono (ok' := (fun k_ => (P0_ k_ ∨ w.heap.size ≤ k_))) (HO_0.out) (fun k_ hk => hk))).2.1 (Kd.V_F (Kd.V_mono (ok' := (fun k_ => (P0_ k_ ∨ w.heap.size ≤ k_))) (HO_0.out) (fun k_ hk => hk))))) (Reps.none _ _))); intro v109 w7 ho8 hb hg_ hnew_; clear hg_ hnew_; (first | rw [← Ny108.out] at ho8 | (simp only [Int.reduceToNat] at ho8; rw [← Ny108.out] at ho8)); have n0_ := Aside0.mk (Kd.V_elder' (by (with_reducible repeat (first | apply Kd.V_alloc | apply Kd.V_drewN | apply Kd.V_drew)); exact HO_0.out) (Kd.N_base ho8) hb); have n1_ := Aside0.mk (Kd.N_lower ho8 (below_size (by repeat (first | (with_reducible first | exact HB.out | apply below_alloc | apply pw_below_drewN | apply below_drew1) | exact HB.out)))); have n2_ := Aside0.mk (below_step (by repeat (first | (with_reducible first | exact HB.out | apply below_alloc | apply pw_below_drewN | apply below_drew1) | exact HB.out)) hb); clear HO_0; clear HB; have HO_0 := n0_; have HO110 := n1_; have HB := n2_; clear n0_ n1_ n2_; clear hb ho8))
        go_ret
        exact ⟨_, by first | rfl | (simp [errW_none, errW_some] <;> rfl) | (simp [*, errW_none, errW_some] <;> rfl), by (with_reducible repeat (first | apply Kd.N_alloc | apply Kd.N_drewN | apply Kd.N_drew)); exact HO110.out, by repeat (first | (with_reducible first | exact HB.out | apply below_alloc | apply pw_below_drewN | apply below_drew1) | exact HB.out)⟩
      · rw [if_neg c6] at H
        have c6b0 : (x3_1 == (l0.length : Int)) = false := beq_eq_false_iff_ne.mpr c6
        have c6b1 : (x3_1 != (l0.length : Int)) = true := bne_iff_ne.mpr c6
        obtain ⟨y111, hy111⟩ : ∃ y_ : List (List Int), y_ = (([] : List (List Int))) := ⟨_, rfl⟩
        replace H : (spec_l4All.l1 kj1 l0 x3_1 y111 (wrap64 (x3_1 + 1))) = some r := by first | (rw [hy111]; with_reducible exact H) | (have H2_ := (Option.bind_some _ _).symm.trans H; rw [hy111]; with_reducible exact H2_) | (have H2_ := (Option.bind_some _ _).symm.trans H; with_reducible exact H2_) | with_reducible exact H | (rw [hy111]; exact H) | exact H
        have Ny111 := Aside0.mk hy111
        clear hy111
        have H' := Aside0.mk H
        clear H
        go_wp2_with (first | ((with_reducible refine gate_dst (N := 26) rfl ?_); refine Kd.N_lit (Kd.slice 3 (Kd.int .i64)) _ 32 ?hg (N' := 26) ?hd (xs := ([] : List (List Int))) (inner := []) (ok := (fun k_ => (P0_ k_ ∨ w.heap.size ≤ k_))) (okp := (fun k_ => (P0_ k_ ∨ w.heap.size ≤ k_))) ?hr ?hp (fun _ hk => hk) ((show ∀ k_, wc.heap.size ≤ k_ → (fun k_ => (P0_ k_ ∨ w.heap.size ≤ k_)) k_ from fun k_ hk => (.inr (Nat.le_trans (below_size (by repeat (first | (with_reducible first | exact HB.out | apply below_alloc | apply pw_below_drewN | apply below_drew1) | exact HB.out))) hk))) _ (Nat.le_refl _)) (Below.refl _ _) (Nat.le_refl _) (by simp) ?_; (case hd => rfl); (case hg => rfl); (case hr => first | (go_simp; done) | (go_simp; rfl)); (case hp => exact (Reps.none _ _)); intro v112 w9 ho10 hb hg_ hnew_; clear hg_ hnew_; (first | rw [← Ny111.out] at ho10 | (simp only [Int.reduceToNat] at ho10; rw [← Ny111.out] at ho10)); have n0_ := Aside0.mk (Kd.V_elder' (by (with_reducible repeat (first | apply Kd.V_alloc | apply Kd.V_drewN | apply Kd.V_drew)); exact HO_0.out) (Kd.N_base ho10) hb); have n1_ := Aside0.mk (Kd.N_lower ho10 (below_size (by repeat (first | (with_reducible first | exact HB.out | apply below_alloc | apply pw_below_drewN | apply below_drew1) | exact HB.out)))); have n2_ := Aside0.mk (below_step (by repeat (first | (with_reducible first | exact HB.out | apply below_alloc | apply pw_below_drewN | apply below_drew1) | exact HB.out)) hb); clear HO_0; clear HB; have HO_0 := n0_; have HO113 := n1_; have HB := n2_; clear n0_ n1_ n2_; clear hb ho10))
        go_loopg [4, 5] kj1 (fun kq v4 v5 w' => ∃ (x0_2 : List Int) (x4_2 : List (List Int)) (x5_2 : Int), v5 = .int .i64 x5_2 ∧ Aside0 (spec_l4All.l1 kq x0_2 x3_1 x4_2 x5_2 = some r) ∧ Aside0 (kq ≤ kj1) ∧ Aside0 (Kd.V (Kd.int .i64) 3 w' w.heap.size (fun k_ => (P0_ k_ ∨ w.heap.size ≤ k_) ∧ some k_ ≠ (v4 : Value).ownBlock) (.slice A0 l0.length c0) x0_2) ∧ Aside0 (Kd.N (Kd.slice 3 (Kd.int .i64)) 32 w' w.heap.size (fun k_ => (P0_ k_ ∨ w.heap.size ≤ k_)) v4 x4_2) ∧ Aside0 (Below w.heap.size w w'))
        case atStart => exact ⟨(l0), (y111), (wrap64 (x3_1 + 1)), (by first | rfl | (simp; done) | (simp [*]; done)), H', ⟨Nat.le_refl _⟩, ⟨by (with_reducible repeat (first | apply Kd.V_alloc | apply Kd.V_drewN | apply Kd.V_drew)); exact HO_0.out⟩, ⟨by (with_reducible repeat (first | apply Kd.N_alloc | apply Kd.N_drewN | apply Kd.N_drew)); exact HO113.out⟩, ⟨by repeat (first | (with_reducible first | exact HB.out | apply below_alloc | apply pw_below_drewN | apply below_drew1) | exact HB.out)⟩⟩
        case round =>
          clear H'
          try clear p1
          try clear q1
          try clear hx1
          try clear p2
          try clear c3
          try clear c3b0
          try clear c4
          try clear c4b0
          try clear c5
          try clear c5b0
          try clear c6
          try clear c6b0
          try clear c6b1
          try clear p6
          try clear p10
          try clear q10
          try clear hx10
          try clear hx107_0
          try clear p1
          try clear p107
          try clear p2
          try clear q1
          try clear q107
          obtain ⟨x0_2, x4_2, x5_2, rfl, HA, HK2, HO_0, HO_4, HB⟩ := hrel
          have hl0_2 := (Kd.V_reads' HO_0.out).1
          rw [hl0_2] at HO_0
          (try simp only [hl0_2])
          (try simp only [hl0_2] at HO_4)
          cases gk with
          | zero => exact absurd HA.out (by simp [spec_l4All.l1])
          | succ k2 =>
            have H := HA.out
            clear HA
            simp only [spec_l4All.l1] at H
            by_cases c11 : x5_2 < (x0_2.length : Int)
            · rw [if_pos c11] at H
              have c11b0 : decide (x5_2 < (x0_2.length : Int)) = true := decide_eq_true c11
              clear c11
              by_cases c12 : 0 ≤ x5_2
              · rw [if_pos c12] at H
                have c12b0 : decide (0 ≤ x5_2) = true := decide_eq_true c12
                clear c12
                by_cases c13 : (rd x0_2 x5_2) < 0
                · rw [if_pos c13] at H
                  have c13b0 : decide ((rd x0_2 x5_2) < 0) = true := decide_eq_true c13
                  clear c13
                  replace H := Option.bind_eq_some_iff.mp H
                  obtain ⟨t115, A140, H⟩ := H
                  replace H : (if 0 ≤ x3_1 then (if x3_1 < (t115.length : Int) then (if x5_2 < (t115.length : Int) then ((spec_l4All.f k2 ((t115.set (x3_1 : Int).toNat x5_2).set (x5_2 : Int).toNat x3_1)).bind fun t120 => (if x4_2.length + t120.length < 5864062014805 then (spec_l4All.l1 k2 x0_2 x3_1 (x4_2 ++ t120) (wrap64 (x5_2 + 1))) else (none))) else (none)) else (none)) else (none)) = some r := H
                  have A14 := Aside0.mk A140
                  clear A140
                  by_cases c15 : 0 ≤ x3_1
                  · rw [if_pos c15] at H
                    have c15b0 : decide (0 ≤ x3_1) = true := decide_eq_true c15
                    clear c15
                    by_cases c16 : x3_1 < (t115.length : Int)
                    · rw [if_pos c16] at H
                      have c16b0 : decide (x3_1 < (t115.length : Int)) = true := decide_eq_true c16
                      clear c16
                      obtain ⟨y118, hy118⟩ : ∃ y_ : List Int, y_ = (t115.set (x3_1 : Int).toNat x5_2) := ⟨_, rfl⟩
                      replace H : (if x5_2 < (t115.length : Int) then ((spec_l4All.f k2 (y118.set (x5_2 : Int).toNat x3_1)).bind fun t120 => (if x4_2.length + t120.length < 5864062014805 then (spec_l4All.l1 k2 x0_2 x3_1 (x4_2 ++ t120) (wrap64 (x5_2 + 1))) else (none))) else (none)) = some r := by first | (rw [hy118]; with_reducible exact H) | (have H2_ := (Option.bind_some _ _).symm.trans H; rw [hy118]; with_reducible exact H2_) | (have H2_ := (Option.bind_some _ _).symm.trans H; with_reducible exact H2_) | with_reducible exact H | (rw [hy118]; exact H) | exact H
                      have Ny118 := Aside0.mk hy118
                      clear hy118
                      by_cases c18 : x5_2 < (t115.length : Int)
                      · rw [if_pos c18] at H
                        have c18b0 : decide (x5_2 < (t115.length : Int)) = true := decide_eq_true c18
                        clear c18
                        obtain ⟨y119, hy119⟩ : ∃ y_ : List Int, y_ = (y118.set (x5_2 : Int).toNat x3_1) := ⟨_, rfl⟩
                        replace H : ((spec_l4All.f k2 y119).bind fun t120 => (if x4_2.length + t120.length < 5864062014805 then (spec_l4All.l1 k2 x0_2 x3_1 (x4_2 ++ t120) (wrap64 (x5_2 + 1))) else (none))) = some r := by first | (rw [hy119]; with_reducible exact H) | (have H2_ := (Option.bind_some _ _).symm.trans H; rw [hy119]; with_reducible exact H2_) | (have H2_ := (Option.bind_some _ _).symm.trans H; with_reducible exact H2_) | with_reducible exact H | (rw [hy119]; exact H) | exact H
                        have Ny119 := Aside0.mk hy119
                        clear hy119
                        replace H := Option.bind_eq_some_iff.mp H
                        obtain ⟨t120, A200, H⟩ := H
                        replace H : (if x4_2.length + t120.length < 5864062014805 then (spec_l4All.l1 k2 x0_2 x3_1 (x4_2 ++ t120) (wrap64 (x5_2 + 1))) else (none)) = some r := H
                        have A20 := Aside0.mk A200
                        clear A200
                        by_cases c21 : x4_2.length + t120.length < 5864062014805
                        · rw [if_pos c21] at H
                          have LMc21 := Aside0.mk c21
                          clear c21
                          obtain ⟨y123, hy123⟩ : ∃ y_ : List (List Int), y_ = (x4_2 ++ t120) := ⟨_, rfl⟩
                          replace H : (spec_l4All.l1 k2 x0_2 x3_1 y123 (wrap64 (x5_2 + 1))) = some r := by first | (rw [hy123]; with_reducible exact H) | (have H2_ := (Option.bind_some _ _).symm.trans H; rw [hy123]; with_reducible exact H2_) | (have H2_ := (Option.bind_some _ _).symm.trans H; with_reducible exact H2_) | with_reducible exact H | (rw [hy123]; exact H) | exact H
                          have Ny123 := Aside0.mk hy123
                          clear hy123
                          have H' := Aside0.mk H
                          clear H
                          have p114 : 0 ≤ (x5_2 : Int) := of_decide_eq_true (by first | (with_reducible assumption) | assumption)
                          have q114 : x5_2 < (x0_2.length : Int) := of_decide_eq_true (by first | (with_reducible assumption) | assumption)
                          obtain ⟨ad114, e114, hx114_0⟩ := Kd.at_int (Kd.V_reads' HO_0.out).2.2 x5_2 p114 q114
                          cases e114
                          replace p114 := eq_true p114
                          replace q114 := eq_true q114
                          go_wp2_with (first | ((with_reducible refine gate_callee (f := 84) rfl ?_); refine goesL_ (some 41) rfl rfl Try.func84 (by kernel_rfl) rfl #[.slice (some ad114) x0_2.length c0] rfl (by (try simp only [List.map_toArray, List.map_cons, List.map_nil]); first | done | rfl | (simp only [List.length_drop, List.length_take]; rfl)) ?_; (with_reducible refine (spec_l2Copy.calls _ _ x0_2 t115 _ ?side1 ?side2 A14.out).mono ?_); (case side1 => repeat (first | exact (Kd.V_reads' HO_0.out).2.2 | (with_reducible refine Kd.C_alloc ?_ _) | (with_reducible refine Kd.C_drewN ?_ _) | (with_reducible refine Kd.C_drew ?_))); (case side2 => exact (Kd.V_reads' HO_0.out).2.1); rintro e w22 ⟨v116, rfl, ho0, hb⟩; refine ⟨_, rfl, ?_⟩; have n0_ := Aside0.mk (Kd.V_elder' (by (with_reducible repeat (first | apply Kd.V_alloc | apply Kd.V_drewN | apply Kd.V_drew)); exact HO_0.out) (Kd.R_base ho0) hb); have n1_ := Aside0.mk (Kd.N_elder' (by (with_reducible repeat (first | apply Kd.N_alloc | apply Kd.N_drewN | apply Kd.N_drew)); exact HO_4.out) (Kd.R_base ho0) hb); have n2_ := Aside0.mk (Kd.R_lower (Kd.R_newM (M := fun k_ => (w.heap.size ≤ k_)) ho0 (below_size (by repeat (first | (with_reducible first | exact HB.out | apply below_alloc | apply pw_below_drewN | apply below_drew1) | exact HB.out))) (fun k_ h_ => h_)) (below_size (by repeat (first | (with_reducible first | exact HB.out | apply below_alloc | apply pw_below_drewN | apply below_drew1) | exact HB.out)))); have n3_ := Aside0.mk (below_step (by repeat (first | (with_reducible first | exact HB.out | apply below_alloc | apply pw_below_drewN | apply below_drew1) | exact HB.out)) hb); clear HO_0; clear HO_4; clear HB; have HO_0 := n0_; have HO_4 := n1_; have HO117 := n2_; have HB := n3_; clear n0_ n1_ n2_ n3_; (try clear hb); (try clear hb2); (try clear hk); (try clear hi); (try clear ho0); have p17 : 0 ≤ (x3_1 : Int) := of_decide_eq_true (by first | (with_reducible assumption) | assumption); have q17 : (x3_1 : Int) < ((t115.length : Int) : Int) := of_decide_eq_true (by first | (with_reducible assumption) | assumption); obtain ⟨go17, co17, eo17, gb17, gl17, cl17, HG17⟩ := Kd.R_form HO117.out (by omega); (first | cases eo17 | (injection eo17 with ea_ en_ ec_; (first | subst ea_ | (injection ea_ with ea_; subst ea_)); subst ec_; clear en_)); have GB17 := Aside0.mk gb17; have GG17 := Aside0.mk HG17; clear gb17 gl17 HG17; obtain ⟨hx17_0, hf17_0⟩ := Kd.R_celln 0 HO117.out (x3_1 : Int) p17 q17; replace p17 := eq_true p17; replace q17 := eq_true q17; have n_ := Aside0.mk (Kd.R_mono (ok' := (fun k_ => (w.heap.size ≤ k_))) HO117.out (fun k_ hk => hk.1)); clear HO117; have HO117 := n_; clear n_; obtain ⟨hy23_, hz23_⟩ := Kd.R_celln 0 HO117.out (x3_1 : Int) (of_decide_eq_true (by first | (with_reducible assumption) | assumption)) (of_decide_eq_true (by first | (with_reducible assumption) | assumption)); have HP23 := Kd.R_putg HO117.out (x3_1 : Int) x5_2) | ((with_reducible refine gate_store (t := 3) (p := 45) rfl ?_); refine store_event (t := 3) (p := 45) (v := ?vo_w24) (w1 := (w22.setCell ⟨go17, (x3_1 : Int).toNat, none⟩ (.int .i64 x5_2))) ?hg ?ho ?hn ?hr ?_; (case ho => rfl); (case hg => rfl); (case hn => rfl); (case hr => first | (go_simp; done) | (go_simp; rfl)); intro w24 hw; have hg : w22.grownBy w24 (some go17) := (by rw [hw]; exact HP23.2); have hp_ : Kd.R (Kd.int .i64) 3 w24 w.heap.size (fun k_ => (w.heap.size ≤ k_)) (.slice (some ⟨go17, 0, none⟩) t115.length co17) y118 := (by rw [hw, Ny118.out]; exact HP23.1); clear HP23; have n0_ := Aside0.mk (Kd.V_afterv (v := (.slice (some ⟨go17, 0, none⟩) t115.length co17)) (v1 := (.slice (some ⟨go17, 0, none⟩) t115.length co17)) (ok := (fun k_ => (P0_ k_ ∨ w.heap.size ≤ k_) ∧ some k_ ≠ (u4 : Value).ownBlock)) (by (with_reducible repeat (first | apply Kd.V_alloc | apply Kd.V_drewN | apply Kd.V_drew)); exact HO_0.out) hg (.inl rfl)); have n1_ := Aside0.mk (Kd.N_afterv (v := (.slice (some ⟨go17, 0, none⟩) t115.length co17)) (v1 := (.slice (some ⟨go17, 0, none⟩) t115.length co17)) (ok := (fun k_ => (P0_ k_ ∨ w.heap.size ≤ k_))) (by (with_reducible repeat (first | apply Kd.N_alloc | apply Kd.N_drewN | apply Kd.N_drew)); exact HO_4.out) hg (.inl rfl)); have n2_ := Aside0.mk (hp_); have n3_ := Aside0.mk ((by rw [hw]; exact below_set (HB.out) GB17.out : Below w.heap.size w w24)); clear HO_0; clear HO_4; clear HO117; clear HB; have HO_0 := n0_; have HO_4 := n1_; have HO117 := n2_; have HB := n3_; clear n0_ n1_ n2_ n3_; clear hg hw hp_; have p19 : 0 ≤ (x5_2 : Int) := of_decide_eq_true (by first | (with_reducible assumption) | assumption); have q19 : (x5_2 : Int) < ((t115.length : Int) : Int) := of_decide_eq_true (by first | (with_reducible assumption) | assumption); obtain ⟨hx19_0, hf19_0⟩ := Kd.R_celln 0 HO117.out (x5_2 : Int) p19 q19; replace p19 := eq_true p19; replace q19 := eq_true q19; obtain ⟨hy25_, hz25_⟩ := Kd.R_celln 0 HO117.out (x5_2 : Int) (of_decide_eq_true (by first | (with_reducible assumption) | assumption)) (of_decide_eq_true (by first | (with_reducible assumption) | assumption)); have HP25 := Kd.R_putg HO117.out (x5_2 : Int) x3_1) | ((with_reducible refine gate_store (t := 3) (p := 49) rfl ?_); refine store_event (t := 3) (p := 49) (v := ?vo_w26) (w1 := (w24.setCell ⟨go17, (x5_2 : Int).toNat, none⟩ (.int .i64 x3_1))) ?hg ?ho ?hn ?hr ?_; (case ho => rfl); (case hg => rfl); (case hn => rfl); (case hr => first | (go_simp; done) | (go_simp; rfl)); intro w26 hw; have hg : w24.grownBy w26 (some go17) := (by rw [hw]; exact HP25.2); have hp_ : Kd.R (Kd.int .i64) 3 w26 w.heap.size (fun k_ => (w.heap.size ≤ k_)) (.slice (some ⟨go17, 0, none⟩) t115.length co17) y119 := (by rw [hw, Ny119.out]; exact HP25.1); clear HP25; have n0_ := Aside0.mk (Kd.V_afterv (v := (.slice (some ⟨go17, 0, none⟩) t115.length co17)) (v1 := (.slice (some ⟨go17, 0, none⟩) t115.length co17)) (ok := (fun k_ => (P0_ k_ ∨ w.heap.size ≤ k_) ∧ some k_ ≠ (u4 : Value).ownBlock)) (by (with_reducible repeat (first | apply Kd.V_alloc | apply Kd.V_drewN | apply Kd.V_drew)); exact HO_0.out) hg (.inl rfl)); have n1_ := Aside0.mk (Kd.N_afterv (v := (.slice (some ⟨go17, 0, none⟩) t115.length co17)) (v1 := (.slice (some ⟨go17, 0, none⟩) t115.length co17)) (ok := (fun k_ => (P0_ k_ ∨ w.heap.size ≤ k_))) (by (with_reducible repeat (first | apply Kd.N_alloc | apply Kd.N_drewN | apply Kd.N_drew)); exact HO_4.out) hg (.inl rfl)); have n2_ := Aside0.mk (hp_); have n3_ := Aside0.mk ((by rw [hw]; exact below_set (HB.out) GB17.out : Below w.heap.size w w26)); clear HO_0; clear HO_4; clear HO117; clear HB; have HO_0 := n0_; have HO_4 := n1_; have HO117 := n2_; have HB := n3_; clear n0_ n1_ n2_ n3_; clear hg hw hp_) | ((with_reducible refine gate_callee (f := 56) rfl ?_); refine goesL_ (some 52) rfl rfl Try.func56 (by kernel_rfl) rfl #[.slice (some ⟨go17, 0, none⟩) y119.length co17] rfl (by (try simp only [List.map_toArray, List.map_cons, List.map_nil]); first | done | (rw [show y119.length = t115.length from (Kd.R_reads' HO117.out).1.symm] <;> rfl) | rfl | (simp only [List.length_drop, List.length_take]; rfl)) ?_; (with_reducible refine (ih k2 (by have := HJ1.out; have := HK2.out; omega) (fun k_ => some k_ = (.slice (some ⟨go17, 0, none⟩) t115.length co17 : Value).ownBlock) _ _ y119 t120 _ ?side1 A20.out).mono ?_); (case side1 => rw [show y119.length = t115.length from (Kd.R_reads' HO117.out).1.symm]; exact Kd.R_V (Kd.R_tight rfl (Kd.R_apart' (HO117.out) (Kd.N_typed HO_4.out) (by decide)))); rintro e w27 ⟨v121, rfl, ho0, hb⟩; refine ⟨_, rfl, ?_⟩; have n0_ := Aside0.mk (Kd.V_elder' (by (with_reducible repeat (first | apply Kd.V_alloc | apply Kd.V_drewN | apply Kd.V_drew)); exact HO_0.out) (Kd.N_base ho0) hb); have n1_ := Aside0.mk (Kd.N_elder' (by (with_reducible repeat (first | apply Kd.N_alloc | apply Kd.N_drewN | apply Kd.N_drew)); exact HO_4.out) (Kd.N_base ho0) hb); have n2_ := Aside0.mk (Kd.R_below (by (with_reducible repeat (first | apply Kd.R_alloc | apply Kd.R_drewN | apply Kd.R_drew)); exact HO117.out) hb); have n3_ := Aside0.mk (Kd.N_lower (Kd.N_mono (ok' := fun k_ => (P0_ k_ ∨ w.heap.size ≤ k_) ∧ some k_ ≠ (u4 : Value).ownBlock) ho0 (fun k_ hk_ => ⟨Or.elim hk_ (fun hs_ => (.inr (((Kd.R_apart' (HO117.out) (Kd.N_typed HO_4.out) (by decide)).1 k_ hs_.symm).1))) (fun hn_ => (.inr (Nat.le_trans (below_size (by repeat (first | (with_reducible first | exact HB.out | apply below_alloc | apply pw_below_drewN | apply below_drew1) | exact HB.out))) hn_))), Or.elim hk_ (fun hs_ => ((Kd.R_apart' (HO117.out) (Kd.N_typed HO_4.out) (by decide)).1 k_ hs_.symm).2) (fun hn_ => (Kd.fresh' (Kd.N_lt (by (with_reducible repeat (first | apply Kd.N_alloc | apply Kd.N_drewN | apply Kd.N_drew)); exact HO_4.out)) k_ hn_))⟩)) (below_size (by repeat (first | (with_reducible first | exact HB.out | apply below_alloc | apply pw_below_drewN | apply below_drew1) | exact HB.out)))); have n4_ := Aside0.mk (below_step (by repeat (first | (with_reducible first | exact HB.out | apply below_alloc | apply pw_below_drewN | apply below_drew1) | exact HB.out)) hb); clear HO_0; clear HO_4; clear HO117; clear HB; have HO_0 := n0_; have HO_4 := n1_; have HO117 := n2_; have HO122 := n3_; have HB := n4_; clear n0_ n1_ n2_ n3_ n4_; (try clear hb); (try clear hb2); (try clear hk); (try clear hi); (try clear ho0); obtain ⟨Ao29, co29, eo29⟩ := Kd.N_slice HO122.out; subst eo29) | ((with_reducible refine gate_builtin (b := .append) (xs := #[.tmp 50, .tmp 52]) rfl ?_); at_builtin; refine Kd.N_append_rows (Kd.slice 3 (Kd.int .i64)) (w0 := w) w.heap.size rfl (.tmp 50) (.tmp 52) 22 32 (.slice none 0 0) 24 rfl Try.underlying22 info32 rfl (by decide) (by omega) u4 x4_2 t120 _ _ _ (fun k_ => (P0_ k_ ∨ w.heap.size ≤ k_)) (fun k_ => ((fun k_ => (P0_ k_ ∨ w.heap.size ≤ k_))) k_ ∧ some k_ ≠ (u4 : Value).ownBlock) rfl rfl ?aO ?aR (fun _ hk => hk) ?aF ?aB ?aS ?aL ?_; (case aR => exact (by skip; exact Kd.N_F (Kd.N_mono (ok' := (fun k_ => ((fun k_ => (P0_ k_ ∨ w.heap.size ≤ k_))) k_ ∧ some k_ ≠ (u4 : Value).ownBlock)) (HO122.out) (fun k_ hk => ⟨hk.1, hk.2⟩)))); (case aB => exact (by repeat (first | (with_reducible first | exact HB.out | apply below_alloc | apply pw_below_drewN | apply below_drew1) | exact HB.out))); (case aF => exact (fun k_ hk => (.inr (Nat.le_trans (below_size (by repeat (first | (with_reducible first | exact HB.out | apply below_alloc | apply pw_below_drewN | apply below_drew1) | exact HB.out))) hk)))); (case aO => exact (by (with_reducible repeat (first | apply Kd.N_alloc | apply Kd.N_drewN | apply Kd.N_drew)); exact Kd.N_mono HO_4.out (fun _ hk => hk.1.1))); (case aS => exact (below_size (by repeat (first | (with_reducible first | exact HB.out | apply below_alloc | apply pw_below_drewN | apply below_drew1) | exact HB.out)))); (case aL => have := LMc21.out; omega); intro v124 w28 ho hb hg hat; rw [← Ny123.out] at ho; have n0_ := Aside0.mk (Kd.V_afterv (ok := (fun k_ => (P0_ k_ ∨ w.heap.size ≤ k_) ∧ some k_ ≠ (.slice (some ⟨go17, 0, none⟩) t115.length co17 : Value).ownBlock ∧ some k_ ≠ (.slice Ao29 t120.length co29 : Value).ownBlock)) (by (with_reducible repeat (first | apply Kd.V_alloc | apply Kd.V_drewN | apply Kd.V_drew)); exact Kd.V_mono HO_0.out (fun _ hk => ⟨⟨hk.1.1.1, ⟨hk.1.2, hk.2⟩⟩, hk.1.1.2⟩)) hg hat); have n1_ := Aside0.mk (Kd.R_over' (by (with_reducible repeat (first | apply Kd.R_alloc | apply Kd.R_drewN | apply Kd.R_drew)); exact HO117.out) (Kd.N_typed (by (with_reducible repeat (first | apply Kd.N_alloc | apply Kd.N_drewN | apply Kd.N_drew)); exact HO_4.out)) (by decide) hg); have n2_ := Aside0.mk (Kd.N_afterv (ok := (fun k_ => (P0_ k_ ∨ w.heap.size ≤ k_))) (by (with_reducible repeat (first | apply Kd.N_alloc | apply Kd.N_drewN | apply Kd.N_drew)); exact HO122.out) hg hat); have n3_ := Aside0.mk (hb); have n4_ := Aside0.mk (ho); clear HO_0; clear HO117; clear HO122; clear HB; clear HO_4; have HO_0 := n0_; have HO117 := n1_; have HO122 := n2_; have HB := n3_; have HO125 := n4_; clear n0_ n1_ n2_ n3_ n4_; clear ho hb hg hat))
                          (try simp only [← hl0_2])
                          go_roundg k2
                          case measure => have := HJ1.out; have := HK2.out; omega
                          case rel => exact ⟨(x0_2), (y123), (wrap64 (x5_2 + 1)), (by first | rfl | (simp; done) | (simp [*]; done)), H', ⟨by have := HJ1.out; have := HK2.out; omega⟩, ⟨by (try simp only [hl0_2]); (with_reducible repeat (first | apply Kd.V_alloc | apply Kd.V_drewN | apply Kd.V_drew)); exact Kd.V_mono HO_0.out (fun _ hk => ⟨hk.1.1, hk.2⟩)⟩, ⟨by (try simp only [hl0_2]); (with_reducible repeat (first | apply Kd.N_alloc | apply Kd.N_drewN | apply Kd.N_drew)); exact HO125.out⟩, ⟨by repeat (first | (with_reducible first | exact HB.out | apply below_alloc | apply pw_below_drewN | apply below_drew1) | exact HB.out)⟩⟩
                        · rw [if_neg c21] at H
                          exact absurd H (by simp)
                      · rw [if_neg c18] at H
                        exact absurd H (by simp)
                    · rw [if_neg c16] at H
                      exact absurd H (by simp)
                  · rw [if_neg c15] at H
                    exact absurd H (by simp)
                · rw [if_neg c13] at H
                  have c13b0 : decide ((rd x0_2 x5_2) < 0) = false := decide_eq_false c13
                  clear c13
                  have H' := Aside0.mk H
                  clear H
                  have p114 : 0 ≤ (x5_2 : Int) := of_decide_eq_true (by first | (with_reducible assumption) | assumption)
                  have q114 : x5_2 < (x0_2.length : Int) := of_decide_eq_true (by first | (with_reducible assumption) | assumption)
                  obtain ⟨ad114, e114, hx114_0⟩ := Kd.at_int (Kd.V_reads' HO_0.out).2.2 x5_2 p114 q114
                  cases e114
                  replace p114 := eq_true p114
                  replace q114 := eq_true q114
                  go_wp2
                  (try simp only [← hl0_2])
                  go_roundg k2
                  case measure => have := HJ1.out; have := HK2.out; omega
                  case rel => exact ⟨(x0_2), (x4_2), (wrap64 (x5_2 + 1)), (by first | rfl | (simp; done) | (simp [*]; done)), H', ⟨by have := HJ1.out; have := HK2.out; omega⟩, ⟨by (try simp only [hl0_2]); (with_reducible repeat (first | apply Kd.V_alloc | apply Kd.V_drewN | apply Kd.V_drew)); exact HO_0.out⟩, ⟨by (try simp only [hl0_2]); (with_reducible repeat (first | apply Kd.N_alloc | apply Kd.N_drewN | apply Kd.N_drew)); exact HO_4.out⟩, ⟨by repeat (first | (with_reducible first | exact HB.out | apply below_alloc | apply pw_below_drewN | apply below_drew1) | exact HB.out)⟩⟩
              · rw [if_neg c12] at H
                exact absurd H (by simp)
            · rw [if_neg c11] at H
              have c11b0 : decide (x5_2 < (x0_2.length : Int)) = false := decide_eq_false c11
              clear c11
              obtain rfl := Option.some.inj H
              go_wp2
              go_ret
              exact ⟨_, by first | rfl | (simp [errW_none, errW_some] <;> rfl) | (simp [*, errW_none, errW_some] <;> rfl), by (with_reducible repeat (first | apply Kd.N_alloc | apply Kd.N_drewN | apply Kd.N_drew)); exact HO_4.out, by repeat (first | (with_reducible first | exact HB.out | apply below_alloc | apply pw_below_drewN | apply below_drew1) | exact HB.out)⟩

/-! ### spec_l4Free: function 57 -/
def spec_l4Free.l0 : Nat → Int → List Int → Int → Option (List Int)
  | 0, _, _, _ => none
  | k + 1, x0, x3, x4 => if x4 < (wrap64 (2 * x0)) then (if x3.length < 17592186044416 then (spec_l4Free.l0 k x0 (x3 ++ [(-1)]) (wrap64 (x4 + 1))) else (none)) else (some x3)
def spec_l4Free.f (k : Nat) (a0 : Int) : Option (List Int) := spec_l4Free.l0 k a0 (([] : List Int)) 0
theorem spec_l4Free.mono_l : ∀ k, (∀ y0 y1 y2, LeO (spec_l4Free.l0 k y0 y1 y2) (spec_l4Free.l0 (k + 1) y0 y1 y2))
  | 0 => fun _ _ _ r h => by simp [spec_l4Free.l0] at h
  | k + 1 => by
    have ih0 := spec_l4Free.mono_l k
    · intro y0 y1 y2
      unfold spec_l4Free.l0
      repeat' first
      | (with_reducible exact ih0 _ _ _)
      | (with_reducible exact LeO.refl _)
      | (with_reducible exact LeO.none _)
      | (with_reducible refine LeO.ite ?_ ?_)
      | (with_reducible refine LeO.bind ?_ (fun _ => ?_))
      | exact ih0 _ _ _
      | exact LeO.none _
      | refine LeO.ite ?_ ?_
      | refine LeO.bind ?_ (fun _ => ?_)
theorem spec_l4Free.mono : ∀ a0 k, LeO (spec_l4Free.f k a0) (spec_l4Free.f (k + 1) a0) := by
  intro a0 k
  have ih0 := spec_l4Free.mono_l k
  unfold spec_l4Free.f
  repeat' first
      | (with_reducible exact ih0 _ _ _)
      | (with_reducible exact LeO.refl _)
      | (with_reducible exact LeO.none _)
      | (with_reducible refine LeO.ite ?_ ?_)
      | (with_reducible refine LeO.bind ?_ (fun _ => ?_))
      | exact ih0 _ _ _
      | exact LeO.none _
      | refine LeO.ite ?_ ?_
      | refine LeO.bind ?_ (fun _ => ?_)
set_option maxHeartbeats 8000000 in
set_option maxRecDepth 100000 in
theorem spec_l4Free.calls (k : Nat) (a0 : Int) (r : List Int) (w : World) (h : spec_l4Free.f k a0 = some r) :
    Calls Try.prog 57 #[.int .i64 a0] w fun e w' => ∃ v0_ : Value, e = .returned (v0_) ∧ Kd.R (Kd.int .i64) 3 w' w.heap.size (fun _ => True) v0_ r ∧ Below w.heap.size w w' := by
  have HB := Aside0.mk (Below.refl w.heap.size w)
  have H : (spec_l4Free.l0 k a0 (([] : List Int)) 0) = some r := h
  clear h
  obtain ⟨y126, hy126⟩ : ∃ y_ : List Int, y_ = (([] : List Int)) := ⟨_, rfl⟩
  replace H : (spec_l4Free.l0 k a0 y126 0) = some r := by first | (rw [hy126]; with_reducible exact H) | (have H2_ := (Option.bind_some _ _).symm.trans H; rw [hy126]; with_reducible exact H2_) | (have H2_ := (Option.bind_some _ _).symm.trans H; with_reducible exact H2_) | with_reducible exact H | (rw [hy126]; exact H) | exact H
  have Ny126 := Aside0.mk hy126
  clear hy126
  have H' := Aside0.mk H
  clear H
  go_enter Try.func57, Try.ntmps57
  go_wp2_with (first | ((with_reducible refine gate_dst (N := 5) rfl ?_); refine Kd.R_lit (Kd.int .i64) _ 3 ?hg (N := 5) ?hd (xs := ([] : List Int)) (inner := []) (ok := fun _ => True) (okp := fun _ => True) ?hr ?hp (fun _ hk => hk) trivial (Below.refl _ _) (Nat.le_refl _) (by simp) ?_; (case hd => rfl); (case hg => rfl); (case hr => first | (go_simp; done) | (go_simp; rfl)); (case hp => exact (Reps.none _ _)); intro v127 w2 ho3 hb hg_ hnew_; clear hg_ hnew_; (first | rw [← Ny126.out] at ho3 | (simp only [Int.reduceToNat] at ho3; rw [← Ny126.out] at ho3)); have n0_ := Aside0.mk (Kd.R_lower ho3 (below_size (by repeat (first | (with_reducible first | exact HB.out | apply below_alloc | apply pw_below_drewN | apply below_drew1) | exact HB.out)))); have n1_ := Aside0.mk (below_step (by repeat (first | (with_reducible first | exact HB.out | apply below_alloc | apply pw_below_drewN | apply below_drew1) | exact HB.out)) hb); clear HB; have HO128 := n0_; have HB := n1_; clear n0_ n1_; clear hb ho3))
  go_loopg [3, 4] k (fun kq v3 v4 w' => ∃ (x3_1 : List Int) (x4_1 : Int), v4 = .int .i64 x4_1 ∧ Aside0 (spec_l4Free.l0 kq a0 x3_1 x4_1 = some r) ∧ Aside0 (kq ≤ k) ∧ Aside0 (Kd.R (Kd.int .i64) 3 w' w.heap.size (fun _ => True) v3 x3_1) ∧ Aside0 (Below w.heap.size w w'))
  case atStart => exact ⟨(y126), (0), (by first | rfl | (simp; done) | (simp [*]; done)), H', ⟨Nat.le_refl _⟩, ⟨by (with_reducible repeat (first | apply Kd.R_alloc | apply Kd.R_drewN | apply Kd.R_drew)); exact HO128.out⟩, ⟨by repeat (first | (with_reducible first | exact HB.out | apply below_alloc | apply pw_below_drewN | apply below_drew1) | exact HB.out)⟩⟩
  case round =>
    clear H'
    try clear p2
    obtain ⟨x3_1, x4_1, rfl, HA, HK1, HO_3, HB⟩ := hrel
    cases gk with
    | zero => exact absurd HA.out (by simp [spec_l4Free.l0])
    | succ k1 =>
      have H := HA.out
      clear HA
      simp only [spec_l4Free.l0] at H
      by_cases c4 : x4_1 < (wrap64 (2 * a0))
      · rw [if_pos c4] at H
        have c4b0 : decide (x4_1 < (wrap64 (2 * a0))) = true := decide_eq_true c4
        clear c4
        by_cases c5 : x3_1.length < 17592186044416
        · rw [if_pos c5] at H
          have LMc5 := Aside0.mk c5
          clear c5
          obtain ⟨y129, hy129⟩ : ∃ y_ : List Int, y_ = (x3_1 ++ [(-1)]) := ⟨_, rfl⟩
          replace H : (spec_l4Free.l0 k1 a0 y129 (wrap64 (x4_1 + 1))) = some r := by first | (rw [hy129]; with_reducible exact H) | (have H2_ := (Option.bind_some _ _).symm.trans H; rw [hy129]; with_reducible exact H2_) | (have H2_ := (Option.bind_some _ _).symm.trans H; with_reducible exact H2_) | with_reducible exact H | (rw [hy129]; exact H) | exact H
          have Ny129 := Aside0.mk hy129
          clear hy129
          have H' := Aside0.mk H
          clear H
          go_wp2_with (first | ((with_reducible refine gate_builtin (b := .append) (xs := #[.tmp 12, .tmp 13]) rfl ?_); at_builtin; refine Kd.R_append (Kd.int .i64) (w0 := w) w.heap.size rfl (.tmp 12) (.tmp 13) 32 3 (.int .i64 0) 8 rfl Try.underlying32 info3 rfl (by decide) (by omega) u3 x3_1 (-1) [.int .i64 (-1)] (fun _ => True) (fun _ => False) rfl rfl ?aP (fun _ hk => hk.elim) ?aF ?aO ?aB ?aS ?aL ?_; (case aP => exact rfl); (case aB => exact (by repeat (first | (with_reducible first | exact HB.out | apply below_alloc | apply pw_below_drewN | apply below_drew1) | exact HB.out))); (case aF => exact (fun _ _ => trivial)); (case aO => exact (by (with_reducible repeat (first | apply Kd.R_alloc | apply Kd.R_drewN | apply Kd.R_drew)); exact HO_3.out)); (case aS => exact (below_size (by repeat (first | (with_reducible first | exact HB.out | apply below_alloc | apply pw_below_drewN | apply below_drew1) | exact HB.out)))); (case aL => have := LMc5.out; omega); intro v130 w6 ho hb hg hat; rw [← Ny129.out] at ho; have n0_ := Aside0.mk (hb); have n1_ := Aside0.mk (ho); clear HB; clear HO_3; have HB := n0_; have HO131 := n1_; clear n0_ n1_; clear ho hb hg hat))
          go_roundg k1
          case measure => have := HK1.out; omega
          case rel => exact ⟨(y129), (wrap64 (x4_1 + 1)), (by first | rfl | (simp; done) | (simp [*]; done)), H', ⟨by have := HK1.out; omega⟩, ⟨by (with_reducible repeat (first | apply Kd.R_alloc | apply Kd.R_drewN | apply Kd.R_drew)); exact HO131.out⟩, ⟨by repeat (first | (with_reducible first | exact HB.out | apply below_alloc | apply pw_below_drewN | apply below_drew1) | exact HB.out)⟩⟩
        · rw [if_neg c5] at H
          exact absurd H (by simp)
      · rw [if_neg c4] at H
        have c4b0 : decide (x4_1 < (wrap64 (2 * a0))) = false := decide_eq_false c4
        clear c4
        obtain rfl := Option.some.inj H
        go_wp2
        go_ret
        exact ⟨_, by first | rfl | (simp [errW_none, errW_some] <;> rfl) | (simp [*, errW_none, errW_some] <;> rfl), by (with_reducible repeat (first | apply Kd.R_alloc | apply Kd.R_drewN | apply Kd.R_drew)); exact HO_3.out, by repeat (first | (with_reducible first | exact HB.out | apply below_alloc | apply pw_below_drewN | apply below_drew1) | exact HB.out)⟩

/-! ### spec_GluingAll: function 20 -/
def spec_GluingAll.f (k : Nat) (a0 : Int) : Option ((List (List Int)) × Bool) := (spec_l6In.f a0 1 3).bind fun t132 => (if t132 = true then ((spec_l4Free.f k a0).bind fun t133 => ((spec_l4All.f k t133).bind fun t136 => (some (t136, true)))) else (some ((([] : List (List Int))), false)))
theorem spec_GluingAll.mono : ∀ a0 k, LeO (spec_GluingAll.f k a0) (spec_GluingAll.f (k + 1) a0) := by
  intro a0 k
  unfold spec_GluingAll.f
  repeat' first
      | (with_reducible exact spec_l4All.mono _ _)
      | (with_reducible exact spec_l4Free.mono _ _)
      | (with_reducible exact LeO.refl _)
      | (with_reducible exact LeO.none _)
      | (with_reducible refine LeO.ite ?_ ?_)
      | (with_reducible refine LeO.bind ?_ (fun _ => ?_))
      | exact spec_l4All.mono _ _
      | exact spec_l4Free.mono _ _
      | exact LeO.none _
      | refine LeO.ite ?_ ?_
      | refine LeO.bind ?_ (fun _ => ?_)
set_option maxHeartbeats 8000000 in
set_option maxRecDepth 100000 in
theorem spec_GluingAll.calls (k : Nat) (a0 : Int) (r1 : List (List Int)) (r2 : Bool) (w : World) (h : spec_GluingAll.f k a0 = some (r1, r2)) :
    Calls Try.prog 20 #[.int .i64 a0] w fun e w' => ∃ v0_ : Value, e = .returned (.tuple #[v0_, .bool r2]) ∧ Kd.N (Kd.slice 3 (Kd.int .i64)) 32 w' w.heap.size (fun k_ => (w.heap.size ≤ k_)) v0_ r1 ∧ Below w.heap.size w w' := by
  have HB := Aside0.mk (Below.refl w.heap.size w)
  have H : ((spec_l6In.f a0 1 3).bind fun t132 => (if t132 = true then ((spec_l4Free.f k a0).bind fun t133 => ((spec_l4All.f k t133).bind fun t136 => (some (t136, true)))) else (some ((([] : List (List Int))), false)))) = some (r1, r2) := h
  clear h
  replace H := Option.bind_eq_some_iff.mp H
  obtain ⟨t132, A20, H⟩ := H
  replace H : (if t132 = true then ((spec_l4Free.f k a0).bind fun t133 => ((spec_l4All.f k t133).bind fun t136 => (some (t136, true)))) else (some ((([] : List (List Int))), false))) = some (r1, r2) := H
  have A2 := Aside0.mk A20
  clear A20
  by_cases c3 : t132 = true
  · subst c3
    have H1 : ((spec_l4Free.f k a0).bind fun t133 => ((spec_l4All.f k t133).bind fun t136 => (some (t136, true)))) = some (r1, r2) := by rw [if_pos rfl] at H; exact H
    clear H
    have H := H1
    clear H1
    replace H := Option.bind_eq_some_iff.mp H
    obtain ⟨t133, A40, H⟩ := H
    replace H : ((spec_l4All.f k t133).bind fun t136 => (some (t136, true))) = some (r1, r2) := H
    have A4 := Aside0.mk A40
    clear A40
    replace H := Option.bind_eq_some_iff.mp H
    obtain ⟨t136, A50, H⟩ := H
    replace H : (some (t136, true)) = some (r1, r2) := H
    have A5 := Aside0.mk A50
    clear A50
    simp only [Option.some.injEq, Prod.mk.injEq] at H
    obtain ⟨rfl, rfl⟩ := H
    go_enter Try.func20, Try.ntmps20
    go_wp2_with (first | ((with_reducible refine gate_callee (f := 50) rfl ?_); refine goesL_ (some 5) rfl rfl Try.func50 (by kernel_rfl) rfl #[.int .i64 a0, .int .i64 1, .int .i64 3] rfl (by (try simp only [List.map_toArray, List.map_cons, List.map_nil]); first | done | rfl | (simp only [List.length_drop, List.length_take]; rfl)) ?_; (with_reducible refine (spec_l6In.calls a0 1 3 true _ A2.out).mono ?_); rintro e w' ⟨rfl, ⟨nd, rfl⟩⟩; refine ⟨_, rfl, ?_⟩) | ((with_reducible refine gate_callee (f := 57) rfl ?_); refine goesL_ (some 9) rfl rfl Try.func57 (by kernel_rfl) rfl #[.int .i64 a0] rfl (by (try simp only [List.map_toArray, List.map_cons, List.map_nil]); first | done | rfl | (simp only [List.length_drop, List.length_take]; rfl)) ?_; (with_reducible refine (spec_l4Free.calls k a0 t133 _ A4.out).mono ?_); rintro e w6 ⟨v134, rfl, ho0, hb⟩; refine ⟨_, rfl, ?_⟩; have n0_ := Aside0.mk (Kd.R_lower (Kd.R_newM (M := fun k_ => (w.heap.size ≤ k_)) ho0 (below_size (by repeat (first | (with_reducible first | exact HB.out | apply below_alloc | apply pw_below_drewN | apply below_drew1) | exact HB.out))) (fun k_ h_ => h_)) (below_size (by repeat (first | (with_reducible first | exact HB.out | apply below_alloc | apply pw_below_drewN | apply below_drew1) | exact HB.out)))); have n1_ := Aside0.mk (below_step (by repeat (first | (with_reducible first | exact HB.out | apply below_alloc | apply pw_below_drewN | apply below_drew1) | exact HB.out)) hb); clear HB; have HO135 := n0_; have HB := n1_; clear n0_ n1_; (try clear hb); (try clear hb2); (try clear hk); (try clear hi); (try clear ho0); obtain ⟨Ao7, co7, eo7⟩ := Kd.R_slice HO135.out; subst eo7) | ((with_reducible refine gate_callee (f := 56) rfl ?_); refine goesL_ (some 10) rfl rfl Try.func56 (by kernel_rfl) rfl #[.slice Ao7 t133.length co7] rfl (by (try simp only [List.map_toArray, List.map_cons, List.map_nil]); first | done | rfl | (simp only [List.length_drop, List.length_take]; rfl)) ?_; (with_reducible refine (spec_l4All.calls k (fun k_ => some k_ = (.slice Ao7 t133.length co7 : Value).ownBlock) _ _ t133 t136 _ ?side1 A5.out).mono ?_); (case side1 => exact Kd.R_V (Kd.R_tight rfl (HO135.out))); rintro e w8 ⟨v137, rfl, ho0, hb⟩; refine ⟨_, rfl, ?_⟩; have n0_ := Aside0.mk (Kd.R_below (by (with_reducible repeat (first | apply Kd.R_alloc | apply Kd.R_drewN | apply Kd.R_drew)); exact HO135.out) hb); have n1_ := Aside0.mk (Kd.N_lower (Kd.N_mono (ok' := fun k_ => (w.heap.size ≤ k_)) ho0 (fun k_ hk_ => Or.elim hk_ (fun hs_ => ((HO135.out).1 k_ hs_.symm).1) (fun hn_ => (Nat.le_trans (below_size (by repeat (first | (with_reducible first | exact HB.out | apply below_alloc | apply pw_below_drewN | apply below_drew1) | exact HB.out))) hn_)))) (below_size (by repeat (first | (with_reducible first | exact HB.out | apply below_alloc | apply pw_below_drewN | apply below_drew1) | exact HB.out)))); have n2_ := Aside0.mk (below_step (by repeat (first | (with_reducible first | exact HB.out | apply below_alloc | apply pw_below_drewN | apply below_drew1) | exact HB.out)) hb); clear HO135; clear HB; have HO135 := n0_; have HO138 := n1_; have HB := n2_; clear n0_ n1_ n2_; (try clear hb); (try clear hb2); (try clear hk); (try clear hi); (try clear ho0)))
    go_ret2
    exact ⟨_, by first | rfl | (simp [errW_none, errW_some] <;> rfl) | (simp [*, errW_none, errW_some] <;> rfl), by (with_reducible repeat (first | apply Kd.N_alloc | apply Kd.N_drewN | apply Kd.N_drew)); exact HO138.out, by repeat (first | (with_reducible first | exact HB.out | apply below_alloc | apply pw_below_drewN | apply below_drew1) | exact HB.out)⟩
  · replace c3 := Bool.eq_false_iff.mpr c3
    subst c3
    have H1 : (some ((([] : List (List Int))), false)) = some (r1, r2) := by rw [if_neg (show ¬ (false = true) by decide)] at H; exact H
    clear H
    have H := H1
    clear H1
    obtain ⟨y139, hy139⟩ : ∃ y_ : List (List Int), y_ = (([] : List (List Int))) := ⟨_, rfl⟩
    replace H : (some (y139, false)) = some (r1, r2) := by first | (rw [hy139]; with_reducible exact H) | (have H2_ := (Option.bind_some _ _).symm.trans H; rw [hy139]; with_reducible exact H2_) | (have H2_ := (Option.bind_some _ _).symm.trans H; with_reducible exact H2_) | with_reducible exact H | (rw [hy139]; exact H) | exact H
    have Ny139 := Aside0.mk hy139
    clear hy139
    simp only [Option.some.injEq, Prod.mk.injEq] at H
    obtain ⟨rfl, rfl⟩ := H
    go_enter Try.func20, Try.ntmps20
    go_wp2_with (first | ((with_reducible refine gate_callee (f := 50) rfl ?_); refine goesL_ (some 5) rfl rfl Try.func50 (by kernel_rfl) rfl #[.int .i64 a0, .int .i64 1, .int .i64 3] rfl (by (try simp only [List.map_toArray, List.map_cons, List.map_nil]); first | done | rfl | (simp only [List.length_drop, List.length_take]; rfl)) ?_; (with_reducible refine (spec_l6In.calls a0 1 3 false _ A2.out).mono ?_); rintro e w' ⟨rfl, ⟨nd, rfl⟩⟩; refine ⟨_, rfl, ?_⟩) | ((with_reducible refine gate_dst (N := 7) rfl ?_); refine Kd.N_lit (Kd.slice 3 (Kd.int .i64)) _ 32 ?hg (N' := 7) ?hd (xs := ([] : List (List Int))) (inner := []) (ok := (fun k_ => (w.heap.size ≤ k_))) (okp := (fun k_ => (w.heap.size ≤ k_))) ?hr ?hp (fun _ hk => hk) ((show ∀ k_, w.heap.size ≤ k_ → (fun k_ => (w.heap.size ≤ k_)) k_ from fun k_ hk => (Nat.le_trans (below_size (by repeat (first | (with_reducible first | exact HB.out | apply below_alloc | apply pw_below_drewN | apply below_drew1) | exact HB.out))) hk)) _ (Nat.le_refl _)) (Below.refl _ _) (Nat.le_refl _) (by simp) ?_; (case hd => rfl); (case hg => rfl); (case hr => first | (go_simp; done) | (go_simp; rfl)); (case hp => exact (Reps.none _ _)); intro v140 w9 ho10 hb hg_ hnew_; clear hg_ hnew_; (first | rw [← Ny139.out] at ho10 | (simp only [Int.reduceToNat] at ho10; rw [← Ny139.out] at ho10)); have n0_ := Aside0.mk (Kd.N_lower ho10 (below_size (by repeat (first | (with_reducible first | exact HB.out | apply below_alloc | apply pw_below_drewN | apply below_drew1) | exact HB.out)))); have n1_ := Aside0.mk (below_step (by repeat (first | (with_reducible first | exact HB.out | apply below_alloc | apply pw_below_drewN | apply below_drew1) | exact HB.out)) hb); clear HB; have HO141 := n0_; have HB := n1_; clear n0_ n1_; clear hb ho10))
    go_ret2
    exact ⟨_, by first | rfl | (simp [errW_none, errW_some] <;> rfl) | (simp [*, errW_none, errW_some] <;> rfl), by (with_reducible repeat (first | apply Kd.N_alloc | apply Kd.N_drewN | apply Kd.N_drew)); exact HO141.out, by repeat (first | (with_reducible first | exact HB.out | apply below_alloc | apply pw_below_drewN | apply below_drew1) | exact HB.out)⟩

-- NOT PRINTED: function 58 (impl_flipsOf)

/-! ### impl_GluingAll: function 21 (a section of my own) -/

def impl_GluingAll.own (bo bg be h0 k : Nat) : Prop := k = bo ∨ k = bg ∨ k = be ∨ h0 ≤ k
def impl_GluingAll.loop (g : List Int → Option (List (List Int))) (p : List Int) (a : Int) : Nat → Int → Option (List (List Int))
  | 0, _ => some []
  | d + 1, k => if rd p k < 0 then (if rd p k = -1 ∧ rd p a = -1 then (g ((p.set a.toNat k).set k.toNat a)).bind fun x => (impl_GluingAll.loop g p a d (k + 1)).bind fun y => some (x ++ y) else none) else impl_GluingAll.loop g p a d (k + 1)
def impl_GluingAll.gen : Nat → List Int → Option (List (List Int))
  | 0, _ => none
  | f + 1, p => (slices_Index_int_int.f 60 p (-1)).bind fun t => if t < 0 then some [p] else if t < (p.length : Int) then impl_GluingAll.loop (impl_GluingAll.gen f) p t (p.length - (t.toNat + 1)) (t + 1) else none
/-- the function value that try holds; the four variables, and the row that is being filled -/
def impl_GluingAll.TV (bn bt bp bf : Nat) : Value := .func (.func 92) #[] #[.pointer (some ⟨bp, 0, none⟩), .pointer (some ⟨bt, 0, none⟩), .pointer (some ⟨bn, 0, none⟩), .pointer (some ⟨bf, 0, none⟩)]
structure impl_GluingAll.FS (W : World) (bn bt bp bf gp n cp base : Nat) (F : Value) (p : List Int) : Prop where
  hn : W.heap[bn]? = some (.cells #[.int .i64 (n : Int)] 3 (0, 0))
  ht : W.heap[bt]? = some (.cells #[F] 60 (0, 0))
  hp : W.heap[bp]? = some (.cells #[.slice (some ⟨gp, 0, none⟩) n cp] 32 (0, 0))
  hf : W.heap[bf]? = some (.cells #[impl_GluingAll.TV bn bt bp bf] 1 (0, 0))
  hr : Kd.R (Kd.int .i64) 3 W base (fun k => k = gp) (.slice (some ⟨gp, 0, none⟩) n cp) p
  hl : p.length = n
structure impl_GluingAll.Ne (bn bt bp bf gp h0 : Nat) : Prop where
  n : bn < h0 ∧ bn ≠ gp
  t : bt < h0 ∧ bt ≠ gp
  p : bp < h0 ∧ bp ≠ gp
  f : bf < h0 ∧ bf ≠ gp
  g : gp < h0
structure impl_GluingAll.Fr (w w' : World) (h0 bo be gp : Nat) : Prop where
  size : w.heap.size ≤ w'.heap.size
  keep : ∀ k, k < h0 → k ≠ bo → k ≠ be → k ≠ gp → w'.heap[k]? = w.heap[k]?
theorem impl_GluingAll.Fr.refl (w : World) (h0 bo be gp : Nat) : impl_GluingAll.Fr w w h0 bo be gp := ⟨Nat.le_refl _, fun _ _ _ _ _ => rfl⟩
theorem impl_GluingAll.Fr.trans {w w1 w2 : World} {h0 bo be gp : Nat} (a : impl_GluingAll.Fr w w1 h0 bo be gp) (b : impl_GluingAll.Fr w1 w2 h0 bo be gp) : impl_GluingAll.Fr w w2 h0 bo be gp := ⟨Nat.le_trans a.size b.size, fun k h1 h2 h3 h4 => (b.keep k h1 h2 h3 h4).trans (a.keep k h1 h2 h3 h4)⟩
section
variable {W W' : World} {bn bt bp bf gp n cp base : Nat} {F : Value} {p : List Int}
theorem impl_GluingAll.FS.step (h : impl_GluingAll.FS W bn bt bp bf gp n cp base F p) (h1 : W'.heap[bn]? = W.heap[bn]?) (h2 : W'.heap[bt]? = W.heap[bt]?) (h3 : W'.heap[bp]? = W.heap[bp]?) (h4 : W'.heap[bf]? = W.heap[bf]?) (h5 : W'.heap[gp]? = W.heap[gp]?) : impl_GluingAll.FS W' bn bt bp bf gp n cp base F p :=
  ⟨h1.trans h.hn, h2.trans h.ht, h3.trans h.hp, h4.trans h.hf, Kd.R_step h.hr (fun k hk _ => by rw [hk]; exact h5), h.hl⟩
theorem impl_GluingAll.FS.put (h : impl_GluingAll.FS W bn bt bp bf gp n cp base F p) {h0 : Nat} (hne : impl_GluingAll.Ne bn bt bp bf gp h0) (i v : Int) : impl_GluingAll.FS (W.setCell ⟨gp, i.toNat, none⟩ (.int .i64 v)) bn bt bp bf gp n cp base F (p.set i.toNat v) :=
  ⟨(heap_setCell_other W _ bn _ hne.n.2).trans h.hn, (heap_setCell_other W _ bt _ hne.t.2).trans h.ht, (heap_setCell_other W _ bp _ hne.p.2).trans h.hp, (heap_setCell_other W _ bf _ hne.f.2).trans h.hf, Kd.R_putn h.hr i v, by rw [List.length_set]; exact h.hl⟩
end
structure impl_GluingAll.Bx (bo bg be h0 bn bt bp bf gp : Nat) : Prop where
  o : bo < h0
  e : be < h0
  go : gp ≠ bo ∧ gp ≠ bg ∧ gp ≠ be
  no : bn ≠ bo ∧ bn ≠ be
  tt : bt ≠ bo ∧ bt ≠ be
  po : bp ≠ bo ∧ bp ≠ be
  fo : bf ≠ bo ∧ bf ≠ be
theorem impl_GluingAll.FS.over {W W' : World} {bn bt bp bf gp n cp base h0 bo bg be : Nat} {F : Value} {p : List Int} (h : impl_GluingAll.FS W bn bt bp bf gp n cp base F p) (hne : impl_GluingAll.Ne bn bt bp bf gp h0) (hbx : impl_GluingAll.Bx bo bg be h0 bn bt bp bf gp) (hk : ∀ k, k < h0 → k ≠ bo → k ≠ be → W'.heap[k]? = W.heap[k]?) : impl_GluingAll.FS W' bn bt bp bf gp n cp base F p :=
  h.step (hk bn hne.n.1 hbx.no.1 hbx.no.2) (hk bt hne.t.1 hbx.tt.1 hbx.tt.2) (hk bp hne.p.1 hbx.po.1 hbx.po.2) (hk bf hne.f.1 hbx.fo.1 hbx.fo.2) (hk gp hne.g hbx.go.1 hbx.go.2.2)
theorem impl_GluingAll.own_ne {bo bg be h0 bn bt bp bf gp q : Nat} (hbx : impl_GluingAll.Bx bo bg be h0 bn bt bp bf gp) (hne : impl_GluingAll.Ne bn bt bp bf gp h0) (h : impl_GluingAll.own bo bg be h0 q) : q ≠ gp := by
  have h1 := hbx.go; have h2 := hne.g
  unfold impl_GluingAll.own at h
  omega
theorem impl_GluingAll.put_back (p : List Int) (a k : Int) (ha : 0 ≤ a) (hak : a < k) (hk : k < (p.length : Int)) (h1 : rd p k = -1) (h2 : rd p a = -1) : (((p.set a.toNat k).set k.toNat a).set a.toNat (-1)).set k.toNat (-1) = p := by
  have r1 : p.getD k.toNat 0 = -1 := h1
  have r2 : p.getD a.toNat 0 = -1 := h2
  rw [List.getD_eq_getElem?_getD, List.getElem?_eq_getElem (by omega), Option.getD_some] at r1 r2
  apply List.ext_getElem (by simp)
  intro i h3 h4
  simp only [List.length_set] at h3
  simp only [List.getElem_set]
  by_cases e1 : k.toNat = i
  · subst e1; simp [r1]
  · by_cases e2 : a.toNat = i
    · subst e2; simp [e1, r2]
    · simp [e1, e2]

def impl_GluingAll.FV (bo bg : Nat) : Value := (.func (.func 59) #[] #[.pointer (some ⟨bo, 0, none⟩)] : Value)
def impl_GluingAll.Q (x : List Int) : Prop := True
def impl_GluingAll.I (W : World) (bo bg be h0 base : Nat) (g : Int) (rows : List (List Int)) : Prop :=
  be ≠ bo ∧ ∃ v, W.heap[bo]? = some (.cells #[v] 22 (0, 0)) ∧ Kd.S (Kd.slice 3 (Kd.int .i64)) 32 W base (fun k => k = be ∨ h0 ≤ k) v rows
theorem impl_GluingAll.I_step {W W' : World} {bo bg be h0 base : Nat} {g : Int} {rows : List (List Int)} (h : impl_GluingAll.I W bo bg be h0 base g rows) (hm : ∀ k, impl_GluingAll.own bo bg be h0 k → k < W.heap.size → W'.heap[k]? = W.heap[k]?) : impl_GluingAll.I W' bo bg be h0 base g rows := by
  obtain ⟨h1, v, hv, hs⟩ := h
  refine ⟨h1, v, (hm bo (.inl rfl) ?_).trans hv, Kd.S_step hs (fun k hk hlt => hm k (.inr (.inr hk)) hlt)⟩
  exact (Array.getElem?_eq_some_iff.1 hv).1
set_option maxHeartbeats 8000000 in
set_option maxRecDepth 100000 in
theorem impl_GluingAll.tell (x : List Int) (A : Option Addr) (c : Nat) (w1 w w0 : World) (bo bg be h0 : Nat) (g : Int) (rows : List (List Int)) (hrow : rows.length ≤ 1000000) (hq : impl_GluingAll.Q x) (HI : impl_GluingAll.I w1 bo bg be h0 w0.heap.size g rows) (hbx : Below w1.heap.size w1 w)
    (HR : Kd.R (Kd.int .i64) 3 w w1.heap.size (fun _ => True) (.slice A x.length c) x) (hbo : bo < h0) (hbe : be < h0) (hh : h0 ≤ w1.heap.size) (hob : w0.heap.size ≤ bo) (hb : w0.heap.size ≤ h0) (heb : w0.heap.size ≤ be) (HB : Below w0.heap.size w0 w1) :
    Calls Try.prog 59 #[.slice A x.length c, .pointer (some ⟨bo, 0, none⟩)] w fun e w' =>
      e = .returned (.tuple #[]) ∧ impl_GluingAll.I w' bo bg be h0 w0.heap.size g (rows ++ [x]) ∧ w1.heap.size ≤ w'.heap.size ∧ (∀ q, q < h0 → q ≠ bo → q ≠ be → w'.heap[q]? = w1.heap[q]?) ∧ Below w0.heap.size w0 w' := by
  obtain ⟨hoe, v, hv, HS⟩ := HI
  have HS0 := Aside0.mk (Kd.S_below (Kd.S_mono (ok' := fun k => (k = be ∨ h0 ≤ k) ∧ k < w1.heap.size) (Kd.S_bound HS) (fun k hk => ⟨hk.1, hk.2.2.1⟩)) hbx)
  have HR0 := Aside0.mk HR
  have HB0 := Aside0.mk (below_step HB hbx)
  have HN := Aside0.mk (show bo < h0 ∧ be < h0 ∧ h0 ≤ w1.heap.size ∧ w0.heap.size ≤ bo ∧ w0.heap.size ≤ h0 ∧ w0.heap.size ≤ be ∧ rows.length ≤ 1000000 ∧ be ≠ bo ∧ w1.heap.size ≤ w.heap.size from ⟨hbo, hbe, hh, hob, hb, heb, hrow, hoe, hbx.size⟩)
  have HX := Aside0.mk hbx
  have HV := Aside0.mk ((hbx.block bo (by omega)).trans hv)
  have hc : w.cell? ⟨bo, 0, none⟩ = some v := cell_of_row w bo 0 _ _ _ HV.out
  clear HS HR HB hbo hbe hh hob hb heb hrow hv hoe hbx hq
  go_enter Try.func59, Try.ntmps59
  go_wp2_with (first | ((with_reducible refine gate_builtin (b := .append) (xs := #[.tmp 3, .tmp 5]) rfl ?_); at_builtin; refine Kd.S_append (Kd.slice 3 (Kd.int .i64)) (w0 := w0) w0.heap.size rfl (.tmp 3) (.tmp 5) 22 32 (.slice none 0 0) 24 rfl Try.underlying22 info32 rfl (by decide) (by omega) v rows x [.slice A x.length c] (fun k => k = be ∨ h0 ≤ k) (fun k_ => some k_ = (.slice A x.length c : Value).ownBlock) rfl rfl ?aP ?aK ?aF ?aO ?aB ?aS ?aL ?_; (case aP => exact Kd.M_row (Kd.R_mono (Kd.R_tight rfl (Kd.R_lower HR0.out (by have := HN.out; omega))) (fun _ h_ => h_))); (case aK => exact fun k hk => ⟨.inr (by have h2 := Kd.R_base HR0.out k hk.symm; have := HN.out; omega), fun e => by have h1 := (HS0.out.choose_spec.1 k e.symm).2; have h2 := Kd.R_base HR0.out k hk.symm; omega⟩); (case aF => exact fun k hk => .inr (by have := HN.out; omega)); (case aO => exact Kd.S_mono HS0.out (fun k hk => ⟨hk.1, fun e => by have h1 := hk.2; have h2 := Kd.R_base HR0.out k e.symm; omega⟩)); (case aB => exact HB0.out); (case aS => have := HN.out; omega); (case aL => have := HN.out; omega); intro v1 wy ho hb hg hat; obtain ⟨A1, c1, rfl⟩ := Kd.S_slice ho; have hk1 := (hg.block bo (by have := HN.out; omega) (fun e => by have h1 := (HS0.out.choose_spec.1 bo e.symm).1; have := HN.out; omega)).trans HV.out; have hc1 : wy.cell? ⟨bo, 0, none⟩ = some v := cell_of_row wy bo 0 _ _ _ hk1; have hf1 : wy.frozen? ⟨bo, 0, none⟩ = false := frozen_of_row wy bo 0 _ _ hk1; have HK1 := Aside0.mk hk1; have HO1 := Aside0.mk ho; have HB1 := Aside0.mk hb; have HG1 := Aside0.mk hg; clear ho hb hg hat hk1))
  have HO2 := HO1.out
  rw [show (rows ++ [x]).length = rows.length + 1 by simp] at HO2
  go_end0
  refine ⟨rfl, ⟨HN.out.2.2.2.2.2.2.2.1, _, heap_setCell_same wy bo 0 _ _ _ HK1.out, Kd.S_far HO2 (fun k hk => ?_) _⟩, ?_, fun k hk hnp hne => ?_, below_set HB1.out HN.out.2.2.2.1⟩
  · show k ≠ bo
    have := HN.out; omega
  · have h1 : w.heap.size ≤ (wy.setCell ⟨bo, 0, none⟩ (.slice A1 (rows.length + 1) c1)).heap.size := Nat.le_trans HG1.out.size (by simp)
    exact Nat.le_trans HN.out.2.2.2.2.2.2.2.2 h1
  · rw [heap_setCell_other wy _ k _ hnp]
    exact (HG1.out.block k (by have := HN.out; omega) (fun e => by have h1 := (HS0.out.choose_spec.1 k e.symm).1; have := HN.out; omega)).trans (HX.out.block k (by have := HN.out; omega))

set_option maxHeartbeats 16000000 in
set_option maxRecDepth 100000 in
theorem impl_GluingAll.leafcase (bn bt bp bf gp n cp bo bg be h0 : Nat) (g : Int) (w0 : World) (hne : impl_GluingAll.Ne bn bt bp bf gp h0) (hbx : impl_GluingAll.Bx bo bg be h0 bn bt bp bf gp) (hb0 : w0.heap.size ≤ bo ∧ w0.heap.size ≤ gp ∧ w0.heap.size ≤ h0 ∧ w0.heap.size ≤ be) (hn : n ≤ 40)
    (p : List Int) (w : World) (rows : List (List Int)) (t : Int) (ht : slices_Index_int_int.f 60 p (-1) = some t) (c1 : t < 0) (hrow : rows.length + 1 ≤ 1000000) (hq : impl_GluingAll.Q p)
    (HFS : impl_GluingAll.FS w bn bt bp bf gp n cp w0.heap.size (impl_GluingAll.FV bo bg) p) (HI : impl_GluingAll.I w bo bg be h0 w0.heap.size g rows) (hh : h0 ≤ w.heap.size) (HB : Below w0.heap.size w0 w) :
    Calls Try.prog 92 #[.pointer (some ⟨bp, 0, none⟩), .pointer (some ⟨bt, 0, none⟩), .pointer (some ⟨bn, 0, none⟩), .pointer (some ⟨bf, 0, none⟩)] w fun e w' =>
      e = .returned (.tuple #[]) ∧ impl_GluingAll.FS w' bn bt bp bf gp n cp w0.heap.size (impl_GluingAll.FV bo bg) p ∧ impl_GluingAll.I w' bo bg be h0 w0.heap.size g (rows ++ [p]) ∧ impl_GluingAll.Fr w w' h0 bo be gp ∧ Below w0.heap.size w0 w' := by
  have HFS0 := Aside0.mk HFS
  have HI0 := Aside0.mk HI
  have HB0 := Aside0.mk HB
  have HH := Aside0.mk hh
  have HROW := Aside0.mk hrow
  have HQ := Aside0.mk hq
  have HNE := Aside0.mk hne
  have HBX := Aside0.mk hbx
  have HB00 := Aside0.mk hb0
  have hnc : n ≤ cp := (Kd.R_reads' HFS.hr).2.1
  have HLN := Aside0.mk (show p.length = n ∧ n ≤ 40 ∧ n ≤ cp from ⟨HFS.hl, hn, hnc⟩)
  have hcp : w.cell? ⟨bp, 0, none⟩ = some (.slice (some ⟨gp, 0, none⟩) n cp) := cell_of_row w bp 0 _ _ _ HFS.hp
  have HIX := Aside0.mk (show Calls Try.prog 93 #[.slice (some ⟨gp, 0, none⟩) n cp, .int .i64 (-1)] w fun e w' => e = .returned (.int .i64 t) ∧ Drawn0 w w' by
    have h1 := slices_Index_int_int.calls 60 (some ⟨gp, 0, none⟩) cp p (-1) t w (Kd.R_reads' HFS.hr).2.2 (by rw [HFS.hl]; exact hnc) ht
    rw [HFS.hl] at h1
    exact h1)
  have c1b : decide (t < 0) = true := decide_eq_true c1
  clear HFS HI HB hh hrow hq hne hbx hb0 hnc ht hn c1
  go_enter Try.func92, Try.ntmps92
  go_upto_region 1 with (go_at_call 93; refine HIX.out.mono ?_; rintro e w' ⟨rfl, ⟨nd, rfl⟩⟩)
  generalize hw9 : w.drewN nd = wc
  have hwc : Aside0 (∃ m, wc = w.drewN m) := ⟨⟨nd, hw9.symm⟩⟩
  clear hw9
  ·
    have HFS := Aside0.mk (show impl_GluingAll.FS wc bn bt bp bf gp n cp w0.heap.size (impl_GluingAll.FV bo bg) p by obtain ⟨m, rfl⟩ := hwc.out; exact HFS0.out.step rfl rfl rfl rfl rfl)
    have HI := Aside0.mk (show impl_GluingAll.I wc bo bg be h0 w0.heap.size g rows by obtain ⟨m, rfl⟩ := hwc.out; exact impl_GluingAll.I_step HI0.out (fun _ _ _ => rfl))
    have HB := Aside0.mk (show Below w0.heap.size w0 wc by obtain ⟨m, rfl⟩ := hwc.out; exact pw_below_drewN HB0.out m)
    have HFR := Aside0.mk (show impl_GluingAll.Fr w wc h0 bo be gp by obtain ⟨m, rfl⟩ := hwc.out; exact ⟨Nat.le_refl _, fun _ _ _ _ _ => rfl⟩)
    have HSZ := Aside0.mk (show h0 ≤ wc.heap.size by have := HFR.out.size; have := HH.out; omega)
    clear hwc HFS0 HI0 HB0 HIX hcp
    have hcp : wc.cell? ⟨bp, 0, none⟩ = some (.slice (some ⟨gp, 0, none⟩) n cp) := cell_of_row wc bp 0 _ _ _ HFS.out.hp
    have hct : wc.cell? ⟨bt, 0, none⟩ = some (.func (.func 59) #[] #[.pointer (some ⟨bo, 0, none⟩)] : Value) := cell_of_row wc bt 0 _ _ _ HFS.out.ht
    have HCC := Aside0.mk (And.intro hct hcp)
    have HCL := Aside0.mk (show Calls Try.prog 53 #[.slice (some ⟨gp, 0, none⟩) n cp] wc.drew fun e w' => ∃ v0_ : Value, e = .returned (v0_) ∧ Kd.R (Kd.int .i64) 3 w' wc.drew.heap.size (fun _ => True) v0_ p ∧ Below wc.drew.heap.size wc.drew w' by
      have h1 := slices_Clone_int_int.calls (some ⟨gp, 0, none⟩) cp p p wc.drew (Kd.C_drew (Kd.R_reads' HFS.out.hr).2.2) (by rw [HLN.out.1]; exact HLN.out.2.2) (by unfold slices_Clone_int_int.f; rw [if_pos (by have := HLN.out; omega)])
      rw [HLN.out.1] at h1
      exact h1)
    go_wp2_with fail
    go_region_held3 (fun w' => w'.cell? ⟨bt, 0, none⟩ = some (.func (.func 59) #[] #[.pointer (some ⟨bo, 0, none⟩)] : Value) ∧ w'.cell? ⟨bp, 0, none⟩ = some (.slice (some ⟨gp, 0, none⟩) n cp)) (first | exact ⟨HKZ.out.1, HKZ.out.2⟩ | exact ⟨HKX.out.1, HKX.out.2⟩ | exact ⟨hct, hcp⟩ | go_keep) (first | (go_at_call 53; refine HCL.out.mono ?_; rintro e wx ⟨vx, rfl, hox, hbx⟩; obtain ⟨Ax, cx, rfl⟩ := Kd.R_slice hox; have HBX1 := Aside0.mk (show Below wc.heap.size wc wx from (Below.refl _ _).drew.trans (hbx.mono (by simp))); have HOX := Aside0.mk (Kd.R_lower (base' := wc.heap.size) hox (by simp)); have HKX := Aside0.mk (And.intro ((HBX1.out.cell (p := ⟨bt, 0, none⟩) (Nat.lt_of_lt_of_le HNE.out.t.1 HSZ.out)).trans HCC.out.1) ((HBX1.out.cell (p := ⟨bp, 0, none⟩) (Nat.lt_of_lt_of_le HNE.out.p.1 HSZ.out)).trans HCC.out.2)); clear hox hbx) | (go_at_call 59; refine (impl_GluingAll.tell p Ax cx wc wx w0 bo bg be h0 g rows (by have := HROW.out; omega) HQ.out HI.out HBX1.out HOX.out HBX.out.o HBX.out.e HSZ.out HB00.out.1 HB00.out.2.2.1 HB00.out.2.2.2 HB.out).mono ?_; rintro e wz ⟨rfl, hiz, hsz, hkz, hbz⟩; have HIZ := Aside0.mk hiz; have HFZ := Aside0.mk (HFS.out.over HNE.out HBX.out hkz); have HRZ := Aside0.mk (show impl_GluingAll.Fr wc wz h0 bo be gp from ⟨hsz, fun k a b c _ => hkz k a b c⟩); have HBZ := Aside0.mk hbz; have HKZ := Aside0.mk (And.intro (cell_of_row wz bt 0 _ _ _ HFZ.out.ht) (cell_of_row wz bp 0 _ _ _ HFZ.out.hp)); clear hiz hsz hkz hbz))
    all_goals go_wp2
    all_goals (first | go_end0 | ((try simp only [Exit.inBlock, Exit.then]); refine bodyPost_ret (results_none rfl _ _ _) rfl ?_))
    all_goals exact ⟨rfl, HFZ.out, HIZ.out, HFR.out.trans HRZ.out, HBZ.out⟩

set_option maxHeartbeats 16000000 in
set_option maxRecDepth 100000 in
theorem impl_GluingAll.try_ (bn bt bp bf gp n cp bo bg be h0 : Nat) (g : Int) (w0 : World) (hne : impl_GluingAll.Ne bn bt bp bf gp h0) (hbx : impl_GluingAll.Bx bo bg be h0 bn bt bp bf gp) (hb0 : w0.heap.size ≤ bo ∧ w0.heap.size ≤ gp ∧ w0.heap.size ≤ h0 ∧ w0.heap.size ≤ be) (hn : n ≤ 40) :
    ∀ (f : Nat) (p : List Int) (out : List (List Int)) (w : World) (rows : List (List Int)), impl_GluingAll.gen f p = some out → rows.length + out.length ≤ 1000000 → (∀ x ∈ out, impl_GluingAll.Q x) →
    impl_GluingAll.FS w bn bt bp bf gp n cp w0.heap.size (impl_GluingAll.FV bo bg) p → impl_GluingAll.I w bo bg be h0 w0.heap.size g rows → h0 ≤ w.heap.size → Below w0.heap.size w0 w →
    Calls Try.prog 92 #[.pointer (some ⟨bp, 0, none⟩), .pointer (some ⟨bt, 0, none⟩), .pointer (some ⟨bn, 0, none⟩), .pointer (some ⟨bf, 0, none⟩)] w fun e w' =>
      e = .returned (.tuple #[]) ∧ impl_GluingAll.FS w' bn bt bp bf gp n cp w0.heap.size (impl_GluingAll.FV bo bg) p ∧ impl_GluingAll.I w' bo bg be h0 w0.heap.size g (rows ++ out) ∧ impl_GluingAll.Fr w w' h0 bo be gp ∧ Below w0.heap.size w0 w' := by
  intro f
  induction f with
  | zero => intro p out w rows h; simp [impl_GluingAll.gen] at h
  | succ f ih =>
    intro p out w rows h hrow hq HFS HI hh HB
    simp only [impl_GluingAll.gen] at h
    obtain ⟨t, ht, h⟩ := Option.bind_eq_some_iff.mp h
    by_cases c1 : t < 0
    · rw [if_pos c1] at h
      obtain rfl := Option.some.inj h
      exact impl_GluingAll.leafcase bn bt bp bf gp n cp bo bg be h0 g w0 hne hbx hb0 hn p w rows t ht c1 hrow (hq p (by simp)) HFS HI hh HB
    rw [if_neg c1] at h
    by_cases c2 : t < (p.length : Int)
    · rw [if_pos c2] at h
      have HIH := Aside0.mk ih
      have HFS0 := Aside0.mk HFS
      have HI0 := Aside0.mk HI
      have HB0 := Aside0.mk HB
      have HH := Aside0.mk hh
      have HROW := Aside0.mk hrow
      have HQ := Aside0.mk hq
      have HNE := Aside0.mk hne
      have HBX := Aside0.mk hbx
      have HB00 := Aside0.mk hb0
      have hnc : n ≤ cp := (Kd.R_reads' HFS.hr).2.1
      have HLN := Aside0.mk (show p.length = n ∧ n ≤ 40 ∧ n ≤ cp from ⟨HFS.hl, hn, hnc⟩)
      have hcp : w.cell? ⟨bp, 0, none⟩ = some (.slice (some ⟨gp, 0, none⟩) n cp) := cell_of_row w bp 0 _ _ _ HFS.hp
      have HIX := Aside0.mk (show Calls Try.prog 93 #[.slice (some ⟨gp, 0, none⟩) n cp, .int .i64 (-1)] w fun e w' => e = .returned (.int .i64 t) ∧ Drawn0 w w' by
        have h1 := slices_Index_int_int.calls 60 (some ⟨gp, 0, none⟩) cp p (-1) t w (Kd.R_reads' HFS.hr).2.2 (by rw [HFS.hl]; exact hnc) ht
        rw [HFS.hl] at h1
        exact h1)
      have c1b : decide (t < 0) = false := decide_eq_false c1
      have HT := Aside0.mk (show 0 ≤ t ∧ t < (n : Int) from ⟨by omega, by rw [← HFS.hl]; exact c2⟩)
      have HL := Aside0.mk (show impl_GluingAll.loop (impl_GluingAll.gen f) p t (n - (t.toNat + 1)) (t + 1) = some out by rw [HFS.hl] at h; exact h)
      have HW := Aside0.mk (show wrap64 (t + 1) = t + 1 by have := HT.out; have := HLN.out; unfold wrap64; omega)
      clear HFS HI HB hh hrow hq hne hbx hb0 hnc ht h hn c1 c2 ih
      go_enter Try.func92, Try.ntmps92
      go_upto_region 1 with (go_at_call 93; refine HIX.out.mono ?_; rintro e w' ⟨rfl, ⟨nd, rfl⟩⟩)
      generalize hw9 : w.drewN nd = wc
      have hwc : Aside0 (∃ m, wc = w.drewN m) := ⟨⟨nd, hw9.symm⟩⟩
      clear hw9
      ·
        have HFS := Aside0.mk (show impl_GluingAll.FS wc bn bt bp bf gp n cp w0.heap.size (impl_GluingAll.FV bo bg) p by obtain ⟨m, rfl⟩ := hwc.out; exact HFS0.out.step rfl rfl rfl rfl rfl)
        have HI := Aside0.mk (show impl_GluingAll.I wc bo bg be h0 w0.heap.size g rows by obtain ⟨m, rfl⟩ := hwc.out; exact impl_GluingAll.I_step HI0.out (fun _ _ _ => rfl))
        have HB := Aside0.mk (show Below w0.heap.size w0 wc by obtain ⟨m, rfl⟩ := hwc.out; exact pw_below_drewN HB0.out m)
        have HFR := Aside0.mk (show impl_GluingAll.Fr w wc h0 bo be gp by obtain ⟨m, rfl⟩ := hwc.out; exact ⟨Nat.le_refl _, fun _ _ _ _ _ => rfl⟩)
        clear hwc HFS0 HI0 HB0 HIX hcp
        go_wp2
        go_loopg [5] (n - (t.toNat + 1)) (fun d v5 wr => ∃ (k : Int) (rows1 : List (List Int)), v5 = .int .i64 k ∧ Aside0 (k + d = n ∧ t + 1 ≤ k) ∧ Aside0 (impl_GluingAll.FS wr bn bt bp bf gp n cp w0.heap.size (impl_GluingAll.FV bo bg) p) ∧ Aside0 (impl_GluingAll.I wr bo bg be h0 w0.heap.size g rows1) ∧ Aside0 (∃ rest, impl_GluingAll.loop (impl_GluingAll.gen f) p t d k = some rest ∧ rows1 ++ rest = rows ++ out ∧ ∀ z ∈ rest, impl_GluingAll.Q z) ∧ Aside0 (impl_GluingAll.Fr w wr h0 bo be gp) ∧ Aside0 (Below w0.heap.size w0 wr))
        case atStart => exact ⟨wrap64 (t + 1), rows, rfl, ⟨by rw [HW.out]; have := HT.out; omega, by rw [HW.out]; omega⟩, HFS, HI, ⟨⟨out, by rw [HW.out]; exact HL.out, rfl, HQ.out⟩⟩, HFR, HB⟩
        case round =>
          clear HFS HI HB HFR HL
          obtain ⟨k, rows1, rfl, HK, HFS, HI, HE, HFR, HB⟩ := hrel
          have hcn : wr.cell? ⟨bn, 0, none⟩ = some (.int .i64 (n : Int)) := cell_of_row wr bn 0 _ _ _ HFS.out.hn
          cases gk with
          | zero =>
            have hc : decide (k < (n : Int)) = false := decide_eq_false (by have := HK.out; omega)
            have HE2 := Aside0.mk (show rows1 = rows ++ out by obtain ⟨rest, h1, h2, _⟩ := HE.out; simp only [impl_GluingAll.loop] at h1; obtain rfl := Option.some.inj h1; rw [List.append_nil] at h2; exact h2)
            go_wp2
            go_end0
            exact ⟨rfl, HFS.out, by rw [← HE2.out]; exact HI.out, HFR.out, HB.out⟩
          | succ d =>
            have hc : decide (k < (n : Int)) = true := decide_eq_true (by have := HK.out; omega)
            have HWK := Aside0.mk (show wrap64 (k + 1) = k + 1 by have := HK.out; have := HLN.out; have := HT.out; unfold wrap64; omega)
            go_upto_block 1 with (fail)
            go_cut [] (fun wd => ∃ rows2 : List (List Int), Aside0 (impl_GluingAll.FS wd bn bt bp bf gp n cp w0.heap.size (impl_GluingAll.FV bo bg) p) ∧ Aside0 (impl_GluingAll.I wd bo bg be h0 w0.heap.size g rows2) ∧ Aside0 (∃ rest, impl_GluingAll.loop (impl_GluingAll.gen f) p t d (k + 1) = some rest ∧ rows2 ++ rest = rows ++ out ∧ ∀ z ∈ rest, impl_GluingAll.Q z) ∧ Aside0 (impl_GluingAll.Fr w wd h0 bo be gp) ∧ Aside0 (Below w0.heap.size w0 wd))
            case first =>
              have hcp : wr.cell? ⟨bp, 0, none⟩ = some (.slice (some ⟨gp, 0, none⟩) n cp) := cell_of_row wr bp 0 _ _ _ HFS.out.hp
              have i1 : (0 ≤ k) = True := eq_true (by have := HK.out; have := HT.out; omega)
              have i2 : (k < (n : Int)) = True := eq_true (by have := HK.out; omega)
              obtain ⟨hxk, hfk⟩ := Kd.R_celln 0 HFS.out.hr k (by have := HK.out; have := HT.out; omega) (by have := HK.out; omega)
              have HKN := Aside0.mk (show k.toNat < n ∧ t.toNat < k.toNat ∧ 0 ≤ t ∧ t < k ∧ k < (n : Int) by have := HK.out; have := HT.out; omega)
              have hx1 : wr.cell? ⟨gp, k.toNat, none⟩ = some (.int .i64 (rd p k)) := hxk
              clear hxk
              by_cases cn : rd p k < 0
              · have cnb : decide (rd p k < 0) = true := decide_eq_true cn
                have HE' := Aside0.mk (show (rd p k = -1 ∧ rd p t = -1) ∧ ∃ x y, impl_GluingAll.gen f ((p.set t.toNat k).set k.toNat t) = some x ∧ impl_GluingAll.loop (impl_GluingAll.gen f) p t d (k + 1) = some y ∧ rows1 ++ x ++ y = rows ++ out ∧ (∀ z ∈ x, impl_GluingAll.Q z) ∧ ∀ z ∈ y, impl_GluingAll.Q z by
                  obtain ⟨rest, h1, h2, h3⟩ := HE.out
                  simp only [impl_GluingAll.loop] at h1
                  rw [if_pos cn] at h1
                  by_cases ce : rd p k = -1 ∧ rd p t = -1
                  · rw [if_pos ce] at h1
                    obtain ⟨x, hx, h1⟩ := Option.bind_eq_some_iff.mp h1
                    obtain ⟨y, hy, h1⟩ := Option.bind_eq_some_iff.mp h1
                    obtain rfl := Option.some.inj h1
                    exact ⟨ce, x, y, hx, hy, by rw [← h2, List.append_assoc], fun z hz => h3 z (by simp [hz]), fun z hz => h3 z (by simp [hz])⟩
                  · rw [if_neg ce] at h1; cases h1)
                clear HE cn
                obtain ⟨x, y, hx, hy, hxy⟩ := HE'.out.2
                have HX := Aside0.mk (And.intro hx (And.intro hy hxy))
                clear hx hy hxy
                obtain ⟨p1, hp1⟩ : ∃ p1, p1 = (p.set t.toNat k).set k.toNat t := ⟨_, rfl⟩
                have HP1 := Aside0.mk hp1
                clear hp1
                go_upto_region 7 with (fail)
                go_cut [] (fun we => Aside0 (impl_GluingAll.FS we bn bt bp bf gp n cp w0.heap.size (impl_GluingAll.FV bo bg) p1) ∧ Aside0 (impl_GluingAll.I we bo bg be h0 w0.heap.size g rows1) ∧ Aside0 (impl_GluingAll.Fr w we h0 bo be gp) ∧ Aside0 (Below w0.heap.size w0 we))
                case first =>
                  have j1 : (0 ≤ t) = True := eq_true (by have := HKN.out; omega)
                  have j2 : (t < (n : Int)) = True := eq_true (by have := HKN.out; omega)
                  obtain ⟨hx2, hf2⟩ := Kd.R_celln 0 HFS.out.hr t (by have := HKN.out; omega) (by have := HKN.out; omega)
                  have hne1 : gp ≠ bp := fun e => HNE.out.p.2 e.symm
                  have hne2 : bp ≠ gp := HNE.out.p.2
                  have hne3 : t.toNat ≠ k.toNat := by have := HKN.out; omega
                  have hne4 : k.toNat ≠ t.toNat := by have := HKN.out; omega
                  go_region
                  all_goals go_wp2
                  all_goals go_meet
                  all_goals (
                    have h1 := (HFS.out.put HNE.out t k).put HNE.out k t
                    rw [← HP1.out] at h1
                    refine ⟨⟨impl_GluingAll.FS.step h1 rfl rfl rfl rfl rfl⟩, ⟨impl_GluingAll.I_step HI.out (fun q hq _ => ?_)⟩, ⟨HFR.out.trans ⟨?_, fun q a b c e => ?_⟩⟩, ⟨below_drew1 (below_set (below_set HB.out HB00.out.2.1) HB00.out.2.1)⟩⟩
                    · have hqg := impl_GluingAll.own_ne HBX.out HNE.out hq
                      exact (heap_setCell_other _ _ q _ hqg).trans (heap_setCell_other _ _ q _ hqg)
                    · show wr.heap.size ≤ ((wr.setCell _ _).setCell _ _).heap.size
                      simp
                    · exact (heap_setCell_other _ _ q _ e).trans (heap_setCell_other _ _ q _ e))
                case rest =>
                  obtain ⟨HFS1, HI1, HFR1, HB1⟩ := hcut
                  clear HFS HI HFR HB hcp hcn hx1 hfk
                  have hcf : wc.cell? ⟨bf, 0, none⟩ = some (.func (.func 92) #[] #[.pointer (some ⟨bp, 0, none⟩), .pointer (some ⟨bt, 0, none⟩), .pointer (some ⟨bn, 0, none⟩), .pointer (some ⟨bf, 0, none⟩)]) := cell_of_row wc bf 0 _ _ _ HFS1.out.hf
                  go_upto_region 9 with (go_at_call 92; go_loud (refine (HIH.out p1 x wc rows1 (by rw [HP1.out]; exact HX.out.1) (by have h1 := congrArg List.length HX.out.2.2.1; simp only [List.length_append] at h1; have := HROW.out; omega) HX.out.2.2.2.1 HFS1.out HI1.out (by have := HFR1.out.size; have := HH.out; omega) HB1.out).mono ?_; rintro e wf ⟨rfl, hfs, hi, hfr, hb⟩; have HFS2 := Aside0.mk hfs; have HI2 := Aside0.mk hi; have HFR2 := Aside0.mk hfr; have HB2 := Aside0.mk hb; clear hfs hi hfr hb))
                  clear hcf
                  have hcp : wf.cell? ⟨bp, 0, none⟩ = some (.slice (some ⟨gp, 0, none⟩) n cp) := cell_of_row wf bp 0 _ _ _ HFS2.out.hp
                  have j1 : (0 ≤ t) = True := eq_true (by have := HKN.out; omega)
                  have j2 : (t < (n : Int)) = True := eq_true (by have := HKN.out; omega)
                  obtain ⟨hx2, hf2⟩ := Kd.R_celln 0 HFS2.out.hr t (by have := HKN.out; omega) (by have := HKN.out; omega)
                  obtain ⟨hx1, hfk⟩ := Kd.R_celln 0 HFS2.out.hr k (by have := HKN.out; omega) (by have := HKN.out; omega)
                  have hne1 : gp ≠ bp := fun e => HNE.out.p.2 e.symm
                  have hne2 : bp ≠ gp := HNE.out.p.2
                  have hne3 : t.toNat ≠ k.toNat := by have := HKN.out; omega
                  have hne4 : k.toNat ≠ t.toNat := by have := HKN.out; omega
                  go_region
                  all_goals go_wp2
                  all_goals go_meet
                  all_goals (
                    have h1 := (HFS2.out.put HNE.out t (-1)).put HNE.out k (-1)
                    rw [HP1.out, impl_GluingAll.put_back p t k HKN.out.2.2.1 HKN.out.2.2.2.1 (by rw [HLN.out.1]; exact HKN.out.2.2.2.2) HE'.out.1.1 HE'.out.1.2] at h1
                    refine ⟨rows1 ++ x, ⟨impl_GluingAll.FS.step h1 rfl rfl rfl rfl rfl⟩, ⟨impl_GluingAll.I_step HI2.out (fun q hq _ => ?_)⟩, ⟨⟨y, HX.out.2.1, HX.out.2.2.1, HX.out.2.2.2.2⟩⟩, ⟨(HFR1.out.trans HFR2.out).trans ⟨?_, fun q a b c e => ?_⟩⟩, ⟨below_drew1 (below_set (below_set HB2.out HB00.out.2.1) HB00.out.2.1)⟩⟩
                    · have hqg := impl_GluingAll.own_ne HBX.out HNE.out hq
                      exact (heap_setCell_other _ _ q _ hqg).trans (heap_setCell_other _ _ q _ hqg)
                    · show wf.heap.size ≤ ((wf.setCell _ _).setCell _ _).heap.size
                      simp
                    · exact (heap_setCell_other _ _ q _ e).trans (heap_setCell_other _ _ q _ e))
              · have cnb : decide (rd p k < 0) = false := decide_eq_false cn
                have HE' := Aside0.mk (show ∃ rest, impl_GluingAll.loop (impl_GluingAll.gen f) p t d (k + 1) = some rest ∧ rows1 ++ rest = rows ++ out ∧ ∀ z ∈ rest, impl_GluingAll.Q z by
                  obtain ⟨rest, h1, h2⟩ := HE.out
                  simp only [impl_GluingAll.loop] at h1
                  rw [if_neg cn] at h1
                  exact ⟨rest, h1, h2⟩)
                clear HE cn
                go_wp2
                go_meet
                exact ⟨rows1, HFS, HI, HE', HFR, HB⟩
            case rest =>
              obtain ⟨rows2, HFS2, HI2, HE2, HFR2, HB2⟩ := hcut
              go_wp2
              go_roundg d
              case measure => omega
              case rel => exact ⟨wrap64 (k + 1), rows2, rfl, ⟨by rw [HWK.out]; have := HK.out; omega, by rw [HWK.out]; have := HK.out; omega⟩, HFS2, HI2, ⟨by rw [HWK.out]; exact HE2.out⟩, HFR2, HB2⟩
    · rw [if_neg c2] at h; cases h

theorem impl_GluingAll.two (w : World) (A B : Obj) : ((w.alloc A).alloc B).heap[w.heap.size]? = some A ∧ ((w.alloc A).alloc B).heap[w.heap.size + 1]? = some B ∧ ((w.alloc A).alloc B).heap.size = w.heap.size + 2 := by
  show ((w.heap.push A).push B)[w.heap.size]? = some A ∧ ((w.heap.push A).push B)[w.heap.size + 1]? = some B ∧ ((w.heap.push A).push B).size = w.heap.size + 2
  have e1 : (w.heap.push A).size = w.heap.size + 1 := Array.size_push _
  refine ⟨?_, ?_, ?_⟩
  · rw [Array.getElem?_push, if_neg (by omega), Array.getElem?_push, if_pos rfl]
  · rw [Array.getElem?_push, if_pos (by omega)]
  · rw [Array.size_push, e1]
theorem impl_GluingAll.fill_step (n : Nat) (i : Int) (h0 : 0 ≤ i) (h : i < (n : Int)) : (List.replicate i.toNat (-1 : Int) ++ List.replicate (n - i.toNat) 0).set i.toNat (-1) = List.replicate (i + 1).toNat (-1) ++ List.replicate (n - (i + 1).toNat) 0 := by
  obtain ⟨j, rfl⟩ := Int.eq_ofNat_of_zero_le h0
  have e1 : ((j : Int)).toNat = j := Int.toNat_natCast j
  have e2 : ((j : Int) + 1).toNat = j + 1 := by omega
  rw [e1, e2]
  obtain ⟨m, hm⟩ : ∃ m, n - j = m + 1 := ⟨n - j - 1, by omega⟩
  rw [hm, show n - (j + 1) = m by omega, List.set_append_right _ _ (by simp), List.length_replicate, Nat.sub_self]
  rw [List.replicate_succ, List.set_cons_zero, List.replicate_succ' (n := j), List.append_assoc]
  rfl
set_option maxHeartbeats 16000000 in
set_option maxRecDepth 100000 in
theorem impl_GluingAll.flips (nI : Nat) (out : List (List Int)) (w w0 : World) (bo bg be : Nat) (g : Int) (hn : 1 ≤ nI ∧ nI ≤ 20) (hgen : impl_GluingAll.gen 12 (List.replicate nI (-1)) = some out) (hout : out.length ≤ 1000000) (hq : ∀ x ∈ out, impl_GluingAll.Q x)
    (HI : ∀ h0, w.heap.size ≤ h0 → impl_GluingAll.I w bo bg be h0 w0.heap.size g []) (hbo : bo < w.heap.size ∧ bg < w.heap.size ∧ be < w.heap.size) (hb : w0.heap.size ≤ bo ∧ w0.heap.size ≤ be) (HB : Below w0.heap.size w0 w) :
    Calls Try.prog 58 #[.int .i64 (nI : Int), impl_GluingAll.FV bo bg] w fun e w' => e = .returned (.tuple #[]) ∧ ∃ h0, w.heap.size ≤ h0 ∧ impl_GluingAll.I w' bo bg be h0 w0.heap.size g out ∧ (∀ k, k < w.heap.size → k ≠ bo → k ≠ be → w'.heap[k]? = w.heap[k]?) ∧ w.heap.size ≤ w'.heap.size ∧ Below w0.heap.size w0 w' := by
  have HN := Aside0.mk hn
  have HG := Aside0.mk (And.intro hgen (And.intro hout hq))
  have HI0 := Aside0.mk HI
  have HBO := Aside0.mk (And.intro hbo hb)
  have HB0 := Aside0.mk HB
  clear hn hgen hout hq HI hbo hb HB
  unfold impl_GluingAll.FV
  go_enter Try.func58, Try.ntmps58
  go_upto_region 2 with ((with_reducible refine gate_dst (N := 8) rfl ?_); refine Kd.R_make (Kd.int .i64) _ 3 rfl (N := 8) rfl 32 _ _ rfl (nI : Int) rfl rfl Try.underlying32 (.int .i64 0) 8 info3 rfl (by decide) (by omega) 0 (ok := fun _ => True) (okp := fun _ => True) rfl (fun _ hk => hk) trivial (by omega) (by have := HN.out; omega) (Below.refl _ _) (Nat.le_refl _) ?_; intro v185 w4 ho5 hb hg_ hnew_; clear hg_ hnew_; rw [Int.toNat_natCast] at ho5; obtain ⟨gp, cp, ev, hgb, hgl, cl_, hG_⟩ := Kd.R_form ho5 (by have := HN.out; simp; omega); rw [List.length_replicate] at ev; subst ev; clear hG_ cl_; have HGB := Aside0.mk (And.intro hgb hgl); have HO5 := Aside0.mk ho5; have HB4 := Aside0.mk hb; clear hgb hgl ho5 hb)
  have hsz2 := (impl_GluingAll.two w (.cells #[.int .i64 (nI : Int)] 3 (0, 0)) (.cells #[(.func (.func 59) #[] #[.pointer (some ⟨bo, 0, none⟩)] : Value)] 60 (0, 0))).2.2
  have HS4 := Aside0.mk (show w.heap.size + 2 ≤ gp ∧ gp < w4.heap.size by have h1 := HGB.out; rw [hsz2] at h1; exact h1)
  have HN4 := Aside0.mk (show w4.heap[w.heap.size]? = some (.cells #[.int .i64 (nI : Int)] 3 (0, 0)) from (HB4.out.block _ (by rw [hsz2]; omega)).trans (impl_GluingAll.two w _ _).1)
  have HT4 := Aside0.mk (show w4.heap[w.heap.size + 1]? = some (.cells #[(.func (.func 59) #[] #[.pointer (some ⟨bo, 0, none⟩)] : Value)] 60 (0, 0)) from (HB4.out.block _ (by rw [hsz2]; omega)).trans (impl_GluingAll.two w _ _).2.1)
  have HBW := Aside0.mk (show Below w.heap.size w w4 from below_step (below_alloc (below_alloc (Below.refl _ _) _) _) HB4.out)
  have HR4 := Aside0.mk (show Kd.R (Kd.int .i64) 3 w4 w0.heap.size (fun k => k = gp) (.slice (some ⟨gp, 0, none⟩) nI cp) (List.replicate nI 0) from Kd.R_mono (Kd.R_tight rfl (Kd.R_lower HO5.out (by rw [hsz2]; have := HB0.out.size; omega))) (fun k hk => by simpa [Value.ownBlock] using hk))
  clear HO5 HB4 HGB hsz2
  generalize hw5 : World.alloc w4 _ = w5
  have HN5 := Aside0.mk (show w5.heap[w.heap.size]? = some (.cells #[.int .i64 (nI : Int)] 3 (0, 0)) by rw [← hw5]; exact ((below_alloc (Below.refl _ _) _).block _ (by have := HS4.out; omega)).trans HN4.out)
  have HT5 := Aside0.mk (show w5.heap[w.heap.size + 1]? = some (.cells #[(.func (.func 59) #[] #[.pointer (some ⟨bo, 0, none⟩)] : Value)] 60 (0, 0)) by rw [← hw5]; exact ((below_alloc (Below.refl _ _) _).block _ (by have := HS4.out; omega)).trans HT4.out)
  have HP5 := Aside0.mk (show w5.heap[w4.heap.size]? = some (.cells #[.slice (some ⟨gp, 0, none⟩) nI cp] 32 (0, 0)) by rw [← hw5]; exact blk_new w4 _)
  have HR5 := Aside0.mk (show Kd.R (Kd.int .i64) 3 w5 w0.heap.size (fun k => k = gp) (.slice (some ⟨gp, 0, none⟩) nI cp) (List.replicate nI 0) by rw [← hw5]; exact Kd.R_alloc HR4.out _)
  have HBW5 := Aside0.mk (show Below w.heap.size w w5 by rw [← hw5]; exact below_alloc HBW.out _)
  have HS5 := Aside0.mk (show w5.heap.size = w4.heap.size + 1 by rw [← hw5]; exact Array.size_push _)
  clear hw5 HN4 HT4 HR4 HBW
  have hcp5 : w5.cell? ⟨w4.heap.size, 0, none⟩ = some (.slice (some ⟨gp, 0, none⟩) nI cp) := cell_of_row w5 _ 0 _ _ _ HP5.out
  go_wp2
  go_loopg [11] nI (fun d v11 wr => ∃ i : Int, v11 = .int .i64 i ∧ Aside0 (0 ≤ i ∧ i + d = nI) ∧ Aside0 (wr.heap[w.heap.size]? = some (.cells #[.int .i64 (nI : Int)] 3 (0, 0)) ∧ wr.heap[w.heap.size + 1]? = some (.cells #[(.func (.func 59) #[] #[.pointer (some ⟨bo, 0, none⟩)] : Value)] 60 (0, 0)) ∧ wr.heap[w4.heap.size]? = some (.cells #[.slice (some ⟨gp, 0, none⟩) nI cp] 32 (0, 0)) ∧ wr.heap.size = w4.heap.size + 1) ∧ Aside0 (Kd.R (Kd.int .i64) 3 wr w0.heap.size (fun k => k = gp) (.slice (some ⟨gp, 0, none⟩) nI cp) (List.replicate i.toNat (-1) ++ List.replicate (nI - i.toNat) 0)) ∧ Aside0 (Below w.heap.size w wr))
  case atStart => exact ⟨0, rfl, ⟨by omega, by omega⟩, ⟨HN5.out, HT5.out, HP5.out, HS5.out⟩, HR5, HBW5⟩
  case round =>
    clear HN5 HT5 HP5 HR5 HBW5 HS5 hcp5
    obtain ⟨i, rfl, HI1, HF, HR, HBW⟩ := hrel
    cases gk with
    | zero =>
      have hc : decide (i < (nI : Int)) = false := decide_eq_false (by have := HI1.out; omega)
      have HR1 := Aside0.mk (show Kd.R (Kd.int .i64) 3 wr w0.heap.size (fun k => k = gp) (.slice (some ⟨gp, 0, none⟩) nI cp) (List.replicate nI (-1)) by
        have h1 := HR.out
        rw [show i.toNat = nI by have := HI1.out; omega, Nat.sub_self, List.replicate_zero, List.append_nil] at h1
        exact h1)
      clear HR
      have HX := Aside0.mk (show impl_GluingAll.Ne w.heap.size (w.heap.size + 1) w4.heap.size wr.heap.size gp (wr.heap.size + 1) from by have h1 := HS4.out; have h2 := HF.out.2.2.2; exact ⟨⟨by omega, by omega⟩, ⟨by omega, by omega⟩, ⟨by omega, by omega⟩, ⟨by omega, by omega⟩, by omega⟩)
      have HY := Aside0.mk (show impl_GluingAll.Bx bo bg be (wr.heap.size + 1) w.heap.size (w.heap.size + 1) w4.heap.size wr.heap.size gp from by have h1 := HS4.out; have h2 := HF.out.2.2.2; have h3 := HBO.out; exact ⟨by omega, by omega, ⟨by omega, by omega, by omega⟩, ⟨by omega, by omega⟩, ⟨by omega, by omega⟩, ⟨by omega, by omega⟩, ⟨by omega, by omega⟩⟩)
      have HSW := Aside0.mk (show w0.heap.size ≤ w.heap.size from HB0.out.size)
      have HTRY := Aside0.mk (show ∀ wf, wf = wr.alloc (.cells #[impl_GluingAll.TV w.heap.size (w.heap.size + 1) w4.heap.size wr.heap.size] 1 (0, 0)) → Calls Try.prog 92 #[.pointer (some ⟨w4.heap.size, 0, none⟩), .pointer (some ⟨w.heap.size + 1, 0, none⟩), .pointer (some ⟨w.heap.size, 0, none⟩), .pointer (some ⟨wr.heap.size, 0, none⟩)] wf fun e w' => e = .returned (.tuple #[]) ∧ impl_GluingAll.I w' bo bg be (wr.heap.size + 1) w0.heap.size g out ∧ (∀ k, k < w.heap.size → k ≠ bo → k ≠ be → w'.heap[k]? = w.heap[k]?) ∧ w.heap.size ≤ w'.heap.size ∧ Below w0.heap.size w0 w' by
        intro wf hwf
        have hold : ∀ k, k < wr.heap.size → wf.heap[k]? = wr.heap[k]? := fun k hk => by rw [hwf]; exact (below_alloc (Below.refl _ _) _).block k hk
        have h1 := HS4.out
        have h2 := HF.out.2.2.2
        have hsf : wf.heap.size = wr.heap.size + 1 := by rw [hwf]; exact Array.size_push _
        have hfs : impl_GluingAll.FS wf w.heap.size (w.heap.size + 1) w4.heap.size wr.heap.size gp nI cp w0.heap.size (impl_GluingAll.FV bo bg) (List.replicate nI (-1)) :=
          ⟨(hold _ (by omega)).trans HF.out.1, (hold _ (by omega)).trans HF.out.2.1, (hold _ (by omega)).trans HF.out.2.2.1, by rw [hwf]; exact blk_new wr _, Kd.R_step HR1.out (fun k hk _ => by rw [hk]; exact hold gp (by omega)), List.length_replicate⟩
        have hi : impl_GluingAll.I wf bo bg be (wr.heap.size + 1) w0.heap.size g [] := impl_GluingAll.I_step (HI0.out (wr.heap.size + 1) (by omega)) (fun k _ hk => (hold k (by omega)).trans (HBW.out.block k hk))
        have hbf : Below w0.heap.size w0 wf := by
          have h3 := below_step HB0.out HBW.out
          rw [hwf]; exact below_alloc h3 _
        refine (impl_GluingAll.try_ w.heap.size (w.heap.size + 1) w4.heap.size wr.heap.size gp nI cp bo bg be (wr.heap.size + 1) g w0 HX.out HY.out (by have := HBO.out; have := HSW.out; omega) (by have := HN.out; omega) 12 (List.replicate nI (-1)) out wf [] HG.out.1 (by simpa using HG.out.2.1) HG.out.2.2 hfs hi (by omega) hbf).mono ?_
        rintro e w' ⟨he, _, hi', hfr, hb'⟩
        refine ⟨he, by simpa using hi', fun k hk a b => ?_, ?_, hb'⟩
        · exact ((hfr.keep k (by omega) a b (by omega)).trans (hold k (by omega))).trans (HBW.out.block k hk)
        · have := hfr.size; omega)
      unfold impl_GluingAll.TV at HTRY
      clear HF
      go_wp2_with (go_at_call 92; refine (HTRY.out _ rfl).mono ?_; rintro e w' ⟨rfl, hi', hk', hs', hb'⟩; have HI9 := Aside0.mk hi'; have HK9 := Aside0.mk (And.intro hk' (And.intro hs' hb')); clear hi' hk' hs' hb')
      go_end0
      exact ⟨rfl, _, by have := HBW.out.size; omega, HI9.out, HK9.out.1, HK9.out.2.1, HK9.out.2.2⟩
    | succ d =>
      have hc : decide (i < (nI : Int)) = true := decide_eq_true (by have := HI1.out; omega)
      have HW := Aside0.mk (show wrap64 (i + 1) = i + 1 by have := HI1.out; have := HN.out; unfold wrap64; omega)
      have i1 : (0 ≤ i) = True := eq_true HI1.out.1
      have i2 : (i < (nI : Int)) = True := eq_true (by have := HI1.out; omega)
      have hcp : wr.cell? ⟨w4.heap.size, 0, none⟩ = some (.slice (some ⟨gp, 0, none⟩) nI cp) := cell_of_row wr _ 0 _ _ _ HF.out.2.2.1
      obtain ⟨hx, hf⟩ := Kd.R_celln 0 HR.out i HI1.out.1 (by have := HI1.out; omega)
      go_wp2
      go_roundg d
      case measure => omega
      case rel =>
        have h1 := HS4.out
        refine ⟨wrap64 (i + 1), rfl, ⟨by rw [HW.out]; have := HI1.out; omega, by rw [HW.out]; have := HI1.out; omega⟩, ⟨?_, ?_, ?_, ?_⟩, ⟨?_⟩, ⟨?_⟩⟩
        · exact (heap_setCell_other wr _ _ _ (by show w.heap.size ≠ gp; omega)).trans HF.out.1
        · exact (heap_setCell_other wr _ _ _ (by show w.heap.size + 1 ≠ gp; omega)).trans HF.out.2.1
        · exact (heap_setCell_other wr _ _ _ (by show w4.heap.size ≠ gp; omega)).trans HF.out.2.2.1
        · rw [← HF.out.2.2.2]; simp
        · rw [HW.out, ← impl_GluingAll.fill_step nI i HI1.out.1 (by have := HI1.out; omega)]
          exact Kd.R_putn HR.out i (-1)
        · exact below_set HBW.out (by omega)

theorem impl_GluingAll.empty (W : World) (base gq : Nat) (P : Nat → Prop) (h : W.heap[gq]? = some (.cells #[] 32 (0, 0))) (hb : base ≤ gq) (hp : P gq) : Kd.S (Kd.slice 3 (Kd.int .i64)) 32 W base P (.slice (some ⟨gq, 0, none⟩) 0 0) [] :=
  ⟨fun _ => 0, fun k hk => by (have e : gq = k := by simpa [Value.ownBlock] using hk); exact e ▸ hp, [], ⟨by simp, .inr ⟨gq, 0, #[], rfl, hb, h, Nat.le_refl _, Nat.zero_le _, by simp, by simp⟩⟩, Reps.none _ _⟩
def impl_GluingAll.f (a0 : Int) : Option (List (List Int) × Bool) := if a0 < 1 then some ([], false) else if 3 < a0 then some ([], false) else (impl_GluingAll.gen 12 (List.replicate (2 * a0).toNat (-1))).bind fun L => if L.length ≤ 1000000 then some (L, true) else none
set_option maxHeartbeats 8000000 in
set_option maxRecDepth 100000 in
theorem impl_GluingAll.calls (a0 : Int) (r1 : List (List Int)) (r2 : Bool) (w : World) (h : impl_GluingAll.f a0 = some (r1, r2)) :
    Calls Try.prog 21 #[.int .i64 a0] w fun e w' => ∃ v0_ : Value, e = .returned (.tuple #[v0_, .bool r2]) ∧ Kd.S (Kd.slice 3 (Kd.int .i64)) 32 w' w.heap.size (fun _ => True) v0_ r1 ∧ Below w.heap.size w w' := by
  have HB := Aside0.mk (Below.refl w.heap.size w)
  unfold impl_GluingAll.f at h
  by_cases c1 : a0 < 1
  · rw [if_pos c1] at h
    obtain ⟨rfl, rfl⟩ := Prod.mk.inj (Option.some.inj h)
    have c1b : decide (a0 < 1) = true := decide_eq_true c1
    clear h c1
    go_enter Try.func21, Try.ntmps21
    go_wp2
    go_ret2
    exact ⟨_, rfl, Kd.S_nil _ _ _ _ _, HB.out⟩
  · rw [if_neg c1] at h
    have c1b : decide (a0 < 1) = false := decide_eq_false c1
    by_cases c2 : 3 < a0
    · rw [if_pos c2] at h
      obtain ⟨rfl, rfl⟩ := Prod.mk.inj (Option.some.inj h)
      have c2b : decide (3 < a0) = true := decide_eq_true c2
      clear h c1 c2
      go_enter Try.func21, Try.ntmps21
      go_wp2
      go_ret2
      exact ⟨_, rfl, Kd.S_nil _ _ _ _ _, HB.out⟩
    · rw [if_neg c2] at h
      have c2b : decide (3 < a0) = false := decide_eq_false c2
      obtain ⟨L, hL, h⟩ := Option.bind_eq_some_iff.mp h
      by_cases c3 : L.length ≤ 1000000
      · rw [if_pos c3] at h
        obtain ⟨rfl, rfl⟩ := Prod.mk.inj (Option.some.inj h)
        have HA := Aside0.mk (show 1 ≤ a0 ∧ a0 ≤ 3 by omega)
        have HL := Aside0.mk (And.intro hL c3)
        have HW := Aside0.mk (show wrap64 (2 * a0) = (((2 * a0).toNat : Nat) : Int) by have := HA.out; unfold wrap64; omega)
        clear h c1 c2 hL c3
        go_enter Try.func21, Try.ntmps21
        go_wp2_with (go_at_call 58; rw [HW.out]; refine (impl_GluingAll.flips (2 * a0).toNat L _ w (w.heap.size + 1) (w.heap.size + 1) w.heap.size 0 (by have := HA.out; omega) HL.out.1 HL.out.2 (fun _ _ => trivial) (fun h0 _ => ⟨by omega, _, (impl_GluingAll.two w _ _).2.1, impl_GluingAll.empty _ _ w.heap.size _ (impl_GluingAll.two w _ _).1 (Nat.le_refl _) (.inl rfl)⟩) (by rw [(impl_GluingAll.two w _ _).2.2]; omega) (by omega) (below_alloc (below_alloc HB.out _) _)).mono ?_; rintro e w1 ⟨rfl, h0, hh0, ⟨hne, v1, hv1, hs1⟩, hk, hsz, hb1⟩; have hc1 : w1.cell? ⟨w.heap.size + 1, 0, none⟩ = some v1 := cell_of_row w1 _ 0 _ _ _ hv1; have HS1 := Aside0.mk hs1; have HB1 := Aside0.mk hb1; clear hs1 hb1 hk hsz hv1)
        go_ret2
        exact ⟨_, rfl, Kd.S_mono HS1.out (fun _ _ => trivial), HB1.out⟩
      · rw [if_neg c3] at h; cases h

end Go.Proofs.Ytkfeildndcdbaaa.Q
