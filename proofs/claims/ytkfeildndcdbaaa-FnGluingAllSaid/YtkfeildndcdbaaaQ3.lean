import Derived.Test.YtkfeildndcdbaaaQ0
import Derived.Test.YtkfeildndcdbaaaQ2
import Derived.Deep.WholeRow
import Derived.Laws.CopyOwn
namespace Go.Proofs.Ytkfeildndcdbaaa.Q
open Go.RowKit Go.Proofs.YtkfeildndcdbaaaW.PrintWords Go.Proofs.YtkfeildndcdbaaaW.PrintLast Go.Proofs.YtkfeildndcdbaaaW.PrintMore
attribute [local go_sem] max2_int min2_int max_two min_two max_three min_three max_four min_four   -- for this text's walks alone
set_option linter.unusedVariables false
set_option linter.unusedSimpArgs false

/-! ### laws_sameLists: function 25 -/
def laws_sameLists.l0 : Nat → List (List Int) → List (List Int) → Int → Option (Bool)
  | 0, _, _, _ => none
  | k + 1, x0, x1, x5 => if x5 < (x0.length : Int) then (if 0 ≤ x5 then (if x5 < (x1.length : Int) then ((laws_sameInts.f k (rd_L1 x0 x5) (rd_L1 x1 x5)).bind fun t160 => (if t160 = true then (laws_sameLists.l0 k x0 x1 (wrap64 (x5 + 1))) else (some false))) else (none)) else (none)) else (some true)
def laws_sameLists.f (k : Nat) (l0 : List (List Int)) (l1 : List (List Int)) : Option (Bool) := if (l0.length : Int) = (l1.length : Int) then (laws_sameLists.l0 k l0 l1 0) else (some false)
theorem laws_sameLists.mono_l : ∀ k, (∀ y0 y1 y2, LeO (laws_sameLists.l0 k y0 y1 y2) (laws_sameLists.l0 (k + 1) y0 y1 y2))
  | 0 => fun _ _ _ r h => by simp [laws_sameLists.l0] at h
  | k + 1 => by
    have ih0 := laws_sameLists.mono_l k
    · intro y0 y1 y2
      unfold laws_sameLists.l0
      repeat' first
      | (with_reducible exact ih0 _ _ _)
      | (with_reducible exact laws_sameInts.mono _ _ _)
      | (with_reducible exact LeO.refl _)
      | (with_reducible exact LeO.none _)
      | (with_reducible refine LeO.ite ?_ ?_)
      | (with_reducible refine LeO.bind ?_ (fun _ => ?_))
      | exact ih0 _ _ _
      | exact laws_sameInts.mono _ _ _
      | exact LeO.none _
      | refine LeO.ite ?_ ?_
      | refine LeO.bind ?_ (fun _ => ?_)
theorem laws_sameLists.mono : ∀ a0 a1 k, LeO (laws_sameLists.f k a0 a1) (laws_sameLists.f (k + 1) a0 a1) := by
  intro a0 a1 k
  have ih0 := laws_sameLists.mono_l k
  unfold laws_sameLists.f
  repeat' first
      | (with_reducible exact ih0 _ _ _)
      | (with_reducible exact laws_sameInts.mono _ _ _)
      | (with_reducible exact LeO.refl _)
      | (with_reducible exact LeO.none _)
      | (with_reducible refine LeO.ite ?_ ?_)
      | (with_reducible refine LeO.bind ?_ (fun _ => ?_))
      | exact ih0 _ _ _
      | exact laws_sameInts.mono _ _ _
      | exact LeO.none _
      | refine LeO.ite ?_ ?_
      | refine LeO.bind ?_ (fun _ => ?_)
set_option maxHeartbeats 8000000 in
set_option maxRecDepth 100000 in
theorem laws_sameLists.calls (k : Nat) (A0 : Option Addr) (c0 : Nat) (l0 : List (List Int)) (A1 : Option Addr) (c1 : Nat) (l1 : List (List Int)) (r : Bool) (w : World) (hr0 : Kd.C (Kd.slice 3 (Kd.int .i64)) w A0 l0.length l0) (hc0 : l0.length ≤ c0) (hr1 : Kd.C (Kd.slice 3 (Kd.int .i64)) w A1 l1.length l1) (hc1 : l1.length ≤ c1) (h : laws_sameLists.f k l0 l1 = some r) :
    Calls Try.prog 25 #[.slice A0 l0.length c0, .slice A1 l1.length c1] w fun e w' => e = .returned (.bool r) ∧ Drawn0 w w' := by
  have HR0 := Aside0.mk hr0
  have HC0 := Aside0.mk hc0
  clear hr0 hc0
  have HR1 := Aside0.mk hr1
  have HC1 := Aside0.mk hc1
  clear hr1 hc1
  have H : (if (l0.length : Int) = (l1.length : Int) then (laws_sameLists.l0 k l0 l1 0) else (some false)) = some r := h
  clear h
  by_cases c3 : (l0.length : Int) = (l1.length : Int)
  · rw [if_pos c3] at H
    have c3b0 : ((l0.length : Int) == (l1.length : Int)) = true := beq_iff_eq.mpr c3
    have c3b1 : ((l0.length : Int) != (l1.length : Int)) = false := bne_eq_false_iff_eq.mpr c3
    have c3b2 : (l0.length == l1.length) = true := by first | simpa using c3 | (simp at c3 ⊢; omega)
    clear c3
    have H' := Aside0.mk H
    clear H
    go_enter Try.func25, Try.ntmps25
    go_wp2
    repeat (go_quiet (fail); try go_wp2)
    go_loopg [5] k (fun kq v5 w' => ∃ (x5_1 : Int), v5 = .int .i64 x5_1 ∧ Aside0 (laws_sameLists.l0 kq l0 l1 x5_1 = some r) ∧ Aside0 (kq ≤ k) ∧ Drawn0 w w')
    case atStart => exact ⟨(0), (by first | rfl | (simp; done) | (simp [*]; done)), H', ⟨Nat.le_refl _⟩, by repeat (first | exact Drawn0.refl _ | apply Drawn0.step)⟩
    case round =>
      clear H'
      try clear c1
      try clear c2
      try clear p2
      try clear c3
      try clear c3b0
      try clear c3b1
      try clear c3b2
      obtain ⟨x5_1, rfl, HA, HK1, ⟨m1, rfl⟩⟩ := hrel
      cases gk with
      | zero => exact absurd HA.out (by simp [laws_sameLists.l0])
      | succ k1 =>
        have H := HA.out
        clear HA
        simp only [laws_sameLists.l0] at H
        by_cases c4 : x5_1 < (l0.length : Int)
        · rw [if_pos c4] at H
          have c4b0 : decide (x5_1 < (l0.length : Int)) = true := decide_eq_true c4
          clear c4
          by_cases c5 : 0 ≤ x5_1
          · rw [if_pos c5] at H
            have c5b0 : decide (0 ≤ x5_1) = true := decide_eq_true c5
            clear c5
            by_cases c6 : x5_1 < (l1.length : Int)
            · rw [if_pos c6] at H
              have c6b0 : decide (x5_1 < (l1.length : Int)) = true := decide_eq_true c6
              clear c6
              replace H := Option.bind_eq_some_iff.mp H
              obtain ⟨t160, A70, H⟩ := H
              replace H : (if t160 = true then (laws_sameLists.l0 k1 l0 l1 (wrap64 (x5_1 + 1))) else (some false)) = some r := H
              have A7 := Aside0.mk A70
              clear A70
              by_cases c8 : t160 = true
              · subst c8
                have H1 : (laws_sameLists.l0 k1 l0 l1 (wrap64 (x5_1 + 1))) = some r := by rw [if_pos rfl] at H; exact H
                clear H
                have H := H1
                clear H1
                have H' := Aside0.mk H
                clear H
                have p158 : 0 ≤ (x5_1 : Int) := of_decide_eq_true (by first | (with_reducible assumption) | assumption)
                have q158 : x5_1 < (l0.length : Int) := of_decide_eq_true (by first | (with_reducible assumption) | assumption)
                obtain ⟨ad158, A158_0, c158_0, e158, hx158_0, hl158_0, hi158_0⟩ := at_L1 HR0.out x5_1 p158 q158
                cases e158
                have HR158_0 := Aside0.mk hi158_0
                have HC158_0 := Aside0.mk hl158_0
                clear hi158_0 hl158_0
                replace p158 := eq_true p158
                replace q158 := eq_true q158
                have p159 : 0 ≤ (x5_1 : Int) := of_decide_eq_true (by first | (with_reducible assumption) | assumption)
                have q159 : x5_1 < (l1.length : Int) := of_decide_eq_true (by first | (with_reducible assumption) | assumption)
                obtain ⟨ad159, A159_0, c159_0, e159, hx159_0, hl159_0, hi159_0⟩ := at_L1 HR1.out x5_1 p159 q159
                cases e159
                have HR159_0 := Aside0.mk hi159_0
                have HC159_0 := Aside0.mk hl159_0
                clear hi159_0 hl159_0
                replace p159 := eq_true p159
                replace q159 := eq_true q159
                go_wp2_with (first | (go_at_call 28; (with_reducible refine (laws_sameInts.calls k1 _ _ (rd_L1 l0 x5_1) _ _ (rd_L1 l1 x5_1) true _ ?side1 ?side2 ?side3 ?side4 A7.out).mono ?_); (case side1 => repeat (first | exact HR158_0.out | (with_reducible refine Kd.C_alloc ?_ _) | (with_reducible refine Kd.C_drewN ?_ _) | (with_reducible refine Kd.C_drew ?_))); (case side2 => exact HC158_0.out); (case side3 => repeat (first | exact HR159_0.out | (with_reducible refine Kd.C_alloc ?_ _) | (with_reducible refine Kd.C_drewN ?_ _) | (with_reducible refine Kd.C_drew ?_))); (case side4 => exact HC159_0.out); rintro e w' ⟨rfl, ⟨nd, rfl⟩⟩; (try first | exact ⟨rfl, _, World.drewN_drewN _ _ _⟩ | exact ⟨rfl, _, Eq.trans (World.drewN_drewN _ _ _) (congrArg (World.drewN _) (Nat.add_assoc _ _ _))⟩)))
                repeat (go_quiet (first | (go_at_call 28; (with_reducible refine (laws_sameInts.calls k1 _ _ (rd_L1 l0 x5_1) _ _ (rd_L1 l1 x5_1) true _ ?side1 ?side2 ?side3 ?side4 A7.out).mono ?_); (case side1 => repeat (first | exact HR158_0.out | (with_reducible refine Kd.C_alloc ?_ _) | (with_reducible refine Kd.C_drewN ?_ _) | (with_reducible refine Kd.C_drew ?_))); (case side2 => exact HC158_0.out); (case side3 => repeat (first | exact HR159_0.out | (with_reducible refine Kd.C_alloc ?_ _) | (with_reducible refine Kd.C_drewN ?_ _) | (with_reducible refine Kd.C_drew ?_))); (case side4 => exact HC159_0.out); rintro e w' ⟨rfl, ⟨nd, rfl⟩⟩; (try first | exact ⟨rfl, _, World.drewN_drewN _ _ _⟩ | exact ⟨rfl, _, Eq.trans (World.drewN_drewN _ _ _) (congrArg (World.drewN _) (Nat.add_assoc _ _ _))⟩))); try go_wp2_with (first | (go_at_call 28; (with_reducible refine (laws_sameInts.calls k1 _ _ (rd_L1 l0 x5_1) _ _ (rd_L1 l1 x5_1) true _ ?side1 ?side2 ?side3 ?side4 A7.out).mono ?_); (case side1 => repeat (first | exact HR158_0.out | (with_reducible refine Kd.C_alloc ?_ _) | (with_reducible refine Kd.C_drewN ?_ _) | (with_reducible refine Kd.C_drew ?_))); (case side2 => exact HC158_0.out); (case side3 => repeat (first | exact HR159_0.out | (with_reducible refine Kd.C_alloc ?_ _) | (with_reducible refine Kd.C_drewN ?_ _) | (with_reducible refine Kd.C_drew ?_))); (case side4 => exact HC159_0.out); rintro e w' ⟨rfl, ⟨nd, rfl⟩⟩; (try first | exact ⟨rfl, _, World.drewN_drewN _ _ _⟩ | exact ⟨rfl, _, Eq.trans (World.drewN_drewN _ _ _) (congrArg (World.drewN _) (Nat.add_assoc _ _ _))⟩))))
                go_roundg k1
                case measure => have := HK1.out; omega
                case rel => exact ⟨(wrap64 (x5_1 + 1)), (by first | rfl | (simp; done) | (simp [*]; done)), H', ⟨by have := HK1.out; omega⟩, by repeat (first | exact Drawn0.refl _ | apply Drawn0.step)⟩
              · replace c8 := Bool.eq_false_iff.mpr c8
                subst c8
                have H1 : (some false) = some r := by rw [if_neg (show ¬ (false = true) by decide)] at H; exact H
                clear H
                have H := H1
                clear H1
                obtain rfl := Option.some.inj H
                have p158 : 0 ≤ (x5_1 : Int) := of_decide_eq_true (by first | (with_reducible assumption) | assumption)
                have q158 : x5_1 < (l0.length : Int) := of_decide_eq_true (by first | (with_reducible assumption) | assumption)
                obtain ⟨ad158, A158_0, c158_0, e158, hx158_0, hl158_0, hi158_0⟩ := at_L1 HR0.out x5_1 p158 q158
                cases e158
                have HR158_0 := Aside0.mk hi158_0
                have HC158_0 := Aside0.mk hl158_0
                clear hi158_0 hl158_0
                replace p158 := eq_true p158
                replace q158 := eq_true q158
                have p159 : 0 ≤ (x5_1 : Int) := of_decide_eq_true (by first | (with_reducible assumption) | assumption)
                have q159 : x5_1 < (l1.length : Int) := of_decide_eq_true (by first | (with_reducible assumption) | assumption)
                obtain ⟨ad159, A159_0, c159_0, e159, hx159_0, hl159_0, hi159_0⟩ := at_L1 HR1.out x5_1 p159 q159
                cases e159
                have HR159_0 := Aside0.mk hi159_0
                have HC159_0 := Aside0.mk hl159_0
                clear hi159_0 hl159_0
                replace p159 := eq_true p159
                replace q159 := eq_true q159
                go_wp2_with (first | (go_at_call 28; (with_reducible refine (laws_sameInts.calls k1 _ _ (rd_L1 l0 x5_1) _ _ (rd_L1 l1 x5_1) false _ ?side1 ?side2 ?side3 ?side4 A7.out).mono ?_); (case side1 => repeat (first | exact HR158_0.out | (with_reducible refine Kd.C_alloc ?_ _) | (with_reducible refine Kd.C_drewN ?_ _) | (with_reducible refine Kd.C_drew ?_))); (case side2 => exact HC158_0.out); (case side3 => repeat (first | exact HR159_0.out | (with_reducible refine Kd.C_alloc ?_ _) | (with_reducible refine Kd.C_drewN ?_ _) | (with_reducible refine Kd.C_drew ?_))); (case side4 => exact HC159_0.out); rintro e w' ⟨rfl, ⟨nd, rfl⟩⟩; (try first | exact ⟨rfl, _, World.drewN_drewN _ _ _⟩ | exact ⟨rfl, _, Eq.trans (World.drewN_drewN _ _ _) (congrArg (World.drewN _) (Nat.add_assoc _ _ _))⟩)))
                repeat (go_quiet (first | (go_at_call 28; (with_reducible refine (laws_sameInts.calls k1 _ _ (rd_L1 l0 x5_1) _ _ (rd_L1 l1 x5_1) false _ ?side1 ?side2 ?side3 ?side4 A7.out).mono ?_); (case side1 => repeat (first | exact HR158_0.out | (with_reducible refine Kd.C_alloc ?_ _) | (with_reducible refine Kd.C_drewN ?_ _) | (with_reducible refine Kd.C_drew ?_))); (case side2 => exact HC158_0.out); (case side3 => repeat (first | exact HR159_0.out | (with_reducible refine Kd.C_alloc ?_ _) | (with_reducible refine Kd.C_drewN ?_ _) | (with_reducible refine Kd.C_drew ?_))); (case side4 => exact HC159_0.out); rintro e w' ⟨rfl, ⟨nd, rfl⟩⟩; (try first | exact ⟨rfl, _, World.drewN_drewN _ _ _⟩ | exact ⟨rfl, _, Eq.trans (World.drewN_drewN _ _ _) (congrArg (World.drewN _) (Nat.add_assoc _ _ _))⟩))); try go_wp2_with (first | (go_at_call 28; (with_reducible refine (laws_sameInts.calls k1 _ _ (rd_L1 l0 x5_1) _ _ (rd_L1 l1 x5_1) false _ ?side1 ?side2 ?side3 ?side4 A7.out).mono ?_); (case side1 => repeat (first | exact HR158_0.out | (with_reducible refine Kd.C_alloc ?_ _) | (with_reducible refine Kd.C_drewN ?_ _) | (with_reducible refine Kd.C_drew ?_))); (case side2 => exact HC158_0.out); (case side3 => repeat (first | exact HR159_0.out | (with_reducible refine Kd.C_alloc ?_ _) | (with_reducible refine Kd.C_drewN ?_ _) | (with_reducible refine Kd.C_drew ?_))); (case side4 => exact HC159_0.out); rintro e w' ⟨rfl, ⟨nd, rfl⟩⟩; (try first | exact ⟨rfl, _, World.drewN_drewN _ _ _⟩ | exact ⟨rfl, _, Eq.trans (World.drewN_drewN _ _ _) (congrArg (World.drewN _) (Nat.add_assoc _ _ _))⟩))))
                go_ret
                exact ⟨by first | rfl | (simp; done) | (simp [*]; done), by repeat (first | exact Drawn0.refl _ | apply Drawn0.step)⟩
            · rw [if_neg c6] at H
              exact absurd H (by simp)
          · rw [if_neg c5] at H
            exact absurd H (by simp)
        · rw [if_neg c4] at H
          have c4b0 : decide (x5_1 < (l0.length : Int)) = false := decide_eq_false c4
          clear c4
          obtain rfl := Option.some.inj H
          go_wp2
          repeat (go_quiet (fail); try go_wp2)
          go_ret
          exact ⟨by first | rfl | (simp; done) | (simp [*]; done), by repeat (first | exact Drawn0.refl _ | apply Drawn0.step)⟩
  · rw [if_neg c3] at H
    have c3b0 : ((l0.length : Int) == (l1.length : Int)) = false := beq_eq_false_iff_ne.mpr c3
    have c3b1 : ((l0.length : Int) != (l1.length : Int)) = true := bne_iff_ne.mpr c3
    have c3b2 : (l0.length == l1.length) = false := by first | simpa using c3 | (simp at c3 ⊢; omega)
    obtain rfl := Option.some.inj H
    go_enter Try.func25, Try.ntmps25
    go_wp2
    repeat (go_quiet (fail); try go_wp2)
    go_ret
    exact ⟨by first | rfl | (simp; done) | (simp [*]; done), by repeat (first | exact Drawn0.refl _ | apply Drawn0.step)⟩

/-! ### impl_GluingRun: function 26 (a section of my own) -/
def impl_GluingRun.at_ (T : List Int) (n : Nat) : Int := T.getD n 0
def impl_GluingRun.s1 (T : List Int) (k h : Int) : Int := wrap64 (wrap64 (2 * wrap64 (wrap64 (2 * k) - 1)) * impl_GluingRun.at_ T ((wrap64 (k - 1)).toNat * 6 + h.toNat))
def impl_GluingRun.s2 (T : List Int) (k h : Int) : Int := wrap64 (impl_GluingRun.s1 T k h + wrap64 (wrap64 (wrap64 (wrap64 (wrap64 (2 * k) - 1) * wrap64 (k - 1)) * wrap64 (wrap64 (2 * k) - 3)) * impl_GluingRun.at_ T ((wrap64 (k - 2)).toNat * 6 + (wrap64 (h - 1)).toNat)))
def impl_GluingRun.put (T : List Int) (k h s : Int) : List Int := T.set (k.toNat * 6 + h.toNat) (wrap64 (Int.tdiv s (wrap64 (k + 1))))
def impl_GluingRun.rowl (k : Int) : Nat → List Int → Int → List Int
  | 0, T, _ => T
  | d + 1, T, h => if 2 ≤ k then (if 1 ≤ h then impl_GluingRun.rowl k d (impl_GluingRun.put T k h (impl_GluingRun.s2 T k h)) (h + 1) else impl_GluingRun.rowl k d (impl_GluingRun.put T k h (impl_GluingRun.s1 T k h)) (h + 1)) else impl_GluingRun.rowl k d (impl_GluingRun.put T k h (impl_GluingRun.s1 T k h)) (h + 1)
def impl_GluingRun.lp (g1 : Nat) : Nat → List Int → Int → List Int
  | 0, T, _ => T
  | d + 1, T, k => impl_GluingRun.lp g1 d (impl_GluingRun.rowl k g1 T 0) (k + 1)
def impl_GluingRun.f (a0 : Int) (a1 : Int) : Option Int := if a0 < 0 then some (-1) else if a0 > 9 then some (-1) else if a1 < 0 then some (-1) else if a1 > 5 then some (-1) else
  some (impl_GluingRun.at_ (impl_GluingRun.lp (a1.toNat + 1) a0.toNat ((List.replicate 60 0).set 0 1) 1) (a0.toNat * 6 + a1.toNat))
theorem impl_GluingRun.put_len (T : List Int) (k h s : Int) : (impl_GluingRun.put T k h s).length = T.length := by simp [impl_GluingRun.put]
theorem impl_GluingRun.cellT {W : World} {g : Nat} {T : List Int} {t : TypeId} (h : W.heap[g]? = some (.cells (T.map (Value.int .i64)).toArray t (0, 0))) (n : Nat) (hn : n < T.length) :
    W.cell? ⟨g, n, none⟩ = some (.int .i64 (impl_GluingRun.at_ T n)) := by
  rw [cell_of_row W g n _ _ _ h]
  simp [impl_GluingRun.at_, List.getD_eq_getElem?_getD, hn]
def impl_GluingRun.Z : Array Value := ((List.replicate 60 (0 : Int)).map (Value.int .i64)).toArray
theorem impl_GluingRun.built1 : (Try.prog.built 64 []).isSome = true := by kernel_rfl
theorem impl_GluingRun.built2 : (Try.prog.built 64 []).getD #[] = impl_GluingRun.Z := by kernel_rfl
theorem impl_GluingRun.infoZ : (Try.prog.info? 64).map (·.size) = some impl_GluingRun.Z.size := by kernel_rfl
theorem impl_GluingRun.oneZ : impl_GluingRun.Z.all (·.oneCell') = true := by kernel_rfl
set_option maxHeartbeats 8000000 in
set_option maxRecDepth 100000 in
theorem impl_GluingRun.calls (a0 : Int) (a1 : Int) (r : Int) (w : World) (h : impl_GluingRun.f a0 a1 = some r) :
    Calls Try.prog 26 #[.int .i64 a0, .int .i64 a1] w fun e w' => e = .returned (.int .i64 r) ∧ Below w.heap.size w w' := by
  have HB := Aside0.mk (Below.refl w.heap.size w)
  unfold impl_GluingRun.f at h
  by_cases c1 : a0 < 0
  · rw [if_pos c1] at h
    obtain rfl := Option.some.inj h
    have b1 : decide (a0 < 0) = true := decide_eq_true c1
    clear h c1
    go_enter Try.func26, Try.ntmps26
    go_wp2
    go_ret
    exact ⟨rfl, HB.out⟩
  rw [if_neg c1] at h
  have b1 : decide (a0 < 0) = false := decide_eq_false c1
  by_cases c2 : a0 > 9
  · rw [if_pos c2] at h
    obtain rfl := Option.some.inj h
    have b2 : decide (9 < a0) = true := decide_eq_true c2
    clear h c1 c2
    go_enter Try.func26, Try.ntmps26
    go_wp2
    go_ret
    exact ⟨rfl, HB.out⟩
  rw [if_neg c2] at h
  have b2 : decide (9 < a0) = false := decide_eq_false c2
  by_cases c3 : a1 < 0
  · rw [if_pos c3] at h
    obtain rfl := Option.some.inj h
    have b3 : decide (a1 < 0) = true := decide_eq_true c3
    clear h c1 c2 c3
    go_enter Try.func26, Try.ntmps26
    go_wp2
    go_ret
    exact ⟨rfl, HB.out⟩
  rw [if_neg c3] at h
  have b3 : decide (a1 < 0) = false := decide_eq_false c3
  by_cases c4 : a1 > 5
  · rw [if_pos c4] at h
    obtain rfl := Option.some.inj h
    have b4 : decide (5 < a1) = true := decide_eq_true c4
    clear h c1 c2 c3 c4
    go_enter Try.func26, Try.ntmps26
    go_wp2
    go_ret
    exact ⟨rfl, HB.out⟩
  rw [if_neg c4] at h
  have b4 : decide (5 < a1) = false := decide_eq_false c4
  have HN := Aside0.mk (show 0 ≤ a0 ∧ a0 ≤ 9 ∧ 0 ≤ a1 ∧ a1 ≤ 5 by omega)
  have HR := Aside0.mk (Option.some.inj h)
  clear h c1 c2 c3 c4
  go_enter Try.func26, Try.ntmps26
  go_upto_region 4 with (first
    | ((with_reducible refine gate_dst (N := 23) rfl ?_); refine wpList_build rfl 64 #[] rfl impl_GluingRun.built1 ?_; rw [show (Try.prog.built 64 (Array.map (fun x => (x.1, x.2)) (#[] : Array (Nat × Value))).toList) = Try.prog.built 64 [] from rfl, impl_GluingRun.built2])
    | ((with_reducible refine gate_dst (N := 5) rfl ?_); refine box_event rfl (N := 5) rfl (cs := impl_GluingRun.Z) (t := 64) ?hr ?_; (case hr => first | (go_simp; done) | (go_simp; rfl)); intro g hg w1 hblk hb)
    | ((with_reducible refine gate_store (t := 64) (p := 5) rfl ?_); refine wpList_store_row rfl 64 (.tmp 5) (.tmp 23) rfl g impl_GluingRun.Z rfl rfl 64 impl_GluingRun.Z hblk impl_GluingRun.infoZ rfl impl_GluingRun.oneZ ?_))
  simp only [Act.put, List.setIfInBounds_toArray, List.set_cons_succ, List.set_cons_zero]
  go_cut [5] (fun v5 wc => v5 = .pointer (some ⟨g, 0, none⟩) ∧ ∃ T : List Int, Aside0 (T = (List.replicate 60 0).set 0 1) ∧ Aside0 (wc.heap[g]? = some (.cells (T.map (Value.int .i64)).toArray 64 (0, 0))) ∧ Aside0 (Below w.heap.size w wc))
  case first =>
    have hW : (w1.setRow g impl_GluingRun.Z).heap[g]? = some (.cells impl_GluingRun.Z 64 (0, 0)) := setRow_heap _ _ _ _ _ _ hblk
    have hB : Below w.heap.size w (w1.setRow g impl_GluingRun.Z) := below_setRow hb (by rw [hg]; exact Nat.le_refl _) _
    generalize w1.setRow g impl_GluingRun.Z = W1 at hW hB ⊢
    have hc : W1.cell? ⟨g, 0, none⟩ = some (.int .i64 0) := cell_of_row W1 g 0 _ _ _ hW
    have hf : W1.frozen? ⟨g, 0, none⟩ = false := frozen_of_row W1 g 0 _ _ hW
    have HW := Aside0.mk hW
    have HB1 := Aside0.mk hB
    have HB0 := Aside0.mk hb
    have HK0 := Aside0.mk hblk
    have HG := Aside0.mk hg
    clear hW hB hb hblk hg
    go_wp2
    go_meet
    case rel => exact ⟨rfl, _, ⟨rfl⟩, ⟨heap_setCell_same W1 g 0 _ _ _ HW.out⟩, ⟨below_set HB1.out (by rw [HG.out]; exact Nat.le_refl _)⟩⟩
  case rest =>
    obtain ⟨rfl, T, HT, HG, HBc⟩ := hcut
    have HG0 := Aside0.mk hg
    clear hg hb hblk
    go_wp2
    go_loopg [6, 7, 8] a0.toNat (fun d v6 v7 v8 wr => ∃ (k : Int) (T : List Int), v6 = .int .i64 k ∧ Aside0 (1 ≤ k ∧ k + d = a0 + 1) ∧ Aside0 (T.length = 60) ∧ Aside0 (impl_GluingRun.at_ (impl_GluingRun.lp (a1.toNat + 1) d T k) (a0.toNat * 6 + a1.toNat) = r) ∧ Aside0 (wr.heap[g]? = some (.cells (T.map (Value.int .i64)).toArray 64 (0, 0))) ∧ Aside0 (Below w.heap.size w wr))
    case atStart => exact ⟨1, T, rfl, ⟨by omega, by have := HN.out; omega⟩, ⟨by rw [HT.out]; rfl⟩, ⟨by rw [HT.out]; exact HR.out⟩, HG, HBc⟩
    case round =>
      clear HT HG HBc HR T
      obtain ⟨k, T, rfl, HX, HT, HA, HG, HBc⟩ := hrel
      cases gk with
      | zero =>
        have ck : decide (k ≤ a0) = false := decide_eq_false (by have := HX.out; omega)
        have i1 : (0 ≤ a0) = True := eq_true (by have := HN.out; omega)
        have i2 : (a0 < 10) = True := eq_true (by have := HN.out; omega)
        have i3 : (0 ≤ a1) = True := eq_true (by have := HN.out; omega)
        have i4 : (a1 < 6) = True := eq_true (by have := HN.out; omega)
        have hcell := impl_GluingRun.cellT HG.out (a0.toNat * 6 + a1.toNat) (by have := HN.out; rw [HT.out]; omega)
        have hr : impl_GluingRun.at_ T (a0.toNat * 6 + a1.toNat) = r := HA.out
        rw [hr] at hcell
        clear hr
        go_wp2
        go_ret
        exact ⟨rfl, HBc.out⟩
      | succ d =>
        have ck : decide (k ≤ a0) = true := decide_eq_true (by have := HX.out; omega)
        have HK := Aside0.mk (show 1 ≤ k ∧ k ≤ 9 by have := HX.out; have := HN.out; omega)
        go_wp2
        go_loopg [7, 8] (a1.toNat + 1) (fun e v7 v8 wr => ∃ (h : Int) (T1 : List Int), v7 = .int .i64 h ∧ Aside0 (0 ≤ h ∧ h + e = a1 + 1) ∧ Aside0 (T1.length = 60) ∧ Aside0 (impl_GluingRun.rowl k e T1 h = impl_GluingRun.rowl k (a1.toNat + 1) T 0) ∧ Aside0 (wr.heap[g]? = some (.cells (T1.map (Value.int .i64)).toArray 64 (0, 0))) ∧ Aside0 (Below w.heap.size w wr))
        case atStart => exact ⟨0, T, rfl, ⟨by omega, by have := HN.out; omega⟩, HT, ⟨rfl⟩, HG, HBc⟩
        case round =>
          clear HG HBc HT
          obtain ⟨h, T1, rfl, HY, HT, HE, HG, HBc⟩ := hrel
          cases gk with
          | zero =>
            have ch : decide (h ≤ a1) = false := decide_eq_false (by have := HY.out; omega)
            have HW := Aside0.mk (show wrap64 (k + 1) = k + 1 by have := HK.out; unfold wrap64; omega)
            go_wp2
            go_roundg d
            case measure => omega
            case rel => exact ⟨wrap64 (k + 1), T1, rfl, ⟨by rw [HW.out]; have := HX.out; omega, by rw [HW.out]; have := HX.out; omega⟩, HT, ⟨by rw [HW.out]; have h1 := HA.out; simp only [impl_GluingRun.lp] at h1; have h2 := HE.out; simp only [impl_GluingRun.rowl] at h2; rw [h2]; exact h1⟩, HG, HBc⟩
          | succ e =>
            have ch : decide (h ≤ a1) = true := decide_eq_true (by have := HY.out; omega)
            have HH := Aside0.mk (show 0 ≤ h ∧ h ≤ 5 by have := HY.out; have := HN.out; omega)
            have HW := Aside0.mk (show wrap64 (h + 1) = h + 1 by have := HH.out; unfold wrap64; omega)
            have HE1 := Aside0.mk (show wrap64 (k + 1) = k + 1 by have := HK.out; unfold wrap64; omega)
            have HE2 := Aside0.mk (show wrap64 (k - 1) = k - 1 by have := HK.out; unfold wrap64; omega)
            have HE3 := Aside0.mk (show wrap64 (k - 2) = k - 2 by have := HK.out; unfold wrap64; omega)
            have HE4 := Aside0.mk (show wrap64 (h - 1) = h - 1 by have := HH.out; unfold wrap64; omega)
            have i1 : (0 ≤ wrap64 (k - 1)) = True := eq_true (by rw [HE2.out]; have := HK.out; omega)
            have i2 : (wrap64 (k - 1) < 10) = True := eq_true (by rw [HE2.out]; have := HK.out; omega)
            have i3 : (0 ≤ h) = True := eq_true HH.out.1
            have i4 : (h < 6) = True := eq_true (by have := HH.out; omega)
            have i5 : (0 ≤ k) = True := eq_true (by have := HK.out; omega)
            have i6 : (k < 10) = True := eq_true (by have := HK.out; omega)
            have i7 : (wrap64 (k + 1) == 0) = false := beq_eq_false_iff_ne.mpr (by rw [HE1.out]; have := HK.out; omega)
            have i8 : ¬ (wrap64 (k + 1) = 0) := by rw [HE1.out]; have := HK.out; omega
            have hcA := impl_GluingRun.cellT HG.out ((wrap64 (k - 1)).toNat * 6 + h.toNat) (by rw [HT.out, HE2.out]; have := HK.out; have := HH.out; omega)
            have hcS := impl_GluingRun.cellT HG.out (k.toNat * 6 + h.toNat) (by rw [HT.out]; have := HK.out; have := HH.out; omega)
            have hfS : wr.frozen? ⟨g, k.toNat * 6 + h.toNat, none⟩ = false := frozen_of_row wr _ _ _ _ HG.out
            have hE := HE.out
            simp only [impl_GluingRun.rowl] at hE
            by_cases c2 : 2 ≤ k
            · rw [if_pos c2] at hE
              have d2 : decide (2 ≤ k) = true := decide_eq_true c2
              by_cases c1 : 1 ≤ h
              · rw [if_pos c1] at hE
                have d1 : decide (1 ≤ h) = true := decide_eq_true c1
                have HE' := Aside0.mk hE
                have j1 : (0 ≤ wrap64 (k - 2)) = True := eq_true (by rw [HE3.out]; omega)
                have j2 : (wrap64 (k - 2) < 10) = True := eq_true (by rw [HE3.out]; have := HK.out; omega)
                have j3 : (0 ≤ wrap64 (h - 1)) = True := eq_true (by rw [HE4.out]; omega)
                have j4 : (wrap64 (h - 1) < 6) = True := eq_true (by rw [HE4.out]; have := HH.out; omega)
                have hcB := impl_GluingRun.cellT HG.out ((wrap64 (k - 2)).toNat * 6 + (wrap64 (h - 1)).toNat) (by rw [HT.out, HE3.out, HE4.out]; have := HK.out; have := HH.out; omega)
                clear hE HE c1 c2
                go_upto_region 14 with (fail)
                rw [show wrap64 (wrap64 (wrap64 (2 * wrap64 (wrap64 (2 * k) - 1)) * impl_GluingRun.at_ T1 ((wrap64 (k - 1)).toNat * 6 + h.toNat)) + wrap64 (wrap64 (wrap64 (wrap64 (wrap64 (2 * k) - 1) * wrap64 (k - 1)) * wrap64 (wrap64 (2 * k) - 3)) * impl_GluingRun.at_ T1 ((wrap64 (k - 2)).toNat * 6 + (wrap64 (h - 1)).toNat))) = impl_GluingRun.s2 T1 k h from rfl]
                obtain ⟨s, HS⟩ : ∃ s, Aside0 (impl_GluingRun.s2 T1 k h = s) := ⟨_, ⟨rfl⟩⟩
                rw [HS.out]
                go_region
                go_wp2
                go_roundg e
                case measure => omega
                case rel =>
                  refine ⟨wrap64 (h + 1), impl_GluingRun.put T1 k h s, rfl, ⟨by rw [HW.out]; have := HY.out; omega, by rw [HW.out]; have := HY.out; omega⟩, ⟨by rw [impl_GluingRun.put_len]; exact HT.out⟩, ⟨by rw [HW.out, ← HS.out]; exact HE'.out⟩, ⟨?_⟩, ⟨?_⟩⟩
                  · have h1 := heap_setCell_same wr g (k.toNat * 6 + h.toNat) _ _ (.int .i64 (wrap64 (Int.tdiv s (wrap64 (k + 1))))) HG.out
                    rw [List.setIfInBounds_toArray, ← List.map_set] at h1
                    exact h1
                  · exact below_drew1 (below_set HBc.out (by rw [HG0.out]; exact Nat.le_refl _))
              · rw [if_neg c1] at hE
                have d1 : decide (1 ≤ h) = false := decide_eq_false c1
                have HE' := Aside0.mk hE
                clear hE HE c1 c2
                go_upto_region 14 with (fail)
                rw [show wrap64 (wrap64 (2 * wrap64 (wrap64 (2 * k) - 1)) * impl_GluingRun.at_ T1 ((wrap64 (k - 1)).toNat * 6 + h.toNat)) = impl_GluingRun.s1 T1 k h from rfl]
                obtain ⟨s, HS⟩ : ∃ s, Aside0 (impl_GluingRun.s1 T1 k h = s) := ⟨_, ⟨rfl⟩⟩
                rw [HS.out]
                go_region
                go_wp2
                go_roundg e
                case measure => omega
                case rel =>
                  refine ⟨wrap64 (h + 1), impl_GluingRun.put T1 k h s, rfl, ⟨by rw [HW.out]; have := HY.out; omega, by rw [HW.out]; have := HY.out; omega⟩, ⟨by rw [impl_GluingRun.put_len]; exact HT.out⟩, ⟨by rw [HW.out, ← HS.out]; exact HE'.out⟩, ⟨?_⟩, ⟨?_⟩⟩
                  · have h1 := heap_setCell_same wr g (k.toNat * 6 + h.toNat) _ _ (.int .i64 (wrap64 (Int.tdiv s (wrap64 (k + 1))))) HG.out
                    rw [List.setIfInBounds_toArray, ← List.map_set] at h1
                    exact h1
                  · exact below_drew1 (below_set HBc.out (by rw [HG0.out]; exact Nat.le_refl _))
            · rw [if_neg c2] at hE
              have d2 : decide (2 ≤ k) = false := decide_eq_false c2
              have HE' := Aside0.mk hE
              clear hE HE c2
              go_upto_region 14 with (fail)
              rw [show wrap64 (wrap64 (2 * wrap64 (wrap64 (2 * k) - 1)) * impl_GluingRun.at_ T1 ((wrap64 (k - 1)).toNat * 6 + h.toNat)) = impl_GluingRun.s1 T1 k h from rfl]
              obtain ⟨s, HS⟩ : ∃ s, Aside0 (impl_GluingRun.s1 T1 k h = s) := ⟨_, ⟨rfl⟩⟩
              rw [HS.out]
              go_region
              go_wp2
              go_roundg e
              case measure => omega
              case rel =>
                refine ⟨wrap64 (h + 1), impl_GluingRun.put T1 k h s, rfl, ⟨by rw [HW.out]; have := HY.out; omega, by rw [HW.out]; have := HY.out; omega⟩, ⟨by rw [impl_GluingRun.put_len]; exact HT.out⟩, ⟨by rw [HW.out, ← HS.out]; exact HE'.out⟩, ⟨?_⟩, ⟨?_⟩⟩
                · have h1 := heap_setCell_same wr g (k.toNat * 6 + h.toNat) _ _ (.int .i64 (wrap64 (Int.tdiv s (wrap64 (k + 1))))) HG.out
                  rw [List.setIfInBounds_toArray, ← List.map_set] at h1
                  exact h1
                · exact below_drew1 (below_set HBc.out (by rw [HG0.out]; exact Nat.le_refl _))

/-! ### impl_GluingValid: function 65 -/
mutual
def impl_GluingValid.j0 : Nat → List Int → Bool → Option (Bool)
  | 0, _, _ => none
  | k + 1, x0, x18 => if x18 = true then (some false) else (impl_GluingValid.l0 k x0 x0 (x0.length : Int) 0)
def impl_GluingValid.l0 : Nat → List Int → List Int → Int → Int → Option (Bool)
  | 0, _, _, _, _ => none
  | k + 1, x0, x19, x20, x21 => if x21 < x20 then (if 0 ≤ x21 then (if x21 < (x19.length : Int) then (if (rd x19 x21) < 0 then (some false) else (if (rd x19 x21) ≥ (x0.length : Int) then (some false) else (if (rd x19 x21) = x21 then (some false) else (if 0 ≤ (rd x19 x21) then (if (rd x19 x21) < (x0.length : Int) then (if (rd x0 (rd x19 x21)) = x21 then (impl_GluingValid.l0 k x0 x19 x20 (wrap64 (x21 + 1))) else (some false)) else (none)) else (none))))) else (none)) else (none)) else (some true)
end
def impl_GluingValid.f (k : Nat) (l0 : List Int) : Option (Bool) := if (l0.length : Int) < 2 then (impl_GluingValid.j0 k l0 true) else (if (l0.length : Int) > 10 then (impl_GluingValid.j0 k l0 true) else (impl_GluingValid.j0 k l0 (((l0.length : Int) % 2) != 0)))
theorem impl_GluingValid.mono_l : ∀ k, (∀ y0 y1, LeO (impl_GluingValid.j0 k y0 y1) (impl_GluingValid.j0 (k + 1) y0 y1)) ∧ (∀ y0 y1 y2 y3, LeO (impl_GluingValid.l0 k y0 y1 y2 y3) (impl_GluingValid.l0 (k + 1) y0 y1 y2 y3))
  | 0 => ⟨fun _ _ r h => by simp [impl_GluingValid.j0] at h, fun _ _ _ _ r h => by simp [impl_GluingValid.l0] at h⟩
  | k + 1 => by
    obtain ⟨ih0, ih1⟩ := impl_GluingValid.mono_l k
    refine ⟨?_, ?_⟩
    · intro y0 y1
      unfold impl_GluingValid.j0
      repeat' first
      | (with_reducible exact ih0 _ _)
      | (with_reducible exact ih1 _ _ _ _)
      | (with_reducible exact LeO.refl _)
      | (with_reducible exact LeO.none _)
      | (with_reducible refine LeO.ite ?_ ?_)
      | (with_reducible refine LeO.bind ?_ (fun _ => ?_))
      | exact ih0 _ _
      | exact ih1 _ _ _ _
      | exact LeO.none _
      | refine LeO.ite ?_ ?_
      | refine LeO.bind ?_ (fun _ => ?_)
    · intro y0 y1 y2 y3
      unfold impl_GluingValid.l0
      repeat' first
      | (with_reducible exact ih0 _ _)
      | (with_reducible exact ih1 _ _ _ _)
      | (with_reducible exact LeO.refl _)
      | (with_reducible exact LeO.none _)
      | (with_reducible refine LeO.ite ?_ ?_)
      | (with_reducible refine LeO.bind ?_ (fun _ => ?_))
      | exact ih0 _ _
      | exact ih1 _ _ _ _
      | exact LeO.none _
      | refine LeO.ite ?_ ?_
      | refine LeO.bind ?_ (fun _ => ?_)
theorem impl_GluingValid.mono : ∀ a0 k, LeO (impl_GluingValid.f k a0) (impl_GluingValid.f (k + 1) a0) := by
  intro a0 k
  obtain ⟨ih0, ih1⟩ := impl_GluingValid.mono_l k
  unfold impl_GluingValid.f
  repeat' first
      | (with_reducible exact ih0 _ _)
      | (with_reducible exact ih1 _ _ _ _)
      | (with_reducible exact LeO.refl _)
      | (with_reducible exact LeO.none _)
      | (with_reducible refine LeO.ite ?_ ?_)
      | (with_reducible refine LeO.bind ?_ (fun _ => ?_))
      | exact ih0 _ _
      | exact ih1 _ _ _ _
      | exact LeO.none _
      | refine LeO.ite ?_ ?_
      | refine LeO.bind ?_ (fun _ => ?_)
set_option maxHeartbeats 8000000 in
set_option maxRecDepth 100000 in
theorem impl_GluingValid.calls (k : Nat) (A0 : Option Addr) (c0 : Nat) (l0 : List Int) (r : Bool) (w : World) (hr0 : Kd.C (Kd.int .i64) w A0 l0.length l0) (hc0 : l0.length ≤ c0) (h : impl_GluingValid.f k l0 = some r) :
    Calls Try.prog 65 #[.slice A0 l0.length c0] w fun e w' => e = .returned (.bool r) ∧ Drawn0 w w' := by
  have HR0 := Aside0.mk hr0
  have HC0 := Aside0.mk hc0
  clear hr0 hc0
  have H : (if (l0.length : Int) < 2 then (impl_GluingValid.j0 k l0 true) else (if (l0.length : Int) > 10 then (impl_GluingValid.j0 k l0 true) else (impl_GluingValid.j0 k l0 (((l0.length : Int) % 2) != 0)))) = some r := h
  clear h
  have HC2 := Aside0.mk H
  clear H
  go_enter Try.func65, Try.ntmps65
  go_upto_region 1 with (fail)
  go_cut [18] (fun v18 wc => ∃ (kq : Nat) (x18_1 : Bool), v18 = .bool x18_1 ∧ Aside0 (impl_GluingValid.j0 kq l0 x18_1 = some r) ∧ Aside0 (kq ≤ k) ∧ Drawn0 w wc)
  case first =>
    have H := HC2.out
    clear HC2
    by_cases c3 : (l0.length : Int) < 2
    · rw [if_pos c3] at H
      have c3b0 : decide ((l0.length : Int) < 2) = true := decide_eq_true c3
      have c3b1 : decide (l0.length < 2) = true := decide_eq_true (by omega)
      clear c3
      (first | rw [c3b0] | (simp only [i64_w, i32_w]; rw [c3b0]) | skip)
      have H' := Aside0.mk H
      clear H
      go_wp2
      go_meet
      case rel => exact ⟨_, (true), (by first | rfl | (simp; done) | (simp [*]; done)), H', ⟨by first | omega | exact Nat.le_refl _⟩, by repeat (first | exact Drawn0.refl _ | apply Drawn0.step)⟩
    · rw [if_neg c3] at H
      have c3b0 : decide ((l0.length : Int) < 2) = false := decide_eq_false c3
      have c3b1 : decide (l0.length < 2) = false := decide_eq_false (by omega)
      clear c3
      (first | rw [c3b0] | (simp only [i64_w, i32_w]; rw [c3b0]) | skip)
      by_cases c4 : (l0.length : Int) > 10
      · rw [if_pos c4] at H
        have c4b0 : decide (10 < (l0.length : Int)) = true := decide_eq_true c4
        have c4b1 : decide (10 < l0.length) = true := decide_eq_true (by omega)
        clear c4
        have H' := Aside0.mk H
        clear H
        go_wp2
        go_meet
        case rel => exact ⟨_, (true), (by first | rfl | (simp; done) | (simp [*]; done)), H', ⟨by first | omega | exact Nat.le_refl _⟩, by repeat (first | exact Drawn0.refl _ | apply Drawn0.step)⟩
      · rw [if_neg c4] at H
        have c4b0 : decide (10 < (l0.length : Int)) = false := decide_eq_false c4
        have c4b1 : decide (10 < l0.length) = false := decide_eq_false (by omega)
        clear c4
        have H' := Aside0.mk H
        clear H
        go_wp2
        go_meet
        case rel => exact ⟨_, ((((l0.length : Int) % 2) != 0)), (by first | rfl | (simp; done) | (simp [*]; done)), H', ⟨by first | omega | exact Nat.le_refl _⟩, by repeat (first | exact Drawn0.refl _ | apply Drawn0.step)⟩
  case rest =>
    clear HC2
    try clear p2
    try clear c3
    try clear c3b0
    try clear c3b1
    try clear c4
    try clear c4b0
    try clear c4b1
    obtain ⟨kq, x18_1, rfl, HA, HJ1, ⟨mc1, rfl⟩⟩ := hcut
    cases kq with
    | zero => exact absurd HA.out (by simp [impl_GluingValid.j0])
    | succ kj1 =>
      have H := HA.out
      clear HA
      simp only [impl_GluingValid.j0] at H
      by_cases c5 : x18_1 = true
      · subst c5
        have H1 : (some false) = some r := by rw [if_pos rfl] at H; exact H
        clear H
        have H := H1
        clear H1
        obtain rfl := Option.some.inj H
        go_wp2
        go_ret
        exact ⟨by first | rfl | (simp; done) | (simp [*]; done), by repeat (first | exact Drawn0.refl _ | apply Drawn0.step)⟩
      · replace c5 := Bool.eq_false_iff.mpr c5
        subst c5
        have H1 : (impl_GluingValid.l0 kj1 l0 l0 (l0.length : Int) 0) = some r := by rw [if_neg (show ¬ (false = true) by decide)] at H; exact H
        clear H
        have H := H1
        clear H1
        have H' := Aside0.mk H
        clear H
        go_wp2
        go_loopg [21] kj1 (fun kq v21 w' => ∃ (x21_2 : Int), v21 = .int .i64 x21_2 ∧ Aside0 (impl_GluingValid.l0 kq l0 l0 (l0.length : Int) x21_2 = some r) ∧ Aside0 (kq ≤ kj1) ∧ Drawn0 w w')
        case atStart => exact ⟨(0), (by first | rfl | (simp; done) | (simp [*]; done)), H', ⟨Nat.le_refl _⟩, by repeat (first | exact Drawn0.refl _ | apply Drawn0.step)⟩
        case round =>
          clear H'
          try clear c1
          try clear p2
          try clear c3
          try clear c3b0
          try clear c3b1
          try clear c4
          try clear c4b0
          try clear c4b1
          try clear c5
          try clear p2
          obtain ⟨x21_2, rfl, HA, HK2, ⟨m2, rfl⟩⟩ := hrel
          cases gk with
          | zero => exact absurd HA.out (by simp [impl_GluingValid.l0])
          | succ k2 =>
            have H := HA.out
            clear HA
            simp only [impl_GluingValid.l0] at H
            by_cases c6 : x21_2 < (l0.length : Int)
            · rw [if_pos c6] at H
              have c6b0 : decide (x21_2 < (l0.length : Int)) = true := decide_eq_true c6
              clear c6
              by_cases c7 : 0 ≤ x21_2
              · rw [if_pos c7] at H
                have c7b0 : decide (0 ≤ x21_2) = true := decide_eq_true c7
                clear c7
                by_cases c8 : x21_2 < (l0.length : Int)
                · rw [if_pos c8] at H
                  have c8b0 : decide (x21_2 < (l0.length : Int)) = true := decide_eq_true c8
                  clear c8
                  by_cases c9 : (rd l0 x21_2) < 0
                  · rw [if_pos c9] at H
                    have c9b0 : decide ((rd l0 x21_2) < 0) = true := decide_eq_true c9
                    clear c9
                    obtain rfl := Option.some.inj H
                    have p164 : 0 ≤ (x21_2 : Int) := of_decide_eq_true (by first | (with_reducible assumption) | assumption)
                    have q164 : x21_2 < (l0.length : Int) := of_decide_eq_true (by first | (with_reducible assumption) | assumption)
                    obtain ⟨ad164, e164, hx164_0⟩ := Kd.at_int HR0.out x21_2 p164 q164
                    cases e164
                    replace p164 := eq_true p164
                    replace q164 := eq_true q164
                    go_wp2
                    go_ret
                    exact ⟨by first | rfl | (simp; done) | (simp [*]; done), by repeat (first | exact Drawn0.refl _ | apply Drawn0.step)⟩
                  · rw [if_neg c9] at H
                    have c9b0 : decide ((rd l0 x21_2) < 0) = false := decide_eq_false c9
                    clear c9
                    by_cases c10 : (rd l0 x21_2) ≥ (l0.length : Int)
                    · rw [if_pos c10] at H
                      have c10b0 : decide ((l0.length : Int) ≤ (rd l0 x21_2)) = true := decide_eq_true c10
                      clear c10
                      obtain rfl := Option.some.inj H
                      have p164 : 0 ≤ (x21_2 : Int) := of_decide_eq_true (by first | (with_reducible assumption) | assumption)
                      have q164 : x21_2 < (l0.length : Int) := of_decide_eq_true (by first | (with_reducible assumption) | assumption)
                      obtain ⟨ad164, e164, hx164_0⟩ := Kd.at_int HR0.out x21_2 p164 q164
                      cases e164
                      replace p164 := eq_true p164
                      replace q164 := eq_true q164
                      go_wp2
                      go_ret
                      exact ⟨by first | rfl | (simp; done) | (simp [*]; done), by repeat (first | exact Drawn0.refl _ | apply Drawn0.step)⟩
                    · rw [if_neg c10] at H
                      have c10b0 : decide ((l0.length : Int) ≤ (rd l0 x21_2)) = false := decide_eq_false c10
                      clear c10
                      by_cases c11 : (rd l0 x21_2) = x21_2
                      · rw [if_pos c11] at H
                        have c11b0 : ((rd l0 x21_2) == x21_2) = true := beq_iff_eq.mpr c11
                        have c11b1 : ((rd l0 x21_2) != x21_2) = false := bne_eq_false_iff_eq.mpr c11
                        clear c11
                        obtain rfl := Option.some.inj H
                        have p164 : 0 ≤ (x21_2 : Int) := of_decide_eq_true (by first | (with_reducible assumption) | assumption)
                        have q164 : x21_2 < (l0.length : Int) := of_decide_eq_true (by first | (with_reducible assumption) | assumption)
                        obtain ⟨ad164, e164, hx164_0⟩ := Kd.at_int HR0.out x21_2 p164 q164
                        cases e164
                        replace p164 := eq_true p164
                        replace q164 := eq_true q164
                        go_wp2
                        go_ret
                        exact ⟨by first | rfl | (simp; done) | (simp [*]; done), by repeat (first | exact Drawn0.refl _ | apply Drawn0.step)⟩
                      · rw [if_neg c11] at H
                        have c11b0 : ((rd l0 x21_2) == x21_2) = false := beq_eq_false_iff_ne.mpr c11
                        have c11b1 : ((rd l0 x21_2) != x21_2) = true := bne_iff_ne.mpr c11
                        by_cases c12 : 0 ≤ (rd l0 x21_2)
                        · rw [if_pos c12] at H
                          have c12b0 : decide (0 ≤ (rd l0 x21_2)) = true := decide_eq_true c12
                          clear c12
                          by_cases c13 : (rd l0 x21_2) < (l0.length : Int)
                          · rw [if_pos c13] at H
                            have c13b0 : decide ((rd l0 x21_2) < (l0.length : Int)) = true := decide_eq_true c13
                            clear c13
                            by_cases c14 : (rd l0 (rd l0 x21_2)) = x21_2
                            · rw [if_pos c14] at H
                              have c14b0 : ((rd l0 (rd l0 x21_2)) == x21_2) = true := beq_iff_eq.mpr c14
                              have c14b1 : ((rd l0 (rd l0 x21_2)) != x21_2) = false := bne_eq_false_iff_eq.mpr c14
                              clear c14
                              have H' := Aside0.mk H
                              clear H
                              have p164 : 0 ≤ (x21_2 : Int) := of_decide_eq_true (by first | (with_reducible assumption) | assumption)
                              have q164 : x21_2 < (l0.length : Int) := of_decide_eq_true (by first | (with_reducible assumption) | assumption)
                              obtain ⟨ad164, e164, hx164_0⟩ := Kd.at_int HR0.out x21_2 p164 q164
                              cases e164
                              replace p164 := eq_true p164
                              replace q164 := eq_true q164
                              have p165 : 0 ≤ ((rd l0 x21_2) : Int) := of_decide_eq_true (by first | (with_reducible assumption) | assumption)
                              have q165 : (rd l0 x21_2) < (l0.length : Int) := of_decide_eq_true (by first | (with_reducible assumption) | assumption)
                              obtain ⟨ad165, e165, hx165_0⟩ := Kd.at_int HR0.out (rd l0 x21_2) p165 q165
                              obtain rfl : ad164 = ad165 := (by injection e165)
                              replace p165 := eq_true p165
                              replace q165 := eq_true q165
                              go_wp2
                              go_roundg k2
                              case measure => have := HJ1.out; have := HK2.out; omega
                              case rel => exact ⟨(wrap64 (x21_2 + 1)), (by first | rfl | (simp; done) | (simp [*]; done)), H', ⟨by have := HJ1.out; have := HK2.out; omega⟩, by repeat (first | exact Drawn0.refl _ | apply Drawn0.step)⟩
                            · rw [if_neg c14] at H
                              have c14b0 : ((rd l0 (rd l0 x21_2)) == x21_2) = false := beq_eq_false_iff_ne.mpr c14
                              have c14b1 : ((rd l0 (rd l0 x21_2)) != x21_2) = true := bne_iff_ne.mpr c14
                              obtain rfl := Option.some.inj H
                              have p164 : 0 ≤ (x21_2 : Int) := of_decide_eq_true (by first | (with_reducible assumption) | assumption)
                              have q164 : x21_2 < (l0.length : Int) := of_decide_eq_true (by first | (with_reducible assumption) | assumption)
                              obtain ⟨ad164, e164, hx164_0⟩ := Kd.at_int HR0.out x21_2 p164 q164
                              cases e164
                              replace p164 := eq_true p164
                              replace q164 := eq_true q164
                              have p165 : 0 ≤ ((rd l0 x21_2) : Int) := of_decide_eq_true (by first | (with_reducible assumption) | assumption)
                              have q165 : (rd l0 x21_2) < (l0.length : Int) := of_decide_eq_true (by first | (with_reducible assumption) | assumption)
                              obtain ⟨ad165, e165, hx165_0⟩ := Kd.at_int HR0.out (rd l0 x21_2) p165 q165
                              obtain rfl : ad164 = ad165 := (by injection e165)
                              replace p165 := eq_true p165
                              replace q165 := eq_true q165
                              go_wp2
                              go_ret
                              exact ⟨by first | rfl | (simp; done) | (simp [*]; done), by repeat (first | exact Drawn0.refl _ | apply Drawn0.step)⟩
                          · rw [if_neg c13] at H
                            exact absurd H (by simp)
                        · rw [if_neg c12] at H
                          exact absurd H (by simp)
                · rw [if_neg c8] at H
                  exact absurd H (by simp)
              · rw [if_neg c7] at H
                exact absurd H (by simp)
            · rw [if_neg c6] at H
              have c6b0 : decide (x21_2 < (l0.length : Int)) = false := decide_eq_false c6
              clear c6
              obtain rfl := Option.some.inj H
              go_wp2
              go_ret
              exact ⟨by first | rfl | (simp; done) | (simp [*]; done), by repeat (first | exact Drawn0.refl _ | apply Drawn0.step)⟩

end Go.Proofs.Ytkfeildndcdbaaa.Q
