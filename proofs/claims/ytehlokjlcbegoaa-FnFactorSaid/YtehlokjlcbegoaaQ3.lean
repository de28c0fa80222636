import Derived.Test.YtehlokjlcbegoaaQ0
import Derived.Test.YtehlokjlcbegoaaQ2
import Derived.Maps.Keyed
import Derived.Maps.OwnOps
import Derived.Maps.Views
namespace Go.Proofs.Ytehlokjlcbegoaa.Q
open Go.RowKit Go.Proofs.YtehlokjlcbegoaaW.PrintWords Go.Proofs.YtehlokjlcbegoaaW.PrintLast Go.Proofs.YtehlokjlcbegoaaW.PrintMore
attribute [local go_sem] max2_int min2_int max_two min_two max_three min_three max_four min_four   -- for this text's walks alone
set_option linter.unusedVariables false
set_option linter.unusedSimpArgs false

/-! ### impl_ClassSize: function 14 (a section of my own) -/
def impl_ClassSize.lp (p : List Int) : Nat → Nat → (Int → Int) → Int → Option Int
  | 0, _, _, out => some out
  | d + 1, i, m, out => if 1 ≤ rd p i ∧ rd p i ≤ 1000 then (if wrap64 (rd p i * wrap64 (m (rd p i) + 1)) = 0 then none else impl_ClassSize.lp p d (i + 1) (fun y => if y = rd p i then wrap64 (m (rd p i) + 1) else m y) (wrap64 (Int.tdiv out (wrap64 (rd p i * wrap64 (m (rd p i) + 1)))))) else none
def impl_ClassSize.f (k : Nat) (l0 : List Int) : Option Int := (impl_PartsValid.f k l0).bind fun t => (if t = true then ((impl_sumOf.f k l0).bind fun s => ((impl_factorial.f k s).bind fun o => impl_ClassSize.lp l0 l0.length 0 (fun _ => 0) o)) else some (-1))
theorem impl_ClassSize.mono : ∀ a0 k, LeO (impl_ClassSize.f k a0) (impl_ClassSize.f (k + 1) a0) := by
  intro a0 k
  unfold impl_ClassSize.f
  repeat' first
  | (with_reducible exact impl_PartsValid.mono _ _)
  | (with_reducible exact impl_sumOf.mono _ _)
  | (with_reducible exact impl_factorial.mono _ _)
  | (with_reducible exact LeO.refl _)
  | (with_reducible refine LeO.ite ?_ ?_)
  | (with_reducible refine LeO.bind ?_ (fun _ => ?_))
open Go.Maps in
theorem impl_ClassSize.key : Keyed Try.prog 3 := int_keyed Try.underlying3
theorem impl_ClassSize.zero (w : World) : (zeroValue 3).run Try.prog w = .ok (.int .i64 0) w := by kernel_rfl
theorem impl_ClassSize.wf (x : Int) (h : 1 ≤ x ∧ x ≤ 1000) : (Lit.int .i64 x).wf = true := by
  have e1 : IntKind.i64.min = -9223372036854775808 := by decide
  have e2 : IntKind.i64.max = 9223372036854775807 := by decide
  simp only [Lit.wf, e1, e2, Bool.and_eq_true, decide_eq_true_eq]
  omega
set_option maxHeartbeats 8000000 in
set_option maxRecDepth 100000 in
theorem impl_ClassSize.calls (k : Nat) (A0 : Option Addr) (c0 : Nat) (l0 : List Int) (r : Int) (w : World) (hr0 : Kd.C (Kd.int .i64) w A0 l0.length l0) (hc0 : l0.length ≤ c0) (h : impl_ClassSize.f k l0 = some r) :
    Calls Try.prog 14 #[.slice A0 l0.length c0] w fun e w' => e = .returned (.int .i64 r) ∧ Below w.heap.size w w' := by
  have HR0 := Aside0.mk hr0
  have HC0 := Aside0.mk hc0
  clear hr0 hc0
  have HB := Aside0.mk (Below.refl w.heap.size w)
  have H : ((impl_PartsValid.f k l0).bind fun t => (if t = true then ((impl_sumOf.f k l0).bind fun s => ((impl_factorial.f k s).bind fun o => impl_ClassSize.lp l0 l0.length 0 (fun _ => 0) o)) else some (-1))) = some r := h
  clear h
  obtain ⟨t1, A20, H⟩ := Option.bind_eq_some_iff.mp H
  have A2 := Aside0.mk A20
  clear A20
  cases t1 with
  | false =>
    have hr : (-1 : Int) = r := by simpa using H
    subst hr
    clear H
    go_enter Try.func14, Try.ntmps14
    go_wp2_with (first | ((with_reducible refine gate_callee (f := 31) rfl ?_); refine goesL_ (some 8) rfl rfl Try.func31 (by kernel_rfl) rfl #[.slice A0 l0.length c0] rfl (by (try simp only [List.map_toArray, List.map_cons, List.map_nil]); first | done | rfl) ?_; (with_reducible refine (impl_PartsValid.calls k _ _ l0 false _ ?side1 ?side2 A2.out).mono ?_); (case side1 => repeat (first | exact HR0.out | (with_reducible refine Kd.C_alloc ?_ _) | (with_reducible refine Kd.C_drewN ?_ _) | (with_reducible refine Kd.C_drew ?_))); (case side2 => exact HC0.out); rintro e w' ⟨rfl, ⟨nd, rfl⟩⟩; refine ⟨_, rfl, ?_⟩))
    go_ret
    exact ⟨rfl, by repeat (first | (with_reducible first | exact HB.out | apply below_alloc | apply pw_below_drewN | apply below_drew1) | exact HB.out)⟩
  | true =>
    rw [if_pos rfl] at H
    obtain ⟨s1, A30, H2⟩ := Option.bind_eq_some_iff.mp H
    clear H
    have A3 := Aside0.mk A30
    clear A30
    obtain ⟨o1, A40, H3⟩ := Option.bind_eq_some_iff.mp H2
    clear H2
    have A4 := Aside0.mk A40
    clear A40
    have H' := Aside0.mk H3
    clear H3
    have hmm := @run_makeMap Try.prog
    go_enter Try.func14, Try.ntmps14
    go_wp2_with (first | ((with_reducible refine gate_callee (f := 31) rfl ?_); refine goesL_ (some 8) rfl rfl Try.func31 (by kernel_rfl) rfl #[.slice A0 l0.length c0] rfl (by (try simp only [List.map_toArray, List.map_cons, List.map_nil]); first | done | rfl) ?_; (with_reducible refine (impl_PartsValid.calls k _ _ l0 true _ ?side1 ?side2 A2.out).mono ?_); (case side1 => repeat (first | exact HR0.out | (with_reducible refine Kd.C_alloc ?_ _) | (with_reducible refine Kd.C_drewN ?_ _) | (with_reducible refine Kd.C_drew ?_))); (case side2 => exact HC0.out); rintro e w' ⟨rfl, ⟨nd, rfl⟩⟩; refine ⟨_, rfl, ?_⟩) | ((with_reducible refine gate_callee (f := 32) rfl ?_); refine goesL_ (some 11) rfl rfl Try.func32 (by kernel_rfl) rfl #[.slice A0 l0.length c0] rfl (by (try simp only [List.map_toArray, List.map_cons, List.map_nil]); first | done | rfl) ?_; (with_reducible refine (impl_sumOf.calls k _ _ l0 s1 _ ?side1 ?side2 A3.out).mono ?_); (case side1 => repeat (first | exact HR0.out | (with_reducible refine Kd.C_alloc ?_ _) | (with_reducible refine Kd.C_drewN ?_ _) | (with_reducible refine Kd.C_drew ?_))); (case side2 => exact HC0.out); rintro e w' ⟨rfl, ⟨nd, rfl⟩⟩; refine ⟨_, rfl, ?_⟩) | ((with_reducible refine gate_callee (f := 25) rfl ?_); refine goesL_ (some 12) rfl rfl Try.func25 (by kernel_rfl) rfl #[.int .i64 s1] rfl (by (try simp only [List.map_toArray, List.map_cons, List.map_nil]); first | done | rfl) ?_; (with_reducible refine (impl_factorial.calls k s1 o1 _ A4.out).mono ?_); rintro e w' ⟨rfl, ⟨nd, rfl⟩⟩; refine ⟨_, rfl, ?_⟩))
    go_loopg [3, 16] l0.length (fun d v3 v16 wr => ∃ (x o : Int) (m : Int → Int) (D : DataW Unit), v3 = .int .i64 o ∧ v16 = .int .i64 x ∧ Aside0 (0 ≤ x ∧ x + d = l0.length) ∧ Aside0 (impl_ClassSize.lp l0 d x.toNat m o = some r) ∧ Aside0 (wr.ownsMap Try.prog 3 (plainElem Try.prog 3) w.heap.size x.toNat D) ∧ Aside0 (Go.Maps.IsMap D) ∧ Aside0 (∀ y : Int, D.atKey (.int .i64 y) (.lit (.int .i64 0)) = .lit (.int .i64 (m y))) ∧ Aside0 (Below w.heap.size w wr))
    case atStart =>
      exact ⟨0, o1, fun _ => 0, .map [], rfl, rfl, ⟨by omega, by omega⟩, H', ⟨World.ownsMap_made (w.drewN _) _ _ _⟩, ⟨Go.Maps.isMap_empty⟩, ⟨fun y => rfl⟩, ⟨by repeat (first | (with_reducible first | exact HB.out | apply below_alloc | apply pw_below_drewN | apply below_drew1) | exact HB.out)⟩⟩
    case round =>
      clear H'
      obtain ⟨x, o, m, D, rfl, rfl, HX, HA, HO, HI, HD, HBc⟩ := hrel
      cases gk with
      | zero =>
        have c : decide (x < (l0.length : Int)) = false := decide_eq_false (by have := HX.out; omega)
        have hr : o = r := by have := HA.out; simpa only [impl_ClassSize.lp, Option.some.injEq] using this
        subst hr
        go_wp2
        go_ret
        exact ⟨rfl, HBc.out⟩
      | succ d =>
        have H := HA.out
        clear HA
        simp only [impl_ClassSize.lp] at H
        have hx0 : 0 ≤ x := by have := HX.out; omega
        have hx1 : x < (l0.length : Int) := by have := HX.out; omega
        rw [Int.toNat_of_nonneg hx0] at H
        obtain ⟨ad, e, hcell⟩ := Kd.at_int HR0.out x hx0 hx1
        cases e
        replace hcell := (HBc.out.cell (World.block_lt_of_cell? w _ hcell)).trans hcell
        obtain ⟨v, hv⟩ : ∃ v, v = rd l0 x := ⟨_, rfl⟩
        rw [← hv] at hcell H
        clear hv
        have hcx : decide (x < (l0.length : Int)) = true := decide_eq_true hx1
        replace hx0 := eq_true hx0
        replace hx1 := eq_true hx1
        by_cases hk : 1 ≤ v ∧ v ≤ 1000
        · rw [if_pos hk] at H
          have HKE := Aside0.mk (Go.Maps.keyOf_int_mk Try.underlying3 (impl_ClassSize.wf v hk))
          clear hk
          by_cases hz : wrap64 (v * wrap64 (m v + 1)) = 0
          · rw [if_pos hz] at H; cases H
          · rw [if_neg hz] at H
            have H' := Aside0.mk H
            clear H
            have hzb : (wrap64 (v * wrap64 (m v + 1)) == 0) = false := beq_eq_false_iff_ne.mpr hz
            have tok1 : True := trivial
            go_wp2_with (first | (at_lookup; have _t := tok1; refine wpList_lookup_own_int _ rfl _ _ 44 rfl 3 3 .i64 impl_ClassSize.key Try.underlying44 Try.underlying3 (impl_ClassSize.zero _) w.heap.size x.toNat D rfl HO.out _ _ rfl HKE.out ?_; intro c hat hwc; clear tok1; obtain rfl : c = m v := (by have := hat.symm.trans (HD.out v); simpa using this); clear hat hwc _t) | (at_mapUpdate; refine wpList_mapUpdate_own _ rfl _ _ _ 44 rfl 3 3 impl_ClassSize.key Try.underlying44 _ w.heap.size x.toNat D rfl HO.out (by have := HX.out; have := HR0.out.2.1; unfold maxLen; omega) _ _ _ rfl rfl HKE.out _ [] (plainElem_int Try.underlying3 (wrap64_wf _)) ?_; intro w1 hown1 hgrow1; have HO1 := Aside0.mk hown1; have HG1 := Aside0.mk hgrow1; clear hown1 hgrow1) | (at_lookup; refine wpList_lookup_own_int _ rfl _ _ 44 rfl 3 3 .i64 impl_ClassSize.key Try.underlying44 Try.underlying3 (impl_ClassSize.zero _) w.heap.size (x.toNat + 1) _ rfl HO1.out _ _ rfl HKE.out ?_; intro c hat hwc; obtain rfl : c = wrap64 (m v + 1) := (by have := hat.symm.trans (Go.Maps.atKey_put_same HI.out (show WideAt.IsKeyLit (.int .i64 v) from trivial) _ _); simpa using this); clear hat hwc))
            go_roundg d
            case measure => omega
            case rel =>
              have hw : wrap64 (x + 1) = x + 1 := by have := HX.out; have := HR0.out.2.1; unfold wrap64; omega
              refine ⟨wrap64 (x + 1), _, (fun y => if y = v then wrap64 (m v + 1) else m y), D.put (.int .i64 v) (.lit (.int .i64 (wrap64 (m v + 1)))), rfl, rfl, ⟨by rw [hw]; have := HX.out; omega⟩, ⟨?_⟩, ⟨?_⟩, ⟨HI.out.put _ _⟩, ⟨?_⟩, ⟨HBc.out.grown HG1.out HBc.out.size (fun j hj => by cases hj; exact Nat.le_refl _)⟩⟩
              · rw [hw, show (x + 1).toNat = x.toNat + 1 by have := HX.out; omega]; exact H'.out
              · rw [hw, show (x + 1).toNat = x.toNat + 1 by have := HX.out; omega]; exact HO1.out
              · intro y
                by_cases hy : y = v
                · subst hy
                  rw [Go.Maps.atKey_put_same HI.out (show WideAt.IsKeyLit (.int .i64 y) from trivial)]; simp
                · rw [Go.Maps.atKey_put_other (by simpa using hy), HD.out y]; simp [hy]
        · rw [if_neg hk] at H; cases H

/-! ### impl_typesSum: function 17 -/
mutual
def impl_typesSum.j0 : Nat → List (List Int) → Bool → Option (Int)
  | 0, _, _ => none
  | k + 1, x0, x12 => if x12 = true then (some (-1)) else (impl_typesSum.l0 k x0 x0 (x0.length : Int) 0)
def impl_typesSum.l0 : Nat → List (List Int) → List (List Int) → Int → Int → Option (Int)
  | 0, _, _, _, _ => none
  | k + 1, x0, x13, x14, x15 => if x15 < x14 then (if 0 ≤ x15 then (if x15 < (x13.length : Int) then ((impl_PartsValid.f k (rd_L1 x13 x15)).bind fun t215 => (if t215 = true then ((impl_sumOf.f k (rd_L1 x13 x15)).bind fun t216 => (if 0 < (x0.length : Int) then ((impl_sumOf.f k (rd_L1 x0 0)).bind fun t218 => (if t216 = t218 then (impl_typesSum.l0 k x0 x13 x14 (wrap64 (x15 + 1))) else (some (-1)))) else (none))) else (some (-1)))) else (none)) else (none)) else (if 0 < (x0.length : Int) then ((impl_sumOf.f k (rd_L1 x0 0)).bind fun t213 => (some t213)) else (none))
end
def impl_typesSum.f (k : Nat) (l0 : List (List Int)) : Option (Int) := if (l0.length : Int) < 1 then (impl_typesSum.j0 k l0 true) else (impl_typesSum.j0 k l0 (decide ((l0.length : Int) > 6)))
theorem impl_typesSum.mono_l : ∀ k, (∀ y0 y1, LeO (impl_typesSum.j0 k y0 y1) (impl_typesSum.j0 (k + 1) y0 y1)) ∧ (∀ y0 y1 y2 y3, LeO (impl_typesSum.l0 k y0 y1 y2 y3) (impl_typesSum.l0 (k + 1) y0 y1 y2 y3))
  | 0 => ⟨fun _ _ r h => by simp [impl_typesSum.j0] at h, fun _ _ _ _ r h => by simp [impl_typesSum.l0] at h⟩
  | k + 1 => by
    obtain ⟨ih0, ih1⟩ := impl_typesSum.mono_l k
    refine ⟨?_, ?_⟩
    · intro y0 y1
      unfold impl_typesSum.j0
      repeat' first
      | (with_reducible exact ih0 _ _)
      | (with_reducible exact ih1 _ _ _ _)
      | (with_reducible exact impl_PartsValid.mono _ _)
      | (with_reducible exact impl_sumOf.mono _ _)
      | (with_reducible exact LeO.refl _)
      | (with_reducible exact LeO.none _)
      | (with_reducible refine LeO.ite ?_ ?_)
      | (with_reducible refine LeO.bind ?_ (fun _ => ?_))
      | exact ih0 _ _
      | exact ih1 _ _ _ _
      | exact impl_PartsValid.mono _ _
      | exact impl_sumOf.mono _ _
      | exact LeO.none _
      | refine LeO.ite ?_ ?_
      | refine LeO.bind ?_ (fun _ => ?_)
    · intro y0 y1 y2 y3
      unfold impl_typesSum.l0
      repeat' first
      | (with_reducible exact ih0 _ _)
      | (with_reducible exact ih1 _ _ _ _)
      | (with_reducible exact impl_PartsValid.mono _ _)
      | (with_reducible exact impl_sumOf.mono _ _)
      | (with_reducible exact LeO.refl _)
      | (with_reducible exact LeO.none _)
      | (with_reducible refine LeO.ite ?_ ?_)
      | (with_reducible refine LeO.bind ?_ (fun _ => ?_))
      | exact ih0 _ _
      | exact ih1 _ _ _ _
      | exact impl_PartsValid.mono _ _
      | exact impl_sumOf.mono _ _
      | exact LeO.none _
      | refine LeO.ite ?_ ?_
      | refine LeO.bind ?_ (fun _ => ?_)
theorem impl_typesSum.mono : ∀ a0 k, LeO (impl_typesSum.f k a0) (impl_typesSum.f (k + 1) a0) := by
  intro a0 k
  obtain ⟨ih0, ih1⟩ := impl_typesSum.mono_l k
  unfold impl_typesSum.f
  repeat' first
      | (with_reducible exact ih0 _ _)
      | (with_reducible exact ih1 _ _ _ _)
      | (with_reducible exact impl_PartsValid.mono _ _)
      | (with_reducible exact impl_sumOf.mono _ _)
      | (with_reducible exact LeO.refl _)
      | (with_reducible exact LeO.none _)
      | (with_reducible refine LeO.ite ?_ ?_)
      | (with_reducible refine LeO.bind ?_ (fun _ => ?_))
      | exact ih0 _ _
      | exact ih1 _ _ _ _
      | exact impl_PartsValid.mono _ _
      | exact impl_sumOf.mono _ _
      | exact LeO.none _
      | refine LeO.ite ?_ ?_
      | refine LeO.bind ?_ (fun _ => ?_)
set_option maxHeartbeats 8000000 in
set_option maxRecDepth 100000 in
theorem impl_typesSum.calls (k : Nat) (A0 : Option Addr) (c0 : Nat) (l0 : List (List Int)) (r : Int) (w : World) (hr0 : Kd.C (Kd.slice 3 (Kd.int .i64)) w A0 l0.length l0) (hc0 : l0.length ≤ c0) (h : impl_typesSum.f k l0 = some r) :
    Calls Try.prog 17 #[.slice A0 l0.length c0] w fun e w' => e = .returned (.int .i64 r) ∧ Drawn0 w w' := by
  have HR0 := Aside0.mk hr0
  have HC0 := Aside0.mk hc0
  clear hr0 hc0
  have H : (if (l0.length : Int) < 1 then (impl_typesSum.j0 k l0 true) else (impl_typesSum.j0 k l0 (decide ((l0.length : Int) > 6)))) = some r := h
  clear h
  have HC2 := Aside0.mk H
  clear H
  go_enter Try.func17, Try.ntmps17
  go_upto_region 1 with (fail)
  repeat (go_quiet (fail); go_upto_region 1 with (fail))
  go_cut [12] (fun v12 wc => ∃ (kq : Nat) (x12_1 : Bool), v12 = .bool x12_1 ∧ Aside0 (impl_typesSum.j0 kq l0 x12_1 = some r) ∧ Aside0 (kq ≤ k) ∧ Drawn0 w wc)
  case first =>
    have H := HC2.out
    clear HC2
    by_cases c3 : (l0.length : Int) < 1
    · rw [if_pos c3] at H
      have c3b0 : decide ((l0.length : Int) < 1) = true := decide_eq_true c3
      have c3b1 : decide (l0.length < 1) = true := decide_eq_true (by omega)
      clear c3
      (first | rw [c3b0] | (simp only [i64_w, i32_w]; rw [c3b0]) | skip)
      have H' := Aside0.mk H
      clear H
      go_wp2
      repeat (go_quiet (fail); try go_wp2)
      go_meet
      case rel => exact ⟨_, (true), (by first | rfl | (simp; done) | (simp [*]; done)), H', ⟨by first | omega | exact Nat.le_refl _⟩, by repeat (first | exact Drawn0.refl _ | apply Drawn0.step)⟩
    · rw [if_neg c3] at H
      have c3b0 : decide ((l0.length : Int) < 1) = false := decide_eq_false c3
      have c3b1 : decide (l0.length < 1) = false := decide_eq_false (by omega)
      clear c3
      (first | rw [c3b0] | (simp only [i64_w, i32_w]; rw [c3b0]) | skip)
      have H' := Aside0.mk H
      clear H
      go_wp2
      repeat (go_quiet (fail); try go_wp2)
      go_meet
      case rel => exact ⟨_, (decide ((l0.length : Int) > 6)), (by first | rfl | (simp; done) | (simp [*]; done)), H', ⟨by first | omega | exact Nat.le_refl _⟩, by repeat (first | exact Drawn0.refl _ | apply Drawn0.step)⟩
  case rest =>
    clear HC2
    try clear c1
    try clear p2
    try clear c3
    try clear c3b0
    try clear c3b1
    obtain ⟨kq, x12_1, rfl, HA, HJ1, ⟨mc1, rfl⟩⟩ := hcut
    cases kq with
    | zero => exact absurd HA.out (by simp [impl_typesSum.j0])
    | succ kj1 =>
      have H := HA.out
      clear HA
      simp only [impl_typesSum.j0] at H
      by_cases c4 : x12_1 = true
      · subst c4
        have H1 : (some (-1)) = some r := by rw [if_pos rfl] at H; exact H
        clear H
        have H := H1
        clear H1
        obtain rfl := Option.some.inj H
        go_wp2
        repeat (go_quiet (fail); try go_wp2)
        go_ret
        exact ⟨by first | rfl | (simp; done) | (simp [*]; done), by repeat (first | exact Drawn0.refl _ | apply Drawn0.step)⟩
      · replace c4 := Bool.eq_false_iff.mpr c4
        subst c4
        have H1 : (impl_typesSum.l0 kj1 l0 l0 (l0.length : Int) 0) = some r := by rw [if_neg (show ¬ (false = true) by decide)] at H; exact H
        clear H
        have H := H1
        clear H1
        have H' := Aside0.mk H
        clear H
        go_wp2
        repeat (go_quiet (fail); try go_wp2)
        go_loopg [15] kj1 (fun kq v15 w' => ∃ (x15_2 : Int), v15 = .int .i64 x15_2 ∧ Aside0 (impl_typesSum.l0 kq l0 l0 (l0.length : Int) x15_2 = some r) ∧ Aside0 (kq ≤ kj1) ∧ Drawn0 w w')
        case atStart => exact ⟨(0), (by first | rfl | (simp; done) | (simp [*]; done)), H', ⟨Nat.le_refl _⟩, by repeat (first | exact Drawn0.refl _ | apply Drawn0.step)⟩
        case round =>
          clear H'
          try clear c1
          try clear p2
          try clear c3
          try clear c3b0
          try clear c3b1
          try clear c4
          try clear p2
          obtain ⟨x15_2, rfl, HA, HK2, ⟨m2, rfl⟩⟩ := hrel
          cases gk with
          | zero => exact absurd HA.out (by simp [impl_typesSum.l0])
          | succ k2 =>
            have H := HA.out
            clear HA
            simp only [impl_typesSum.l0] at H
            by_cases c5 : x15_2 < (l0.length : Int)
            · rw [if_pos c5] at H
              have c5b0 : decide (x15_2 < (l0.length : Int)) = true := decide_eq_true c5
              clear c5
              by_cases c6 : 0 ≤ x15_2
              · rw [if_pos c6] at H
                have c6b0 : decide (0 ≤ x15_2) = true := decide_eq_true c6
                clear c6
                by_cases c7 : x15_2 < (l0.length : Int)
                · rw [if_pos c7] at H
                  have c7b0 : decide (x15_2 < (l0.length : Int)) = true := decide_eq_true c7
                  clear c7
                  replace H := Option.bind_eq_some_iff.mp H
                  obtain ⟨t215, A80, H⟩ := H
                  replace H : (if t215 = true then ((impl_sumOf.f k2 (rd_L1 l0 x15_2)).bind fun t216 => (if 0 < (l0.length : Int) then ((impl_sumOf.f k2 (rd_L1 l0 0)).bind fun t218 => (if t216 = t218 then (impl_typesSum.l0 k2 l0 l0 (l0.length : Int) (wrap64 (x15_2 + 1))) else (some (-1)))) else (none))) else (some (-1))) = some r := H
                  have A8 := Aside0.mk A80
                  clear A80
                  by_cases c9 : t215 = true
                  · subst c9
                    have H1 : ((impl_sumOf.f k2 (rd_L1 l0 x15_2)).bind fun t216 => (if 0 < (l0.length : Int) then ((impl_sumOf.f k2 (rd_L1 l0 0)).bind fun t218 => (if t216 = t218 then (impl_typesSum.l0 k2 l0 l0 (l0.length : Int) (wrap64 (x15_2 + 1))) else (some (-1)))) else (none))) = some r := by rw [if_pos rfl] at H; exact H
                    clear H
                    have H := H1
                    clear H1
                    replace H := Option.bind_eq_some_iff.mp H
                    obtain ⟨t216, A100, H⟩ := H
                    replace H : (if 0 < (l0.length : Int) then ((impl_sumOf.f k2 (rd_L1 l0 0)).bind fun t218 => (if t216 = t218 then (impl_typesSum.l0 k2 l0 l0 (l0.length : Int) (wrap64 (x15_2 + 1))) else (some (-1)))) else (none)) = some r := H
                    have A10 := Aside0.mk A100
                    clear A100
                    by_cases c11 : 0 < (l0.length : Int)
                    · rw [if_pos c11] at H
                      have c11b0 : decide (0 < (l0.length : Int)) = true := decide_eq_true c11
                      have c11b1 : decide (0 < l0.length) = true := decide_eq_true (by omega)
                      clear c11
                      replace H := Option.bind_eq_some_iff.mp H
                      obtain ⟨t218, A120, H⟩ := H
                      replace H : (if t216 = t218 then (impl_typesSum.l0 k2 l0 l0 (l0.length : Int) (wrap64 (x15_2 + 1))) else (some (-1))) = some r := H
                      have A12 := Aside0.mk A120
                      clear A120
                      by_cases c13 : t216 = t218
                      · rw [if_pos c13] at H
                        have c13b0 : (t216 == t218) = true := beq_iff_eq.mpr c13
                        have c13b1 : (t216 != t218) = false := bne_eq_false_iff_eq.mpr c13
                        clear c13
                        have H' := Aside0.mk H
                        clear H
                        have p214 : 0 ≤ (x15_2 : Int) := of_decide_eq_true (by first | (with_reducible assumption) | assumption)
                        have q214 : x15_2 < (l0.length : Int) := of_decide_eq_true (by first | (with_reducible assumption) | assumption)
                        obtain ⟨ad214, A214_0, c214_0, e214, hx214_0, hl214_0, hi214_0⟩ := at_L1 HR0.out x15_2 p214 q214
                        cases e214
                        have HR214_0 := Aside0.mk hi214_0
                        have HC214_0 := Aside0.mk hl214_0
                        clear hi214_0 hl214_0
                        replace p214 := eq_true p214
                        replace q214 := eq_true q214
                        go_wp2_with (first | (go_at_call 31; (with_reducible refine (impl_PartsValid.calls k2 _ _ (rd_L1 l0 x15_2) true _ ?side1 ?side2 A8.out).mono ?_); (case side1 => repeat (first | exact HR214_0.out | (with_reducible refine Kd.C_alloc ?_ _) | (with_reducible refine Kd.C_drewN ?_ _) | (with_reducible refine Kd.C_drew ?_))); (case side2 => exact HC214_0.out); rintro e w' ⟨rfl, ⟨nd, rfl⟩⟩; (try first | exact ⟨rfl, _, World.drewN_drewN _ _ _⟩ | exact ⟨rfl, _, Eq.trans (World.drewN_drewN _ _ _) (congrArg (World.drewN _) (Nat.add_assoc _ _ _))⟩)) | (go_at_call 32; (with_reducible refine (impl_sumOf.calls k2 _ _ (rd_L1 l0 x15_2) t216 _ ?side1 ?side2 A10.out).mono ?_); (case side1 => repeat (first | exact HR214_0.out | (with_reducible refine Kd.C_alloc ?_ _) | (with_reducible refine Kd.C_drewN ?_ _) | (with_reducible refine Kd.C_drew ?_))); (case side2 => exact HC214_0.out); rintro e w' ⟨rfl, ⟨nd, rfl⟩⟩; (try first | exact ⟨rfl, _, World.drewN_drewN _ _ _⟩ | exact ⟨rfl, _, Eq.trans (World.drewN_drewN _ _ _) (congrArg (World.drewN _) (Nat.add_assoc _ _ _))⟩); have p217 : 0 ≤ (0 : Int) := (by omega); have q217 : 0 < (l0.length : Int) := of_decide_eq_true (by first | (with_reducible assumption) | assumption); obtain ⟨ad217, A217_0, c217_0, e217, hx217_0, hl217_0, hi217_0⟩ := at_L1 HR0.out 0 p217 q217; obtain rfl : ad214 = ad217 := (by injection e217); have qi217 : (0 < l0.length) = True := eq_true (by omega); (try rw [show ((0 : Int)).toNat = 0 from rfl] at hx217_0); (try rw [Addr.add_zero'] at hx217_0); have HR217_0 := Aside0.mk hi217_0; have HC217_0 := Aside0.mk hl217_0; clear hi217_0 hl217_0; replace p217 := eq_true p217; replace q217 := eq_true q217) | (go_at_call 32; (with_reducible refine (impl_sumOf.calls k2 _ _ (rd_L1 l0 0) t218 _ ?side1 ?side2 A12.out).mono ?_); (case side1 => repeat (first | exact HR217_0.out | (with_reducible refine Kd.C_alloc ?_ _) | (with_reducible refine Kd.C_drewN ?_ _) | (with_reducible refine Kd.C_drew ?_))); (case side2 => exact HC217_0.out); rintro e w' ⟨rfl, ⟨nd, rfl⟩⟩; (try first | exact ⟨rfl, _, World.drewN_drewN _ _ _⟩ | exact ⟨rfl, _, Eq.trans (World.drewN_drewN _ _ _) (congrArg (World.drewN _) (Nat.add_assoc _ _ _))⟩)))
                        repeat (go_quiet (first | (go_at_call 31; (with_reducible refine (impl_PartsValid.calls k2 _ _ (rd_L1 l0 x15_2) true _ ?side1 ?side2 A8.out).mono ?_); (case side1 => repeat (first | exact HR214_0.out | (with_reducible refine Kd.C_alloc ?_ _) | (with_reducible refine Kd.C_drewN ?_ _) | (with_reducible refine Kd.C_drew ?_))); (case side2 => exact HC214_0.out); rintro e w' ⟨rfl, ⟨nd, rfl⟩⟩; (try first | exact ⟨rfl, _, World.drewN_drewN _ _ _⟩ | exact ⟨rfl, _, Eq.trans (World.drewN_drewN _ _ _) (congrArg (World.drewN _) (Nat.add_assoc _ _ _))⟩)) | (go_at_call 32; (with_reducible refine (impl_sumOf.calls k2 _ _ (rd_L1 l0 x15_2) t216 _ ?side1 ?side2 A10.out).mono ?_); (case side1 => repeat (first | exact HR214_0.out | (with_reducible refine Kd.C_alloc ?_ _) | (with_reducible refine Kd.C_drewN ?_ _) | (with_reducible refine Kd.C_drew ?_))); (case side2 => exact HC214_0.out); rintro e w' ⟨rfl, ⟨nd, rfl⟩⟩; (try first | exact ⟨rfl, _, World.drewN_drewN _ _ _⟩ | exact ⟨rfl, _, Eq.trans (World.drewN_drewN _ _ _) (congrArg (World.drewN _) (Nat.add_assoc _ _ _))⟩); have p217 : 0 ≤ (0 : Int) := (by omega); have q217 : 0 < (l0.length : Int) := of_decide_eq_true (by first | (with_reducible assumption) | assumption); obtain ⟨ad217, A217_0, c217_0, e217, hx217_0, hl217_0, hi217_0⟩ := at_L1 HR0.out 0 p217 q217; obtain rfl : ad214 = ad217 := (by injection e217); have qi217 : (0 < l0.length) = True := eq_true (by omega); (try rw [show ((0 : Int)).toNat = 0 from rfl] at hx217_0); (try rw [Addr.add_zero'] at hx217_0); have HR217_0 := Aside0.mk hi217_0; have HC217_0 := Aside0.mk hl217_0; clear hi217_0 hl217_0; replace p217 := eq_true p217; replace q217 := eq_true q217) | (go_at_call 32; (with_reducible refine (impl_sumOf.calls k2 _ _ (rd_L1 l0 0) t218 _ ?side1 ?side2 A12.out).mono ?_); (case side1 => repeat (first | exact HR217_0.out | (with_reducible refine Kd.C_alloc ?_ _) | (with_reducible refine Kd.C_drewN ?_ _) | (with_reducible refine Kd.C_drew ?_))); (case side2 => exact HC217_0.out); rintro e w' ⟨rfl, ⟨nd, rfl⟩⟩; (try first | exact ⟨rfl, _, World.drewN_drewN _ _ _⟩ | exact ⟨rfl, _, Eq.trans (World.drewN_drewN _ _ _) (congrArg (World.drewN _) (Nat.add_assoc _ _ _))⟩))); try go_wp2_with (first | (go_at_call 31; (with_reducible refine (impl_PartsValid.calls k2 _ _ (rd_L1 l0 x15_2) true _ ?side1 ?side2 A8.out).mono ?_); (case side1 => repeat (first | exact HR214_0.out | (with_reducible refine Kd.C_alloc ?_ _) | (with_reducible refine Kd.C_drewN ?_ _) | (with_reducible refine Kd.C_drew ?_))); (case side2 => exact HC214_0.out); rintro e w' ⟨rfl, ⟨nd, rfl⟩⟩; (try first | exact ⟨rfl, _, World.drewN_drewN _ _ _⟩ | exact ⟨rfl, _, Eq.trans (World.drewN_drewN _ _ _) (congrArg (World.drewN _) (Nat.add_assoc _ _ _))⟩)) | (go_at_call 32; (with_reducible refine (impl_sumOf.calls k2 _ _ (rd_L1 l0 x15_2) t216 _ ?side1 ?side2 A10.out).mono ?_); (case side1 => repeat (first | exact HR214_0.out | (with_reducible refine Kd.C_alloc ?_ _) | (with_reducible refine Kd.C_drewN ?_ _) | (with_reducible refine Kd.C_drew ?_))); (case side2 => exact HC214_0.out); rintro e w' ⟨rfl, ⟨nd, rfl⟩⟩; (try first | exact ⟨rfl, _, World.drewN_drewN _ _ _⟩ | exact ⟨rfl, _, Eq.trans (World.drewN_drewN _ _ _) (congrArg (World.drewN _) (Nat.add_assoc _ _ _))⟩); have p217 : 0 ≤ (0 : Int) := (by omega); have q217 : 0 < (l0.length : Int) := of_decide_eq_true (by first | (with_reducible assumption) | assumption); obtain ⟨ad217, A217_0, c217_0, e217, hx217_0, hl217_0, hi217_0⟩ := at_L1 HR0.out 0 p217 q217; obtain rfl : ad214 = ad217 := (by injection e217); have qi217 : (0 < l0.length) = True := eq_true (by omega); (try rw [show ((0 : Int)).toNat = 0 from rfl] at hx217_0); (try rw [Addr.add_zero'] at hx217_0); have HR217_0 := Aside0.mk hi217_0; have HC217_0 := Aside0.mk hl217_0; clear hi217_0 hl217_0; replace p217 := eq_true p217; replace q217 := eq_true q217) | (go_at_call 32; (with_reducible refine (impl_sumOf.calls k2 _ _ (rd_L1 l0 0) t218 _ ?side1 ?side2 A12.out).mono ?_); (case side1 => repeat (first | exact HR217_0.out | (with_reducible refine Kd.C_alloc ?_ _) | (with_reducible refine Kd.C_drewN ?_ _) | (with_reducible refine Kd.C_drew ?_))); (case side2 => exact HC217_0.out); rintro e w' ⟨rfl, ⟨nd, rfl⟩⟩; (try first | exact ⟨rfl, _, World.drewN_drewN _ _ _⟩ | exact ⟨rfl, _, Eq.trans (World.drewN_drewN _ _ _) (congrArg (World.drewN _) (Nat.add_assoc _ _ _))⟩))))
                        go_roundg k2
                        case measure => have := HJ1.out; have := HK2.out; omega
                        case rel => exact ⟨(wrap64 (x15_2 + 1)), (by first | rfl | (simp; done) | (simp [*]; done)), H', ⟨by have := HJ1.out; have := HK2.out; omega⟩, by repeat (first | exact Drawn0.refl _ | apply Drawn0.step)⟩
                      · rw [if_neg c13] at H
                        have c13b0 : (t216 == t218) = false := beq_eq_false_iff_ne.mpr c13
                        have c13b1 : (t216 != t218) = true := bne_iff_ne.mpr c13
                        obtain rfl := Option.some.inj H
                        have p214 : 0 ≤ (x15_2 : Int) := of_decide_eq_true (by first | (with_reducible assumption) | assumption)
                        have q214 : x15_2 < (l0.length : Int) := of_decide_eq_true (by first | (with_reducible assumption) | assumption)
                        obtain ⟨ad214, A214_0, c214_0, e214, hx214_0, hl214_0, hi214_0⟩ := at_L1 HR0.out x15_2 p214 q214
                        cases e214
                        have HR214_0 := Aside0.mk hi214_0
                        have HC214_0 := Aside0.mk hl214_0
                        clear hi214_0 hl214_0
                        replace p214 := eq_true p214
                        replace q214 := eq_true q214
                        go_wp2_with (first | (go_at_call 31; (with_reducible refine (impl_PartsValid.calls k2 _ _ (rd_L1 l0 x15_2) true _ ?side1 ?side2 A8.out).mono ?_); (case side1 => repeat (first | exact HR214_0.out | (with_reducible refine Kd.C_alloc ?_ _) | (with_reducible refine Kd.C_drewN ?_ _) | (with_reducible refine Kd.C_drew ?_))); (case side2 => exact HC214_0.out); rintro e w' ⟨rfl, ⟨nd, rfl⟩⟩; (try first | exact ⟨rfl, _, World.drewN_drewN _ _ _⟩ | exact ⟨rfl, _, Eq.trans (World.drewN_drewN _ _ _) (congrArg (World.drewN _) (Nat.add_assoc _ _ _))⟩)) | (go_at_call 32; (with_reducible refine (impl_sumOf.calls k2 _ _ (rd_L1 l0 x15_2) t216 _ ?side1 ?side2 A10.out).mono ?_); (case side1 => repeat (first | exact HR214_0.out | (with_reducible refine Kd.C_alloc ?_ _) | (with_reducible refine Kd.C_drewN ?_ _) | (with_reducible refine Kd.C_drew ?_))); (case side2 => exact HC214_0.out); rintro e w' ⟨rfl, ⟨nd, rfl⟩⟩; (try first | exact ⟨rfl, _, World.drewN_drewN _ _ _⟩ | exact ⟨rfl, _, Eq.trans (World.drewN_drewN _ _ _) (congrArg (World.drewN _) (Nat.add_assoc _ _ _))⟩); have p217 : 0 ≤ (0 : Int) := (by omega); have q217 : 0 < (l0.length : Int) := of_decide_eq_true (by first | (with_reducible assumption) | assumption); obtain ⟨ad217, A217_0, c217_0, e217, hx217_0, hl217_0, hi217_0⟩ := at_L1 HR0.out 0 p217 q217; obtain rfl : ad214 = ad217 := (by injection e217); have qi217 : (0 < l0.length) = True := eq_true (by omega); (try rw [show ((0 : Int)).toNat = 0 from rfl] at hx217_0); (try rw [Addr.add_zero'] at hx217_0); have HR217_0 := Aside0.mk hi217_0; have HC217_0 := Aside0.mk hl217_0; clear hi217_0 hl217_0; replace p217 := eq_true p217; replace q217 := eq_true q217) | (go_at_call 32; (with_reducible refine (impl_sumOf.calls k2 _ _ (rd_L1 l0 0) t218 _ ?side1 ?side2 A12.out).mono ?_); (case side1 => repeat (first | exact HR217_0.out | (with_reducible refine Kd.C_alloc ?_ _) | (with_reducible refine Kd.C_drewN ?_ _) | (with_reducible refine Kd.C_drew ?_))); (case side2 => exact HC217_0.out); rintro e w' ⟨rfl, ⟨nd, rfl⟩⟩; (try first | exact ⟨rfl, _, World.drewN_drewN _ _ _⟩ | exact ⟨rfl, _, Eq.trans (World.drewN_drewN _ _ _) (congrArg (World.drewN _) (Nat.add_assoc _ _ _))⟩)))
                        repeat (go_quiet (first | (go_at_call 31; (with_reducible refine (impl_PartsValid.calls k2 _ _ (rd_L1 l0 x15_2) true _ ?side1 ?side2 A8.out).mono ?_); (case side1 => repeat (first | exact HR214_0.out | (with_reducible refine Kd.C_alloc ?_ _) | (with_reducible refine Kd.C_drewN ?_ _) | (with_reducible refine Kd.C_drew ?_))); (case side2 => exact HC214_0.out); rintro e w' ⟨rfl, ⟨nd, rfl⟩⟩; (try first | exact ⟨rfl, _, World.drewN_drewN _ _ _⟩ | exact ⟨rfl, _, Eq.trans (World.drewN_drewN _ _ _) (congrArg (World.drewN _) (Nat.add_assoc _ _ _))⟩)) | (go_at_call 32; (with_reducible refine (impl_sumOf.calls k2 _ _ (rd_L1 l0 x15_2) t216 _ ?side1 ?side2 A10.out).mono ?_); (case side1 => repeat (first | exact HR214_0.out | (with_reducible refine Kd.C_alloc ?_ _) | (with_reducible refine Kd.C_drewN ?_ _) | (with_reducible refine Kd.C_drew ?_))); (case side2 => exact HC214_0.out); rintro e w' ⟨rfl, ⟨nd, rfl⟩⟩; (try first | exact ⟨rfl, _, World.drewN_drewN _ _ _⟩ | exact ⟨rfl, _, Eq.trans (World.drewN_drewN _ _ _) (congrArg (World.drewN _) (Nat.add_assoc _ _ _))⟩); have p217 : 0 ≤ (0 : Int) := (by omega); have q217 : 0 < (l0.length : Int) := of_decide_eq_true (by first | (with_reducible assumption) | assumption); obtain ⟨ad217, A217_0, c217_0, e217, hx217_0, hl217_0, hi217_0⟩ := at_L1 HR0.out 0 p217 q217; obtain rfl : ad214 = ad217 := (by injection e217); have qi217 : (0 < l0.length) = True := eq_true (by omega); (try rw [show ((0 : Int)).toNat = 0 from rfl] at hx217_0); (try rw [Addr.add_zero'] at hx217_0); have HR217_0 := Aside0.mk hi217_0; have HC217_0 := Aside0.mk hl217_0; clear hi217_0 hl217_0; replace p217 := eq_true p217; replace q217 := eq_true q217) | (go_at_call 32; (with_reducible refine (impl_sumOf.calls k2 _ _ (rd_L1 l0 0) t218 _ ?side1 ?side2 A12.out).mono ?_); (case side1 => repeat (first | exact HR217_0.out | (with_reducible refine Kd.C_alloc ?_ _) | (with_reducible refine Kd.C_drewN ?_ _) | (with_reducible refine Kd.C_drew ?_))); (case side2 => exact HC217_0.out); rintro e w' ⟨rfl, ⟨nd, rfl⟩⟩; (try first | exact ⟨rfl, _, World.drewN_drewN _ _ _⟩ | exact ⟨rfl, _, Eq.trans (World.drewN_drewN _ _ _) (congrArg (World.drewN _) (Nat.add_assoc _ _ _))⟩))); try go_wp2_with (first | (go_at_call 31; (with_reducible refine (impl_PartsValid.calls k2 _ _ (rd_L1 l0 x15_2) true _ ?side1 ?side2 A8.out).mono ?_); (case side1 => repeat (first | exact HR214_0.out | (with_reducible refine Kd.C_alloc ?_ _) | (with_reducible refine Kd.C_drewN ?_ _) | (with_reducible refine Kd.C_drew ?_))); (case side2 => exact HC214_0.out); rintro e w' ⟨rfl, ⟨nd, rfl⟩⟩; (try first | exact ⟨rfl, _, World.drewN_drewN _ _ _⟩ | exact ⟨rfl, _, Eq.trans (World.drewN_drewN _ _ _) (congrArg (World.drewN _) (Nat.add_assoc _ _ _))⟩)) | (go_at_call 32; (with_reducible refine (impl_sumOf.calls k2 _ _ (rd_L1 l0 x15_2) t216 _ ?side1 ?side2 A10.out).mono ?_); (case side1 => repeat (first | exact HR214_0.out | (with_reducible refine Kd.C_alloc ?_ _) | (with_reducible refine Kd.C_drewN ?_ _) | (with_reducible refine Kd.C_drew ?_))); (case side2 => exact HC214_0.out); rintro e w' ⟨rfl, ⟨nd, rfl⟩⟩; (try first | exact ⟨rfl, _, World.drewN_drewN _ _ _⟩ | exact ⟨rfl, _, Eq.trans (World.drewN_drewN _ _ _) (congrArg (World.drewN _) (Nat.add_assoc _ _ _))⟩); have p217 : 0 ≤ (0 : Int) := (by omega); have q217 : 0 < (l0.length : Int) := of_decide_eq_true (by first | (with_reducible assumption) | assumption); obtain ⟨ad217, A217_0, c217_0, e217, hx217_0, hl217_0, hi217_0⟩ := at_L1 HR0.out 0 p217 q217; obtain rfl : ad214 = ad217 := (by injection e217); have qi217 : (0 < l0.length) = True := eq_true (by omega); (try rw [show ((0 : Int)).toNat = 0 from rfl] at hx217_0); (try rw [Addr.add_zero'] at hx217_0); have HR217_0 := Aside0.mk hi217_0; have HC217_0 := Aside0.mk hl217_0; clear hi217_0 hl217_0; replace p217 := eq_true p217; replace q217 := eq_true q217) | (go_at_call 32; (with_reducible refine (impl_sumOf.calls k2 _ _ (rd_L1 l0 0) t218 _ ?side1 ?side2 A12.out).mono ?_); (case side1 => repeat (first | exact HR217_0.out | (with_reducible refine Kd.C_alloc ?_ _) | (with_reducible refine Kd.C_drewN ?_ _) | (with_reducible refine Kd.C_drew ?_))); (case side2 => exact HC217_0.out); rintro e w' ⟨rfl, ⟨nd, rfl⟩⟩; (try first | exact ⟨rfl, _, World.drewN_drewN _ _ _⟩ | exact ⟨rfl, _, Eq.trans (World.drewN_drewN _ _ _) (congrArg (World.drewN _) (Nat.add_assoc _ _ _))⟩))))
                        go_ret
                        exact ⟨by first | rfl | (simp; done) | (simp [*]; done), by repeat (first | exact Drawn0.refl _ | apply Drawn0.step)⟩
                    · rw [if_neg c11] at H
                      exact absurd H (by simp)
                  · replace c9 := Bool.eq_false_iff.mpr c9
                    subst c9
                    have H1 : (some (-1)) = some r := by rw [if_neg (show ¬ (false = true) by decide)] at H; exact H
                    clear H
                    have H := H1
                    clear H1
                    obtain rfl := Option.some.inj H
                    have p214 : 0 ≤ (x15_2 : Int) := of_decide_eq_true (by first | (with_reducible assumption) | assumption)
                    have q214 : x15_2 < (l0.length : Int) := of_decide_eq_true (by first | (with_reducible assumption) | assumption)
                    obtain ⟨ad214, A214_0, c214_0, e214, hx214_0, hl214_0, hi214_0⟩ := at_L1 HR0.out x15_2 p214 q214
                    cases e214
                    have HR214_0 := Aside0.mk hi214_0
                    have HC214_0 := Aside0.mk hl214_0
                    clear hi214_0 hl214_0
                    replace p214 := eq_true p214
                    replace q214 := eq_true q214
                    go_wp2_with (first | (go_at_call 31; (with_reducible refine (impl_PartsValid.calls k2 _ _ (rd_L1 l0 x15_2) false _ ?side1 ?side2 A8.out).mono ?_); (case side1 => repeat (first | exact HR214_0.out | (with_reducible refine Kd.C_alloc ?_ _) | (with_reducible refine Kd.C_drewN ?_ _) | (with_reducible refine Kd.C_drew ?_))); (case side2 => exact HC214_0.out); rintro e w' ⟨rfl, ⟨nd, rfl⟩⟩; (try first | exact ⟨rfl, _, World.drewN_drewN _ _ _⟩ | exact ⟨rfl, _, Eq.trans (World.drewN_drewN _ _ _) (congrArg (World.drewN _) (Nat.add_assoc _ _ _))⟩)))
                    repeat (go_quiet (first | (go_at_call 31; (with_reducible refine (impl_PartsValid.calls k2 _ _ (rd_L1 l0 x15_2) false _ ?side1 ?side2 A8.out).mono ?_); (case side1 => repeat (first | exact HR214_0.out | (with_reducible refine Kd.C_alloc ?_ _) | (with_reducible refine Kd.C_drewN ?_ _) | (with_reducible refine Kd.C_drew ?_))); (case side2 => exact HC214_0.out); rintro e w' ⟨rfl, ⟨nd, rfl⟩⟩; (try first | exact ⟨rfl, _, World.drewN_drewN _ _ _⟩ | exact ⟨rfl, _, Eq.trans (World.drewN_drewN _ _ _) (congrArg (World.drewN _) (Nat.add_assoc _ _ _))⟩))); try go_wp2_with (first | (go_at_call 31; (with_reducible refine (impl_PartsValid.calls k2 _ _ (rd_L1 l0 x15_2) false _ ?side1 ?side2 A8.out).mono ?_); (case side1 => repeat (first | exact HR214_0.out | (with_reducible refine Kd.C_alloc ?_ _) | (with_reducible refine Kd.C_drewN ?_ _) | (with_reducible refine Kd.C_drew ?_))); (case side2 => exact HC214_0.out); rintro e w' ⟨rfl, ⟨nd, rfl⟩⟩; (try first | exact ⟨rfl, _, World.drewN_drewN _ _ _⟩ | exact ⟨rfl, _, Eq.trans (World.drewN_drewN _ _ _) (congrArg (World.drewN _) (Nat.add_assoc _ _ _))⟩))))
                    go_ret
                    exact ⟨by first | rfl | (simp; done) | (simp [*]; done), by repeat (first | exact Drawn0.refl _ | apply Drawn0.step)⟩
                · rw [if_neg c7] at H
                  exact absurd H (by simp)
              · rw [if_neg c6] at H
                exact absurd H (by simp)
            · rw [if_neg c5] at H
              have c5b0 : decide (x15_2 < (l0.length : Int)) = false := decide_eq_false c5
              clear c5
              by_cases c14 : 0 < (l0.length : Int)
              · rw [if_pos c14] at H
                have c14b0 : decide (0 < (l0.length : Int)) = true := decide_eq_true c14
                have c14b1 : decide (0 < l0.length) = true := decide_eq_true (by omega)
                clear c14
                replace H := Option.bind_eq_some_iff.mp H
                obtain ⟨t213, A150, H⟩ := H
                replace H : (some t213) = some r := H
                have A15 := Aside0.mk A150
                clear A150
                obtain rfl := Option.some.inj H
                have p212 : 0 ≤ (0 : Int) := (by omega)
                have q212 : 0 < (l0.length : Int) := of_decide_eq_true (by first | (with_reducible assumption) | assumption)
                obtain ⟨ad212, A212_0, c212_0, e212, hx212_0, hl212_0, hi212_0⟩ := at_L1 HR0.out 0 p212 q212
                cases e212
                have qi212 : (0 < l0.length) = True := eq_true (by omega)
                (try rw [show ((0 : Int)).toNat = 0 from rfl] at hx212_0)
                (try rw [Addr.add_zero'] at hx212_0)
                have HR212_0 := Aside0.mk hi212_0
                have HC212_0 := Aside0.mk hl212_0
                clear hi212_0 hl212_0
                replace p212 := eq_true p212
                replace q212 := eq_true q212
                go_wp2_with (first | (go_at_call 32; (with_reducible refine (impl_sumOf.calls k2 _ _ (rd_L1 l0 0) t213 _ ?side1 ?side2 A15.out).mono ?_); (case side1 => repeat (first | exact HR212_0.out | (with_reducible refine Kd.C_alloc ?_ _) | (with_reducible refine Kd.C_drewN ?_ _) | (with_reducible refine Kd.C_drew ?_))); (case side2 => exact HC212_0.out); rintro e w' ⟨rfl, ⟨nd, rfl⟩⟩; (try first | exact ⟨rfl, _, World.drewN_drewN _ _ _⟩ | exact ⟨rfl, _, Eq.trans (World.drewN_drewN _ _ _) (congrArg (World.drewN _) (Nat.add_assoc _ _ _))⟩)))
                repeat (go_quiet (first | (go_at_call 32; (with_reducible refine (impl_sumOf.calls k2 _ _ (rd_L1 l0 0) t213 _ ?side1 ?side2 A15.out).mono ?_); (case side1 => repeat (first | exact HR212_0.out | (with_reducible refine Kd.C_alloc ?_ _) | (with_reducible refine Kd.C_drewN ?_ _) | (with_reducible refine Kd.C_drew ?_))); (case side2 => exact HC212_0.out); rintro e w' ⟨rfl, ⟨nd, rfl⟩⟩; (try first | exact ⟨rfl, _, World.drewN_drewN _ _ _⟩ | exact ⟨rfl, _, Eq.trans (World.drewN_drewN _ _ _) (congrArg (World.drewN _) (Nat.add_assoc _ _ _))⟩))); try go_wp2_with (first | (go_at_call 32; (with_reducible refine (impl_sumOf.calls k2 _ _ (rd_L1 l0 0) t213 _ ?side1 ?side2 A15.out).mono ?_); (case side1 => repeat (first | exact HR212_0.out | (with_reducible refine Kd.C_alloc ?_ _) | (with_reducible refine Kd.C_drewN ?_ _) | (with_reducible refine Kd.C_drew ?_))); (case side2 => exact HC212_0.out); rintro e w' ⟨rfl, ⟨nd, rfl⟩⟩; (try first | exact ⟨rfl, _, World.drewN_drewN _ _ _⟩ | exact ⟨rfl, _, Eq.trans (World.drewN_drewN _ _ _) (congrArg (World.drewN _) (Nat.add_assoc _ _ _))⟩))))
                go_ret
                exact ⟨by first | rfl | (simp; done) | (simp [*]; done), by repeat (first | exact Drawn0.refl _ | apply Drawn0.step)⟩
              · rw [if_neg c14] at H
                exact absurd H (by simp)

/-! ### impl_conjugate: function 36 -/
mutual
def impl_conjugate.l0 : Nat → List Int → List Int → Int → Int → Option (List Int)
  | 0, _, _, _, _ => none
  | k + 1, x3, x11, x12, x13 => if x13 < x12 then (if 0 ≤ x13 then (if x13 < (x11.length : Int) then (impl_conjugate.l1 k x3 x11 x12 x13 (rd x11 x13) 0) else (none)) else (none)) else (some x3)
def impl_conjugate.l1 : Nat → List Int → List Int → Int → Int → Int → Int → Option (List Int)
  | 0, _, _, _, _, _, _ => none
  | k + 1, x3, x11, x12, x13, x17, x18 => if x18 < x17 then (if 0 ≤ x18 then (if x18 < (x3.length : Int) then (impl_conjugate.l1 k (x3.set (x18 : Int).toNat (wrap64 ((rd x3 x18) + 1))) x11 x12 x13 x17 (wrap64 (x18 + 1))) else (none)) else (none)) else (impl_conjugate.l0 k x3 x11 x12 (wrap64 (x13 + 1)))
end
def impl_conjugate.f (k : Nat) (l0 : List Int) : Option (List Int) := if 0 < (l0.length : Int) then (if 0 ≤ (rd l0 0) then (if (rd l0 0 : Int).toNat ≤ 35184372088832 then (impl_conjugate.l0 k (List.replicate (rd l0 0 : Int).toNat 0) l0 (l0.length : Int) 0) else (none)) else (none)) else (none)
theorem impl_conjugate.mono_l : ∀ k, (∀ y0 y1 y2 y3, LeO (impl_conjugate.l0 k y0 y1 y2 y3) (impl_conjugate.l0 (k + 1) y0 y1 y2 y3)) ∧ (∀ y0 y1 y2 y3 y4 y5, LeO (impl_conjugate.l1 k y0 y1 y2 y3 y4 y5) (impl_conjugate.l1 (k + 1) y0 y1 y2 y3 y4 y5))
  | 0 => ⟨fun _ _ _ _ r h => by simp [impl_conjugate.l0] at h, fun _ _ _ _ _ _ r h => by simp [impl_conjugate.l1] at h⟩
  | k + 1 => by
    obtain ⟨ih0, ih1⟩ := impl_conjugate.mono_l k
    refine ⟨?_, ?_⟩
    · intro y0 y1 y2 y3
      unfold impl_conjugate.l0
      repeat' first
      | (with_reducible exact ih0 _ _ _ _)
      | (with_reducible exact ih1 _ _ _ _ _ _)
      | (with_reducible exact LeO.refl _)
      | (with_reducible exact LeO.none _)
      | (with_reducible refine LeO.ite ?_ ?_)
      | (with_reducible refine LeO.bind ?_ (fun _ => ?_))
      | exact ih0 _ _ _ _
      | exact ih1 _ _ _ _ _ _
      | exact LeO.none _
      | refine LeO.ite ?_ ?_
      | refine LeO.bind ?_ (fun _ => ?_)
    · intro y0 y1 y2 y3 y4 y5
      unfold impl_conjugate.l1
      repeat' first
      | (with_reducible exact ih0 _ _ _ _)
      | (with_reducible exact ih1 _ _ _ _ _ _)
      | (with_reducible exact LeO.refl _)
      | (with_reducible exact LeO.none _)
      | (with_reducible refine LeO.ite ?_ ?_)
      | (with_reducible refine LeO.bind ?_ (fun _ => ?_))
      | exact ih0 _ _ _ _
      | exact ih1 _ _ _ _ _ _
      | exact LeO.none _
      | refine LeO.ite ?_ ?_
      | refine LeO.bind ?_ (fun _ => ?_)
theorem impl_conjugate.mono : ∀ a0 k, LeO (impl_conjugate.f k a0) (impl_conjugate.f (k + 1) a0) := by
  intro a0 k
  obtain ⟨ih0, ih1⟩ := impl_conjugate.mono_l k
  unfold impl_conjugate.f
  repeat' first
      | (with_reducible exact ih0 _ _ _ _)
      | (with_reducible exact ih1 _ _ _ _ _ _)
      | (with_reducible exact LeO.refl _)
      | (with_reducible exact LeO.none _)
      | (with_reducible refine LeO.ite ?_ ?_)
      | (with_reducible refine LeO.bind ?_ (fun _ => ?_))
      | exact ih0 _ _ _ _
      | exact ih1 _ _ _ _ _ _
      | exact LeO.none _
      | refine LeO.ite ?_ ?_
      | refine LeO.bind ?_ (fun _ => ?_)
set_option maxHeartbeats 8000000 in
set_option maxRecDepth 100000 in
theorem impl_conjugate.calls (k : Nat) (A0 : Option Addr) (c0 : Nat) (l0 : List Int) (r : List Int) (w : World) (hr0 : Kd.C (Kd.int .i64) w A0 l0.length l0) (hc0 : l0.length ≤ c0) (h : impl_conjugate.f k l0 = some r) :
    Calls Try.prog 36 #[.slice A0 l0.length c0] w fun e w' => ∃ v0_ : Value, e = .returned (v0_) ∧ Kd.R (Kd.int .i64) 3 w' w.heap.size (fun _ => True) v0_ r ∧ Below w.heap.size w w' := by
  have HR0 := Aside0.mk hr0
  have HC0 := Aside0.mk hc0
  clear hr0 hc0
  have HB := Aside0.mk (Below.refl w.heap.size w)
  have H : (if 0 < (l0.length : Int) then (if 0 ≤ (rd l0 0) then (if (rd l0 0 : Int).toNat ≤ 35184372088832 then (impl_conjugate.l0 k (List.replicate (rd l0 0 : Int).toNat 0) l0 (l0.length : Int) 0) else (none)) else (none)) else (none)) = some r := h
  clear h
  by_cases c2 : 0 < (l0.length : Int)
  · rw [if_pos c2] at H
    have c2b0 : decide (0 < (l0.length : Int)) = true := decide_eq_true c2
    have c2b1 : decide (0 < l0.length) = true := decide_eq_true (by omega)
    clear c2
    by_cases c3 : 0 ≤ (rd l0 0)
    · rw [if_pos c3] at H
      have c3b0 := eq_true c3
      have c3b1 : decide (0 ≤ (rd l0 0)) = true := decide_eq_true c3
      clear c3
      by_cases c4 : (rd l0 0 : Int).toNat ≤ 35184372088832
      · rw [if_pos c4] at H
        have c4b0 := eq_true c4
        have c4b1 : decide ((rd l0 0 : Int).toNat ≤ 35184372088832) = true := decide_eq_true c4
        clear c4
        obtain ⟨y220, hy220⟩ : ∃ y_ : List Int, y_ = (List.replicate (rd l0 0 : Int).toNat 0) := ⟨_, rfl⟩
        replace H : (impl_conjugate.l0 k y220 l0 (l0.length : Int) 0) = some r := by first | (rw [hy220]; with_reducible exact H) | (have H2_ := (Option.bind_some _ _).symm.trans H; rw [hy220]; with_reducible exact H2_) | (have H2_ := (Option.bind_some _ _).symm.trans H; with_reducible exact H2_) | with_reducible exact H | (rw [hy220]; exact H) | exact H
        have Ny220 := Aside0.mk hy220
        clear hy220
        have H' := Aside0.mk H
        clear H
        have p219 : 0 ≤ (0 : Int) := (by omega)
        have q219 : 0 < (l0.length : Int) := of_decide_eq_true (by first | (with_reducible assumption) | assumption)
        obtain ⟨ad219, e219, hx219_0⟩ := Kd.at_int HR0.out 0 p219 q219
        cases e219
        have qi219 : (0 < l0.length) = True := eq_true (by omega)
        (try rw [show ((0 : Int)).toNat = 0 from rfl] at hx219_0)
        (try rw [Addr.add_zero'] at hx219_0)
        replace p219 := eq_true p219
        replace q219 := eq_true q219
        go_enter Try.func36, Try.ntmps36
        go_wp2_with (first | ((with_reducible refine gate_dst (N := 10) rfl ?_); refine Kd.R_make (Kd.int .i64) _ 3 rfl (N := 10) rfl 27 _ _ rfl (rd l0 0) rfl rfl Try.underlying27 (.int .i64 0) 8 info3 rfl (by decide) (by omega) 0 (ok := fun _ => True) (okp := fun _ => True) rfl (fun _ hk => hk) trivial (of_decide_eq_true (by first | (with_reducible assumption) | assumption)) (Nat.le_trans (Nat.mul_le_mul_right _ (of_decide_eq_true (by first | (with_reducible assumption) | assumption) : (rd l0 0).toNat ≤ 35184372088832)) (by omega)) (Below.refl _ _) (Nat.le_refl _) ?_; intro v221 w5 ho6 hb hg_ hnew_; clear hg_ hnew_; (first | rw [← Ny220.out] at ho6 | (simp only [Int.reduceToNat] at ho6; rw [← Ny220.out] at ho6)); have n0_ := Aside0.mk (Kd.R_lower ho6 (below_size (by repeat (first | (with_reducible first | exact HB.out | apply below_alloc | apply pw_below_drewN | apply below_drew1) | exact HB.out)))); have n1_ := Aside0.mk (below_step (by repeat (first | (with_reducible first | exact HB.out | apply below_alloc | apply pw_below_drewN | apply below_drew1) | exact HB.out)) hb); clear HB; have HO222 := n0_; have HB := n1_; clear n0_ n1_; clear hb ho6))
        go_loopg [13] k (fun kq v13 w' => ∃ (x3_1 : List Int) (x13_1 : Int), v13 = .int .i64 x13_1 ∧ Aside0 (impl_conjugate.l0 kq x3_1 l0 (l0.length : Int) x13_1 = some r) ∧ Aside0 (kq ≤ k) ∧ Aside0 (Kd.R (Kd.int .i64) 3 w' w.heap.size (fun _ => True) v221 x3_1) ∧ Aside0 (Below w.heap.size w w'))
        case atStart => exact ⟨(y220), (0), (by first | rfl | (simp; done) | (simp [*]; done)), H', ⟨Nat.le_refl _⟩, ⟨by (with_reducible repeat (first | apply Kd.R_alloc | apply Kd.R_drewN | apply Kd.R_drew)); exact HO222.out⟩, ⟨by repeat (first | (with_reducible first | exact HB.out | apply below_alloc | apply pw_below_drewN | apply below_drew1) | exact HB.out)⟩⟩
        case round =>
          clear H'
          try clear c2
          try clear c2b0
          try clear c2b1
          try clear p2
          try clear q2
          try clear hx2
          try clear qi2
          try clear c3
          try clear c3b0
          try clear c3b1
          try clear c4
          try clear c4b0
          try clear c4b1
          try clear hx219_0
          try clear p219
          try clear q219
          obtain ⟨x3_1, x13_1, rfl, HA, HK1, HO_3, HB⟩ := hrel
          cases gk with
          | zero => exact absurd HA.out (by simp [impl_conjugate.l0])
          | succ k1 =>
            have H := HA.out
            clear HA
            simp only [impl_conjugate.l0] at H
            by_cases c7 : x13_1 < (l0.length : Int)
            · rw [if_pos c7] at H
              have c7b0 : decide (x13_1 < (l0.length : Int)) = true := decide_eq_true c7
              clear c7
              by_cases c8 : 0 ≤ x13_1
              · rw [if_pos c8] at H
                have c8b0 : decide (0 ≤ x13_1) = true := decide_eq_true c8
                clear c8
                by_cases c9 : x13_1 < (l0.length : Int)
                · rw [if_pos c9] at H
                  have c9b0 : decide (x13_1 < (l0.length : Int)) = true := decide_eq_true c9
                  clear c9
                  have H' := Aside0.mk H
                  clear H
                  have p223 : 0 ≤ (x13_1 : Int) := of_decide_eq_true (by first | (with_reducible assumption) | assumption)
                  have q223 : x13_1 < (l0.length : Int) := of_decide_eq_true (by first | (with_reducible assumption) | assumption)
                  obtain ⟨ad223, e223, hx223_0⟩ := Kd.at_int HR0.out x13_1 p223 q223
                  obtain rfl : ad219 = ad223 := (by injection e223)
                  replace hx223_0 := (HB.out.cell (World.block_lt_of_cell? w _ hx223_0)).trans hx223_0
                  replace p223 := eq_true p223
                  replace q223 := eq_true q223
                  go_wp2
                  go_loopg [18] k1 (fun kq v18 w' => ∃ (x3_2 : List Int) (x18_2 : Int), v18 = .int .i64 x18_2 ∧ Aside0 (impl_conjugate.l1 kq x3_2 l0 (l0.length : Int) x13_1 (rd l0 x13_1) x18_2 = some r) ∧ Aside0 (kq ≤ k1) ∧ Aside0 (Kd.R (Kd.int .i64) 3 w' w.heap.size (fun _ => True) v221 x3_2) ∧ Aside0 (Below w.heap.size w w'))
                  case atStart => exact ⟨(x3_1), (0), (by first | rfl | (simp; done) | (simp [*]; done)), H', ⟨Nat.le_refl _⟩, ⟨by (with_reducible repeat (first | apply Kd.R_alloc | apply Kd.R_drewN | apply Kd.R_drew)); exact HO_3.out⟩, ⟨by repeat (first | (with_reducible first | exact HB.out | apply below_alloc | apply pw_below_drewN | apply below_drew1) | exact HB.out)⟩⟩
                  case round =>
                    clear H'
                    try clear c2
                    try clear c2b0
                    try clear c2b1
                    try clear p2
                    try clear q2
                    try clear hx2
                    try clear qi2
                    try clear c3
                    try clear c3b0
                    try clear c3b1
                    try clear c4
                    try clear c4b0
                    try clear c4b1
                    try clear c7
                    try clear c7b0
                    try clear c8
                    try clear c8b0
                    try clear c9
                    try clear c9b0
                    try clear hx219_0
                    try clear hx223_0
                    try clear p2
                    try clear p219
                    try clear p223
                    try clear q2
                    try clear q219
                    try clear q223
                    obtain ⟨x3_2, x18_2, rfl, HA, HK2, HO_3, HB⟩ := hrel
                    cases gk with
                    | zero => exact absurd HA.out (by simp [impl_conjugate.l1])
                    | succ k2 =>
                      have H := HA.out
                      clear HA
                      simp only [impl_conjugate.l1] at H
                      by_cases c10 : x18_2 < (rd l0 x13_1)
                      · rw [if_pos c10] at H
                        have c10b0 : decide (x18_2 < (rd l0 x13_1)) = true := decide_eq_true c10
                        clear c10
                        by_cases c11 : 0 ≤ x18_2
                        · rw [if_pos c11] at H
                          have c11b0 : decide (0 ≤ x18_2) = true := decide_eq_true c11
                          clear c11
                          by_cases c12 : x18_2 < (x3_2.length : Int)
                          · rw [if_pos c12] at H
                            have c12b0 : decide (x18_2 < (x3_2.length : Int)) = true := decide_eq_true c12
                            clear c12
                            obtain ⟨y225, hy225⟩ : ∃ y_ : List Int, y_ = (x3_2.set (x18_2 : Int).toNat (wrap64 ((rd x3_2 x18_2) + 1))) := ⟨_, rfl⟩
                            replace H : (impl_conjugate.l1 k2 y225 l0 (l0.length : Int) x13_1 (rd l0 x13_1) (wrap64 (x18_2 + 1))) = some r := by first | (rw [hy225]; with_reducible exact H) | (have H2_ := (Option.bind_some _ _).symm.trans H; rw [hy225]; with_reducible exact H2_) | (have H2_ := (Option.bind_some _ _).symm.trans H; with_reducible exact H2_) | with_reducible exact H | (rw [hy225]; exact H) | exact H
                            have Ny225 := Aside0.mk hy225
                            clear hy225
                            have H' := Aside0.mk H
                            clear H
                            obtain ⟨Ao14, co14, eo14⟩ := Kd.R_slice HO_3.out
                            subst eo14
                            have p224 : 0 ≤ (x18_2 : Int) := of_decide_eq_true (by first | (with_reducible assumption) | assumption)
                            have q224 : x18_2 < (x3_2.length : Int) := of_decide_eq_true (by first | (with_reducible assumption) | assumption)
                            obtain ⟨ad224, e224, hx224_0⟩ := Kd.at_int (Kd.R_reads' HO_3.out).2.2 x18_2 p224 q224
                            cases e224
                            replace p224 := eq_true p224
                            replace q224 := eq_true q224
                            have p13 : 0 ≤ (x18_2 : Int) := of_decide_eq_true (by first | (with_reducible assumption) | assumption)
                            have q13 : (x18_2 : Int) < ((x3_2.length : Int) : Int) := of_decide_eq_true (by first | (with_reducible assumption) | assumption)
                            obtain ⟨go13, co13, eo13, gb13, gl13, cl13, HG13⟩ := Kd.R_form HO_3.out (by omega)
                            (first | cases eo13 | (injection eo13 with ea_ en_ ec_; (first | subst ea_ | (injection ea_ with ea_; subst ea_)); subst ec_; clear en_))
                            have GB13 := Aside0.mk gb13
                            have GG13 := Aside0.mk HG13
                            clear gb13 gl13 HG13
                            (first | simp only [add_plain] at hx224_0 | skip)
                            obtain ⟨hx13_0, hf13_0⟩ := Kd.R_celln 0 HO_3.out (x18_2 : Int) p13 q13
                            replace p13 := eq_true p13
                            replace q13 := eq_true q13
                            have HP15 := Kd.R_putg HO_3.out (x18_2 : Int) (wrap64 ((rd x3_2 x18_2) + 1))
                            go_wp2_with (first | ((with_reducible refine gate_store (t := 3) (p := 26) rfl ?_); refine store_event (t := 3) (p := 26) (v := ?vo_w16) (w1 := (wr.setCell ⟨go13, (x18_2 : Int).toNat, none⟩ (.int .i64 (wrap64 ((rd x3_2 x18_2) + 1))))) ?hg ?ho ?hn ?hr ?_; (case ho => rfl); (case hg => rfl); (case hn => rfl); (case hr => first | (go_simp; done) | (go_simp; rfl)); intro w16 hw; have hg : wr.grownBy w16 (some go13) := (by rw [hw]; exact HP15.2); have hp_ : Kd.R (Kd.int .i64) 3 w16 w.heap.size (fun _ => True) (.slice (some ⟨go13, 0, none⟩) x3_2.length co14) y225 := (by rw [hw, Ny225.out]; exact HP15.1); clear HP15; have n0_ := Aside0.mk (hp_); have n1_ := Aside0.mk ((by rw [hw]; exact below_set (HB.out) GB13.out : Below w.heap.size w w16)); clear HO_3; clear HB; have HO_3 := n0_; have HB := n1_; clear n0_ n1_; clear hg hw hp_))
                            go_roundg k2
                            case measure => have := HK1.out; have := HK2.out; omega
                            case rel => exact ⟨(y225), (wrap64 (x18_2 + 1)), (by first | rfl | (simp; done) | (simp [*]; done)), H', ⟨by have := HK1.out; have := HK2.out; omega⟩, ⟨by (with_reducible repeat (first | apply Kd.R_alloc | apply Kd.R_drewN | apply Kd.R_drew)); exact HO_3.out⟩, ⟨by repeat (first | (with_reducible first | exact HB.out | apply below_alloc | apply pw_below_drewN | apply below_drew1) | exact HB.out)⟩⟩
                          · rw [if_neg c12] at H
                            exact absurd H (by simp)
                        · rw [if_neg c11] at H
                          exact absurd H (by simp)
                      · rw [if_neg c10] at H
                        have c10b0 : decide (x18_2 < (rd l0 x13_1)) = false := decide_eq_false c10
                        clear c10
                        have H' := Aside0.mk H
                        clear H
                        go_wp2
                        go_roundg k2
                        case measure => have := HK1.out; have := HK2.out; omega
                        case rel => exact ⟨(x3_2), (wrap64 (x13_1 + 1)), (by first | rfl | (simp; done) | (simp [*]; done)), H', ⟨by have := HK1.out; have := HK2.out; omega⟩, ⟨by (with_reducible repeat (first | apply Kd.R_alloc | apply Kd.R_drewN | apply Kd.R_drew)); exact HO_3.out⟩, ⟨by repeat (first | (with_reducible first | exact HB.out | apply below_alloc | apply pw_below_drewN | apply below_drew1) | exact HB.out)⟩⟩
                · rw [if_neg c9] at H
                  exact absurd H (by simp)
              · rw [if_neg c8] at H
                exact absurd H (by simp)
            · rw [if_neg c7] at H
              have c7b0 : decide (x13_1 < (l0.length : Int)) = false := decide_eq_false c7
              clear c7
              obtain rfl := Option.some.inj H
              go_wp2
              go_ret
              exact ⟨_, by first | rfl | (simp [errW_none, errW_some] <;> rfl) | (simp [*, errW_none, errW_some] <;> rfl), by (with_reducible repeat (first | apply Kd.R_alloc | apply Kd.R_drewN | apply Kd.R_drew)); exact HO_3.out, by repeat (first | (with_reducible first | exact HB.out | apply below_alloc | apply pw_below_drewN | apply below_drew1) | exact HB.out)⟩
      · rw [if_neg c4] at H
        exact absurd H (by simp)
    · rw [if_neg c3] at H
      exact absurd H (by simp)
  · rw [if_neg c2] at H
    exact absurd H (by simp)

end Go.Proofs.Ytehlokjlcbegoaa.Q
