import Derived.Test.YtkfeildndcdbaaaQ0
import Derived.Test.YtkfeildndcdbaaaQ37
import Derived.Maps.Keyed
import Derived.Maps.OwnOps
import Derived.Maps.Views
import Derived.Test.YtkfeildndcdbaaaQ38
import Derived.Test.YtkfeildndcdbaaaQ39
namespace Go.Proofs.Ytkfeildndcdbaaa.Q
open Go.RowKit Go.Proofs.YtkfeildndcdbaaaW.PrintWords Go.Proofs.YtkfeildndcdbaaaW.PrintLast Go.Proofs.YtkfeildndcdbaaaW.PrintMore
attribute [local go_sem] max2_int min2_int max_two min_two max_three min_three max_four min_four   -- for this text's walks alone
set_option linter.unusedVariables false
set_option linter.unusedSimpArgs false

/-! ### impl_ClassSize: function 31 (a section of my own) -/
def impl_ClassSize.lp (p : List Int) : Nat → Nat → (Int → Int) → Int → Option Int
  | 0, _, _, out => some out
  | d + 1, i, m, out => if 1 ≤ rd p i ∧ rd p i ≤ 1000 then (if wrap64 (rd p i * wrap64 (m (rd p i) + 1)) = 0 then none else impl_ClassSize.lp p d (i + 1) (fun y => if y = rd p i then wrap64 (m (rd p i) + 1) else m y) (wrap64 (Int.tdiv out (wrap64 (rd p i * wrap64 (m (rd p i) + 1)))))) else none
def impl_ClassSize.f (k : Nat) (l0 : List Int) : Option Int := (impl_PartsValid.f k l0).bind fun t => (if t = true then ((impl_sumOf.f k l0).bind fun s => ((impl_factorial.f k s).bind fun o => impl_ClassSize.lp l0 l0.length 0 (fun _ => 0) o)) else some (-1))
theorem impl_ClassSize.mono : ∀ a0 k, LeO (impl_ClassSize.f k a0) (impl_ClassSize.f (k + 1) a0) := by
  intro a0 k
  unfold impl_ClassSize.f
  repeat' first
  | (with_reducible exact impl_PartsValid.mono _ _)
  | (with_reducible exact impl_sumOf.mono _ _)
  | (with_reducible exact impl_factorial.mono _ _)
  | (with_reducible exact LeO.refl _)
  | (with_reducible refine LeO.ite ?_ ?_)
  | (with_reducible refine LeO.bind ?_ (fun _ => ?_))
open Go.Maps in
theorem impl_ClassSize.key : Keyed Try.prog 3 := int_keyed Try.underlying3
theorem impl_ClassSize.zero (w : World) : (zeroValue 3).run Try.prog w = .ok (.int .i64 0) w := by kernel_rfl
theorem impl_ClassSize.wf (x : Int) (h : 1 ≤ x ∧ x ≤ 1000) : (Lit.int .i64 x).wf = true := by
  have e1 : IntKind.i64.min = -9223372036854775808 := by decide
  have e2 : IntKind.i64.max = 9223372036854775807 := by decide
  simp only [Lit.wf, e1, e2, Bool.and_eq_true, decide_eq_true_eq]
  omega
set_option maxHeartbeats 8000000 in
set_option maxRecDepth 100000 in
theorem impl_ClassSize.calls (k : Nat) (A0 : Option Addr) (c0 : Nat) (l0 : List Int) (r : Int) (w : World) (hr0 : Kd.C (Kd.int .i64) w A0 l0.length l0) (hc0 : l0.length ≤ c0) (h : impl_ClassSize.f k l0 = some r) :
    Calls Try.prog 31 #[.slice A0 l0.length c0] w fun e w' => e = .returned (.int .i64 r) ∧ Below w.heap.size w w' := by
  have HR0 := Aside0.mk hr0
  have HC0 := Aside0.mk hc0
  clear hr0 hc0
  have HB := Aside0.mk (Below.refl w.heap.size w)
  have H : ((impl_PartsValid.f k l0).bind fun t => (if t = true then ((impl_sumOf.f k l0).bind fun s => ((impl_factorial.f k s).bind fun o => impl_ClassSize.lp l0 l0.length 0 (fun _ => 0) o)) else some (-1))) = some r := h
  clear h
  obtain ⟨t1, A20, H⟩ := Option.bind_eq_some_iff.mp H
  have A2 := Aside0.mk A20
  clear A20
  cases t1 with
  | false =>
    have hr : (-1 : Int) = r := by simpa using H
    subst hr
    clear H
    go_enter Try.func31, Try.ntmps31
    go_wp2_with (first | ((with_reducible refine gate_callee (f := 32) rfl ?_); refine goesL_ (some 8) rfl rfl Try.func32 (by kernel_rfl) rfl #[.slice A0 l0.length c0] rfl (by (try simp only [List.map_toArray, List.map_cons, List.map_nil]); first | done | rfl) ?_; (with_reducible refine (impl_PartsValid.calls k _ _ l0 false _ ?side1 ?side2 A2.out).mono ?_); (case side1 => repeat (first | exact HR0.out | (with_reducible refine Kd.C_alloc ?_ _) | (with_reducible refine Kd.C_drewN ?_ _) | (with_reducible refine Kd.C_drew ?_))); (case side2 => exact HC0.out); rintro e w' ⟨rfl, ⟨nd, rfl⟩⟩; refine ⟨_, rfl, ?_⟩))
    go_ret
    exact ⟨rfl, by repeat (first | (with_reducible first | exact HB.out | apply below_alloc | apply pw_below_drewN | apply below_drew1) | exact HB.out)⟩
  | true =>
    rw [if_pos rfl] at H
    obtain ⟨s1, A30, H2⟩ := Option.bind_eq_some_iff.mp H
    clear H
    have A3 := Aside0.mk A30
    clear A30
    obtain ⟨o1, A40, H3⟩ := Option.bind_eq_some_iff.mp H2
    clear H2
    have A4 := Aside0.mk A40
    clear A40
    have H' := Aside0.mk H3
    clear H3
    have hmm := @run_makeMap Try.prog
    go_enter Try.func31, Try.ntmps31
    go_wp2_with (first | ((with_reducible refine gate_callee (f := 32) rfl ?_); refine goesL_ (some 8) rfl rfl Try.func32 (by kernel_rfl) rfl #[.slice A0 l0.length c0] rfl (by (try simp only [List.map_toArray, List.map_cons, List.map_nil]); first | done | rfl) ?_; (with_reducible refine (impl_PartsValid.calls k _ _ l0 true _ ?side1 ?side2 A2.out).mono ?_); (case side1 => repeat (first | exact HR0.out | (with_reducible refine Kd.C_alloc ?_ _) | (with_reducible refine Kd.C_drewN ?_ _) | (with_reducible refine Kd.C_drew ?_))); (case side2 => exact HC0.out); rintro e w' ⟨rfl, ⟨nd, rfl⟩⟩; refine ⟨_, rfl, ?_⟩) | ((with_reducible refine gate_callee (f := 67) rfl ?_); refine goesL_ (some 11) rfl rfl Try.func67 (by kernel_rfl) rfl #[.slice A0 l0.length c0] rfl (by (try simp only [List.map_toArray, List.map_cons, List.map_nil]); first | done | rfl) ?_; (with_reducible refine (impl_sumOf.calls k _ _ l0 s1 _ ?side1 ?side2 A3.out).mono ?_); (case side1 => repeat (first | exact HR0.out | (with_reducible refine Kd.C_alloc ?_ _) | (with_reducible refine Kd.C_drewN ?_ _) | (with_reducible refine Kd.C_drew ?_))); (case side2 => exact HC0.out); rintro e w' ⟨rfl, ⟨nd, rfl⟩⟩; refine ⟨_, rfl, ?_⟩) | ((with_reducible refine gate_callee (f := 66) rfl ?_); refine goesL_ (some 12) rfl rfl Try.func66 (by kernel_rfl) rfl #[.int .i64 s1] rfl (by (try simp only [List.map_toArray, List.map_cons, List.map_nil]); first | done | rfl) ?_; (with_reducible refine (impl_factorial.calls k s1 o1 _ A4.out).mono ?_); rintro e w' ⟨rfl, ⟨nd, rfl⟩⟩; refine ⟨_, rfl, ?_⟩))
    go_loopg [3, 16] l0.length (fun d v3 v16 wr => ∃ (x o : Int) (m : Int → Int) (D : DataW Unit), v3 = .int .i64 o ∧ v16 = .int .i64 x ∧ Aside0 (0 ≤ x ∧ x + d = l0.length) ∧ Aside0 (impl_ClassSize.lp l0 d x.toNat m o = some r) ∧ Aside0 (wr.ownsMap Try.prog 3 (plainElem Try.prog 3) w.heap.size x.toNat D) ∧ Aside0 (Go.Maps.IsMap D) ∧ Aside0 (∀ y : Int, D.atKey (.int .i64 y) (.lit (.int .i64 0)) = .lit (.int .i64 (m y))) ∧ Aside0 (Below w.heap.size w wr))
    case atStart =>
      exact ⟨0, o1, fun _ => 0, .map [], rfl, rfl, ⟨by omega, by omega⟩, H', ⟨World.ownsMap_made (w.drewN _) _ _ _⟩, ⟨Go.Maps.isMap_empty⟩, ⟨fun y => rfl⟩, ⟨by repeat (first | (with_reducible first | exact HB.out | apply below_alloc | apply pw_below_drewN | apply below_drew1) | exact HB.out)⟩⟩
    case round =>
      clear H'
      obtain ⟨x, o, m, D, rfl, rfl, HX, HA, HO, HI, HD, HBc⟩ := hrel
      cases gk with
      | zero =>
        have c : decide (x < (l0.length : Int)) = false := decide_eq_false (by have := HX.out; omega)
        have hr : o = r := by have := HA.out; simpa only [impl_ClassSize.lp, Option.some.injEq] using this
        subst hr
        go_wp2
        go_ret
        exact ⟨rfl, HBc.out⟩
      | succ d =>
        have H := HA.out
        clear HA
        simp only [impl_ClassSize.lp] at H
        have hx0 : 0 ≤ x := by have := HX.out; omega
        have hx1 : x < (l0.length : Int) := by have := HX.out; omega
        rw [Int.toNat_of_nonneg hx0] at H
        obtain ⟨ad, e, hcell⟩ := Kd.at_int HR0.out x hx0 hx1
        cases e
        replace hcell := (HBc.out.cell (World.block_lt_of_cell? w _ hcell)).trans hcell
        obtain ⟨v, hv⟩ : ∃ v, v = rd l0 x := ⟨_, rfl⟩
        rw [← hv] at hcell H
        clear hv
        have hcx : decide (x < (l0.length : Int)) = true := decide_eq_true hx1
        replace hx0 := eq_true hx0
        replace hx1 := eq_true hx1
        by_cases hk : 1 ≤ v ∧ v ≤ 1000
        · rw [if_pos hk] at H
          have HKE := Aside0.mk (Go.Maps.keyOf_int_mk Try.underlying3 (impl_ClassSize.wf v hk))
          clear hk
          by_cases hz : wrap64 (v * wrap64 (m v + 1)) = 0
          · rw [if_pos hz] at H; cases H
          · rw [if_neg hz] at H
            have H' := Aside0.mk H
            clear H
            have hzb : (wrap64 (v * wrap64 (m v + 1)) == 0) = false := beq_eq_false_iff_ne.mpr hz
            have tok1 : True := trivial
            go_wp2_with (first | (at_lookup; have _t := tok1; refine wpList_lookup_own_int _ rfl _ _ 65 rfl 3 3 .i64 impl_ClassSize.key Try.underlying65 Try.underlying3 (impl_ClassSize.zero _) w.heap.size x.toNat D rfl HO.out _ _ rfl HKE.out ?_; intro c hat hwc; clear tok1; obtain rfl : c = m v := (by have := hat.symm.trans (HD.out v); simpa using this); clear hat hwc _t) | (at_mapUpdate; refine wpList_mapUpdate_own _ rfl _ _ _ 65 rfl 3 3 impl_ClassSize.key Try.underlying65 _ w.heap.size x.toNat D rfl HO.out (by have := HX.out; have := HR0.out.2.1; unfold maxLen; omega) _ _ _ rfl rfl HKE.out _ [] (plainElem_int Try.underlying3 (wrap64_wf _)) ?_; intro w1 hown1 hgrow1; have HO1 := Aside0.mk hown1; have HG1 := Aside0.mk hgrow1; clear hown1 hgrow1) | (at_lookup; refine wpList_lookup_own_int _ rfl _ _ 65 rfl 3 3 .i64 impl_ClassSize.key Try.underlying65 Try.underlying3 (impl_ClassSize.zero _) w.heap.size (x.toNat + 1) _ rfl HO1.out _ _ rfl HKE.out ?_; intro c hat hwc; obtain rfl : c = wrap64 (m v + 1) := (by have := hat.symm.trans (Go.Maps.atKey_put_same HI.out (show WideAt.IsKeyLit (.int .i64 v) from trivial) _ _); simpa using this); clear hat hwc))
            go_roundg d
            case measure => omega
            case rel =>
              have hw : wrap64 (x + 1) = x + 1 := by have := HX.out; have := HR0.out.2.1; unfold wrap64; omega
              refine ⟨wrap64 (x + 1), _, (fun y => if y = v then wrap64 (m v + 1) else m y), D.put (.int .i64 v) (.lit (.int .i64 (wrap64 (m v + 1)))), rfl, rfl, ⟨by rw [hw]; have := HX.out; omega⟩, ⟨?_⟩, ⟨?_⟩, ⟨HI.out.put _ _⟩, ⟨?_⟩, ⟨HBc.out.grown HG1.out HBc.out.size (fun j hj => by cases hj; exact Nat.le_refl _)⟩⟩
              · rw [hw, show (x + 1).toNat = x.toNat + 1 by have := HX.out; omega]; exact H'.out
              · rw [hw, show (x + 1).toNat = x.toNat + 1 by have := HX.out; omega]; exact HO1.out
              · intro y
                by_cases hy : y = v
                · subst hy
                  rw [Go.Maps.atKey_put_same HI.out (show WideAt.IsKeyLit (.int .i64 y) from trivial)]; simp
                · rw [Go.Maps.atKey_put_other (by simpa using hy), HD.out y]; simp [hy]
        · rw [if_neg hk] at H; cases H

end Go.Proofs.Ytkfeildndcdbaaa.Q
