import Derived.Test.YtehlokjlcbegoaaQ0
import Derived.Test.YtehlokjlcbegoaaQ2
import Derived.Test.YtehlokjlcbegoaaQ3
import Derived.Test.YtehlokjlcbegoaaQ4
namespace Go.Proofs.Ytehlokjlcbegoaa.Q
open Go.RowKit Go.Proofs.YtehlokjlcbegoaaW.PrintWords Go.Proofs.YtehlokjlcbegoaaW.PrintLast Go.Proofs.YtehlokjlcbegoaaW.PrintMore
attribute [local go_sem] max2_int min2_int max_two min_two max_three min_three max_four min_four   -- for this text's walks alone
set_option linter.unusedVariables false
set_option linter.unusedSimpArgs false

/-! ### laws_swapType: function 10 -/
def laws_swapType.l0 : Nat → Int → List Int → Int → Option (List Int)
  | 0, _, _, _ => none
  | k + 1, x0, x3, x4 => if x4 < x0 then (if x3.length < 17592186044416 then (laws_swapType.l0 k x0 (x3 ++ [1]) (wrap64 (x4 + 1))) else (none)) else (some x3)
def laws_swapType.f (k : Nat) (a0 : Int) : Option (List Int) := laws_swapType.l0 k a0 (([2] : List Int)) 2
theorem laws_swapType.mono_l : ∀ k, (∀ y0 y1 y2, LeO (laws_swapType.l0 k y0 y1 y2) (laws_swapType.l0 (k + 1) y0 y1 y2))
  | 0 => fun _ _ _ r h => by simp [laws_swapType.l0] at h
  | k + 1 => by
    have ih0 := laws_swapType.mono_l k
    · intro y0 y1 y2
      unfold laws_swapType.l0
      repeat' first
      | (with_reducible exact ih0 _ _ _)
      | (with_reducible exact LeO.refl _)
      | (with_reducible exact LeO.none _)
      | (with_reducible refine LeO.ite ?_ ?_)
      | (with_reducible refine LeO.bind ?_ (fun _ => ?_))
      | exact ih0 _ _ _
      | exact LeO.none _
      | refine LeO.ite ?_ ?_
      | refine LeO.bind ?_ (fun _ => ?_)
theorem laws_swapType.mono : ∀ a0 k, LeO (laws_swapType.f k a0) (laws_swapType.f (k + 1) a0) := by
  intro a0 k
  have ih0 := laws_swapType.mono_l k
  unfold laws_swapType.f
  repeat' first
      | (with_reducible exact ih0 _ _ _)
      | (with_reducible exact LeO.refl _)
      | (with_reducible exact LeO.none _)
      | (with_reducible refine LeO.ite ?_ ?_)
      | (with_reducible refine LeO.bind ?_ (fun _ => ?_))
      | exact ih0 _ _ _
      | exact LeO.none _
      | refine LeO.ite ?_ ?_
      | refine LeO.bind ?_ (fun _ => ?_)
set_option maxHeartbeats 8000000 in
set_option maxRecDepth 100000 in
theorem laws_swapType.calls (k : Nat) (a0 : Int) (r : List Int) (w : World) (h : laws_swapType.f k a0 = some r) :
    Calls Try.prog 10 #[.int .i64 a0] w fun e w' => ∃ v0_ : Value, e = .returned (v0_) ∧ Kd.R (Kd.int .i64) 3 w' w.heap.size (fun _ => True) v0_ r ∧ Below w.heap.size w w' := by
  have HB := Aside0.mk (Below.refl w.heap.size w)
  have H : (laws_swapType.l0 k a0 (([2] : List Int)) 2) = some r := h
  clear h
  obtain ⟨y228, hy228⟩ : ∃ y_ : List Int, y_ = (([2] : List Int)) := ⟨_, rfl⟩
  replace H : (laws_swapType.l0 k a0 y228 2) = some r := by first | (rw [hy228]; with_reducible exact H) | (have H2_ := (Option.bind_some _ _).symm.trans H; rw [hy228]; with_reducible exact H2_) | (have H2_ := (Option.bind_some _ _).symm.trans H; with_reducible exact H2_) | with_reducible exact H | (rw [hy228]; exact H) | exact H
  have Ny228 := Aside0.mk hy228
  clear hy228
  have H' := Aside0.mk H
  clear H
  go_enter Try.func10, Try.ntmps10
  go_wp2_with (first | ((with_reducible refine gate_dst (N := 5) rfl ?_); refine Kd.R_lit (Kd.int .i64) _ 3 ?hg (N := 5) ?hd (xs := ([2] : List Int)) (inner := [.int .i64 2]) (ok := fun _ => True) (okp := fun _ => True) ?hr ?hp (fun _ hk => hk) trivial (Below.refl _ _) (Nat.le_refl _) (by simp) ?_; (case hd => rfl); (case hg => rfl); (case hr => first | (go_simp; done) | (go_simp; rfl)); (case hp => exact (Reps.one (show Kd.M (Kd.int .i64) _ _ _ 2 [.int .i64 2] from rfl) (Reps.none _ _))); intro v229 w2 ho3 hb hg_ hnew_; clear hg_ hnew_; (first | rw [← Ny228.out] at ho3 | (simp only [Int.reduceToNat] at ho3; rw [← Ny228.out] at ho3)); have n0_ := Aside0.mk (Kd.R_lower ho3 (below_size (by repeat (first | (with_reducible first | exact HB.out | apply below_alloc | apply pw_below_drewN | apply below_drew1) | exact HB.out)))); have n1_ := Aside0.mk (below_step (by repeat (first | (with_reducible first | exact HB.out | apply below_alloc | apply pw_below_drewN | apply below_drew1) | exact HB.out)) hb); clear HB; have HO230 := n0_; have HB := n1_; clear n0_ n1_; clear hb ho3))
  go_loopg [3, 4] k (fun kq v3 v4 w' => ∃ (x3_1 : List Int) (x4_1 : Int), v4 = .int .i64 x4_1 ∧ Aside0 (laws_swapType.l0 kq a0 x3_1 x4_1 = some r) ∧ Aside0 (kq ≤ k) ∧ Aside0 (Kd.R (Kd.int .i64) 3 w' w.heap.size (fun _ => True) v3 x3_1) ∧ Aside0 (Below w.heap.size w w'))
  case atStart => exact ⟨(y228), (2), (by first | rfl | (simp; done) | (simp [*]; done)), H', ⟨Nat.le_refl _⟩, ⟨by (with_reducible repeat (first | apply Kd.R_alloc | apply Kd.R_drewN | apply Kd.R_drew)); exact HO230.out⟩, ⟨by repeat (first | (with_reducible first | exact HB.out | apply below_alloc | apply pw_below_drewN | apply below_drew1) | exact HB.out)⟩⟩
  case round =>
    clear H'
    try clear c1
    try clear p2
    obtain ⟨x3_1, x4_1, rfl, HA, HK1, HO_3, HB⟩ := hrel
    cases gk with
    | zero => exact absurd HA.out (by simp [laws_swapType.l0])
    | succ k1 =>
      have H := HA.out
      clear HA
      simp only [laws_swapType.l0] at H
      by_cases c4 : x4_1 < a0
      · rw [if_pos c4] at H
        have c4b0 : decide (x4_1 < a0) = true := decide_eq_true c4
        clear c4
        by_cases c5 : x3_1.length < 17592186044416
        · rw [if_pos c5] at H
          have LMc5 := Aside0.mk c5
          clear c5
          obtain ⟨y231, hy231⟩ : ∃ y_ : List Int, y_ = (x3_1 ++ [1]) := ⟨_, rfl⟩
          replace H : (laws_swapType.l0 k1 a0 y231 (wrap64 (x4_1 + 1))) = some r := by first | (rw [hy231]; with_reducible exact H) | (have H2_ := (Option.bind_some _ _).symm.trans H; rw [hy231]; with_reducible exact H2_) | (have H2_ := (Option.bind_some _ _).symm.trans H; with_reducible exact H2_) | with_reducible exact H | (rw [hy231]; exact H) | exact H
          have Ny231 := Aside0.mk hy231
          clear hy231
          have H' := Aside0.mk H
          clear H
          go_wp2_with (first | ((with_reducible refine gate_builtin (b := .append) (xs := #[.tmp 11, .tmp 12]) rfl ?_); at_builtin; refine Kd.R_append (Kd.int .i64) (w0 := w) w.heap.size rfl (.tmp 11) (.tmp 12) 27 3 (.int .i64 0) 8 rfl Try.underlying27 info3 rfl (by decide) (by omega) u3 x3_1 1 [.int .i64 1] (fun _ => True) (fun _ => False) rfl rfl ?aP (fun _ hk => hk.elim) ?aF ?aO ?aB ?aS ?aL ?_; (case aP => exact rfl); (case aB => exact (by repeat (first | (with_reducible first | exact HB.out | apply below_alloc | apply pw_below_drewN | apply below_drew1) | exact HB.out))); (case aF => exact (fun _ _ => trivial)); (case aO => exact (by (with_reducible repeat (first | apply Kd.R_alloc | apply Kd.R_drewN | apply Kd.R_drew)); exact HO_3.out)); (case aS => exact (below_size (by repeat (first | (with_reducible first | exact HB.out | apply below_alloc | apply pw_below_drewN | apply below_drew1) | exact HB.out)))); (case aL => have := LMc5.out; omega); intro v232 w6 ho hb hg hat; rw [← Ny231.out] at ho; have n0_ := Aside0.mk (hb); have n1_ := Aside0.mk (ho); clear HB; clear HO_3; have HB := n0_; have HO233 := n1_; clear n0_ n1_; clear ho hb hg hat))
          go_roundg k1
          case measure => have := HK1.out; omega
          case rel => exact ⟨(y231), (wrap64 (x4_1 + 1)), (by first | rfl | (simp; done) | (simp [*]; done)), H', ⟨by have := HK1.out; omega⟩, ⟨by (with_reducible repeat (first | apply Kd.R_alloc | apply Kd.R_drewN | apply Kd.R_drew)); exact HO233.out⟩, ⟨by repeat (first | (with_reducible first | exact HB.out | apply below_alloc | apply pw_below_drewN | apply below_drew1) | exact HB.out)⟩⟩
        · rw [if_neg c5] at H
          exact absurd H (by simp)
      · rw [if_neg c4] at H
        have c4b0 : decide (x4_1 < a0) = false := decide_eq_false c4
        clear c4
        obtain rfl := Option.some.inj H
        go_wp2
        go_ret
        exact ⟨_, by first | rfl | (simp [errW_none, errW_some] <;> rfl) | (simp [*, errW_none, errW_some] <;> rfl), by (with_reducible repeat (first | apply Kd.R_alloc | apply Kd.R_drewN | apply Kd.R_drew)); exact HO_3.out, by repeat (first | (with_reducible first | exact HB.out | apply below_alloc | apply pw_below_drewN | apply below_drew1) | exact HB.out)⟩

/-! ### laws_FnFactorGenus: function 3 (a section of my own) -/
def laws_FnFactorGenus.r (k : Nat) (ty : List (List Int)) (out : Int) : Option Bool := if 1 ≤ ty.length ∧ ty.length ≤ 1000 then (laws_sumOf.f k (ty.getD 0 [])).bind fun n => (impl_PartsAll.f n).bind fun pa => if 1 ≤ pa.1.length ∧ pa.1.length ≤ 1000 ∧ pa.2 = true then (laws_swapType.f k n).bind fun s => (impl_FactorGenus.f k ty.reverse).bind fun a => (impl_FactorGenus.f k (ty ++ [pa.1.getD (pa.1.length - 1) []])).bind fun b => (impl_FactorGenus.f k (ty ++ [s, s])).bind fun c => if a = out ∧ (6 < ty.length + 1 ∨ b = out) ∧ (6 < ty.length + 2 ∨ n < 2 ∨ c = out + 1) ∧ out ≤ 1000 then some true else none else none else none
def laws_FnFactorGenus.f (k : Nat) (l0 : List Int) : Option Bool := if (l0.length : Int) > 1048576 then some true else (spec_DrawFactorGenus.f k l0).bind fun ty => (impl_FactorGenus.f k ty).bind fun out => (spec_FactorGenus.f k ty).bind fun want => if out = want then (if out < 0 then some true else laws_FnFactorGenus.r k ty out) else none
/-- a row that is read, and what its footprint lies below -/
theorem laws_FnFactorGenus.elem {w1 W : World} {A : Option Addr} {xs : List (List Int)} (h : Kd.C (Kd.slice 3 (Kd.int .i64)) w1 A xs.length xs) (hb : Below w1.heap.size w1 W) (i : Nat) (hi : i < xs.length) :
    ∃ ad A0 c0, A = some ad ∧ W.cell? (ad.add i) = some (.slice A0 (xs.getD i []).length c0) ∧ (xs.getD i []).length ≤ c0 ∧ Kd.C (Kd.int .i64) W A0 (xs.getD i []).length (xs.getD i []) ∧ Kd.FK (Kd.slice 3 (Kd.int .i64)) W (fun k => k < w1.heap.size) (xs.getD i []) [.slice A0 (xs.getD i []).length c0] := by
  have hF := Kd.F_below (Kd.C_F (Kd.heap_slice 3 (Kd.heap_int .i64)) h) hb
  obtain ⟨ad, c, hA, hcl, hK, hcc, _⟩ := Kd.F_get hF [] (i : Int) (by omega) (by omega)
  rw [Int.toNat_natCast] at hK hcc
  obtain ⟨A0, c0, rfl, hl, hg⟩ := Kd.FK_slice_open hK
  refine ⟨ad, A0, c0, hA, ?_, hl, Kd.F_now hg, hK⟩
  have := hcc 0 _ rfl
  rwa [show (Kd.slice 3 (Kd.int .i64)).sz = 1 from rfl, Nat.mul_one, Nat.add_zero] at this
theorem laws_FnFactorGenus.one (w : World) (X : Obj) : (w.alloc X).heap[w.heap.size]? = some X := by
  show (w.heap.push X)[w.heap.size]? = some X
  rw [Array.getElem?_push, if_pos rfl]
theorem laws_FnFactorGenus.two1 (w : World) (X Y : Obj) : ((w.alloc X).alloc Y).heap[w.heap.size]? = some X := by
  show ((w.heap.push X).push Y)[w.heap.size]? = some X
  rw [Array.getElem?_push, if_neg (by rw [Array.size_push]; omega), Array.getElem?_push, if_pos rfl]
theorem laws_FnFactorGenus.two2 (w : World) (X Y : Obj) : ((w.alloc X).alloc Y).heap[w.heap.size + 1]? = some Y := by
  show ((w.heap.push X).push Y)[w.heap.size + 1]? = some Y
  rw [Array.getElem?_push, if_pos (by rw [Array.size_push])]
/-- a row of one row that is read -/
theorem laws_FnFactorGenus.lit {W : World} {h4 g : Nat} {row : List Int} {A3 : Option Addr} {n c3 : Nat} (hg : W.heap[g]? = some (.cells #[.slice A3 n c3] 27 (0, 0))) (hK : Kd.FK (Kd.slice 3 (Kd.int .i64)) W (fun k => k < h4) row [.slice A3 n c3]) : Kd.F (Kd.slice 3 (Kd.int .i64)) W (fun k => k < h4 ∨ k = g) (some ⟨g, 0, none⟩) 1 [row] := by
  intro W' hW
  refine ⟨rfl, by omega, fun _ => ⟨_, rfl, fun j p hj => ?_⟩⟩
  obtain ⟨hjl, hjp⟩ := List.getElem?_eq_some_iff.1 hj
  have h0 : j = 0 := by simp at hjl; exact hjl
  subst h0
  simp only [List.getElem_cons_zero] at hjp
  subst hjp
  have hK' := hK W' (fun k hk hlt => hW k (.inl hk) hlt)
  refine ⟨[.slice A3 n c3], rfl, hK', fun i u hi => ?_⟩
  obtain ⟨hil, hiu⟩ := List.getElem?_eq_some_iff.1 hi
  have h00 : i = 0 := by simp at hil; exact hil
  subst h00
  simp only [List.getElem_cons_zero] at hiu
  subst hiu
  have hgl : g < W.heap.size := (Array.getElem?_eq_some_iff.1 hg).1
  exact cell_of_row W' g 0 _ _ _ ((hW g (.inr rfl) hgl).trans hg)
theorem laws_FnFactorGenus.inb {w : World} {a : Addr} {v : Value} (h : w.cell? a = some v) : a.block < w.heap.size := by
  refine Nat.lt_of_not_le fun hle => ?_
  have h1 : w.heap[a.block]? = none := Array.getElem?_eq_none hle
  simp [World.cell?, h1] at h
theorem laws_FnFactorGenus.size2 {w : World} {X Y : Obj} {b : Nat} (h : ((w.alloc X).alloc Y).drew.heap.size ≤ b) : w.heap.size + 2 ≤ b := by
  have e : ((w.alloc X).alloc Y).drew.heap.size = w.heap.size + 2 := by
    show ((w.heap.push X).push Y).size = _
    rw [Array.size_push, Array.size_push]
  omega
theorem laws_FnFactorGenus.own (g : Nat) : (Value.slice (some ⟨g, 0, none⟩) 0 0).ownBlock = some g := rfl
set_option maxHeartbeats 16000000 in
set_option maxRecDepth 100000 in
theorem laws_FnFactorGenus.calls (k : Nat) (A0 : Option Addr) (c0 : Nat) (l0 : List Int) (r : Bool) (w : World) (hr0 : Kd.C (Kd.int .u8) w A0 l0.length l0) (hc0 : l0.length ≤ c0) (h : laws_FnFactorGenus.f k l0 = some r) :
    Calls Try.prog 3 #[.slice A0 l0.length c0] w fun e w' => e = .returned (.bool r) ∧ Below w.heap.size w w' := by
  unfold laws_FnFactorGenus.f at h
  by_cases c1 : (l0.length : Int) > 1048576
  · rw [if_pos c1] at h
    obtain rfl := Option.some.inj h
    have c1b : decide (1048576 < (l0.length : Int)) = true := decide_eq_true c1
    have HB := Aside0.mk (Below.refl w.heap.size w)
    clear h c1
    go_enter Try.func3, Try.ntmps3
    go_wp2
    go_ret
    exact ⟨rfl, HB.out⟩
  rw [if_neg c1] at h
  have c1b : decide (1048576 < (l0.length : Int)) = false := decide_eq_false c1
  clear c1
  obtain ⟨ty, hty, h⟩ := Option.bind_eq_some_iff.mp h
  obtain ⟨out, hout, h⟩ := Option.bind_eq_some_iff.mp h
  obtain ⟨want, hwant, h⟩ := Option.bind_eq_some_iff.mp h
  by_cases c2 : ¬ out = want
  · rw [if_neg c2] at h; cases h
  replace c2 := Classical.not_not.mp c2
  rw [if_pos c2] at h
  subst c2
  have HT := Aside0.mk hty
  have HO := Aside0.mk hout
  have HW := Aside0.mk hwant
  have HR0 := Aside0.mk hr0
  have HC0 := Aside0.mk hc0
  clear hty hout hwant hr0 hc0
  have ceq : (out == out) = true := beq_self_eq_true _
  have cne : (out != out) = false := by simp
  by_cases c3 : out < 0
  · rw [if_pos c3] at h
    obtain rfl := Option.some.inj h
    have c3b : decide (out < 0) = true := decide_eq_true c3
    clear h c3
    go_enter Try.func3, Try.ntmps3
    go_upto_region 4 with (go_at_call 5; refine (spec_DrawFactorGenus.calls k A0 c0 l0 ty w HR0.out HC0.out HT.out).mono ?_; rintro e w1 ⟨v1, rfl, ho, hb⟩; obtain ⟨At, ct, rfl, lt, gt⟩ := Kd.N_reads (Kd.S_N ho); have HCT := Aside0.mk (And.intro lt gt); have HB1 := Aside0.mk hb; clear ho hb lt gt)
    go_upto_region 5 with (go_at_call 6; refine (impl_FactorGenus.calls k At ct ty out w1 HCT.out.2 HCT.out.1 HO.out).mono ?_; rintro e w' ⟨rfl, ⟨n1, rfl⟩⟩)
    go_upto_region 6 with (go_at_call 7; refine (spec_FactorGenus.calls k At ct ty out _ (Kd.C_drewN HCT.out.2 _) HCT.out.1 HW.out).mono ?_; rintro e w' ⟨rfl, ⟨n2, rfl⟩⟩)
    go_wp2
    go_ret
    exact ⟨rfl, by repeat (first | exact HB1.out | apply pw_below_drewN)⟩
  rw [if_neg c3] at h
  have c3b : decide (out < 0) = false := decide_eq_false c3
  clear c3
  have HH := Aside0.mk h
  clear h
  go_enter Try.func3, Try.ntmps3
  go_upto_region 4 with (go_at_call 5; refine (spec_DrawFactorGenus.calls k A0 c0 l0 ty w HR0.out HC0.out HT.out).mono ?_; rintro e w1 ⟨v1, rfl, ho, hb⟩; obtain ⟨At, ct, rfl, lt, gt⟩ := Kd.N_reads (Kd.S_N ho); have HCT := Aside0.mk (And.intro lt gt); have HB1 := Aside0.mk hb; clear ho hb lt gt)
  go_upto_region 5 with (go_at_call 6; refine (impl_FactorGenus.calls k At ct ty out w1 HCT.out.2 HCT.out.1 HO.out).mono ?_; rintro e w' ⟨rfl, ⟨n1, rfl⟩⟩)
  go_upto_region 6 with (go_at_call 7; refine (spec_FactorGenus.calls k At ct ty out _ (Kd.C_drewN HCT.out.2 _) HCT.out.1 HW.out).mono ?_; rintro e w' ⟨rfl, ⟨n2, rfl⟩⟩)
  have HBa := Aside0.mk (show Below w1.heap.size w1 (w1.drewN (n1 + n2)) from pw_below_drewN (Below.refl _ _) _)
  generalize w1.drewN (n1 + n2) = wa at HBa ⊢
  have h := HH.out
  clear HH HT HO HW HR0 HC0
  unfold laws_FnFactorGenus.r at h
  by_cases c4 : ¬ (1 ≤ ty.length ∧ ty.length ≤ 1000)
  · rw [if_neg c4] at h; cases h
  replace c4 := Classical.not_not.mp c4
  rw [if_pos c4] at h
  obtain ⟨n, hn, h⟩ := Option.bind_eq_some_iff.mp h
  obtain ⟨⟨L, bb⟩, hL, h⟩ := Option.bind_eq_some_iff.mp h
  simp only at h
  by_cases c5 : ¬ (1 ≤ L.length ∧ L.length ≤ 1000 ∧ bb = true)
  · rw [if_neg c5] at h; cases h
  replace c5 := Classical.not_not.mp c5
  rw [if_pos c5] at h
  obtain ⟨s, hs, h⟩ := Option.bind_eq_some_iff.mp h
  obtain ⟨a, ha, h⟩ := Option.bind_eq_some_iff.mp h
  obtain ⟨b, hb, h⟩ := Option.bind_eq_some_iff.mp h
  obtain ⟨c, hc, h⟩ := Option.bind_eq_some_iff.mp h
  by_cases c6 : ¬ (a = out ∧ (6 < ty.length + 1 ∨ b = out) ∧ (6 < ty.length + 2 ∨ n < 2 ∨ c = out + 1) ∧ out ≤ 1000)
  · rw [if_neg c6] at h; cases h
  replace c6 := Classical.not_not.mp c6
  rw [if_pos c6] at h
  obtain rfl := Option.some.inj h
  obtain ⟨c5a, c5b, rfl⟩ := c5
  have HN := Aside0.mk (And.intro c4 (And.intro c5a c5b))
  have HS := Aside0.mk hs
  have HA := Aside0.mk ha
  have HBb := Aside0.mk hb
  have HCc := Aside0.mk hc
  have H6 := Aside0.mk c6
  have HLL := Aside0.mk hL
  have HNN := Aside0.mk hn
  clear h c4 c5a c5b hs ha hb hc c6 hL hn
  obtain ⟨ad, Ae, ce, rfl, hce, hcl, hcr, _⟩ := laws_FnFactorGenus.elem HCT.out.2 HBa.out 0 (by have := HN.out; omega)
  have HE := Aside0.mk (And.intro hcl hcr)
  rw [show ad.add 0 = ad from by cases ad; rfl] at hce
  have hlt : (0 : Int) < (ty.length : Int) := by have := HN.out; omega
  clear hcl hcr
  go_upto_region 9 with (go_at_call 8; refine (laws_sumOf.calls k Ae ce _ n wa HE.out.2 HE.out.1 HNN.out).mono ?_; rintro e w' ⟨rfl, ⟨n3, rfl⟩⟩)
  have HBc := Aside0.mk (pw_below_drewN HBa.out n3)
  generalize wa.drewN n3 = wc at HBc ⊢
  clear HBa hce HE
  go_upto_region 10 with ((with_reducible refine gate_dst (N := 36) rfl ?_); refine Kd.N_lit (Kd.slice 3 (Kd.int .i64)) (w0 := w1) w1.heap.size 27 ?hg (N' := 36) ?hd (xs := ([] : List (List Int))) (inner := []) (ok := fun _ => True) (okp := fun _ => True) ?hr ?hp (fun _ _ => trivial) trivial ?hB ?hS (by simp) ?_; (case hd => rfl); (case hg => rfl); (case hr => first | (go_simp; done) | (go_simp; rfl)); (case hp => exact Reps.none _ _); (case hB => exact HBc.out); (case hS => exact HBc.out.size); intro v7 wd ho hb hg_ hnew_; clear hg_ hnew_; have HO7 := Aside0.mk ho; have HBd := Aside0.mk hb; clear ho hb HBc)
  go_wp2
  go_loopg [7, 8] ty.length (fun d v7 v8 wr => ∃ (i : Int) (xs : List (List Int)), v8 = .int .i64 i ∧ Aside0 (i + 1 = (d : Int) ∧ d ≤ ty.length) ∧ Aside0 (xs ++ (ty.take d).reverse = ty.reverse) ∧ Aside0 (Kd.N (Kd.slice 3 (Kd.int .i64)) 27 wr w1.heap.size (fun _ => True) v7 xs) ∧ Aside0 (Below w1.heap.size w1 wr))
  case atStart => exact ⟨(ty.length : Int) - 1, [], by rw [show wrap64 ((ty.length : Int) - 1) = (ty.length : Int) - 1 by unfold wrap64; have := HN.out; omega], ⟨by omega, Nat.le_refl _⟩, ⟨by rw [List.take_length]; rfl⟩, HO7, HBd⟩
  case round =>
    clear HO7 HBd
    obtain ⟨i, xs, rfl, HI, HX, HO7, HBd⟩ := hrel
    cases gk with
    | zero =>
      have hc : decide ((0 : Int) ≤ i) = false := decide_eq_false (by have := HI.out; omega)
      have hx : xs = ty.reverse := by have := HX.out; simpa using this
      have HA2 := Aside0.mk (show impl_FactorGenus.f k xs = some a by rw [hx]; exact HA.out)
      clear hx HA
      obtain ⟨A7, c7, e7, l7, g7⟩ := Kd.N_reads HO7.out
      subst e7
      have HC7 := Aside0.mk (And.intro l7 g7)
      clear l7 g7 HO7 HX HI
      go_upto_region 15 with (go_at_call 9; refine (impl_PartsAll.calls n L true _ HLL.out).mono ?_; rintro e w4 ⟨v4, rfl, ho, hb⟩; obtain ⟨Ag, cg, rfl, lg, gg⟩ := Kd.N_reads (Kd.S_N ho); have HCL := Aside0.mk (And.intro lg gg); have HB4 := Aside0.mk hb; clear ho hb lg gg)
      have HC74 := Aside0.mk (And.intro HC7.out.1 (Kd.C_below HC7.out.2 HB4.out))
      have HBw := Aside0.mk (below_step HBd.out HB4.out)
      clear HC7 HBd HB4 hc
      have HCT4 := Aside0.mk (And.intro HCT.out.1 (Kd.C_below HCT.out.2 HBw.out))
      clear HCT
      obtain ⟨ad3, A3, c3, he3, hce3, hcl3, hcr3, hK3⟩ := laws_FnFactorGenus.elem HCL.out.2 (Below.refl _ _) (L.length - 1) (by have := HN.out; omega)
      subst he3
      generalize hrow : L.getD (L.length - 1) [] = row at hce3 hcl3 hcr3 hK3 HBb
      clear hrow hcl3 hcr3
      have HK3 := Aside0.mk hK3
      clear hK3
      have HWL := Aside0.mk (show ((L.length : Int) - 1).toNat = L.length - 1 by omega)
      have HWK := Aside0.mk (show IntKind.i64.wrap ((L.length : Int) - 1) = (L.length : Int) - 1 from IntWalk.i64_in _ (by have := HN.out; omega))
      have i1 : (0 : Int) ≤ IntKind.i64.wrap ((L.length : Int) - 1) := by rw [HWK.out]; have := HN.out; omega
      have i2 : IntKind.i64.wrap ((L.length : Int) - 1) < (L.length : Int) := by rw [HWK.out]; omega
      rw [← HWL.out, ← HWK.out] at hce3
      go_cut [11] (fun v11 wc => Aside0 (Kd.N (Kd.slice 3 (Kd.int .i64)) 27 wc w4.heap.size (fun _ => True) v11 (ty ++ [row])) ∧ Aside0 (Below w4.heap.size w4 wc))
      case first =>
        have HBr := Aside0.mk (show Below w4.heap.size w4 w4.drew from below_drew1 (Below.refl _ _))
        have HIN := Aside0.mk (laws_FnFactorGenus.inb hce3)
        have HFT := Aside0.mk (Kd.C_F (Kd.heap_slice 3 (Kd.heap_int .i64)) HCT4.out.2)
        go_region_held3 (fun w' => w'.cell? (ad3.add (IntKind.i64.wrap ((L.length : Int) - 1)).toNat) = some (.slice A3 row.length c3)) (first | exact (Below.cell (by repeat (first | exact HB6.out | exact HB5.out | exact HBr.out | exact Below.refl _ _ | apply below_alloc | apply below_drew1 | apply pw_below_drewN)) HIN.out).trans hce3 | go_keep) (first | (refine Kd.N_append_rows_step (Kd.slice 3 (Kd.int .i64)) (w0 := w4) w4.heap.size (by rfl) (.tmp 56) (.tmp 57) 23 27 (.slice none 0 0) 24 (by rfl) Try.underlying23 info27 rfl (by decide) (by omega) (.slice (some ⟨w4.heap.size, 0, none⟩) 0 0) [] ty (some ad) ty.length ct (fun _ => True) (fun k => k < w4.heap.size) (by rfl) (by rfl) (Kd.S_N (impl_PartsAll.empty _ w4.heap.size (w4.heap.size) _ (laws_FnFactorGenus.two1 w4 _ _) (by omega) trivial)) (Kd.F_below HFT.out (by repeat (first | exact HBr.out | exact Below.refl _ _ | apply below_alloc | apply below_drew1 | apply pw_below_drewN))) (fun k hk => ⟨trivial, fun e => by rw [laws_FnFactorGenus.own] at e; injection e with e; omega⟩) (fun _ _ => trivial) (by repeat (first | exact HBr.out | exact Below.refl _ _ | apply below_alloc | apply below_drew1 | apply pw_below_drewN)) (Below.size (by repeat (first | exact HBr.out | exact Below.refl _ _ | apply below_alloc | apply below_drew1 | apply pw_below_drewN))) (by have := HN.out; simp; omega) ?_; intro v58 w5 ho hb hg hat; have HF65 := Aside0.mk (Kd.F_grown (W := ((w4.alloc (.cells #[] 27)).alloc (.cells #[.slice A3 row.length c3] 27)).drew) (laws_FnFactorGenus.lit (laws_FnFactorGenus.two2 w4 _ _) (Kd.FK_below HK3.out (by repeat (first | exact HBr.out | exact Below.refl _ _ | apply below_alloc | apply below_drew1 | apply pw_below_drewN)))) hg (fun k hk e => by rw [laws_FnFactorGenus.own] at e; injection e with e; rcases hk with hk | hk <;> omega)); have HNE := Aside0.mk (show ∀ k, (k < w4.heap.size ∨ k = w4.heap.size + 1) → True ∧ some k ≠ v58.ownBlock from fun k hk => ⟨trivial, fun e => by have h1 := Kd.N_base ho k e.symm; rcases hat with h2 | ⟨b, h2, h3⟩ <;> rw [h2] at e <;> (try rw [laws_FnFactorGenus.own] at e) <;> injection e with e <;> (try have h4 := laws_FnFactorGenus.size2 h3) <;> omega⟩); have H58 := Aside0.mk (show Kd.N (Kd.slice 3 (Kd.int .i64)) 27 w5 w4.heap.size (fun _ => True) v58 ty from ho); have HB5 := Aside0.mk hb; clear ho hb hg hat) | (refine Kd.N_append_rows_step (Kd.slice 3 (Kd.int .i64)) (w0 := w4) w4.heap.size (by rfl) (.tmp 56) (.tmp 57) 23 27 (.slice none 0 0) 24 (by rfl) Try.underlying23 info27 rfl (by decide) (by omega) (.slice (some ⟨w4.heap.size + 1, 0, none⟩) 0 0) [] ty (some ad) ty.length ct (fun _ => True) (fun k => k < w4.heap.size) (by rfl) (by rfl) (Kd.S_N (impl_PartsAll.empty _ w4.heap.size (w4.heap.size + 1) _ (laws_FnFactorGenus.two2 w4 _ _) (by omega) trivial)) (Kd.F_below HFT.out (by repeat (first | exact HBr.out | exact Below.refl _ _ | apply below_alloc | apply below_drew1 | apply pw_below_drewN))) (fun k hk => ⟨trivial, fun e => by rw [laws_FnFactorGenus.own] at e; injection e with e; omega⟩) (fun _ _ => trivial) (by repeat (first | exact HBr.out | exact Below.refl _ _ | apply below_alloc | apply below_drew1 | apply pw_below_drewN)) (Below.size (by repeat (first | exact HBr.out | exact Below.refl _ _ | apply below_alloc | apply below_drew1 | apply pw_below_drewN))) (by have := HN.out; simp; omega) ?_; intro v58 w5 ho hb hg hat; have HF65 := Aside0.mk (Kd.F_grown (W := ((w4.alloc (.cells #[.slice A3 row.length c3] 27)).alloc (.cells #[] 27)).drew) (laws_FnFactorGenus.lit (laws_FnFactorGenus.two1 w4 _ _) (Kd.FK_below HK3.out (by repeat (first | exact HBr.out | exact Below.refl _ _ | apply below_alloc | apply below_drew1 | apply pw_below_drewN)))) hg (fun k hk e => by rw [laws_FnFactorGenus.own] at e; injection e with e; rcases hk with hk | hk <;> omega)); have HNE := Aside0.mk (show ∀ k, (k < w4.heap.size ∨ k = w4.heap.size) → True ∧ some k ≠ v58.ownBlock from fun k hk => ⟨trivial, fun e => by have h1 := Kd.N_base ho k e.symm; rcases hat with h2 | ⟨b, h2, h3⟩ <;> rw [h2] at e <;> (try rw [laws_FnFactorGenus.own] at e) <;> injection e with e <;> (try have h4 := laws_FnFactorGenus.size2 h3) <;> omega⟩); have H58 := Aside0.mk (show Kd.N (Kd.slice 3 (Kd.int .i64)) 27 w5 w4.heap.size (fun _ => True) v58 ty from ho); have HB5 := Aside0.mk hb; clear ho hb hg hat) | (refine Kd.N_append_rows_step (Kd.slice 3 (Kd.int .i64)) (w0 := w4) w4.heap.size (by rfl) (.tmp 56) (.tmp 57) 23 27 (.slice none 0 0) 24 (by rfl) Try.underlying23 info27 rfl (by decide) (by omega) (.slice (some ⟨w4.heap.size, 0, none⟩) 0 0) [] ty (some ad) ty.length ct (fun _ => True) (fun k => k < w4.heap.size) (by rfl) (by rfl) (Kd.S_N (impl_PartsAll.empty _ w4.heap.size (w4.heap.size) _ (laws_FnFactorGenus.one w4 _) (by omega) trivial)) (Kd.F_below HFT.out (by repeat (first | exact HBr.out | exact Below.refl _ _ | apply below_alloc | apply below_drew1 | apply pw_below_drewN))) (fun k hk => ⟨trivial, fun e => by rw [laws_FnFactorGenus.own] at e; injection e with e; omega⟩) (fun _ _ => trivial) (by repeat (first | exact HBr.out | exact Below.refl _ _ | apply below_alloc | apply below_drew1 | apply pw_below_drewN)) (Below.size (by repeat (first | exact HBr.out | exact Below.refl _ _ | apply below_alloc | apply below_drew1 | apply pw_below_drewN))) (by have := HN.out; simp; omega) ?_; intro v58 w5 ho hb hg hat; have HNE := Aside0.mk (show ∀ k, k < w4.heap.size → True ∧ some k ≠ v58.ownBlock from fun k hk => ⟨trivial, fun e => by have h1 := Kd.N_base ho k e.symm; omega⟩); have H58 := Aside0.mk (show Kd.N (Kd.slice 3 (Kd.int .i64)) 27 w5 w4.heap.size (fun _ => True) v58 ty from ho); have HB5 := Aside0.mk hb; clear ho hb hg hat) | (refine Kd.N_append_rows_step (Kd.slice 3 (Kd.int .i64)) (w0 := w4) w4.heap.size (by rfl) (.tmp 58) (.tmp 65) 23 27 (.slice none 0 0) 24 (by rfl) Try.underlying23 info27 rfl (by decide) (by omega) v58 ty [row] (some ⟨w4.heap.size, 0, none⟩) 1 1 (fun _ => True) (fun k => k < w4.heap.size ∨ k = w4.heap.size) (by rfl) (by rfl) H58.out HF65.out HNE.out (fun _ _ => trivial) HB5.out HB5.out.size (by have := HN.out; omega) ?_; intro v66 w6 ho hb hg hat; have H66 := Aside0.mk ho; have HB6 := Aside0.mk hb; clear ho hb hg hat) | (refine Kd.N_append_rows_step (Kd.slice 3 (Kd.int .i64)) (w0 := w4) w4.heap.size (by rfl) (.tmp 58) (.tmp 65) 23 27 (.slice none 0 0) 24 (by rfl) Try.underlying23 info27 rfl (by decide) (by omega) v58 ty [row] (some ⟨w4.heap.size + 1, 0, none⟩) 1 1 (fun _ => True) (fun k => k < w4.heap.size ∨ k = w4.heap.size + 1) (by rfl) (by rfl) H58.out HF65.out HNE.out (fun _ _ => trivial) HB5.out HB5.out.size (by have := HN.out; omega) ?_; intro v66 w6 ho hb hg hat; have H66 := Aside0.mk ho; have HB6 := Aside0.mk hb; clear ho hb hg hat) | (refine Kd.N_append_step (Kd.slice 3 (Kd.int .i64)) (w0 := w4) w4.heap.size (by rfl) (.tmp 58) (.tmp 65) 23 27 (.slice none 0 0) 24 (by rfl) Try.underlying23 info27 rfl (by decide) (by omega) v58 ty row [.slice A3 row.length c3] (fun _ => True) (fun k => k < w4.heap.size) (by rfl) (by rfl) (Kd.FK_below HK3.out HB5.out) HNE.out (fun _ _ => trivial) H58.out HB5.out HB5.out.size (by have := HN.out; omega) ?_; intro v66 w6 ho hb hg hat; have H66 := Aside0.mk ho; have HB6 := Aside0.mk hb; clear ho hb hg hat))
        all_goals go_wp2
        all_goals go_meet
        all_goals exact ⟨H66, HB6⟩
      case rest =>
        obtain ⟨HO11, HB11⟩ := hcut
        generalize hly : ty ++ [row] = ly at HO11 HBb
        have HLY := Aside0.mk (show ly.length = ty.length + 1 by rw [← hly]; simp)
        clear hly
        obtain ⟨A11, c11, e11, l11, g11⟩ := Kd.N_reads HO11.out
        subst e11
        have HC11 := Aside0.mk (And.intro l11 g11)
        have HC75 := Aside0.mk (And.intro HC74.out.1 (Kd.C_below HC74.out.2 HB11.out))
        have HCT5 := Aside0.mk (Kd.C_F (Kd.heap_slice 3 (Kd.heap_int .i64)) (Kd.C_below HCT4.out.2 HB11.out))
        have HBx := Aside0.mk (below_step HBw.out HB11.out)
        clear l11 g11 HO11 HC74 HCT4 HBw HB11 hce3 HK3 HWK HWL HCL i1 i2
        have HB := Aside0.mk (Below.refl wc.heap.size wc)
        go_upto_region 17 with (first | ((with_reducible refine gate_dst (N := 67) rfl ?_); refine Kd.N_lit (Kd.slice 3 (Kd.int .i64)) (w0 := wc) wc.heap.size 27 ?hg (N' := 67) ?hd (xs := ([] : List (List Int))) (inner := []) (ok := fun _ => True) (okp := fun _ => True) ?hr ?hp (fun _ _ => trivial) trivial HB.out HB.out.size (by simp) ?_; (case hd => rfl); (case hg => rfl); (case hr => first | (go_simp; done) | (go_simp; rfl)); (case hp => exact Reps.none _ _); intro v67 wx ho hb hg_ hnew_; clear hg_ hnew_ HB; have HO67 := Aside0.mk ho; have HB := Aside0.mk hb; clear ho hb) | ((with_reducible refine gate_builtin (b := .append) (xs := #[.tmp 67, .tmp 68]) rfl ?_); at_builtin; refine Kd.N_append_rows (Kd.slice 3 (Kd.int .i64)) (w0 := wc) wc.heap.size rfl (.tmp 67) (.tmp 68) 23 27 (.slice none 0 0) 24 rfl Try.underlying23 info27 rfl (by decide) (by omega) v67 [] ty (some ad) ty.length ct (fun _ => True) (fun k => k < wc.heap.size) rfl rfl HO67.out (Kd.F_below HCT5.out HB.out) (fun k hk => ⟨trivial, fun e => by have := Kd.N_base HO67.out k e.symm; have : k < wc.heap.size := hk; omega⟩) (fun _ _ => trivial) HB.out HB.out.size (by have := HN.out; simp; omega) ?_; intro v69 w69 ho hb hg_ hat_; clear hg_ hat_ HB HO67; have HO69 := Aside0.mk (show Kd.N (Kd.slice 3 (Kd.int .i64)) 27 w69 wc.heap.size (fun _ => True) v69 ty from ho); have HB := Aside0.mk hb; have HL69 := Aside0.mk (Kd.N_lt ho); clear ho hb) | (go_at_call 10; refine (laws_swapType.calls k n s w69 HS.out).mono ?_; rintro e w71 ⟨v71, rfl, ho, hb⟩; obtain ⟨A71, c71, rfl⟩ := Kd.R_slice ho; have HS71 := Aside0.mk (Kd.R_base ho); have HF71 := Aside0.mk (Kd.FK_slice_mk (e := 3) (Kd.R_reads' ho).2.1 (Kd.R_F (Kd.R_mono (ok' := fun k_ => w69.heap.size ≤ k_) (Kd.R_bound ho) (fun k_ h_ => h_.2.1)))); have HO71 := Aside0.mk (Kd.N_below HO69.out hb); have HB71 := Aside0.mk (below_step HB.out hb); have HZ71 := Aside0.mk hb.size; clear ho hb HO69 HB) | (go_at_call 10; refine (laws_swapType.calls k n s w71 HS.out).mono ?_; rintro e w73 ⟨v73, rfl, ho, hb⟩; obtain ⟨A73, c73, rfl⟩ := Kd.R_slice ho; have HF73 := Aside0.mk (Kd.FK_slice_mk (e := 3) (Kd.R_reads' ho).2.1 (Kd.R_F (Kd.R_mono (ok' := fun k_ => w69.heap.size ≤ k_) (Kd.R_bound ho) (fun k_ h_ => Nat.le_trans HZ71.out h_.2.1)))); have HF72 := Aside0.mk (Kd.FK_below HF71.out hb); have HO73 := Aside0.mk (Kd.N_below HO71.out hb); have HB73 := Aside0.mk (below_step HB71.out hb); have HZ73 := Aside0.mk (Nat.le_trans HZ71.out hb.size); clear ho hb HO71 HB71 HF71 HS71) | ((with_reducible refine gate_dst (N := 74) rfl ?_); refine Kd.N_lit (Kd.slice 3 (Kd.int .i64)) (w0 := wc) wc.heap.size 27 ?hg (N' := 74) ?hd (xs := ([s, s] : List (List Int))) (inner := [.slice A71 s.length c71, .slice A73 s.length c73]) (ok := fun k_ => w69.heap.size ≤ k_) (okp := fun k_ => w69.heap.size ≤ k_) ?hr ?hp (fun _ h => h) HZ73.out HB73.out HB73.out.size (by simp) ?_; (case hd => rfl); (case hg => rfl); (case hr => first | (go_simp; done) | (go_simp; rfl)); (case hp => exact Reps.one HF72.out (Reps.one HF73.out (Reps.none _ _))); intro v74 w74 ho hb hg_ hnew_; obtain ⟨A74, c74, rfl⟩ := Kd.N_slice ho; have HF74 := Aside0.mk (Kd.N_F ho); have HO75 := Aside0.mk (Kd.N_step HO73.out (fun k_ _ h_ => hg_.block k_ h_ (by simp))); have HB75 := Aside0.mk hb; clear ho hb hg_ hnew_ HO73 HB73 HF72 HF73) | ((with_reducible refine gate_builtin (b := .append) (xs := #[.tmp 69, .tmp 74]) rfl ?_); at_builtin; refine Kd.N_append_rows (Kd.slice 3 (Kd.int .i64)) (w0 := wc) wc.heap.size rfl (.tmp 69) (.tmp 74) 23 27 (.slice none 0 0) 24 rfl Try.underlying23 info27 rfl (by decide) (by omega) v69 ty [s, s] A74 2 c74 (fun _ => True) (fun k_ => w69.heap.size ≤ k_) rfl rfl HO75.out HF74.out (fun k hk => ⟨trivial, fun e => by have := HL69.out k e.symm; have : w69.heap.size ≤ k := hk; omega⟩) (fun _ _ => trivial) HB75.out HB75.out.size (by have := HN.out; simp; omega) ?_; intro v75 w75 ho hb hg_ hat_; clear hg_ hat_; have HO12 := Aside0.mk ho; have HB12 := Aside0.mk hb; clear ho hb HO75 HB75 HF74))
        generalize hlz : ty ++ [s, s] = lz at HO12 HCc
        have HLZ := Aside0.mk (show lz.length = ty.length + 2 by rw [← hlz]; simp)
        clear hlz
        obtain ⟨A12, c12, e12, l12, g12⟩ := Kd.N_reads HO12.out
        subst e12
        have HC12 := Aside0.mk (And.intro l12 g12)
        have HC116 := Aside0.mk (And.intro HC11.out.1 (Kd.C_below HC11.out.2 HB12.out))
        have HC76 := Aside0.mk (And.intro HC75.out.1 (Kd.C_below HC75.out.2 HB12.out))
        have HBz := Aside0.mk (below_step HB1.out (below_step HBx.out HB12.out))
        clear l12 g12 HO12 HC11 HC75 HBx HB12 HL69 HZ73 HZ71 HCT5 HB1
        have h6 := H6.out
        obtain ⟨ha, hb, hc, ho⟩ := h6
        subst ha
        by_cases d1 : 6 < ty.length + 1
        · have d1b : decide ((6 : Int) < (ly.length : Int)) = true := decide_eq_true (by have := HLY.out; omega)
          have d2b : decide ((6 : Int) < (lz.length : Int)) = true := decide_eq_true (by have := HLZ.out; omega)
          have d1c : decide (6 < ly.length) = true := decide_eq_true (by have := HLY.out; omega)
          have d2c : decide (6 < lz.length) = true := decide_eq_true (by have := HLZ.out; omega)
          clear hb hc ho d1
          go_wp2_with (first | (go_at_call 6; with_reducible refine (impl_FactorGenus.calls k A7 c7 xs _ _ (Kd.C_drewN HC76.out.2 _) HC76.out.1 HA2.out).mono ?_; rintro e w' ⟨rfl, ⟨n4, rfl⟩⟩) | (go_at_call 6; with_reducible refine (impl_FactorGenus.calls k A7 c7 xs _ _ HC76.out.2 HC76.out.1 HA2.out).mono ?_; rintro e w' ⟨rfl, ⟨n4, rfl⟩⟩) | (go_at_call 6; with_reducible refine (impl_FactorGenus.calls k A11 c11 ly _ _ (Kd.C_drewN HC116.out.2 _) HC116.out.1 HBb.out).mono ?_; rintro e w' ⟨rfl, ⟨n4, rfl⟩⟩) | (go_at_call 6; with_reducible refine (impl_FactorGenus.calls k A11 c11 ly _ _ HC116.out.2 HC116.out.1 HBb.out).mono ?_; rintro e w' ⟨rfl, ⟨n4, rfl⟩⟩) | (go_at_call 6; with_reducible refine (impl_FactorGenus.calls k A12 c12 lz _ _ (Kd.C_drewN HC12.out.2 _) HC12.out.1 HCc.out).mono ?_; rintro e w' ⟨rfl, ⟨n4, rfl⟩⟩) | (go_at_call 6; with_reducible refine (impl_FactorGenus.calls k A12 c12 lz _ _ HC12.out.2 HC12.out.1 HCc.out).mono ?_; rintro e w' ⟨rfl, ⟨n4, rfl⟩⟩))
          go_ret
          exact ⟨rfl, by repeat (first | exact HBz.out | apply pw_below_drewN)⟩
        · have d1b : decide ((6 : Int) < (ly.length : Int)) = false := decide_eq_false (by have := HLY.out; omega)
          have d1c : decide (6 < ly.length) = false := decide_eq_false (by have := HLY.out; omega)
          have hb' := hb.resolve_left d1
          subst hb'
          clear hb d1
          by_cases d2 : 6 < ty.length + 2
          · have d2b : decide ((6 : Int) < (lz.length : Int)) = true := decide_eq_true (by have := HLZ.out; omega)
            have d2c : decide (6 < lz.length) = true := decide_eq_true (by have := HLZ.out; omega)
            clear hc ho d2
            go_wp2_with (first | (go_at_call 6; with_reducible refine (impl_FactorGenus.calls k A7 c7 xs _ _ (Kd.C_drewN HC76.out.2 _) HC76.out.1 HA2.out).mono ?_; rintro e w' ⟨rfl, ⟨n4, rfl⟩⟩) | (go_at_call 6; with_reducible refine (impl_FactorGenus.calls k A7 c7 xs _ _ HC76.out.2 HC76.out.1 HA2.out).mono ?_; rintro e w' ⟨rfl, ⟨n4, rfl⟩⟩) | (go_at_call 6; with_reducible refine (impl_FactorGenus.calls k A11 c11 ly _ _ (Kd.C_drewN HC116.out.2 _) HC116.out.1 HBb.out).mono ?_; rintro e w' ⟨rfl, ⟨n4, rfl⟩⟩) | (go_at_call 6; with_reducible refine (impl_FactorGenus.calls k A11 c11 ly _ _ HC116.out.2 HC116.out.1 HBb.out).mono ?_; rintro e w' ⟨rfl, ⟨n4, rfl⟩⟩) | (go_at_call 6; with_reducible refine (impl_FactorGenus.calls k A12 c12 lz _ _ (Kd.C_drewN HC12.out.2 _) HC12.out.1 HCc.out).mono ?_; rintro e w' ⟨rfl, ⟨n4, rfl⟩⟩) | (go_at_call 6; with_reducible refine (impl_FactorGenus.calls k A12 c12 lz _ _ HC12.out.2 HC12.out.1 HCc.out).mono ?_; rintro e w' ⟨rfl, ⟨n4, rfl⟩⟩))
            go_ret
            exact ⟨rfl, by repeat (first | exact HBz.out | apply pw_below_drewN)⟩
          · have d2b : decide ((6 : Int) < (lz.length : Int)) = false := decide_eq_false (by have := HLZ.out; omega)
            have d2c : decide (6 < lz.length) = false := decide_eq_false (by have := HLZ.out; omega)
            by_cases d3 : n < 2
            · have d3b : decide (n < 2) = true := decide_eq_true d3
              clear hc ho d2 d3
              go_wp2_with (first | (go_at_call 6; with_reducible refine (impl_FactorGenus.calls k A7 c7 xs _ _ (Kd.C_drewN HC76.out.2 _) HC76.out.1 HA2.out).mono ?_; rintro e w' ⟨rfl, ⟨n4, rfl⟩⟩) | (go_at_call 6; with_reducible refine (impl_FactorGenus.calls k A7 c7 xs _ _ HC76.out.2 HC76.out.1 HA2.out).mono ?_; rintro e w' ⟨rfl, ⟨n4, rfl⟩⟩) | (go_at_call 6; with_reducible refine (impl_FactorGenus.calls k A11 c11 ly _ _ (Kd.C_drewN HC116.out.2 _) HC116.out.1 HBb.out).mono ?_; rintro e w' ⟨rfl, ⟨n4, rfl⟩⟩) | (go_at_call 6; with_reducible refine (impl_FactorGenus.calls k A11 c11 ly _ _ HC116.out.2 HC116.out.1 HBb.out).mono ?_; rintro e w' ⟨rfl, ⟨n4, rfl⟩⟩) | (go_at_call 6; with_reducible refine (impl_FactorGenus.calls k A12 c12 lz _ _ (Kd.C_drewN HC12.out.2 _) HC12.out.1 HCc.out).mono ?_; rintro e w' ⟨rfl, ⟨n4, rfl⟩⟩) | (go_at_call 6; with_reducible refine (impl_FactorGenus.calls k A12 c12 lz _ _ HC12.out.2 HC12.out.1 HCc.out).mono ?_; rintro e w' ⟨rfl, ⟨n4, rfl⟩⟩))
              go_ret
              exact ⟨rfl, by repeat (first | exact HBz.out | apply pw_below_drewN)⟩
            · have d3b : decide (n < 2) = false := decide_eq_false d3
              have hc' := (hc.resolve_left d2).resolve_left d3
              have hw : wrap64 (b + 1) = b + 1 := by have h9 := of_decide_eq_false c3b; unfold wrap64; omega
              have ec : (c == wrap64 (b + 1)) = true := by rw [hc', hw]; exact beq_self_eq_true _
              have ec2 : decide (c = wrap64 (b + 1)) = true := by rw [hc', hw]; exact decide_eq_true rfl
              clear hc hc' hw ho d2 d3
              go_wp2_with (first | (go_at_call 6; with_reducible refine (impl_FactorGenus.calls k A7 c7 xs _ _ (Kd.C_drewN HC76.out.2 _) HC76.out.1 HA2.out).mono ?_; rintro e w' ⟨rfl, ⟨n4, rfl⟩⟩) | (go_at_call 6; with_reducible refine (impl_FactorGenus.calls k A7 c7 xs _ _ HC76.out.2 HC76.out.1 HA2.out).mono ?_; rintro e w' ⟨rfl, ⟨n4, rfl⟩⟩) | (go_at_call 6; with_reducible refine (impl_FactorGenus.calls k A11 c11 ly _ _ (Kd.C_drewN HC116.out.2 _) HC116.out.1 HBb.out).mono ?_; rintro e w' ⟨rfl, ⟨n4, rfl⟩⟩) | (go_at_call 6; with_reducible refine (impl_FactorGenus.calls k A11 c11 ly _ _ HC116.out.2 HC116.out.1 HBb.out).mono ?_; rintro e w' ⟨rfl, ⟨n4, rfl⟩⟩) | (go_at_call 6; with_reducible refine (impl_FactorGenus.calls k A12 c12 lz _ _ (Kd.C_drewN HC12.out.2 _) HC12.out.1 HCc.out).mono ?_; rintro e w' ⟨rfl, ⟨n4, rfl⟩⟩) | (go_at_call 6; with_reducible refine (impl_FactorGenus.calls k A12 c12 lz _ _ HC12.out.2 HC12.out.1 HCc.out).mono ?_; rintro e w' ⟨rfl, ⟨n4, rfl⟩⟩))
              go_ret
              exact ⟨rfl, by repeat (first | exact HBz.out | apply pw_below_drewN)⟩
    | succ d =>
      have hc : decide ((0 : Int) ≤ i) = true := decide_eq_true (by have := HI.out; omega)
      have hid : i = (d : Int) := by have := HI.out; omega
      have hdl : d < ty.length := by have := HI.out; omega
      obtain ⟨ad2, Ai, ci, he2, hce, hcl, hcr, hK⟩ := laws_FnFactorGenus.elem HCT.out.2 HBd.out d hdl
      cases he2
      generalize hrow : ty.getD d [] = row at hce hcl hcr hK
      have HROW := Aside0.mk hrow
      clear hrow
      have HK := Aside0.mk hK
      have i1 : (0 : Int) ≤ i := by have := HI.out; omega
      have i2 : i < (ty.length : Int) := by omega
      have hce2 : wr.cell? (ad.add i.toNat) = some (.slice Ai row.length ci) := by rw [hid, Int.toNat_natCast]; exact hce
      have HD := Aside0.mk (And.intro hid hdl)
      have HLX := Aside0.mk (show xs.length ≤ 1000 by have h1 := congrArg List.length HX.out; simp at h1; have := HN.out; omega)
      have HAK := Aside0.mk (show ∀ k, k < w1.heap.size → True ∧ some k ≠ u7.ownBlock from fun k hk => ⟨trivial, fun e => by have := Kd.N_base HO7.out k e.symm; omega⟩)
      have HAL := Aside0.mk (show (xs.length + 1) * 24 ≤ 140737488355328 by have := HLX.out; omega)
      clear hce hcl hcr hK hid hdl
      go_wp2_with (first | ((with_reducible refine gate_builtin (b := .append) (xs := #[.tmp 44, .tmp 49]) rfl ?_); at_builtin; refine Kd.N_append (Kd.slice 3 (Kd.int .i64)) (w0 := w1) w1.heap.size rfl (.tmp 44) (.tmp 49) 23 27 (.slice none 0 0) 24 rfl Try.underlying23 info27 rfl (by decide) (by omega) u7 xs row [.slice Ai row.length ci] (fun _ => True) (fun k_ => k_ < w1.heap.size) rfl rfl HK.out ?aK (fun _ _ => trivial) HO7.out HBd.out HBd.out.size ?aL ?_; (case aK => exact HAK.out); (case aL => exact HAL.out); intro v1 w2 ho hb hg hat; have HO8 := Aside0.mk ho; have HBe := Aside0.mk hb; clear ho hb hg hat))
      go_roundg d
      case measure => omega
      case rel =>
        have h1 := HD.out
        refine ⟨i - 1, xs ++ [row], by rw [show wrap64 (i - 1) = i - 1 by unfold wrap64; have := HN.out; omega], ⟨by omega, by omega⟩, ⟨?_⟩, HO8, HBe⟩
        have h2 := HX.out
        rw [List.take_succ_eq_append_getElem h1.2, List.reverse_append] at h2
        rw [List.append_assoc, ← h2]
        congr 2
        rw [← HROW.out, List.getD_eq_getElem?_getD, List.getElem?_eq_getElem h1.2]; rfl
def laws_FnFactorGenus.Pure : Prop := ∀ (l0 : List Int), l0.length ≤ maxLen → l0.length * 1 ≤ 140737488351232 → (∀ x ∈ l0, (Lit.int .u8 x).wf = true) → ∃ k, laws_FnFactorGenus.f k l0 = some true
theorem laws_FnFactorGenus.walk (P : laws_FnFactorGenus.Pure) (a0 : Option Addr) (len0 cap0 : Nat) (z0 : List Int) (w : World) (w0 : (a0 = none ∧ len0 = 0 ∧ cap0 = 0 ∧ z0 = []) ∨ ∃ x, a0 = some x ∧ len0 ≤ cap0 ∧ cap0 ≤ maxLen ∧ z0.length = cap0 ∧ (∀ i, i < z0.length → w.cell? (x.add i) = some (.int .u8 (z0.getD i 0))) ∧ ∀ n ∈ z0, (Lit.int .u8 n).wf = true) (y0 : len0 * 1 ≤ 140737488351232) :
    Calls Try.prog 3 #[.slice a0 len0 cap0] w fun e w' => e = .returned (.bool true) ∧ Below w.heap.size w w' := by
  obtain ⟨l0, rfl, hr0, hm0, hw0, hc0⟩ := ReadsInt.ofRowC w0
  obtain ⟨k, h⟩ := P l0 hm0 y0 hw0
  exact laws_FnFactorGenus.calls k _ _ l0 true w (Kd.C_of_reads (d := (0 : Int)) (h1 := fun _ => rfl) hr0) hc0 h

end Go.Proofs.Ytehlokjlcbegoaa.Q
