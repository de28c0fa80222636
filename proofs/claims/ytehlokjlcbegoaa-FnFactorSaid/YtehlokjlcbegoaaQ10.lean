import Derived.Test.YtehlokjlcbegoaaQ0
import Derived.Test.YtehlokjlcbegoaaQ1
import Derived.Test.YtehlokjlcbegoaaQ2
import Derived.Test.YtehlokjlcbegoaaQ3
import Derived.Test.YtehlokjlcbegoaaQ6
import Derived.Test.YtehlokjlcbegoaaQ9
namespace Go.Proofs.Ytehlokjlcbegoaa.Q
open Go.RowKit Go.Proofs.YtehlokjlcbegoaaW.PrintWords Go.Proofs.YtehlokjlcbegoaaW.PrintLast Go.Proofs.YtehlokjlcbegoaaW.PrintMore
attribute [local go_sem] max2_int min2_int max_two min_two max_three min_three max_four min_four   -- for this text's walks alone
set_option linter.unusedVariables false
set_option linter.unusedSimpArgs false

/-! ### laws_FnFactor: function 4 (a section of my own) -/
def laws_FnFactor.prodR (k : Nat) : List (List Int) → Int → Option Int
  | [], p => some p
  | x :: xs, p => (impl_ClassSize.f k x).bind fun c => laws_FnFactor.prodR k xs (wrap64 (p * c))
def laws_FnFactor.sumR (k : Nat) (ty : List (List Int)) : List (List Int) → Int → Option Int
  | [], s => some s
  | x :: xs, s => (impl_FactorCount.f k (ty ++ [x])).bind fun v => laws_FnFactor.sumR k ty xs (wrap64 (s + v))
def laws_FnFactor.r (k : Nat) (ty : List (List Int)) (out : Int) : Option Bool := if 1 ≤ ty.length ∧ ty.length ≤ 1000 then (laws_sumOf.f k (ty.getD 0 [])).bind fun n => (impl_PartsAll.f n).bind fun pa => if 1 ≤ pa.1.length ∧ pa.1.length ≤ 1000 ∧ pa.2 = true then (laws_FnFactor.prodR k ty.reverse 1).bind fun P => (impl_FactorCount.f k ty.reverse).bind fun a => if a = out then (if ty.length = 6 then some true else (laws_FnFactor.sumR k ty pa.1 0).bind fun s => (impl_FactorCount.f k (ty ++ [pa.1.getD (pa.1.length - 1) []])).bind fun b => if b = out ∧ s = P then some true else none) else none else none else none
def laws_FnFactor.f (k : Nat) (l0 : List Int) : Option Bool := if (l0.length : Int) > 1048576 then some true else (spec_DrawFactorCount.f k l0).bind fun ty => (impl_FactorCount.f k ty).bind fun out => (spec_FactorCount.f k ty).bind fun want => if out = want then (if out < 0 then some true else laws_FnFactor.r k ty out) else none
/-- a row that is read, and what its footprint lies below -/
theorem laws_FnFactor.elem {w1 W : World} {A : Option Addr} {xs : List (List Int)} (h : Kd.C (Kd.slice 3 (Kd.int .i64)) w1 A xs.length xs) (hb : Below w1.heap.size w1 W) (i : Nat) (hi : i < xs.length) :
    ∃ ad A0 c0, A = some ad ∧ W.cell? (ad.add i) = some (.slice A0 (xs.getD i []).length c0) ∧ (xs.getD i []).length ≤ c0 ∧ Kd.C (Kd.int .i64) W A0 (xs.getD i []).length (xs.getD i []) ∧ Kd.FK (Kd.slice 3 (Kd.int .i64)) W (fun k => k < w1.heap.size) (xs.getD i []) [.slice A0 (xs.getD i []).length c0] := by
  have hF := Kd.F_below (Kd.C_F (Kd.heap_slice 3 (Kd.heap_int .i64)) h) hb
  obtain ⟨ad, c, hA, hcl, hK, hcc, _⟩ := Kd.F_get hF [] (i : Int) (by omega) (by omega)
  rw [Int.toNat_natCast] at hK hcc
  obtain ⟨A0, c0, rfl, hl, hg⟩ := Kd.FK_slice_open hK
  refine ⟨ad, A0, c0, hA, ?_, hl, Kd.F_now hg, hK⟩
  have := hcc 0 _ rfl
  rwa [show (Kd.slice 3 (Kd.int .i64)).sz = 1 from rfl, Nat.mul_one, Nat.add_zero] at this
theorem laws_FnFactor.one (w : World) (X : Obj) : (w.alloc X).heap[w.heap.size]? = some X := by
  show (w.heap.push X)[w.heap.size]? = some X
  rw [Array.getElem?_push, if_pos rfl]
theorem laws_FnFactor.two1 (w : World) (X Y : Obj) : ((w.alloc X).alloc Y).heap[w.heap.size]? = some X := by
  show ((w.heap.push X).push Y)[w.heap.size]? = some X
  rw [Array.getElem?_push, if_neg (by rw [Array.size_push]; omega), Array.getElem?_push, if_pos rfl]
theorem laws_FnFactor.two2 (w : World) (X Y : Obj) : ((w.alloc X).alloc Y).heap[w.heap.size + 1]? = some Y := by
  show ((w.heap.push X).push Y)[w.heap.size + 1]? = some Y
  rw [Array.getElem?_push, if_pos (by rw [Array.size_push])]
/-- a row of one row that is read -/
theorem laws_FnFactor.lit {W : World} {h4 g : Nat} {row : List Int} {A3 : Option Addr} {n c3 : Nat} (hg : W.heap[g]? = some (.cells #[.slice A3 n c3] 27 (0, 0))) (hK : Kd.FK (Kd.slice 3 (Kd.int .i64)) W (fun k => k < h4) row [.slice A3 n c3]) : Kd.F (Kd.slice 3 (Kd.int .i64)) W (fun k => k < h4 ∨ k = g) (some ⟨g, 0, none⟩) 1 [row] := by
  intro W' hW
  refine ⟨rfl, by omega, fun _ => ⟨_, rfl, fun j p hj => ?_⟩⟩
  obtain ⟨hjl, hjp⟩ := List.getElem?_eq_some_iff.1 hj
  have h0 : j = 0 := by simp at hjl; exact hjl
  subst h0
  simp only [List.getElem_cons_zero] at hjp
  subst hjp
  have hK' := hK W' (fun k hk hlt => hW k (.inl hk) hlt)
  refine ⟨[.slice A3 n c3], rfl, hK', fun i u hi => ?_⟩
  obtain ⟨hil, hiu⟩ := List.getElem?_eq_some_iff.1 hi
  have h00 : i = 0 := by simp at hil; exact hil
  subst h00
  simp only [List.getElem_cons_zero] at hiu
  subst hiu
  have hgl : g < W.heap.size := (Array.getElem?_eq_some_iff.1 hg).1
  exact cell_of_row W' g 0 _ _ _ ((hW g (.inr rfl) hgl).trans hg)
theorem laws_FnFactor.inb {w : World} {a : Addr} {v : Value} (h : w.cell? a = some v) : a.block < w.heap.size := by
  refine Nat.lt_of_not_le fun hle => ?_
  have h1 : w.heap[a.block]? = none := Array.getElem?_eq_none hle
  simp [World.cell?, h1] at h
theorem laws_FnFactor.size2 {w : World} {X Y : Obj} {b : Nat} (h : ((w.alloc X).alloc Y).drew.heap.size ≤ b) : w.heap.size + 2 ≤ b := by
  have e : ((w.alloc X).alloc Y).drew.heap.size = w.heap.size + 2 := by
    show ((w.heap.push X).push Y).size = _
    rw [Array.size_push, Array.size_push]
  omega
theorem laws_FnFactor.own (g : Nat) : (Value.slice (some ⟨g, 0, none⟩) 0 0).ownBlock = some g := rfl
theorem laws_FnFactor.came {w1 wr : World} {ad : Addr} {ty : List (List Int)} {row : List Int} {Ai : Option Addr} {ci : Nat} {i : Int} (h : Kd.C (Kd.slice 3 (Kd.int .i64)) w1 (some ad) ty.length ty) (d : Nat) (hd : d < ty.length) (hid : i = (d : Int)) (hr : ty.getD d [] = row) (hc : wr.cell? (ad.add i.toNat) = some (.slice Ai row.length ci)) (hb : Below w1.heap.size w1 wr) : (ad.add i.toNat).block < w1.heap.size ∧ w1.cell? (ad.add i.toNat) = some (.slice Ai row.length ci) := by
  subst hid hr
  obtain ⟨ad2, A2, c2, he, hce, _⟩ := laws_FnFactor.elem h (Below.refl _ _) d hd
  cases he
  rw [Int.toNat_natCast] at hc ⊢
  have hin := laws_FnFactor.inb hce
  rw [hb.cell hin, hce] at hc
  exact ⟨hin, hce.trans hc⟩
theorem laws_FnFactor.again {w1 w2 : World} {ad : Addr} {ty : List (List Int)} {row : List Int} {Ai : Option Addr} {ci : Nat} {i : Int} (h : Kd.C (Kd.slice 3 (Kd.int .i64)) w1 (some ad) ty.length ty) (d : Nat) (hd : d < ty.length) (hid : i = (d : Int)) (hr : ty.getD d [] = row) (hb : Below w1.heap.size w1 w2) (hc : w2.cell? (ad.add i.toNat) = some (.slice Ai row.length ci)) : Kd.C (Kd.int .i64) w2 Ai row.length row := by
  subst hid hr
  obtain ⟨ad2, A2, c2, he, hce, _, hC, _⟩ := laws_FnFactor.elem h hb d hd
  cases he
  rw [Int.toNat_natCast, hce] at hc
  injection hc with hc
  injection hc with hc1 hc2 hc3
  rw [← hc1]
  exact hC
set_option maxHeartbeats 16000000 in
set_option maxRecDepth 100000 in
theorem laws_FnFactor.calls (k : Nat) (A0 : Option Addr) (c0 : Nat) (l0 : List Int) (r : Bool) (w : World) (hr0 : Kd.C (Kd.int .u8) w A0 l0.length l0) (hc0 : l0.length ≤ c0) (h : laws_FnFactor.f k l0 = some r) :
    Calls Try.prog 4 #[.slice A0 l0.length c0] w fun e w' => e = .returned (.bool r) ∧ Below w.heap.size w w' := by
  unfold laws_FnFactor.f at h
  by_cases c1 : (l0.length : Int) > 1048576
  · rw [if_pos c1] at h
    obtain rfl := Option.some.inj h
    have c1b : decide (1048576 < (l0.length : Int)) = true := decide_eq_true c1
    have HB := Aside0.mk (Below.refl w.heap.size w)
    clear h c1
    go_enter Try.func4, Try.ntmps4
    go_wp2
    go_ret
    exact ⟨rfl, HB.out⟩
  rw [if_neg c1] at h
  have c1b : decide (1048576 < (l0.length : Int)) = false := decide_eq_false c1
  clear c1
  obtain ⟨ty, hty, h2⟩ := Option.bind_eq_some_iff.mp h
  obtain ⟨out, hout, h3⟩ := Option.bind_eq_some_iff.mp h2
  obtain ⟨want, hwant, h4⟩ := Option.bind_eq_some_iff.mp h3
  clear h h2 h3
  by_cases c2 : ¬ out = want
  · rw [if_neg c2] at h4; cases h4
  replace c2 := Classical.not_not.mp c2
  rw [if_pos c2] at h4
  subst c2
  have HT := Aside0.mk hty
  have HO := Aside0.mk hout
  have HW := Aside0.mk hwant
  have HR0 := Aside0.mk hr0
  have HC0 := Aside0.mk hc0
  clear hty hout hwant hr0 hc0
  have ceq : (out == out) = true := beq_self_eq_true _
  have cne : (out != out) = false := by simp
  by_cases c3 : out < 0
  · rw [if_pos c3] at h4
    obtain rfl := Option.some.inj h4
    have c3b : decide (out < 0) = true := decide_eq_true c3
    clear h4 c3
    go_enter Try.func4, Try.ntmps4
    go_upto_region 4 with (go_at_call 11; refine (spec_DrawFactorCount.calls k A0 c0 l0 ty w HR0.out HC0.out HT.out).mono ?_; rintro e w1 ⟨v1, rfl, ho, hb⟩; obtain ⟨At, ct, rfl, lt, gt⟩ := Kd.N_reads (Kd.S_N ho); have HCT := Aside0.mk (And.intro lt gt); have HB1 := Aside0.mk hb; clear ho hb lt gt)
    go_upto_region 5 with (go_at_call 12; refine (impl_FactorCount.calls k At ct ty out w1 HCT.out.2 HCT.out.1 HO.out).mono ?_; rintro e w2 ⟨rfl, hb⟩; have HB2 := Aside0.mk hb; clear hb)
    go_upto_region 6 with (go_at_call 13; refine (spec_FactorCount.calls k At ct ty out w2 (Kd.C_below HCT.out.2 HB2.out) HCT.out.1 HW.out).mono ?_; rintro e wa ⟨rfl, hb⟩; have HBa := Aside0.mk (below_step HB2.out hb); clear hb HB2)
    go_wp2
    go_ret
    exact ⟨rfl, below_step HB1.out HBa.out⟩
  rw [if_neg c3] at h4
  have c3b : decide (out < 0) = false := decide_eq_false c3
  clear c3
  have HH := Aside0.mk h4
  clear h4
  go_enter Try.func4, Try.ntmps4
  go_upto_region 4 with (go_at_call 11; refine (spec_DrawFactorCount.calls k A0 c0 l0 ty w HR0.out HC0.out HT.out).mono ?_; rintro e w1 ⟨v1, rfl, ho, hb⟩; obtain ⟨At, ct, rfl, lt, gt⟩ := Kd.N_reads (Kd.S_N ho); have HCT := Aside0.mk (And.intro lt gt); have HB1 := Aside0.mk hb; clear ho hb lt gt)
  go_upto_region 5 with (go_at_call 12; refine (impl_FactorCount.calls k At ct ty out w1 HCT.out.2 HCT.out.1 HO.out).mono ?_; rintro e w2 ⟨rfl, hb⟩; have HB2 := Aside0.mk hb; clear hb)
  go_upto_region 6 with (go_at_call 13; refine (spec_FactorCount.calls k At ct ty out w2 (Kd.C_below HCT.out.2 HB2.out) HCT.out.1 HW.out).mono ?_; rintro e wa ⟨rfl, hb⟩; have HBa := Aside0.mk (below_step HB2.out hb); clear hb HB2)
  have h := HH.out
  clear HH HT HO HW HR0 HC0
  unfold laws_FnFactor.r at h
  by_cases c4 : ¬ (1 ≤ ty.length ∧ ty.length ≤ 1000)
  · rw [if_neg c4] at h; cases h
  replace c4 := Classical.not_not.mp c4
  rw [if_pos c4] at h
  obtain ⟨n, hn, h2⟩ := Option.bind_eq_some_iff.mp h
  obtain ⟨⟨L, bb⟩, hL, h3⟩ := Option.bind_eq_some_iff.mp h2
  clear h h2
  simp only at h3
  by_cases c5 : ¬ (1 ≤ L.length ∧ L.length ≤ 1000 ∧ bb = true)
  · rw [if_neg c5] at h3; cases h3
  replace c5 := Classical.not_not.mp c5
  rw [if_pos c5] at h3
  obtain ⟨P, hP, h4⟩ := Option.bind_eq_some_iff.mp h3
  obtain ⟨a, ha, h5⟩ := Option.bind_eq_some_iff.mp h4
  clear h3 h4
  by_cases c6 : ¬ (a = out)
  · rw [if_neg c6] at h5; cases h5
  replace c6 := Classical.not_not.mp c6
  rw [if_pos c6] at h5
  subst c6
  obtain ⟨c5a, c5b, rfl⟩ := c5
  have HN := Aside0.mk (And.intro c4 (And.intro c5a c5b))
  have HA := Aside0.mk ha
  have HP := Aside0.mk hP
  have HLL := Aside0.mk hL
  have HNN := Aside0.mk hn
  have HH := Aside0.mk h5
  clear h5 c4 c5a c5b ha hP hL hn
  obtain ⟨ad, Ae, ce, rfl, hce, hcl, hcr, _⟩ := laws_FnFactor.elem HCT.out.2 HBa.out 0 (by have := HN.out; omega)
  have HE := Aside0.mk (And.intro hcl hcr)
  rw [show ad.add 0 = ad from by cases ad; rfl] at hce
  have hlt : (0 : Int) < (ty.length : Int) := by have := HN.out; omega
  clear hcl hcr
  go_upto_region 9 with (go_at_call 8; refine (laws_sumOf.calls k Ae ce _ n wa HE.out.2 HE.out.1 HNN.out).mono ?_; rintro e w' ⟨rfl, ⟨n3, rfl⟩⟩)
  have HBc := Aside0.mk (pw_below_drewN HBa.out n3)
  generalize wa.drewN n3 = wc at HBc ⊢
  clear HBa hce HE
  go_upto_region 10 with ((with_reducible refine gate_dst (N := 38) rfl ?_); refine Kd.N_lit (Kd.slice 3 (Kd.int .i64)) (w0 := w1) w1.heap.size 27 ?hg (N' := 38) ?hd (xs := ([] : List (List Int))) (inner := []) (ok := fun _ => True) (okp := fun _ => True) ?hr ?hp (fun _ _ => trivial) trivial ?hB ?hS (by simp) ?_; (case hd => rfl); (case hg => rfl); (case hr => first | (go_simp; done) | (go_simp; rfl)); (case hp => exact Reps.none _ _); (case hB => exact HBc.out); (case hS => exact HBc.out.size); intro v7 wd ho hb hg_ hnew_; clear hg_ hnew_; have HO7 := Aside0.mk ho; have HBd := Aside0.mk hb; clear ho hb HBc)
  go_wp2
  go_loopg [7, 8, 9] ty.length (fun d v7 v8 v9 wr => ∃ (i p : Int) (xs : List (List Int)), v8 = .int .i64 p ∧ v9 = .int .i64 i ∧ Aside0 (i + 1 = (d : Int) ∧ d ≤ ty.length) ∧ Aside0 (xs ++ (ty.take d).reverse = ty.reverse) ∧ Aside0 (laws_FnFactor.prodR k (ty.take d).reverse p = some P) ∧ Aside0 (Kd.N (Kd.slice 3 (Kd.int .i64)) 27 wr w1.heap.size (fun _ => True) v7 xs) ∧ Aside0 (Below w1.heap.size w1 wr))
  case atStart => exact ⟨(ty.length : Int) - 1, 1, [], rfl, by rw [show wrap64 ((ty.length : Int) - 1) = (ty.length : Int) - 1 by unfold wrap64; have := HN.out; omega], ⟨by omega, Nat.le_refl _⟩, ⟨by rw [List.take_length]; rfl⟩, ⟨by rw [List.take_length]; exact HP.out⟩, HO7, HBd⟩
  case round =>
    clear HO7 HBd HP
    obtain ⟨i, p, xs, rfl, rfl, HI, HX, HP, HO7, HBd⟩ := hrel
    cases gk with
    | zero =>
      have hc : decide ((0 : Int) ≤ i) = false := decide_eq_false (by have := HI.out; omega)
      have hx : xs = ty.reverse := by have := HX.out; simpa using this
      have HA2 := Aside0.mk (show impl_FactorCount.f k xs = some a by rw [hx]; exact HA.out)
      have hp : p = P := by have := HP.out; simpa [laws_FnFactor.prodR] using this
      subst hp
      clear hx HA HP
      obtain ⟨A7, c7, e7, l7, g7⟩ := Kd.N_reads HO7.out
      subst e7
      have HC7 := Aside0.mk (And.intro l7 g7)
      clear l7 g7 HO7 HX HI
      go_upto_region 17 with (go_at_call 9; refine (impl_PartsAll.calls n L true _ HLL.out).mono ?_; rintro e w4 ⟨v4, rfl, ho, hb⟩; obtain ⟨Ag, cg, rfl, lg, gg⟩ := Kd.N_reads (Kd.S_N ho); have HCL := Aside0.mk (And.intro lg gg); have HB4 := Aside0.mk hb; clear ho hb lg gg)
      have HC74 := Aside0.mk (And.intro HC7.out.1 (Kd.C_below HC7.out.2 HB4.out))
      have HBw := Aside0.mk (below_step HBd.out HB4.out)
      clear HC7 HBd HB4 hc
      have HCT4 := Aside0.mk (And.intro HCT.out.1 (Kd.C_below HCT.out.2 HBw.out))
      have HBW := Aside0.mk (below_step HB1.out HBw.out)
      clear HCT HBw HB1 HLL HNN
      have h := HH.out
      clear HH
      by_cases c7 : ty.length = 6
      · have c7b : ((ty.length : Int) == 6) = true := by rw [c7]; rfl
        have c7d : decide ((ty.length : Int) = 6) = true := decide_eq_true (by omega)
        rw [if_pos c7] at h
        obtain rfl := Option.some.inj h
        clear h c7
        go_wp2_with (first | (go_at_call 12; with_reducible refine (impl_FactorCount.calls k A7 c7 xs a w4 HC74.out.2 HC74.out.1 HA2.out).mono ?_; rintro e w8 ⟨rfl, hb⟩; have HB8 := Aside0.mk (below_step HBW.out hb); clear hb))
        go_ret
        exact ⟨by first | rfl | (simp; done) | (simp [*]; done), HB8.out⟩
      have c7b : ((ty.length : Int) == 6) = false := by simp; omega
      have c7d : decide ((ty.length : Int) = 6) = false := decide_eq_false (by omega)
      rw [if_neg c7] at h
      clear c7
      obtain ⟨s, hs, h2⟩ := Option.bind_eq_some_iff.mp h
      obtain ⟨b, hb, h3⟩ := Option.bind_eq_some_iff.mp h2
      clear h h2
      by_cases c8 : ¬ (b = a ∧ s = p)
      · rw [if_neg c8] at h3; cases h3
      replace c8 := Classical.not_not.mp c8
      rw [if_pos c8] at h3
      obtain rfl := Option.some.inj h3
      clear h3
      obtain ⟨rfl, rfl⟩ := c8
      have HS := Aside0.mk hs
      have HBb := Aside0.mk hb
      clear hs hb
      go_wp2
      go_loopg [12, 13] L.length (fun d v12 v13 wr => ∃ (j q : Int), v12 = .int .i64 q ∧ v13 = .int .i64 j ∧ Aside0 (j + (d : Int) = (L.length : Int) ∧ 0 ≤ j) ∧ Aside0 (laws_FnFactor.sumR k ty (L.drop j.toNat) q = some s) ∧ Aside0 (Below w4.heap.size w4 wr))
      case atStart => exact ⟨0, 0, rfl, rfl, ⟨by omega, Int.le_refl _⟩, ⟨by simpa using HS.out⟩, ⟨Below.refl _ _⟩⟩
      case round =>
        clear HS
        obtain ⟨j, q, rfl, rfl, HJ, HS, HBq⟩ := hrel
        have HCTr := Aside0.mk (And.intro HCT4.out.1 (Kd.C_below HCT4.out.2 HBq.out))
        cases gk with
        | zero =>
          have hc : decide (j < (L.length : Int)) = false := decide_eq_false (by have := HJ.out; omega)
          have hs : q = s := by
            have := HS.out
            rw [List.drop_eq_nil_of_le (by have := HJ.out; omega)] at this
            simpa [laws_FnFactor.sumR] using this
          subst hs
          clear HS
          obtain ⟨ad3, A3, c3, he3, hce3, hcl3, hcr3, hK3⟩ := laws_FnFactor.elem (Kd.C_below HCL.out.2 HBq.out) (Below.refl _ _) (L.length - 1) (by have := HN.out; omega)
          subst he3
          generalize hrow : L.getD (L.length - 1) [] = row at hce3 hcl3 hcr3 hK3 HBb
          clear hrow hcl3 hcr3
          have HK3 := Aside0.mk hK3
          clear hK3
          generalize hly : ty ++ [row] = ly at HBb
          have HLYE := Aside0.mk hly
          have HV := Aside0.mk HBb.out
          clear hly HBb
          have HWL := Aside0.mk (show ((L.length : Int) - 1).toNat = L.length - 1 by omega)
          go_upto_region 24 with (fail)
          clear hc
          have HWK := Aside0.mk (show IntKind.i64.wrap ((L.length : Int) - 1) = (L.length : Int) - 1 from IntWalk.i64_in _ (by have := HN.out; omega))
          have i1 : (0 : Int) ≤ IntKind.i64.wrap ((L.length : Int) - 1) := by rw [HWK.out]; have := HN.out; omega
          have i2 : IntKind.i64.wrap ((L.length : Int) - 1) < (L.length : Int) := by rw [HWK.out]; omega
          rw [← HWL.out, ← HWK.out] at hce3
          go_cut [14] (fun v14 wz => v14 = .int .i64 b ∧ Aside0 (Below wr.heap.size wr wz))
          case first =>
            have HBr := Aside0.mk (show Below wr.heap.size wr wr.drew from below_drew1 (Below.refl _ _))
            have HIN := Aside0.mk (laws_FnFactor.inb hce3)
            have HFT := Aside0.mk (Kd.C_F (Kd.heap_slice 3 (Kd.heap_int .i64)) HCTr.out.2)
            go_region_held3 (fun w' => w'.cell? (ad3.add (IntKind.i64.wrap ((L.length : Int) - 1)).toNat) = some (.slice A3 row.length c3)) (first | exact (Below.cell (by repeat (first | exact HB7.out | exact HB6.out | exact HB5.out | exact HBr.out | exact Below.refl _ _ | apply below_alloc | apply below_drew1 | apply pw_below_drewN)) HIN.out).trans hce3 | go_keep) (first | (refine Kd.N_append_rows_step (Kd.slice 3 (Kd.int .i64)) (w0 := wr) wr.heap.size (by rfl) (.tmp 93) (.tmp 94) 23 27 (.slice none 0 0) 24 (by rfl) Try.underlying23 info27 rfl (by decide) (by omega) (.slice (some ⟨wr.heap.size, 0, none⟩) 0 0) [] ty (some ad) ty.length ct (fun _ => True) (fun k => k < wr.heap.size) (by rfl) (by rfl) (Kd.S_N (impl_PartsAll.empty _ wr.heap.size (wr.heap.size) _ (laws_FnFactor.two1 wr _ _) (by omega) trivial)) (Kd.F_below HFT.out (by repeat (first | exact HBr.out | exact Below.refl _ _ | apply below_alloc | apply below_drew1 | apply pw_below_drewN))) (fun k hk => ⟨trivial, fun e => by rw [laws_FnFactor.own] at e; injection e with e; omega⟩) (fun _ _ => trivial) (by repeat (first | exact HBr.out | exact Below.refl _ _ | apply below_alloc | apply below_drew1 | apply pw_below_drewN)) (Below.size (by repeat (first | exact HBr.out | exact Below.refl _ _ | apply below_alloc | apply below_drew1 | apply pw_below_drewN))) (by have := HN.out; simp; omega) ?_; intro v58 w5 ho hb hg hat; have HF65 := Aside0.mk (Kd.F_grown (W := ((wr.alloc (.cells #[] 27)).alloc (.cells #[.slice A3 row.length c3] 27)).drew) (laws_FnFactor.lit (laws_FnFactor.two2 wr _ _) (Kd.FK_below HK3.out (by repeat (first | exact HBr.out | exact Below.refl _ _ | apply below_alloc | apply below_drew1 | apply pw_below_drewN)))) hg (fun k hk e => by rw [laws_FnFactor.own] at e; injection e with e; rcases hk with hk | hk <;> omega)); have HNE := Aside0.mk (show ∀ k, (k < wr.heap.size ∨ k = wr.heap.size + 1) → True ∧ some k ≠ v58.ownBlock from fun k hk => ⟨trivial, fun e => by have h1 := Kd.N_base ho k e.symm; rcases hat with h2 | ⟨b, h2, h3⟩ <;> rw [h2] at e <;> (try rw [laws_FnFactor.own] at e) <;> injection e with e <;> (try have h4 := laws_FnFactor.size2 h3) <;> omega⟩); have H58 := Aside0.mk (show Kd.N (Kd.slice 3 (Kd.int .i64)) 27 w5 wr.heap.size (fun _ => True) v58 ty from ho); have HB5 := Aside0.mk hb; clear ho hb hg hat) | (refine Kd.N_append_rows_step (Kd.slice 3 (Kd.int .i64)) (w0 := wr) wr.heap.size (by rfl) (.tmp 93) (.tmp 94) 23 27 (.slice none 0 0) 24 (by rfl) Try.underlying23 info27 rfl (by decide) (by omega) (.slice (some ⟨wr.heap.size + 1, 0, none⟩) 0 0) [] ty (some ad) ty.length ct (fun _ => True) (fun k => k < wr.heap.size) (by rfl) (by rfl) (Kd.S_N (impl_PartsAll.empty _ wr.heap.size (wr.heap.size + 1) _ (laws_FnFactor.two2 wr _ _) (by omega) trivial)) (Kd.F_below HFT.out (by repeat (first | exact HBr.out | exact Below.refl _ _ | apply below_alloc | apply below_drew1 | apply pw_below_drewN))) (fun k hk => ⟨trivial, fun e => by rw [laws_FnFactor.own] at e; injection e with e; omega⟩) (fun _ _ => trivial) (by repeat (first | exact HBr.out | exact Below.refl _ _ | apply below_alloc | apply below_drew1 | apply pw_below_drewN)) (Below.size (by repeat (first | exact HBr.out | exact Below.refl _ _ | apply below_alloc | apply below_drew1 | apply pw_below_drewN))) (by have := HN.out; simp; omega) ?_; intro v58 w5 ho hb hg hat; have HF65 := Aside0.mk (Kd.F_grown (W := ((wr.alloc (.cells #[.slice A3 row.length c3] 27)).alloc (.cells #[] 27)).drew) (laws_FnFactor.lit (laws_FnFactor.two1 wr _ _) (Kd.FK_below HK3.out (by repeat (first | exact HBr.out | exact Below.refl _ _ | apply below_alloc | apply below_drew1 | apply pw_below_drewN)))) hg (fun k hk e => by rw [laws_FnFactor.own] at e; injection e with e; rcases hk with hk | hk <;> omega)); have HNE := Aside0.mk (show ∀ k, (k < wr.heap.size ∨ k = wr.heap.size) → True ∧ some k ≠ v58.ownBlock from fun k hk => ⟨trivial, fun e => by have h1 := Kd.N_base ho k e.symm; rcases hat with h2 | ⟨b, h2, h3⟩ <;> rw [h2] at e <;> (try rw [laws_FnFactor.own] at e) <;> injection e with e <;> (try have h4 := laws_FnFactor.size2 h3) <;> omega⟩); have H58 := Aside0.mk (show Kd.N (Kd.slice 3 (Kd.int .i64)) 27 w5 wr.heap.size (fun _ => True) v58 ty from ho); have HB5 := Aside0.mk hb; clear ho hb hg hat) | (refine Kd.N_append_rows_step (Kd.slice 3 (Kd.int .i64)) (w0 := wr) wr.heap.size (by rfl) (.tmp 93) (.tmp 94) 23 27 (.slice none 0 0) 24 (by rfl) Try.underlying23 info27 rfl (by decide) (by omega) (.slice (some ⟨wr.heap.size, 0, none⟩) 0 0) [] ty (some ad) ty.length ct (fun _ => True) (fun k => k < wr.heap.size) (by rfl) (by rfl) (Kd.S_N (impl_PartsAll.empty _ wr.heap.size (wr.heap.size) _ (laws_FnFactor.one wr _) (by omega) trivial)) (Kd.F_below HFT.out (by repeat (first | exact HBr.out | exact Below.refl _ _ | apply below_alloc | apply below_drew1 | apply pw_below_drewN))) (fun k hk => ⟨trivial, fun e => by rw [laws_FnFactor.own] at e; injection e with e; omega⟩) (fun _ _ => trivial) (by repeat (first | exact HBr.out | exact Below.refl _ _ | apply below_alloc | apply below_drew1 | apply pw_below_drewN)) (Below.size (by repeat (first | exact HBr.out | exact Below.refl _ _ | apply below_alloc | apply below_drew1 | apply pw_below_drewN))) (by have := HN.out; simp; omega) ?_; intro v58 w5 ho hb hg hat; have HNE := Aside0.mk (show ∀ k, k < wr.heap.size → True ∧ some k ≠ v58.ownBlock from fun k hk => ⟨trivial, fun e => by have h1 := Kd.N_base ho k e.symm; omega⟩); have H58 := Aside0.mk (show Kd.N (Kd.slice 3 (Kd.int .i64)) 27 w5 wr.heap.size (fun _ => True) v58 ty from ho); have HB5 := Aside0.mk hb; clear ho hb hg hat) | (refine Kd.N_append_rows_step (Kd.slice 3 (Kd.int .i64)) (w0 := wr) wr.heap.size (by rfl) (.tmp 95) (.tmp 102) 23 27 (.slice none 0 0) 24 (by rfl) Try.underlying23 info27 rfl (by decide) (by omega) v58 ty [row] (some ⟨wr.heap.size, 0, none⟩) 1 1 (fun _ => True) (fun k => k < wr.heap.size ∨ k = wr.heap.size) (by rfl) (by rfl) H58.out HF65.out HNE.out (fun _ _ => trivial) HB5.out HB5.out.size (by have := HN.out; omega) ?_; intro v66 w6 ho hb hg hat; rw [HLYE.out] at ho; obtain ⟨A66, c66, rfl, l66, g66⟩ := Kd.N_reads ho; have H66 := Aside0.mk (And.intro l66 g66); have HB6 := Aside0.mk hb; clear ho hb hg hat l66 g66) | (refine Kd.N_append_rows_step (Kd.slice 3 (Kd.int .i64)) (w0 := wr) wr.heap.size (by rfl) (.tmp 95) (.tmp 102) 23 27 (.slice none 0 0) 24 (by rfl) Try.underlying23 info27 rfl (by decide) (by omega) v58 ty [row] (some ⟨wr.heap.size + 1, 0, none⟩) 1 1 (fun _ => True) (fun k => k < wr.heap.size ∨ k = wr.heap.size + 1) (by rfl) (by rfl) H58.out HF65.out HNE.out (fun _ _ => trivial) HB5.out HB5.out.size (by have := HN.out; omega) ?_; intro v66 w6 ho hb hg hat; rw [HLYE.out] at ho; obtain ⟨A66, c66, rfl, l66, g66⟩ := Kd.N_reads ho; have H66 := Aside0.mk (And.intro l66 g66); have HB6 := Aside0.mk hb; clear ho hb hg hat l66 g66) | (refine Kd.N_append_step (Kd.slice 3 (Kd.int .i64)) (w0 := wr) wr.heap.size (by rfl) (.tmp 95) (.tmp 102) 23 27 (.slice none 0 0) 24 (by rfl) Try.underlying23 info27 rfl (by decide) (by omega) v58 ty row [.slice A3 row.length c3] (fun _ => True) (fun k => k < wr.heap.size) (by rfl) (by rfl) (Kd.FK_below HK3.out HB5.out) HNE.out (fun _ _ => trivial) H58.out HB5.out HB5.out.size (by have := HN.out; omega) ?_; intro v66 w6 ho hb hg hat; rw [HLYE.out] at ho; obtain ⟨A66, c66, rfl, l66, g66⟩ := Kd.N_reads ho; have H66 := Aside0.mk (And.intro l66 g66); have HB6 := Aside0.mk hb; clear ho hb hg hat l66 g66) | (go_at_call 12; refine (impl_FactorCount.calls k A66 c66 ly _ w6 H66.out.2 H66.out.1 HV.out).mono ?_; rintro e w7 ⟨rfl, hb⟩; have HB7 := Aside0.mk (below_step HB6.out hb); clear hb))
            all_goals go_wp2
            all_goals go_meet
            all_goals exact ⟨rfl, HB7⟩
          case rest =>
            obtain ⟨rfl, HBz⟩ := hcut
            have HC76 := Aside0.mk (And.intro HC74.out.1 (Kd.C_below HC74.out.2 (below_step HBq.out HBz.out)))
            have HBy := Aside0.mk (below_step HBW.out (below_step HBq.out HBz.out))
            clear hce3 i1 i2
            go_wp2_with (first | (go_at_call 12; with_reducible refine (impl_FactorCount.calls k A7 c7 xs _ _ HC76.out.2 HC76.out.1 HA2.out).mono ?_; rintro e w8 ⟨rfl, hb⟩; have HB8 := Aside0.mk (below_step HBy.out hb); clear hb))
            go_ret
            exact ⟨by first | rfl | (simp; done) | (simp [*]; done), HB8.out⟩
        | succ d =>
          have hc : decide (j < (L.length : Int)) = true := decide_eq_true (by have := HJ.out; omega)
          have hd : L.drop j.toNat = L.getD j.toNat [] :: L.drop (j.toNat + 1) := by
            rw [List.drop_eq_getElem_cons (by have := HJ.out; omega), List.getD_eq_getElem?_getD, List.getElem?_eq_getElem (by have := HJ.out; omega), Option.getD_some]
          obtain ⟨ad3, A3, c3, he3, hce3, hcl3, hcr3, hK3⟩ := laws_FnFactor.elem (Kd.C_below HCL.out.2 HBq.out) (Below.refl _ _) j.toNat (by have := HJ.out; omega)
          subst he3
          have hS := HS.out
          rw [hd] at hS
          simp only [laws_FnFactor.sumR] at hS
          generalize hrow : L.getD j.toNat [] = row at hce3 hcl3 hcr3 hK3 hS
          clear hrow hcl3 hcr3 hd HS
          obtain ⟨v, hv, hS2⟩ := Option.bind_eq_some_iff.mp hS
          generalize hly : ty ++ [row] = ly at hv
          have HLYE := Aside0.mk hly
          have HV := Aside0.mk hv
          have HS := Aside0.mk hS2
          have HK3 := Aside0.mk hK3
          clear hly hv hS hS2 hK3
          have i1 : (0 : Int) ≤ j := HJ.out.2
          have i2 : j < (L.length : Int) := by have := HJ.out; omega
          go_upto_region 23 with (fail)
          clear hc
          have HBr := Aside0.mk (show Below wr.heap.size wr wr.drew from below_drew1 (Below.refl _ _))
          have HIN := Aside0.mk (laws_FnFactor.inb hce3)
          have HFT := Aside0.mk (Kd.C_F (Kd.heap_slice 3 (Kd.heap_int .i64)) HCTr.out.2)
          go_region_held3 (fun w' => w'.cell? (ad3.add (j).toNat) = some (.slice A3 row.length c3)) (first | exact (Below.cell (by repeat (first | exact HB7.out | exact HB6.out | exact HB5.out | exact HBr.out | exact Below.refl _ _ | apply below_alloc | apply below_drew1 | apply pw_below_drewN)) HIN.out).trans hce3 | go_keep) (first | (refine Kd.N_append_rows_step (Kd.slice 3 (Kd.int .i64)) (w0 := wr) wr.heap.size (by rfl) (.tmp 82) (.tmp 83) 23 27 (.slice none 0 0) 24 (by rfl) Try.underlying23 info27 rfl (by decide) (by omega) (.slice (some ⟨wr.heap.size, 0, none⟩) 0 0) [] ty (some ad) ty.length ct (fun _ => True) (fun k => k < wr.heap.size) (by rfl) (by rfl) (Kd.S_N (impl_PartsAll.empty _ wr.heap.size (wr.heap.size) _ (laws_FnFactor.two1 wr _ _) (by omega) trivial)) (Kd.F_below HFT.out (by repeat (first | exact HBr.out | exact Below.refl _ _ | apply below_alloc | apply below_drew1 | apply pw_below_drewN))) (fun k hk => ⟨trivial, fun e => by rw [laws_FnFactor.own] at e; injection e with e; omega⟩) (fun _ _ => trivial) (by repeat (first | exact HBr.out | exact Below.refl _ _ | apply below_alloc | apply below_drew1 | apply pw_below_drewN)) (Below.size (by repeat (first | exact HBr.out | exact Below.refl _ _ | apply below_alloc | apply below_drew1 | apply pw_below_drewN))) (by have := HN.out; simp; omega) ?_; intro v58 w5 ho hb hg hat; have HF65 := Aside0.mk (Kd.F_grown (W := ((wr.alloc (.cells #[] 27)).alloc (.cells #[.slice A3 row.length c3] 27)).drew) (laws_FnFactor.lit (laws_FnFactor.two2 wr _ _) (Kd.FK_below HK3.out (by repeat (first | exact HBr.out | exact Below.refl _ _ | apply below_alloc | apply below_drew1 | apply pw_below_drewN)))) hg (fun k hk e => by rw [laws_FnFactor.own] at e; injection e with e; rcases hk with hk | hk <;> omega)); have HNE := Aside0.mk (show ∀ k, (k < wr.heap.size ∨ k = wr.heap.size + 1) → True ∧ some k ≠ v58.ownBlock from fun k hk => ⟨trivial, fun e => by have h1 := Kd.N_base ho k e.symm; rcases hat with h2 | ⟨b, h2, h3⟩ <;> rw [h2] at e <;> (try rw [laws_FnFactor.own] at e) <;> injection e with e <;> (try have h4 := laws_FnFactor.size2 h3) <;> omega⟩); have H58 := Aside0.mk (show Kd.N (Kd.slice 3 (Kd.int .i64)) 27 w5 wr.heap.size (fun _ => True) v58 ty from ho); have HB5 := Aside0.mk hb; clear ho hb hg hat) | (refine Kd.N_append_rows_step (Kd.slice 3 (Kd.int .i64)) (w0 := wr) wr.heap.size (by rfl) (.tmp 82) (.tmp 83) 23 27 (.slice none 0 0) 24 (by rfl) Try.underlying23 info27 rfl (by decide) (by omega) (.slice (some ⟨wr.heap.size + 1, 0, none⟩) 0 0) [] ty (some ad) ty.length ct (fun _ => True) (fun k => k < wr.heap.size) (by rfl) (by rfl) (Kd.S_N (impl_PartsAll.empty _ wr.heap.size (wr.heap.size + 1) _ (laws_FnFactor.two2 wr _ _) (by omega) trivial)) (Kd.F_below HFT.out (by repeat (first | exact HBr.out | exact Below.refl _ _ | apply below_alloc | apply below_drew1 | apply pw_below_drewN))) (fun k hk => ⟨trivial, fun e => by rw [laws_FnFactor.own] at e; injection e with e; omega⟩) (fun _ _ => trivial) (by repeat (first | exact HBr.out | exact Below.refl _ _ | apply below_alloc | apply below_drew1 | apply pw_below_drewN)) (Below.size (by repeat (first | exact HBr.out | exact Below.refl _ _ | apply below_alloc | apply below_drew1 | apply pw_below_drewN))) (by have := HN.out; simp; omega) ?_; intro v58 w5 ho hb hg hat; have HF65 := Aside0.mk (Kd.F_grown (W := ((wr.alloc (.cells #[.slice A3 row.length c3] 27)).alloc (.cells #[] 27)).drew) (laws_FnFactor.lit (laws_FnFactor.two1 wr _ _) (Kd.FK_below HK3.out (by repeat (first | exact HBr.out | exact Below.refl _ _ | apply below_alloc | apply below_drew1 | apply pw_below_drewN)))) hg (fun k hk e => by rw [laws_FnFactor.own] at e; injection e with e; rcases hk with hk | hk <;> omega)); have HNE := Aside0.mk (show ∀ k, (k < wr.heap.size ∨ k = wr.heap.size) → True ∧ some k ≠ v58.ownBlock from fun k hk => ⟨trivial, fun e => by have h1 := Kd.N_base ho k e.symm; rcases hat with h2 | ⟨b, h2, h3⟩ <;> rw [h2] at e <;> (try rw [laws_FnFactor.own] at e) <;> injection e with e <;> (try have h4 := laws_FnFactor.size2 h3) <;> omega⟩); have H58 := Aside0.mk (show Kd.N (Kd.slice 3 (Kd.int .i64)) 27 w5 wr.heap.size (fun _ => True) v58 ty from ho); have HB5 := Aside0.mk hb; clear ho hb hg hat) | (refine Kd.N_append_rows_step (Kd.slice 3 (Kd.int .i64)) (w0 := wr) wr.heap.size (by rfl) (.tmp 82) (.tmp 83) 23 27 (.slice none 0 0) 24 (by rfl) Try.underlying23 info27 rfl (by decide) (by omega) (.slice (some ⟨wr.heap.size, 0, none⟩) 0 0) [] ty (some ad) ty.length ct (fun _ => True) (fun k => k < wr.heap.size) (by rfl) (by rfl) (Kd.S_N (impl_PartsAll.empty _ wr.heap.size (wr.heap.size) _ (laws_FnFactor.one wr _) (by omega) trivial)) (Kd.F_below HFT.out (by repeat (first | exact HBr.out | exact Below.refl _ _ | apply below_alloc | apply below_drew1 | apply pw_below_drewN))) (fun k hk => ⟨trivial, fun e => by rw [laws_FnFactor.own] at e; injection e with e; omega⟩) (fun _ _ => trivial) (by repeat (first | exact HBr.out | exact Below.refl _ _ | apply below_alloc | apply below_drew1 | apply pw_below_drewN)) (Below.size (by repeat (first | exact HBr.out | exact Below.refl _ _ | apply below_alloc | apply below_drew1 | apply pw_below_drewN))) (by have := HN.out; simp; omega) ?_; intro v58 w5 ho hb hg hat; have HNE := Aside0.mk (show ∀ k, k < wr.heap.size → True ∧ some k ≠ v58.ownBlock from fun k hk => ⟨trivial, fun e => by have h1 := Kd.N_base ho k e.symm; omega⟩); have H58 := Aside0.mk (show Kd.N (Kd.slice 3 (Kd.int .i64)) 27 w5 wr.heap.size (fun _ => True) v58 ty from ho); have HB5 := Aside0.mk hb; clear ho hb hg hat) | (refine Kd.N_append_rows_step (Kd.slice 3 (Kd.int .i64)) (w0 := wr) wr.heap.size (by rfl) (.tmp 84) (.tmp 89) 23 27 (.slice none 0 0) 24 (by rfl) Try.underlying23 info27 rfl (by decide) (by omega) v58 ty [row] (some ⟨wr.heap.size, 0, none⟩) 1 1 (fun _ => True) (fun k => k < wr.heap.size ∨ k = wr.heap.size) (by rfl) (by rfl) H58.out HF65.out HNE.out (fun _ _ => trivial) HB5.out HB5.out.size (by have := HN.out; omega) ?_; intro v66 w6 ho hb hg hat; rw [HLYE.out] at ho; obtain ⟨A66, c66, rfl, l66, g66⟩ := Kd.N_reads ho; have H66 := Aside0.mk (And.intro l66 g66); have HB6 := Aside0.mk hb; clear ho hb hg hat l66 g66) | (refine Kd.N_append_rows_step (Kd.slice 3 (Kd.int .i64)) (w0 := wr) wr.heap.size (by rfl) (.tmp 84) (.tmp 89) 23 27 (.slice none 0 0) 24 (by rfl) Try.underlying23 info27 rfl (by decide) (by omega) v58 ty [row] (some ⟨wr.heap.size + 1, 0, none⟩) 1 1 (fun _ => True) (fun k => k < wr.heap.size ∨ k = wr.heap.size + 1) (by rfl) (by rfl) H58.out HF65.out HNE.out (fun _ _ => trivial) HB5.out HB5.out.size (by have := HN.out; omega) ?_; intro v66 w6 ho hb hg hat; rw [HLYE.out] at ho; obtain ⟨A66, c66, rfl, l66, g66⟩ := Kd.N_reads ho; have H66 := Aside0.mk (And.intro l66 g66); have HB6 := Aside0.mk hb; clear ho hb hg hat l66 g66) | (refine Kd.N_append_step (Kd.slice 3 (Kd.int .i64)) (w0 := wr) wr.heap.size (by rfl) (.tmp 84) (.tmp 89) 23 27 (.slice none 0 0) 24 (by rfl) Try.underlying23 info27 rfl (by decide) (by omega) v58 ty row [.slice A3 row.length c3] (fun _ => True) (fun k => k < wr.heap.size) (by rfl) (by rfl) (Kd.FK_below HK3.out HB5.out) HNE.out (fun _ _ => trivial) H58.out HB5.out HB5.out.size (by have := HN.out; omega) ?_; intro v66 w6 ho hb hg hat; rw [HLYE.out] at ho; obtain ⟨A66, c66, rfl, l66, g66⟩ := Kd.N_reads ho; have H66 := Aside0.mk (And.intro l66 g66); have HB6 := Aside0.mk hb; clear ho hb hg hat l66 g66) | (go_at_call 12; refine (impl_FactorCount.calls k A66 c66 ly _ w6 H66.out.2 H66.out.1 HV.out).mono ?_; rintro e w7 ⟨rfl, hb⟩; have HB7 := Aside0.mk (below_step HB6.out hb); clear hb))
          all_goals go_wp2
          all_goals go_roundg d
          all_goals first
          | (case measure => omega)
          | skip
          all_goals (
            have HBy := Aside0.mk (below_step HBq.out HB7.out)
            have h1 := HJ.out
            refine ⟨j + 1, wrap64 (q + v), by first | rfl | (rw [i64_w]) | (simp [i64_w]; done), by rw [show wrap64 (j + 1) = j + 1 by unfold wrap64; have := HN.out; omega], ⟨by omega, by omega⟩, ⟨?_⟩, HBy⟩
            rw [show (j + 1).toNat = j.toNat + 1 by omega]
            exact HS.out)
    | succ d =>
      have hc : decide ((0 : Int) ≤ i) = true := decide_eq_true (by have := HI.out; omega)
      have hid : i = (d : Int) := by have := HI.out; omega
      have hdl : d < ty.length := by have := HI.out; omega
      obtain ⟨ad2, Ai, ci, he2, hce, hcl, hcr, hK⟩ := laws_FnFactor.elem HCT.out.2 HBd.out d hdl
      cases he2
      have hP := HP.out
      rw [show (ty.take (d + 1)).reverse = ty.getD d [] :: (ty.take d).reverse by
        rw [List.take_succ_eq_append_getElem hdl, List.reverse_append, List.getD_eq_getElem?_getD, List.getElem?_eq_getElem hdl]; rfl] at hP
      simp only [laws_FnFactor.prodR] at hP
      generalize hrow : ty.getD d [] = row at hce hcl hcr hK hP
      obtain ⟨cc, hcc, hP2⟩ := Option.bind_eq_some_iff.mp hP
      have HROW := Aside0.mk hrow
      have HCC := Aside0.mk hcc
      have HP2 := Aside0.mk hP2
      clear hrow hP hcc hP2 HP
      have HK := Aside0.mk hK
      have HKC := Aside0.mk (And.intro hcl hcr)
      have i1 : (0 : Int) ≤ i := by have := HI.out; omega
      have i2 : i < (ty.length : Int) := by omega
      have hce2 : wr.cell? (ad.add i.toNat) = some (.slice Ai row.length ci) := by rw [hid, Int.toNat_natCast]; exact hce
      have HD := Aside0.mk (And.intro hid hdl)
      have HIN := Aside0.mk (laws_FnFactor.inb (HD.out.1 ▸ hce2))
      have HLX := Aside0.mk (show xs.length ≤ 1000 by have h1 := congrArg List.length HX.out; simp at h1; have := HN.out; omega)
      have HAK := Aside0.mk (show ∀ k, k < w1.heap.size → True ∧ some k ≠ u7.ownBlock from fun k hk => ⟨trivial, fun e => by have := Kd.N_base HO7.out k e.symm; omega⟩)
      have HAL := Aside0.mk (show (xs.length + 1) * 24 ≤ 140737488355328 by have := HLX.out; omega)
      have HAD := Aside0.mk (show (ad.add i.toNat).block < w1.heap.size ∧ w1.cell? (ad.add i.toNat) = some (.slice Ai row.length ci) from laws_FnFactor.came HCT.out.2 d hdl hid HROW.out hce2 HBd.out)
      clear hce hcl hcr hK hid hdl
      go_upto_region 15 with (first | ((with_reducible refine gate_builtin (b := .append) (xs := #[.tmp 46, .tmp 51]) rfl ?_); at_builtin; refine Kd.N_append (Kd.slice 3 (Kd.int .i64)) (w0 := w1) w1.heap.size rfl (.tmp 46) (.tmp 51) 23 27 (.slice none 0 0) 24 rfl Try.underlying23 info27 rfl (by decide) (by omega) u7 xs row [.slice Ai row.length ci] (fun _ => True) (fun k_ => k_ < w1.heap.size) rfl rfl HK.out ?aK (fun _ _ => trivial) HO7.out HBd.out HBd.out.size ?aL ?_; (case aK => exact HAK.out); (case aL => exact HAL.out); intro v1 w2 ho hb hg hat; have HO8 := Aside0.mk ho; have HBe := Aside0.mk hb; clear ho hb hg hat))
      have hce3 : w2.cell? (ad.add i.toNat) = some (.slice Ai row.length ci) := (HBe.out.cell HAD.out.1).trans HAD.out.2
      have HKD := Aside0.mk (laws_FnFactor.again HCT.out.2 d HD.out.2 HD.out.1 HROW.out HBe.out hce3)
      clear hce2
      go_wp2_with (first | (go_at_call 14; refine (impl_ClassSize.calls k Ai ci row cc w2 HKD.out HKC.out.1 HCC.out).mono ?_; rintro e w3 ⟨rfl, hb⟩; have HO9 := Aside0.mk (Kd.N_below HO8.out hb); have HBf := Aside0.mk (below_step HBe.out hb); clear hb))
      go_roundg d
      case measure => omega
      case rel =>
        have h1 := HD.out
        refine ⟨i - 1, wrap64 (p * cc), xs ++ [row], rfl, by rw [show wrap64 (i - 1) = i - 1 by unfold wrap64; have := HN.out; omega], ⟨by omega, by omega⟩, ⟨?_⟩, HP2, HO9, HBf⟩
        have h2 := HX.out
        rw [List.take_succ_eq_append_getElem h1.2, List.reverse_append] at h2
        rw [List.append_assoc, ← h2]
        congr 2
        rw [← HROW.out, List.getD_eq_getElem?_getD, List.getElem?_eq_getElem h1.2]; rfl
def laws_FnFactor.Pure : Prop := ∀ (l0 : List Int), l0.length ≤ maxLen → l0.length * 1 ≤ 140737488351232 → (∀ x ∈ l0, (Lit.int .u8 x).wf = true) → ∃ k, laws_FnFactor.f k l0 = some true
theorem laws_FnFactor.walk (P : laws_FnFactor.Pure) (a0 : Option Addr) (len0 cap0 : Nat) (z0 : List Int) (w : World) (w0 : (a0 = none ∧ len0 = 0 ∧ cap0 = 0 ∧ z0 = []) ∨ ∃ x, a0 = some x ∧ len0 ≤ cap0 ∧ cap0 ≤ maxLen ∧ z0.length = cap0 ∧ (∀ i, i < z0.length → w.cell? (x.add i) = some (.int .u8 (z0.getD i 0))) ∧ ∀ n ∈ z0, (Lit.int .u8 n).wf = true) (y0 : len0 * 1 ≤ 140737488351232) :
    Calls Try.prog 4 #[.slice a0 len0 cap0] w fun e w' => e = .returned (.bool true) ∧ Below w.heap.size w w' := by
  obtain ⟨l0, rfl, hr0, hm0, hw0, hc0⟩ := ReadsInt.ofRowC w0
  obtain ⟨k, h⟩ := P l0 hm0 y0 hw0
  exact laws_FnFactor.calls k _ _ l0 true w (Kd.C_of_reads (d := (0 : Int)) (h1 := fun _ => rfl) hr0) hc0 h

end Go.Proofs.Ytehlokjlcbegoaa.Q
