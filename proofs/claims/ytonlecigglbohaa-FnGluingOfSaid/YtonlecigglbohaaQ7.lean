import Derived.Test.YtonlecigglbohaaQ0
import Derived.Test.YtonlecigglbohaaQ2
import Derived.Test.YtonlecigglbohaaQ4
import Derived.Test.YtonlecigglbohaaQ6
import Derived.Test.YtonlecigglbohaaZ
namespace Go.Proofs.Ytonlecigglbohaa.Q
open Go.RowKit Go.Proofs.YtonlecigglbohaaW.PrintWords Go.Proofs.YtonlecigglbohaaW.PrintLast Go.Proofs.YtonlecigglbohaaW.PrintMore
attribute [local go_sem] max2_int min2_int max_two min_two max_three min_three max_four min_four   -- for this text's walks alone
set_option linter.unusedVariables false
set_option linter.unusedSimpArgs false

/-! ### impl_MapSame: function 58 -/
def impl_MapSame.j0:Nat→Bool→List Int→List Int→List Int→List Int→Option (Bool)
 | 0,_,_,_,_,_=>none
 | k+1,x21,x416000,x416001,x417000,x417001=>if x21 = true then (some false) else ((impl_leastForm.f k x416000 x416001).bind fun bt419=>((impl_leastForm.f k x417000 x417001).bind fun bt425=>((impl_compareMaps.f k bt419.1 bt419.2 bt425.1 bt425.2).bind fun t431=>(some (t431 == 0)))))
def impl_MapSame.f (k:Nat) (l0_0:List Int) (l0_1:List Int) (l1_0:List Int) (l1_1:List Int):Option (Bool):=(impl_MapValid.f k l0_0 l0_1).bind fun t417=>(if t417 = true then ((impl_MapValid.f k l1_0 l1_1).bind fun t418=>(if t418 = true then (impl_MapSame.j0 k ((l0_0.length:Int) != (l1_0.length:Int)) l0_0 l0_1 l1_0 l1_1) else (impl_MapSame.j0 k true l0_0 l0_1 l1_0 l1_1))) else (impl_MapSame.j0 k true l0_0 l0_1 l1_0 l1_1))
theorem impl_MapSame.mono_l:∀ k,(∀ y0 y1 y2 y3 y4,LeO (impl_MapSame.j0 k y0 y1 y2 y3 y4) (impl_MapSame.j0 (k+1) y0 y1 y2 y3 y4))
 | 0=>fun _ _ _ _ _ r h=>by simp [impl_MapSame.j0] at h
 | k+1=>by
  have ih0:=impl_MapSame.mono_l k
  ·intro y0 y1 y2 y3 y4
   unfold impl_MapSame.j0
   repeat' first
   | (with_reducible exact ih0 _ _ _ _ _)
   | (with_reducible exact impl_MapValid.mono _ _ _)
   | (with_reducible exact impl_compareMaps.mono _ _ _ _ _)
   | (with_reducible exact impl_leastForm.mono _ _ _)
   | (with_reducible exact LeO.refl _)
   | (with_reducible exact za _)
   | (with_reducible refine zc ?_ ?_)
   | (with_reducible refine zb ?_ (fun _=>?_))
theorem impl_MapSame.mono:∀ a0 a1 a2 a3 k,LeO (impl_MapSame.f k a0 a1 a2 a3) (impl_MapSame.f (k+1) a0 a1 a2 a3):=by
 intro a0 a1 a2 a3 k
 have ih0:=impl_MapSame.mono_l k
 unfold impl_MapSame.f
 repeat' first
   | (with_reducible exact ih0 _ _ _ _ _)
   | (with_reducible exact impl_MapValid.mono _ _ _)
   | (with_reducible exact impl_compareMaps.mono _ _ _ _ _)
   | (with_reducible exact impl_leastForm.mono _ _ _)
   | (with_reducible exact LeO.refl _)
   | (with_reducible exact za _)
   | (with_reducible refine zc ?_ ?_)
   | (with_reducible refine zb ?_ (fun _=>?_))
set_option maxHeartbeats 8000000 in
set_option maxRecDepth 100000 in
theorem impl_MapSame.calls (k:Nat) (A0_0:Option Addr) (c0_0:Nat) (l0_0:List Int) (A0_1:Option Addr) (c0_1:Nat) (l0_1:List Int) (A1_0:Option Addr) (c1_0:Nat) (l1_0:List Int) (A1_1:Option Addr) (c1_1:Nat) (l1_1:List Int) (r:Bool) (w:World) (hr0_0:Kd.C (Kd.int .i64) w A0_0 l0_0.length l0_0) (hc0_0:l0_0.length≤c0_0) (hr0_1:Kd.C (Kd.int .i64) w A0_1 l0_1.length l0_1) (hc0_1:l0_1.length≤c0_1) (hr1_0:Kd.C (Kd.int .i64) w A1_0 l1_0.length l1_0) (hc1_0:l1_0.length≤c1_0) (hr1_1:Kd.C (Kd.int .i64) w A1_1 l1_1.length l1_1) (hc1_1:l1_1.length≤c1_1) (h:impl_MapSame.f k l0_0 l0_1 l1_0 l1_1 = some r) :
  Calls Try.prog 58 #[.agg #[.slice A0_0 l0_0.length c0_0,.slice A0_1 l0_1.length c0_1],.agg #[.slice A1_0 l1_0.length c1_0,.slice A1_1 l1_1.length c1_1]] w fun e w'=>e = .returned (.bool r)∧Below w.heap.size w w':=by
 have hu27:=Try.underlying27
 have HR0_0:=zA hr0_0
 have HC0_0:=zA hc0_0
 clear hr0_0 hc0_0
 have HR0_1:=zA hr0_1
 have HC0_1:=zA hc0_1
 clear hr0_1 hc0_1
 have HR1_0:=zA hr1_0
 have HC1_0:=zA hc1_0
 clear hr1_0 hc1_0
 have HR1_1:=zA hr1_1
 have HC1_1:=zA hc1_1
 clear hr1_1 hc1_1
 have HB:=zA (Below.refl w.heap.size w)
 have H:((impl_MapValid.f k l0_0 l0_1).bind fun t417=>(if t417 = true then ((impl_MapValid.f k l1_0 l1_1).bind fun t418=>(if t418 = true then (impl_MapSame.j0 k ((l0_0.length:Int) != (l1_0.length:Int)) l0_0 l0_1 l1_0 l1_1) else (impl_MapSame.j0 k true l0_0 l0_1 l1_0 l1_1))) else (impl_MapSame.j0 k true l0_0 l0_1 l1_0 l1_1))) = some r:=h
 clear h
 have HC3:=zA H
 clear H
 go_enter Try.func58,Try.ntmps58
 go_upto_region 1 with (first|((with_reducible refine gate_dst (N:=2) rfl ?_);(try (refine gate_guard (by rfl) ?_;dsimp only));refine box_event ?hg (N:=2) ?hd (cs:=#[.slice A0_0 l0_0.length c0_0,.slice A0_1 l0_1.length c0_1]) (t:=27) ?hr ?_;(case hd=>rfl);(case hg=>rfl);(case hr=>first|(go_simp;done)|(go_simp;rfl));intro gb415 hg w4 hbox hb;have n0_:=zA (zR (by exact zB_ HB.out) hb);have n1_:=zA (hbox);have n2_:=zA ((by rw [hg];exact (zQ (by exact zB_ HB.out)):w.heap.size≤gb415));have n3_:=zA ((by rw [hg];exact (zQ (by exact zB_ HB.out)):w.heap.size≤gb415));clear HB;have HB:=n0_;have BK415:=n1_;have GW415:=n2_;have GE415:=n3_;clear n0_ n1_ n2_ n3_;clear hb hbox hg)|((with_reducible refine gate_dst (N:=3) rfl ?_);(try (refine gate_guard (by rfl) ?_;dsimp only));refine box_event ?hg (N:=3) ?hd (cs:=#[.slice A1_0 l1_0.length c1_0,.slice A1_1 l1_1.length c1_1]) (t:=27) ?hr ?_;(case hd=>rfl);(case hg=>rfl);(case hr=>first|(go_simp;done)|(go_simp;rfl));intro gb416 hg w5 hbox hb;have n0_:=zA (zX (g:=gb415) (o:=.cells #[.slice A0_0 l0_0.length c0_0,.slice A0_1 l0_1.length c0_1] 27 (0,0)) (by (with_reducible repeat (first|refine zG ?_ _|refine zI ?_|refine zH ?_ _));exact BK415.out) hb);have n1_:=zA (zR (by repeat (first|(with_reducible first|exact HB.out|apply zD|apply zB|apply zC|refine zF ?_ GE415.out)|exact HB.out)) hb);have n2_:=zA (hbox);have n3_:=zA ((by rw [hg];exact (zQ (by repeat (first|(with_reducible first|exact HB.out|apply zD|apply zB|apply zC|refine zF ?_ GE415.out)|exact HB.out))):w.heap.size≤gb416));have n4_:=zA ((by rw [hg];exact (zQ (by repeat (first|(with_reducible first|exact HB.out|apply zD|apply zB|apply zC|refine zF ?_ GE415.out)|exact HB.out))):w.heap.size≤gb416));have n5_:=zA ((by rw [hg];exact Nat.ne_of_lt (blk_lt (g:=gb415) (o:=.cells #[.slice A0_0 l0_0.length c0_0,.slice A0_1 l0_1.length c0_1] 27 (0,0)) (by (with_reducible repeat (first|refine zG ?_ _|refine zI ?_|refine zH ?_ _));exact BK415.out)):gb415≠gb416));have n6_:=zA ((by rw [hg];exact Nat.ne_of_gt (blk_lt (g:=gb415) (o:=.cells #[.slice A0_0 l0_0.length c0_0,.slice A0_1 l0_1.length c0_1] 27 (0,0)) (by (with_reducible repeat (first|refine zG ?_ _|refine zI ?_|refine zH ?_ _));exact BK415.out)):gb416≠gb415));clear BK415;clear HB;have BK415:=n0_;have HB:=n1_;have BK416:=n2_;have GW416:=n3_;have GE416:=n4_;have NB415_416:=n5_;have NB416_415:=n6_;clear n0_ n1_ n2_ n3_ n4_ n5_ n6_;clear hb hbox hg))
 (try simp only [Act.put,zP_])
 go_cut [21] (fun v21 wc => ∃ (kq:Nat) (x21_2:Bool),v21 = .bool x21_2∧Aside0 (impl_MapSame.j0 kq x21_2 l0_0 l0_1 l1_0 l1_1 = some r)∧Aside0 (kq≤k)∧Aside0 (wc.heap[gb415]? = some (.cells #[(.slice A0_0 l0_0.length c0_0),(.slice A0_1 l0_1.length c0_1)] 27 (0,0)))∧Aside0 (wc.heap[gb416]? = some (.cells #[(.slice A1_0 l1_0.length c1_0),(.slice A1_1 l1_1.length c1_1)] 27 (0,0)))∧Aside0 (Below w.heap.size w wc))
 case first =>
  have H:=HC3.out
  clear HC3
  replace H:=zz0 H
  obtain ⟨t417,A60,H⟩:=H
  try dsimp only at H
  have A6:=zA A60
  clear A60
  by_cases c7:t417 = true
  ·subst c7
   rw [if_pos rfl] at H;try dsimp only at H
   replace H:=zz0 H
   obtain ⟨t418,A80,H⟩:=H
   try dsimp only at H
   have A8:=zA A80
   clear A80
   by_cases c9:t418 = true
   ·subst c9
    rw [if_pos rfl] at H;try dsimp only at H
    have H':=zA H
    clear H
    have hnb10:=NB415_416.out
    have hnc10:=NB416_415.out
    have hcz11_0:w5.cell? ⟨gb415,0,none⟩ = some (.slice A0_0 l0_0.length c0_0):=(zT BK415.out 0).trans rfl
    have hcz11_1:w5.cell? ⟨gb415,1,none⟩ = some (.slice A0_1 l0_1.length c0_1):=(zT BK415.out 1).trans rfl
    have hfz11_0:=zZ BK415.out 0
    have hfz11_1:=zZ BK415.out 1
    go_wp2_with (first|((with_reducible refine gate_callee (f:=33) rfl ?_);refine goesL_ (some 6) rfl rfl Try.func33 (by kernel_rfl) rfl #[.agg #[.slice A0_0 l0_0.length c0_0,.slice A0_1 l0_1.length c0_1]] rfl (by (try simp only [zJ,zM,zN]);first|done|rfl|(simp only [zL,zK];rfl)) ?_;(with_reducible refine (impl_MapValid.calls k (fun k_=>k_ < w.heap.size) _ _ l0_0 (fun k_=>k_ < w.heap.size) _ _ l0_1 true _ ?side1 ?side2 A6.out).mono ?_);(case side1=>exact Kd.V_mk HC0_0.out (Kd.F_below (Kd.C_F (Kd.heap_int .i64) HR0_0.out) (by repeat (first|(with_reducible first|exact HB.out|apply zD|apply zB|apply zC|refine zF ?_ GE415.out|refine zF ?_ GE416.out)|exact HB.out))));(case side2=>exact Kd.V_mk HC0_1.out (Kd.F_below (Kd.C_F (Kd.heap_int .i64) HR0_1.out) (by repeat (first|(with_reducible first|exact HB.out|apply zD|apply zB|apply zC|refine zF ?_ GE415.out|refine zF ?_ GE416.out)|exact HB.out))));rintro e w12 ⟨rfl,hb⟩;refine ⟨_,rfl,?_⟩;have n0_:=zA (zX (g:=gb415) (o:=.cells #[.slice A0_0 l0_0.length c0_0,.slice A0_1 l0_1.length c0_1] 27 (0,0)) (by (with_reducible repeat (first|refine zG ?_ _|refine zI ?_|refine zH ?_ _));exact BK415.out) hb);have n1_:=zA (zX (g:=gb416) (o:=.cells #[.slice A1_0 l1_0.length c1_0,.slice A1_1 l1_1.length c1_1] 27 (0,0)) (by (with_reducible repeat (first|refine zG ?_ _|refine zI ?_|refine zH ?_ _));exact BK416.out) hb);have n2_:=zA (zR (by repeat (first|(with_reducible first|exact HB.out|apply zD|apply zB|apply zC|refine zF ?_ GE415.out|refine zF ?_ GE416.out)|exact HB.out)) hb);clear BK415;clear BK416;clear HB;have BK415:=n0_;have BK416:=n1_;have HB:=n2_;clear n0_ n1_ n2_;(try clear hb);(try clear hb2);(try clear hk);(try clear hi);have hcz13_0:w12.cell? ⟨gb416,0,none⟩ = some (.slice A1_0 l1_0.length c1_0):=(zT BK416.out 0).trans rfl;have hcz13_1:w12.cell? ⟨gb416,1,none⟩ = some (.slice A1_1 l1_1.length c1_1):=(zT BK416.out 1).trans rfl;have hfz13_0:=zZ BK416.out 0;have hfz13_1:=zZ BK416.out 1)|(go_at_call 33;(with_reducible refine (impl_MapValid.calls k (fun k_=>k_ < w.heap.size) _ _ l1_0 (fun k_=>k_ < w.heap.size) _ _ l1_1 true _ ?side1 ?side2 A8.out).mono ?_);(case side1=>exact Kd.V_mk HC1_0.out (Kd.F_below (Kd.C_F (Kd.heap_int .i64) HR1_0.out) (by repeat (first|(with_reducible first|exact HB.out|apply zD|apply zB|apply zC|refine zF ?_ GE415.out|refine zF ?_ GE416.out)|exact HB.out))));(case side2=>exact Kd.V_mk HC1_1.out (Kd.F_below (Kd.C_F (Kd.heap_int .i64) HR1_1.out) (by repeat (first|(with_reducible first|exact HB.out|apply zD|apply zB|apply zC|refine zF ?_ GE415.out|refine zF ?_ GE416.out)|exact HB.out))));rintro e w14 ⟨rfl,hb⟩;have n0_:=zA (zX (g:=gb415) (o:=.cells #[.slice A0_0 l0_0.length c0_0,.slice A0_1 l0_1.length c0_1] 27 (0,0)) (by (with_reducible repeat (first|refine zG ?_ _|refine zI ?_|refine zH ?_ _));exact BK415.out) hb);have n1_:=zA (zX (g:=gb416) (o:=.cells #[.slice A1_0 l1_0.length c1_0,.slice A1_1 l1_1.length c1_1] 27 (0,0)) (by (with_reducible repeat (first|refine zG ?_ _|refine zI ?_|refine zH ?_ _));exact BK416.out) hb);have n2_:=zA (zR (by repeat (first|(with_reducible first|exact HB.out|apply zD|apply zB|apply zC|refine zF ?_ GE415.out|refine zF ?_ GE416.out)|exact HB.out)) hb);clear BK415;clear BK416;clear HB;have BK415:=n0_;have BK416:=n1_;have HB:=n2_;clear n0_ n1_ n2_;(try clear hb);(try clear hb2);(try clear hk);(try clear hi);have hcz15_0:w14.cell? ⟨gb415,0,none⟩ = some (.slice A0_0 l0_0.length c0_0):=(zT BK415.out 0).trans rfl;have hcz15_1:w14.cell? ⟨gb415,1,none⟩ = some (.slice A0_1 l0_1.length c0_1):=(zT BK415.out 1).trans rfl;have hfz15_0:=zZ BK415.out 0;have hfz15_1:=zZ BK415.out 1;have hcz16_0:w14.cell? ⟨gb416,0,none⟩ = some (.slice A1_0 l1_0.length c1_0):=(zT BK416.out 0).trans rfl;have hcz16_1:w14.cell? ⟨gb416,1,none⟩ = some (.slice A1_1 l1_1.length c1_1):=(zT BK416.out 1).trans rfl;have hfz16_0:=zZ BK416.out 0;have hfz16_1:=zZ BK416.out 1))
    go_meet
    case rel=>exact ⟨_,(((l0_0.length:Int) != (l1_0.length:Int))),(by first|rfl|(simp;done)|(simp [*];done)),H',⟨by first|omega|exact Nat.le_refl _⟩,⟨by (with_reducible repeat (first|refine zG ?_ _|refine zI ?_|refine zH ?_ _));exact BK415.out⟩,⟨by (with_reducible repeat (first|refine zG ?_ _|refine zI ?_|refine zH ?_ _));exact BK416.out⟩,⟨by repeat (first|(with_reducible first|exact HB.out|apply zD|apply zB|apply zC|refine zF ?_ GE415.out|refine zF ?_ GE416.out)|exact HB.out)⟩⟩
   ·replace c9:=Bool.eq_false_iff.mpr c9
    subst c9
    have H1:(impl_MapSame.j0 k true l0_0 l0_1 l1_0 l1_1) = some r:=by rw [if_neg (show ¬ (false = true) by decide)] at H;exact H
    clear H
    have H:=H1
    clear H1
    have H':=zA H
    clear H
    have hnb17:=NB415_416.out
    have hnc17:=NB416_415.out
    have hcz18_0:w5.cell? ⟨gb415,0,none⟩ = some (.slice A0_0 l0_0.length c0_0):=(zT BK415.out 0).trans rfl
    have hcz18_1:w5.cell? ⟨gb415,1,none⟩ = some (.slice A0_1 l0_1.length c0_1):=(zT BK415.out 1).trans rfl
    have hfz18_0:=zZ BK415.out 0
    have hfz18_1:=zZ BK415.out 1
    go_wp2_with (first|((with_reducible refine gate_callee (f:=33) rfl ?_);refine goesL_ (some 6) rfl rfl Try.func33 (by kernel_rfl) rfl #[.agg #[.slice A0_0 l0_0.length c0_0,.slice A0_1 l0_1.length c0_1]] rfl (by (try simp only [zJ,zM,zN]);first|done|rfl|(simp only [zL,zK];rfl)) ?_;(with_reducible refine (impl_MapValid.calls k (fun k_=>k_ < w.heap.size) _ _ l0_0 (fun k_=>k_ < w.heap.size) _ _ l0_1 true _ ?side1 ?side2 A6.out).mono ?_);(case side1=>exact Kd.V_mk HC0_0.out (Kd.F_below (Kd.C_F (Kd.heap_int .i64) HR0_0.out) (by repeat (first|(with_reducible first|exact HB.out|apply zD|apply zB|apply zC|refine zF ?_ GE415.out|refine zF ?_ GE416.out)|exact HB.out))));(case side2=>exact Kd.V_mk HC0_1.out (Kd.F_below (Kd.C_F (Kd.heap_int .i64) HR0_1.out) (by repeat (first|(with_reducible first|exact HB.out|apply zD|apply zB|apply zC|refine zF ?_ GE415.out|refine zF ?_ GE416.out)|exact HB.out))));rintro e w19 ⟨rfl,hb⟩;refine ⟨_,rfl,?_⟩;have n0_:=zA (zX (g:=gb415) (o:=.cells #[.slice A0_0 l0_0.length c0_0,.slice A0_1 l0_1.length c0_1] 27 (0,0)) (by (with_reducible repeat (first|refine zG ?_ _|refine zI ?_|refine zH ?_ _));exact BK415.out) hb);have n1_:=zA (zX (g:=gb416) (o:=.cells #[.slice A1_0 l1_0.length c1_0,.slice A1_1 l1_1.length c1_1] 27 (0,0)) (by (with_reducible repeat (first|refine zG ?_ _|refine zI ?_|refine zH ?_ _));exact BK416.out) hb);have n2_:=zA (zR (by repeat (first|(with_reducible first|exact HB.out|apply zD|apply zB|apply zC|refine zF ?_ GE415.out|refine zF ?_ GE416.out)|exact HB.out)) hb);clear BK415;clear BK416;clear HB;have BK415:=n0_;have BK416:=n1_;have HB:=n2_;clear n0_ n1_ n2_;(try clear hb);(try clear hb2);(try clear hk);(try clear hi);have hcz20_0:w19.cell? ⟨gb416,0,none⟩ = some (.slice A1_0 l1_0.length c1_0):=(zT BK416.out 0).trans rfl;have hcz20_1:w19.cell? ⟨gb416,1,none⟩ = some (.slice A1_1 l1_1.length c1_1):=(zT BK416.out 1).trans rfl;have hfz20_0:=zZ BK416.out 0;have hfz20_1:=zZ BK416.out 1)|(go_at_call 33;(with_reducible refine (impl_MapValid.calls k (fun k_=>k_ < w.heap.size) _ _ l1_0 (fun k_=>k_ < w.heap.size) _ _ l1_1 false _ ?side1 ?side2 A8.out).mono ?_);(case side1=>exact Kd.V_mk HC1_0.out (Kd.F_below (Kd.C_F (Kd.heap_int .i64) HR1_0.out) (by repeat (first|(with_reducible first|exact HB.out|apply zD|apply zB|apply zC|refine zF ?_ GE415.out|refine zF ?_ GE416.out)|exact HB.out))));(case side2=>exact Kd.V_mk HC1_1.out (Kd.F_below (Kd.C_F (Kd.heap_int .i64) HR1_1.out) (by repeat (first|(with_reducible first|exact HB.out|apply zD|apply zB|apply zC|refine zF ?_ GE415.out|refine zF ?_ GE416.out)|exact HB.out))));rintro e w21 ⟨rfl,hb⟩;have n0_:=zA (zX (g:=gb415) (o:=.cells #[.slice A0_0 l0_0.length c0_0,.slice A0_1 l0_1.length c0_1] 27 (0,0)) (by (with_reducible repeat (first|refine zG ?_ _|refine zI ?_|refine zH ?_ _));exact BK415.out) hb);have n1_:=zA (zX (g:=gb416) (o:=.cells #[.slice A1_0 l1_0.length c1_0,.slice A1_1 l1_1.length c1_1] 27 (0,0)) (by (with_reducible repeat (first|refine zG ?_ _|refine zI ?_|refine zH ?_ _));exact BK416.out) hb);have n2_:=zA (zR (by repeat (first|(with_reducible first|exact HB.out|apply zD|apply zB|apply zC|refine zF ?_ GE415.out|refine zF ?_ GE416.out)|exact HB.out)) hb);clear BK415;clear BK416;clear HB;have BK415:=n0_;have BK416:=n1_;have HB:=n2_;clear n0_ n1_ n2_;(try clear hb);(try clear hb2);(try clear hk);(try clear hi)))
    go_meet
    case rel=>exact ⟨_,(true),(by first|rfl|(simp;done)|(simp [*];done)),H',⟨by first|omega|exact Nat.le_refl _⟩,⟨by (with_reducible repeat (first|refine zG ?_ _|refine zI ?_|refine zH ?_ _));exact BK415.out⟩,⟨by (with_reducible repeat (first|refine zG ?_ _|refine zI ?_|refine zH ?_ _));exact BK416.out⟩,⟨by repeat (first|(with_reducible first|exact HB.out|apply zD|apply zB|apply zC|refine zF ?_ GE415.out|refine zF ?_ GE416.out)|exact HB.out)⟩⟩
  ·replace c7:=Bool.eq_false_iff.mpr c7
   subst c7
   have H1:(impl_MapSame.j0 k true l0_0 l0_1 l1_0 l1_1) = some r:=by rw [if_neg (show ¬ (false = true) by decide)] at H;exact H
   clear H
   have H:=H1
   clear H1
   have H':=zA H
   clear H
   have hnb22:=NB415_416.out
   have hnc22:=NB416_415.out
   have hcz23_0:w5.cell? ⟨gb415,0,none⟩ = some (.slice A0_0 l0_0.length c0_0):=(zT BK415.out 0).trans rfl
   have hcz23_1:w5.cell? ⟨gb415,1,none⟩ = some (.slice A0_1 l0_1.length c0_1):=(zT BK415.out 1).trans rfl
   have hfz23_0:=zZ BK415.out 0
   have hfz23_1:=zZ BK415.out 1
   go_wp2_with (first|((with_reducible refine gate_callee (f:=33) rfl ?_);refine goesL_ (some 6) rfl rfl Try.func33 (by kernel_rfl) rfl #[.agg #[.slice A0_0 l0_0.length c0_0,.slice A0_1 l0_1.length c0_1]] rfl (by (try simp only [zJ,zM,zN]);first|done|rfl|(simp only [zL,zK];rfl)) ?_;(with_reducible refine (impl_MapValid.calls k (fun k_=>k_ < w.heap.size) _ _ l0_0 (fun k_=>k_ < w.heap.size) _ _ l0_1 false _ ?side1 ?side2 A6.out).mono ?_);(case side1=>exact Kd.V_mk HC0_0.out (Kd.F_below (Kd.C_F (Kd.heap_int .i64) HR0_0.out) (by repeat (first|(with_reducible first|exact HB.out|apply zD|apply zB|apply zC|refine zF ?_ GE415.out|refine zF ?_ GE416.out)|exact HB.out))));(case side2=>exact Kd.V_mk HC0_1.out (Kd.F_below (Kd.C_F (Kd.heap_int .i64) HR0_1.out) (by repeat (first|(with_reducible first|exact HB.out|apply zD|apply zB|apply zC|refine zF ?_ GE415.out|refine zF ?_ GE416.out)|exact HB.out))));rintro e w24 ⟨rfl,hb⟩;refine ⟨_,rfl,?_⟩;have n0_:=zA (zX (g:=gb415) (o:=.cells #[.slice A0_0 l0_0.length c0_0,.slice A0_1 l0_1.length c0_1] 27 (0,0)) (by (with_reducible repeat (first|refine zG ?_ _|refine zI ?_|refine zH ?_ _));exact BK415.out) hb);have n1_:=zA (zX (g:=gb416) (o:=.cells #[.slice A1_0 l1_0.length c1_0,.slice A1_1 l1_1.length c1_1] 27 (0,0)) (by (with_reducible repeat (first|refine zG ?_ _|refine zI ?_|refine zH ?_ _));exact BK416.out) hb);have n2_:=zA (zR (by repeat (first|(with_reducible first|exact HB.out|apply zD|apply zB|apply zC|refine zF ?_ GE415.out|refine zF ?_ GE416.out)|exact HB.out)) hb);clear BK415;clear BK416;clear HB;have BK415:=n0_;have BK416:=n1_;have HB:=n2_;clear n0_ n1_ n2_;(try clear hb);(try clear hb2);(try clear hk);(try clear hi)))
   go_meet
   case rel=>exact ⟨_,(true),(by first|rfl|(simp;done)|(simp [*];done)),H',⟨by first|omega|exact Nat.le_refl _⟩,⟨by (with_reducible repeat (first|refine zG ?_ _|refine zI ?_|refine zH ?_ _));exact BK415.out⟩,⟨by (with_reducible repeat (first|refine zG ?_ _|refine zI ?_|refine zH ?_ _));exact BK416.out⟩,⟨by repeat (first|(with_reducible first|exact HB.out|apply zD|apply zB|apply zC|refine zF ?_ GE415.out|refine zF ?_ GE416.out)|exact HB.out)⟩⟩
 case rest =>
  clear HC3
  (try clear c1);(try clear c2);(try clear p2);(try clear c3);(try clear c5);(try clear c7);(try clear c9);(try clear c10);(try clear c17);(try clear c22);(try clear hcz11_0);(try clear hcz11_1);(try clear hcz13_0);(try clear hcz13_1);(try clear hcz15_0);(try clear hcz15_1);(try clear hcz16_0);(try clear hcz16_1);(try clear hcz18_0);(try clear hcz18_1);(try clear hcz20_0);(try clear hcz20_1);(try clear hcz23_0);(try clear hcz23_1);(try clear hfz11_0);(try clear hfz11_1);(try clear hfz13_0);(try clear hfz13_1);(try clear hfz15_0);(try clear hfz15_1);(try clear hfz16_0);(try clear hfz16_1);(try clear hfz18_0);(try clear hfz18_1);(try clear hfz20_0);(try clear hfz20_1);(try clear hfz23_0);(try clear hfz23_1)
  obtain ⟨kq,x21_2,rfl,HA,HJ2,BK415,BK416,HB⟩:=hcut
  cases kq with
  | zero=>exact absurd HA.out (by simp [impl_MapSame.j0])
  | succ kj2 =>
   have H:=HA.out
   clear HA
   simp only [impl_MapSame.j0] at H
   by_cases c25:x21_2 = true
   ·subst c25
    rw [if_pos rfl] at H;try dsimp only at H
    obtain rfl:=zS H
    go_wp2
    go_ret
    exact ⟨by first|rfl|(simp [errW_none,errW_some] <;> rfl)|(simp [*,errW_none,errW_some] <;> rfl),by repeat (first|(with_reducible first|exact HB.out|apply zD|apply zB|apply zC|refine zF ?_ GE415.out|refine zF ?_ GE416.out)|exact HB.out)⟩
   ·replace c25:=Bool.eq_false_iff.mpr c25
    subst c25
    have H1:((impl_leastForm.f kj2 l0_0 l0_1).bind fun bt419=>((impl_leastForm.f kj2 l1_0 l1_1).bind fun bt425=>((impl_compareMaps.f kj2 bt419.1 bt419.2 bt425.1 bt425.2).bind fun t431=>(some (t431 == 0))))) = some r:=by rw [if_neg (show ¬ (false = true) by decide)] at H;exact H
    clear H
    have H:=H1
    clear H1
    replace H:=zz0 H
    obtain ⟨⟨t419,t422⟩,A260,H⟩:=H
    try dsimp only at H
    have A26:=zA A260
    clear A260
    replace H:=zz0 H
    obtain ⟨⟨t425,t428⟩,A270,H⟩:=H
    try dsimp only at H
    have A27:=zA A270
    clear A270
    replace H:=zz0 H
    obtain ⟨t431,A280,H⟩:=H
    try dsimp only at H
    have A28:=zA A280
    clear A280
    obtain rfl:=zS H
    try go_wp2
    have n0_:=zA (zI BK415.out)
    have n1_:=zA (zI BK416.out)
    have n2_:=zA (zC HB.out)
    clear BK415 BK416 HB
    have BK415:=n0_
    have BK416:=n1_
    have HB:=n2_
    clear n0_ n1_ n2_
    refine start_ (n:=7) (S:=fun w'=>w'.cell? ⟨gb415,0,none⟩ = some (.slice A0_0 l0_0.length c0_0)∧w'.cell? ⟨gb415,1,none⟩ = some (.slice A0_1 l0_1.length c0_1)∧w'.cell? ⟨gb416,0,none⟩ = some (.slice A1_0 l1_0.length c1_0)∧w'.cell? ⟨gb416,1,none⟩ = some (.slice A1_1 l1_1.length c1_1)) (ds:=[]) #[zf,zf,zf,zf,zf,zf,zf] (by kernel_rfl) rfl rfl ⟨(zT BK415.out 0).trans rfl,(zT BK415.out 1).trans rfl,(zT BK416.out 0).trans rfl,(zT BK416.out 1).trans rfl⟩ (fun hHeld=>?_)
    generalize wc.drew = w29 at BK415 BK416 HB hHeld ⊢
    refine take_ (i:=0) (N:=some 22) (v:=?_) (a':=?_) #[zt,zf,zf,zf,zf,zf,zf] rfl rfl (by kernel_rfl) (fun _ _ _ h=>h) (Or.inl ⟨by rfl,?_⟩) hHeld ?_ ?_
    rotate_left
    ·rintro w' ⟨s0,s1,s2,s3⟩
     go_simp
     with_reducible rfl
    rotate_left
    ·simp only [Act.put,zP_,i64_w]
     rfl
    refine take_ (i:=2) (N:=some 24) (v:=?_) (a':=?_) #[zt,zf,zt,zf,zf,zf,zf] rfl rfl (by kernel_rfl) (fun _ _ _ h=>h) (Or.inl ⟨by rfl,?_⟩) hHeld ?_ ?_
    rotate_left
    ·rintro w' ⟨s0,s1,s2,s3⟩
     go_simp
     with_reducible rfl
    rotate_left
    ·simp only [Act.put,zP_,i64_w]
     rfl
    refine one_ (i:=1) (N:=some 23) #[zt,zt,zt,zf,zf,zf,zf] rfl rfl (by kernel_rfl) (by decide) (fun K hK=>?_)
    refine goes_ Try.func114 (by kernel_rfl) rfl #[.agg #[.slice A0_0 l0_0.length c0_0,.slice A0_1 l0_1.length c0_1]] (by rfl) rfl rfl (by (try simp only [zJ,zM,zN]);first|done|rfl|(simp only [zL,zK];rfl)) ?_
    with_reducible refine (impl_leastForm.calls kj2 _ _ l0_0 _ _ l0_1 t419 t422 _ ?side1 ?side2 ?side3 ?side4 A26.out).mono ?_
    (case side1=>repeat (first|exact (zW HR0_0.out HB.out)|(with_reducible exact HR0_0.out)|apply zC_))
    (case side2=>exact HC0_0.out)
    (case side3=>repeat (first|exact (zW HR0_1.out HB.out)|(with_reducible exact HR0_1.out)|apply zC_))
    (case side4=>exact HC0_1.out)
    rintro e w30 ⟨v420,v423,rfl,ho0,ho1,hb⟩
    refine ⟨_,rfl,?_⟩
    have n0_:=zA (ze ho0 (zQ (by repeat (first|(with_reducible first|exact HB.out|apply zD|apply zB|apply zC|refine zF ?_ GE415.out|refine zF ?_ GE416.out)|exact HB.out))))
    have n1_:=zA (ze ho1 (zQ (by repeat (first|(with_reducible first|exact HB.out|apply zD|apply zB|apply zC|refine zF ?_ GE415.out|refine zF ?_ GE416.out)|exact HB.out))))
    have n2_:=zA (zX (g:=gb415) (o:=.cells #[.slice A0_0 l0_0.length c0_0,.slice A0_1 l0_1.length c0_1] 27 (0,0)) (by (with_reducible repeat (first|refine zG ?_ _|refine zI ?_|refine zH ?_ _));exact BK415.out) hb)
    have n3_:=zA (zX (g:=gb416) (o:=.cells #[.slice A1_0 l1_0.length c1_0,.slice A1_1 l1_1.length c1_1] 27 (0,0)) (by (with_reducible repeat (first|refine zG ?_ _|refine zI ?_|refine zH ?_ _));exact BK416.out) hb)
    have n4_:=zA (zR (by repeat (first|(with_reducible first|exact HB.out|apply zD|apply zB|apply zC|refine zF ?_ GE415.out|refine zF ?_ GE416.out)|exact HB.out)) hb)
    clear BK415 BK416 HB
    have HO421:=n0_
    have HO424:=n1_
    have BK415:=n2_
    have BK416:=n3_
    have HB:=n4_
    clear n0_ n1_ n2_ n3_ n4_
    (try clear hb);(try clear hb2);(try clear hk);(try clear hi);(try clear ho0);(try clear ho1)
    refine hK.out _ _ ⟨(zT BK415.out 0).trans rfl,(zT BK415.out 1).trans rfl,(zT BK416.out 0).trans rfl,(zT BK416.out 1).trans rfl⟩ (fun hHeld=>?_)
    clear hK K
    refine norm_ (a':=?_) ?_ ?_
    rotate_left
    ·show Act.put _ (some 23) _ = _
     simp only [Act.put,zP_,i64_w]
     rfl
    refine one_ (i:=3) (N:=some 25) #[zt,zt,zt,zt,zf,zf,zf] rfl rfl (by kernel_rfl) (by decide) (fun K hK=>?_)
    refine goes_ Try.func114 (by kernel_rfl) rfl #[.agg #[.slice A1_0 l1_0.length c1_0,.slice A1_1 l1_1.length c1_1]] (by rfl) rfl rfl (by (try simp only [zJ,zM,zN]);first|done|rfl|(simp only [zL,zK];rfl)) ?_
    with_reducible refine (impl_leastForm.calls kj2 _ _ l1_0 _ _ l1_1 t425 t428 _ ?side1 ?side2 ?side3 ?side4 A27.out).mono ?_
    (case side1=>repeat (first|exact (zW HR1_0.out HB.out)|(with_reducible exact HR1_0.out)|apply zC_))
    (case side2=>exact HC1_0.out)
    (case side3=>repeat (first|exact (zW HR1_1.out HB.out)|(with_reducible exact HR1_1.out)|apply zC_))
    (case side4=>exact HC1_1.out)
    rintro e w31 ⟨v426,v429,rfl,ho0,ho1,hb⟩
    refine ⟨_,rfl,?_⟩
    have n0_:=zA (zV (Kd.R_told (Kd.R_told (Kd.R_old (by apply zR_;exact HO421.out) hb) (zd ho0)) (zd ho1)) (fun _ h_=>h_.1))
    have n1_:=zA (zV (Kd.R_told (Kd.R_told (Kd.R_old (by apply zR_;exact HO424.out) hb) (zd ho0)) (zd ho1)) (fun _ h_=>h_.1))
    have n2_:=zA (ze (zh (zh ho0 (Kd.R_lt (by apply zR_;exact HO421.out))) (Kd.R_lt (by apply zR_;exact HO424.out))) (zQ (by repeat (first|(with_reducible first|exact HB.out|apply zD|apply zB|apply zC|refine zF ?_ GE415.out|refine zF ?_ GE416.out)|exact HB.out))))
    have n3_:=zA (ze (zh (zh ho1 (Kd.R_lt (by apply zR_;exact HO421.out))) (Kd.R_lt (by apply zR_;exact HO424.out))) (zQ (by repeat (first|(with_reducible first|exact HB.out|apply zD|apply zB|apply zC|refine zF ?_ GE415.out|refine zF ?_ GE416.out)|exact HB.out))))
    have n4_:=zA (zX (g:=gb415) (o:=.cells #[.slice A0_0 l0_0.length c0_0,.slice A0_1 l0_1.length c0_1] 27 (0,0)) (by (with_reducible repeat (first|refine zG ?_ _|refine zI ?_|refine zH ?_ _));exact BK415.out) hb)
    have n5_:=zA (zX (g:=gb416) (o:=.cells #[.slice A1_0 l1_0.length c1_0,.slice A1_1 l1_1.length c1_1] 27 (0,0)) (by (with_reducible repeat (first|refine zG ?_ _|refine zI ?_|refine zH ?_ _));exact BK416.out) hb)
    have n6_:=zA (zR (by repeat (first|(with_reducible first|exact HB.out|apply zD|apply zB|apply zC|refine zF ?_ GE415.out|refine zF ?_ GE416.out)|exact HB.out)) hb)
    clear HO421 HO424 BK415 BK416 HB
    have HO421:=n0_
    have HO424:=n1_
    have HO427:=n2_
    have HO430:=n3_
    have BK415:=n4_
    have BK416:=n5_
    have HB:=n6_
    clear n0_ n1_ n2_ n3_ n4_ n5_ n6_
    (try clear hb);(try clear hb2);(try clear hk);(try clear hi);(try clear ho0);(try clear ho1)
    obtain ⟨Ao32,co32,eo32⟩:=zg HO421.out
    (first|subst eo32|(injection eo32 with f1_ f2_ f3_;have f4_:=f1_.symm;have f5_:=f3_.symm;clear f1_ f2_ f3_;subst f4_;subst f5_))
    obtain ⟨Ao33,co33,eo33⟩:=zg HO424.out
    (first|subst eo33|(injection eo33 with f1_ f2_ f3_;have f4_:=f1_.symm;have f5_:=f3_.symm;clear f1_ f2_ f3_;subst f4_;subst f5_))
    obtain ⟨Ao34,co34,eo34⟩:=zg HO427.out
    (first|subst eo34|(injection eo34 with f1_ f2_ f3_;have f4_:=f1_.symm;have f5_:=f3_.symm;clear f1_ f2_ f3_;subst f4_;subst f5_))
    obtain ⟨Ao35,co35,eo35⟩:=zg HO430.out
    (first|subst eo35|(injection eo35 with f1_ f2_ f3_;have f4_:=f1_.symm;have f5_:=f3_.symm;clear f1_ f2_ f3_;subst f4_;subst f5_))
    refine hK.out _ _ ⟨(zT BK415.out 0).trans rfl,(zT BK415.out 1).trans rfl,(zT BK416.out 0).trans rfl,(zT BK416.out 1).trans rfl⟩ (fun hHeld=>?_)
    clear hK K
    refine norm_ (a':=?_) ?_ ?_
    rotate_left
    ·show Act.put _ (some 25) _ = _
     simp only [Act.put,zP_,i64_w]
     rfl
    refine one_ (i:=4) (N:=some 26) #[zt,zt,zt,zt,zt,zf,zf] rfl rfl (by kernel_rfl) (by decide) (fun K hK=>?_)
    refine goes_ Try.func113 (by kernel_rfl) rfl #[.agg #[.slice Ao32 t419.length co32,.slice Ao33 t422.length co33],.agg #[.slice Ao34 t425.length co34,.slice Ao35 t428.length co35]] (by rfl) rfl rfl (by (try simp only [zJ,zM,zN]);first|done|rfl|(simp only [zL,zK];rfl)) ?_
    with_reducible refine (impl_compareMaps.calls kj2 _ _ t419 _ _ t422 _ _ t425 _ _ t428 t431 _ ?side1 ?side2 ?side3 ?side4 ?side5 ?side6 ?side7 ?side8 A28.out).mono ?_
    (case side1=>repeat (first|exact (zU HO421.out).2.2|apply zC_))
    (case side2=>exact (zU HO421.out).2.1)
    (case side3=>repeat (first|exact (zU HO424.out).2.2|apply zC_))
    (case side4=>exact (zU HO424.out).2.1)
    (case side5=>repeat (first|exact (zU HO427.out).2.2|apply zC_))
    (case side6=>exact (zU HO427.out).2.1)
    (case side7=>repeat (first|exact (zU HO430.out).2.2|apply zC_))
    (case side8=>exact (zU HO430.out).2.1)
    rintro e w36 ⟨rfl,hb⟩
    refine ⟨_,rfl,?_⟩
    have n0_:=zA (Kd.R_below (by apply zR_;exact HO421.out) hb)
    have n1_:=zA (Kd.R_below (by apply zR_;exact HO424.out) hb)
    have n2_:=zA (Kd.R_below (by apply zR_;exact HO427.out) hb)
    have n3_:=zA (Kd.R_below (by apply zR_;exact HO430.out) hb)
    have n4_:=zA (zX (g:=gb415) (o:=.cells #[.slice A0_0 l0_0.length c0_0,.slice A0_1 l0_1.length c0_1] 27 (0,0)) (by (with_reducible repeat (first|refine zG ?_ _|refine zI ?_|refine zH ?_ _));exact BK415.out) hb)
    have n5_:=zA (zX (g:=gb416) (o:=.cells #[.slice A1_0 l1_0.length c1_0,.slice A1_1 l1_1.length c1_1] 27 (0,0)) (by (with_reducible repeat (first|refine zG ?_ _|refine zI ?_|refine zH ?_ _));exact BK416.out) hb)
    have n6_:=zA (zR (by repeat (first|(with_reducible first|exact HB.out|apply zD|apply zB|apply zC|refine zF ?_ GE415.out|refine zF ?_ GE416.out)|exact HB.out)) hb)
    clear HO421 HO424 HO427 HO430 BK415 BK416 HB
    have HO421:=n0_
    have HO424:=n1_
    have HO427:=n2_
    have HO430:=n3_
    have BK415:=n4_
    have BK416:=n5_
    have HB:=n6_
    clear n0_ n1_ n2_ n3_ n4_ n5_ n6_
    (try clear hb);(try clear hb2);(try clear hk);(try clear hi)
    refine hK.out _ _ ⟨(zT BK415.out 0).trans rfl,(zT BK415.out 1).trans rfl,(zT BK416.out 0).trans rfl,(zT BK416.out 1).trans rfl⟩ (fun hHeld=>?_)
    clear hK K
    refine norm_ (a':=?_) ?_ ?_
    rotate_left
    ·show Act.put _ (some 26) _ = _
     simp only [Act.put,zP_,i64_w]
     rfl
    refine pure_ (i:=5) (N:=some 27) (v:=?_) (a':=?_) #[zt,zt,zt,zt,zt,zt,zf] rfl rfl (by kernel_rfl) (fun _ _ _ h=>h) (Or.inl ⟨by rfl,?_⟩) ?_ ?_
    rotate_left
    ·intro w'
     go_simp
     with_reducible rfl
    rotate_left
    ·simp only [Act.put,zP_,i64_w]
     rfl
    refine pure_ (i:=6) (N:=some 4) (v:=?_) (a':=?_) #[zt,zt,zt,zt,zt,zt,zt] rfl rfl (by kernel_rfl) (fun _ _ _ h=>h) (Or.inl ⟨by rfl,?_⟩) ?_ ?_
    rotate_left
    ·intro w'
     go_simp
     with_reducible rfl
    rotate_left
    ·simp only [Act.put,zP_,i64_w]
     rfl
    refine done_ (by kernel_rfl) ?_
    try go_wp2
    go_ret
    exact ⟨by first|rfl|(simp [errW_none,errW_some] <;> rfl)|(simp [*,errW_none,errW_some] <;> rfl),by repeat (first|(with_reducible first|exact HB.out|apply zD|apply zB|apply zC|refine zF ?_ GE415.out|refine zF ?_ GE416.out)|exact HB.out)⟩

/-! ### spec_GluingValid: function 82 -/
def spec_GluingValid.l0:Nat→List Int→Int→Option (Bool)
 | 0,_,_=>none
 | k+1,x0,x3=>if x3 < (x0.length:Int) then (if 0≤x3 then ((spec_l6In.f (rd x0 x3) 0 (wrap64 ((x0.length:Int) - 1))).bind fun t433=>(if t433 = true then (if (rd x0 x3) = x3 then (some false) else (if 0≤(rd x0 x3) then (if (rd x0 x3) < (x0.length:Int) then (if (rd x0 (rd x0 x3)) = x3 then (spec_GluingValid.l0 k x0 (wrap64 (x3+1))) else (some false)) else (none)) else (none))) else (some false))) else (none)) else ((spec_l6In.f (x0.length:Int) 2 10).bind fun t437=>(some t437))
def spec_GluingValid.f (k:Nat) (l0:List Int):Option (Bool):=spec_GluingValid.l0 k l0 0
theorem spec_GluingValid.mono_l:∀ k,(∀ y0 y1,LeO (spec_GluingValid.l0 k y0 y1) (spec_GluingValid.l0 (k+1) y0 y1))
 | 0=>fun _ _ r h=>by simp [spec_GluingValid.l0] at h
 | k+1=>by
  have ih0:=spec_GluingValid.mono_l k
  ·intro y0 y1
   unfold spec_GluingValid.l0
   repeat' first
   | (with_reducible exact ih0 _ _)
   | (with_reducible exact LeO.refl _)
   | (with_reducible exact za _)
   | (with_reducible refine zc ?_ ?_)
   | (with_reducible refine zb ?_ (fun _=>?_))
theorem spec_GluingValid.mono:∀ a0 k,LeO (spec_GluingValid.f k a0) (spec_GluingValid.f (k+1) a0):=by
 intro a0 k
 have ih0:=spec_GluingValid.mono_l k
 unfold spec_GluingValid.f
 repeat' first
   | (with_reducible exact ih0 _ _)
   | (with_reducible exact LeO.refl _)
   | (with_reducible exact za _)
   | (with_reducible refine zc ?_ ?_)
   | (with_reducible refine zb ?_ (fun _=>?_))
set_option maxHeartbeats 8000000 in
set_option maxRecDepth 100000 in
theorem spec_GluingValid.calls (k:Nat) (A0:Option Addr) (c0:Nat) (l0:List Int) (r:Bool) (w:World) (hr0:Kd.C (Kd.int .i64) w A0 l0.length l0) (hc0:l0.length≤c0) (h:spec_GluingValid.f k l0 = some r) :
  Calls Try.prog 82 #[.slice A0 l0.length c0] w fun e w'=>e = .returned (.bool r)∧Drawn0 w w':=by
 have HR0:=zA hr0
 have HC0:=zA hc0
 clear hr0 hc0
 have H:(spec_GluingValid.l0 k l0 0) = some r:=h
 clear h
 have H':=zA H
 clear H
 go_enter Try.func82,Try.ntmps82
 go_wp2
 go_loopg [3] k (fun kq v3 w' => ∃ (x3_1:Int),v3 = .int .i64 x3_1∧Aside0 (spec_GluingValid.l0 kq l0 x3_1 = some r)∧Aside0 (kq≤k)∧Drawn0 w w')
 case atStart=>exact ⟨(0),(by first|rfl|(simp;done)|(simp [*];done)),H',⟨Nat.le_refl _⟩,by repeat (first|exact Drawn0.refl _|apply Drawn0.step)⟩
 case round =>
  clear H'
  obtain ⟨x3_1,rfl,HA,HK1,⟨m1,rfl⟩⟩:=hrel
  cases gk with
  | zero=>exact absurd HA.out (by simp [spec_GluingValid.l0])
  | succ k1 =>
   have H:=HA.out
   clear HA
   simp only [spec_GluingValid.l0] at H
   by_cases c2:x3_1 < (l0.length:Int)
   ·rw [if_pos c2] at H
    have c2b0:decide (x3_1 < (l0.length:Int)) = true:=zO c2
    clear c2
    by_cases c3:0≤x3_1
    ·rw [if_pos c3] at H
     have c3b0:decide (0≤x3_1) = true:=zO c3
     clear c3
     replace H:=zz0 H
     obtain ⟨t433,A40,H⟩:=H
     try dsimp only at H
     have A4:=zA A40
     clear A40
     by_cases c5:t433 = true
     ·subst c5
      rw [if_pos rfl] at H;try dsimp only at H
      by_cases c6:(rd l0 x3_1) = x3_1
      ·rw [if_pos c6] at H
       have c6b0:((rd l0 x3_1) == x3_1) = true:=beq_iff_eq.mpr c6
       have c6b1:((rd l0 x3_1) != x3_1) = false:=bne_eq_false_iff_eq.mpr c6
       clear c6
       obtain rfl:=zS H
       have p432:0≤(x3_1:Int):=zE (by with_reducible assumption)
       have q432:x3_1 < (l0.length:Int):=zE (by with_reducible assumption)
       obtain ⟨ad432,e432,hx432_0⟩:=Kd.at_int HR0.out x3_1 p432 q432
       cases e432
       replace p432:=eq_true p432
       replace q432:=eq_true q432
       go_wp2_with (first|((with_reducible refine gate_callee (f:=124) rfl ?_);refine goesL_ (some 17) rfl rfl Try.func124 (by kernel_rfl) rfl #[.int .i64 (rd l0 x3_1),.int .i64 0,.int .i64 (wrap64 ((l0.length:Int) - 1))] rfl (by (try simp only [zJ,zM,zN]);first|done|rfl|(simp only [zL,zK];rfl)) ?_;(with_reducible refine (spec_l6In.calls (rd l0 x3_1) 0 (wrap64 ((l0.length:Int) - 1)) true _ A4.out).mono ?_);rintro e w' ⟨rfl,⟨nd,rfl⟩⟩;refine ⟨_,rfl,?_⟩;have p434:0≤(x3_1:Int):=zE (by with_reducible assumption);have q434:x3_1 < (l0.length:Int):=zE (by with_reducible assumption);obtain ⟨ad434,e434,hx434_0⟩:=Kd.at_int HR0.out x3_1 p434 q434;obtain rfl:ad432 = ad434:=(by injection e434);replace p434:=eq_true p434;replace q434:=eq_true q434))
       go_ret
       exact ⟨by first|rfl|(simp;done)|(simp [*];done),by repeat (first|exact Drawn0.refl _|apply Drawn0.step)⟩
      ·rw [if_neg c6] at H
       have c6b0:((rd l0 x3_1) == x3_1) = false:=beq_eq_false_iff_ne.mpr c6
       have c6b1:((rd l0 x3_1) != x3_1) = true:=bne_iff_ne.mpr c6
       by_cases c7:0≤(rd l0 x3_1)
       ·rw [if_pos c7] at H
        have c7b0:decide (0≤(rd l0 x3_1)) = true:=zO c7
        clear c7
        by_cases c8:(rd l0 x3_1) < (l0.length:Int)
        ·rw [if_pos c8] at H
         have c8b0:decide ((rd l0 x3_1) < (l0.length:Int)) = true:=zO c8
         clear c8
         by_cases c9:(rd l0 (rd l0 x3_1)) = x3_1
         ·rw [if_pos c9] at H
          have c9b0:((rd l0 (rd l0 x3_1)) == x3_1) = true:=beq_iff_eq.mpr c9
          have c9b1:((rd l0 (rd l0 x3_1)) != x3_1) = false:=bne_eq_false_iff_eq.mpr c9
          clear c9
          have H':=zA H
          clear H
          have p432:0≤(x3_1:Int):=zE (by with_reducible assumption)
          have q432:x3_1 < (l0.length:Int):=zE (by with_reducible assumption)
          obtain ⟨ad432,e432,hx432_0⟩:=Kd.at_int HR0.out x3_1 p432 q432
          cases e432
          replace p432:=eq_true p432
          replace q432:=eq_true q432
          go_wp2_with (first|((with_reducible refine gate_callee (f:=124) rfl ?_);refine goesL_ (some 17) rfl rfl Try.func124 (by kernel_rfl) rfl #[.int .i64 (rd l0 x3_1),.int .i64 0,.int .i64 (wrap64 ((l0.length:Int) - 1))] rfl (by (try simp only [zJ,zM,zN]);first|done|rfl|(simp only [zL,zK];rfl)) ?_;(with_reducible refine (spec_l6In.calls (rd l0 x3_1) 0 (wrap64 ((l0.length:Int) - 1)) true _ A4.out).mono ?_);rintro e w' ⟨rfl,⟨nd,rfl⟩⟩;refine ⟨_,rfl,?_⟩;have p434:0≤(x3_1:Int):=zE (by with_reducible assumption);have q434:x3_1 < (l0.length:Int):=zE (by with_reducible assumption);obtain ⟨ad434,e434,hx434_0⟩:=Kd.at_int HR0.out x3_1 p434 q434;obtain rfl:ad432 = ad434:=(by injection e434);replace p434:=eq_true p434;replace q434:=eq_true q434;have p435:0≤(x3_1:Int):=zE (by with_reducible assumption);have q435:x3_1 < (l0.length:Int):=zE (by with_reducible assumption);obtain ⟨ad435,e435,hx435_0⟩:=Kd.at_int HR0.out x3_1 p435 q435;obtain rfl:ad432 = ad435:=(by injection e435);replace p435:=eq_true p435;replace q435:=eq_true q435;have p436:0≤((rd l0 x3_1):Int):=zE (by with_reducible assumption);have q436:(rd l0 x3_1) < (l0.length:Int):=zE (by with_reducible assumption);obtain ⟨ad436,e436,hx436_0⟩:=Kd.at_int HR0.out (rd l0 x3_1) p436 q436;obtain rfl:ad432 = ad436:=(by injection e436);replace p436:=eq_true p436;replace q436:=eq_true q436))
          go_roundg k1
          case measure=>have:=HK1.out;omega
          case rel=>exact ⟨(wrap64 (x3_1+1)),(by first|rfl|(simp;done)|(simp [*];done)),H',⟨by have:=HK1.out;omega⟩,by repeat (first|exact Drawn0.refl _|apply Drawn0.step)⟩
         ·rw [if_neg c9] at H
          have c9b0:((rd l0 (rd l0 x3_1)) == x3_1) = false:=beq_eq_false_iff_ne.mpr c9
          have c9b1:((rd l0 (rd l0 x3_1)) != x3_1) = true:=bne_iff_ne.mpr c9
          obtain rfl:=zS H
          have p432:0≤(x3_1:Int):=zE (by with_reducible assumption)
          have q432:x3_1 < (l0.length:Int):=zE (by with_reducible assumption)
          obtain ⟨ad432,e432,hx432_0⟩:=Kd.at_int HR0.out x3_1 p432 q432
          cases e432
          replace p432:=eq_true p432
          replace q432:=eq_true q432
          go_wp2_with (first|((with_reducible refine gate_callee (f:=124) rfl ?_);refine goesL_ (some 17) rfl rfl Try.func124 (by kernel_rfl) rfl #[.int .i64 (rd l0 x3_1),.int .i64 0,.int .i64 (wrap64 ((l0.length:Int) - 1))] rfl (by (try simp only [zJ,zM,zN]);first|done|rfl|(simp only [zL,zK];rfl)) ?_;(with_reducible refine (spec_l6In.calls (rd l0 x3_1) 0 (wrap64 ((l0.length:Int) - 1)) true _ A4.out).mono ?_);rintro e w' ⟨rfl,⟨nd,rfl⟩⟩;refine ⟨_,rfl,?_⟩;have p434:0≤(x3_1:Int):=zE (by with_reducible assumption);have q434:x3_1 < (l0.length:Int):=zE (by with_reducible assumption);obtain ⟨ad434,e434,hx434_0⟩:=Kd.at_int HR0.out x3_1 p434 q434;obtain rfl:ad432 = ad434:=(by injection e434);replace p434:=eq_true p434;replace q434:=eq_true q434;have p435:0≤(x3_1:Int):=zE (by with_reducible assumption);have q435:x3_1 < (l0.length:Int):=zE (by with_reducible assumption);obtain ⟨ad435,e435,hx435_0⟩:=Kd.at_int HR0.out x3_1 p435 q435;obtain rfl:ad432 = ad435:=(by injection e435);replace p435:=eq_true p435;replace q435:=eq_true q435;have p436:0≤((rd l0 x3_1):Int):=zE (by with_reducible assumption);have q436:(rd l0 x3_1) < (l0.length:Int):=zE (by with_reducible assumption);obtain ⟨ad436,e436,hx436_0⟩:=Kd.at_int HR0.out (rd l0 x3_1) p436 q436;obtain rfl:ad432 = ad436:=(by injection e436);replace p436:=eq_true p436;replace q436:=eq_true q436))
          go_ret
          exact ⟨by first|rfl|(simp;done)|(simp [*];done),by repeat (first|exact Drawn0.refl _|apply Drawn0.step)⟩
        ·rw [if_neg c8] at H
         exact absurd H (by simp)
       ·rw [if_neg c7] at H
        exact absurd H (by simp)
     ·replace c5:=Bool.eq_false_iff.mpr c5
      subst c5
      have H1:(some false) = some r:=by rw [if_neg (show ¬ (false = true) by decide)] at H;exact H
      clear H
      have H:=H1
      clear H1
      obtain rfl:=zS H
      have p432:0≤(x3_1:Int):=zE (by with_reducible assumption)
      have q432:x3_1 < (l0.length:Int):=zE (by with_reducible assumption)
      obtain ⟨ad432,e432,hx432_0⟩:=Kd.at_int HR0.out x3_1 p432 q432
      cases e432
      replace p432:=eq_true p432
      replace q432:=eq_true q432
      go_wp2_with (first|((with_reducible refine gate_callee (f:=124) rfl ?_);refine goesL_ (some 17) rfl rfl Try.func124 (by kernel_rfl) rfl #[.int .i64 (rd l0 x3_1),.int .i64 0,.int .i64 (wrap64 ((l0.length:Int) - 1))] rfl (by (try simp only [zJ,zM,zN]);first|done|rfl|(simp only [zL,zK];rfl)) ?_;(with_reducible refine (spec_l6In.calls (rd l0 x3_1) 0 (wrap64 ((l0.length:Int) - 1)) false _ A4.out).mono ?_);rintro e w' ⟨rfl,⟨nd,rfl⟩⟩;refine ⟨_,rfl,?_⟩))
      go_ret
      exact ⟨by first|rfl|(simp;done)|(simp [*];done),by repeat (first|exact Drawn0.refl _|apply Drawn0.step)⟩
    ·rw [if_neg c3] at H
     exact absurd H (by simp)
   ·rw [if_neg c2] at H
    have c2b0:decide (x3_1 < (l0.length:Int)) = false:=zP c2
    clear c2
    replace H:=zz0 H
    obtain ⟨t437,A100,H⟩:=H
    try dsimp only at H
    have A10:=zA A100
    clear A100
    obtain rfl:=zS H
    go_wp2_with (first|((with_reducible refine gate_callee (f:=124) rfl ?_);refine goesL_ (some 40) rfl rfl Try.func124 (by kernel_rfl) rfl #[.int .i64 (l0.length:Int),.int .i64 2,.int .i64 10] rfl (by (try simp only [zJ,zM,zN]);first|done|rfl|(simp only [zL,zK];rfl)) ?_;(with_reducible refine (spec_l6In.calls (l0.length:Int) 2 10 t437 _ A10.out).mono ?_);rintro e w' ⟨rfl,⟨nd,rfl⟩⟩;refine ⟨_,rfl,?_⟩))
    go_ret
    exact ⟨by first|rfl|(simp;done)|(simp [*];done),by repeat (first|exact Drawn0.refl _|apply Drawn0.step)⟩

/-! ### spec_l4Corners: function 84 -/
def spec_l4Corners.l0:Nat→List Int→List Int→Int→Option (List Int)
 | 0,_,_,_=>none
 | k+1,x0,x3,x4=>if x4 < (x0.length:Int) then (if 0≤x4 then (if (x0.length:Int) = 0 then (none) else (if x3.length < 17592186044416 then (spec_l4Corners.l0 k x0 (x3 ++ [Int.tmod (wrap64 ((rd x0 x4)+1)) (x0.length:Int)]) (wrap64 (x4+1))) else (none))) else (none)) else (some x3)
def spec_l4Corners.f (k:Nat) (l0:List Int):Option (List Int):=spec_l4Corners.l0 k l0 (([]:List Int)) 0
theorem spec_l4Corners.mono_l:∀ k,(∀ y0 y1 y2,LeO (spec_l4Corners.l0 k y0 y1 y2) (spec_l4Corners.l0 (k+1) y0 y1 y2))
 | 0=>fun _ _ _ r h=>by simp [spec_l4Corners.l0] at h
 | k+1=>by
  have ih0:=spec_l4Corners.mono_l k
  ·intro y0 y1 y2
   unfold spec_l4Corners.l0
   repeat' first
   | (with_reducible exact ih0 _ _ _)
   | (with_reducible exact LeO.refl _)
   | (with_reducible exact za _)
   | (with_reducible refine zc ?_ ?_)
   | (with_reducible refine zb ?_ (fun _=>?_))
theorem spec_l4Corners.mono:∀ a0 k,LeO (spec_l4Corners.f k a0) (spec_l4Corners.f (k+1) a0):=by
 intro a0 k
 have ih0:=spec_l4Corners.mono_l k
 unfold spec_l4Corners.f
 repeat' first
   | (with_reducible exact ih0 _ _ _)
   | (with_reducible exact LeO.refl _)
   | (with_reducible exact za _)
   | (with_reducible refine zc ?_ ?_)
   | (with_reducible refine zb ?_ (fun _=>?_))
set_option maxHeartbeats 8000000 in
set_option maxRecDepth 100000 in
theorem spec_l4Corners.calls (k:Nat) (A0:Option Addr) (c0:Nat) (l0:List Int) (r:List Int) (w:World) (hr0:Kd.C (Kd.int .i64) w A0 l0.length l0) (hc0:l0.length≤c0) (h:spec_l4Corners.f k l0 = some r) :
  Calls Try.prog 84 #[.slice A0 l0.length c0] w fun e w' => ∃ v0_:Value,e = .returned (v0_)∧Kd.R (Kd.int .i64) 3 w' w.heap.size (fun _=>True) v0_ r∧Below w.heap.size w w':=by
 have HR0:=zA hr0
 have HC0:=zA hc0
 clear hr0 hc0
 have HB:=zA (Below.refl w.heap.size w)
 have H:(spec_l4Corners.l0 k l0 (([]:List Int)) 0) = some r:=h
 clear h
 obtain ⟨y438,hy438⟩:∃ y_:List Int,y_ = (([]:List Int)):=⟨_,rfl⟩
 replace H:(spec_l4Corners.l0 k l0 y438 0) = some r:=by (try rw [hy438]);first|with_reducible exact H|with_reducible exact zS_ H|exact H
 have Ny438:=zA hy438
 clear hy438
 have H':=zA H
 clear H
 go_enter Try.func84,Try.ntmps84
 go_wp2_with (first|((with_reducible refine gate_dst (N:=5) rfl ?_);refine Kd.R_lit (Kd.int .i64) _ 3 ?hg (N:=5) ?hd (xs:=([]:List Int)) (inner:=[]) (ok:=fun _=>True) (okp:=fun _=>True) ?hr ?hp (fun _ hk=>hk) trivial (Below.refl _ _) (Nat.le_refl _) (by simp) ?_;(case hd=>rfl);(case hg=>rfl);(case hr=>first|(go_simp;done)|(go_simp;rfl));(case hp=>exact (Reps.none _ _));intro v439 w2 ho3 hb hg_ hnew_;clear hg_ hnew_;(first|rw [← Ny438.out] at ho3|(simp only [Int.reduceToNat] at ho3;rw [← Ny438.out] at ho3));have n0_:=zA (ze ho3 (zQ (by exact zB_ HB.out)));have n1_:=zA (zR (by exact zB_ HB.out) hb);clear HB;have HO440:=n0_;have HB:=n1_;clear n0_ n1_;clear hb ho3))
 go_loopg [3,4] k (fun kq v3 v4 w' => ∃ (x3_1:List Int) (x4_1:Int),v4 = .int .i64 x4_1∧Aside0 (spec_l4Corners.l0 kq l0 x3_1 x4_1 = some r)∧Aside0 (kq≤k)∧Aside0 (Kd.R (Kd.int .i64) 3 w' w.heap.size (fun _=>True) v3 x3_1)∧Aside0 (Below w.heap.size w w'))
 case atStart=>exact ⟨(y438),(0),(by first|rfl|(simp;done)|(simp [*];done)),H',⟨Nat.le_refl _⟩,⟨by apply zR_;exact HO440.out⟩,⟨by exact zB_ HB.out⟩⟩
 case round =>
  clear H'
  (try clear p2)
  obtain ⟨x3_1,x4_1,rfl,HA,HK1,HO_3,HB⟩:=hrel
  cases gk with
  | zero=>exact absurd HA.out (by simp [spec_l4Corners.l0])
  | succ k1 =>
   have H:=HA.out
   clear HA
   simp only [spec_l4Corners.l0] at H
   by_cases c4:x4_1 < (l0.length:Int)
   ·rw [if_pos c4] at H
    have c4b0:decide (x4_1 < (l0.length:Int)) = true:=zO c4
    clear c4
    by_cases c5:0≤x4_1
    ·rw [if_pos c5] at H
     have c5b0:decide (0≤x4_1) = true:=zO c5
     clear c5
     by_cases c6:(l0.length:Int) = 0
     ·rw [if_pos c6] at H
      exact absurd H (by simp)
     ·rw [if_neg c6] at H
      have c6b0:((l0.length:Int) == 0) = false:=beq_eq_false_iff_ne.mpr c6
      have c6b1:((l0.length:Int) != 0) = true:=bne_iff_ne.mpr c6
      have c6b2:¬ (l0 = []):=fun h_=>c6 (by rw [h_];rfl)
      by_cases c7:x3_1.length < 17592186044416
      ·rw [if_pos c7] at H
       have LMc7:=zA c7
       clear c7
       obtain ⟨y442,hy442⟩:∃ y_:List Int,y_ = (x3_1 ++ [Int.tmod (wrap64 ((rd l0 x4_1)+1)) (l0.length:Int)]):=⟨_,rfl⟩
       replace H:(spec_l4Corners.l0 k1 l0 y442 (wrap64 (x4_1+1))) = some r:=by (try rw [hy442]);first|with_reducible exact H|with_reducible exact zS_ H|exact H
       have Ny442:=zA hy442
       clear hy442
       have H':=zA H
       clear H
       have p441:0≤(x4_1:Int):=zE (by with_reducible assumption)
       have q441:x4_1 < (l0.length:Int):=zE (by with_reducible assumption)
       obtain ⟨ad441,e441,hx441_0⟩:=Kd.at_int HR0.out x4_1 p441 q441
       cases e441
       replace hx441_0:=(HB.out.cell (zY w _ hx441_0)).trans hx441_0
       replace p441:=eq_true p441
       replace q441:=eq_true q441
       go_wp2_with (first|((with_reducible refine gate_builtin (b:=.append) (xs:=#[.tmp 12,.tmp 21]) rfl ?_);at_builtin;refine Kd.R_append (Kd.int .i64) (w0:=w) w.heap.size rfl (.tmp 12) (.tmp 21) 23 3 (.int .i64 0) 8 rfl Try.underlying23 info3 rfl (by decide) (by omega) u3 x3_1 (Int.tmod (wrap64 ((rd l0 x4_1)+1)) (l0.length:Int)) [.int .i64 (Int.tmod (wrap64 ((rd l0 x4_1)+1)) (l0.length:Int))] (fun _=>True) (fun _=>False) rfl rfl ?aP (fun _ hk=>hk.elim) ?aF ?aO ?aB ?aS ?aL ?_;(case aP=>exact rfl);(case aB=>exact (by exact zB_ HB.out));(case aF=>exact (fun _ _=>trivial));(case aO=>exact (by apply zR_;exact HO_3.out));(case aS=>exact (zQ (by exact zB_ HB.out)));(case aL=>have:=LMc7.out;omega);intro v443 w8 ho hb hg hat;rw [← Ny442.out] at ho;have n0_:=zA (hb);have n1_:=zA (ho);clear HB;clear HO_3;have HB:=n0_;have HO444:=n1_;clear n0_ n1_;clear ho hb hg hat))
       go_roundg k1
       case measure=>have:=HK1.out;omega
       case rel=>exact ⟨(y442),(wrap64 (x4_1+1)),(by first|rfl|(simp;done)|(simp [*];done)),H',⟨by have:=HK1.out;omega⟩,⟨by apply zR_;exact HO444.out⟩,⟨by exact zB_ HB.out⟩⟩
      ·rw [if_neg c7] at H
       exact absurd H (by simp)
    ·rw [if_neg c5] at H
     exact absurd H (by simp)
   ·rw [if_neg c4] at H
    have c4b0:decide (x4_1 < (l0.length:Int)) = false:=zP c4
    clear c4
    obtain rfl:=zS H
    go_wp2
    go_ret
    exact ⟨_,by first|rfl|(simp [errW_none,errW_some] <;> rfl)|(simp [*,errW_none,errW_some] <;> rfl),by apply zR_;exact HO_3.out,by exact zB_ HB.out⟩

/-! ### spec_l2Copy: function 87 -/
def spec_l2Copy.f (l0:List Int):Option (List Int):=(some (([]:List Int):List Int)).bind fun y445=>(if y445.length+l0.length < 17592186044416 then (some (y445 ++ l0)) else (none))
set_option maxHeartbeats 8000000 in
set_option maxRecDepth 100000 in
theorem spec_l2Copy.calls (A0:Option Addr) (c0:Nat) (l0:List Int) (r:List Int) (w:World) (hr0:Kd.C (Kd.int .i64) w A0 l0.length l0) (hc0:l0.length≤c0) (h:spec_l2Copy.f l0 = some r) :
  Calls Try.prog 87 #[.slice A0 l0.length c0] w fun e w' => ∃ v0_:Value,e = .returned (v0_)∧Kd.R (Kd.int .i64) 3 w' w.heap.size (fun _=>True) v0_ r∧Below w.heap.size w w':=by
 have HR0:=zA hr0
 have HC0:=zA hc0
 clear hr0 hc0
 have HB:=zA (Below.refl w.heap.size w)
 have H:((some (([]:List Int):List Int)).bind fun y445=>(if y445.length+l0.length < 17592186044416 then (some (y445 ++ l0)) else (none))) = some r:=h
 clear h
 obtain ⟨y445,hy445⟩:∃ y_:List Int,y_ = (([]:List Int)):=⟨_,rfl⟩
 replace H:(if y445.length+l0.length < 17592186044416 then (some (y445 ++ l0)) else (none)) = some r:=by (try rw [hy445]);first|with_reducible exact H|with_reducible exact zS_ H|exact H
 have Ny445:=zA hy445
 clear hy445
 by_cases c2:y445.length+l0.length < 17592186044416
 ·rw [if_pos c2] at H
  have LMc2:=zA c2
  clear c2
  obtain ⟨y448,hy448⟩:∃ y_:List Int,y_ = (y445 ++ l0):=⟨_,rfl⟩
  replace H:(some y448) = some r:=by (try rw [hy448]);first|with_reducible exact H|with_reducible exact zS_ H|exact H
  have Ny448:=zA hy448
  clear hy448
  obtain rfl:=zS H
  go_enter Try.func87,Try.ntmps87
  go_wp2_with (first|((with_reducible refine gate_dst (N:=3) rfl ?_);refine Kd.R_lit (Kd.int .i64) _ 3 ?hg (N:=3) ?hd (xs:=([]:List Int)) (inner:=[]) (ok:=fun _=>True) (okp:=fun _=>True) ?hr ?hp (fun _ hk=>hk) trivial (Below.refl _ _) (Nat.le_refl _) (by simp) ?_;(case hd=>rfl);(case hg=>rfl);(case hr=>first|(go_simp;done)|(go_simp;rfl));(case hp=>exact (Reps.none _ _));intro v446 w3 ho4 hb hg_ hnew_;clear hg_ hnew_;(first|rw [← Ny445.out] at ho4|(simp only [Int.reduceToNat] at ho4;rw [← Ny445.out] at ho4));have n0_:=zA (ze ho4 (zQ (by exact zB_ HB.out)));have n1_:=zA (zR (by exact zB_ HB.out) hb);clear HB;have HO447:=n0_;have HB:=n1_;clear n0_ n1_;clear hb ho4)|((with_reducible refine gate_builtin (b:=.append) (xs:=#[.tmp 3,.tmp 4]) rfl ?_);at_builtin;refine Kd.R_append_rows (Kd.int .i64) (w0:=w) w.heap.size rfl (.tmp 3) (.tmp 4) 23 3 (.int .i64 0) 8 rfl Try.underlying23 info3 rfl (by decide) (by omega) v446 y445 l0 _ _ _ (fun _=>True) (fun _=>False) rfl rfl ?aO ?aR (fun _ _ h=>h) (fun _ h=>h.elim) ?aF ?aB ?aS ?aL ?_;(case aR=>repeat (first|exact (zW HR0.out HB.out)|(with_reducible exact HR0.out)|apply zC_));(case aB=>exact (by exact zB_ HB.out));(case aF=>exact (fun _ _=>trivial));(case aO=>exact (by apply zR_;exact HO447.out));(case aS=>exact (zQ (by exact zB_ HB.out)));(case aL=>have:=LMc2.out;omega);intro v449 w5 ho hb hg hat;rw [← Ny448.out] at ho;have n0_:=zA (hb);have n1_:=zA (ho);clear HB;clear HO447;have HB:=n0_;have HO450:=n1_;clear n0_ n1_;clear ho hb hg hat))
  go_ret
  exact ⟨_,by first|rfl|(simp [errW_none,errW_some] <;> rfl)|(simp [*,errW_none,errW_some] <;> rfl),by apply zR_;exact HO450.out,by exact zB_ HB.out⟩
 ·rw [if_neg c2] at H
  exact absurd H (by simp)

/-! ### spec_GluingMap: function 22 -/
def spec_GluingMap.f (k:Nat) (l0:List Int):Option (List Int × List Int × Bool):=(spec_GluingValid.f k l0).bind fun t452=>(if t452 = true then ((spec_l4Corners.f k l0).bind fun t453=>((spec_l2Copy.f l0).bind fun t456=>(some (t453,t456,true)))) else (some (([]:List Int),([]:List Int),false)))
theorem spec_GluingMap.mono:∀ a0 k,LeO (spec_GluingMap.f k a0) (spec_GluingMap.f (k+1) a0):=by
 intro a0 k
 unfold spec_GluingMap.f
 repeat' first
   | (with_reducible exact spec_GluingValid.mono _ _)
   | (with_reducible exact spec_l4Corners.mono _ _)
   | (with_reducible exact LeO.refl _)
   | (with_reducible exact za _)
   | (with_reducible refine zc ?_ ?_)
   | (with_reducible refine zb ?_ (fun _=>?_))
set_option maxHeartbeats 8000000 in
set_option maxRecDepth 100000 in
theorem spec_GluingMap.calls (k:Nat) (A0:Option Addr) (c0:Nat) (l0:List Int) (r1:List Int) (r2:List Int) (r3:Bool) (w:World) (hr0:Kd.C (Kd.int .i64) w A0 l0.length l0) (hc0:l0.length≤c0) (h:spec_GluingMap.f k l0 = some (r1,r2,r3)) :
  Calls Try.prog 22 #[.slice A0 l0.length c0] w fun e w' => ∃ v0_ v1_:Value,e = .returned (.tuple #[.agg #[v0_,v1_],.bool r3])∧Kd.R (Kd.int .i64) 3 w' w.heap.size (fun k_=>some k_≠(v1_:Value).ownBlock) v0_ r1∧Kd.R (Kd.int .i64) 3 w' w.heap.size (fun k_=>some k_≠(v0_:Value).ownBlock) v1_ r2∧Below w.heap.size w w':=by
 have hu27:=Try.underlying27
 have HR0:=zA hr0
 have HC0:=zA hc0
 clear hr0 hc0
 have HB:=zA (Below.refl w.heap.size w)
 have H:((spec_GluingValid.f k l0).bind fun t452=>(if t452 = true then ((spec_l4Corners.f k l0).bind fun t453=>((spec_l2Copy.f l0).bind fun t456=>(some (t453,t456,true)))) else (some (([]:List Int),([]:List Int),false)))) = some (r1,r2,r3):=h
 clear h
 replace H:=zz0 H
 obtain ⟨t452,A20,H⟩:=H
 try dsimp only at H
 have A2:=zA A20
 clear A20
 by_cases c3:t452 = true
 ·subst c3
  rw [if_pos rfl] at H;try dsimp only at H
  replace H:=zz0 H
  obtain ⟨t453,A40,H⟩:=H
  try dsimp only at H
  have A4:=zA A40
  clear A40
  replace H:=zz0 H
  obtain ⟨t456,A50,H⟩:=H
  try dsimp only at H
  have A5:=zA A50
  clear A50
  simp only [Option.some.injEq,Prod.mk.injEq] at H
  obtain ⟨rfl,rfl,rfl⟩:=H
  go_enter Try.func22,Try.ntmps22
  go_wp2_with (first|((with_reducible refine gate_dst (N:=2) rfl ?_);refine box_event ?hg (N:=2) ?hd (cs:=#[.slice none 0 0,.slice none 0 0]) (t:=27) ?hr ?_;(case hd=>rfl);(case hg=>rfl);(case hr=>first|(go_simp;done)|(go_simp;rfl));intro gb451 hg w6 hbox hb;have n0_:=zA (zR (by exact zB_ HB.out) hb);have n1_:=zA (hbox);have n2_:=zA ((by rw [hg];exact (zQ (by exact zB_ HB.out)):w.heap.size≤gb451));have n3_:=zA ((by rw [hg];exact (zQ (by exact zB_ HB.out)):w.heap.size≤gb451));clear HB;have HB:=n0_;have BK451:=n1_;have GW451:=n2_;have GE451:=n3_;clear n0_ n1_ n2_ n3_;clear hb hbox hg)|((with_reducible refine gate_callee (f:=82) rfl ?_);refine goesL_ (some 5) rfl rfl Try.func82 (by kernel_rfl) rfl #[.slice A0 l0.length c0] rfl (by (try simp only [zJ,zM,zN]);first|done|rfl|(simp only [zL,zK];rfl)) ?_;(with_reducible refine (spec_GluingValid.calls k _ _ l0 true _ ?side1 ?side2 A2.out).mono ?_);(case side1=>repeat (first|exact (zW HR0.out HB.out)|(with_reducible exact HR0.out)|apply zC_));(case side2=>exact HC0.out);rintro e w' ⟨rfl,⟨nd,rfl⟩⟩;refine ⟨_,rfl,?_⟩;(try (rw [drewN_self w6];generalize hq_:World.drewN w6 _ = w6;have n0_:Aside0 (w6.heap[gb451]? = some (.cells #[.slice none 0 0,.slice none 0 0] 27 (0,0))):=⟨by rw [← hq_];exact (by (with_reducible repeat (first|refine zG ?_ _|refine zI ?_|refine zH ?_ _));exact BK451.out)⟩;have n1_:Aside0 (Below w.heap.size w w6):=⟨by rw [← hq_];exact (by repeat (first|(with_reducible first|exact HB.out|apply zD|apply zB|apply zC|refine zF ?_ GE451.out)|exact HB.out))⟩;clear BK451 HB hq_;have BK451:=n0_;have HB:=n1_;clear n0_ n1_)))|((with_reducible refine gate_callee (f:=84) rfl ?_);refine goesL_ (some 9) rfl rfl Try.func84 (by kernel_rfl) rfl #[.slice A0 l0.length c0] rfl (by (try simp only [zJ,zM,zN]);first|done|rfl|(simp only [zL,zK];rfl)) ?_;(with_reducible refine (spec_l4Corners.calls k _ _ l0 t453 _ ?side1 ?side2 A4.out).mono ?_);(case side1=>repeat (first|exact (zW HR0.out HB.out)|(with_reducible exact HR0.out)|apply zC_));(case side2=>exact HC0.out);rintro e w7 ⟨v454,rfl,ho0,hb⟩;refine ⟨_,rfl,?_⟩;have n0_:=zA (ze ho0 (zQ (by repeat (first|(with_reducible first|exact HB.out|apply zD|apply zB|apply zC|refine zF ?_ GE451.out)|exact HB.out))));have n1_:=zA (zX (g:=gb451) (o:=.cells #[.slice none 0 0,.slice none 0 0] 27 (0,0)) (by (with_reducible repeat (first|refine zG ?_ _|refine zI ?_|refine zH ?_ _));exact BK451.out) hb);have n2_:=zA (zR (by repeat (first|(with_reducible first|exact HB.out|apply zD|apply zB|apply zC|refine zF ?_ GE451.out)|exact HB.out)) hb);clear BK451;clear HB;have HO455:=n0_;have BK451:=n1_;have HB:=n2_;clear n0_ n1_ n2_;(try clear hb);(try clear hb2);(try clear hk);(try clear hi);(try clear ho0))|((with_reducible refine gate_callee (f:=87) rfl ?_);refine goesL_ (some 11) rfl rfl Try.func87 (by kernel_rfl) rfl #[.slice A0 l0.length c0] rfl (by (try simp only [zJ,zM,zN]);first|done|rfl|(simp only [zL,zK];rfl)) ?_;(with_reducible refine (spec_l2Copy.calls _ _ l0 t456 _ ?side1 ?side2 A5.out).mono ?_);(case side1=>repeat (first|exact (zW HR0.out HB.out)|(with_reducible exact HR0.out)|apply zC_));(case side2=>exact HC0.out);rintro e w8 ⟨v457,rfl,ho0,hb⟩;refine ⟨_,rfl,?_⟩;have n0_:=zA (Kd.R_elder' (by apply zR_;exact HO455.out) (zd ho0) hb);have n1_:=zA (ze (zh ho0 (Kd.R_lt (by apply zR_;exact HO455.out))) (zQ (by repeat (first|(with_reducible first|exact HB.out|apply zD|apply zB|apply zC|refine zF ?_ GE451.out)|exact HB.out))));have n2_:=zA (zX (g:=gb451) (o:=.cells #[.slice none 0 0,.slice none 0 0] 27 (0,0)) (by (with_reducible repeat (first|refine zG ?_ _|refine zI ?_|refine zH ?_ _));exact BK451.out) hb);have n3_:=zA (zR (by repeat (first|(with_reducible first|exact HB.out|apply zD|apply zB|apply zC|refine zF ?_ GE451.out)|exact HB.out)) hb);clear HO455;clear BK451;clear HB;have HO455:=n0_;have HO458:=n1_;have BK451:=n2_;have HB:=n3_;clear n0_ n1_ n2_ n3_;(try clear hb);(try clear hb2);(try clear hk);(try clear hi);(try clear ho0);obtain ⟨Ao9,co9,eo9⟩:=zg HO458.out;subst eo9;obtain ⟨Ao10,co10,eo10⟩:=zg HO455.out;subst eo10;have hcz11_0:w8.cell? ⟨gb451,0,none⟩ = some (.slice none 0 0):=(zT BK451.out 0).trans rfl;have hcz11_1:w8.cell? ⟨gb451,1,none⟩ = some (.slice none 0 0):=(zT BK451.out 1).trans rfl;have hfz11_0:=zZ BK451.out 0;have hfz11_1:=zZ BK451.out 1))
  refine bodyPost_ret (results_ct rfl _ _ gb451 27 #[.slice Ao10 t453.length co10,.slice Ao9 t456.length co9] (0,0) _ rfl (by (with_reducible repeat (first|refine zG ?_ _|refine zI ?_|refine zH ?_ _));refine blk_put (cs:=#[.slice Ao10 t453.length co10,.slice none 0 0]) ?_ 1 _ rfl;(with_reducible repeat (first|refine zG ?_ _|refine zI ?_|refine zH ?_ _));refine blk_put (cs:=#[.slice none 0 0,.slice none 0 0]) ?_ 0 _ rfl;(with_reducible repeat (first|refine zG ?_ _|refine zI ?_|refine zH ?_ _));exact BK451.out) Try.underlying27 rfl (by kernel_rfl)) rfl ?_
  exact ⟨_,_,by first|rfl|(simp [errW_none,errW_some] <;> rfl)|(simp [*,errW_none,errW_some] <;> rfl),by apply zR_;exact zV (Kd.R_far (p:=⟨gb451,1,none⟩) (Kd.R_far (p:=⟨gb451,0,none⟩) (Kd.R_types HO455.out BK451.out (by decide)) (fun _ hk=>hk.2) (.slice Ao10 t453.length co10)) (fun _ hk=>hk.2) (.slice Ao9 t456.length co9)) (fun _ hk=>hk.1.2),by apply zR_;exact zV (Kd.R_far (p:=⟨gb451,1,none⟩) (Kd.R_far (p:=⟨gb451,0,none⟩) (Kd.R_types HO458.out BK451.out (by decide)) (fun _ hk=>hk.2) (.slice Ao10 t453.length co10)) (fun _ hk=>hk.2) (.slice Ao9 t456.length co9)) (fun _ hk=>hk.1.2),by repeat (first|(with_reducible first|exact HB.out|apply zD|apply zB|apply zC|refine zF ?_ GE451.out)|exact HB.out)⟩
 ·replace c3:=Bool.eq_false_iff.mpr c3
  subst c3
  have H1:(some (([]:List Int),([]:List Int),false)) = some (r1,r2,r3):=by rw [if_neg (show ¬ (false = true) by decide)] at H;exact H
  clear H
  have H:=H1
  clear H1
  simp only [Option.some.injEq,Prod.mk.injEq] at H
  obtain ⟨rfl,rfl,rfl⟩:=H
  go_enter Try.func22,Try.ntmps22
  go_wp2_with (first|((with_reducible refine gate_dst (N:=2) rfl ?_);refine box_event ?hg (N:=2) ?hd (cs:=#[.slice none 0 0,.slice none 0 0]) (t:=27) ?hr ?_;(case hd=>rfl);(case hg=>rfl);(case hr=>first|(go_simp;done)|(go_simp;rfl));intro gb451 hg w12 hbox hb;have n0_:=zA (zR (by exact zB_ HB.out) hb);have n1_:=zA (hbox);have n2_:=zA ((by rw [hg];exact (zQ (by exact zB_ HB.out)):w.heap.size≤gb451));have n3_:=zA ((by rw [hg];exact (zQ (by exact zB_ HB.out)):w.heap.size≤gb451));clear HB;have HB:=n0_;have BK451:=n1_;have GW451:=n2_;have GE451:=n3_;clear n0_ n1_ n2_ n3_;clear hb hbox hg)|((with_reducible refine gate_callee (f:=82) rfl ?_);refine goesL_ (some 5) rfl rfl Try.func82 (by kernel_rfl) rfl #[.slice A0 l0.length c0] rfl (by (try simp only [zJ,zM,zN]);first|done|rfl|(simp only [zL,zK];rfl)) ?_;(with_reducible refine (spec_GluingValid.calls k _ _ l0 false _ ?side1 ?side2 A2.out).mono ?_);(case side1=>repeat (first|exact (zW HR0.out HB.out)|(with_reducible exact HR0.out)|apply zC_));(case side2=>exact HC0.out);rintro e w' ⟨rfl,⟨nd,rfl⟩⟩;refine ⟨_,rfl,?_⟩;(try (rw [drewN_self w12];generalize hq_:World.drewN w12 _ = w12;have n0_:Aside0 (w12.heap[gb451]? = some (.cells #[.slice none 0 0,.slice none 0 0] 27 (0,0))):=⟨by rw [← hq_];exact (by (with_reducible repeat (first|refine zG ?_ _|refine zI ?_|refine zH ?_ _));exact BK451.out)⟩;have n1_:Aside0 (Below w.heap.size w w12):=⟨by rw [← hq_];exact (by repeat (first|(with_reducible first|exact HB.out|apply zD|apply zB|apply zC|refine zF ?_ GE451.out)|exact HB.out))⟩;clear BK451 HB hq_;have BK451:=n0_;have HB:=n1_;clear n0_ n1_));have hcz13_0:w12.cell? ⟨gb451,0,none⟩ = some (.slice none 0 0):=(zT BK451.out 0).trans rfl;have hcz13_1:w12.cell? ⟨gb451,1,none⟩ = some (.slice none 0 0):=(zT BK451.out 1).trans rfl;have hfz13_0:=zZ BK451.out 0;have hfz13_1:=zZ BK451.out 1))
  refine bodyPost_ret (results_ct rfl _ _ gb451 27 #[.slice none 0 0,.slice none 0 0] (0,0) _ rfl (by (with_reducible repeat (first|refine zG ?_ _|refine zI ?_|refine zH ?_ _));refine blk_put (cs:=#[.slice none 0 0,.slice none 0 0]) ?_ 1 _ rfl;(with_reducible repeat (first|refine zG ?_ _|refine zI ?_|refine zH ?_ _));refine blk_put (cs:=#[.slice none 0 0,.slice none 0 0]) ?_ 0 _ rfl;(with_reducible repeat (first|refine zG ?_ _|refine zI ?_|refine zH ?_ _));exact BK451.out) Try.underlying27 rfl (by kernel_rfl)) rfl ?_
  exact ⟨_,_,by first|rfl|(simp [errW_none,errW_some] <;> rfl)|(simp [*,errW_none,errW_some] <;> rfl),by first|exact Kd.R_nil _ _ _ _ _|exact Kd.N_nil _ _ _ _ _|exact Kd.V_nil _ _ _ _ _|exact Kd.Q_nil _ _ _ _ _|exact Kd.S_nil _ _ _ _ _,by first|exact Kd.R_nil _ _ _ _ _|exact Kd.N_nil _ _ _ _ _|exact Kd.V_nil _ _ _ _ _|exact Kd.Q_nil _ _ _ _ _|exact Kd.S_nil _ _ _ _ _,by repeat (first|(with_reducible first|exact HB.out|apply zD|apply zB|apply zC|refine zF ?_ GE451.out)|exact HB.out)⟩

/-- A state of type 84 at block g of W; what its slices lead to came in by w0. -/
def IsS84 (w0 W:World) (g:Nat) (f0:List Int) (f1:Int):Prop := ∃ A0 c0,W.heap[g]? = some (.cells #[.slice A0 f0.length c0,.int .i64 f1] 84 (0,0))∧w0.heap.size≤g∧Kd.C (Kd.int .u8) w0 A0 f0.length f0
theorem IsS84.grown {w0 W:World} {g:Nat} {f0:List Int} {f1:Int} {W1:World} {row:Option Nat} (h:IsS84 w0 W g f0 f1) (hw:W.grownBy W1 row) (hne:some g≠row):IsS84 w0 W1 g f0 f1:=by
 obtain ⟨A0,c0,hb,hg,hr0⟩:=h
 exact ⟨A0,c0,blk_grown hb hw hne,hg,hr0⟩
theorem IsS84.own_neN {w0 W:World} {g:Nat} {f0:List Int} {f1:Int} {α:Type} {d:Kd α} {e:Nat} {base:Nat} {ok:Nat→Prop} {v:Value} {xs:List α} (h:IsS84 w0 W g f0 f1) (ho:Kd.N d e W base ok v xs) (ht:e≠84):some g≠v.ownBlock:=by
 obtain ⟨A0,c0,hb,hg,hr0⟩:=h
 exact Kd.N_ne ho hb ht
theorem IsS84.fresh {w0 W:World} {g:Nat} {f0:List Int} {f1:Int} (h:IsS84 w0 W g f0 f1):∀ k,W.heap.size≤k→k≠g:=by
 obtain ⟨A0,c0,hb,hg,hr0⟩:=h
 exact Kd.freshB hb
theorem IsS84.kept {w0 W:World} {g:Nat} {f0:List Int} {f1:Int} {W1:World} {S:Nat→Prop} (h:IsS84 w0 W g f0 f1) (hk:Kept W W1 S) (hne:¬ S g):IsS84 w0 W1 g f0 f1:=by
 obtain ⟨A0,c0,hb,hg,hr0⟩:=h
 exact ⟨A0,c0,blk_kept hb hk hne,hg,hr0⟩
theorem IsS84.below {w0 W:World} {g:Nat} {f0:List Int} {f1:Int} {W1:World} (h:IsS84 w0 W g f0 f1) (hw:Below W.heap.size W W1):IsS84 w0 W1 g f0 f1:=h.grown (grown_of_below hw none) (by simp)
theorem IsS84.alloc {w0 W:World} {g:Nat} {f0:List Int} {f1:Int} (h:IsS84 w0 W g f0 f1) (o:Obj):IsS84 w0 (W.alloc o) g f0 f1:=h.below (zD (Below.refl _ _) o)
theorem IsS84.drewN {w0 W:World} {g:Nat} {f0:List Int} {f1:Int} (h:IsS84 w0 W g f0 f1) (m:Nat):IsS84 w0 (W.drewN m) g f0 f1:=h
theorem IsS84.drew {w0 W:World} {g:Nat} {f0:List Int} {f1:Int} (h:IsS84 w0 W g f0 f1):IsS84 w0 W.drew g f0 f1:=h
theorem IsS84.at_ {w0 W:World} {g:Nat} {f0:List Int} {f1:Int} {w':World} {m:Nat} (hq:W.drewN m = w') (h:IsS84 w0 W g f0 f1):IsS84 w0 w' g f0 f1:=by subst hq;exact IsS84.drewN h m
theorem IsS84.apart {w0 W:World} {g:Nat} {f0:List Int} {f1:Int} {α:Type} {d:Kd α} {e:Nat} {base:Nat} {ok:Nat→Prop} {v:Value} {xs:List α} (h:IsS84 w0 W g f0 f1) (ho:d.R e W base ok v xs) (ht:∀ q,q ∈ e :: d.E→q≠84):d.R e W base (fun k=>ok k∧k≠g) v xs:=by
 obtain ⟨A0,c0,hb,hg,hr0⟩:=h
 exact Kd.R_types ho hb ht
theorem IsS84.own_ne {w0 W:World} {g:Nat} {f0:List Int} {f1:Int} {α:Type} {d:Kd α} {e:Nat} {base:Nat} {ok:Nat→Prop} {v:Value} {xs:List α} (h:IsS84 w0 W g f0 f1) (ho:d.R e W base ok v xs) (ht:e≠84):some g≠v.ownBlock:=by
 obtain ⟨A0,c0,hb,hg,hr0⟩:=h
 exact Kd.R_ne ho hb ht
theorem IsS84.apartQ {w0 W:World} {g:Nat} {f0:List Int} {f1:Int} {α:Type} {d:Kd α} {e:Nat} {base:Nat} {ok:Nat→Prop} {v:Value} {xs:List α} (h:IsS84 w0 W g f0 f1) (ho:d.Q e W base ok v xs) (ht:∀ q,q ∈ e :: d.E→q≠84):d.Q e W base (fun k=>ok k∧k≠g) v xs:=by
 obtain ⟨A0,c0,hb,hg,hr0⟩:=h
 exact Kd.Q_types ho hb ht
theorem IsS84.own_neQ {w0 W:World} {g:Nat} {f0:List Int} {f1:Int} {α:Type} {d:Kd α} {e:Nat} {base:Nat} {ok:Nat→Prop} {v:Value} {xs:List α} (h:IsS84 w0 W g f0 f1) (ho:d.Q e W base ok v xs) (ht:e≠84):some g≠v.ownBlock:=by
 obtain ⟨A0,c0,hb,hg,hr0⟩:=h
 exact Kd.Q_ne ho hb ht
theorem IsS84.apartS {w0 W:World} {g:Nat} {f0:List Int} {f1:Int} {α:Type} {d:Kd α} {e:Nat} {base:Nat} {ok:Nat→Prop} {v:Value} {xs:List α} (h:IsS84 w0 W g f0 f1) (ho:d.S e W base ok v xs) (ht:∀ q,q ∈ e :: d.E→q≠84):d.S e W base (fun k=>ok k∧k≠g) v xs:=by
 obtain ⟨A0,c0,hb,hg,hr0⟩:=h
 exact Kd.S_types ho hb ht
theorem IsS84.own_neS {w0 W:World} {g:Nat} {f0:List Int} {f1:Int} {α:Type} {d:Kd α} {e:Nat} {base:Nat} {ok:Nat→Prop} {v:Value} {xs:List α} (h:IsS84 w0 W g f0 f1) (ho:d.S e W base ok v xs) (ht:e≠84):some g≠v.ownBlock:=by
 obtain ⟨A0,c0,hb,hg,hr0⟩:=h
 exact Kd.S_ne ho hb ht
theorem IsS84.lt {w0 W:World} {g:Nat} {f0:List Int} {f1:Int} (h:IsS84 w0 W g f0 f1):g < W.heap.size:=by
 obtain ⟨A0,c0,hb,hg,hr0⟩:=h
 exact blk_lt hb
theorem IsS84.ge {w0 W:World} {g:Nat} {f0:List Int} {f1:Int} (h:IsS84 w0 W g f0 f1):w0.heap.size≤g:=by
 obtain ⟨A0,c0,hb,hg,hr0⟩:=h
 exact hg
theorem IsS84.ne_blk {w0 W:World} {g:Nat} {f0:List Int} {f1:Int} {a:Nat} {cs:Array Value} {t:TypeId} {fr:Nat × Nat} (h:IsS84 w0 W g f0 f1) (hb2:W.heap[a]? = some (.cells cs t fr)) (ht:t≠84):g≠a:=by
 obtain ⟨A0,c0,hb,hg,hr0⟩:=h
 rintro rfl
 rw [hb] at hb2
 injection hb2 with hb2
 injection hb2 with _ ht2
 exact ht ht2.symm
theorem IsS84.far {w0 W:World} {g:Nat} {f0:List Int} {f1:Int} {p:Addr} (h:IsS84 w0 W g f0 f1) (hne:g≠p.block) (u:Value):IsS84 w0 (W.setCell p u) g f0 f1:=by
 obtain ⟨A0,c0,hb,hg,hr0⟩:=h
 exact ⟨A0,c0,blk_far hb hne u,hg,hr0⟩
theorem cellS84_0 {W:World} {g:Nat} {A0:Option Addr} {c0:Nat} {f0:List Int} {f1:Int} (h:W.heap[g]? = some (.cells #[.slice A0 f0.length c0,.int .i64 f1] 84 (0,0))):W.cell? ⟨g,0,none⟩ = some (.slice A0 f0.length c0):=(zT h 0).trans rfl
theorem cellS84_1 {W:World} {g:Nat} {A0:Option Addr} {c0:Nat} {f0:List Int} {f1:Int} (h:W.heap[g]? = some (.cells #[.slice A0 f0.length c0,.int .i64 f1] 84 (0,0))):W.cell? ⟨g,1,none⟩ = some (.int .i64 f1):=(zT h 1).trans rfl
theorem IsS84.set_1 {w0 W:World} {g:Nat} {f0:List Int} {f1:Int} (h:IsS84 w0 W g f0 f1) (x:Int):IsS84 w0 (W.setCell ⟨g,1,none⟩ (.int .i64 x)) g f0 x:=by
 obtain ⟨A0,c0,hb,hg,hr0⟩:=h
 exact ⟨A0,c0,by simpa using blk_set hb 1 (.int .i64 x),hg,hr0⟩
theorem IsS84.new (w0 W:World) (A0:Option Addr) (c0:Nat) (f0:List Int) (f1:Int) (hB:Below w0.heap.size w0 W) (hr0:Kd.C (Kd.int .u8) w0 A0 f0.length f0):IsS84 w0 (W.alloc (.cells #[.slice A0 f0.length c0,.int .i64 f1] 84)) W.heap.size f0 f1:=⟨A0,c0,by simpa using heap_alloc_new W _,hB.size,hr0⟩

/-! ### spec_l6Rd_pick: function 90 -/
def spec_l6Rd_pick.j0:Nat→Int→Bool→List Int→Int→Option (Int × Int)
 | 0,_,_,_,_=>none
 | k+1,x1,x24,x1000,x1001=>if x24 = true then (some (0,x1001)) else (if (wrap64 (x1001 - 1)) < (x1000.length:Int) then (if 0≤(wrap64 (x1001 - 1)) then (if x1 = 0 then (none) else (some (Int.tmod (wrap64 (rd x1000 (wrap64 (x1001 - 1)))) x1,x1001))) else (none)) else (if (x1000.length:Int) = 0 then (none) else (if 0≤(Int.tmod (wrap64 (x1001 - 1)) (x1000.length:Int)) then (if (Int.tmod (wrap64 (x1001 - 1)) (x1000.length:Int)) < (x1000.length:Int) then (if 0≤(Int.tmod (wrap64 ((wrap64 ((wrap64 (x1001 - 1)) * 7))+3)) (x1000.length:Int)) then (if (Int.tmod (wrap64 ((wrap64 ((wrap64 (x1001 - 1)) * 7))+3)) (x1000.length:Int)) < (x1000.length:Int) then (if x1 = 0 then (none) else (some (Int.tmod (Go.bits .xor .i64 (wrap64 ((wrap64 ((wrap64 ((wrap64 ((wrap64 (rd x1000 (Int.tmod (wrap64 (x1001 - 1)) (x1000.length:Int)))) * 131))+(wrap64 ((wrap64 (rd x1000 (Int.tmod (wrap64 ((wrap64 ((wrap64 (x1001 - 1)) * 7))+3)) (x1000.length:Int)))) * 1117))))+(wrap64 ((wrap64 (x1001 - 1)) * 29))))+(wrap64 ((wrap64 (Int.tdiv (wrap64 (x1001 - 1)) (x1000.length:Int))) * 53)))) (wrap64 (Int.tdiv (wrap64 ((wrap64 ((wrap64 ((wrap64 ((wrap64 (rd x1000 (Int.tmod (wrap64 (x1001 - 1)) (x1000.length:Int)))) * 131))+(wrap64 ((wrap64 (rd x1000 (Int.tmod (wrap64 ((wrap64 ((wrap64 (x1001 - 1)) * 7))+3)) (x1000.length:Int)))) * 1117))))+(wrap64 ((wrap64 (x1001 - 1)) * 29))))+(wrap64 ((wrap64 (Int.tdiv (wrap64 (x1001 - 1)) (x1000.length:Int))) * 53)))) 64))) x1,x1001))) else (none)) else (none)) else (none)) else (none))))
def spec_l6Rd_pick.f (k:Nat) (s0_0:List Int) (s0_1:Int) (a1:Int):Option (Int × Int):=if a1 < 1 then (spec_l6Rd_pick.j0 k a1 true s0_0 (wrap64 (s0_1+1))) else (spec_l6Rd_pick.j0 k a1 ((s0_0.length:Int) == 0) s0_0 (wrap64 (s0_1+1)))
theorem spec_l6Rd_pick.mono_l:∀ k,(∀ y0 y1 y2 y3,LeO (spec_l6Rd_pick.j0 k y0 y1 y2 y3) (spec_l6Rd_pick.j0 (k+1) y0 y1 y2 y3))
 | 0=>fun _ _ _ _ r h=>by simp [spec_l6Rd_pick.j0] at h
 | k+1=>by
  have ih0:=spec_l6Rd_pick.mono_l k
  ·intro y0 y1 y2 y3
   unfold spec_l6Rd_pick.j0
   repeat' first
   | (with_reducible exact ih0 _ _ _ _)
   | (with_reducible exact LeO.refl _)
   | (with_reducible exact za _)
   | (with_reducible refine zc ?_ ?_)
   | (with_reducible refine zb ?_ (fun _=>?_))
theorem spec_l6Rd_pick.mono:∀ a0 a1 a2 k,LeO (spec_l6Rd_pick.f k a0 a1 a2) (spec_l6Rd_pick.f (k+1) a0 a1 a2):=by
 intro a0 a1 a2 k
 have ih0:=spec_l6Rd_pick.mono_l k
 unfold spec_l6Rd_pick.f
 repeat' first
   | (with_reducible exact ih0 _ _ _ _)
   | (with_reducible exact LeO.refl _)
   | (with_reducible exact za _)
   | (with_reducible refine zc ?_ ?_)
   | (with_reducible refine zb ?_ (fun _=>?_))
set_option maxHeartbeats 8000000 in
set_option maxRecDepth 100000 in
theorem spec_l6Rd_pick.calls (k:Nat) (g:Nat) (s0_0:List Int) (s0_1:Int) (a1:Int) (r1:Int) (r2:Int) (w0 w:World) (hI:IsS84 w0 w g s0_0 s0_1) (hB:Below w0.heap.size w0 w) (h:spec_l6Rd_pick.f k s0_0 s0_1 a1 = some (r1,r2)) :
  Calls Try.prog 90 #[.pointer (some ⟨g,0,none⟩),.int .i64 a1] w fun e w'=>e = .returned (.int .i64 r1)∧IsS84 w0 w' g s0_0 r2∧Below w0.heap.size w0 w'∧KeepBut w w' g none:=by
 have HI0:=zA hI
 have HK:=zA (KeepBut.refl w g none)
 have HL:=zA hB.size
 clear hI
 have HW0:=zA hB.size
 have HB:=zA hB
 clear hB
 have H:(if a1 < 1 then (spec_l6Rd_pick.j0 k a1 true s0_0 (wrap64 (s0_1+1))) else (spec_l6Rd_pick.j0 k a1 ((s0_0.length:Int) == 0) s0_0 (wrap64 (s0_1+1)))) = some (r1,r2):=h
 clear h
 have HC3:=zA H
 clear H
 obtain ⟨ASz4_0,cSz4_0,HGz4,hgz4,HSz4_0⟩:=HI0.out
 have hcz4_0:=cellS84_0 HGz4
 have hcz4_1:=cellS84_1 HGz4
 have hfz4_1:=zZ HGz4 1
 clear HGz4 hgz4
 go_enter Try.func90,Try.ntmps90
 go_upto_region 2 with (fail)
 repeat (go_quiet (fail);go_upto_region 2 with (fail))
 go_cut [24] (fun v24 wc => ∃ (kq:Nat) (x24_2:Bool),v24 = .bool x24_2∧Aside0 (spec_l6Rd_pick.j0 kq a1 x24_2 s0_0 (wrap64 (s0_1+1)) = some (r1,r2))∧Aside0 (kq≤k)∧Aside0 (IsS84 w0 wc g s0_0 (wrap64 (s0_1+1)))∧Aside0 (KeepBut w wc g none)∧Aside0 (Below w0.heap.size w0 wc))
 case first =>
  have H:=HC3.out
  clear HC3
  by_cases c5:a1 < 1
  ·rw [if_pos c5] at H
   have c5b0:decide (a1 < 1) = true:=zO c5
   clear c5
   (first|rw [c5b0]|(simp only [i64_w,i32_w];rw [c5b0])|skip)
   have H':=zA H
   clear H
   go_wp2
   repeat (go_quiet (fail);try go_wp2)
   go_meet
   case rel=>exact ⟨_,(true),(by first|rfl|(simp;done)|(simp [*];done)),H',⟨by first|omega|exact Nat.le_refl _⟩,⟨by repeat (first|(with_reducible first|exact HI0.out|apply IsS84.alloc|apply IsS84.drewN|apply IsS84.drew|apply IsS84.set_1)|exact HI0.out)⟩,⟨by repeat (first|(with_reducible first|exact HK.out|apply KeepBut.set_|apply keep_drewN|apply keep_drew|apply keep_alloc)|exact HK.out)⟩,⟨by repeat (first|(with_reducible first|exact HB.out|apply zD|apply zB|apply zC|refine zF ?_ (IsS84.ge HI0.out))|exact HB.out)⟩⟩
  ·rw [if_neg c5] at H
   have c5b0:decide (a1 < 1) = false:=zP c5
   clear c5
   (first|rw [c5b0]|(simp only [i64_w,i32_w];rw [c5b0])|skip)
   have H':=zA H
   clear H
   obtain ⟨ASz6_0,cSz6_0,HGz6,hgz6,HSz6_0⟩:=HI0.out
   have hcz6_0:=cellS84_0 HGz6
   have hcz6_1:=cellS84_1 HGz6
   have hfz6_1:=zZ HGz6 1
   clear HGz6 hgz6
   go_wp2
   repeat (go_quiet (fail);try go_wp2)
   go_meet
   case rel=>exact ⟨_,(((s0_0.length:Int) == 0)),(by first|rfl|(simp;done)|(simp [*];done)),H',⟨by first|omega|exact Nat.le_refl _⟩,⟨by repeat (first|(with_reducible first|exact HI0.out|apply IsS84.alloc|apply IsS84.drewN|apply IsS84.drew|apply IsS84.set_1)|exact HI0.out)⟩,⟨by repeat (first|(with_reducible first|exact HK.out|apply KeepBut.set_|apply keep_drewN|apply keep_drew|apply keep_alloc)|exact HK.out)⟩,⟨by repeat (first|(with_reducible first|exact HB.out|apply zD|apply zB|apply zC|refine zF ?_ (IsS84.ge HI0.out))|exact HB.out)⟩⟩
 case rest =>
  clear HC3
  (try clear p2);(try clear c5);(try clear c5b0);(try clear p6);(try clear hcz4_0);(try clear hcz4_1);(try clear hcz6_0);(try clear hcz6_1);(try clear hfz4_1);(try clear hfz6_1)
  obtain ⟨kq,x24_2,rfl,HA,HJ2,HI0,HK,HB⟩:=hcut
  cases kq with
  | zero=>exact absurd HA.out (by simp [spec_l6Rd_pick.j0])
  | succ kj2 =>
   have H:=HA.out
   clear HA
   simp only [spec_l6Rd_pick.j0] at H
   by_cases c7:x24_2 = true
   ·subst c7
    rw [if_pos rfl] at H;try dsimp only at H
    simp only [Option.some.injEq,Prod.mk.injEq] at H
    obtain ⟨rfl,rfl⟩:=H
    go_wp2
    repeat (go_quiet (fail);try go_wp2)
    go_ret
    exact ⟨by first|rfl|(simp [errW_none,errW_some] <;> rfl)|(simp [*,errW_none,errW_some] <;> rfl),by repeat (first|(with_reducible first|exact HI0.out|apply IsS84.alloc|apply IsS84.drewN|apply IsS84.drew|apply IsS84.set_1)|exact HI0.out),by repeat (first|(with_reducible first|exact HB.out|apply zD|apply zB|apply zC|refine zF ?_ (IsS84.ge HI0.out))|exact HB.out),by repeat (first|(with_reducible first|exact HK.out|apply KeepBut.set_|apply keep_drewN|apply keep_drew|apply keep_alloc)|exact HK.out)⟩
   ·replace c7:=Bool.eq_false_iff.mpr c7
    subst c7
    have H1:(if (wrap64 ((wrap64 (s0_1+1)) - 1)) < (s0_0.length:Int) then (if 0≤(wrap64 ((wrap64 (s0_1+1)) - 1)) then (if a1 = 0 then (none) else (some (Int.tmod (wrap64 (rd s0_0 (wrap64 ((wrap64 (s0_1+1)) - 1)))) a1,(wrap64 (s0_1+1))))) else (none)) else (if (s0_0.length:Int) = 0 then (none) else (if 0≤(Int.tmod (wrap64 ((wrap64 (s0_1+1)) - 1)) (s0_0.length:Int)) then (if (Int.tmod (wrap64 ((wrap64 (s0_1+1)) - 1)) (s0_0.length:Int)) < (s0_0.length:Int) then (if 0≤(Int.tmod (wrap64 ((wrap64 ((wrap64 ((wrap64 (s0_1+1)) - 1)) * 7))+3)) (s0_0.length:Int)) then (if (Int.tmod (wrap64 ((wrap64 ((wrap64 ((wrap64 (s0_1+1)) - 1)) * 7))+3)) (s0_0.length:Int)) < (s0_0.length:Int) then (if a1 = 0 then (none) else (some (Int.tmod (Go.bits .xor .i64 (wrap64 ((wrap64 ((wrap64 ((wrap64 ((wrap64 (rd s0_0 (Int.tmod (wrap64 ((wrap64 (s0_1+1)) - 1)) (s0_0.length:Int)))) * 131))+(wrap64 ((wrap64 (rd s0_0 (Int.tmod (wrap64 ((wrap64 ((wrap64 ((wrap64 (s0_1+1)) - 1)) * 7))+3)) (s0_0.length:Int)))) * 1117))))+(wrap64 ((wrap64 ((wrap64 (s0_1+1)) - 1)) * 29))))+(wrap64 ((wrap64 (Int.tdiv (wrap64 ((wrap64 (s0_1+1)) - 1)) (s0_0.length:Int))) * 53)))) (wrap64 (Int.tdiv (wrap64 ((wrap64 ((wrap64 ((wrap64 ((wrap64 (rd s0_0 (Int.tmod (wrap64 ((wrap64 (s0_1+1)) - 1)) (s0_0.length:Int)))) * 131))+(wrap64 ((wrap64 (rd s0_0 (Int.tmod (wrap64 ((wrap64 ((wrap64 ((wrap64 (s0_1+1)) - 1)) * 7))+3)) (s0_0.length:Int)))) * 1117))))+(wrap64 ((wrap64 ((wrap64 (s0_1+1)) - 1)) * 29))))+(wrap64 ((wrap64 (Int.tdiv (wrap64 ((wrap64 (s0_1+1)) - 1)) (s0_0.length:Int))) * 53)))) 64))) a1,(wrap64 (s0_1+1))))) else (none)) else (none)) else (none)) else (none)))) = some (r1,r2):=by rw [if_neg (show ¬ (false = true) by decide)] at H;exact H
    clear H
    have H:=H1
    clear H1
    by_cases c8:(wrap64 ((wrap64 (s0_1+1)) - 1)) < (s0_0.length:Int)
    ·rw [if_pos c8] at H
     have c8b0:decide ((wrap64 ((wrap64 (s0_1+1)) - 1)) < (s0_0.length:Int)) = true:=zO c8
     clear c8
     obtain ⟨ji9,hji9⟩:∃ j_:Int,(wrap64 ((wrap64 (s0_1+1)) - 1)) = j_:=⟨_,rfl⟩
     replace H:(if 0≤(ji9) then (if a1 = 0 then (none) else (some (Int.tmod (wrap64 (rd s0_0 (ji9))) a1,(wrap64 (s0_1+1))))) else (none)) = some (r1,r2):=by first|(rw [hji9] at H;exact H)|(simp only [hji9] at H ⊢;exact H)
     (try rw [hji9] at c8b0)
     have hji9w:(IntKind.i64.wrap ((wrap64 (s0_1+1)) - 1)) = ji9:=(i64_w _).trans hji9
     by_cases c10:0≤(ji9)
     ·rw [if_pos c10] at H
      have c10b0:decide (0≤(ji9)) = true:=zO c10
      clear c10
      by_cases c11:a1 = 0
      ·rw [if_pos c11] at H
       exact absurd H (by simp)
      ·rw [if_neg c11] at H
       have c11b0:(a1 == 0) = false:=beq_eq_false_iff_ne.mpr c11
       have c11b1:(a1 != 0) = true:=bne_iff_ne.mpr c11
       simp only [Option.some.injEq,Prod.mk.injEq] at H
       obtain ⟨rfl,rfl⟩:=H
       obtain ⟨ASz12_0,cSz12_0,HGz12,hgz12,HSz12_0⟩:=HI0.out
       have hcz12_0:=cellS84_0 HGz12
       have hcz12_1:=cellS84_1 HGz12
       have hfz12_1:=zZ HGz12 1
       clear HGz12 hgz12
       have p459:0≤((ji9):Int):=zE (by with_reducible assumption)
       have q459:(ji9) < (s0_0.length:Int):=zE (by with_reducible assumption)
       obtain ⟨ad459,e459,hx459_0⟩:=Kd.at_int HSz12_0 (ji9) p459 q459
       cases e459
       replace hx459_0:=pw_cell_below HB.out hx459_0
       replace p459:=eq_true p459
       replace q459:=eq_true q459
       go_wp2
       repeat (go_quiet (fail);try go_wp2)
       go_ret
       exact ⟨by first|rfl|(simp [errW_none,errW_some] <;> rfl)|(simp only [← hji9];first|rfl|(simp [errW_none,errW_some] <;> rfl))|(simp [*,errW_none,errW_some] <;> rfl),by repeat (first|(with_reducible first|exact HI0.out|apply IsS84.alloc|apply IsS84.drewN|apply IsS84.drew|apply IsS84.set_1)|exact HI0.out),by repeat (first|(with_reducible first|exact HB.out|apply zD|apply zB|apply zC|refine zF ?_ (IsS84.ge HI0.out))|exact HB.out),by repeat (first|(with_reducible first|exact HK.out|apply KeepBut.set_|apply keep_drewN|apply keep_drew|apply keep_alloc)|exact HK.out)⟩
     ·rw [if_neg c10] at H
      exact absurd H (by simp)
    ·rw [if_neg c8] at H
     have c8b0:decide ((wrap64 ((wrap64 (s0_1+1)) - 1)) < (s0_0.length:Int)) = false:=zP c8
     clear c8
     by_cases c13:(s0_0.length:Int) = 0
     ·rw [if_pos c13] at H
      exact absurd H (by simp)
     ·rw [if_neg c13] at H
      have c13b0:((s0_0.length:Int) == 0) = false:=beq_eq_false_iff_ne.mpr c13
      have c13b1:((s0_0.length:Int) != 0) = true:=bne_iff_ne.mpr c13
      have c13b2:¬ (s0_0 = []):=fun h_=>c13 (by rw [h_];rfl)
      obtain ⟨ji14,hji14⟩:∃ j_:Int,(Int.tmod (wrap64 ((wrap64 (s0_1+1)) - 1)) (s0_0.length:Int)) = j_:=⟨_,rfl⟩
      replace H:(if 0≤(ji14) then (if (ji14) < (s0_0.length:Int) then (if 0≤(Int.tmod (wrap64 ((wrap64 ((wrap64 ((wrap64 (s0_1+1)) - 1)) * 7))+3)) (s0_0.length:Int)) then (if (Int.tmod (wrap64 ((wrap64 ((wrap64 ((wrap64 (s0_1+1)) - 1)) * 7))+3)) (s0_0.length:Int)) < (s0_0.length:Int) then (if a1 = 0 then (none) else (some (Int.tmod (Go.bits .xor .i64 (wrap64 ((wrap64 ((wrap64 ((wrap64 ((wrap64 (rd s0_0 (ji14))) * 131))+(wrap64 ((wrap64 (rd s0_0 (Int.tmod (wrap64 ((wrap64 ((wrap64 ((wrap64 (s0_1+1)) - 1)) * 7))+3)) (s0_0.length:Int)))) * 1117))))+(wrap64 ((wrap64 ((wrap64 (s0_1+1)) - 1)) * 29))))+(wrap64 ((wrap64 (Int.tdiv (wrap64 ((wrap64 (s0_1+1)) - 1)) (s0_0.length:Int))) * 53)))) (wrap64 (Int.tdiv (wrap64 ((wrap64 ((wrap64 ((wrap64 ((wrap64 (rd s0_0 (ji14))) * 131))+(wrap64 ((wrap64 (rd s0_0 (Int.tmod (wrap64 ((wrap64 ((wrap64 ((wrap64 (s0_1+1)) - 1)) * 7))+3)) (s0_0.length:Int)))) * 1117))))+(wrap64 ((wrap64 ((wrap64 (s0_1+1)) - 1)) * 29))))+(wrap64 ((wrap64 (Int.tdiv (wrap64 ((wrap64 (s0_1+1)) - 1)) (s0_0.length:Int))) * 53)))) 64))) a1,(wrap64 (s0_1+1))))) else (none)) else (none)) else (none)) else (none)) = some (r1,r2):=by first|(rw [hji14] at H;exact H)|(simp only [hji14] at H ⊢;exact H)
      by_cases c15:0≤(ji14)
      ·rw [if_pos c15] at H
       have c15b0:decide (0≤(ji14)) = true:=zO c15
       clear c15
       by_cases c16:(ji14) < (s0_0.length:Int)
       ·rw [if_pos c16] at H
        have c16b0:decide ((ji14) < (s0_0.length:Int)) = true:=zO c16
        clear c16
        obtain ⟨ji17,hji17⟩:∃ j_:Int,(Int.tmod (wrap64 ((wrap64 ((wrap64 ((wrap64 (s0_1+1)) - 1)) * 7))+3)) (s0_0.length:Int)) = j_:=⟨_,rfl⟩
        replace H:(if 0≤(ji17) then (if (ji17) < (s0_0.length:Int) then (if a1 = 0 then (none) else (some (Int.tmod (Go.bits .xor .i64 (wrap64 ((wrap64 ((wrap64 ((wrap64 ((wrap64 (rd s0_0 (ji14))) * 131))+(wrap64 ((wrap64 (rd s0_0 (ji17))) * 1117))))+(wrap64 ((wrap64 ((wrap64 (s0_1+1)) - 1)) * 29))))+(wrap64 ((wrap64 (Int.tdiv (wrap64 ((wrap64 (s0_1+1)) - 1)) (s0_0.length:Int))) * 53)))) (wrap64 (Int.tdiv (wrap64 ((wrap64 ((wrap64 ((wrap64 ((wrap64 (rd s0_0 (ji14))) * 131))+(wrap64 ((wrap64 (rd s0_0 (ji17))) * 1117))))+(wrap64 ((wrap64 ((wrap64 (s0_1+1)) - 1)) * 29))))+(wrap64 ((wrap64 (Int.tdiv (wrap64 ((wrap64 (s0_1+1)) - 1)) (s0_0.length:Int))) * 53)))) 64))) a1,(wrap64 (s0_1+1))))) else (none)) else (none)) = some (r1,r2):=by first|(rw [hji17] at H;exact H)|(simp only [hji17] at H ⊢;exact H)
        by_cases c18:0≤(ji17)
        ·rw [if_pos c18] at H
         have c18b0:decide (0≤(ji17)) = true:=zO c18
         clear c18
         by_cases c19:(ji17) < (s0_0.length:Int)
         ·rw [if_pos c19] at H
          have c19b0:decide ((ji17) < (s0_0.length:Int)) = true:=zO c19
          clear c19
          by_cases c20:a1 = 0
          ·rw [if_pos c20] at H
           exact absurd H (by simp)
          ·rw [if_neg c20] at H
           have c20b0:(a1 == 0) = false:=beq_eq_false_iff_ne.mpr c20
           have c20b1:(a1 != 0) = true:=bne_iff_ne.mpr c20
           simp only [Option.some.injEq,Prod.mk.injEq] at H
           obtain ⟨rfl,rfl⟩:=H
           obtain ⟨ASz21_0,cSz21_0,HGz21,hgz21,HSz21_0⟩:=HI0.out
           have hcz21_0:=cellS84_0 HGz21
           have hcz21_1:=cellS84_1 HGz21
           have hfz21_1:=zZ HGz21 1
           clear HGz21 hgz21
           have p460:0≤((ji14):Int):=zE (by with_reducible assumption)
           have q460:(ji14) < (s0_0.length:Int):=zE (by with_reducible assumption)
           obtain ⟨ad460,e460,hx460_0⟩:=Kd.at_int HSz21_0 (ji14) p460 q460
           cases e460
           replace hx460_0:=pw_cell_below HB.out hx460_0
           replace p460:=eq_true p460
           replace q460:=eq_true q460
           have p461:0≤((ji17):Int):=zE (by with_reducible assumption)
           have q461:(ji17) < (s0_0.length:Int):=zE (by with_reducible assumption)
           obtain ⟨ad461,e461,hx461_0⟩:=Kd.at_int HSz21_0 (ji17) p461 q461
           obtain rfl:ad460 = ad461:=(by injection e461)
           replace hx461_0:=pw_cell_below HB.out hx461_0
           replace p461:=eq_true p461
           replace q461:=eq_true q461
           go_wp2
           repeat (go_quiet (fail);try go_wp2)
           go_ret
           exact ⟨by first|rfl|(simp [errW_none,errW_some] <;> rfl)|(simp only [← hji14, ← hji17];first|rfl|(simp [errW_none,errW_some] <;> rfl))|(simp [*,errW_none,errW_some] <;> rfl),by repeat (first|(with_reducible first|exact HI0.out|apply IsS84.alloc|apply IsS84.drewN|apply IsS84.drew|apply IsS84.set_1)|exact HI0.out),by repeat (first|(with_reducible first|exact HB.out|apply zD|apply zB|apply zC|refine zF ?_ (IsS84.ge HI0.out))|exact HB.out),by repeat (first|(with_reducible first|exact HK.out|apply KeepBut.set_|apply keep_drewN|apply keep_drew|apply keep_alloc)|exact HK.out)⟩
         ·rw [if_neg c19] at H
          exact absurd H (by simp)
        ·rw [if_neg c18] at H
         exact absurd H (by simp)
       ·rw [if_neg c16] at H
        exact absurd H (by simp)
      ·rw [if_neg c15] at H
       exact absurd H (by simp)

/-! ### spec_l91Perm: function 91 -/
def spec_l91Perm.l0:Nat→Int→List Int→Int→List Int→Int→Option (List Int × Int)
 | 0,_,_,_,_,_=>none
 | k+1,x1,x5,x6,x1000,x1001=>if x6 < x1 then ((spec_l6Rd_pick.f k x1000 x1001 (wrap64 (x6+1))).bind fun bt465=>(if bt465.1 = x6 then (if x5.length < 17592186044416 then (spec_l91Perm.l0 k x1 (x5 ++ [x6]) (wrap64 (x6+1)) x1000 bt465.2) else (none)) else (if 0≤bt465.1 then (if bt465.1 < (x5.length:Int) then (if x5.length < 17592186044416 then ((some (x5 ++ [rd x5 bt465.1]:List Int)).bind fun y471=>(if bt465.1 < (y471.length:Int) then (spec_l91Perm.l0 k x1 (y471.set (bt465.1:Int).toNat x6) (wrap64 (x6+1)) x1000 bt465.2) else (none))) else (none)) else (none)) else (none)))) else (some (x5,x1001))
def spec_l91Perm.f (k:Nat) (s0_0:List Int) (s0_1:Int) (a1:Int):Option (List Int × Int):=spec_l91Perm.l0 k a1 (([]:List Int)) 0 s0_0 s0_1
theorem spec_l91Perm.mono_l:∀ k,(∀ y0 y1 y2 y3 y4,LeO (spec_l91Perm.l0 k y0 y1 y2 y3 y4) (spec_l91Perm.l0 (k+1) y0 y1 y2 y3 y4))
 | 0=>fun _ _ _ _ _ r h=>by simp [spec_l91Perm.l0] at h
 | k+1=>by
  have ih0:=spec_l91Perm.mono_l k
  ·intro y0 y1 y2 y3 y4
   unfold spec_l91Perm.l0
   repeat' first
   | (with_reducible exact ih0 _ _ _ _ _)
   | (with_reducible exact spec_l6Rd_pick.mono _ _ _ _)
   | (with_reducible exact LeO.refl _)
   | (with_reducible exact za _)
   | (with_reducible refine zc ?_ ?_)
   | (with_reducible refine zb ?_ (fun _=>?_))
theorem spec_l91Perm.mono:∀ a0 a1 a2 k,LeO (spec_l91Perm.f k a0 a1 a2) (spec_l91Perm.f (k+1) a0 a1 a2):=by
 intro a0 a1 a2 k
 have ih0:=spec_l91Perm.mono_l k
 unfold spec_l91Perm.f
 repeat' first
   | (with_reducible exact ih0 _ _ _ _ _)
   | (with_reducible exact spec_l6Rd_pick.mono _ _ _ _)
   | (with_reducible exact LeO.refl _)
   | (with_reducible exact za _)
   | (with_reducible refine zc ?_ ?_)
   | (with_reducible refine zb ?_ (fun _=>?_))
set_option maxHeartbeats 8000000 in
set_option maxRecDepth 100000 in
theorem spec_l91Perm.calls (k:Nat) (g:Nat) (s0_0:List Int) (s0_1:Int) (a1:Int) (r1:List Int) (r2:Int) (w0 w:World) (hI:IsS84 w0 w g s0_0 s0_1) (hB:Below w0.heap.size w0 w) (h:spec_l91Perm.f k s0_0 s0_1 a1 = some (r1,r2)) :
  Calls Try.prog 91 #[.pointer (some ⟨g,0,none⟩),.int .i64 a1] w fun e w' => ∃ v0_:Value,e = .returned (v0_)∧Kd.R (Kd.int .i64) 3 w' w.heap.size (fun _=>True) v0_ r1∧IsS84 w0 w' g s0_0 r2∧Below w0.heap.size w0 w'∧KeepBut w w' g none:=by
 have HI0:=zA hI
 have HK:=zA (KeepBut.refl w g none)
 have HL:=zA hB.size
 clear hI
 have HW0:=zA hB.size
 have HB:=zA hB
 clear hB
 have H:(spec_l91Perm.l0 k a1 (([]:List Int)) 0 s0_0 s0_1) = some (r1,r2):=h
 clear h
 obtain ⟨y462,hy462⟩:∃ y_:List Int,y_ = (([]:List Int)):=⟨_,rfl⟩
 replace H:(spec_l91Perm.l0 k a1 y462 0 s0_0 s0_1) = some (r1,r2):=by (try rw [hy462]);first|with_reducible exact H|with_reducible exact zS_ H|exact H
 have Ny462:=zA hy462
 clear hy462
 have H':=zA H
 clear H
 go_enter Try.func91,Try.ntmps91
 go_wp2_with (first|((with_reducible refine gate_dst (N:=8) rfl ?_);refine Kd.R_lit (Kd.int .i64) _ 3 ?hg (N:=8) ?hd (xs:=([]:List Int)) (inner:=[]) (ok:=fun _=>True) (okp:=fun _=>True) ?hr ?hp (fun _ hk=>hk) trivial (Below.refl _ _) (Nat.le_refl _) (by simp) ?_;(case hd=>rfl);(case hg=>rfl);(case hr=>first|(go_simp;done)|(go_simp;rfl));(case hp=>exact (Reps.none _ _));intro v463 w3 ho4 hb hg_ hnew_;clear hg_ hnew_;(first|rw [← Ny462.out] at ho4|(simp only [Int.reduceToNat] at ho4;rw [← Ny462.out] at ho4));have n0_:=zA (ze ho4 (keep_size (w:=w) (g:=g) (row:=none) (by repeat (first|(with_reducible first|exact HK.out|apply KeepBut.set_|apply keep_drewN|apply keep_drew|apply keep_alloc)|exact HK.out))));have n1_:=zA (IsS84.below (by repeat (first|(with_reducible first|exact HI0.out|apply IsS84.alloc|apply IsS84.drewN|apply IsS84.drew|apply IsS84.set_1)|exact HI0.out)) hb);have n2_:=zA (KeepBut.trans (by repeat (first|(with_reducible first|exact HK.out|apply KeepBut.set_|apply keep_drewN|apply keep_drew|apply keep_alloc)|exact HK.out)) (KeepBut.of_below hb g none) (.inl rfl));have n3_:=zA (zR (by repeat (first|(with_reducible first|exact HB.out|apply zD|apply zB|apply zC|refine zF ?_ (IsS84.ge HI0.out))|exact HB.out)) hb);clear HI0;clear HK;clear HB;have HO464:=n0_;have HI0:=n1_;have HK:=n2_;have HB:=n3_;clear n0_ n1_ n2_ n3_;clear hb ho4))
 go_loopg [5,6] k (fun kq v5 v6 w' => ∃ (x5_1:List Int) (x6_1:Int) (x1001_1:Int),v6 = .int .i64 x6_1∧Aside0 (spec_l91Perm.l0 kq a1 x5_1 x6_1 s0_0 x1001_1 = some (r1,r2))∧Aside0 (kq≤k)∧Aside0 (Kd.R (Kd.int .i64) 3 w' w.heap.size (fun _=>True) v5 x5_1)∧Aside0 (IsS84 w0 w' g s0_0 x1001_1)∧Aside0 (KeepBut w w' g none)∧Aside0 (Below w0.heap.size w0 w'))
 case atStart=>exact ⟨(y462),(0),(s0_1),(by first|rfl|(simp;done)|(simp [*];done)),H',⟨Nat.le_refl _⟩,⟨by apply zR_;exact HO464.out⟩,⟨by repeat (first|(with_reducible first|exact HI0.out|apply IsS84.alloc|apply IsS84.drewN|apply IsS84.drew|apply IsS84.set_1)|exact HI0.out)⟩,⟨by repeat (first|(with_reducible first|exact HK.out|apply KeepBut.set_|apply keep_drewN|apply keep_drew|apply keep_alloc)|exact HK.out)⟩,⟨by repeat (first|(with_reducible first|exact HB.out|apply zD|apply zB|apply zC|refine zF ?_ (IsS84.ge HI0.out))|exact HB.out)⟩⟩
 case round =>
  clear H'
  (try clear p2)
  obtain ⟨x5_1,x6_1,x1001_1,rfl,HA,HK1,HO_5,HI0,HK,HB⟩:=hrel
  cases gk with
  | zero=>exact absurd HA.out (by simp [spec_l91Perm.l0])
  | succ k1 =>
   have H:=HA.out
   clear HA
   simp only [spec_l91Perm.l0] at H
   by_cases c5:x6_1 < a1
   ·rw [if_pos c5] at H
    have c5b0:decide (x6_1 < a1) = true:=zO c5
    clear c5
    replace H:=zz0 H
    obtain ⟨⟨t465,t466⟩,A60,H⟩:=H
    try dsimp only at H
    have A6:=zA A60
    clear A60
    by_cases c7:t465 = x6_1
    ·rw [if_pos c7] at H
     have c7b0:(t465 == x6_1) = true:=beq_iff_eq.mpr c7
     have c7b1:(t465 != x6_1) = false:=bne_eq_false_iff_eq.mpr c7
     clear c7
     by_cases c8:x5_1.length < 17592186044416
     ·rw [if_pos c8] at H
      have LMc8:=zA c8
      clear c8
      obtain ⟨y467,hy467⟩:∃ y_:List Int,y_ = (x5_1 ++ [x6_1]):=⟨_,rfl⟩
      replace H:(spec_l91Perm.l0 k1 a1 y467 (wrap64 (x6_1+1)) s0_0 t466) = some (r1,r2):=by (try rw [hy467]);first|with_reducible exact H|with_reducible exact zS_ H|exact H
      have Ny467:=zA hy467
      clear hy467
      have H':=zA H
      clear H
      go_wp2_with (first|((with_reducible refine gate_callee (f:=90) rfl ?_);refine goesL_ (some 17) rfl rfl Try.func90 (by kernel_rfl) rfl #[.pointer (some ⟨g,0,none⟩),.int .i64 (wrap64 (x6_1+1))] rfl (by (try simp only [zJ,zM,zN]);first|done|rfl|(simp only [zL,zK];rfl)) ?_;(with_reducible refine (spec_l6Rd_pick.calls k1 g s0_0 x1001_1 (wrap64 (x6_1+1)) t465 t466 w0 _ ?side1 ?side2 A6.out).mono ?_);(case side1=>repeat (first|(with_reducible first|exact HI0.out|apply IsS84.alloc|apply IsS84.drewN|apply IsS84.drew|apply IsS84.set_1)|exact HI0.out));(case side2=>repeat (first|(with_reducible first|exact HB.out|apply zD|apply zB|apply zC|refine zF ?_ (IsS84.ge HI0.out))|exact HB.out));rintro e w9 ⟨rfl,hi,hb,hk⟩;refine ⟨_,rfl,?_⟩;have n0_:=zA (zV (Kd.R_keep (IsS84.apart (show IsS84 w0 _ g s0_0 x1001_1 from by repeat (first|(with_reducible first|exact HI0.out|apply IsS84.alloc|apply IsS84.drewN|apply IsS84.drew|apply IsS84.set_1)|exact HI0.out)) (by apply zR_;exact HO_5.out) (by decide)) hk (fun _ h=>h.2)) (fun _ h=>h.1));have n1_:=zA (KeepBut.trans (by repeat (first|(with_reducible first|exact HK.out|apply KeepBut.set_|apply keep_drewN|apply keep_drew|apply keep_alloc)|exact HK.out)) hk (.inl rfl));have n2_:=zA (hb);have n3_:=zA (hi);clear HO_5;clear HK;clear HB;clear HI0;have HO_5:=n0_;have HK:=n1_;have HB:=n2_;have HI0:=n3_;clear n0_ n1_ n2_ n3_;(try clear hb);(try clear hb2);(try clear hk);(try clear hi))|((with_reducible refine gate_builtin (b:=.append) (xs:=#[.tmp 21,.tmp 23]) rfl ?_);at_builtin;refine Kd.R_append (Kd.int .i64) w.heap.size rfl (.tmp 21) (.tmp 23) 23 3 (.int .i64 0) 8 rfl Try.underlying23 info3 rfl (by decide) (by omega) u5 x5_1 x6_1 [.int .i64 x6_1] (fun _=>True) (fun _=>False) rfl rfl ?aP (fun _ hk=>hk.elim) ?aF ?aO (Below.refl _ _) ?aS ?aL ?_;(case aP=>exact rfl);(case aF=>exact (fun _ _=>trivial));(case aO=>exact (by apply zR_;exact HO_5.out));(case aS=>exact (keep_size (w:=w) (g:=g) (row:=none) (by repeat (first|(with_reducible first|exact HK.out|apply KeepBut.set_|apply keep_drewN|apply keep_drew|apply keep_alloc)|exact HK.out))));(case aL=>have:=LMc8.out;omega);intro v468 w10 ho hb hg hat;rw [← Ny467.out] at ho;have n0_:=zA (IsS84.grown (by repeat (first|(with_reducible first|exact HI0.out|apply IsS84.alloc|apply IsS84.drewN|apply IsS84.drew|apply IsS84.set_1)|exact HI0.out)) hg (IsS84.own_ne HI0.out HO_5.out (by decide)));have n1_:=zA (below_weaken (by repeat (first|(with_reducible first|exact HB.out|apply zD|apply zB|apply zC|refine zF ?_ (IsS84.ge HI0.out))|exact HB.out)) HL.out hb);have n2_:=zA (KeepBut.trans (by repeat (first|(with_reducible first|exact HK.out|apply KeepBut.set_|apply keep_drewN|apply keep_drew|apply keep_alloc)|exact HK.out)) (KeepBut.of_grown hg g) (Kd.R_base2 HO_5.out));have n3_:=zA (ho);clear HI0;clear HB;clear HK;clear HO_5;have HI0:=n0_;have HB:=n1_;have HK:=n2_;have HO469:=n3_;clear n0_ n1_ n2_ n3_;clear ho hb hg hat))
      go_roundg k1
      case measure=>have:=HK1.out;omega
      case rel=>exact ⟨(y467),(wrap64 (x6_1+1)),(t466),(by first|rfl|(simp;done)|(simp [*];done)),H',⟨by have:=HK1.out;omega⟩,⟨by apply zR_;exact HO469.out⟩,⟨by repeat (first|(with_reducible first|exact HI0.out|apply IsS84.alloc|apply IsS84.drewN|apply IsS84.drew|apply IsS84.set_1)|exact HI0.out)⟩,⟨by repeat (first|(with_reducible first|exact HK.out|apply KeepBut.set_|apply keep_drewN|apply keep_drew|apply keep_alloc)|exact HK.out)⟩,⟨by repeat (first|(with_reducible first|exact HB.out|apply zD|apply zB|apply zC|refine zF ?_ (IsS84.ge HI0.out))|exact HB.out)⟩⟩
     ·rw [if_neg c8] at H
      exact absurd H (by simp)
    ·rw [if_neg c7] at H
     have c7b0:(t465 == x6_1) = false:=beq_eq_false_iff_ne.mpr c7
     have c7b1:(t465 != x6_1) = true:=bne_iff_ne.mpr c7
     by_cases c11:0≤t465
     ·rw [if_pos c11] at H
      have c11b0:decide (0≤t465) = true:=zO c11
      clear c11
      by_cases c12:t465 < (x5_1.length:Int)
      ·rw [if_pos c12] at H
       have c12b0:decide (t465 < (x5_1.length:Int)) = true:=zO c12
       clear c12
       by_cases c13:x5_1.length < 17592186044416
       ·rw [if_pos c13] at H
        have LMc13:=zA c13
        clear c13
        obtain ⟨y471,hy471⟩:∃ y_:List Int,y_ = (x5_1 ++ [rd x5_1 t465]):=⟨_,rfl⟩
        replace H:(if t465 < (y471.length:Int) then (spec_l91Perm.l0 k1 a1 (y471.set (t465:Int).toNat x6_1) (wrap64 (x6_1+1)) s0_0 t466) else (none)) = some (r1,r2):=by (try rw [hy471]);first|with_reducible exact H|with_reducible exact zS_ H|exact H
        have Ny471:=zA hy471
        clear hy471
        by_cases c14:t465 < (y471.length:Int)
        ·rw [if_pos c14] at H
         have c14b0:decide (t465 < (y471.length:Int)) = true:=zO c14
         clear c14
         obtain ⟨y474,hy474⟩:∃ y_:List Int,y_ = (y471.set (t465:Int).toNat x6_1):=⟨_,rfl⟩
         replace H:(spec_l91Perm.l0 k1 a1 y474 (wrap64 (x6_1+1)) s0_0 t466) = some (r1,r2):=by (try rw [hy474]);first|with_reducible exact H|with_reducible exact zS_ H|exact H
         have Ny474:=zA hy474
         clear hy474
         have H':=zA H
         clear H
         go_wp2_with (first|((with_reducible refine gate_callee (f:=90) rfl ?_);refine goesL_ (some 17) rfl rfl Try.func90 (by kernel_rfl) rfl #[.pointer (some ⟨g,0,none⟩),.int .i64 (wrap64 (x6_1+1))] rfl (by (try simp only [zJ,zM,zN]);first|done|rfl|(simp only [zL,zK];rfl)) ?_;(with_reducible refine (spec_l6Rd_pick.calls k1 g s0_0 x1001_1 (wrap64 (x6_1+1)) t465 t466 w0 _ ?side1 ?side2 A6.out).mono ?_);(case side1=>repeat (first|(with_reducible first|exact HI0.out|apply IsS84.alloc|apply IsS84.drewN|apply IsS84.drew|apply IsS84.set_1)|exact HI0.out));(case side2=>repeat (first|(with_reducible first|exact HB.out|apply zD|apply zB|apply zC|refine zF ?_ (IsS84.ge HI0.out))|exact HB.out));rintro e w16 ⟨rfl,hi,hb,hk⟩;refine ⟨_,rfl,?_⟩;have n0_:=zA (zV (Kd.R_keep (IsS84.apart (show IsS84 w0 _ g s0_0 x1001_1 from by repeat (first|(with_reducible first|exact HI0.out|apply IsS84.alloc|apply IsS84.drewN|apply IsS84.drew|apply IsS84.set_1)|exact HI0.out)) (by apply zR_;exact HO_5.out) (by decide)) hk (fun _ h=>h.2)) (fun _ h=>h.1));have n1_:=zA (KeepBut.trans (by repeat (first|(with_reducible first|exact HK.out|apply KeepBut.set_|apply keep_drewN|apply keep_drew|apply keep_alloc)|exact HK.out)) hk (.inl rfl));have n2_:=zA (hb);have n3_:=zA (hi);clear HO_5;clear HK;clear HB;clear HI0;have HO_5:=n0_;have HK:=n1_;have HB:=n2_;have HI0:=n3_;clear n0_ n1_ n2_ n3_;(try clear hb);(try clear hb2);(try clear hk);(try clear hi);obtain ⟨Ao17,co17,eo17⟩:=zg HO_5.out;subst eo17;have p470:0≤(t465:Int):=zE (by with_reducible assumption);have q470:t465 < (x5_1.length:Int):=zE (by with_reducible assumption);obtain ⟨ad470,e470,hx470_0⟩:=Kd.at_int (zU HO_5.out).2.2 t465 p470 q470;cases e470;replace p470:=eq_true p470;replace q470:=eq_true q470)|((with_reducible refine gate_builtin (b:=.append) (xs:=#[.tmp 25,.tmp 30]) rfl ?_);at_builtin;refine Kd.R_append (Kd.int .i64) w.heap.size rfl (.tmp 25) (.tmp 30) 23 3 (.int .i64 0) 8 rfl Try.underlying23 info3 rfl (by decide) (by omega) (.slice (some ad470) x5_1.length co17) x5_1 (rd x5_1 t465) [.int .i64 (rd x5_1 t465)] (fun _=>True) (fun _=>False) rfl rfl ?aP (fun _ hk=>hk.elim) ?aF ?aO (Below.refl _ _) ?aS ?aL ?_;(case aP=>exact rfl);(case aF=>exact (fun _ _=>trivial));(case aO=>exact (by apply zR_;exact HO_5.out));(case aS=>exact (keep_size (w:=w) (g:=g) (row:=none) (by repeat (first|(with_reducible first|exact HK.out|apply KeepBut.set_|apply keep_drewN|apply keep_drew|apply keep_alloc)|exact HK.out))));(case aL=>have:=LMc13.out;omega);intro v472 w18 ho hb hg hat;rw [← Ny471.out] at ho;have n0_:=zA (IsS84.grown (by repeat (first|(with_reducible first|exact HI0.out|apply IsS84.alloc|apply IsS84.drewN|apply IsS84.drew|apply IsS84.set_1)|exact HI0.out)) hg (IsS84.own_ne HI0.out HO_5.out (by decide)));have n1_:=zA (below_weaken (by repeat (first|(with_reducible first|exact HB.out|apply zD|apply zB|apply zC|refine zF ?_ (IsS84.ge HI0.out))|exact HB.out)) HL.out hb);have n2_:=zA (KeepBut.trans (by repeat (first|(with_reducible first|exact HK.out|apply KeepBut.set_|apply keep_drewN|apply keep_drew|apply keep_alloc)|exact HK.out)) (KeepBut.of_grown hg g) (Kd.R_base2 HO_5.out));have n3_:=zA (ho);clear HI0;clear HB;clear HK;clear HO_5;have HI0:=n0_;have HB:=n1_;have HK:=n2_;have HO473:=n3_;clear n0_ n1_ n2_ n3_;clear ho hb hg hat;have p15:0≤(t465:Int):=zE (by with_reducible assumption);have q15:(t465:Int) < ((y471.length:Int):Int):=zE (by with_reducible assumption);obtain ⟨go15,co15,eo15,gb15,gl15,cl15,HG15⟩:=Kd.R_form HO473.out (by omega);(first|cases eo15|(injection eo15 with ea_ en_ ec_;(first|subst ea_|(injection ea_ with ea_;subst ea_));subst ec_;clear en_));have GB15:=zA gb15;have GG15:=zA HG15;clear gb15 gl15 HG15;obtain ⟨hx15_0,hf15_0⟩:=Kd.R_celln 0 HO473.out (t465:Int) p15 q15;replace p15:=eq_true p15;replace q15:=eq_true q15;obtain ⟨hy19_,hz19_⟩:=Kd.R_celln 0 HO473.out (t465:Int) (zE (by with_reducible assumption)) (zE (by with_reducible assumption));have HP19:=Kd.R_putg HO473.out (t465:Int) x6_1)|((with_reducible refine gate_store (t:=3) (p:=35) rfl ?_);refine store_event (t:=3) (p:=35) (v:=?vo_w20) (w1:=(w18.setCell ⟨go15,(t465:Int).toNat,none⟩ (.int .i64 x6_1))) ?hg ?ho ?hn ?hr ?_;(case ho=>rfl);(case hg=>rfl);(case hn=>rfl);(case hr=>first|(go_simp;done)|(go_simp;rfl));intro w20 hw;have hg:w18.grownBy w20 (some go15):=(by rw [hw];exact HP19.2);have hp_:Kd.R (Kd.int .i64) 3 w20 w.heap.size (fun _=>True) (.slice (some ⟨go15,0,none⟩) y471.length co15) y474:=(by rw [hw,Ny474.out];exact HP19.1);clear HP19;have n0_:=zA (IsS84.grown (by repeat (first|(with_reducible first|exact HI0.out|apply IsS84.alloc|apply IsS84.drewN|apply IsS84.drew|apply IsS84.set_1)|exact HI0.out)) hg (IsS84.own_ne HI0.out HO473.out (by decide)));have n1_:=zA (hp_);have n2_:=zA ((by rw [hw];exact zF (HB.out) (Nat.le_trans HL.out GB15.out):Below w0.heap.size w0 w20));have n3_:=zA (KeepBut.trans (by repeat (first|(with_reducible first|exact HK.out|apply KeepBut.set_|apply keep_drewN|apply keep_drew|apply keep_alloc)|exact HK.out)) (KeepBut.of_grown hg g) (Kd.R_base2 HO473.out));clear HI0;clear HO473;clear HB;clear HK;have HI0:=n0_;have HO473:=n1_;have HB:=n2_;have HK:=n3_;clear n0_ n1_ n2_ n3_;clear hg hw hp_))
         go_roundg k1
         case measure=>have:=HK1.out;omega
         case rel=>exact ⟨(y474),(wrap64 (x6_1+1)),(t466),(by first|rfl|(simp;done)|(simp [*];done)),H',⟨by have:=HK1.out;omega⟩,⟨by apply zR_;exact HO473.out⟩,⟨by repeat (first|(with_reducible first|exact HI0.out|apply IsS84.alloc|apply IsS84.drewN|apply IsS84.drew|apply IsS84.set_1)|exact HI0.out)⟩,⟨by repeat (first|(with_reducible first|exact HK.out|apply KeepBut.set_|apply keep_drewN|apply keep_drew|apply keep_alloc)|exact HK.out)⟩,⟨by repeat (first|(with_reducible first|exact HB.out|apply zD|apply zB|apply zC|refine zF ?_ (IsS84.ge HI0.out))|exact HB.out)⟩⟩
        ·rw [if_neg c14] at H
         exact absurd H (by simp)
       ·rw [if_neg c13] at H
        exact absurd H (by simp)
      ·rw [if_neg c12] at H
       exact absurd H (by simp)
     ·rw [if_neg c11] at H
      exact absurd H (by simp)
   ·rw [if_neg c5] at H
    have c5b0:decide (x6_1 < a1) = false:=zP c5
    clear c5
    simp only [Option.some.injEq,Prod.mk.injEq] at H
    obtain ⟨rfl,rfl⟩:=H
    go_wp2
    go_ret
    exact ⟨_,by first|rfl|(simp [errW_none,errW_some] <;> rfl)|(simp [*,errW_none,errW_some] <;> rfl),by apply zR_;exact HO_5.out,by repeat (first|(with_reducible first|exact HI0.out|apply IsS84.alloc|apply IsS84.drewN|apply IsS84.drew|apply IsS84.set_1)|exact HI0.out),by repeat (first|(with_reducible first|exact HB.out|apply zD|apply zB|apply zC|refine zF ?_ (IsS84.ge HI0.out))|exact HB.out),by repeat (first|(with_reducible first|exact HK.out|apply KeepBut.set_|apply keep_drewN|apply keep_drew|apply keep_alloc)|exact HK.out)⟩

end Go.Proofs.Ytonlecigglbohaa.Q
