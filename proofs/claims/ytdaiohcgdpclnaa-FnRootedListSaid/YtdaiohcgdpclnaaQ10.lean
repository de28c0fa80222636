import Derived.Test.YtdaiohcgdpclnaaQ0
import Derived.Test.YtdaiohcgdpclnaaQ1
import Derived.Test.YtdaiohcgdpclnaaQ11
import Derived.Test.YtdaiohcgdpclnaaQ2
import Derived.Test.YtdaiohcgdpclnaaQ3
import Derived.Test.YtdaiohcgdpclnaaQ4
import Derived.Test.YtdaiohcgdpclnaaQ9
import Derived.Test.YtdaiohcgdpclnaaZ
import Derived.Lib.Hide
import Derived.WalkSpells
namespace Go.Proofs.Ytdaiohcgdpclnaa.Q
open Go.RowKit Go.Proofs.YtdaiohcgdpclnaaW.PrintWords Go.Proofs.YtdaiohcgdpclnaaW.PrintLast Go.Proofs.YtdaiohcgdpclnaaW.PrintMore
attribute [local go_sem] max2_int min2_int max_two min_two max_three min_three max_four min_four   -- for this text's walks alone
set_option linter.unusedVariables false
set_option linter.unusedSimpArgs false

/-! ### impl_MapForm: function 21 -/
def impl_MapForm.j0:Nat→Int→Bool→List Int→List Int→Option (List Int × List Int × Bool)
 | 0,_,_,_,_=>none
 | k+1,x1,x19,x550000,x550001=>if x19 = true then (some (([]:List Int),([]:List Int),false)) else ((impl_namesFrom.f k x550000 x550001 x1).bind fun t552=>((impl_renamed.f k x550000 x550001 t552).bind fun bt555=>(some (bt555.1,bt555.2,true))))
def impl_MapForm.f (k:Nat) (l0_0:List Int) (l0_1:List Int) (a1:Int):Option (List Int × List Int × Bool):=(impl_MapValid.f k l0_0 l0_1).bind fun t551=>(if t551 = true then (if a1 < 0 then (impl_MapForm.j0 k a1 true l0_0 l0_1) else (impl_MapForm.j0 k a1 (decide (a1 ≥ (l0_0.length:Int))) l0_0 l0_1)) else (impl_MapForm.j0 k a1 true l0_0 l0_1))
theorem impl_MapForm.mono_l:∀ k,(∀ y0 y1 y2 y3,LeO (impl_MapForm.j0 k y0 y1 y2 y3) (impl_MapForm.j0 (k+1) y0 y1 y2 y3))
 | 0=>fun _ _ _ _ r h=>by simp [impl_MapForm.j0] at h
 | k+1=>by
  have ih0:=impl_MapForm.mono_l k
  ·intro y0 y1 y2 y3
   unfold impl_MapForm.j0
   repeat' first
   | (with_reducible exact ih0 _ _ _ _)
   | (with_reducible exact impl_MapValid.mono _ _ _)
   | (with_reducible exact impl_namesFrom.mono _ _ _ _)
   | (with_reducible exact impl_renamed.mono _ _ _ _)
   | (with_reducible exact LeO.refl _)
   | (with_reducible exact za _)
   | (with_reducible refine zc ?_ ?_)
   | (with_reducible refine zb ?_ (fun _=>?_))
theorem impl_MapForm.mono:∀ a0 a1 a2 k,LeO (impl_MapForm.f k a0 a1 a2) (impl_MapForm.f (k+1) a0 a1 a2):=by
 intro a0 a1 a2 k
 have ih0:=impl_MapForm.mono_l k
 unfold impl_MapForm.f
 repeat' first
   | (with_reducible exact ih0 _ _ _ _)
   | (with_reducible exact impl_MapValid.mono _ _ _)
   | (with_reducible exact impl_namesFrom.mono _ _ _ _)
   | (with_reducible exact impl_renamed.mono _ _ _ _)
   | (with_reducible exact LeO.refl _)
   | (with_reducible exact za _)
   | (with_reducible refine zc ?_ ?_)
   | (with_reducible refine zb ?_ (fun _=>?_))
set_option maxHeartbeats 8000000 in
set_option maxRecDepth 100000 in
theorem impl_MapForm.calls (k:Nat) (A0_0:Option Addr) (c0_0:Nat) (l0_0:List Int) (A0_1:Option Addr) (c0_1:Nat) (l0_1:List Int) (a1:Int) (r1:List Int) (r2:List Int) (r3:Bool) (w:World) (hr0_0:Kd.C (Kd.int .i64) w A0_0 l0_0.length l0_0) (hc0_0:l0_0.length≤c0_0) (hr0_1:Kd.C (Kd.int .i64) w A0_1 l0_1.length l0_1) (hc0_1:l0_1.length≤c0_1) (h:impl_MapForm.f k l0_0 l0_1 a1 = some (r1,r2,r3)) :
  Calls Try.prog 21 #[.agg #[.slice A0_0 l0_0.length c0_0,.slice A0_1 l0_1.length c0_1],.int .i64 a1] w fun e w' => ∃ v0_ v1_:Value,e = .returned (.tuple #[.agg #[v0_,v1_],.bool r3])∧Kd.R (Kd.int .i64) 3 w' w.heap.size (fun k_=>some k_≠(v1_:Value).ownBlock) v0_ r1∧Kd.R (Kd.int .i64) 3 w' w.heap.size (fun k_=>some k_≠(v0_:Value).ownBlock) v1_ r2∧Below w.heap.size w w':=by
 have hu33:=Try.underlying33
 have HR0_0:=zA hr0_0
 have HC0_0:=zA hc0_0
 clear hr0_0 hc0_0
 have HR0_1:=zA hr0_1
 have HC0_1:=zA hc0_1
 clear hr0_1 hc0_1
 have HB:=zA (Below.refl w.heap.size w)
 have H:((impl_MapValid.f k l0_0 l0_1).bind fun t551=>(if t551 = true then (if a1 < 0 then (impl_MapForm.j0 k a1 true l0_0 l0_1) else (impl_MapForm.j0 k a1 (decide (a1 ≥ (l0_0.length:Int))) l0_0 l0_1)) else (impl_MapForm.j0 k a1 true l0_0 l0_1))) = some (r1,r2,r3):=h
 clear h
 have HC3:=zA H
 clear H
 go_enter Try.func21,Try.ntmps21
 go_upto_region 1 with (first|((with_reducible refine gate_dst (N:=2) rfl ?_);(try (refine gate_guard (by rfl) ?_;dsimp only));refine box_event ?hg (N:=2) ?hd (cs:=#[.slice A0_0 l0_0.length c0_0,.slice A0_1 l0_1.length c0_1]) (t:=33) ?hr ?_;(case hd=>rfl);(case hg=>rfl);(case hr=>first|(go_simp;done)|(go_simp;rfl));intro gb549 hg w4 hbox hb;have n0_:=zA (zR (by exact zB_ HB.out) hb);have n1_:=zA (hbox);have n2_:=zA ((by rw [hg];exact (zQ (by exact zB_ HB.out)):w.heap.size≤gb549));have n3_:=zA ((by rw [hg];exact (zQ (by exact zB_ HB.out)):w.heap.size≤gb549));clear HB;have HB:=n0_;have BK549:=n1_;have GW549:=n2_;have GE549:=n3_;clear n0_ n1_ n2_ n3_;clear hb hbox hg)|((with_reducible refine gate_dst (N:=4) rfl ?_);(try (refine gate_guard (by rfl) ?_;dsimp only));refine box_event ?hg (N:=4) ?hd (cs:=#[.slice none 0 0,.slice none 0 0]) (t:=33) ?hr ?_;(case hd=>rfl);(case hg=>rfl);(case hr=>first|(go_simp;done)|(go_simp;rfl));intro gb550 hg w5 hbox hb;have n0_:=zA (zX (g:=gb549) (o:=.cells #[.slice A0_0 l0_0.length c0_0,.slice A0_1 l0_1.length c0_1] 33 (0,0)) (by (with_reducible repeat (first|refine zG ?_ _|refine zI ?_|refine zH ?_ _));exact BK549.out) hb);have n1_:=zA (zR (by repeat (first|(with_reducible first|exact HB.out|apply zD|apply zB|apply zC|refine zF ?_ GE549.out)|exact HB.out)) hb);have n2_:=zA (hbox);have n3_:=zA ((by rw [hg];exact (zQ (by repeat (first|(with_reducible first|exact HB.out|apply zD|apply zB|apply zC|refine zF ?_ GE549.out)|exact HB.out))):w.heap.size≤gb550));have n4_:=zA ((by rw [hg];exact (zQ (by repeat (first|(with_reducible first|exact HB.out|apply zD|apply zB|apply zC|refine zF ?_ GE549.out)|exact HB.out))):w.heap.size≤gb550));have n5_:=zA ((by rw [hg];exact Nat.ne_of_lt (blk_lt (g:=gb549) (o:=.cells #[.slice A0_0 l0_0.length c0_0,.slice A0_1 l0_1.length c0_1] 33 (0,0)) (by (with_reducible repeat (first|refine zG ?_ _|refine zI ?_|refine zH ?_ _));exact BK549.out)):gb549≠gb550));have n6_:=zA ((by rw [hg];exact Nat.ne_of_gt (blk_lt (g:=gb549) (o:=.cells #[.slice A0_0 l0_0.length c0_0,.slice A0_1 l0_1.length c0_1] 33 (0,0)) (by (with_reducible repeat (first|refine zG ?_ _|refine zI ?_|refine zH ?_ _));exact BK549.out)):gb550≠gb549));clear BK549;clear HB;have BK549:=n0_;have HB:=n1_;have BK550:=n2_;have GW550:=n3_;have GE550:=n4_;have NB549_550:=n5_;have NB550_549:=n6_;clear n0_ n1_ n2_ n3_ n4_ n5_ n6_;clear hb hbox hg))
 (try simp only [Act.put,zP_])
 go_cut [19] (fun v19 wc => ∃ (kq:Nat) (x19_2:Bool),v19 = .bool x19_2∧Aside0 (impl_MapForm.j0 kq a1 x19_2 l0_0 l0_1 = some (r1,r2,r3))∧Aside0 (kq≤k)∧Aside0 (wc.heap[gb549]? = some (.cells #[(.slice A0_0 l0_0.length c0_0),(.slice A0_1 l0_1.length c0_1)] 33 (0,0)))∧Aside0 (wc.heap[gb550]? = some (.cells #[(.slice none 0 0),(.slice none 0 0)] 33 (0,0)))∧Aside0 (Below w.heap.size w wc))
 case first =>
  have H:=HC3.out
  clear HC3
  replace H:=zz0 H
  obtain ⟨t551,A60,H⟩:=H
  try dsimp only at H
  have A6:=zA A60
  clear A60
  by_cases c7:t551 = true
  ·subst c7
   rw [if_pos rfl] at H;try dsimp only at H
   by_cases c8:a1 < 0
   ·rw [if_pos c8] at H
    have c8b0:decide (a1 < 0) = true:=zO c8
    clear c8
    (first|rw [c8b0]|(simp only [i64_w,i32_w];rw [c8b0])|skip)
    have H':=zA H
    clear H
    have hnb9:=NB549_550.out
    have hnc9:=NB550_549.out
    have hcz10_0:w5.cell? ⟨gb549,0,none⟩ = some (.slice A0_0 l0_0.length c0_0):=(zT BK549.out 0).trans rfl
    have hcz10_1:w5.cell? ⟨gb549,1,none⟩ = some (.slice A0_1 l0_1.length c0_1):=(zT BK549.out 1).trans rfl
    have hfz10_0:=zZ BK549.out 0
    have hfz10_1:=zZ BK549.out 1
    go_wp2_with (first|((with_reducible refine gate_callee (f:=46) rfl ?_);refine goesL_ (some 7) rfl rfl Try.func46 (by kernel_rfl) rfl #[.agg #[.slice A0_0 l0_0.length c0_0,.slice A0_1 l0_1.length c0_1]] rfl (by (try simp only [zJ,zM,zN]);first|done|rfl|(simp only [zL,zK];rfl)) ?_;(with_reducible refine (impl_MapValid.calls k (fun k_=>k_ < w.heap.size) _ _ l0_0 (fun k_=>k_ < w.heap.size) _ _ l0_1 true _ ?side1 ?side2 A6.out).mono ?_);(case side1=>exact Kd.V_mk HC0_0.out (Kd.F_below (Kd.C_F (Kd.heap_int .i64) HR0_0.out) (by repeat (first|(with_reducible first|exact HB.out|apply zD|apply zB|apply zC|refine zF ?_ GE549.out|refine zF ?_ GE550.out)|exact HB.out))));(case side2=>exact Kd.V_mk HC0_1.out (Kd.F_below (Kd.C_F (Kd.heap_int .i64) HR0_1.out) (by repeat (first|(with_reducible first|exact HB.out|apply zD|apply zB|apply zC|refine zF ?_ GE549.out|refine zF ?_ GE550.out)|exact HB.out))));rintro e w11 ⟨rfl,hb⟩;refine ⟨_,rfl,?_⟩;have n0_:=zA (zX (g:=gb549) (o:=.cells #[.slice A0_0 l0_0.length c0_0,.slice A0_1 l0_1.length c0_1] 33 (0,0)) (by (with_reducible repeat (first|refine zG ?_ _|refine zI ?_|refine zH ?_ _));exact BK549.out) hb);have n1_:=zA (zX (g:=gb550) (o:=.cells #[.slice none 0 0,.slice none 0 0] 33 (0,0)) (by (with_reducible repeat (first|refine zG ?_ _|refine zI ?_|refine zH ?_ _));exact BK550.out) hb);have n2_:=zA (zR (by repeat (first|(with_reducible first|exact HB.out|apply zD|apply zB|apply zC|refine zF ?_ GE549.out|refine zF ?_ GE550.out)|exact HB.out)) hb);clear BK549;clear BK550;clear HB;have BK549:=n0_;have BK550:=n1_;have HB:=n2_;clear n0_ n1_ n2_;(try clear hb);(try clear hb2);(try clear hk);(try clear hi)))
    go_meet
    case rel=>exact ⟨_,(true),(by first|rfl|(simp;done)|(simp [*];done)),H',⟨by first|omega|exact Nat.le_refl _⟩,⟨by (with_reducible repeat (first|refine zG ?_ _|refine zI ?_|refine zH ?_ _));exact BK549.out⟩,⟨by (with_reducible repeat (first|refine zG ?_ _|refine zI ?_|refine zH ?_ _));exact BK550.out⟩,⟨by repeat (first|(with_reducible first|exact HB.out|apply zD|apply zB|apply zC|refine zF ?_ GE549.out|refine zF ?_ GE550.out)|exact HB.out)⟩⟩
   ·rw [if_neg c8] at H
    have c8b0:decide (a1 < 0) = false:=zP c8
    clear c8
    (first|rw [c8b0]|(simp only [i64_w,i32_w];rw [c8b0])|skip)
    have H':=zA H
    clear H
    have hnb12:=NB549_550.out
    have hnc12:=NB550_549.out
    have hcz13_0:w5.cell? ⟨gb549,0,none⟩ = some (.slice A0_0 l0_0.length c0_0):=(zT BK549.out 0).trans rfl
    have hcz13_1:w5.cell? ⟨gb549,1,none⟩ = some (.slice A0_1 l0_1.length c0_1):=(zT BK549.out 1).trans rfl
    have hfz13_0:=zZ BK549.out 0
    have hfz13_1:=zZ BK549.out 1
    go_wp2_with (first|((with_reducible refine gate_callee (f:=46) rfl ?_);refine goesL_ (some 7) rfl rfl Try.func46 (by kernel_rfl) rfl #[.agg #[.slice A0_0 l0_0.length c0_0,.slice A0_1 l0_1.length c0_1]] rfl (by (try simp only [zJ,zM,zN]);first|done|rfl|(simp only [zL,zK];rfl)) ?_;(with_reducible refine (impl_MapValid.calls k (fun k_=>k_ < w.heap.size) _ _ l0_0 (fun k_=>k_ < w.heap.size) _ _ l0_1 true _ ?side1 ?side2 A6.out).mono ?_);(case side1=>exact Kd.V_mk HC0_0.out (Kd.F_below (Kd.C_F (Kd.heap_int .i64) HR0_0.out) (by repeat (first|(with_reducible first|exact HB.out|apply zD|apply zB|apply zC|refine zF ?_ GE549.out|refine zF ?_ GE550.out)|exact HB.out))));(case side2=>exact Kd.V_mk HC0_1.out (Kd.F_below (Kd.C_F (Kd.heap_int .i64) HR0_1.out) (by repeat (first|(with_reducible first|exact HB.out|apply zD|apply zB|apply zC|refine zF ?_ GE549.out|refine zF ?_ GE550.out)|exact HB.out))));rintro e w14 ⟨rfl,hb⟩;refine ⟨_,rfl,?_⟩;have n0_:=zA (zX (g:=gb549) (o:=.cells #[.slice A0_0 l0_0.length c0_0,.slice A0_1 l0_1.length c0_1] 33 (0,0)) (by (with_reducible repeat (first|refine zG ?_ _|refine zI ?_|refine zH ?_ _));exact BK549.out) hb);have n1_:=zA (zX (g:=gb550) (o:=.cells #[.slice none 0 0,.slice none 0 0] 33 (0,0)) (by (with_reducible repeat (first|refine zG ?_ _|refine zI ?_|refine zH ?_ _));exact BK550.out) hb);have n2_:=zA (zR (by repeat (first|(with_reducible first|exact HB.out|apply zD|apply zB|apply zC|refine zF ?_ GE549.out|refine zF ?_ GE550.out)|exact HB.out)) hb);clear BK549;clear BK550;clear HB;have BK549:=n0_;have BK550:=n1_;have HB:=n2_;clear n0_ n1_ n2_;(try clear hb);(try clear hb2);(try clear hk);(try clear hi);have hcz15_0:w14.cell? ⟨gb549,0,none⟩ = some (.slice A0_0 l0_0.length c0_0):=(zT BK549.out 0).trans rfl;have hcz15_1:w14.cell? ⟨gb549,1,none⟩ = some (.slice A0_1 l0_1.length c0_1):=(zT BK549.out 1).trans rfl;have hfz15_0:=zZ BK549.out 0;have hfz15_1:=zZ BK549.out 1))
    go_meet
    case rel=>exact ⟨_,(decide (a1 ≥ (l0_0.length:Int))),(by first|rfl|(simp;done)|(simp [*];done)),H',⟨by first|omega|exact Nat.le_refl _⟩,⟨by (with_reducible repeat (first|refine zG ?_ _|refine zI ?_|refine zH ?_ _));exact BK549.out⟩,⟨by (with_reducible repeat (first|refine zG ?_ _|refine zI ?_|refine zH ?_ _));exact BK550.out⟩,⟨by repeat (first|(with_reducible first|exact HB.out|apply zD|apply zB|apply zC|refine zF ?_ GE549.out|refine zF ?_ GE550.out)|exact HB.out)⟩⟩
  ·replace c7:=Bool.eq_false_iff.mpr c7
   subst c7
   have H1:(impl_MapForm.j0 k a1 true l0_0 l0_1) = some (r1,r2,r3):=by rw [if_neg (show ¬ (false = true) by decide)] at H;exact H
   clear H
   have H:=H1
   clear H1
   have H':=zA H
   clear H
   have hnb16:=NB549_550.out
   have hnc16:=NB550_549.out
   have hcz17_0:w5.cell? ⟨gb549,0,none⟩ = some (.slice A0_0 l0_0.length c0_0):=(zT BK549.out 0).trans rfl
   have hcz17_1:w5.cell? ⟨gb549,1,none⟩ = some (.slice A0_1 l0_1.length c0_1):=(zT BK549.out 1).trans rfl
   have hfz17_0:=zZ BK549.out 0
   have hfz17_1:=zZ BK549.out 1
   go_wp2_with (first|((with_reducible refine gate_callee (f:=46) rfl ?_);refine goesL_ (some 7) rfl rfl Try.func46 (by kernel_rfl) rfl #[.agg #[.slice A0_0 l0_0.length c0_0,.slice A0_1 l0_1.length c0_1]] rfl (by (try simp only [zJ,zM,zN]);first|done|rfl|(simp only [zL,zK];rfl)) ?_;(with_reducible refine (impl_MapValid.calls k (fun k_=>k_ < w.heap.size) _ _ l0_0 (fun k_=>k_ < w.heap.size) _ _ l0_1 false _ ?side1 ?side2 A6.out).mono ?_);(case side1=>exact Kd.V_mk HC0_0.out (Kd.F_below (Kd.C_F (Kd.heap_int .i64) HR0_0.out) (by repeat (first|(with_reducible first|exact HB.out|apply zD|apply zB|apply zC|refine zF ?_ GE549.out|refine zF ?_ GE550.out)|exact HB.out))));(case side2=>exact Kd.V_mk HC0_1.out (Kd.F_below (Kd.C_F (Kd.heap_int .i64) HR0_1.out) (by repeat (first|(with_reducible first|exact HB.out|apply zD|apply zB|apply zC|refine zF ?_ GE549.out|refine zF ?_ GE550.out)|exact HB.out))));rintro e w18 ⟨rfl,hb⟩;refine ⟨_,rfl,?_⟩;have n0_:=zA (zX (g:=gb549) (o:=.cells #[.slice A0_0 l0_0.length c0_0,.slice A0_1 l0_1.length c0_1] 33 (0,0)) (by (with_reducible repeat (first|refine zG ?_ _|refine zI ?_|refine zH ?_ _));exact BK549.out) hb);have n1_:=zA (zX (g:=gb550) (o:=.cells #[.slice none 0 0,.slice none 0 0] 33 (0,0)) (by (with_reducible repeat (first|refine zG ?_ _|refine zI ?_|refine zH ?_ _));exact BK550.out) hb);have n2_:=zA (zR (by repeat (first|(with_reducible first|exact HB.out|apply zD|apply zB|apply zC|refine zF ?_ GE549.out|refine zF ?_ GE550.out)|exact HB.out)) hb);clear BK549;clear BK550;clear HB;have BK549:=n0_;have BK550:=n1_;have HB:=n2_;clear n0_ n1_ n2_;(try clear hb);(try clear hb2);(try clear hk);(try clear hi)))
   go_meet
   case rel=>exact ⟨_,(true),(by first|rfl|(simp;done)|(simp [*];done)),H',⟨by first|omega|exact Nat.le_refl _⟩,⟨by (with_reducible repeat (first|refine zG ?_ _|refine zI ?_|refine zH ?_ _));exact BK549.out⟩,⟨by (with_reducible repeat (first|refine zG ?_ _|refine zI ?_|refine zH ?_ _));exact BK550.out⟩,⟨by repeat (first|(with_reducible first|exact HB.out|apply zD|apply zB|apply zC|refine zF ?_ GE549.out|refine zF ?_ GE550.out)|exact HB.out)⟩⟩
 case rest =>
  clear HC3
  (try clear c1);(try clear c2);(try clear p2);(try clear c4);(try clear c7);(try clear c8);(try clear c8b0);(try clear c9);(try clear c12);(try clear c16);(try clear hcz10_0);(try clear hcz10_1);(try clear hcz13_0);(try clear hcz13_1);(try clear hcz15_0);(try clear hcz15_1);(try clear hcz17_0);(try clear hcz17_1);(try clear hfz10_0);(try clear hfz10_1);(try clear hfz13_0);(try clear hfz13_1);(try clear hfz15_0);(try clear hfz15_1);(try clear hfz17_0);(try clear hfz17_1)
  obtain ⟨kq,x19_2,rfl,HA,HJ2,BK549,BK550,HB⟩:=hcut
  cases kq with
  | zero=>exact absurd HA.out (by simp [impl_MapForm.j0])
  | succ kj2 =>
   have H:=HA.out
   clear HA
   simp only [impl_MapForm.j0] at H
   by_cases c19:x19_2 = true
   ·subst c19
    rw [if_pos rfl] at H;try dsimp only at H
    simp only [Option.some.injEq,Prod.mk.injEq] at H
    obtain ⟨rfl,rfl,rfl⟩:=H
    have hnb20:=NB550_549.out
    have hnc20:=NB549_550.out
    have hcz21_0:wc.cell? ⟨gb550,0,none⟩ = some (.slice none 0 0):=(zT BK550.out 0).trans rfl
    have hcz21_1:wc.cell? ⟨gb550,1,none⟩ = some (.slice none 0 0):=(zT BK550.out 1).trans rfl
    have hfz21_0:=zZ BK550.out 0
    have hfz21_1:=zZ BK550.out 1
    go_wp2
    refine bodyPost_ret (results_ct rfl _ _ gb550 33 #[.slice none 0 0,.slice none 0 0] (0,0) _ rfl (by (with_reducible repeat (first|refine zG ?_ _|refine zI ?_|refine zH ?_ _));refine blk_put (cs:=#[.slice none 0 0,.slice none 0 0]) ?_ 1 _ rfl;(with_reducible repeat (first|refine zG ?_ _|refine zI ?_|refine zH ?_ _));refine blk_put (cs:=#[.slice none 0 0,.slice none 0 0]) ?_ 0 _ rfl;(with_reducible repeat (first|refine zG ?_ _|refine zI ?_|refine zH ?_ _));exact BK550.out) Try.underlying33 rfl (by kernel_rfl)) rfl ?_
    exact ⟨_,_,by first|rfl|(simp [errW_none,errW_some] <;> rfl)|(simp [*,errW_none,errW_some] <;> rfl),by first|exact Kd.R_nil _ _ _ _ _|exact Kd.N_nil _ _ _ _ _|exact Kd.V_nil _ _ _ _ _|exact Kd.Q_nil _ _ _ _ _|exact Kd.S_nil _ _ _ _ _,by first|exact Kd.R_nil _ _ _ _ _|exact Kd.N_nil _ _ _ _ _|exact Kd.V_nil _ _ _ _ _|exact Kd.Q_nil _ _ _ _ _|exact Kd.S_nil _ _ _ _ _,by repeat (first|(with_reducible first|exact HB.out|apply zD|apply zB|apply zC|refine zF ?_ GE549.out|refine zF ?_ GE550.out)|exact HB.out)⟩
   ·replace c19:=Bool.eq_false_iff.mpr c19
    subst c19
    have H1:((impl_namesFrom.f kj2 l0_0 l0_1 a1).bind fun t552=>((impl_renamed.f kj2 l0_0 l0_1 t552).bind fun bt555=>(some (bt555.1,bt555.2,true)))) = some (r1,r2,r3):=by rw [if_neg (show ¬ (false = true) by decide)] at H;exact H
    clear H
    have H:=H1
    clear H1
    replace H:=zz0 H
    obtain ⟨t552,A220,H⟩:=H
    try dsimp only at H
    have A22:=zA A220
    clear A220
    replace H:=zz0 H
    obtain ⟨⟨t555,t558⟩,A230,H⟩:=H
    try dsimp only at H
    have A23:=zA A230
    clear A230
    simp only [Option.some.injEq,Prod.mk.injEq] at H
    obtain ⟨rfl,rfl,rfl⟩:=H
    try go_wp2
    have n0_:=zA (zI BK549.out)
    have n1_:=zA (zI BK550.out)
    have n2_:=zA (zC HB.out)
    clear BK549 BK550 HB
    have BK549:=n0_
    have BK550:=n1_
    have HB:=n2_
    clear n0_ n1_ n2_
    refine start_ (n:=7) (S:=fun w'=>w'.cell? ⟨gb549,0,none⟩ = some (.slice A0_0 l0_0.length c0_0)∧w'.cell? ⟨gb549,1,none⟩ = some (.slice A0_1 l0_1.length c0_1)) (ds:=[]) #[zf,zf,zf,zf,zf,zf,zf] (by kernel_rfl) rfl rfl ⟨(zT BK549.out 0).trans rfl,(zT BK549.out 1).trans rfl⟩ (fun hHeld=>?_)
    generalize wc.drew = w24 at BK549 BK550 HB hHeld ⊢
    refine pure_ (i:=2) (N:=some 23) (v:=?_) (a':=?_) #[zf,zf,zt,zf,zf,zf,zf] rfl rfl (by kernel_rfl) (fun _ _ _ h=>h) (Or.inl ⟨by rfl,?_⟩) ?_ ?_
    rotate_left
    ·intro w'
     go_simp
     with_reducible rfl
    rotate_left
    ·simp only [Act.put,zP_,i64_w]
     rfl
    refine take_ (i:=0) (N:=some 21) (v:=?_) (a':=?_) #[zt,zf,zt,zf,zf,zf,zf] rfl rfl (by kernel_rfl) (fun _ _ _ h=>h) (Or.inl ⟨by rfl,?_⟩) hHeld ?_ ?_
    rotate_left
    ·rintro w' ⟨s0,s1⟩
     go_simp
     with_reducible rfl
    rotate_left
    ·simp only [Act.put,zP_,i64_w]
     rfl
    refine take_ (i:=1) (N:=some 22) (v:=?_) (a':=?_) #[zt,zt,zt,zf,zf,zf,zf] rfl rfl (by kernel_rfl) (fun _ _ _ h=>h) (Or.inl ⟨by rfl,?_⟩) hHeld ?_ ?_
    rotate_left
    ·rintro w' ⟨s0,s1⟩
     go_simp
     with_reducible rfl
    rotate_left
    ·simp only [Act.put,zP_,i64_w]
     rfl
    refine one_ (i:=3) (N:=some 24) #[zt,zt,zt,zt,zf,zf,zf] rfl rfl (by kernel_rfl) (by decide) (fun K hK=>?_)
    refine goes_ Try.func48 (by kernel_rfl) rfl #[.agg #[.slice A0_0 l0_0.length c0_0,.slice A0_1 l0_1.length c0_1],.int .i64 a1] (by rfl) rfl rfl (by (try simp only [zJ,zM,zN]);first|done|rfl|(simp only [zL,zK];rfl)) ?_
    with_reducible refine (impl_namesFrom.calls kj2 _ _ l0_0 _ _ l0_1 a1 t552 _ ?side1 ?side2 ?side3 ?side4 A22.out).mono ?_
    (case side1=>repeat (first|exact (zW HR0_0.out HB.out)|(with_reducible exact HR0_0.out)|apply zC_))
    (case side2=>exact HC0_0.out)
    (case side3=>repeat (first|exact (zW HR0_1.out HB.out)|(with_reducible exact HR0_1.out)|apply zC_))
    (case side4=>exact HC0_1.out)
    rintro e w25 ⟨v553,rfl,ho0,hb⟩
    refine ⟨_,rfl,?_⟩
    have n0_:=zA (ze ho0 (zQ (by repeat (first|(with_reducible first|exact HB.out|apply zD|apply zB|apply zC|refine zF ?_ GE549.out|refine zF ?_ GE550.out)|exact HB.out))))
    have n1_:=zA (zX (g:=gb549) (o:=.cells #[.slice A0_0 l0_0.length c0_0,.slice A0_1 l0_1.length c0_1] 33 (0,0)) (by (with_reducible repeat (first|refine zG ?_ _|refine zI ?_|refine zH ?_ _));exact BK549.out) hb)
    have n2_:=zA (zX (g:=gb550) (o:=.cells #[.slice none 0 0,.slice none 0 0] 33 (0,0)) (by (with_reducible repeat (first|refine zG ?_ _|refine zI ?_|refine zH ?_ _));exact BK550.out) hb)
    have n3_:=zA (zR (by repeat (first|(with_reducible first|exact HB.out|apply zD|apply zB|apply zC|refine zF ?_ GE549.out|refine zF ?_ GE550.out)|exact HB.out)) hb)
    clear BK549 BK550 HB
    have HO554:=n0_
    have BK549:=n1_
    have BK550:=n2_
    have HB:=n3_
    clear n0_ n1_ n2_ n3_
    (try clear hb);(try clear hb2);(try clear hk);(try clear hi);(try clear ho0)
    obtain ⟨Ao26,co26,eo26⟩:=zg HO554.out
    (first|subst eo26|(injection eo26 with f1_ f2_ f3_;have f4_:=f1_.symm;have f5_:=f3_.symm;clear f1_ f2_ f3_;subst f4_;subst f5_))
    refine hK.out _ _ ⟨(zT BK549.out 0).trans rfl,(zT BK549.out 1).trans rfl⟩ (fun hHeld=>?_)
    clear hK K
    refine norm_ (a':=?_) ?_ ?_
    rotate_left
    ·show Act.put _ (some 24) _ = _
     simp only [Act.put,zP_,i64_w]
     rfl
    refine one_ (i:=4) (N:=some 25) #[zt,zt,zt,zt,zt,zf,zf] rfl rfl (by kernel_rfl) (by decide) (fun K hK=>?_)
    refine goes_ Try.func47 (by kernel_rfl) rfl #[.agg #[.slice A0_0 l0_0.length c0_0,.slice A0_1 l0_1.length c0_1],.slice Ao26 t552.length co26] (by rfl) rfl rfl (by (try simp only [zJ,zM,zN]);first|done|rfl|(simp only [zL,zK];rfl)) ?_
    with_reducible refine (impl_renamed.calls kj2 _ _ l0_0 _ _ l0_1 _ _ t552 t555 t558 _ ?side1 ?side2 ?side3 ?side4 ?side5 ?side6 A23.out).mono ?_
    (case side1=>repeat (first|exact (zW HR0_0.out HB.out)|(with_reducible exact HR0_0.out)|apply zC_))
    (case side2=>exact HC0_0.out)
    (case side3=>repeat (first|exact (zW HR0_1.out HB.out)|(with_reducible exact HR0_1.out)|apply zC_))
    (case side4=>exact HC0_1.out)
    (case side5=>repeat (first|exact (zU HO554.out).2.2|apply zC_))
    (case side6=>exact (zU HO554.out).2.1)
    rintro e w27 ⟨v556,v559,rfl,ho0,ho1,hb⟩
    refine ⟨_,rfl,?_⟩
    have n0_:=zA (zV (Kd.R_told (Kd.R_told (Kd.R_old (by apply zR_;exact HO554.out) hb) (zd ho0)) (zd ho1)) (fun _ h_=>h_.1))
    have n1_:=zA (ze (Kd.R_new' ho0 (Kd.R_lt (by apply zR_;exact HO554.out))) (zQ (by repeat (first|(with_reducible first|exact HB.out|apply zD|apply zB|apply zC|refine zF ?_ GE549.out|refine zF ?_ GE550.out)|exact HB.out))))
    have n2_:=zA (ze (Kd.R_new' ho1 (Kd.R_lt (by apply zR_;exact HO554.out))) (zQ (by repeat (first|(with_reducible first|exact HB.out|apply zD|apply zB|apply zC|refine zF ?_ GE549.out|refine zF ?_ GE550.out)|exact HB.out))))
    have n3_:=zA (zX (g:=gb549) (o:=.cells #[.slice A0_0 l0_0.length c0_0,.slice A0_1 l0_1.length c0_1] 33 (0,0)) (by (with_reducible repeat (first|refine zG ?_ _|refine zI ?_|refine zH ?_ _));exact BK549.out) hb)
    have n4_:=zA (zX (g:=gb550) (o:=.cells #[.slice none 0 0,.slice none 0 0] 33 (0,0)) (by (with_reducible repeat (first|refine zG ?_ _|refine zI ?_|refine zH ?_ _));exact BK550.out) hb)
    have n5_:=zA (zR (by repeat (first|(with_reducible first|exact HB.out|apply zD|apply zB|apply zC|refine zF ?_ GE549.out|refine zF ?_ GE550.out)|exact HB.out)) hb)
    clear HO554 BK549 BK550 HB
    have HO554:=n0_
    have HO557:=n1_
    have HO560:=n2_
    have BK549:=n3_
    have BK550:=n4_
    have HB:=n5_
    clear n0_ n1_ n2_ n3_ n4_ n5_
    (try clear hb);(try clear hb2);(try clear hk);(try clear hi);(try clear ho0);(try clear ho1)
    obtain ⟨Ao28,co28,eo28⟩:=zg HO557.out
    (first|subst eo28|(injection eo28 with f1_ f2_ f3_;have f4_:=f1_.symm;have f5_:=f3_.symm;clear f1_ f2_ f3_;subst f4_;subst f5_))
    obtain ⟨Ao30,co30,eo30⟩:=zg HO560.out
    (first|subst eo30|(injection eo30 with f1_ f2_ f3_;have f4_:=f1_.symm;have f5_:=f3_.symm;clear f1_ f2_ f3_;subst f4_;subst f5_))
    refine hK.out _ _ ⟨(zT BK549.out 0).trans rfl,(zT BK549.out 1).trans rfl⟩ (fun hHeld=>?_)
    clear hK K
    refine norm_ (a':=?_) ?_ ?_
    rotate_left
    ·show Act.put _ (some 25) _ = _
     simp only [Act.put,zP_,i64_w]
     rfl
    refine one_ (i:=5) (N:=none) #[zt,zt,zt,zt,zt,zt,zf] rfl rfl (by kernel_rfl) (by decide) (fun K hK=>?_)
    have hs29:w27.cell? ⟨gb550,0,none⟩ = some (.slice none 0 0):=(zT BK550.out 0).trans rfl
    have hfs29:=zZ BK550.out 0
    have hns29_0:=NB549_550.out
    have hms29_0:=NB550_549.out
    have hs31:w27.cell? ⟨gb550,1,none⟩ = some (.slice none 0 0):=(zT BK550.out 1).trans rfl
    have hfs31:=zZ BK550.out 1
    have hns31_0:=NB549_550.out
    have hms31_0:=NB550_549.out
    refine skip_ (w1:=?_) (by rfl) rfl ?_ ?_
    rotate_left
    ·go_simp
     rfl
    refine hK.out _ _ ⟨((cell_far (p:=⟨gb550,_,none⟩) NB549_550.out _).trans (((cell_far (p:=⟨gb550,_,none⟩) NB549_550.out _).trans (hHeld.1)))),((cell_far (p:=⟨gb550,_,none⟩) NB549_550.out _).trans (((cell_far (p:=⟨gb550,_,none⟩) NB549_550.out _).trans (hHeld.2))))⟩ (fun hHeld=>?_)
    clear hK K
    refine pure_ (i:=6) (N:=some 5) (v:=?_) (a':=?_) #[zt,zt,zt,zt,zt,zt,zt] rfl rfl (by kernel_rfl) (fun _ _ _ h=>h) (Or.inl ⟨by rfl,?_⟩) ?_ ?_
    rotate_left
    ·intro w'
     go_simp
     with_reducible rfl
    rotate_left
    ·simp only [Act.put,zP_,i64_w]
     rfl
    refine done_ (by kernel_rfl) ?_
    try go_wp2
    refine bodyPost_ret (results_ct rfl _ _ gb550 33 #[.slice Ao28 t555.length co28,.slice Ao30 t558.length co30] (0,0) _ rfl (by (with_reducible repeat (first|refine zG ?_ _|refine zI ?_|refine zH ?_ _));refine blk_put (cs:=#[.slice Ao28 t555.length co28,.slice none 0 0]) ?_ 1 _ rfl;(with_reducible repeat (first|refine zG ?_ _|refine zI ?_|refine zH ?_ _));refine blk_put (cs:=#[.slice none 0 0,.slice none 0 0]) ?_ 0 _ rfl;(with_reducible repeat (first|refine zG ?_ _|refine zI ?_|refine zH ?_ _));exact BK550.out) Try.underlying33 rfl (by kernel_rfl)) rfl ?_
    exact ⟨_,_,by first|rfl|(simp [errW_none,errW_some] <;> rfl)|(simp [*,errW_none,errW_some] <;> rfl),by apply zR_;exact zV (Kd.R_far (p:=⟨gb550,1,none⟩) (Kd.R_far (p:=⟨gb550,0,none⟩) (Kd.R_types HO557.out BK550.out (by decide)) (fun _ hk=>hk.2) (.slice Ao28 t555.length co28)) (fun _ hk=>hk.2) (.slice Ao30 t558.length co30)) (fun _ hk=>hk.1.1),by apply zR_;exact zV (Kd.R_far (p:=⟨gb550,1,none⟩) (Kd.R_far (p:=⟨gb550,0,none⟩) (Kd.R_types HO560.out BK550.out (by decide)) (fun _ hk=>hk.2) (.slice Ao28 t555.length co28)) (fun _ hk=>hk.2) (.slice Ao30 t558.length co30)) (fun _ hk=>hk.1.1),by repeat (first|(with_reducible first|exact HB.out|apply zD|apply zB|apply zC|refine zF ?_ GE549.out|refine zF ?_ GE550.out)|exact HB.out)⟩

/-! ### impl_MapDual: function 22 -/
def impl_MapDual.f (k:Nat) (l0_0:List Int) (l0_1:List Int):Option (List Int × List Int × Bool):=(impl_MapValid.f k l0_0 l0_1).bind fun t566=>(if t566 = true then ((impl_mul.f k l0_1 l0_0).bind fun t567=>((slices_Clone_int_int.f l0_1).bind fun t570=>(some (t567,t570,true)))) else (some (([]:List Int),([]:List Int),false)))
theorem impl_MapDual.mono:∀ a0 a1 k,LeO (impl_MapDual.f k a0 a1) (impl_MapDual.f (k+1) a0 a1):=by
 intro a0 a1 k
 unfold impl_MapDual.f
 repeat' first
   | (with_reducible exact impl_MapValid.mono _ _ _)
   | (with_reducible exact impl_mul.mono _ _ _)
   | (with_reducible exact LeO.refl _)
   | (with_reducible exact za _)
   | (with_reducible refine zc ?_ ?_)
   | (with_reducible refine zb ?_ (fun _=>?_))
def impl_MapDual.T3:Bool × List (List Nat × List Nat):=(true,[([],[]),([0],[0]),([],[]),([2],[2]),([1,3],[1,3]),([],[]),([5],[5]),([6,4],[6]),([4,7],[4,7]),([8,7,0,1,2,3,4,5,6,7,8],[8]),([9,0,1,2,3,4,5,6,7,8,9],[])])
def impl_MapDual.B3:List Nat:=[0,1,0,4,15,0,32,127,255,511,1023]
theorem impl_MapDual.tab3:rtab .any (opsOf Try.f22 3) = impl_MapDual.T3:=by kernel_rfl
theorem impl_MapDual.bits3:waitsOk impl_MapDual.T3.2 impl_MapDual.B3 = true:=by kernel_rfl
set_option maxHeartbeats 8000000 in
set_option maxRecDepth 100000 in
theorem impl_MapDual.calls (k:Nat) (A0_0:Option Addr) (c0_0:Nat) (l0_0:List Int) (A0_1:Option Addr) (c0_1:Nat) (l0_1:List Int) (r1:List Int) (r2:List Int) (r3:Bool) (w:World) (hr0_0:Kd.C (Kd.int .i64) w A0_0 l0_0.length l0_0) (hc0_0:l0_0.length≤c0_0) (hr0_1:Kd.C (Kd.int .i64) w A0_1 l0_1.length l0_1) (hc0_1:l0_1.length≤c0_1) (h:impl_MapDual.f k l0_0 l0_1 = some (r1,r2,r3)) :
  Calls Try.prog 22 #[.agg #[.slice A0_0 l0_0.length c0_0,.slice A0_1 l0_1.length c0_1]] w fun e w' => ∃ v0_ v1_:Value,e = .returned (.tuple #[.agg #[v0_,v1_],.bool r3])∧Kd.R (Kd.int .i64) 3 w' w.heap.size (fun k_=>some k_≠(v1_:Value).ownBlock) v0_ r1∧Kd.R (Kd.int .i64) 3 w' w.heap.size (fun k_=>some k_≠(v0_:Value).ownBlock) v1_ r2∧Below w.heap.size w w':=by
 have hu33:=Try.underlying33
 have HR0_0:=zA hr0_0
 have HC0_0:=zA hc0_0
 clear hr0_0 hc0_0
 have HR0_1:=zA hr0_1
 have HC0_1:=zA hc0_1
 clear hr0_1 hc0_1
 have HB:=zA (Below.refl w.heap.size w)
 have H:((impl_MapValid.f k l0_0 l0_1).bind fun t566=>(if t566 = true then ((impl_mul.f k l0_1 l0_0).bind fun t567=>((slices_Clone_int_int.f l0_1).bind fun t570=>(some (t567,t570,true)))) else (some (([]:List Int),([]:List Int),false)))) = some (r1,r2,r3):=h
 clear h
 replace H:=zz0 H
 obtain ⟨t566,A20,H⟩:=H
 try dsimp only at H
 have A2:=zA A20
 clear A20
 by_cases c3:t566 = true
 ·subst c3
  rw [if_pos rfl] at H;try dsimp only at H
  replace H:=zz0 H
  obtain ⟨t567,A40,H⟩:=H
  try dsimp only at H
  have A4:=zA A40
  clear A40
  replace H:=zz0 H
  obtain ⟨t570,A50,H⟩:=H
  try dsimp only at H
  have A5:=zA A50
  clear A50
  simp only [Option.some.injEq,Prod.mk.injEq] at H
  obtain ⟨rfl,rfl,rfl⟩:=H
  go_enter Try.func22,Try.ntmps22
  try go_wp2_with (first|((with_reducible refine gate_dst (N:=1) rfl ?_);refine box_event ?hg (N:=1) ?hd (cs:=#[.slice A0_0 l0_0.length c0_0,.slice A0_1 l0_1.length c0_1]) (t:=33) ?hr ?_;(case hd=>rfl);(case hg=>rfl);(case hr=>first|(go_simp;done)|(go_simp;rfl));intro gb564 hg w6 hbox hb;have n0_:=zA (zR (by exact zB_ HB.out) hb);have n1_:=zA (hbox);have n2_:=zA ((by rw [hg];exact (zQ (by exact zB_ HB.out)):w.heap.size≤gb564));have n3_:=zA ((by rw [hg];exact (zQ (by exact zB_ HB.out)):w.heap.size≤gb564));clear HB;have HB:=n0_;have BK564:=n1_;have GW564:=n2_;have GE564:=n3_;clear n0_ n1_ n2_ n3_;clear hb hbox hg)|((with_reducible refine gate_dst (N:=2) rfl ?_);refine box_event ?hg (N:=2) ?hd (cs:=#[.slice none 0 0,.slice none 0 0]) (t:=33) ?hr ?_;(case hd=>rfl);(case hg=>rfl);(case hr=>first|(go_simp;done)|(go_simp;rfl));intro gb565 hg w7 hbox hb;have n0_:=zA (zX (g:=gb564) (o:=.cells #[.slice A0_0 l0_0.length c0_0,.slice A0_1 l0_1.length c0_1] 33 (0,0)) (by (with_reducible repeat (first|refine zG ?_ _|refine zI ?_|refine zH ?_ _));exact BK564.out) hb);have n1_:=zA (zR (by repeat (first|(with_reducible first|exact HB.out|apply zD|apply zB|apply zC|refine zF ?_ GE564.out)|exact HB.out)) hb);have n2_:=zA (hbox);have n3_:=zA ((by rw [hg];exact (zQ (by repeat (first|(with_reducible first|exact HB.out|apply zD|apply zB|apply zC|refine zF ?_ GE564.out)|exact HB.out))):w.heap.size≤gb565));have n4_:=zA ((by rw [hg];exact (zQ (by repeat (first|(with_reducible first|exact HB.out|apply zD|apply zB|apply zC|refine zF ?_ GE564.out)|exact HB.out))):w.heap.size≤gb565));have n5_:=zA ((by rw [hg];exact Nat.ne_of_lt (blk_lt (g:=gb564) (o:=.cells #[.slice A0_0 l0_0.length c0_0,.slice A0_1 l0_1.length c0_1] 33 (0,0)) (by (with_reducible repeat (first|refine zG ?_ _|refine zI ?_|refine zH ?_ _));exact BK564.out)):gb564≠gb565));have n6_:=zA ((by rw [hg];exact Nat.ne_of_gt (blk_lt (g:=gb564) (o:=.cells #[.slice A0_0 l0_0.length c0_0,.slice A0_1 l0_1.length c0_1] 33 (0,0)) (by (with_reducible repeat (first|refine zG ?_ _|refine zI ?_|refine zH ?_ _));exact BK564.out)):gb565≠gb564));clear BK564;clear HB;have BK564:=n0_;have HB:=n1_;have BK565:=n2_;have GW565:=n3_;have GE565:=n4_;have NB564_565:=n5_;have NB565_564:=n6_;clear n0_ n1_ n2_ n3_ n4_ n5_ n6_;clear hb hbox hg;have hnb8:=NB564_565.out;have hnc8:=NB565_564.out;have hcz9_0:w7.cell? ⟨gb564,0,none⟩ = some (.slice A0_0 l0_0.length c0_0):=(zT BK564.out 0).trans rfl;have hcz9_1:w7.cell? ⟨gb564,1,none⟩ = some (.slice A0_1 l0_1.length c0_1):=(zT BK564.out 1).trans rfl;have hfz9_0:=zZ BK564.out 0;have hfz9_1:=zZ BK564.out 1)|((with_reducible refine gate_callee (f:=46) rfl ?_);refine goesL_ (some 5) rfl rfl Try.func46 (by kernel_rfl) rfl #[.agg #[.slice A0_0 l0_0.length c0_0,.slice A0_1 l0_1.length c0_1]] rfl (by (try simp only [zJ,zM,zN]);first|done|rfl|(simp only [zL,zK];rfl)) ?_;(with_reducible refine (impl_MapValid.calls k (fun k_=>k_ < w.heap.size) _ _ l0_0 (fun k_=>k_ < w.heap.size) _ _ l0_1 true _ ?side1 ?side2 A2.out).mono ?_);(case side1=>exact Kd.V_mk HC0_0.out (Kd.F_below (Kd.C_F (Kd.heap_int .i64) HR0_0.out) (by repeat (first|(with_reducible first|exact HB.out|apply zD|apply zB|apply zC|refine zF ?_ GE564.out|refine zF ?_ GE565.out)|exact HB.out))));(case side2=>exact Kd.V_mk HC0_1.out (Kd.F_below (Kd.C_F (Kd.heap_int .i64) HR0_1.out) (by repeat (first|(with_reducible first|exact HB.out|apply zD|apply zB|apply zC|refine zF ?_ GE564.out|refine zF ?_ GE565.out)|exact HB.out))));rintro e w10 ⟨rfl,hb⟩;refine ⟨_,rfl,?_⟩;have n0_:=zA (zX (g:=gb564) (o:=.cells #[.slice A0_0 l0_0.length c0_0,.slice A0_1 l0_1.length c0_1] 33 (0,0)) (by (with_reducible repeat (first|refine zG ?_ _|refine zI ?_|refine zH ?_ _));exact BK564.out) hb);have n1_:=zA (zX (g:=gb565) (o:=.cells #[.slice none 0 0,.slice none 0 0] 33 (0,0)) (by (with_reducible repeat (first|refine zG ?_ _|refine zI ?_|refine zH ?_ _));exact BK565.out) hb);have n2_:=zA (zR (by repeat (first|(with_reducible first|exact HB.out|apply zD|apply zB|apply zC|refine zF ?_ GE564.out|refine zF ?_ GE565.out)|exact HB.out)) hb);clear BK564;clear BK565;clear HB;have BK564:=n0_;have BK565:=n1_;have HB:=n2_;clear n0_ n1_ n2_;(try clear hb);(try clear hb2);(try clear hk);(try clear hi)))
  have n0_:=zA (zI BK564.out)
  have n1_:=zA (zI BK565.out)
  have n2_:=zA (zC HB.out)
  clear BK564 BK565 HB
  have BK564:=n0_
  have BK565:=n1_
  have HB:=n2_
  clear n0_ n1_ n2_
  refine start_ (n:=11) (S:=fun w'=>w'.cell? ⟨gb564,0,none⟩ = some (.slice A0_0 l0_0.length c0_0)∧w'.cell? ⟨gb564,1,none⟩ = some (.slice A0_1 l0_1.length c0_1)) (ds:=[]) #[zf,zf,zf,zf,zf,zf,zf,zf,zf,zf,zf] (by kernel_rfl) rfl rfl ⟨(zT BK564.out 0).trans rfl,(zT BK564.out 1).trans rfl⟩ (fun hHeld=>?_);refine with_tabW impl_MapDual.tab3 impl_MapDual.bits3 (fun HT_ HW_=>?_)
  generalize w10.drew = w11 at BK564 BK565 HB hHeld ⊢
  refine pure_ (i:=0) (N:=some 8) (v:=?_) (a':=?_) #[zt,zf,zf,zf,zf,zf,zf,zf,zf,zf,zf] rfl rfl (any_of HT_.out (by kernel_rfl)) (fun _ _ _ h=>h) (Or.inl ⟨by rfl,?_⟩) ?_ ?_
  rotate_left
  ·intro w'
   go_simp
   with_reducible rfl
  rotate_left
  ·simp only [Act.put,zP_,i64_w]
   rfl
  refine pure_ (i:=2) (N:=some 10) (v:=?_) (a':=?_) #[zt,zf,zt,zf,zf,zf,zf,zf,zf,zf,zf] rfl rfl (any_of HT_.out (by kernel_rfl)) (fun _ _ _ h=>h) (Or.inl ⟨by rfl,?_⟩) ?_ ?_
  rotate_left
  ·intro w'
   go_simp
   with_reducible rfl
  rotate_left
  ·simp only [Act.put,zP_,i64_w]
   rfl
  refine pure_ (i:=5) (N:=some 13) (v:=?_) (a':=?_) #[zt,zf,zt,zf,zf,zt,zf,zf,zf,zf,zf] rfl rfl (any_of HT_.out (by kernel_rfl)) (fun _ _ _ h=>h) (Or.inl ⟨by rfl,?_⟩) ?_ ?_
  rotate_left
  ·intro w'
   go_simp
   with_reducible rfl
  rotate_left
  ·simp only [Act.put,zP_,i64_w]
   rfl
  refine take_ (i:=1) (N:=some 9) (v:=?_) (a':=?_) #[zt,zt,zt,zf,zf,zt,zf,zf,zf,zf,zf] rfl rfl (take_ofW HT_.out HW_.out (by kernel_rfl)) (fun _ _ _ h=>h) (Or.inl ⟨by rfl,?_⟩) hHeld ?_ ?_
  rotate_left
  ·rintro w' ⟨s0,s1⟩
   go_simp
   with_reducible rfl
  rotate_left
  ·simp only [Act.put,zP_,i64_w]
   rfl
  refine take_ (i:=3) (N:=some 11) (v:=?_) (a':=?_) #[zt,zt,zt,zt,zf,zt,zf,zf,zf,zf,zf] rfl rfl (take_ofW HT_.out HW_.out (by kernel_rfl)) (fun _ _ _ h=>h) (Or.inl ⟨by rfl,?_⟩) hHeld ?_ ?_
  rotate_left
  ·rintro w' ⟨s0,s1⟩
   go_simp
   with_reducible rfl
  rotate_left
  ·simp only [Act.put,zP_,i64_w]
   rfl
  refine take_ (i:=6) (N:=some 14) (v:=?_) (a':=?_) #[zt,zt,zt,zt,zf,zt,zt,zf,zf,zf,zf] rfl rfl (take_ofW HT_.out HW_.out (by kernel_rfl)) (fun _ _ _ h=>h) (Or.inl ⟨by rfl,?_⟩) hHeld ?_ ?_
  rotate_left
  ·rintro w' ⟨s0,s1⟩
   go_simp
   with_reducible rfl
  rotate_left
  ·simp only [Act.put,zP_,i64_w]
   rfl
  refine one_ (i:=4) (N:=some 12) #[zt,zt,zt,zt,zt,zt,zt,zf,zf,zf,zf] rfl rfl (one_of HT_.out (by kernel_rfl)) (by decide) (fun K hK=>?_)
  refine goes_ Try.func49 (by kernel_rfl) rfl #[.slice A0_1 l0_1.length c0_1,.slice A0_0 l0_0.length c0_0] (by rfl) rfl rfl (by (try simp only [zJ,zM,zN]);first|done|rfl|(simp only [zL,zK];rfl)) ?_
  with_reducible refine (impl_mul.calls k _ _ l0_1 _ _ l0_0 t567 _ ?side1 ?side2 ?side3 ?side4 A4.out).mono ?_
  (case side1=>repeat (first|exact (zW HR0_1.out HB.out)|(with_reducible exact HR0_1.out)|apply zC_))
  (case side2=>exact HC0_1.out)
  (case side3=>repeat (first|exact (zW HR0_0.out HB.out)|(with_reducible exact HR0_0.out)|apply zC_))
  (case side4=>exact HC0_0.out)
  rintro e w12 ⟨v568,rfl,ho0,hb⟩
  refine ⟨_,rfl,?_⟩
  have n0_:=zA (ze ho0 (zQ (by repeat (first|(with_reducible first|exact HB.out|apply zD|apply zB|apply zC|refine zF ?_ GE564.out|refine zF ?_ GE565.out)|exact HB.out))))
  have n1_:=zA (zX (g:=gb564) (o:=.cells #[.slice A0_0 l0_0.length c0_0,.slice A0_1 l0_1.length c0_1] 33 (0,0)) (by (with_reducible repeat (first|refine zG ?_ _|refine zI ?_|refine zH ?_ _));exact BK564.out) hb)
  have n2_:=zA (zX (g:=gb565) (o:=.cells #[.slice none 0 0,.slice none 0 0] 33 (0,0)) (by (with_reducible repeat (first|refine zG ?_ _|refine zI ?_|refine zH ?_ _));exact BK565.out) hb)
  have n3_:=zA (zR (by repeat (first|(with_reducible first|exact HB.out|apply zD|apply zB|apply zC|refine zF ?_ GE564.out|refine zF ?_ GE565.out)|exact HB.out)) hb)
  clear BK564 BK565 HB
  have HO569:=n0_
  have BK564:=n1_
  have BK565:=n2_
  have HB:=n3_
  clear n0_ n1_ n2_ n3_
  (try clear hb);(try clear hb2);(try clear hk);(try clear hi);(try clear ho0)
  refine hK.out _ _ ⟨(zT BK564.out 0).trans rfl,(zT BK564.out 1).trans rfl⟩ (fun hHeld=>?_)
  clear hK K
  refine norm_ (a':=?_) ?_ ?_
  rotate_left
  ·show Act.put _ (some 12) _ = _
   simp only [Act.put,zP_,i64_w]
   rfl
  refine one_ (i:=7) (N:=some 15) #[zt,zt,zt,zt,zt,zt,zt,zt,zf,zf,zf] rfl rfl (one_of HT_.out (by kernel_rfl)) (by decide) (fun K hK=>?_)
  refine goes_ Try.func50 (by kernel_rfl) rfl #[.slice A0_1 l0_1.length c0_1] (by rfl) rfl rfl (by (try simp only [zJ,zM,zN]);first|done|rfl|(simp only [zL,zK];rfl)) ?_
  with_reducible refine (slices_Clone_int_int.calls _ _ l0_1 t570 _ ?side1 ?side2 A5.out).mono ?_
  (case side1=>repeat (first|exact (zW HR0_1.out HB.out)|(with_reducible exact HR0_1.out)|apply zC_))
  (case side2=>exact HC0_1.out)
  rintro e w13 ⟨v571,rfl,ho0,hb⟩
  refine ⟨_,rfl,?_⟩
  have n0_:=zA (Kd.R_elder' (by apply zR_;exact HO569.out) (zd ho0) hb)
  have n1_:=zA (ze (Kd.R_new' ho0 (Kd.R_lt (by apply zR_;exact HO569.out))) (zQ (by repeat (first|(with_reducible first|exact HB.out|apply zD|apply zB|apply zC|refine zF ?_ GE564.out|refine zF ?_ GE565.out)|exact HB.out))))
  have n2_:=zA (zX (g:=gb564) (o:=.cells #[.slice A0_0 l0_0.length c0_0,.slice A0_1 l0_1.length c0_1] 33 (0,0)) (by (with_reducible repeat (first|refine zG ?_ _|refine zI ?_|refine zH ?_ _));exact BK564.out) hb)
  have n3_:=zA (zX (g:=gb565) (o:=.cells #[.slice none 0 0,.slice none 0 0] 33 (0,0)) (by (with_reducible repeat (first|refine zG ?_ _|refine zI ?_|refine zH ?_ _));exact BK565.out) hb)
  have n4_:=zA (zR (by repeat (first|(with_reducible first|exact HB.out|apply zD|apply zB|apply zC|refine zF ?_ GE564.out|refine zF ?_ GE565.out)|exact HB.out)) hb)
  clear HO569 BK564 BK565 HB
  have HO569:=n0_
  have HO572:=n1_
  have BK564:=n2_
  have BK565:=n3_
  have HB:=n4_
  clear n0_ n1_ n2_ n3_ n4_
  (try clear hb);(try clear hb2);(try clear hk);(try clear hi);(try clear ho0)
  obtain ⟨Ao14,co14,eo14⟩:=zg HO572.out
  (first|subst eo14|(injection eo14 with f1_ f2_ f3_;have f4_:=f1_.symm;have f5_:=f3_.symm;clear f1_ f2_ f3_;subst f4_;subst f5_))
  obtain ⟨Ao15,co15,eo15⟩:=zg HO569.out
  (first|subst eo15|(injection eo15 with f1_ f2_ f3_;have f4_:=f1_.symm;have f5_:=f3_.symm;clear f1_ f2_ f3_;subst f4_;subst f5_))
  refine hK.out _ _ ⟨(zT BK564.out 0).trans rfl,(zT BK564.out 1).trans rfl⟩ (fun hHeld=>?_)
  clear hK K
  refine norm_ (a':=?_) ?_ ?_
  rotate_left
  ·show Act.put _ (some 15) _ = _
   simp only [Act.put,zP_,i64_w]
   rfl
  refine pure_ (i:=8) (N:=some 16) (v:=?_) (a':=?_) #[zt,zt,zt,zt,zt,zt,zt,zt,zt,zf,zf] rfl rfl (any_of HT_.out (by kernel_rfl)) (fun _ _ _ h=>h) (Or.inl ⟨by rfl,?_⟩) ?_ ?_
  rotate_left
  ·intro w'
   go_simp
   with_reducible rfl
  rotate_left
  ·simp only [Act.put,zP_,i64_w]
   rfl
  refine one_ (i:=9) (N:=none) #[zt,zt,zt,zt,zt,zt,zt,zt,zt,zt,zf] rfl rfl (one_of HT_.out (by kernel_rfl)) (by decide) (fun K hK=>?_)
  have hs16:w13.cell? ⟨gb565,0,none⟩ = some (.slice none 0 0):=(zT BK565.out 0).trans rfl
  have hfs16:=zZ BK565.out 0
  have hns16_0:=NB564_565.out
  have hms16_0:=NB565_564.out
  have hs17:w13.cell? ⟨gb565,1,none⟩ = some (.slice none 0 0):=(zT BK565.out 1).trans rfl
  have hfs17:=zZ BK565.out 1
  have hns17_0:=NB564_565.out
  have hms17_0:=NB565_564.out
  refine skip_ (w1:=?_) (by rfl) rfl ?_ ?_
  rotate_left
  ·go_simp
   rfl
  refine hK.out _ _ ⟨((cell_far (p:=⟨gb565,_,none⟩) NB564_565.out _).trans (((cell_far (p:=⟨gb565,_,none⟩) NB564_565.out _).trans (hHeld.1)))),((cell_far (p:=⟨gb565,_,none⟩) NB564_565.out _).trans (((cell_far (p:=⟨gb565,_,none⟩) NB564_565.out _).trans (hHeld.2))))⟩ (fun hHeld=>?_)
  clear hK K
  refine pure_ (i:=10) (N:=some 3) (v:=?_) (a':=?_) #[zt,zt,zt,zt,zt,zt,zt,zt,zt,zt,zt] rfl rfl (any_of HT_.out (by kernel_rfl)) (fun _ _ _ h=>h) (Or.inl ⟨by rfl,?_⟩) ?_ ?_
  rotate_left
  ·intro w'
   go_simp
   with_reducible rfl
  rotate_left
  ·simp only [Act.put,zP_,i64_w]
   rfl
  refine done_ (done_of HT_.out (by kernel_rfl)) ?_
  try go_wp2
  refine bodyPost_ret (results_ct rfl _ _ gb565 33 #[.slice Ao15 t567.length co15,.slice Ao14 t570.length co14] (0,0) _ rfl (by (with_reducible repeat (first|refine zG ?_ _|refine zI ?_|refine zH ?_ _));refine blk_put (cs:=#[.slice Ao15 t567.length co15,.slice none 0 0]) ?_ 1 _ rfl;(with_reducible repeat (first|refine zG ?_ _|refine zI ?_|refine zH ?_ _));refine blk_put (cs:=#[.slice none 0 0,.slice none 0 0]) ?_ 0 _ rfl;(with_reducible repeat (first|refine zG ?_ _|refine zI ?_|refine zH ?_ _));exact BK565.out) Try.underlying33 rfl (by kernel_rfl)) rfl ?_
  exact ⟨_,_,by first|rfl|(simp [errW_none,errW_some] <;> rfl)|(simp [*,errW_none,errW_some] <;> rfl),by apply zR_;exact zV (Kd.R_far (p:=⟨gb565,1,none⟩) (Kd.R_far (p:=⟨gb565,0,none⟩) (Kd.R_types HO569.out BK565.out (by decide)) (fun _ hk=>hk.2) (.slice Ao15 t567.length co15)) (fun _ hk=>hk.2) (.slice Ao14 t570.length co14)) (fun _ hk=>hk.1.2),by apply zR_;exact zV (Kd.R_far (p:=⟨gb565,1,none⟩) (Kd.R_far (p:=⟨gb565,0,none⟩) (Kd.R_types HO572.out BK565.out (by decide)) (fun _ hk=>hk.2) (.slice Ao15 t567.length co15)) (fun _ hk=>hk.2) (.slice Ao14 t570.length co14)) (fun _ hk=>hk.1.2),by repeat (first|(with_reducible first|exact HB.out|apply zD|apply zB|apply zC|refine zF ?_ GE564.out|refine zF ?_ GE565.out)|exact HB.out)⟩
 ·replace c3:=Bool.eq_false_iff.mpr c3
  subst c3
  have H1:(some (([]:List Int),([]:List Int),false)) = some (r1,r2,r3):=by rw [if_neg (show ¬ (false = true) by decide)] at H;exact H
  clear H
  have H:=H1
  clear H1
  simp only [Option.some.injEq,Prod.mk.injEq] at H
  obtain ⟨rfl,rfl,rfl⟩:=H
  go_enter Try.func22,Try.ntmps22
  go_wp2_with (first|((with_reducible refine gate_dst (N:=1) rfl ?_);refine box_event ?hg (N:=1) ?hd (cs:=#[.slice A0_0 l0_0.length c0_0,.slice A0_1 l0_1.length c0_1]) (t:=33) ?hr ?_;(case hd=>rfl);(case hg=>rfl);(case hr=>first|(go_simp;done)|(go_simp;rfl));intro gb564 hg w18 hbox hb;have n0_:=zA (zR (by exact zB_ HB.out) hb);have n1_:=zA (hbox);have n2_:=zA ((by rw [hg];exact (zQ (by exact zB_ HB.out)):w.heap.size≤gb564));have n3_:=zA ((by rw [hg];exact (zQ (by exact zB_ HB.out)):w.heap.size≤gb564));clear HB;have HB:=n0_;have BK564:=n1_;have GW564:=n2_;have GE564:=n3_;clear n0_ n1_ n2_ n3_;clear hb hbox hg)|((with_reducible refine gate_dst (N:=2) rfl ?_);refine box_event ?hg (N:=2) ?hd (cs:=#[.slice none 0 0,.slice none 0 0]) (t:=33) ?hr ?_;(case hd=>rfl);(case hg=>rfl);(case hr=>first|(go_simp;done)|(go_simp;rfl));intro gb565 hg w19 hbox hb;have n0_:=zA (zX (g:=gb564) (o:=.cells #[.slice A0_0 l0_0.length c0_0,.slice A0_1 l0_1.length c0_1] 33 (0,0)) (by (with_reducible repeat (first|refine zG ?_ _|refine zI ?_|refine zH ?_ _));exact BK564.out) hb);have n1_:=zA (zR (by repeat (first|(with_reducible first|exact HB.out|apply zD|apply zB|apply zC|refine zF ?_ GE564.out)|exact HB.out)) hb);have n2_:=zA (hbox);have n3_:=zA ((by rw [hg];exact (zQ (by repeat (first|(with_reducible first|exact HB.out|apply zD|apply zB|apply zC|refine zF ?_ GE564.out)|exact HB.out))):w.heap.size≤gb565));have n4_:=zA ((by rw [hg];exact (zQ (by repeat (first|(with_reducible first|exact HB.out|apply zD|apply zB|apply zC|refine zF ?_ GE564.out)|exact HB.out))):w.heap.size≤gb565));have n5_:=zA ((by rw [hg];exact Nat.ne_of_lt (blk_lt (g:=gb564) (o:=.cells #[.slice A0_0 l0_0.length c0_0,.slice A0_1 l0_1.length c0_1] 33 (0,0)) (by (with_reducible repeat (first|refine zG ?_ _|refine zI ?_|refine zH ?_ _));exact BK564.out)):gb564≠gb565));have n6_:=zA ((by rw [hg];exact Nat.ne_of_gt (blk_lt (g:=gb564) (o:=.cells #[.slice A0_0 l0_0.length c0_0,.slice A0_1 l0_1.length c0_1] 33 (0,0)) (by (with_reducible repeat (first|refine zG ?_ _|refine zI ?_|refine zH ?_ _));exact BK564.out)):gb565≠gb564));clear BK564;clear HB;have BK564:=n0_;have HB:=n1_;have BK565:=n2_;have GW565:=n3_;have GE565:=n4_;have NB564_565:=n5_;have NB565_564:=n6_;clear n0_ n1_ n2_ n3_ n4_ n5_ n6_;clear hb hbox hg;have hnb20:=NB564_565.out;have hnc20:=NB565_564.out;have hcz21_0:w19.cell? ⟨gb564,0,none⟩ = some (.slice A0_0 l0_0.length c0_0):=(zT BK564.out 0).trans rfl;have hcz21_1:w19.cell? ⟨gb564,1,none⟩ = some (.slice A0_1 l0_1.length c0_1):=(zT BK564.out 1).trans rfl;have hfz21_0:=zZ BK564.out 0;have hfz21_1:=zZ BK564.out 1)|((with_reducible refine gate_callee (f:=46) rfl ?_);refine goesL_ (some 5) rfl rfl Try.func46 (by kernel_rfl) rfl #[.agg #[.slice A0_0 l0_0.length c0_0,.slice A0_1 l0_1.length c0_1]] rfl (by (try simp only [zJ,zM,zN]);first|done|rfl|(simp only [zL,zK];rfl)) ?_;(with_reducible refine (impl_MapValid.calls k (fun k_=>k_ < w.heap.size) _ _ l0_0 (fun k_=>k_ < w.heap.size) _ _ l0_1 false _ ?side1 ?side2 A2.out).mono ?_);(case side1=>exact Kd.V_mk HC0_0.out (Kd.F_below (Kd.C_F (Kd.heap_int .i64) HR0_0.out) (by repeat (first|(with_reducible first|exact HB.out|apply zD|apply zB|apply zC|refine zF ?_ GE564.out|refine zF ?_ GE565.out)|exact HB.out))));(case side2=>exact Kd.V_mk HC0_1.out (Kd.F_below (Kd.C_F (Kd.heap_int .i64) HR0_1.out) (by repeat (first|(with_reducible first|exact HB.out|apply zD|apply zB|apply zC|refine zF ?_ GE564.out|refine zF ?_ GE565.out)|exact HB.out))));rintro e w22 ⟨rfl,hb⟩;refine ⟨_,rfl,?_⟩;have n0_:=zA (zX (g:=gb564) (o:=.cells #[.slice A0_0 l0_0.length c0_0,.slice A0_1 l0_1.length c0_1] 33 (0,0)) (by (with_reducible repeat (first|refine zG ?_ _|refine zI ?_|refine zH ?_ _));exact BK564.out) hb);have n1_:=zA (zX (g:=gb565) (o:=.cells #[.slice none 0 0,.slice none 0 0] 33 (0,0)) (by (with_reducible repeat (first|refine zG ?_ _|refine zI ?_|refine zH ?_ _));exact BK565.out) hb);have n2_:=zA (zR (by repeat (first|(with_reducible first|exact HB.out|apply zD|apply zB|apply zC|refine zF ?_ GE564.out|refine zF ?_ GE565.out)|exact HB.out)) hb);clear BK564;clear BK565;clear HB;have BK564:=n0_;have BK565:=n1_;have HB:=n2_;clear n0_ n1_ n2_;(try clear hb);(try clear hb2);(try clear hk);(try clear hi);have hcz23_0:w22.cell? ⟨gb565,0,none⟩ = some (.slice none 0 0):=(zT BK565.out 0).trans rfl;have hcz23_1:w22.cell? ⟨gb565,1,none⟩ = some (.slice none 0 0):=(zT BK565.out 1).trans rfl;have hfz23_0:=zZ BK565.out 0;have hfz23_1:=zZ BK565.out 1))
  refine bodyPost_ret (results_ct rfl _ _ gb565 33 #[.slice none 0 0,.slice none 0 0] (0,0) _ rfl (by (with_reducible repeat (first|refine zG ?_ _|refine zI ?_|refine zH ?_ _));refine blk_put (cs:=#[.slice none 0 0,.slice none 0 0]) ?_ 1 _ rfl;(with_reducible repeat (first|refine zG ?_ _|refine zI ?_|refine zH ?_ _));refine blk_put (cs:=#[.slice none 0 0,.slice none 0 0]) ?_ 0 _ rfl;(with_reducible repeat (first|refine zG ?_ _|refine zI ?_|refine zH ?_ _));exact BK565.out) Try.underlying33 rfl (by kernel_rfl)) rfl ?_
  exact ⟨_,_,by first|rfl|(simp [errW_none,errW_some] <;> rfl)|(simp [*,errW_none,errW_some] <;> rfl),by first|exact Kd.R_nil _ _ _ _ _|exact Kd.N_nil _ _ _ _ _|exact Kd.V_nil _ _ _ _ _|exact Kd.Q_nil _ _ _ _ _|exact Kd.S_nil _ _ _ _ _,by first|exact Kd.R_nil _ _ _ _ _|exact Kd.N_nil _ _ _ _ _|exact Kd.V_nil _ _ _ _ _|exact Kd.Q_nil _ _ _ _ _|exact Kd.S_nil _ _ _ _ _,by repeat (first|(with_reducible first|exact HB.out|apply zD|apply zB|apply zC|refine zF ?_ GE564.out|refine zF ?_ GE565.out)|exact HB.out)⟩

/-! ### laws_FnRootedList: function 4 (a section of my own) -/
def laws_FnRootedList.inn (k:Nat) (i:Nat) (m:S33) (y0 y1 z0 z1:List Int):List S33→Nat→Bool→Bool→Option (Bool × Bool)
 | [],_,a,b=>some (a,b)
 | q :: qs,j,a,b=>(laws_sameMap.f k q.f0 q.f1 y0 y1).bind fun s=>(laws_sameMap.f k q.f0 q.f1 z0 z1).bind fun t=>(laws_sameMap.f k q.f0 q.f1 m.f0 m.f1).bind fun u=>if j = i∨u = false then laws_FnRootedList.inn k i m y0 y1 z0 z1 qs (j+1) (a || s) (b || t) else none
def laws_FnRootedList.el (k:Nat) (e g r:Int) (L:List S33) (i:Nat) (m:S33):Option Bool:=(impl_MapForm.f k m.f0 m.f1 0).bind fun x=>(impl_MapDual.f k m.f0 m.f1).bind fun d=>(impl_MapForm.f k d.1 d.2.1 0).bind fun y=>(impl_MapForm.f k m.f0 m.f1 r).bind fun z=>(laws_FnRootedList.inn k i m y.1 y.2.1 z.1 z.2.1 L 0 false false).bind fun ab=>(laws_sameMap.f k x.1 x.2.1 m.f0 m.f1).bind fun s=>(impl_MapGenus.f k m.f0 m.f1).bind fun h=>if x.2.2 = true∧d.2.2 = true∧y.2.2 = true∧z.2.2 = true∧ab = (true,true)∧s = true∧h = g∧(m.f0.length:Int) = 2 * e then some true else none
def laws_FnRootedList.all (k:Nat) (e g r:Int) (L:List S33):List S33→Nat→Bool
 | [],_=>true
 | m :: ms,i=>(laws_FnRootedList.el k e g r L i m == some true) && laws_FnRootedList.all k e g r L ms (i+1)
def laws_FnRootedList.f (k:Nat) (l0 l1:List Int):Option Bool:=if (l0.length:Int) > 1048576 then some true else if (l1.length:Int) > 1048576 then some true else (spec_DrawRootedList.f k l0).bind fun d=>(impl_RootedList.f d.1 d.2).bind fun o=>(spec_RootedList.f k d.1 d.2).bind fun u=>if o.2 = u.2∧laws_sameMaps.f 400 o.1 u.1 = some true then (if o.2 = true then (if (o.1.length≤1000∧1≤d.1∧d.1≤3)∧impl_RootedCount.f d.1 d.2 = some (o.1.length:Int)∧laws_FnRootedList.all 400 d.1 d.2 (Int.tmod (l1.length:Int) (2 * d.1)) o.1 o.1 0 = true then some true else none) else some true) else none
theorem laws_FnRootedList.inb {w:World} {a:Addr} {v:Value} (h:w.cell? a = some v):a.block < w.heap.size:=by
 refine Nat.lt_of_not_le fun hle=>?_
 have h1:w.heap[a.block]? = none:=Array.getElem?_eq_none hle
 simp [World.cell?,h1] at h
/-- a map at two cells -/
abbrev laws_FnRootedList.At (W:World) (p q:Addr) (A B:Option Addr) (c d:Nat) (x y:List Int):Prop:=(W.cell? p = some (.slice A x.length c)∧W.cell? q = some (.slice B y.length d))∧(x.length≤c∧Kd.C (Kd.int .i64) W A x.length x)∧(y.length≤d∧Kd.C (Kd.int .i64) W B y.length y)
theorem laws_FnRootedList.At.below {W W':World} {p q:Addr} {A B:Option Addr} {c d:Nat} {x y:List Int} (h:laws_FnRootedList.At W p q A B c d x y) (hb:Below W.heap.size W W'):laws_FnRootedList.At W' p q A B c d x y :=
 ⟨⟨(hb.cell (laws_FnRootedList.inb h.1.1)).trans h.1.1,(hb.cell (laws_FnRootedList.inb h.1.2)).trans h.1.2⟩,⟨h.2.1.1,zW h.2.1.2 hb⟩,⟨h.2.2.1,zW h.2.2.2 hb⟩⟩
theorem laws_FnRootedList.At.new {W:World} {A B:Option Addr} {c d:Nat} {x y:List Int} (h1:x.length≤c∧Kd.C (Kd.int .i64) W A x.length x) (h2:y.length≤d∧Kd.C (Kd.int .i64) W B y.length y):laws_FnRootedList.At (W.alloc (.cells #[.slice A x.length c,.slice B y.length d] 33 (0,0))) ⟨W.heap.size,0,none⟩ ⟨W.heap.size,1,none⟩ A B c d x y :=
 ⟨⟨by rw [World.cell?_alloc_new];rfl,by rw [World.cell?_alloc_new];rfl⟩,⟨h1.1,Kd.C_alloc h1.2 _⟩,⟨h2.1,Kd.C_alloc h2.2 _⟩⟩
theorem laws_FnRootedList.At.set {W:World} {g:Nat} {A B:Option Addr} {c d:Nat} {x y:List Int} {base base':Nat} {P P':Nat→Prop} {p q:Value} (hg:W.heap[g]? = some (.cells #[p,q] 33 (0,0))) (h1:Kd.R (Kd.int .i64) 3 W base P (.slice A x.length c) x) (h2:Kd.R (Kd.int .i64) 3 W base' P' (.slice B y.length d) y):laws_FnRootedList.At ((W.setCell ⟨g,0,none⟩ (.slice A x.length c)).setCell ⟨g,1,none⟩ (.slice B y.length d)) ⟨g,0,none⟩ ⟨g,1,none⟩ A B c d x y:=by
 have hb:=blk_put (cs':=#[.slice A x.length c,q]) hg 0 (.slice A x.length c) rfl
 have hb2:=blk_put (cs':=#[.slice A x.length c,.slice B y.length d]) hb 1 (.slice B y.length d) rfl
 have r1:=Kd.R_set (Kd.R_set h1 hg (by decide) 0 (.slice A x.length c)) hb (by decide) 1 (.slice B y.length d)
 have r2:=Kd.R_set (Kd.R_set h2 hg (by decide) 0 (.slice A x.length c)) hb (by decide) 1 (.slice B y.length d)
 exact ⟨⟨(zT hb2 0).trans rfl,(zT hb2 1).trans rfl⟩,(zU r1).2,(zU r2).2⟩
/-- an element of a list of maps -/
theorem laws_FnRootedList.elem {W:World} {b:Nat} {L:List S33} (h:Kd.C k33 W (some ⟨b,0,none⟩) L.length L) (j:Nat) (hj:j < L.length):∃ A B c d,laws_FnRootedList.At W ⟨b,j * 2,none⟩ ⟨b,j * 2+1,none⟩ A B c d (L.getD j ⟨[],[]⟩).f0 (L.getD j ⟨[],[]⟩).f1:=by
 obtain ⟨_,_,h⟩:=h
 obtain ⟨ad,he,h⟩:=h (by omega)
 cases he
 have hg:L[j]? = some (L.getD j ⟨[],[]⟩):=by rw [List.getD_eq_getElem?_getD,List.getElem?_eq_getElem hj];rfl
 obtain ⟨cs,hl,hK,hc⟩:=h j _ hg
 obtain ⟨A,c,B,d,rfl,l0,g0,l1,g1⟩:=k33_open hK
 have e0:=hc 0 _ rfl
 have e1:=hc 1 _ rfl
 rw [add_at] at e0 e1
 have s0:0+(j * k33.sz+0) = j * 2:=by show 0+(j * 2+0) = _;omega
 have s1:0+(j * k33.sz+1) = j * 2+1:=by show 0+(j * 2+1) = _;omega
 rw [s0] at e0
 rw [s1] at e1
 exact ⟨A,B,c,d,⟨e0,e1⟩,⟨l0,g0⟩,⟨l1,g1⟩⟩
theorem laws_FnRootedList.w2 {e e2:Int} {n:Nat} (h:e2 = 2 * e) (h1:n≤1000∧1≤e∧e≤3):wrap64 (2 * e) = e2:=by
 subst h
 unfold wrap64
 omega
theorem laws_FnRootedList.ne {x y:Int} (h:x = y):(x != y) = false:=by
 rw [h]
 simp
theorem laws_FnRootedList.drop_at (L:List S33) (j:Nat) (h:j < L.length):L.drop j = L.getD j ⟨[],[]⟩ :: L.drop (j+1):=by
 rw [List.drop_eq_getElem_cons h,List.getD_eq_getElem?_getD,List.getElem?_eq_getElem h,Option.getD_some]
set_option maxHeartbeats 32000000 in
set_option maxRecDepth 100000 in
theorem laws_FnRootedList.calls (k:Nat) (A0:Option Addr) (c0:Nat) (l0:List Int) (A1:Option Addr) (c1:Nat) (l1:List Int) (r:Bool) (w:World) (hr0:Kd.C (Kd.int .u8) w A0 l0.length l0) (hc0:l0.length≤c0) (hr1:Kd.C (Kd.int .u8) w A1 l1.length l1) (hc1:l1.length≤c1) (h:laws_FnRootedList.f k l0 l1 = some r) :
  Calls Try.prog 4 #[.slice A0 l0.length c0,.slice A1 l1.length c1] w fun e w'=>e = .returned (.bool r)∧Below w.heap.size w w':=by
 unfold laws_FnRootedList.f at h
 by_cases b1:(l0.length:Int) > 1048576
 ·rw [if_pos b1] at h
  obtain rfl:=zS h
  have b1b:decide (1048576 < (l0.length:Int)) = true:=zO b1
  have HB:=zA (Below.refl w.heap.size w)
  clear h b1
  go_enter Try.func4,Try.ntmps4
  go_wp2
  go_ret
  exact ⟨rfl,HB.out⟩
 rw [if_neg b1] at h
 have b1b:decide (1048576 < (l0.length:Int)) = false:=zP b1
 clear b1
 by_cases b2:(l1.length:Int) > 1048576
 ·rw [if_pos b2] at h
  obtain rfl:=zS h
  have b2b:decide (1048576 < (l1.length:Int)) = true:=zO b2
  have HB:=zA (Below.refl w.heap.size w)
  clear h b2
  go_enter Try.func4,Try.ntmps4
  go_wp2
  go_ret
  exact ⟨rfl,HB.out⟩
 rw [if_neg b2] at h
 have b2b:decide (1048576 < (l1.length:Int)) = false:=zP b2
 have HN1:=zA (show (l1.length:Int)≤1048576 by omega)
 clear b2
 obtain ⟨⟨e,g⟩,hd,h⟩:=zz0 h
 obtain ⟨⟨L,ok⟩,hL,h⟩:=zz0 h
 obtain ⟨⟨U,ok2⟩,hU,h⟩:=zz0 h
 simp only at h hL hU
 by_cases b3:¬ (ok = ok2∧laws_sameMaps.f 400 L U = some true)
 ·rw [if_neg b3] at h;cases h
 replace b3:=Classical.not_not.mp b3
 rw [if_pos b3] at h
 obtain ⟨rfl,hs⟩:=b3
 have HD:=zA hd
 have HI:=zA hL
 have HU:=zA hU
 have HS:=zA hs
 have HR0:=zA hr0
 have HC0:=zA hc0
 have HH:=zA h
 clear hd hL hU hs hr0 hc0 hr1 hc1 h
 go_enter Try.func4,Try.ntmps4
 go_upto_region 4 with (go_at_call 17;refine (spec_DrawRootedList.calls k A0 c0 l0 e g w HR0.out HC0.out HD.out).mono ?_;rintro ee w1 ⟨rfl,hb⟩;have HB1:=zA hb;clear hb)
 go_upto_region 5 with (go_at_call 18;refine (impl_RootedList.calls e g L ok w1 HI.out).mono ?_;rintro ee w2 ⟨v2,rfl,ho,hb⟩;obtain ⟨A,c,rfl⟩:=Kd.S_slice ho;have HF:=zA (show 0 < L.length → ∃ b,A = some ⟨b,0,none⟩ from fun hp=>by obtain ⟨b,cap,e,_⟩:=Kd.S_form ho hp;injection e with e _ _;exact ⟨b,e⟩);have HL2:=zA (Kd.S_reads' ho).2;have HB2:=zA (zR HB1.out hb);clear ho hb)
 clear HB1 HD HR0 HC0 b1b b2b
 go_upto_region 6 with (go_at_call 19;refine (spec_RootedList.calls k e g U ok w2 HU.out).mono ?_;rintro ee w3 ⟨v3,rfl,ho,hb⟩;obtain ⟨Au,cu,rfl⟩:=Kd.V_slice ho;have HU3:=zA (Kd.V_reads' ho).2;have HL3:=zA (And.intro HL2.out.1 (zW HL2.out.2 hb));have HB3:=zA (zR HB2.out hb);clear ho hb)
 clear HB2 HL2 HU HI
 have h:=HH.out
 clear HH
 cases ok with
 | false =>
  rw [if_neg (by simp)] at h
  obtain rfl:=zS h
  clear h
  go_wp2_with (first|(go_at_call 20;with_reducible refine (laws_sameMaps.calls 400 A c L Au cu U true w3 HL3.out.2 HL3.out.1 HU3.out.2 HU3.out.1 HS.out).mono ?_;rintro ee w4 ⟨rfl,hb⟩;have HL4:=zA (zW HL3.out.2 hb);have HU4:=zA (zW HU3.out.2 hb);have HB4:=zA (zR HB3.out hb);clear hb)|(go_at_call 20;with_reducible refine (laws_sameMaps.calls 400 A c L Au cu U true w4 HL4.out HL3.out.1 HU4.out HU3.out.1 HS.out).mono ?_;rintro ee w5 ⟨rfl,hb⟩;have HB5:=zA (zR HB4.out hb);clear hb))
  go_ret
  exact ⟨rfl,HB5.out⟩
 | true =>
  rw [if_pos rfl] at h
  by_cases b4:¬ ((L.length≤1000∧1≤e∧e≤3)∧impl_RootedCount.f e g = some (L.length:Int)∧laws_FnRootedList.all 400 e g (Int.tmod (l1.length:Int) (2 * e)) L L 0 = true)
  ·rw [if_neg b4] at h;cases h
  replace b4:=Classical.not_not.mp b4
  rw [if_pos b4] at h
  obtain rfl:=zS h
  obtain ⟨e2,he2⟩:∃ e2,e2 = 2 * e:=⟨_,rfl⟩
  rw [← he2] at b4
  obtain ⟨rr,hrr⟩:∃ rr,rr = Int.tmod (l1.length:Int) e2:=⟨_,rfl⟩
  rw [← hrr] at b4
  have HE:=zA b4.1
  have HCN:=zA b4.2.1
  have HALL:=zA b4.2.2
  have HE2:=zA he2
  have HRR:=zA hrr
  clear h b4 he2 hrr
  go_upto_block 0 with (go_at_call 20;refine (laws_sameMaps.calls 400 A c L Au cu U true w3 HL3.out.2 HL3.out.1 HU3.out.2 HU3.out.1 HS.out).mono ?_;rintro ee w4 ⟨rfl,hb⟩;have HL4:=zA (And.intro HL3.out.1 (zW HL3.out.2 hb));have HB4:=zA (zR HB3.out hb);clear hb)
  clear HL3 HU3 HB3 HS
  go_cut [] (fun wd=>Aside0 (Below w4.heap.size w4 wd))
  case first =>
   go_wp2
   go_loopg [11] L.length (fun d v11 wr => ∃ (ms:List S33) (i:Int),v11 = .int .i64 i∧Aside0 (0≤i∧i.toNat+d = L.length∧ms = L.drop i.toNat)∧Aside0 (laws_FnRootedList.all 400 e g rr L ms i.toNat = true)∧Aside0 (Below w4.heap.size w4 wr))
   case atStart=>exact ⟨L,0,rfl,⟨by omega,by simp,by simp⟩,HALL,⟨Below.refl _ _⟩⟩
   case round =>
    clear HALL HCN
    obtain ⟨ms,i,rfl,HI,HALL,HBr⟩:=hrel
    cases gk with
    | zero =>
     have hc:decide (i < (L.length:Int)) = false:=zP (by have:=HI.out;omega)
     go_wp2
     go_meet
     case rel=>exact HBr
    | succ d =>
     have hi:i.toNat < L.length:=by have:=HI.out;omega
     have hc:decide (i < (L.length:Int)) = true:=zO (by have:=HI.out;omega)
     obtain ⟨m,hm⟩:∃ m,m = L.getD i.toNat ⟨[],[]⟩:=⟨_,rfl⟩
     have hall:=HALL.out
     rw [HI.out.2.2,laws_FnRootedList.drop_at L i.toNat hi, ← hm] at hall
     simp only [laws_FnRootedList.all,Bool.and_eq_true,beq_iff_eq] at hall
     obtain ⟨h,hn⟩:=hall
     have HNX:=zA hn
     unfold laws_FnRootedList.el at h
     obtain ⟨⟨x0,x1,x2⟩,h1,h⟩:=zz0 h
     obtain ⟨⟨d0,d1,d2⟩,h2,h⟩:=zz0 h
     obtain ⟨⟨y0,y1,y2⟩,h3,h⟩:=zz0 h
     obtain ⟨⟨z0,z1,z2⟩,h4,h⟩:=zz0 h
     obtain ⟨ab,h5,h⟩:=zz0 h
     obtain ⟨s,h6,h⟩:=zz0 h
     obtain ⟨gg,h7,h⟩:=zz0 h
     simp only at h h1 h2 h3 h4 h5 h6 h7
     by_cases b5:¬ (x2 = true∧d2 = true∧y2 = true∧z2 = true∧ab = (true,true)∧s = true∧gg = g∧(m.f0.length:Int) = 2 * e)
     ·rw [if_neg b5] at h;cases h
     replace b5:=Classical.not_not.mp b5
     obtain ⟨rfl,rfl,rfl,rfl,rfl,rfl,hgg,hme⟩:=b5
     replace hgg:=hgg.symm
     subst hgg
     have H1:=zA h1
     have H2:=zA h2
     have H3:=zA h3
     have H4:=zA h4
     have H5:=zA h5
     have H6:=zA h6
     have H7:=zA h7
     have HME:=zA (show (m.f0.length:Int) = e2 by rw [HE2.out];exact hme)
     have HM:=zA hm
     have HII:=zA hi
     obtain ⟨b,rfl⟩:=HF.out (by omega)
     have HLr:=zA (zW HL4.out.2 HBr.out)
     have i1:(0≤i) = True:=eq_true HI.out.1
     have i2:(i < (L.length:Int)) = True:=eq_true (by have:=HI.out;omega)
     clear h h1 h2 h3 h4 h5 h6 h7 hme hn hm hi HALL
     go_upto_region 11 with (fail)
     have HEL:=zA (laws_FnRootedList.elem HLr.out i.toNat HII.out)
     obtain ⟨Am,Bm,cm,dm,hel⟩:=HEL.out
     rw [← HM.out] at hel
     have HM1:=zA hel
     have e0:=hel.1.1
     have e1:=hel.1.2
     clear hel HEL
     go_cut [12,13] (fun v12 v13 wd => ∃ (gx:Nat) (Ax Bx:Option Addr) (cx dx:Nat),v12 = .pointer (some ⟨gx,0,none⟩)∧v13 = .bool true∧Aside0 (laws_FnRootedList.At wd ⟨gx,0,none⟩ ⟨gx,1,none⟩ Ax Bx cx dx x0 x1)∧Aside0 (Below wr.heap.size wr wd))
     case first =>
      as_aux_lemma =>
       go_wp2_with (go_at_call 21;refine (impl_MapForm.calls 400 Am cm m.f0 Bm dm m.f1 0 x0 x1 true wr HM1.out.2.1.2 HM1.out.2.1.1 HM1.out.2.2.2 HM1.out.2.2.1 H1.out).mono ?_;rintro ee w6 ⟨v0,v1,rfl,hq,hr,hb⟩;obtain ⟨Ax,cx,rfl⟩:=zg hq;obtain ⟨Bx,dx,rfl⟩:=zg hr;have HX6:=zA (zU hq).2;have HY6:=zA (zU hr).2;have HB6:=zA hb;clear hq hr hb)
       go_meet
       case rel=>exact ⟨w6.heap.size,Ax,Bx,cx,dx,rfl,rfl,⟨laws_FnRootedList.At.new HX6.out HY6.out⟩,⟨zD HB6.out _⟩⟩
     case rest =>
      clear e0 e1
      obtain ⟨gx,Ax,Bx,cx,dx,rfl,rfl,HX,hb⟩:=hcut
      have HM2:=zA (HM1.out.below hb.out)
      have HLs:=zA (zW HLr.out hb.out)
      have HBs:=zA (zR HBr.out hb.out)
      clear HM1 HLr HBr hb H1
      go_upto_region 12 with (fail)
      have e0:=HM2.out.1.1
      have e1:=HM2.out.1.2
      go_cut [14,15] (fun v14 v15 wd => ∃ (gd:Nat) (Ad Bd:Option Addr) (cd dd:Nat),v14 = .pointer (some ⟨gd,0,none⟩)∧v15 = .bool true∧Aside0 (laws_FnRootedList.At wd ⟨gd,0,none⟩ ⟨gd,1,none⟩ Ad Bd cd dd d0 d1)∧Aside0 (Below wc.heap.size wc wd))
      case first =>
       as_aux_lemma =>
        go_wp2_with (go_at_call 22;refine (impl_MapDual.calls 400 Am cm m.f0 Bm dm m.f1 d0 d1 true wc HM2.out.2.1.2 HM2.out.2.1.1 HM2.out.2.2.2 HM2.out.2.2.1 H2.out).mono ?_;rintro ee w6 ⟨v0,v1,rfl,hq,hr,hb⟩;obtain ⟨Ad,cd,rfl⟩:=zg hq;obtain ⟨Bd,dd,rfl⟩:=zg hr;have HX6:=zA (zU hq).2;have HY6:=zA (zU hr).2;have HB6:=zA hb;clear hq hr hb)
        go_meet
        case rel=>exact ⟨w6.heap.size,Ad,Bd,cd,dd,rfl,rfl,⟨laws_FnRootedList.At.new HX6.out HY6.out⟩,⟨zD HB6.out _⟩⟩
      case rest =>
       clear e0 e1
       obtain ⟨gd,Ad,Bd,cd,dd,rfl,rfl,HDu,hb⟩:=hcut
       have HM3:=zA (HM2.out.below hb.out)
       have HX3:=zA (HX.out.below hb.out)
       have HLt:=zA (zW HLs.out hb.out)
       have HBt:=zA (zR HBs.out hb.out)
       clear HM2 HX HLs HBs hb H2
       go_upto_region 13 with (fail)
       have e0:=HDu.out.1.1
       have e1:=HDu.out.1.2
       go_cut [16,17] (fun v16 v17 wd => ∃ (gy:Nat) (Ay By:Option Addr) (cy dy:Nat),v16 = .pointer (some ⟨gy,0,none⟩)∧v17 = .bool true∧Aside0 (laws_FnRootedList.At wd ⟨gy,0,none⟩ ⟨gy,1,none⟩ Ay By cy dy y0 y1)∧Aside0 (Below wc.heap.size wc wd))
       case first =>
        as_aux_lemma =>
         go_wp2_with (go_at_call 21;refine (impl_MapForm.calls 400 Ad cd d0 Bd dd d1 0 y0 y1 true wc HDu.out.2.1.2 HDu.out.2.1.1 HDu.out.2.2.2 HDu.out.2.2.1 H3.out).mono ?_;rintro ee w6 ⟨v0,v1,rfl,hq,hr,hb⟩;obtain ⟨Ay,cy,rfl⟩:=zg hq;obtain ⟨By,dy,rfl⟩:=zg hr;have HX6:=zA (zU hq).2;have HY6:=zA (zU hr).2;have HB6:=zA hb;clear hq hr hb)
         go_meet
         case rel=>exact ⟨w6.heap.size,Ay,By,cy,dy,rfl,rfl,⟨laws_FnRootedList.At.new HX6.out HY6.out⟩,⟨zD HB6.out _⟩⟩
       case rest =>
        clear e0 e1
        obtain ⟨gy,Ay,By,cy,dy,rfl,rfl,HY,hb⟩:=hcut
        have HM4:=zA (HM3.out.below hb.out)
        have HX4:=zA (HX3.out.below hb.out)
        have HLu:=zA (zW HLt.out hb.out)
        have HBu:=zA (zR HBt.out hb.out)
        clear HM3 HX3 HDu HLt HBt hb H3
        go_upto_region 14 with (fail)
        have e0:=HM4.out.1.1
        have e1:=HM4.out.1.2
        have hw:IntKind.i64.wrap (2 * e) = e2:=(i64_w _).trans (by rw [HE2.out];have:=HE.out;unfold wrap64;omega)
        have hz:¬ e2 = 0:=by rw [HE2.out];have:=HE.out;omega
        have hzb:(e2 == 0) = false:=beq_eq_false_iff_ne.mpr hz
        have hrr:Int.tmod (l1.length:Int) e2 = rr:=HRR.out.symm
        have hrw:IntKind.i64.wrap rr = rr:=(i64_w _).trans (by
         have h1:=Int.tmod_nonneg (a:=(l1.length:Int)) e2 (by omega)
         have h2:=Int.tmod_lt_of_pos (l1.length:Int) (b:=e2) (by rw [HE2.out];have:=HE.out;omega)
         rw [hrr] at h1 h2
         have h3:=HE2.out
         have h4:=HE.out
         unfold wrap64;omega)
        have HN:=zA (show ∀ W,Below wc.heap.size wc W→W.cell? ⟨b,i.toNat * 2,none⟩ = some (.slice Am m.f0.length cm)∧W.cell? ⟨b,i.toNat * 2+1,none⟩ = some (.slice Bm m.f1.length dm) from fun W hb=>⟨(HM4.out.below hb).1.1,(HM4.out.below hb).1.2⟩)
        go_cut [18,19] (fun v18 v19 wd => ∃ (gz:Nat) (Az Bz:Option Addr) (cz dz:Nat),v18 = .pointer (some ⟨gz,0,none⟩)∧v19 = .bool true∧Aside0 (laws_FnRootedList.At wd ⟨gz,0,none⟩ ⟨gz,1,none⟩ Az Bz cz dz z0 z1)∧Aside0 (Below wc.heap.size wc wd))
        case first =>
         as_aux_lemma =>
          go_region_held3 (fun w'=>w'.cell? ⟨b,i.toNat * 2,none⟩ = some (.slice Am m.f0.length cm)∧w'.cell? ⟨b,i.toNat * 2+1,none⟩ = some (.slice Bm m.f1.length dm)) (first|exact HN.out _ (by repeat (first|exact HB6.out|exact Below.refl _ _|apply zD|apply zC|apply zB|refine zF ?_ HG.out))|go_keep) (first|(go_at_call 21;refine (impl_MapForm.calls 400 Am cm m.f0 Bm dm m.f1 rr z0 z1 true _ ?s1 HM4.out.2.1.1 ?s2 HM4.out.2.2.1 H4.out).mono ?_;(case s1=>exact zW HM4.out.2.1.2 (by repeat (first|exact Below.refl _ _|apply zD|apply zC|apply zB)));(case s2=>exact zW HM4.out.2.2.2 (by repeat (first|exact Below.refl _ _|apply zD|apply zC|apply zB)));rintro ee w6 ⟨v0,v1,rfl,hq,hr,hb⟩;obtain ⟨Az,cz,rfl⟩:=zg hq;obtain ⟨Bz,dz,rfl⟩:=zg hr;have HX6:=zA hq;have HY6:=zA hr;have HB6:=zA (zR (w:=wc) (by repeat (first|exact Below.refl _ _|apply zD|apply zC|apply zB)) hb);(first|(have HQ:=zA (zX (show (World.drew (World.alloc wc _)).heap[wc.heap.size]? = some (.cells #[.slice none 0 0,.slice none 0 0] 33 (0,0)) from blk_new wc _) hb);have HG:=zA (Nat.le_refl wc.heap.size);have hc0:=(zT HQ.out 0).trans rfl;have hc1:=(zT HQ.out 1).trans rfl;have hf0:=zZ HQ.out 0;have hf1:=zZ HQ.out 1)|skip);clear hq hr hb))
          all_goals go_wp2
          all_goals go_meet
          all_goals (first|exact ⟨_,Az,Bz,cz,dz,rfl,rfl,⟨laws_FnRootedList.At.new (zU HX6.out).2 (zU HY6.out).2⟩,⟨zD HB6.out _⟩⟩|exact ⟨_,Az,Bz,cz,dz,rfl,rfl,⟨laws_FnRootedList.At.set HQ.out HX6.out HY6.out⟩,⟨zF (zF HB6.out HG.out) HG.out⟩⟩)
        case rest =>
         clear e0 e1 hrr hrw hw hz hzb HN
         obtain ⟨gz,Az,Bz,cz,dz,rfl,rfl,HZ,hb⟩:=hcut
         have HM5:=zA (HM4.out.below hb.out)
         have HX5:=zA (HX4.out.below hb.out)
         have HY5:=zA (HY.out.below hb.out)
         have HLv:=zA (zW HLu.out hb.out)
         have HBv:=zA (zR HBu.out hb.out)
         clear HM4 HX4 HY HLu HBu hb H4
         go_upto_block 2 with (fail)
         go_cut [20,21] (fun v20 v21 wd=>v20 = .bool true∧v21 = .bool true∧Aside0 (Below wc.heap.size wc wd))
         case first =>
          as_aux_lemma =>
           go_wp2
           go_loopg [20,21,22] L.length (fun d2 v20 v21 v22 wq => ∃ (qs:List S33) (j:Int) (a bb:Bool),v20 = .bool a∧v21 = .bool bb∧v22 = .int .i64 j∧Aside0 (0≤j∧j.toNat+d2 = L.length∧qs = L.drop j.toNat)∧Aside0 (laws_FnRootedList.inn 400 i.toNat m y0 y1 z0 z1 qs j.toNat a bb = some (true,true))∧Aside0 (Below wc.heap.size wc wq))
           case atStart=>exact ⟨L,0,false,false,rfl,rfl,rfl,⟨by omega,by simp,by simp⟩,H5,⟨Below.refl _ _⟩⟩
           case round =>
            clear H5
            obtain ⟨qs,j,a,bb,rfl,rfl,rfl,HJ,HIN,HBq⟩:=hrel
            cases gk with
            | zero =>
             have hcj:decide (j < (L.length:Int)) = false:=zP (by have:=HJ.out;omega)
             have hin:=HIN.out
             rw [HJ.out.2.2,List.drop_eq_nil_of_le (by have:=HJ.out;omega)] at hin
             simp only [laws_FnRootedList.inn,Option.some.injEq,Prod.mk.injEq] at hin
             obtain ⟨rfl,rfl⟩:=hin
             go_wp2
             go_meet
             case rel=>exact ⟨rfl,rfl,HBq⟩
            | succ dd2 =>
             have hj:j.toNat < L.length:=by have:=HJ.out;omega
             have hcj:decide (j < (L.length:Int)) = true:=zO (by have:=HJ.out;omega)
             obtain ⟨q,hq⟩:∃ q,q = L.getD j.toNat ⟨[],[]⟩:=⟨_,rfl⟩
             have hin:=HIN.out
             rw [HJ.out.2.2,laws_FnRootedList.drop_at L j.toNat hj, ← hq] at hin
             simp only [laws_FnRootedList.inn] at hin
             obtain ⟨s1,h1,hin⟩:=zz0 hin
             obtain ⟨s2,h2,hin⟩:=zz0 hin
             obtain ⟨s3,h3,hin⟩:=zz0 hin
             by_cases b6:¬ (j.toNat = i.toNat∨s3 = false)
             ·rw [if_neg b6] at hin;cases hin
             replace b6:=Classical.not_not.mp b6
             rw [if_pos b6] at hin
             have HS1:=zA h1
             have HS2:=zA h2
             have HS3:=zA h3
             have HB6:=zA b6
             have HNJ:=zA hin
             have HQ:=zA hq
             have HJJ:=zA hj
             have HLq:=zA (zW HLv.out HBq.out)
             have HYq:=zA (HY5.out.below HBq.out)
             have HZq:=zA (HZ.out.below HBq.out)
             have HMq:=zA (HM5.out.below HBq.out)
             have j1:(0≤j) = True:=eq_true HJ.out.1
             have j2:(j < (L.length:Int)) = True:=eq_true (by have:=HJ.out;omega)
             have HWJ:=zA (show wrap64 (j+1) = j+1 by have:=HJ.out;have:=HE.out;unfold wrap64;omega)
             clear h1 h2 h3 b6 hin hq hj HIN
             go_upto_region 20 with (fail)
             have HEL:=zA (laws_FnRootedList.elem HLq.out j.toNat HJJ.out)
             obtain ⟨Aq,Bq,cq,dq,hel⟩:=HEL.out
             rw [← HQ.out] at hel
             have HQq:=zA hel
             clear hel HEL HLq
             go_cut [20] (fun v20 wd=>v20 = .bool (a || s1)∧Aside0 (Below wr.heap.size wr wd))
             case first =>
              as_aux_lemma =>
               cases a with
               | true =>
                go_quiet (fail)
                go_wp2
                go_meet
                case rel=>exact ⟨rfl,⟨by repeat (first|exact Below.refl _ _|apply zB|apply zC)⟩⟩
               | false =>
                have HN:=zA (show ∀ W,Below wr.heap.size wr W→(W.cell? ⟨b,j.toNat * 2,none⟩ = some (.slice Aq q.f0.length cq)∧W.cell? ⟨b,j.toNat * 2+1,none⟩ = some (.slice Bq q.f1.length dq))∧W.cell? ⟨gy,0,none⟩ = some (.slice Ay y0.length cy)∧W.cell? ⟨gy,1,none⟩ = some (.slice By y1.length dy) from fun W hb=>⟨⟨(HQq.out.below hb).1.1,(HQq.out.below hb).1.2⟩,(HYq.out.below hb).1.1,(HYq.out.below hb).1.2⟩)
                have e0:=HQq.out.1.1
                have e1:=HQq.out.1.2
                have e2_:=HYq.out.1.1
                have e3:=HYq.out.1.2
                go_region_held3 (fun w'=>(w'.cell? ⟨b,j.toNat * 2,none⟩ = some (.slice Aq q.f0.length cq)∧w'.cell? ⟨b,j.toNat * 2+1,none⟩ = some (.slice Bq q.f1.length dq))∧w'.cell? ⟨gy,0,none⟩ = some (.slice Ay y0.length cy)∧w'.cell? ⟨gy,1,none⟩ = some (.slice By y1.length dy)) (first|exact HN.out _ (by repeat (first|exact HBz.out|exact HBy.out|exact Below.refl _ _|apply zD|apply zC|apply zB))|go_keep) (first|(go_at_call 23;refine (laws_sameMap.calls 400 Aq cq q.f0 Bq dq q.f1 Ay cy y0 By dy y1 s1 _ ?s1 HQq.out.2.1.1 ?s2 HQq.out.2.2.1 ?s3 HYq.out.2.1.1 ?s4 HYq.out.2.2.1 HS1.out).mono ?_;(case s1=>exact zW HQq.out.2.1.2 (by repeat (first|exact HBz.out|exact HBy.out|exact Below.refl _ _|apply zD|apply zC|apply zB)));(case s2=>exact zW HQq.out.2.2.2 (by repeat (first|exact HBz.out|exact HBy.out|exact Below.refl _ _|apply zD|apply zC|apply zB)));(case s3=>exact zW HYq.out.2.1.2 (by repeat (first|exact HBz.out|exact HBy.out|exact Below.refl _ _|apply zD|apply zC|apply zB)));(case s4=>exact zW HYq.out.2.2.2 (by repeat (first|exact HBz.out|exact HBy.out|exact Below.refl _ _|apply zD|apply zC|apply zB)));rintro ee w6 ⟨rfl,hb⟩;have HBy:=zA (zR (w:=wr) (by repeat (first|exact HBz.out|exact HBy.out|exact Below.refl _ _|apply zD|apply zC|apply zB)) hb);clear hb))
                all_goals go_wp2
                all_goals go_meet
                all_goals exact ⟨by first|rfl|simp,⟨by repeat (first|exact HBy.out|apply zB|apply zC)⟩⟩
             case rest =>
              obtain ⟨rfl,hb⟩:=hcut
              have HQ1:=zA (HQq.out.below hb.out)
              have HY1:=zA (HYq.out.below hb.out)
              have HZ1:=zA (HZq.out.below hb.out)
              have HM1:=zA (HMq.out.below hb.out)
              have HB1:=zA (zR HBq.out hb.out)
              clear HQq HYq HZq HMq HBq hb HS1
              go_upto_region 21 with (fail)
              go_cut [21] (fun v21 wd=>v21 = .bool (bb || s2)∧Aside0 (Below wc.heap.size wc wd))
              case first =>
               as_aux_lemma =>
                cases bb with
                | true =>
                 go_quiet (fail)
                 go_wp2
                 go_meet
                 case rel=>exact ⟨rfl,⟨by repeat (first|exact Below.refl _ _|apply zB|apply zC)⟩⟩
                | false =>
                 have HN:=zA (show ∀ W,Below wc.heap.size wc W→(W.cell? ⟨b,j.toNat * 2,none⟩ = some (.slice Aq q.f0.length cq)∧W.cell? ⟨b,j.toNat * 2+1,none⟩ = some (.slice Bq q.f1.length dq))∧W.cell? ⟨gz,0,none⟩ = some (.slice Az z0.length cz)∧W.cell? ⟨gz,1,none⟩ = some (.slice Bz z1.length dz) from fun W hb=>⟨⟨(HQ1.out.below hb).1.1,(HQ1.out.below hb).1.2⟩,(HZ1.out.below hb).1.1,(HZ1.out.below hb).1.2⟩)
                 have e0:=HQ1.out.1.1
                 have e1:=HQ1.out.1.2
                 have e2_:=HZ1.out.1.1
                 have e3:=HZ1.out.1.2
                 go_region_held3 (fun w'=>(w'.cell? ⟨b,j.toNat * 2,none⟩ = some (.slice Aq q.f0.length cq)∧w'.cell? ⟨b,j.toNat * 2+1,none⟩ = some (.slice Bq q.f1.length dq))∧w'.cell? ⟨gz,0,none⟩ = some (.slice Az z0.length cz)∧w'.cell? ⟨gz,1,none⟩ = some (.slice Bz z1.length dz)) (first|exact HN.out _ (by repeat (first|exact HBz.out|exact HBy.out|exact Below.refl _ _|apply zD|apply zC|apply zB))|go_keep) (first|(go_at_call 23;refine (laws_sameMap.calls 400 Aq cq q.f0 Bq dq q.f1 Az cz z0 Bz dz z1 s2 _ ?s1 HQ1.out.2.1.1 ?s2 HQ1.out.2.2.1 ?s3 HZ1.out.2.1.1 ?s4 HZ1.out.2.2.1 HS2.out).mono ?_;(case s1=>exact zW HQ1.out.2.1.2 (by repeat (first|exact HBz.out|exact HBy.out|exact Below.refl _ _|apply zD|apply zC|apply zB)));(case s2=>exact zW HQ1.out.2.2.2 (by repeat (first|exact HBz.out|exact HBy.out|exact Below.refl _ _|apply zD|apply zC|apply zB)));(case s3=>exact zW HZ1.out.2.1.2 (by repeat (first|exact HBz.out|exact HBy.out|exact Below.refl _ _|apply zD|apply zC|apply zB)));(case s4=>exact zW HZ1.out.2.2.2 (by repeat (first|exact HBz.out|exact HBy.out|exact Below.refl _ _|apply zD|apply zC|apply zB)));rintro ee w6 ⟨rfl,hb⟩;have HBy:=zA (zR (w:=wc) (by repeat (first|exact HBz.out|exact HBy.out|exact Below.refl _ _|apply zD|apply zC|apply zB)) hb);clear hb))
                 all_goals go_wp2
                 all_goals go_meet
                 all_goals exact ⟨by first|rfl|simp,⟨by repeat (first|exact HBy.out|apply zB|apply zC)⟩⟩
              case rest =>
               obtain ⟨rfl,hb⟩:=hcut
               have HQ2:=zA (HQ1.out.below hb.out)
               have HM2:=zA (HM1.out.below hb.out)
               have HB2:=zA (zR HB1.out hb.out)
               clear HQ1 HY1 HZ1 HM1 HB1 hb HS2
               go_upto_region 22 with (fail)
               go_cut [146] (fun v146 wd=>v146 = .bool false∧Aside0 (Below wc.heap.size wc wd))
               case first =>
                as_aux_lemma =>
                 by_cases ji:j = i
                 ·have jib:(j != i) = false:=by rw [ji];simp
                  have jid:decide (j = i) = true:=zO ji
                  clear ji
                  go_quiet (fail)
                  go_wp2
                  go_meet
                  case rel=>exact ⟨rfl,⟨by repeat (first|exact Below.refl _ _|apply zB|apply zC)⟩⟩
                 ·have jib:(j != i) = true:=bne_iff_ne.mpr ji
                  have jid:decide (j = i) = false:=zP ji
                  have s3f:s3 = false:=HB6.out.resolve_left (fun h=>ji (by have:=HJ.out;have:=HI.out;omega))
                  subst s3f
                  clear ji
                  have HN:=zA (show ∀ W,Below wc.heap.size wc W→(W.cell? ⟨b,j.toNat * 2,none⟩ = some (.slice Aq q.f0.length cq)∧W.cell? ⟨b,j.toNat * 2+1,none⟩ = some (.slice Bq q.f1.length dq))∧W.cell? ⟨b,i.toNat * 2,none⟩ = some (.slice Am m.f0.length cm)∧W.cell? ⟨b,i.toNat * 2+1,none⟩ = some (.slice Bm m.f1.length dm) from fun W hb=>⟨⟨(HQ2.out.below hb).1.1,(HQ2.out.below hb).1.2⟩,(HM2.out.below hb).1.1,(HM2.out.below hb).1.2⟩)
                  have e0:=HQ2.out.1.1
                  have e1:=HQ2.out.1.2
                  have e2_:=HM2.out.1.1
                  have e3:=HM2.out.1.2
                  go_region_held3 (fun w'=>(w'.cell? ⟨b,j.toNat * 2,none⟩ = some (.slice Aq q.f0.length cq)∧w'.cell? ⟨b,j.toNat * 2+1,none⟩ = some (.slice Bq q.f1.length dq))∧w'.cell? ⟨b,i.toNat * 2,none⟩ = some (.slice Am m.f0.length cm)∧w'.cell? ⟨b,i.toNat * 2+1,none⟩ = some (.slice Bm m.f1.length dm)) (first|exact HN.out _ (by repeat (first|exact HBz.out|exact HBy.out|exact Below.refl _ _|apply zD|apply zC|apply zB))|go_keep) (first|(go_at_call 23;refine (laws_sameMap.calls 400 Aq cq q.f0 Bq dq q.f1 Am cm m.f0 Bm dm m.f1 false _ ?s1 HQ2.out.2.1.1 ?s2 HQ2.out.2.2.1 ?s3 HM2.out.2.1.1 ?s4 HM2.out.2.2.1 HS3.out).mono ?_;(case s1=>exact zW HQ2.out.2.1.2 (by repeat (first|exact HBz.out|exact HBy.out|exact Below.refl _ _|apply zD|apply zC|apply zB)));(case s2=>exact zW HQ2.out.2.2.2 (by repeat (first|exact HBz.out|exact HBy.out|exact Below.refl _ _|apply zD|apply zC|apply zB)));(case s3=>exact zW HM2.out.2.1.2 (by repeat (first|exact HBz.out|exact HBy.out|exact Below.refl _ _|apply zD|apply zC|apply zB)));(case s4=>exact zW HM2.out.2.2.2 (by repeat (first|exact HBz.out|exact HBy.out|exact Below.refl _ _|apply zD|apply zC|apply zB)));rintro ee w6 ⟨rfl,hb⟩;have HBy:=zA (zR (w:=wc) (by repeat (first|exact HBz.out|exact HBy.out|exact Below.refl _ _|apply zD|apply zC|apply zB)) hb);clear hb))
                  all_goals go_wp2
                  all_goals go_meet
                  all_goals exact ⟨by first|rfl|simp,⟨by repeat (first|exact HBz.out|exact HBy.out|apply zB|apply zC)⟩⟩
               case rest =>
                obtain ⟨rfl,hb⟩:=hcut
                have HB3:=zA (zR HB2.out hb.out)
                clear HQ2 HM2 HB2 hb HS3
                go_wp2
                go_roundg dd2
                case measure=>omega
                case rel=>exact ⟨L.drop (j.toNat+1),j+1,a || s1,bb || s2,rfl,rfl,by rw [HWJ.out],⟨by have:=HJ.out;omega,by have:=HJ.out;omega,by rw [show (j+1).toNat = j.toNat+1 by have:=HJ.out;omega]⟩,⟨by rw [show (j+1).toNat = j.toNat+1 by have:=HJ.out;omega];exact HNJ.out⟩,HB3⟩
         case rest =>
          obtain ⟨rfl,rfl,hb⟩:=hcut
          have HM6:=zA (HM5.out.below hb.out)
          have HX6:=zA (HX5.out.below hb.out)
          have HB7:=zA (zR HBv.out hb.out)
          clear HM5 HX5 HY5 HZ HLv HBv hb H5
          go_upto_region 24 with (fail)
          have hw2:=laws_FnRootedList.w2 HE2.out HE.out
          have hw:=(i64_w (2 * e)).trans hw2
          have hg1:=laws_FnRootedList.ne (rfl:g = g)
          have hg2:decide (g = g) = true:=zO rfl
          have hl1:=laws_FnRootedList.ne HME.out
          have hl2:decide ((m.f0.length:Int) = e2) = true:=zO HME.out
          go_cut [197] (fun v197 wd=>v197 = .bool false∧Aside0 (Below wc.heap.size wc wd))
          case first =>
           as_aux_lemma =>
            have HN:=zA (show ∀ W,Below wc.heap.size wc W→(W.cell? ⟨gx,0,none⟩ = some (.slice Ax x0.length cx)∧W.cell? ⟨gx,1,none⟩ = some (.slice Bx x1.length dx))∧W.cell? ⟨b,i.toNat * 2,none⟩ = some (.slice Am m.f0.length cm)∧W.cell? ⟨b,i.toNat * 2+1,none⟩ = some (.slice Bm m.f1.length dm) from fun W hb=>⟨⟨(HX6.out.below hb).1.1,(HX6.out.below hb).1.2⟩,(HM6.out.below hb).1.1,(HM6.out.below hb).1.2⟩)
            have e0:=HX6.out.1.1
            have e1:=HX6.out.1.2
            have e2_:=HM6.out.1.1
            have e3:=HM6.out.1.2
            go_region_held3 (fun w'=>(w'.cell? ⟨gx,0,none⟩ = some (.slice Ax x0.length cx)∧w'.cell? ⟨gx,1,none⟩ = some (.slice Bx x1.length dx))∧w'.cell? ⟨b,i.toNat * 2,none⟩ = some (.slice Am m.f0.length cm)∧w'.cell? ⟨b,i.toNat * 2+1,none⟩ = some (.slice Bm m.f1.length dm)) (first|exact HN.out _ (by repeat (first|exact HBz.out|exact HBy.out|exact Below.refl _ _|apply zD|apply zC|apply zB))|go_keep) (first|(go_at_call 23;refine (laws_sameMap.calls 400 Ax cx x0 Bx dx x1 Am cm m.f0 Bm dm m.f1 true _ ?s1 HX6.out.2.1.1 ?s2 HX6.out.2.2.1 ?s3 HM6.out.2.1.1 ?s4 HM6.out.2.2.1 H6.out).mono ?_;(case s1=>exact zW HX6.out.2.1.2 (by repeat (first|exact HBz.out|exact HBy.out|exact Below.refl _ _|apply zD|apply zC|apply zB)));(case s2=>exact zW HX6.out.2.2.2 (by repeat (first|exact HBz.out|exact HBy.out|exact Below.refl _ _|apply zD|apply zC|apply zB)));(case s3=>exact zW HM6.out.2.1.2 (by repeat (first|exact HBz.out|exact HBy.out|exact Below.refl _ _|apply zD|apply zC|apply zB)));(case s4=>exact zW HM6.out.2.2.2 (by repeat (first|exact HBz.out|exact HBy.out|exact Below.refl _ _|apply zD|apply zC|apply zB)));rintro ee w6 ⟨rfl,hb⟩;have HBy:=zA (zR (w:=wc) (by repeat (first|exact HBz.out|exact HBy.out|exact Below.refl _ _|apply zD|apply zC|apply zB)) hb);clear hb)|(go_at_call 24;refine (impl_MapGenus.calls 400 Am cm m.f0 Bm dm m.f1 g _ ?s1 HM6.out.2.1.1 ?s2 HM6.out.2.2.1 H7.out).mono ?_;(case s1=>exact zW HM6.out.2.1.2 (by repeat (first|exact HBz.out|exact HBy.out|exact Below.refl _ _|apply zD|apply zC|apply zB)));(case s2=>exact zW HM6.out.2.2.2 (by repeat (first|exact HBz.out|exact HBy.out|exact Below.refl _ _|apply zD|apply zC|apply zB)));rintro ee w7 ⟨rfl,hb⟩;have HBz:=zA (zR (w:=wc) (by repeat (first|exact HBz.out|exact HBy.out|exact Below.refl _ _|apply zD|apply zC|apply zB)) hb);clear hb))
            all_goals go_wp2
            all_goals go_meet
            all_goals exact ⟨by first|rfl|simp,⟨by repeat (first|exact HBz.out|exact HBy.out|apply zB|apply zC)⟩⟩
          case rest =>
           clear hw hw2 hg1 hg2 hl1 hl2
           obtain ⟨rfl,hb⟩:=hcut
           have HB8:=zA (zR HB7.out hb.out)
           have HWI:=zA (show wrap64 (i+1) = i+1 by have:=HI.out;have:=HE.out;unfold wrap64;omega)
           clear HB7 hb HM6 HX6 H6 H7
           go_wp2
           go_roundg d
           case measure=>omega
           case rel=>exact ⟨L.drop (i.toNat+1),i+1,by rw [HWI.out],⟨by have:=HI.out;omega,by have:=HI.out;omega,by rw [show (i+1).toNat = i.toNat+1 by have:=HI.out;omega]⟩,⟨by rw [show (i+1).toNat = i.toNat+1 by have:=HI.out;omega];exact HNX.out⟩,HB8⟩
  case rest =>
   have HB5:=zA (zR HB4.out hcut.out)
   clear hcut HB4 HL4 HALL HF
   have hcl:((L.length:Int) == (L.length:Int)) = true:=beq_self_eq_true _
   have hcl2:decide ((L.length:Int) = (L.length:Int)) = true:=zO rfl
   go_wp2_with (go_at_call 16;refine (impl_RootedCount.calls e g _ _ HCN.out).mono ?_;rintro ee w9 ⟨rfl,hb⟩;have HB9:=zA (zR HB5.out hb);clear hb)
   go_ret
   exact ⟨rfl,HB9.out⟩
def laws_FnRootedList.Pure:Prop := ∀ (l0 l1:List Int),l0.length≤maxLen→l0.length * 1≤140737488351232→(∀ x ∈ l0,(Lit.int .u8 x).wf = true)→l1.length≤maxLen→l1.length * 1≤140737488351232→(∀ x ∈ l1,(Lit.int .u8 x).wf = true) → ∃ k,laws_FnRootedList.f k l0 l1 = some true
theorem laws_FnRootedList.walk (P:laws_FnRootedList.Pure) (a0:Option Addr) (len0 cap0:Nat) (z0:List Int) (a1:Option Addr) (len1 cap1:Nat) (z1:List Int) (w:World) (w0:(a0 = none∧len0 = 0∧cap0 = 0∧z0 = []) ∨ ∃ x,a0 = some x∧len0≤cap0∧cap0≤maxLen∧z0.length = cap0∧(∀ i,i < z0.length→w.cell? (x.add i) = some (.int .u8 (z0.getD i 0))) ∧ ∀ n ∈ z0,(Lit.int .u8 n).wf = true) (y0:len0 * 1≤140737488351232) (w1:(a1 = none∧len1 = 0∧cap1 = 0∧z1 = []) ∨ ∃ x,a1 = some x∧len1≤cap1∧cap1≤maxLen∧z1.length = cap1∧(∀ i,i < z1.length→w.cell? (x.add i) = some (.int .u8 (z1.getD i 0))) ∧ ∀ n ∈ z1,(Lit.int .u8 n).wf = true) (y1:len1 * 1≤140737488351232) :
  Calls Try.prog 4 #[.slice a0 len0 cap0,.slice a1 len1 cap1] w fun e w'=>e = .returned (.bool true)∧Below w.heap.size w w':=by
 obtain ⟨l0,rfl,hr0,hm0,hw0,hc0⟩:=ReadsInt.ofRowC w0
 obtain ⟨l1,rfl,hr1,hm1,hw1,hc1⟩:=ReadsInt.ofRowC w1
 obtain ⟨k,h⟩:=P l0 l1 hm0 y0 hw0 hm1 y1 hw1
 exact laws_FnRootedList.calls k _ _ l0 _ _ l1 true w (Kd.C_of_reads (d:=(0:Int)) (h1:=fun _=>rfl) hr0) hc0 (Kd.C_of_reads (d:=(0:Int)) (h1:=fun _=>rfl) hr1) hc1 h

end Go.Proofs.Ytdaiohcgdpclnaa.Q
