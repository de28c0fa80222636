import Derived.Test.YtdaiohcgdpclnaaQ0
import Derived.Test.YtdaiohcgdpclnaaQ5
import Derived.Test.YtdaiohcgdpclnaaQ6
import Derived.Test.YtdaiohcgdpclnaaQ7
import Derived.Test.YtdaiohcgdpclnaaZ
namespace Go.Proofs.Ytdaiohcgdpclnaa.Q
open Go.RowKit Go.Proofs.YtdaiohcgdpclnaaW.PrintWords Go.Proofs.YtdaiohcgdpclnaaW.PrintLast Go.Proofs.YtdaiohcgdpclnaaW.PrintMore
attribute [local go_sem] max2_int min2_int max_two min_two max_three min_three max_four min_four   -- for this text's walks alone
set_option linter.unusedVariables false
set_option linter.unusedSimpArgs false

/-! ### spec_PermConj: function 112 -/
def spec_PermConj.f (k:Nat) (l0:List Int) (l1:List Int):Option (List Int × Bool):=(spec_l1Both.f k l0 l1).bind fun t420=>(if t420 = true then ((spec_l1Back.f k l1).bind fun t421=>((spec_l1Mul.f k t421 l0).bind fun t424=>((spec_l1Mul.f k t424 l1).bind fun t427=>(some (t427,true))))) else (some ((([]:List Int)),false)))
theorem spec_PermConj.mono:∀ a0 a1 k,LeO (spec_PermConj.f k a0 a1) (spec_PermConj.f (k+1) a0 a1):=by
 intro a0 a1 k
 unfold spec_PermConj.f
 repeat' first
   | (with_reducible exact spec_l1Back.mono _ _)
   | (with_reducible exact spec_l1Both.mono _ _ _)
   | (with_reducible exact spec_l1Mul.mono _ _ _)
   | (with_reducible exact LeO.refl _)
   | (with_reducible exact za _)
   | (with_reducible refine zc ?_ ?_)
   | (with_reducible refine zb ?_ (fun _=>?_))
set_option maxHeartbeats 8000000 in
set_option maxRecDepth 100000 in
theorem spec_PermConj.calls (k:Nat) (A0:Option Addr) (c0:Nat) (l0:List Int) (A1:Option Addr) (c1:Nat) (l1:List Int) (r1:List Int) (r2:Bool) (w:World) (hr0:Kd.C (Kd.int .i64) w A0 l0.length l0) (hc0:l0.length≤c0) (hr1:Kd.C (Kd.int .i64) w A1 l1.length l1) (hc1:l1.length≤c1) (h:spec_PermConj.f k l0 l1 = some (r1,r2)) :
  Calls Try.prog 112 #[.slice A0 l0.length c0,.slice A1 l1.length c1] w fun e w' => ∃ v0_:Value,e = .returned (.tuple #[v0_,.bool r2])∧Kd.R (Kd.int .i64) 3 w' w.heap.size (fun _=>True) v0_ r1∧Below w.heap.size w w':=by
 have HR0:=zA hr0
 have HC0:=zA hc0
 clear hr0 hc0
 have HR1:=zA hr1
 have HC1:=zA hc1
 clear hr1 hc1
 have HB:=zA (Below.refl w.heap.size w)
 have H:((spec_l1Both.f k l0 l1).bind fun t420=>(if t420 = true then ((spec_l1Back.f k l1).bind fun t421=>((spec_l1Mul.f k t421 l0).bind fun t424=>((spec_l1Mul.f k t424 l1).bind fun t427=>(some (t427,true))))) else (some ((([]:List Int)),false)))) = some (r1,r2):=h
 clear h
 replace H:=zz0 H
 obtain ⟨t420,A30,H⟩:=H
 try dsimp only at H
 have A3:=zA A30
 clear A30
 by_cases c4:t420 = true
 ·subst c4
  rw [if_pos rfl] at H;try dsimp only at H
  replace H:=zz0 H
  obtain ⟨t421,A50,H⟩:=H
  try dsimp only at H
  have A5:=zA A50
  clear A50
  replace H:=zz0 H
  obtain ⟨t424,A60,H⟩:=H
  try dsimp only at H
  have A6:=zA A60
  clear A60
  replace H:=zz0 H
  obtain ⟨t427,A70,H⟩:=H
  try dsimp only at H
  have A7:=zA A70
  clear A70
  simp only [Option.some.injEq,Prod.mk.injEq] at H
  obtain ⟨rfl,rfl⟩:=H
  go_enter Try.func112,Try.ntmps112
  go_wp2_with (first|((with_reducible refine gate_callee (f:=94) rfl ?_);refine goesL_ (some 8) rfl rfl Try.func94 (by kernel_rfl) rfl #[.slice A0 l0.length c0,.slice A1 l1.length c1] rfl (by (try simp only [zJ,zM,zN]);first|done|rfl|(simp only [zL,zK];rfl)) ?_;(with_reducible refine (spec_l1Both.calls k _ _ l0 _ _ l1 true _ ?side1 ?side2 ?side3 ?side4 A3.out).mono ?_);(case side1=>repeat (first|exact HR0.out|apply zC_));(case side2=>exact HC0.out);(case side3=>repeat (first|exact HR1.out|apply zC_));(case side4=>exact HC1.out);rintro e w' ⟨rfl,⟨nd,rfl⟩⟩;refine ⟨_,rfl,?_⟩)|((with_reducible refine gate_callee (f:=119) rfl ?_);refine goesL_ (some 12) rfl rfl Try.func119 (by kernel_rfl) rfl #[.slice A1 l1.length c1] rfl (by (try simp only [zJ,zM,zN]);first|done|rfl|(simp only [zL,zK];rfl)) ?_;(with_reducible refine (spec_l1Back.calls k _ _ l1 t421 _ ?side1 ?side2 A5.out).mono ?_);(case side1=>repeat (first|exact HR1.out|apply zC_));(case side2=>exact HC1.out);rintro e w8 ⟨v422,rfl,ho0,hb⟩;refine ⟨_,rfl,?_⟩;have n0_:=zA (ze ho0 (zQ (by exact zB_ HB.out)));have n1_:=zA (zR (by exact zB_ HB.out) hb);clear HB;have HO423:=n0_;have HB:=n1_;clear n0_ n1_;(try clear hb);(try clear hb2);(try clear hk);(try clear hi);(try clear ho0);obtain ⟨Ao9,co9,eo9⟩:=zg HO423.out;subst eo9)|((with_reducible refine gate_callee (f:=99) rfl ?_);refine goesL_ (some 14) rfl rfl Try.func99 (by kernel_rfl) rfl #[.slice Ao9 t421.length co9,.slice A0 l0.length c0] rfl (by (try simp only [zJ,zM,zN]);first|done|rfl|(simp only [zL,zK];rfl)) ?_;(with_reducible refine (spec_l1Mul.calls k _ _ t421 _ _ l0 t424 _ ?side1 ?side2 ?side3 ?side4 A6.out).mono ?_);(case side1=>repeat (first|exact (zU HO423.out).2.2|apply zC_));(case side2=>exact (zU HO423.out).2.1);(case side3=>repeat (first|exact (zW HR0.out HB.out)|(with_reducible exact HR0.out)|apply zC_));(case side4=>exact HC0.out);rintro e w10 ⟨v425,rfl,ho0,hb⟩;refine ⟨_,rfl,?_⟩;have n0_:=zA (Kd.R_elder' (by apply zR_;exact HO423.out) (zd ho0) hb);have n1_:=zA (ze (Kd.R_new' ho0 (Kd.R_lt (by apply zR_;exact HO423.out))) (zQ (by exact zB_ HB.out)));have n2_:=zA (zR (by exact zB_ HB.out) hb);clear HO423;clear HB;have HO423:=n0_;have HO426:=n1_;have HB:=n2_;clear n0_ n1_ n2_;(try clear hb);(try clear hb2);(try clear hk);(try clear hi);(try clear ho0);obtain ⟨Ao11,co11,eo11⟩:=zg HO426.out;subst eo11)|((with_reducible refine gate_callee (f:=99) rfl ?_);refine goesL_ (some 16) rfl rfl Try.func99 (by kernel_rfl) rfl #[.slice Ao11 t424.length co11,.slice A1 l1.length c1] rfl (by (try simp only [zJ,zM,zN]);first|done|rfl|(simp only [zL,zK];rfl)) ?_;(with_reducible refine (spec_l1Mul.calls k _ _ t424 _ _ l1 t427 _ ?side1 ?side2 ?side3 ?side4 A7.out).mono ?_);(case side1=>repeat (first|exact (zU HO426.out).2.2|apply zC_));(case side2=>exact (zU HO426.out).2.1);(case side3=>repeat (first|exact (zW HR1.out HB.out)|(with_reducible exact HR1.out)|apply zC_));(case side4=>exact HC1.out);rintro e w12 ⟨v428,rfl,ho0,hb⟩;refine ⟨_,rfl,?_⟩;have n0_:=zA (Kd.R_elder' (by apply zR_;exact HO423.out) (zd ho0) hb);have n1_:=zA (Kd.R_elder' (by apply zR_;exact HO426.out) (zd ho0) hb);have n2_:=zA (ze (Kd.R_new' (Kd.R_new' ho0 (Kd.R_lt (by apply zR_;exact HO423.out))) (Kd.R_lt (by apply zR_;exact HO426.out))) (zQ (by exact zB_ HB.out)));have n3_:=zA (zR (by exact zB_ HB.out) hb);clear HO423;clear HO426;clear HB;have HO423:=n0_;have HO426:=n1_;have HO429:=n2_;have HB:=n3_;clear n0_ n1_ n2_ n3_;(try clear hb);(try clear hb2);(try clear hk);(try clear hi);(try clear ho0)))
  go_ret2
  exact ⟨_,by first|rfl|(simp [errW_none,errW_some] <;> rfl)|(simp [*,errW_none,errW_some] <;> rfl),by apply zR_;exact zV HO429.out (fun _ hk=>trivial),by exact zB_ HB.out⟩
 ·replace c4:=Bool.eq_false_iff.mpr c4
  subst c4
  have H1:(some ((([]:List Int)),false)) = some (r1,r2):=by rw [if_neg (show ¬ (false = true) by decide)] at H;exact H
  clear H
  have H:=H1
  clear H1
  obtain ⟨y430,hy430⟩:∃ y_:List Int,y_ = (([]:List Int)):=⟨_,rfl⟩
  replace H:(some (y430,false)) = some (r1,r2):=by (try rw [hy430]);first|with_reducible exact H|with_reducible exact zS_ H|exact H
  have Ny430:=zA hy430
  clear hy430
  simp only [Option.some.injEq,Prod.mk.injEq] at H
  obtain ⟨rfl,rfl⟩:=H
  go_enter Try.func112,Try.ntmps112
  go_wp2_with (first|((with_reducible refine gate_callee (f:=94) rfl ?_);refine goesL_ (some 8) rfl rfl Try.func94 (by kernel_rfl) rfl #[.slice A0 l0.length c0,.slice A1 l1.length c1] rfl (by (try simp only [zJ,zM,zN]);first|done|rfl|(simp only [zL,zK];rfl)) ?_;(with_reducible refine (spec_l1Both.calls k _ _ l0 _ _ l1 false _ ?side1 ?side2 ?side3 ?side4 A3.out).mono ?_);(case side1=>repeat (first|exact HR0.out|apply zC_));(case side2=>exact HC0.out);(case side3=>repeat (first|exact HR1.out|apply zC_));(case side4=>exact HC1.out);rintro e w' ⟨rfl,⟨nd,rfl⟩⟩;refine ⟨_,rfl,?_⟩)|((with_reducible refine gate_dst (N:=10) rfl ?_);refine Kd.R_lit (Kd.int .i64) _ 3 ?hg (N:=10) ?hd (xs:=([]:List Int)) (inner:=[]) (ok:=fun _=>True) (okp:=fun _=>True) ?hr ?hp (fun _ hk=>hk) trivial (Below.refl _ _) (Nat.le_refl _) (by simp) ?_;(case hd=>rfl);(case hg=>rfl);(case hr=>first|(go_simp;done)|(go_simp;rfl));(case hp=>exact (Reps.none _ _));intro v431 w13 ho14 hb hg_ hnew_;clear hg_ hnew_;(first|rw [← Ny430.out] at ho14|(simp only [Int.reduceToNat] at ho14;rw [← Ny430.out] at ho14));have n0_:=zA (ze ho14 (zQ (by exact zB_ HB.out)));have n1_:=zA (zR (by exact zB_ HB.out) hb);clear HB;have HO432:=n0_;have HB:=n1_;clear n0_ n1_;clear hb ho14))
  go_ret2
  exact ⟨_,by first|rfl|(simp [errW_none,errW_some] <;> rfl)|(simp [*,errW_none,errW_some] <;> rfl),by apply zR_;exact HO432.out,by exact zB_ HB.out⟩

/-! ### spec_l2Rename: function 96 -/
def spec_l2Rename.f (k:Nat) (l0_0:List Int) (l0_1:List Int) (l1:List Int):Option (List Int × List Int):=(spec_PermConj.f k l0_0 l1).bind fun bt435=>((spec_PermConj.f k l0_1 l1).bind fun bt439=>(some (bt435.1,bt439.1)))
theorem spec_l2Rename.mono:∀ a0 a1 a2 k,LeO (spec_l2Rename.f k a0 a1 a2) (spec_l2Rename.f (k+1) a0 a1 a2):=by
 intro a0 a1 a2 k
 unfold spec_l2Rename.f
 repeat' first
   | (with_reducible exact spec_PermConj.mono _ _ _)
   | (with_reducible exact LeO.refl _)
   | (with_reducible exact za _)
   | (with_reducible refine zc ?_ ?_)
   | (with_reducible refine zb ?_ (fun _=>?_))
set_option maxHeartbeats 8000000 in
set_option maxRecDepth 100000 in
theorem spec_l2Rename.calls (k:Nat) (A0_0:Option Addr) (c0_0:Nat) (l0_0:List Int) (A0_1:Option Addr) (c0_1:Nat) (l0_1:List Int) (A1:Option Addr) (c1:Nat) (l1:List Int) (r1:List Int) (r2:List Int) (w:World) (hr0_0:Kd.C (Kd.int .i64) w A0_0 l0_0.length l0_0) (hc0_0:l0_0.length≤c0_0) (hr0_1:Kd.C (Kd.int .i64) w A0_1 l0_1.length l0_1) (hc0_1:l0_1.length≤c0_1) (hr1:Kd.C (Kd.int .i64) w A1 l1.length l1) (hc1:l1.length≤c1) (h:spec_l2Rename.f k l0_0 l0_1 l1 = some (r1,r2)) :
  Calls Try.prog 96 #[.agg #[.slice A0_0 l0_0.length c0_0,.slice A0_1 l0_1.length c0_1],.slice A1 l1.length c1] w fun e w' => ∃ v0_ v1_:Value,e = .returned (.agg #[v0_,v1_])∧Kd.R (Kd.int .i64) 3 w' w.heap.size (fun k_=>some k_≠(v1_:Value).ownBlock) v0_ r1∧Kd.R (Kd.int .i64) 3 w' w.heap.size (fun k_=>some k_≠(v0_:Value).ownBlock) v1_ r2∧Below w.heap.size w w':=by
 have hu33:=Try.underlying33
 have HR0_0:=zA hr0_0
 have HC0_0:=zA hc0_0
 clear hr0_0 hc0_0
 have HR0_1:=zA hr0_1
 have HC0_1:=zA hc0_1
 clear hr0_1 hc0_1
 have HR1:=zA hr1
 have HC1:=zA hc1
 clear hr1 hc1
 have HB:=zA (Below.refl w.heap.size w)
 have H:((spec_PermConj.f k l0_0 l1).bind fun bt435=>((spec_PermConj.f k l0_1 l1).bind fun bt439=>(some (bt435.1,bt439.1)))) = some (r1,r2):=h
 clear h
 replace H:=zz0 H
 obtain ⟨⟨t435,t436⟩,A30,H⟩:=H
 try dsimp only at H
 have A3:=zA A30
 clear A30
 replace H:=zz0 H
 obtain ⟨⟨t439,t440⟩,A40,H⟩:=H
 try dsimp only at H
 have A4:=zA A40
 clear A40
 simp only [Option.some.injEq,Prod.mk.injEq] at H
 obtain ⟨rfl,rfl⟩:=H
 go_enter Try.func96,Try.ntmps96
 go_wp2_with (first|((with_reducible refine gate_dst (N:=2) rfl ?_);refine box_event ?hg (N:=2) ?hd (cs:=#[.slice A0_0 l0_0.length c0_0,.slice A0_1 l0_1.length c0_1]) (t:=33) ?hr ?_;(case hd=>rfl);(case hg=>rfl);(case hr=>first|(go_simp;done)|(go_simp;rfl));intro gb433 hg w5 hbox hb;have n0_:=zA (zR (by exact zB_ HB.out) hb);have n1_:=zA (hbox);have n2_:=zA ((by rw [hg];exact (zQ (by exact zB_ HB.out)):w.heap.size≤gb433));have n3_:=zA ((by rw [hg];exact (zQ (by exact zB_ HB.out)):w.heap.size≤gb433));clear HB;have HB:=n0_;have BK433:=n1_;have GW433:=n2_;have GE433:=n3_;clear n0_ n1_ n2_ n3_;clear hb hbox hg)|((with_reducible refine gate_dst (N:=4) rfl ?_);refine box_event ?hg (N:=4) ?hd (cs:=#[.slice none 0 0,.slice none 0 0]) (t:=33) ?hr ?_;(case hd=>rfl);(case hg=>rfl);(case hr=>first|(go_simp;done)|(go_simp;rfl));intro gb434 hg w6 hbox hb;have n0_:=zA (zX (g:=gb433) (o:=.cells #[.slice A0_0 l0_0.length c0_0,.slice A0_1 l0_1.length c0_1] 33 (0,0)) (by (with_reducible repeat (first|refine zG ?_ _|refine zI ?_|refine zH ?_ _));exact BK433.out) hb);have n1_:=zA (zR (by repeat (first|(with_reducible first|exact HB.out|apply zD|apply zB|apply zC|refine zF ?_ GE433.out)|exact HB.out)) hb);have n2_:=zA (hbox);have n3_:=zA ((by rw [hg];exact (zQ (by repeat (first|(with_reducible first|exact HB.out|apply zD|apply zB|apply zC|refine zF ?_ GE433.out)|exact HB.out))):w.heap.size≤gb434));have n4_:=zA ((by rw [hg];exact (zQ (by repeat (first|(with_reducible first|exact HB.out|apply zD|apply zB|apply zC|refine zF ?_ GE433.out)|exact HB.out))):w.heap.size≤gb434));have n5_:=zA ((by rw [hg];exact Nat.ne_of_lt (blk_lt (g:=gb433) (o:=.cells #[.slice A0_0 l0_0.length c0_0,.slice A0_1 l0_1.length c0_1] 33 (0,0)) (by (with_reducible repeat (first|refine zG ?_ _|refine zI ?_|refine zH ?_ _));exact BK433.out)):gb433≠gb434));have n6_:=zA ((by rw [hg];exact Nat.ne_of_gt (blk_lt (g:=gb433) (o:=.cells #[.slice A0_0 l0_0.length c0_0,.slice A0_1 l0_1.length c0_1] 33 (0,0)) (by (with_reducible repeat (first|refine zG ?_ _|refine zI ?_|refine zH ?_ _));exact BK433.out)):gb434≠gb433));clear BK433;clear HB;have BK433:=n0_;have HB:=n1_;have BK434:=n2_;have GW434:=n3_;have GE434:=n4_;have NB433_434:=n5_;have NB434_433:=n6_;clear n0_ n1_ n2_ n3_ n4_ n5_ n6_;clear hb hbox hg;have hnb7:=NB433_434.out;have hnc7:=NB434_433.out;have hcz8_0:w6.cell? ⟨gb433,0,none⟩ = some (.slice A0_0 l0_0.length c0_0):=(zT BK433.out 0).trans rfl;have hcz8_1:w6.cell? ⟨gb433,1,none⟩ = some (.slice A0_1 l0_1.length c0_1):=(zT BK433.out 1).trans rfl;have hfz8_0:=zZ BK433.out 0;have hfz8_1:=zZ BK433.out 1)|((with_reducible refine gate_callee (f:=112) rfl ?_);refine goesL_ (some 13) rfl rfl Try.func112 (by kernel_rfl) rfl #[.slice A0_0 l0_0.length c0_0,.slice A1 l1.length c1] rfl (by (try simp only [zJ,zM,zN]);first|done|rfl|(simp only [zL,zK];rfl)) ?_;(with_reducible refine (spec_PermConj.calls k _ _ l0_0 _ _ l1 t435 t436 _ ?side1 ?side2 ?side3 ?side4 A3.out).mono ?_);(case side1=>repeat (first|exact (zW HR0_0.out HB.out)|(with_reducible exact HR0_0.out)|apply zC_));(case side2=>exact HC0_0.out);(case side3=>repeat (first|exact (zW HR1.out HB.out)|(with_reducible exact HR1.out)|apply zC_));(case side4=>exact HC1.out);rintro e w9 ⟨v437,rfl,ho0,hb⟩;refine ⟨_,rfl,?_⟩;have n0_:=zA (ze ho0 (zQ (by repeat (first|(with_reducible first|exact HB.out|apply zD|apply zB|apply zC|refine zF ?_ GE433.out|refine zF ?_ GE434.out)|exact HB.out))));have n1_:=zA (zX (g:=gb433) (o:=.cells #[.slice A0_0 l0_0.length c0_0,.slice A0_1 l0_1.length c0_1] 33 (0,0)) (by (with_reducible repeat (first|refine zG ?_ _|refine zI ?_|refine zH ?_ _));exact BK433.out) hb);have n2_:=zA (zX (g:=gb434) (o:=.cells #[.slice none 0 0,.slice none 0 0] 33 (0,0)) (by (with_reducible repeat (first|refine zG ?_ _|refine zI ?_|refine zH ?_ _));exact BK434.out) hb);have n3_:=zA (zR (by repeat (first|(with_reducible first|exact HB.out|apply zD|apply zB|apply zC|refine zF ?_ GE433.out|refine zF ?_ GE434.out)|exact HB.out)) hb);clear BK433;clear BK434;clear HB;have HO438:=n0_;have BK433:=n1_;have BK434:=n2_;have HB:=n3_;clear n0_ n1_ n2_ n3_;(try clear hb);(try clear hb2);(try clear hk);(try clear hi);(try clear ho0);have hcz10_0:w9.cell? ⟨gb433,0,none⟩ = some (.slice A0_0 l0_0.length c0_0):=(zT BK433.out 0).trans rfl;have hcz10_1:w9.cell? ⟨gb433,1,none⟩ = some (.slice A0_1 l0_1.length c0_1):=(zT BK433.out 1).trans rfl;have hfz10_0:=zZ BK433.out 0;have hfz10_1:=zZ BK433.out 1)|((with_reducible refine gate_callee (f:=112) rfl ?_);refine goesL_ (some 20) rfl rfl Try.func112 (by kernel_rfl) rfl #[.slice A0_1 l0_1.length c0_1,.slice A1 l1.length c1] rfl (by (try simp only [zJ,zM,zN]);first|done|rfl|(simp only [zL,zK];rfl)) ?_;(with_reducible refine (spec_PermConj.calls k _ _ l0_1 _ _ l1 t439 t440 _ ?side1 ?side2 ?side3 ?side4 A4.out).mono ?_);(case side1=>repeat (first|exact (zW HR0_1.out HB.out)|(with_reducible exact HR0_1.out)|apply zC_));(case side2=>exact HC0_1.out);(case side3=>repeat (first|exact (zW HR1.out HB.out)|(with_reducible exact HR1.out)|apply zC_));(case side4=>exact HC1.out);rintro e w11 ⟨v441,rfl,ho0,hb⟩;refine ⟨_,rfl,?_⟩;have n0_:=zA (Kd.R_elder' (by apply zR_;exact HO438.out) (zd ho0) hb);have n1_:=zA (ze (Kd.R_new' ho0 (Kd.R_lt (by apply zR_;exact HO438.out))) (zQ (by repeat (first|(with_reducible first|exact HB.out|apply zD|apply zB|apply zC|refine zF ?_ GE433.out|refine zF ?_ GE434.out)|exact HB.out))));have n2_:=zA (zX (g:=gb433) (o:=.cells #[.slice A0_0 l0_0.length c0_0,.slice A0_1 l0_1.length c0_1] 33 (0,0)) (by (with_reducible repeat (first|refine zG ?_ _|refine zI ?_|refine zH ?_ _));exact BK433.out) hb);have n3_:=zA (zX (g:=gb434) (o:=.cells #[.slice none 0 0,.slice none 0 0] 33 (0,0)) (by (with_reducible repeat (first|refine zG ?_ _|refine zI ?_|refine zH ?_ _));exact BK434.out) hb);have n4_:=zA (zR (by repeat (first|(with_reducible first|exact HB.out|apply zD|apply zB|apply zC|refine zF ?_ GE433.out|refine zF ?_ GE434.out)|exact HB.out)) hb);clear HO438;clear BK433;clear BK434;clear HB;have HO438:=n0_;have HO442:=n1_;have BK433:=n2_;have BK434:=n3_;have HB:=n4_;clear n0_ n1_ n2_ n3_ n4_;(try clear hb);(try clear hb2);(try clear hk);(try clear hi);(try clear ho0);obtain ⟨Ao12,co12,eo12⟩:=zg HO442.out;subst eo12;obtain ⟨Ao13,co13,eo13⟩:=zg HO438.out;subst eo13;have hcz14_0:w11.cell? ⟨gb434,0,none⟩ = some (.slice none 0 0):=(zT BK434.out 0).trans rfl;have hcz14_1:w11.cell? ⟨gb434,1,none⟩ = some (.slice none 0 0):=(zT BK434.out 1).trans rfl;have hfz14_0:=zZ BK434.out 0;have hfz14_1:=zZ BK434.out 1))
 refine bodyPost_ret (results_cell_row rfl _ _ gb434 33 #[.slice Ao13 t435.length co13,.slice Ao12 t439.length co12] (0,0) _ rfl (by (with_reducible repeat (first|refine zG ?_ _|refine zI ?_|refine zH ?_ _));refine blk_put (cs:=#[.slice Ao13 t435.length co13,.slice none 0 0]) ?_ 1 _ rfl;(with_reducible repeat (first|refine zG ?_ _|refine zI ?_|refine zH ?_ _));refine blk_put (cs:=#[.slice none 0 0,.slice none 0 0]) ?_ 0 _ rfl;(with_reducible repeat (first|refine zG ?_ _|refine zI ?_|refine zH ?_ _));exact BK434.out) Try.underlying33 rfl (by kernel_rfl)) rfl ?_
 exact ⟨_,_,by first|rfl|(simp [errW_none,errW_some] <;> rfl)|(simp [*,errW_none,errW_some] <;> rfl),by apply zR_;exact zV (Kd.R_far (p:=⟨gb434,1,none⟩) (Kd.R_far (p:=⟨gb434,0,none⟩) (Kd.R_types HO438.out BK434.out (by decide)) (fun _ hk=>hk.2) (.slice Ao13 t435.length co13)) (fun _ hk=>hk.2) (.slice Ao12 t439.length co12)) (fun _ hk=>hk.1.2),by apply zR_;exact zV (Kd.R_far (p:=⟨gb434,1,none⟩) (Kd.R_far (p:=⟨gb434,0,none⟩) (Kd.R_types HO442.out BK434.out (by decide)) (fun _ hk=>hk.2) (.slice Ao13 t435.length co13)) (fun _ hk=>hk.2) (.slice Ao12 t439.length co12)) (fun _ hk=>hk.1.2),by repeat (first|(with_reducible first|exact HB.out|apply zD|apply zB|apply zC|refine zF ?_ GE433.out|refine zF ?_ GE434.out)|exact HB.out)⟩

/-! ### spec_l2Names: function 97 -/
mutual
def spec_l2Names.l0:Nat→Int→List Int→Int→List Int→List Int→Option (List Int)
 | 0,_,_,_,_,_=>none
 | k+1,x1,x5,x6,x444000,x444001=>if x6 < (x5.length:Int) then (if 0≤x6 then (spec_l2Names.l0 k x1 (x5.set (x6:Int).toNat (-1)) (wrap64 (x6+1)) x444000 x444001) else (none)) else (if 0≤x1 then (if x1 < (x5.length:Int) then (spec_l2Names.l1 k (x5.set (x1:Int).toNat 0) (([x1]:List Int)) 0 x444000 x444001) else (none)) else (none))
def spec_l2Names.l1:Nat→List Int→List Int→Int→List Int→List Int→Option (List Int)
 | 0,_,_,_,_,_=>none
 | k+1,x5,x7,x8,x444000,x444001=>if x8 < (x7.length:Int) then (if 0≤x8 then (if 0≤(rd x7 x8) then (if (rd x7 x8) < (x444000.length:Int) then (if (rd x7 x8) < (x444001.length:Int) then (spec_l2Names.l2 k x5 x7 x8 (([rd x444000 (rd x7 x8),rd x444001 (rd x7 x8)]:List Int)) 0 x444000 x444001) else (none)) else (none)) else (none)) else (none)) else (some x5)
def spec_l2Names.l2:Nat→List Int→List Int→Int→List Int→Int→List Int→List Int→Option (List Int)
 | 0,_,_,_,_,_,_,_=>none
 | k+1,x5,x7,x8,x9,x10,x444000,x444001=>if x10 < 2 then (if 0≤x10 then (if x10 < (x9.length:Int) then (if 0≤(rd x9 x10) then (if (rd x9 x10) < (x5.length:Int) then (if (rd x5 (rd x9 x10)) < 0 then (if x7.length < 17592186044416 then (spec_l2Names.l2 k (x5.set ((rd x9 x10):Int).toNat (x7.length:Int)) (x7 ++ [rd x9 x10]) x8 x9 (wrap64 (x10+1)) x444000 x444001) else (none)) else (spec_l2Names.l2 k x5 x7 x8 x9 (wrap64 (x10+1)) x444000 x444001)) else (none)) else (none)) else (none)) else (none)) else (spec_l2Names.l1 k x5 x7 (wrap64 (x8+1)) x444000 x444001)
end
def spec_l2Names.f (k:Nat) (l0_0:List Int) (l0_1:List Int) (a1:Int):Option (List Int):=if 0≤(l0_0.length:Int) then (if ((l0_0.length:Int):Int).toNat≤35184372088832 then (spec_l2Names.l0 k a1 (List.replicate ((l0_0.length:Int):Int).toNat 0) 0 l0_0 l0_1) else (none)) else (none)
theorem spec_l2Names.mono_l:∀ k,(∀ y0 y1 y2 y3 y4,LeO (spec_l2Names.l0 k y0 y1 y2 y3 y4) (spec_l2Names.l0 (k+1) y0 y1 y2 y3 y4))∧(∀ y0 y1 y2 y3 y4,LeO (spec_l2Names.l1 k y0 y1 y2 y3 y4) (spec_l2Names.l1 (k+1) y0 y1 y2 y3 y4))∧(∀ y0 y1 y2 y3 y4 y5 y6,LeO (spec_l2Names.l2 k y0 y1 y2 y3 y4 y5 y6) (spec_l2Names.l2 (k+1) y0 y1 y2 y3 y4 y5 y6))
 | 0=>⟨fun _ _ _ _ _ r h=>by simp [spec_l2Names.l0] at h,fun _ _ _ _ _ r h=>by simp [spec_l2Names.l1] at h,fun _ _ _ _ _ _ _ r h=>by simp [spec_l2Names.l2] at h⟩
 | k+1=>by
  obtain ⟨ih0,ih1,ih2⟩:=spec_l2Names.mono_l k
  refine ⟨?_,?_,?_⟩
  ·intro y0 y1 y2 y3 y4
   unfold spec_l2Names.l0
   repeat' first
   | (with_reducible exact ih0 _ _ _ _ _)
   | (with_reducible exact ih1 _ _ _ _ _)
   | (with_reducible exact ih2 _ _ _ _ _ _ _)
   | (with_reducible exact LeO.refl _)
   | (with_reducible exact za _)
   | (with_reducible refine zc ?_ ?_)
   | (with_reducible refine zb ?_ (fun _=>?_))
  ·intro y0 y1 y2 y3 y4
   unfold spec_l2Names.l1
   repeat' first
   | (with_reducible exact ih0 _ _ _ _ _)
   | (with_reducible exact ih1 _ _ _ _ _)
   | (with_reducible exact ih2 _ _ _ _ _ _ _)
   | (with_reducible exact LeO.refl _)
   | (with_reducible exact za _)
   | (with_reducible refine zc ?_ ?_)
   | (with_reducible refine zb ?_ (fun _=>?_))
  ·intro y0 y1 y2 y3 y4 y5 y6
   unfold spec_l2Names.l2
   repeat' first
   | (with_reducible exact ih0 _ _ _ _ _)
   | (with_reducible exact ih1 _ _ _ _ _)
   | (with_reducible exact ih2 _ _ _ _ _ _ _)
   | (with_reducible exact LeO.refl _)
   | (with_reducible exact za _)
   | (with_reducible refine zc ?_ ?_)
   | (with_reducible refine zb ?_ (fun _=>?_))
theorem spec_l2Names.mono:∀ a0 a1 a2 k,LeO (spec_l2Names.f k a0 a1 a2) (spec_l2Names.f (k+1) a0 a1 a2):=by
 intro a0 a1 a2 k
 obtain ⟨ih0,ih1,ih2⟩:=spec_l2Names.mono_l k
 unfold spec_l2Names.f
 repeat' first
   | (with_reducible exact ih0 _ _ _ _ _)
   | (with_reducible exact ih1 _ _ _ _ _)
   | (with_reducible exact ih2 _ _ _ _ _ _ _)
   | (with_reducible exact LeO.refl _)
   | (with_reducible exact za _)
   | (with_reducible refine zc ?_ ?_)
   | (with_reducible refine zb ?_ (fun _=>?_))
def spec_l2Names.T11:Bool × List (List Nat × List Nat):=(true,[([],[]),([0],[0]),([],[]),([],[]),([2,3],[2,3]),([4],[4]),([1,5],[1,5]),([6],[6]),([],[]),([8],[8]),([],[]),([],[]),([10,11],[10,11]),([12],[12]),([9,13],[9,13]),([14],[14]),([7,15],[7,15]),([16,0,1,2,3,4,5,6,7,8,9,10,11,12,13,14,15,16],[16])])
def spec_l2Names.B11:List Nat:=[0,1,0,0,12,28,63,127,0,256,0,0,3072,7168,16128,32512,65535,131071]
theorem spec_l2Names.tab11:rtab .any (opsOf Try.f97 11) = spec_l2Names.T11:=by kernel_rfl
theorem spec_l2Names.bits11:waitsOk spec_l2Names.T11.2 spec_l2Names.B11 = true:=by kernel_rfl
set_option maxHeartbeats 8000000 in
set_option maxRecDepth 100000 in
theorem spec_l2Names.calls (k:Nat) (A0_0:Option Addr) (c0_0:Nat) (l0_0:List Int) (A0_1:Option Addr) (c0_1:Nat) (l0_1:List Int) (a1:Int) (r:List Int) (w:World) (hr0_0:Kd.C (Kd.int .i64) w A0_0 l0_0.length l0_0) (hc0_0:l0_0.length≤c0_0) (hr0_1:Kd.C (Kd.int .i64) w A0_1 l0_1.length l0_1) (hc0_1:l0_1.length≤c0_1) (h:spec_l2Names.f k l0_0 l0_1 a1 = some r) :
  Calls Try.prog 97 #[.agg #[.slice A0_0 l0_0.length c0_0,.slice A0_1 l0_1.length c0_1],.int .i64 a1] w fun e w' => ∃ v0_:Value,e = .returned (v0_)∧Kd.R (Kd.int .i64) 3 w' w.heap.size (fun _=>True) v0_ r∧Below w.heap.size w w':=by
 have hu33:=Try.underlying33
 have HR0_0:=zA hr0_0
 have HC0_0:=zA hc0_0
 clear hr0_0 hc0_0
 have HR0_1:=zA hr0_1
 have HC0_1:=zA hc0_1
 clear hr0_1 hc0_1
 have HB:=zA (Below.refl w.heap.size w)
 have H:(if 0≤(l0_0.length:Int) then (if ((l0_0.length:Int):Int).toNat≤35184372088832 then (spec_l2Names.l0 k a1 (List.replicate ((l0_0.length:Int):Int).toNat 0) 0 l0_0 l0_1) else (none)) else (none)) = some r:=h
 clear h
 by_cases c3:0≤(l0_0.length:Int)
 ·rw [if_pos c3] at H
  have c3b0:=eq_true c3
  have c3b1:decide (0≤(l0_0.length:Int)) = true:=zO c3
  clear c3
  by_cases c4:((l0_0.length:Int):Int).toNat≤35184372088832
  ·rw [if_pos c4] at H
   have c4b0:=eq_true c4
   have c4b1:decide (((l0_0.length:Int):Int).toNat≤35184372088832) = true:=zO c4
   clear c4
   obtain ⟨y444,hy444⟩:∃ y_:List Int,y_ = (List.replicate ((l0_0.length:Int):Int).toNat 0):=⟨_,rfl⟩
   replace H:(spec_l2Names.l0 k a1 y444 0 l0_0 l0_1) = some r:=by (try rw [hy444]);first|with_reducible exact H|with_reducible exact zS_ H|exact H
   have Ny444:=zA hy444
   clear hy444
   have H':=zA H
   clear H
   go_enter Try.func97,Try.ntmps97
   go_wp2_with (first|((with_reducible refine gate_dst (N:=2) rfl ?_);refine box_event ?hg (N:=2) ?hd (cs:=#[.slice A0_0 l0_0.length c0_0,.slice A0_1 l0_1.length c0_1]) (t:=33) ?hr ?_;(case hd=>rfl);(case hg=>rfl);(case hr=>first|(go_simp;done)|(go_simp;rfl));intro gb443 hg w5 hbox hb;have n0_:=zA (zR (by exact zB_ HB.out) hb);have n1_:=zA (hbox);have n2_:=zA ((by rw [hg];exact (zQ (by exact zB_ HB.out)):w.heap.size≤gb443));have n3_:=zA ((by rw [hg];exact (zQ (by exact zB_ HB.out)):w.heap.size≤gb443));clear HB;have HB:=n0_;have BK443:=n1_;have GW443:=n2_;have GE443:=n3_;clear n0_ n1_ n2_ n3_;clear hb hbox hg;have hcz6_0:w5.cell? ⟨gb443,0,none⟩ = some (.slice A0_0 l0_0.length c0_0):=(zT BK443.out 0).trans rfl;have hcz6_1:w5.cell? ⟨gb443,1,none⟩ = some (.slice A0_1 l0_1.length c0_1):=(zT BK443.out 1).trans rfl;have hfz6_0:=zZ BK443.out 0;have hfz6_1:=zZ BK443.out 1)|((with_reducible refine gate_dst (N:=14) rfl ?_);refine Kd.R_make (Kd.int .i64) _ 3 rfl (N:=14) rfl 31 _ _ rfl (l0_0.length:Int) rfl rfl Try.underlying31 (.int .i64 0) 8 info3 rfl (by decide) (by omega) 0 (ok:=fun _=>True) (okp:=fun _=>True) rfl (fun _ hk=>hk) trivial (zE (by with_reducible assumption)) (Nat.le_trans (Nat.mul_le_mul_right _ (zE (by with_reducible assumption):(l0_0.length:Int).toNat≤35184372088832)) (by omega)) (Below.refl _ _) (Nat.le_refl _) ?_;intro v445 w7 ho8 hb hg_ hnew_;clear hg_ hnew_;(first|rw [← Ny444.out] at ho8|(simp only [Int.reduceToNat] at ho8;rw [← Ny444.out] at ho8));have n0_:=zA (ze ho8 (zQ (by repeat (first|(with_reducible first|exact HB.out|apply zD|apply zB|apply zC|refine zF ?_ GE443.out)|exact HB.out))));have n1_:=zA (zX (g:=gb443) (o:=.cells #[.slice A0_0 l0_0.length c0_0,.slice A0_1 l0_1.length c0_1] 33 (0,0)) (by (with_reducible repeat (first|refine zG ?_ _|refine zI ?_|refine zH ?_ _));exact BK443.out) hb);have n2_:=zA (zR (by repeat (first|(with_reducible first|exact HB.out|apply zD|apply zB|apply zC|refine zF ?_ GE443.out)|exact HB.out)) hb);clear BK443;clear HB;have HO446:=n0_;have BK443:=n1_;have HB:=n2_;clear n0_ n1_ n2_;clear hb ho8))
   go_loopg [6] k (fun kq v6 w' => ∃ (x5_1:List Int) (x6_1:Int),v6 = .int .i64 x6_1∧Aside0 (spec_l2Names.l0 kq a1 x5_1 x6_1 l0_0 l0_1 = some r)∧Aside0 (kq≤k)∧Aside0 (Kd.R (Kd.int .i64) 3 w' w.heap.size (fun _=>True) v445 x5_1)∧Aside0 (w'.heap[gb443]? = some (.cells #[(.slice A0_0 l0_0.length c0_0),(.slice A0_1 l0_1.length c0_1)] 33 (0,0)))∧Aside0 (Below w.heap.size w w'))
   case atStart=>exact ⟨(y444),(0),(by first|rfl|(simp;done)|(simp [*];done)),H',⟨Nat.le_refl _⟩,⟨by apply zR_;exact HO446.out⟩,⟨by (with_reducible repeat (first|refine zG ?_ _|refine zI ?_|refine zH ?_ _));exact BK443.out⟩,⟨by repeat (first|(with_reducible first|exact HB.out|apply zD|apply zB|apply zC|refine zF ?_ GE443.out)|exact HB.out)⟩⟩
   case round =>
    clear H'
    (try clear p2);(try clear c3);(try clear c3b0);(try clear c3b1);(try clear c4);(try clear c4b0);(try clear c4b1);(try clear hcz6_0);(try clear hcz6_1);(try clear hfz6_0);(try clear hfz6_1)
    obtain ⟨x5_1,x6_1,rfl,HA,HK1,HO_5,BK443,HB⟩:=hrel
    cases gk with
    | zero=>exact absurd HA.out (by simp [spec_l2Names.l0])
    | succ k1 =>
     have H:=HA.out
     clear HA
     simp only [spec_l2Names.l0] at H
     by_cases c9:x6_1 < (x5_1.length:Int)
     ·rw [if_pos c9] at H
      have c9b0:decide (x6_1 < (x5_1.length:Int)) = true:=zO c9
      clear c9
      by_cases c10:0≤x6_1
      ·rw [if_pos c10] at H
       have c10b0:decide (0≤x6_1) = true:=zO c10
       clear c10
       obtain ⟨y447,hy447⟩:∃ y_:List Int,y_ = (x5_1.set (x6_1:Int).toNat (-1)):=⟨_,rfl⟩
       replace H:(spec_l2Names.l0 k1 a1 y447 (wrap64 (x6_1+1)) l0_0 l0_1) = some r:=by (try rw [hy447]);first|with_reducible exact H|with_reducible exact zS_ H|exact H
       have Ny447:=zA hy447
       clear hy447
       have H':=zA H
       clear H
       obtain ⟨Ao12,co12,eo12⟩:=zg HO_5.out
       subst eo12
       have p11:0≤(x6_1:Int):=zE (by with_reducible assumption)
       have q11:(x6_1:Int) < ((x5_1.length:Int):Int):=zE (by with_reducible assumption)
       obtain ⟨go11,co11,eo11,gb11,gl11,cl11,HG11⟩:=Kd.R_form HO_5.out (by omega)
       (first|cases eo11|(injection eo11 with ea_ en_ ec_;(first|subst ea_|(injection ea_ with ea_;subst ea_));subst ec_;clear en_))
       have GB11:=zA gb11
       have GG11:=zA HG11
       clear gb11 gl11 HG11
       obtain ⟨hx11_0,hf11_0⟩:=Kd.R_celln 0 HO_5.out (x6_1:Int) p11 q11
       replace p11:=eq_true p11
       replace q11:=eq_true q11
       have HP13:=Kd.R_putg HO_5.out (x6_1:Int) (-1)
       go_wp2_with (first|((with_reducible refine gate_store (t:=3) (p:=23) rfl ?_);refine store_event (t:=3) (p:=23) (v:=?vo_w14) (w1:=(wr.setCell ⟨go11,(x6_1:Int).toNat,none⟩ (.int .i64 (-1)))) ?hg ?ho ?hn ?hr ?_;(case ho=>rfl);(case hg=>rfl);(case hn=>rfl);(case hr=>first|(go_simp;done)|(go_simp;rfl));intro w14 hw;have hg:wr.grownBy w14 (some go11):=(by rw [hw];exact HP13.2);have hp_:Kd.R (Kd.int .i64) 3 w14 w.heap.size (fun _=>True) (.slice (some ⟨go11,0,none⟩) x5_1.length co12) y447:=(by rw [hw,Ny447.out];exact HP13.1);clear HP13;have n0_:=zA (hp_);have n1_:=zA (blk_grown (g:=gb443) (o:=.cells #[.slice A0_0 l0_0.length c0_0,.slice A0_1 l0_1.length c0_1] 33 (0,0)) (by (with_reducible repeat (first|refine zG ?_ _|refine zI ?_|refine zH ?_ _));exact BK443.out) hg (Kd.R_ne HO_5.out BK443.out (by decide)));have n2_:=zA ((by rw [hw];exact zF (HB.out) GB11.out:Below w.heap.size w w14));clear HO_5;clear BK443;clear HB;have HO_5:=n0_;have BK443:=n1_;have HB:=n2_;clear n0_ n1_ n2_;clear hg hw hp_))
       go_roundg k1
       case measure=>have:=HK1.out;omega
       case rel=>exact ⟨(y447),(wrap64 (x6_1+1)),(by first|rfl|(simp;done)|(simp [*];done)),H',⟨by have:=HK1.out;omega⟩,⟨by apply zR_;exact HO_5.out⟩,⟨by (with_reducible repeat (first|refine zG ?_ _|refine zI ?_|refine zH ?_ _));exact BK443.out⟩,⟨by repeat (first|(with_reducible first|exact HB.out|apply zD|apply zB|apply zC|refine zF ?_ GE443.out)|exact HB.out)⟩⟩
      ·rw [if_neg c10] at H
       exact absurd H (by simp)
     ·rw [if_neg c9] at H
      have c9b0:decide (x6_1 < (x5_1.length:Int)) = false:=zP c9
      clear c9
      by_cases c15:0≤a1
      ·rw [if_pos c15] at H
       have c15b0:decide (0≤a1) = true:=zO c15
       clear c15
       by_cases c16:a1 < (x5_1.length:Int)
       ·rw [if_pos c16] at H
        have c16b0:decide (a1 < (x5_1.length:Int)) = true:=zO c16
        clear c16
        obtain ⟨y448,hy448⟩:∃ y_:List Int,y_ = (x5_1.set (a1:Int).toNat 0):=⟨_,rfl⟩
        replace H:(spec_l2Names.l1 k1 y448 (([a1]:List Int)) 0 l0_0 l0_1) = some r:=by (try rw [hy448]);first|with_reducible exact H|with_reducible exact zS_ H|exact H
        have Ny448:=zA hy448
        clear hy448
        obtain ⟨y449,hy449⟩:∃ y_:List Int,y_ = (([a1]:List Int)):=⟨_,rfl⟩
        replace H:(spec_l2Names.l1 k1 y448 y449 0 l0_0 l0_1) = some r:=by (try rw [hy449]);first|with_reducible exact H|with_reducible exact zS_ H|exact H
        have Ny449:=zA hy449
        clear hy449
        have H':=zA H
        clear H
        obtain ⟨Ao18,co18,eo18⟩:=zg HO_5.out
        subst eo18
        have p17:0≤(a1:Int):=zE (by with_reducible assumption)
        have q17:(a1:Int) < ((x5_1.length:Int):Int):=zE (by with_reducible assumption)
        obtain ⟨go17,co17,eo17,gb17,gl17,cl17,HG17⟩:=Kd.R_form HO_5.out (by omega)
        (first|cases eo17|(injection eo17 with ea_ en_ ec_;(first|subst ea_|(injection ea_ with ea_;subst ea_));subst ec_;clear en_))
        have GB17:=zA gb17
        have GG17:=zA HG17
        clear gb17 gl17 HG17
        obtain ⟨hx17_0,hf17_0⟩:=Kd.R_celln 0 HO_5.out (a1:Int) p17 q17
        replace p17:=eq_true p17
        replace q17:=eq_true q17
        have HP19:=Kd.R_putg HO_5.out (a1:Int) 0
        go_wp2_with (first|((with_reducible refine gate_store (t:=3) (p:=26) rfl ?_);refine store_event (t:=3) (p:=26) (v:=?vo_w20) (w1:=(wr.setCell ⟨go17,(a1:Int).toNat,none⟩ (.int .i64 0))) ?hg ?ho ?hn ?hr ?_;(case ho=>rfl);(case hg=>rfl);(case hn=>rfl);(case hr=>first|(go_simp;done)|(go_simp;rfl));intro w20 hw;have hg:wr.grownBy w20 (some go17):=(by rw [hw];exact HP19.2);have hp_:Kd.R (Kd.int .i64) 3 w20 w.heap.size (fun _=>True) (.slice (some ⟨go17,0,none⟩) x5_1.length co18) y448:=(by rw [hw,Ny448.out];exact HP19.1);clear HP19;have n0_:=zA (hp_);have n1_:=zA (blk_grown (g:=gb443) (o:=.cells #[.slice A0_0 l0_0.length c0_0,.slice A0_1 l0_1.length c0_1] 33 (0,0)) (by (with_reducible repeat (first|refine zG ?_ _|refine zI ?_|refine zH ?_ _));exact BK443.out) hg (Kd.R_ne HO_5.out BK443.out (by decide)));have n2_:=zA ((by rw [hw];exact zF (HB.out) GB17.out:Below w.heap.size w w20));clear HO_5;clear BK443;clear HB;have HO_5:=n0_;have BK443:=n1_;have HB:=n2_;clear n0_ n1_ n2_;clear hg hw hp_)|((with_reducible refine gate_dst (N:=28) rfl ?_);refine Kd.R_lit (Kd.int .i64) _ 3 ?hg (N:=28) ?hd (xs:=([a1]:List Int)) (inner:=[.int .i64 a1]) (ok:=fun _=>True) (okp:=fun _=>True) ?hr ?hp (fun _ hk=>hk) trivial (Below.refl _ _) (Nat.le_refl _) (by simp) ?_;(case hd=>rfl);(case hg=>rfl);(case hr=>first|(go_simp;done)|(go_simp;rfl));(case hp=>exact (Reps.one (show Kd.M (Kd.int .i64) _ _ _ a1 [.int .i64 a1] from rfl) (Reps.none _ _)));intro v450 w21 ho22 hb hg_ hnew_;clear hg_ hnew_;(first|rw [← Ny449.out] at ho22|(simp only [Int.reduceToNat] at ho22;rw [← Ny449.out] at ho22));have n0_:=zA (Kd.R_elder' (by apply zR_;exact HO_5.out) (zd ho22) hb);have n1_:=zA (ze (Kd.R_new' ho22 (Kd.R_lt (by apply zR_;exact HO_5.out))) (zQ (by repeat (first|(with_reducible first|exact HB.out|apply zD|apply zB|apply zC|refine zF ?_ GE443.out)|exact HB.out))));have n2_:=zA (zX (g:=gb443) (o:=.cells #[.slice A0_0 l0_0.length c0_0,.slice A0_1 l0_1.length c0_1] 33 (0,0)) (by (with_reducible repeat (first|refine zG ?_ _|refine zI ?_|refine zH ?_ _));exact BK443.out) hb);have n3_:=zA (zR (by repeat (first|(with_reducible first|exact HB.out|apply zD|apply zB|apply zC|refine zF ?_ GE443.out)|exact HB.out)) hb);clear HO_5;clear BK443;clear HB;have HO_5:=n0_;have HO451:=n1_;have BK443:=n2_;have HB:=n3_;clear n0_ n1_ n2_ n3_;clear hb ho22))
        go_loopg [7,8] k1 (fun kq v7 v8 w' => ∃ (x5_2:List Int) (x7_2:List Int) (x8_2:Int),v8 = .int .i64 x8_2∧Aside0 (spec_l2Names.l1 kq x5_2 x7_2 x8_2 l0_0 l0_1 = some r)∧Aside0 (kq≤k1)∧Aside0 (Kd.R (Kd.int .i64) 3 w' w.heap.size (fun k_=>some k_≠(v7:Value).ownBlock) (.slice (some ⟨go17,0,none⟩) x5_1.length co18) x5_2)∧Aside0 (Kd.R (Kd.int .i64) 3 w' w.heap.size (fun k_=>some k_≠((.slice (some ⟨go17,0,none⟩) x5_1.length co18):Value).ownBlock) v7 x7_2)∧Aside0 (w'.heap[gb443]? = some (.cells #[(.slice A0_0 l0_0.length c0_0),(.slice A0_1 l0_1.length c0_1)] 33 (0,0)))∧Aside0 (Below w.heap.size w w'))
        case atStart=>exact ⟨(y448),(y449),(0),(by first|rfl|(simp;done)|(simp [*];done)),H',⟨Nat.le_refl _⟩,⟨by apply zR_;exact zV HO_5.out (fun _ hk=>hk.2)⟩,⟨by apply zR_;exact zV HO451.out (fun _ hk=>hk.2)⟩,⟨by (with_reducible repeat (first|refine zG ?_ _|refine zI ?_|refine zH ?_ _));exact BK443.out⟩,⟨by repeat (first|(with_reducible first|exact HB.out|apply zD|apply zB|apply zC|refine zF ?_ GE443.out)|exact HB.out)⟩⟩
        case round =>
         clear H'
         (try clear c1);(try clear p1);(try clear q1);(try clear hx1);(try clear p2);(try clear c3);(try clear c3b0);(try clear c3b1);(try clear c4);(try clear c4b0);(try clear c4b1);(try clear p6);(try clear c9);(try clear c9b0);(try clear c10);(try clear c10b0);(try clear p11);(try clear q11);(try clear hx11);(try clear hf11);(try clear c15);(try clear c15b0);(try clear c16);(try clear c16b0);(try clear p17);(try clear q17);(try clear hx17);(try clear hf17);(try clear hcz6_0);(try clear hcz6_1);(try clear hfz6_0);(try clear hfz6_1);(try clear hx11_0);(try clear hx17_0);(try clear p11);(try clear p17);(try clear p2);(try clear q11);(try clear q17)
         obtain ⟨x5_2,x7_2,x8_2,rfl,HA,HK2,HO_5,HO_7,BK443,HB⟩:=hrel
         have hl5_2:=(zU HO_5.out).1
         rw [hl5_2] at HO_5
         (try simp only [hl5_2])
         (try simp only [hl5_2] at BK443)
         (try simp only [hl5_2] at HO_7)
         cases gk with
         | zero=>exact absurd HA.out (by simp [spec_l2Names.l1])
         | succ k2 =>
          have H:=HA.out
          clear HA
          simp only [spec_l2Names.l1] at H
          by_cases c23:x8_2 < (x7_2.length:Int)
          ·rw [if_pos c23] at H
           have c23b0:decide (x8_2 < (x7_2.length:Int)) = true:=zO c23
           clear c23
           by_cases c24:0≤x8_2
           ·rw [if_pos c24] at H
            have c24b0:decide (0≤x8_2) = true:=zO c24
            clear c24
            by_cases c25:0≤(rd x7_2 x8_2)
            ·rw [if_pos c25] at H
             have c25b0:decide (0≤(rd x7_2 x8_2)) = true:=zO c25
             clear c25
             by_cases c26:(rd x7_2 x8_2) < (l0_0.length:Int)
             ·rw [if_pos c26] at H
              have c26b0:decide ((rd x7_2 x8_2) < (l0_0.length:Int)) = true:=zO c26
              clear c26
              by_cases c27:(rd x7_2 x8_2) < (l0_1.length:Int)
              ·rw [if_pos c27] at H
               have c27b0:decide ((rd x7_2 x8_2) < (l0_1.length:Int)) = true:=zO c27
               clear c27
               obtain ⟨y456,hy456⟩:∃ y_:List Int,y_ = (([rd l0_0 (rd x7_2 x8_2),rd l0_1 (rd x7_2 x8_2)]:List Int)):=⟨_,rfl⟩
               replace H:(spec_l2Names.l2 k2 x5_2 x7_2 x8_2 y456 0 l0_0 l0_1) = some r:=by (try rw [hy456]);first|with_reducible exact H|with_reducible exact zS_ H|exact H
               have Ny456:=zA hy456
               clear hy456
               have H':=zA H
               clear H
               obtain ⟨Ao28,co28,eo28⟩:=zg HO_7.out
               subst eo28
               try go_wp2
               have n0_:=zA (Kd.R_drew HO_5.out)
               have n1_:=zA (Kd.R_drew HO_7.out)
               have n2_:=zA (zI BK443.out)
               have n3_:=zA (zC HB.out)
               clear HO_5 HO_7 BK443 HB
               have HO_5:=n0_
               have HO_7:=n1_
               have BK443:=n2_
               have HB:=n3_
               clear n0_ n1_ n2_ n3_
               have p452:0≤(x8_2:Int):=zE (by with_reducible assumption)
               have q452:x8_2 < (x7_2.length:Int):=zE (by with_reducible assumption)
               obtain ⟨ad452,e452,hx452_0⟩:=Kd.at_int (zU HO_7.out).2.2 x8_2 p452 q452
               cases e452
               replace p452:=eq_true p452
               replace q452:=eq_true q452
               have p453:0≤((rd x7_2 x8_2):Int):=zE (by with_reducible assumption)
               have q453:(rd x7_2 x8_2) < (l0_0.length:Int):=zE (by with_reducible assumption)
               obtain ⟨ad453,e453,hx453_0⟩:=Kd.at_int HR0_0.out (rd x7_2 x8_2) p453 q453
               have hw453_0:=hx453_0
               cases e453
               replace hx453_0:=(HB.out.cell (zY w _ hx453_0)).trans hx453_0
               replace p453:=eq_true p453
               replace q453:=eq_true q453
               have p454:0≤(x8_2:Int):=zE (by with_reducible assumption)
               have q454:x8_2 < (x7_2.length:Int):=zE (by with_reducible assumption)
               obtain ⟨ad454,e454,hx454_0⟩:=Kd.at_int (zU HO_7.out).2.2 x8_2 p454 q454
               obtain rfl:ad452 = ad454:=(by injection e454)
               replace p454:=eq_true p454
               replace q454:=eq_true q454
               have p455:0≤((rd x7_2 x8_2):Int):=zE (by with_reducible assumption)
               have q455:(rd x7_2 x8_2) < (l0_1.length:Int):=zE (by with_reducible assumption)
               obtain ⟨ad455,e455,hx455_0⟩:=Kd.at_int HR0_1.out (rd x7_2 x8_2) p455 q455
               have hw455_0:=hx455_0
               cases e455
               replace hx455_0:=(HB.out.cell (zY w _ hx455_0)).trans hx455_0
               replace p455:=eq_true p455
               replace q455:=eq_true q455
               refine start_ (n:=18) (S:=fun w'=>w'.cell? ⟨gb443,0,none⟩ = some (.slice (some ad453) l0_0.length c0_0)∧w'.cell? ⟨gb443,1,none⟩ = some (.slice (some ad455) l0_1.length c0_1)∧w'.cell? (ad452.add (x8_2).toNat) = some (.int .i64 (rd x7_2 x8_2))∧w'.cell? (ad453.add ((rd x7_2 x8_2)).toNat) = some (.int .i64 (rd l0_0 (rd x7_2 x8_2)))∧w'.cell? (ad452.add (x8_2).toNat) = some (.int .i64 (rd x7_2 x8_2))∧w'.cell? (ad455.add ((rd x7_2 x8_2)).toNat) = some (.int .i64 (rd l0_1 (rd x7_2 x8_2)))) (ds:=[]) #[zf,zf,zf,zf,zf,zf,zf,zf,zf,zf,zf,zf,zf,zf,zf,zf,zf,zf] (by kernel_rfl) rfl rfl ⟨(zT BK443.out 0).trans rfl,(zT BK443.out 1).trans rfl,hx452_0,((HB.out.cell (zY w _ hw453_0)).trans hw453_0),hx454_0,((HB.out.cell (zY w _ hw455_0)).trans hw455_0)⟩ (fun hHeld=>?_);refine with_tabW spec_l2Names.tab11 spec_l2Names.bits11 (fun HT_ HW_=>?_)
               generalize wr.drew = w29 at HO_5 HO_7 BK443 HB hx452_0 hx453_0 hx454_0 hx455_0 hHeld ⊢
               refine pure_ (i:=0) (N:=some 35) (v:=?_) (a':=?_) #[zt,zf,zf,zf,zf,zf,zf,zf,zf,zf,zf,zf,zf,zf,zf,zf,zf,zf] rfl rfl (any_of HT_.out (by kernel_rfl)) (fun _ _ _ h=>h) (Or.inl ⟨by rfl,?_⟩) ?_ ?_
               rotate_left
               ·intro w'
                go_simp
                with_reducible rfl
               rotate_left
               ·simp only [Act.put,zP_,i64_w]
                rfl
               refine pure_ (i:=2) (N:=some 37) (v:=?_) (a':=?_) #[zt,zf,zt,zf,zf,zf,zf,zf,zf,zf,zf,zf,zf,zf,zf,zf,zf,zf] rfl rfl (any_of HT_.out (by kernel_rfl)) (fun _ _ _ h=>h) (Or.inl ⟨by rfl,?_⟩) ?_ ?_
               rotate_left
               ·intro w'
                go_simp
                with_reducible rfl
               rotate_left
               ·simp only [Act.put,zP_,i64_w]
                rfl
               refine pure_ (i:=3) (N:=some 38) (v:=?_) (a':=?_) #[zt,zf,zt,zt,zf,zf,zf,zf,zf,zf,zf,zf,zf,zf,zf,zf,zf,zf] rfl rfl (any_of HT_.out (by kernel_rfl)) (fun _ _ _ h=>h) (Or.inl ⟨by rfl,?_⟩) ?_ ?_
               rotate_left
               ·intro w'
                go_simp
                with_reducible rfl
               rotate_left
               ·simp only [Act.put,zP_,i64_w]
                rfl
               refine pure_ (i:=4) (N:=some 39) (v:=?_) (a':=?_) #[zt,zf,zt,zt,zt,zf,zf,zf,zf,zf,zf,zf,zf,zf,zf,zf,zf,zf] rfl rfl (any_of HT_.out (by kernel_rfl)) (fun _ _ _ h=>h) (Or.inl ⟨by rfl,?_⟩) ?_ ?_
               rotate_left
               ·intro w'
                go_simp
                with_reducible rfl
               rotate_left
               ·simp only [Act.put,zP_,i64_w]
                rfl
               refine pure_ (i:=8) (N:=some 43) (v:=?_) (a':=?_) #[zt,zf,zt,zt,zt,zf,zf,zf,zt,zf,zf,zf,zf,zf,zf,zf,zf,zf] rfl rfl (any_of HT_.out (by kernel_rfl)) (fun _ _ _ h=>h) (Or.inl ⟨by rfl,?_⟩) ?_ ?_
               rotate_left
               ·intro w'
                go_simp
                with_reducible rfl
               rotate_left
               ·simp only [Act.put,zP_,i64_w]
                rfl
               refine pure_ (i:=10) (N:=some 45) (v:=?_) (a':=?_) #[zt,zf,zt,zt,zt,zf,zf,zf,zt,zf,zt,zf,zf,zf,zf,zf,zf,zf] rfl rfl (any_of HT_.out (by kernel_rfl)) (fun _ _ _ h=>h) (Or.inl ⟨by rfl,?_⟩) ?_ ?_
               rotate_left
               ·intro w'
                go_simp
                with_reducible rfl
               rotate_left
               ·simp only [Act.put,zP_,i64_w]
                rfl
               refine pure_ (i:=11) (N:=some 46) (v:=?_) (a':=?_) #[zt,zf,zt,zt,zt,zf,zf,zf,zt,zf,zt,zt,zf,zf,zf,zf,zf,zf] rfl rfl (any_of HT_.out (by kernel_rfl)) (fun _ _ _ h=>h) (Or.inl ⟨by rfl,?_⟩) ?_ ?_
               rotate_left
               ·intro w'
                go_simp
                with_reducible rfl
               rotate_left
               ·simp only [Act.put,zP_,i64_w]
                rfl
               refine pure_ (i:=12) (N:=some 47) (v:=?_) (a':=?_) #[zt,zf,zt,zt,zt,zf,zf,zf,zt,zf,zt,zt,zt,zf,zf,zf,zf,zf] rfl rfl (any_of HT_.out (by kernel_rfl)) (fun _ _ _ h=>h) (Or.inl ⟨by rfl,?_⟩) ?_ ?_
               rotate_left
               ·intro w'
                go_simp
                with_reducible rfl
               rotate_left
               ·simp only [Act.put,zP_,i64_w]
                rfl
               refine take_ (i:=1) (N:=some 36) (v:=?_) (a':=?_) #[zt,zt,zt,zt,zt,zf,zf,zf,zt,zf,zt,zt,zt,zf,zf,zf,zf,zf] rfl rfl (take_ofW HT_.out HW_.out (by kernel_rfl)) (fun _ _ _ h=>h) (Or.inl ⟨by rfl,?_⟩) hHeld ?_ ?_
               rotate_left
               ·rintro w' ⟨s0,s1,s2,s3,s4,s5⟩
                go_simp
                with_reducible rfl
               rotate_left
               ·simp only [Act.put,zP_,i64_w]
                rfl
               refine take_ (i:=5) (N:=some 40) (v:=?_) (a':=?_) #[zt,zt,zt,zt,zt,zt,zf,zf,zt,zf,zt,zt,zt,zf,zf,zf,zf,zf] rfl rfl (take_ofW HT_.out HW_.out (by kernel_rfl)) (fun _ _ _ h=>h) (Or.inl ⟨by rfl,?_⟩) hHeld ?_ ?_
               rotate_left
               ·rintro w' ⟨s0,s1,s2,s3,s4,s5⟩
                go_simp
                with_reducible rfl
               rotate_left
               ·simp only [Act.put,zP_,i64_w]
                rfl
               refine pure_ (i:=6) (N:=some 41) (v:=?_) (a':=?_) #[zt,zt,zt,zt,zt,zt,zt,zf,zt,zf,zt,zt,zt,zf,zf,zf,zf,zf] rfl rfl (any_of HT_.out (by kernel_rfl)) (fun _ _ _ h=>h) (Or.inl ⟨by rfl,?_⟩) ?_ ?_
               rotate_left
               ·intro w'
                go_simp
                with_reducible rfl
               rotate_left
               ·simp only [Act.put,zP_,i64_w]
                rfl
               refine take_ (i:=7) (N:=some 42) (v:=?_) (a':=?_) #[zt,zt,zt,zt,zt,zt,zt,zt,zt,zf,zt,zt,zt,zf,zf,zf,zf,zf] rfl rfl (take_ofW HT_.out HW_.out (by kernel_rfl)) (fun _ _ _ h=>h) (Or.inl ⟨by rfl,?_⟩) hHeld ?_ ?_
               rotate_left
               ·rintro w' ⟨s0,s1,s2,s3,s4,s5⟩
                go_simp
                with_reducible rfl
               rotate_left
               ·simp only [Act.put,zP_,i64_w]
                rfl
               refine take_ (i:=9) (N:=some 44) (v:=?_) (a':=?_) #[zt,zt,zt,zt,zt,zt,zt,zt,zt,zt,zt,zt,zt,zf,zf,zf,zf,zf] rfl rfl (take_ofW HT_.out HW_.out (by kernel_rfl)) (fun _ _ _ h=>h) (Or.inl ⟨by rfl,?_⟩) hHeld ?_ ?_
               rotate_left
               ·rintro w' ⟨s0,s1,s2,s3,s4,s5⟩
                go_simp
                with_reducible rfl
               rotate_left
               ·simp only [Act.put,zP_,i64_w]
                rfl
               refine take_ (i:=13) (N:=some 48) (v:=?_) (a':=?_) #[zt,zt,zt,zt,zt,zt,zt,zt,zt,zt,zt,zt,zt,zt,zf,zf,zf,zf] rfl rfl (take_ofW HT_.out HW_.out (by kernel_rfl)) (fun _ _ _ h=>h) (Or.inl ⟨by rfl,?_⟩) hHeld ?_ ?_
               rotate_left
               ·rintro w' ⟨s0,s1,s2,s3,s4,s5⟩
                go_simp
                with_reducible rfl
               rotate_left
               ·simp only [Act.put,zP_,i64_w]
                rfl
               refine pure_ (i:=14) (N:=some 49) (v:=?_) (a':=?_) #[zt,zt,zt,zt,zt,zt,zt,zt,zt,zt,zt,zt,zt,zt,zt,zf,zf,zf] rfl rfl (any_of HT_.out (by kernel_rfl)) (fun _ _ _ h=>h) (Or.inl ⟨by rfl,?_⟩) ?_ ?_
               rotate_left
               ·intro w'
                go_simp
                with_reducible rfl
               rotate_left
               ·simp only [Act.put,zP_,i64_w]
                rfl
               refine take_ (i:=15) (N:=some 50) (v:=?_) (a':=?_) #[zt,zt,zt,zt,zt,zt,zt,zt,zt,zt,zt,zt,zt,zt,zt,zt,zf,zf] rfl rfl (take_ofW HT_.out HW_.out (by kernel_rfl)) (fun _ _ _ h=>h) (Or.inl ⟨by rfl,?_⟩) hHeld ?_ ?_
               rotate_left
               ·rintro w' ⟨s0,s1,s2,s3,s4,s5⟩
                go_simp
                with_reducible rfl
               rotate_left
               ·simp only [Act.put,zP_,i64_w]
                rfl
               refine one_ (i:=16) (N:=some 51) #[zt,zt,zt,zt,zt,zt,zt,zt,zt,zt,zt,zt,zt,zt,zt,zt,zt,zf] rfl rfl (one_of HT_.out (by kernel_rfl)) (by decide) (fun K hK=>?_)
               refine Kd.R_lit_step (Kd.int .i64) _ 3 ?hg (N:=51) ?hd (xs:=([rd l0_0 (rd x7_2 x8_2),rd l0_1 (rd x7_2 x8_2)]:List Int)) (inner:=[.int .i64 (rd l0_0 (rd x7_2 x8_2)),.int .i64 (rd l0_1 (rd x7_2 x8_2))]) (ok:=fun _=>True) (okp:=fun _=>True) ?hr ?hp (fun _ hk=>hk) trivial (Below.refl _ _) (Nat.le_refl _) (by simp) ?_;(case hd=>rfl);(case hg=>rfl);(case hr=>first|(go_simp;done)|(go_simp;rfl));(case hp=>exact (Reps.one (show Kd.M (Kd.int .i64) _ _ _ (rd l0_0 (rd x7_2 x8_2)) [.int .i64 (rd l0_0 (rd x7_2 x8_2))] from rfl) (Reps.one (show Kd.M (Kd.int .i64) _ _ _ (rd l0_1 (rd x7_2 x8_2)) [.int .i64 (rd l0_1 (rd x7_2 x8_2))] from rfl) (Reps.none _ _))))
               intro v457 w30 ho31 hb hg_ hnew_
               have HS2_:=(hb.cell (zY _ _ (hHeld.2.2.1))).trans (hHeld.2.2.1)
               have HS4_:=(hb.cell (zY _ _ (hHeld.2.2.2.2.1))).trans (hHeld.2.2.2.2.1)
               clear hg_ hnew_
               (first|rw [← Ny456.out] at ho31|(simp only [Int.reduceToNat] at ho31;rw [← Ny456.out] at ho31))
               have n0_:=zA (Kd.R_elder' (by apply zR_;exact HO_5.out) (zd ho31) hb)
               have n1_:=zA (Kd.R_elder' (by apply zR_;exact HO_7.out) (zd ho31) hb)
               have n2_:=zA (ze (Kd.R_new' (Kd.R_new' ho31 (Kd.R_lt (by apply zR_;exact HO_5.out))) (Kd.R_lt (by apply zR_;exact HO_7.out))) (zQ (by repeat (first|(with_reducible first|exact HB.out|apply zD|apply zB|apply zC|refine zF ?_ GE443.out)|exact HB.out))))
               have n3_:=zA (zX (g:=gb443) (o:=.cells #[.slice (some ad453) l0_0.length c0_0,.slice (some ad455) l0_1.length c0_1] 33 (0,0)) (by (with_reducible repeat (first|refine zG ?_ _|refine zI ?_|refine zH ?_ _));exact BK443.out) hb)
               have n4_:=zA (zR (by repeat (first|(with_reducible first|exact HB.out|apply zD|apply zB|apply zC|refine zF ?_ GE443.out)|exact HB.out)) hb)
               clear HO_5 HO_7 BK443 HB
               have HO_5:=n0_
               have HO_7:=n1_
               have HO458:=n2_
               have BK443:=n3_
               have HB:=n4_
               clear n0_ n1_ n2_ n3_ n4_ hb ho31
               refine hK.out _ _ ⟨(zT BK443.out 0).trans rfl,(zT BK443.out 1).trans rfl,HS2_,((HB.out.cell (zY w _ hw453_0)).trans hw453_0),HS4_,((HB.out.cell (zY w _ hw455_0)).trans hw455_0)⟩ (fun hHeld=>?_)
               clear hK K
               refine norm_ (a':=?_) ?_ ?_
               rotate_left
               ·show Act.put _ (some 51) _ = _
                simp only [Act.put,zP_,i64_w]
                rfl
               refine pure_ (i:=17) (N:=some 9) (v:=?_) (a':=?_) #[zt,zt,zt,zt,zt,zt,zt,zt,zt,zt,zt,zt,zt,zt,zt,zt,zt,zt] rfl rfl (any_of HT_.out (by kernel_rfl)) (fun _ _ _ h=>h) (Or.inl ⟨by rfl,?_⟩) ?_ ?_
               rotate_left
               ·intro w'
                go_simp
                with_reducible rfl
               rotate_left
               ·simp only [Act.put,zP_,i64_w]
                rfl
               refine done_ (done_of HT_.out (by kernel_rfl)) ?_
               try go_wp2
               go_loopg [7,10] k2 (fun kq v7 v10 w' => ∃ (x5_3:List Int) (x7_3:List Int) (x10_3:Int),v10 = .int .i64 x10_3∧Aside0 (spec_l2Names.l2 kq x5_3 x7_3 x8_2 y456 x10_3 l0_0 l0_1 = some r)∧Aside0 (kq≤k2)∧Aside0 (Kd.R (Kd.int .i64) 3 w' w.heap.size (fun k_=>some k_≠(v7:Value).ownBlock∧some k_≠(v457:Value).ownBlock) (.slice (some ⟨go17,0,none⟩) x5_2.length co18) x5_3)∧Aside0 (Kd.R (Kd.int .i64) 3 w' w.heap.size (fun k_=>some k_≠((.slice (some ⟨go17,0,none⟩) x5_2.length co18):Value).ownBlock∧some k_≠(v457:Value).ownBlock) v7 x7_3)∧Aside0 (Kd.R (Kd.int .i64) 3 w' w.heap.size (fun k_=>some k_≠((.slice (some ⟨go17,0,none⟩) x5_2.length co18):Value).ownBlock∧some k_≠(v7:Value).ownBlock) v457 y456)∧Aside0 (w'.heap[gb443]? = some (.cells #[(.slice (some ad453) l0_0.length c0_0),(.slice (some ad455) l0_1.length c0_1)] 33 (0,0)))∧Aside0 (Below w.heap.size w w'))
               case atStart=>exact ⟨(x5_2),(x7_2),(0),(by first|rfl|(simp;done)|(simp [*];done)),H',⟨Nat.le_refl _⟩,⟨by (try simp only [hl5_2]);apply zR_;exact HO_5.out⟩,⟨by (try simp only [hl5_2]);apply zR_;exact HO_7.out⟩,⟨by (try simp only [hl5_2]);apply zR_;exact zV HO458.out (fun _ hk=>⟨hk.1.2,hk.2⟩)⟩,⟨by (try simp only [hl5_2]);(with_reducible repeat (first|refine zG ?_ _|refine zI ?_|refine zH ?_ _));exact BK443.out⟩,⟨by repeat (first|(with_reducible first|exact HB.out|apply zD|apply zB|apply zC|refine zF ?_ GE443.out)|exact HB.out)⟩⟩
               case round =>
                clear H'
                (try clear c1);(try clear p1);(try clear q1);(try clear hx1);(try clear c2);(try clear p2);(try clear c3);(try clear c3b0);(try clear c3b1);(try clear c4);(try clear c4b0);(try clear c4b1);(try clear p4);(try clear q4);(try clear hx4);(try clear p6);(try clear c9);(try clear c9b0);(try clear c10);(try clear c10b0);(try clear p11);(try clear q11);(try clear hx11);(try clear hf11);(try clear c15);(try clear c15b0);(try clear c16);(try clear c16b0);(try clear p17);(try clear q17);(try clear hx17);(try clear hf17);(try clear c23);(try clear c23b0);(try clear c24);(try clear c24b0);(try clear c25);(try clear c25b0);(try clear c26);(try clear c26b0);(try clear c27);(try clear c27b0);(try clear hcz6_0);(try clear hcz6_1);(try clear hfz6_0);(try clear hfz6_1);(try clear hx11_0);(try clear hx17_0);(try clear hx452_0);(try clear hx453_0);(try clear hx454_0);(try clear hx455_0);(try clear p1);(try clear p11);(try clear p17);(try clear p2);(try clear p452);(try clear p453);(try clear p454);(try clear p455);(try clear p6);(try clear q1);(try clear q11);(try clear q17);(try clear q452);(try clear q453);(try clear q454);(try clear q455)
                obtain ⟨x5_3,x7_3,x10_3,rfl,HA,HK3,HO_5,HO_7,HO_9,BK443,HB⟩:=hrel
                have hl5_3:=(zU HO_5.out).1
                rw [hl5_3] at HO_5
                (try simp only [hl5_3])
                (try simp only [hl5_3] at BK443)
                (try simp only [hl5_3] at HO_7)
                (try simp only [hl5_3] at HO_9)
                cases gk with
                | zero=>exact absurd HA.out (by simp [spec_l2Names.l2])
                | succ k3 =>
                 have H:=HA.out
                 clear HA
                 simp only [spec_l2Names.l2] at H
                 by_cases c32:x10_3 < 2
                 ·rw [if_pos c32] at H
                  have c32b0:decide (x10_3 < 2) = true:=zO c32
                  clear c32
                  by_cases c33:0≤x10_3
                  ·rw [if_pos c33] at H
                   have c33b0:decide (0≤x10_3) = true:=zO c33
                   clear c33
                   by_cases c34:x10_3 < (y456.length:Int)
                   ·rw [if_pos c34] at H
                    have c34b0:decide (x10_3 < (y456.length:Int)) = true:=zO c34
                    clear c34
                    by_cases c35:0≤(rd y456 x10_3)
                    ·rw [if_pos c35] at H
                     have c35b0:decide (0≤(rd y456 x10_3)) = true:=zO c35
                     clear c35
                     by_cases c36:(rd y456 x10_3) < (x5_3.length:Int)
                     ·rw [if_pos c36] at H
                      have c36b0:decide ((rd y456 x10_3) < (x5_3.length:Int)) = true:=zO c36
                      clear c36
                      by_cases c37:(rd x5_3 (rd y456 x10_3)) < 0
                      ·rw [if_pos c37] at H
                       have c37b0:decide ((rd x5_3 (rd y456 x10_3)) < 0) = true:=zO c37
                       clear c37
                       obtain ⟨y462,hy462⟩:∃ y_:List Int,y_ = (x5_3.set ((rd y456 x10_3):Int).toNat (x7_3.length:Int)):=⟨_,rfl⟩
                       replace H:(if x7_3.length < 17592186044416 then (spec_l2Names.l2 k3 y462 (x7_3 ++ [rd y456 x10_3]) x8_2 y456 (wrap64 (x10_3+1)) l0_0 l0_1) else (none)) = some r:=by (try rw [hy462]);first|with_reducible exact H|with_reducible exact zS_ H|exact H
                       have Ny462:=zA hy462
                       clear hy462
                       by_cases c39:x7_3.length < 17592186044416
                       ·rw [if_pos c39] at H
                        have LMc39:=zA c39
                        clear c39
                        obtain ⟨y464,hy464⟩:∃ y_:List Int,y_ = (x7_3 ++ [rd y456 x10_3]):=⟨_,rfl⟩
                        replace H:(spec_l2Names.l2 k3 y462 y464 x8_2 y456 (wrap64 (x10_3+1)) l0_0 l0_1) = some r:=by (try rw [hy464]);first|with_reducible exact H|with_reducible exact zS_ H|exact H
                        have Ny464:=zA hy464
                        clear hy464
                        have H':=zA H
                        clear H
                        obtain ⟨Ao40,co40,eo40⟩:=zg HO_9.out
                        subst eo40
                        have p459:0≤(x10_3:Int):=zE (by with_reducible assumption)
                        have q459:x10_3 < (y456.length:Int):=zE (by with_reducible assumption)
                        obtain ⟨ad459,e459,hx459_0⟩:=Kd.at_int (zU HO_9.out).2.2 x10_3 p459 q459
                        cases e459
                        replace p459:=eq_true p459
                        replace q459:=eq_true q459
                        have p460:0≤((rd y456 x10_3):Int):=zE (by with_reducible assumption)
                        have q460:(rd y456 x10_3) < (x5_3.length:Int):=zE (by with_reducible assumption)
                        obtain ⟨ad460,e460,hx460_0⟩:=Kd.at_int (zU HO_5.out).2.2 (rd y456 x10_3) p460 q460
                        obtain rfl:(⟨go17,0,none⟩:Addr) = ad460:=(by injection e460)
                        (first|simp only [add_plain] at hx460_0|simp only [add_at] at hx460_0|simp only [Addr.add,Nat.zero_add] at hx460_0|skip)
                        replace p460:=eq_true p460
                        replace q460:=eq_true q460
                        have p461:0≤(x10_3:Int):=zE (by with_reducible assumption)
                        have q461:x10_3 < (y456.length:Int):=zE (by with_reducible assumption)
                        obtain ⟨ad461,e461,hx461_0⟩:=Kd.at_int (zU HO_9.out).2.2 x10_3 p461 q461
                        obtain rfl:ad459 = ad461:=(by injection e461)
                        replace p461:=eq_true p461
                        replace q461:=eq_true q461
                        obtain ⟨Ao41,co41,eo41⟩:=zg HO_7.out
                        subst eo41
                        have p38:0≤((rd y456 x10_3):Int):=zE (by with_reducible assumption)
                        have q38:((rd y456 x10_3):Int) < ((x5_3.length:Int):Int):=zE (by with_reducible assumption)
                        obtain ⟨hx38_0,hf38_0⟩:=Kd.R_celln 0 HO_5.out ((rd y456 x10_3):Int) p38 q38
                        replace p38:=eq_true p38
                        replace q38:=eq_true q38
                        have HP42:=Kd.R_putg HO_5.out ((rd y456 x10_3):Int) (x7_3.length:Int)
                        go_wp2_with (first|((with_reducible refine gate_store (t:=3) (p:=71) rfl ?_);refine store_event (t:=3) (p:=71) (v:=?vo_w43) (w1:=(wr.setCell ⟨go17,((rd y456 x10_3):Int).toNat,none⟩ (.int .i64 (x7_3.length:Int)))) ?hg ?ho ?hn ?hr ?_;(case ho=>rfl);(case hg=>rfl);(case hn=>rfl);(case hr=>first|(go_simp;done)|(go_simp;rfl));intro w43 hw;have hg:wr.grownBy w43 (some go17):=(by rw [hw];exact HP42.2);have hp_:Kd.R (Kd.int .i64) 3 w43 w.heap.size (fun k_=>some k_≠(.slice Ao41 x7_3.length co41:Value).ownBlock∧some k_≠(.slice (some ad459) y456.length co40:Value).ownBlock) (.slice (some ⟨go17,0,none⟩) x5_3.length co18) y462:=(by rw [hw,Ny462.out];exact HP42.1);clear HP42;have n0_:=zA (hp_);have n1_:=zA (Kd.R_after (v:=(.slice (some ⟨go17,0,none⟩) x5_3.length co18)) (v1:=(.slice (some ⟨go17,0,none⟩) x5_3.length co18)) (ok:=(fun k_=>some k_≠(.slice (some ad459) y456.length co40:Value).ownBlock)) (by apply zR_;exact zV HO_7.out (fun _ hk=>⟨hk.2,hk.1⟩)) hg (.inl rfl));have n2_:=zA (Kd.R_after (v:=(.slice (some ⟨go17,0,none⟩) x5_3.length co18)) (v1:=(.slice (some ⟨go17,0,none⟩) x5_3.length co18)) (ok:=(fun k_=>some k_≠(.slice Ao41 x7_3.length co41:Value).ownBlock)) (by apply zR_;exact zV HO_9.out (fun _ hk=>⟨hk.2,hk.1⟩)) hg (.inl rfl));have n3_:=zA (blk_grown (g:=gb443) (o:=.cells #[.slice (some ad453) l0_0.length c0_0,.slice (some ad455) l0_1.length c0_1] 33 (0,0)) (by (with_reducible repeat (first|refine zG ?_ _|refine zI ?_|refine zH ?_ _));exact BK443.out) hg (Kd.R_ne HO_5.out BK443.out (by decide)));have n4_:=zA ((by rw [hw];exact zF (HB.out) GB17.out:Below w.heap.size w w43));clear HO_5;clear HO_7;clear HO_9;clear BK443;clear HB;have HO_5:=n0_;have HO_7:=n1_;have HO_9:=n2_;have BK443:=n3_;have HB:=n4_;clear n0_ n1_ n2_ n3_ n4_;clear hg hw hp_;have p463:0≤(x10_3:Int):=zE (by with_reducible assumption);have q463:x10_3 < (y456.length:Int):=zE (by with_reducible assumption);obtain ⟨ad463,e463,hx463_0⟩:=Kd.at_int (zU HO_9.out).2.2 x10_3 p463 q463;obtain rfl:ad459 = ad463:=(by injection e463);replace p463:=eq_true p463;replace q463:=eq_true q463)|((with_reducible refine gate_builtin (b:=.append) (xs:=#[.tmp 72,.tmp 77]) rfl ?_);at_builtin;refine Kd.R_append (Kd.int .i64) (w0:=w) w.heap.size rfl (.tmp 72) (.tmp 77) 31 3 (.int .i64 0) 8 rfl Try.underlying31 info3 rfl (by decide) (by omega) (.slice Ao41 x7_3.length co41) x7_3 (rd y456 x10_3) [.int .i64 (rd y456 x10_3)] (fun k_=>some k_≠(.slice (some ⟨go17,0,none⟩) x5_3.length co18:Value).ownBlock∧some k_≠(.slice (some ad459) y456.length co40:Value).ownBlock) (fun _=>False) rfl rfl ?aP (fun _ hk=>hk.elim) ?aF ?aO ?aB ?aS ?aL ?_;(case aP=>exact rfl);(case aB=>exact (by repeat (first|(with_reducible first|exact HB.out|apply zD|apply zB|apply zC|refine zF ?_ GE443.out)|exact HB.out)));(case aF=>exact (fun k_ hk=>⟨Kd.fresh' (Kd.R_lt (by apply zR_;exact HO_5.out)) k_ hk,Kd.fresh' (Kd.R_lt (by apply zR_;exact HO_9.out)) k_ hk⟩));(case aO=>exact (by apply zR_;exact zV HO_7.out (fun _ hk=>⟨hk.2,hk.1⟩)));(case aS=>exact (zQ (by repeat (first|(with_reducible first|exact HB.out|apply zD|apply zB|apply zC|refine zF ?_ GE443.out)|exact HB.out))));(case aL=>have:=LMc39.out;omega);intro v465 w44 ho hb hg hat;rw [← Ny464.out] at ho;have n0_:=zA (Kd.R_after (ok:=(fun k_=>some k_≠(.slice (some ad459) y456.length co40:Value).ownBlock)) (by apply zR_;exact zV HO_5.out (fun _ hk=>⟨hk.2,hk.1⟩)) hg hat);have n1_:=zA (Kd.R_after (ok:=(fun k_=>some k_≠(.slice (some ⟨go17,0,none⟩) x5_3.length co18:Value).ownBlock)) (by apply zR_;exact zV HO_9.out (fun _ hk=>⟨hk.2,hk.1⟩)) hg hat);have n2_:=zA (blk_grown (g:=gb443) (o:=.cells #[.slice (some ad453) l0_0.length c0_0,.slice (some ad455) l0_1.length c0_1] 33 (0,0)) (by (with_reducible repeat (first|refine zG ?_ _|refine zI ?_|refine zH ?_ _));exact BK443.out) hg (Kd.R_ne HO_7.out BK443.out (by decide)));have n3_:=zA (hb);have n4_:=zA (ho);clear HO_5;clear HO_9;clear BK443;clear HB;clear HO_7;have HO_5:=n0_;have HO_9:=n1_;have BK443:=n2_;have HB:=n3_;have HO466:=n4_;clear n0_ n1_ n2_ n3_ n4_;clear ho hb hg hat))
                        (try simp only [← hl5_3])
                        go_roundg k3
                        case measure=>have:=HK1.out;have:=HK2.out;have:=HK3.out;omega
                        case rel=>exact ⟨(y462),(y464),(wrap64 (x10_3+1)),(by first|rfl|(simp;done)|(simp [*];done)),H',⟨by have:=HK1.out;have:=HK2.out;have:=HK3.out;omega⟩,⟨by (try simp only [hl5_2]);(try simp only [hl5_3]);apply zR_;exact zV HO_5.out (fun _ hk=>⟨hk.2,hk.1⟩)⟩,⟨by (try simp only [hl5_2]);(try simp only [hl5_3]);apply zR_;exact HO466.out⟩,⟨by (try simp only [hl5_2]);(try simp only [hl5_3]);apply zR_;exact HO_9.out⟩,⟨by (try simp only [hl5_2]);(try simp only [hl5_3]);(with_reducible repeat (first|refine zG ?_ _|refine zI ?_|refine zH ?_ _));exact BK443.out⟩,⟨by repeat (first|(with_reducible first|exact HB.out|apply zD|apply zB|apply zC|refine zF ?_ GE443.out)|exact HB.out)⟩⟩
                       ·rw [if_neg c39] at H
                        exact absurd H (by simp)
                      ·rw [if_neg c37] at H
                       have c37b0:decide ((rd x5_3 (rd y456 x10_3)) < 0) = false:=zP c37
                       clear c37
                       have H':=zA H
                       clear H
                       obtain ⟨Ao45,co45,eo45⟩:=zg HO_9.out
                       subst eo45
                       have p459:0≤(x10_3:Int):=zE (by with_reducible assumption)
                       have q459:x10_3 < (y456.length:Int):=zE (by with_reducible assumption)
                       obtain ⟨ad459,e459,hx459_0⟩:=Kd.at_int (zU HO_9.out).2.2 x10_3 p459 q459
                       cases e459
                       replace p459:=eq_true p459
                       replace q459:=eq_true q459
                       have p460:0≤((rd y456 x10_3):Int):=zE (by with_reducible assumption)
                       have q460:(rd y456 x10_3) < (x5_3.length:Int):=zE (by with_reducible assumption)
                       obtain ⟨ad460,e460,hx460_0⟩:=Kd.at_int (zU HO_5.out).2.2 (rd y456 x10_3) p460 q460
                       obtain rfl:(⟨go17,0,none⟩:Addr) = ad460:=(by injection e460)
                       (first|simp only [add_plain] at hx460_0|simp only [add_at] at hx460_0|simp only [Addr.add,Nat.zero_add] at hx460_0|skip)
                       replace p460:=eq_true p460
                       replace q460:=eq_true q460
                       go_wp2
                       (try simp only [← hl5_3])
                       go_roundg k3
                       case measure=>have:=HK1.out;have:=HK2.out;have:=HK3.out;omega
                       case rel=>exact ⟨(x5_3),(x7_3),(wrap64 (x10_3+1)),(by first|rfl|(simp;done)|(simp [*];done)),H',⟨by have:=HK1.out;have:=HK2.out;have:=HK3.out;omega⟩,⟨by (try simp only [hl5_2]);(try simp only [hl5_3]);apply zR_;exact HO_5.out⟩,⟨by (try simp only [hl5_2]);(try simp only [hl5_3]);apply zR_;exact HO_7.out⟩,⟨by (try simp only [hl5_2]);(try simp only [hl5_3]);apply zR_;exact HO_9.out⟩,⟨by (try simp only [hl5_2]);(try simp only [hl5_3]);(with_reducible repeat (first|refine zG ?_ _|refine zI ?_|refine zH ?_ _));exact BK443.out⟩,⟨by repeat (first|(with_reducible first|exact HB.out|apply zD|apply zB|apply zC|refine zF ?_ GE443.out)|exact HB.out)⟩⟩
                     ·rw [if_neg c36] at H
                      exact absurd H (by simp)
                    ·rw [if_neg c35] at H
                     exact absurd H (by simp)
                   ·rw [if_neg c34] at H
                    exact absurd H (by simp)
                  ·rw [if_neg c33] at H
                   exact absurd H (by simp)
                 ·rw [if_neg c32] at H
                  have c32b0:decide (x10_3 < 2) = false:=zP c32
                  clear c32
                  have H':=zA H
                  clear H
                  go_wp2
                  (try simp only [← hl5_2, ← hl5_3])
                  go_roundg k3
                  case measure=>have:=HK1.out;have:=HK2.out;have:=HK3.out;omega
                  case rel=>exact ⟨(x5_3),(x7_3),(wrap64 (x8_2+1)),(by first|rfl|(simp;done)|(simp [*];done)),H',⟨by have:=HK1.out;have:=HK2.out;have:=HK3.out;omega⟩,⟨by (try simp only [hl5_2]);(try simp only [hl5_3]);apply zR_;exact zV HO_5.out (fun _ hk=>hk.1)⟩,⟨by (try simp only [hl5_2]);(try simp only [hl5_3]);apply zR_;exact zV HO_7.out (fun _ hk=>hk.1)⟩,⟨by (try simp only [hl5_2]);(try simp only [hl5_3]);(with_reducible repeat (first|refine zG ?_ _|refine zI ?_|refine zH ?_ _));exact BK443.out⟩,⟨by repeat (first|(with_reducible first|exact HB.out|apply zD|apply zB|apply zC|refine zF ?_ GE443.out)|exact HB.out)⟩⟩
              ·rw [if_neg c27] at H
               exact absurd H (by simp)
             ·rw [if_neg c26] at H
              exact absurd H (by simp)
            ·rw [if_neg c25] at H
             exact absurd H (by simp)
           ·rw [if_neg c24] at H
            exact absurd H (by simp)
          ·rw [if_neg c23] at H
           have c23b0:decide (x8_2 < (x7_2.length:Int)) = false:=zP c23
           clear c23
           obtain rfl:=zS H
           obtain ⟨Ao46,co46,eo46⟩:=zg HO_7.out
           subst eo46
           go_wp2
           go_ret
           exact ⟨_,by first|rfl|(simp [errW_none,errW_some] <;> rfl)|(simp [*,errW_none,errW_some] <;> rfl),by apply zR_;exact zV HO_5.out (fun _ hk=>trivial),by repeat (first|(with_reducible first|exact HB.out|apply zD|apply zB|apply zC|refine zF ?_ GE443.out)|exact HB.out)⟩
       ·rw [if_neg c16] at H
        exact absurd H (by simp)
      ·rw [if_neg c15] at H
       exact absurd H (by simp)
  ·rw [if_neg c4] at H
   exact absurd H (by simp)
 ·rw [if_neg c3] at H
  exact absurd H (by simp)

/-! ### spec_l2Form: function 78 -/
def spec_l2Form.f (k:Nat) (l0_0:List Int) (l0_1:List Int) (a1:Int):Option (List Int × List Int):=(spec_l2Names.f k l0_0 l0_1 a1).bind fun t469=>((spec_l2Rename.f k l0_0 l0_1 t469).bind fun bt472=>(some (bt472.1,bt472.2)))
theorem spec_l2Form.mono:∀ a0 a1 a2 k,LeO (spec_l2Form.f k a0 a1 a2) (spec_l2Form.f (k+1) a0 a1 a2):=by
 intro a0 a1 a2 k
 unfold spec_l2Form.f
 repeat' first
   | (with_reducible exact spec_l2Names.mono _ _ _ _)
   | (with_reducible exact spec_l2Rename.mono _ _ _ _)
   | (with_reducible exact LeO.refl _)
   | (with_reducible exact za _)
   | (with_reducible refine zc ?_ ?_)
   | (with_reducible refine zb ?_ (fun _=>?_))
set_option maxHeartbeats 8000000 in
set_option maxRecDepth 100000 in
theorem spec_l2Form.calls (k:Nat) (A0_0:Option Addr) (c0_0:Nat) (l0_0:List Int) (A0_1:Option Addr) (c0_1:Nat) (l0_1:List Int) (a1:Int) (r1:List Int) (r2:List Int) (w:World) (hr0_0:Kd.C (Kd.int .i64) w A0_0 l0_0.length l0_0) (hc0_0:l0_0.length≤c0_0) (hr0_1:Kd.C (Kd.int .i64) w A0_1 l0_1.length l0_1) (hc0_1:l0_1.length≤c0_1) (h:spec_l2Form.f k l0_0 l0_1 a1 = some (r1,r2)) :
  Calls Try.prog 78 #[.agg #[.slice A0_0 l0_0.length c0_0,.slice A0_1 l0_1.length c0_1],.int .i64 a1] w fun e w' => ∃ v0_ v1_:Value,e = .returned (.agg #[v0_,v1_])∧Kd.R (Kd.int .i64) 3 w' w.heap.size (fun k_=>some k_≠(v1_:Value).ownBlock) v0_ r1∧Kd.R (Kd.int .i64) 3 w' w.heap.size (fun k_=>some k_≠(v0_:Value).ownBlock) v1_ r2∧Below w.heap.size w w':=by
 have hu33:=Try.underlying33
 have HR0_0:=zA hr0_0
 have HC0_0:=zA hc0_0
 clear hr0_0 hc0_0
 have HR0_1:=zA hr0_1
 have HC0_1:=zA hc0_1
 clear hr0_1 hc0_1
 have HB:=zA (Below.refl w.heap.size w)
 have H:((spec_l2Names.f k l0_0 l0_1 a1).bind fun t469=>((spec_l2Rename.f k l0_0 l0_1 t469).bind fun bt472=>(some (bt472.1,bt472.2)))) = some (r1,r2):=h
 clear h
 replace H:=zz0 H
 obtain ⟨t469,A30,H⟩:=H
 try dsimp only at H
 have A3:=zA A30
 clear A30
 replace H:=zz0 H
 obtain ⟨⟨t472,t475⟩,A40,H⟩:=H
 try dsimp only at H
 have A4:=zA A40
 clear A40
 simp only [Option.some.injEq,Prod.mk.injEq] at H
 obtain ⟨rfl,rfl⟩:=H
 go_enter Try.func78,Try.ntmps78
 try go_wp2_with (first|((with_reducible refine gate_dst (N:=2) rfl ?_);refine box_event ?hg (N:=2) ?hd (cs:=#[.slice A0_0 l0_0.length c0_0,.slice A0_1 l0_1.length c0_1]) (t:=33) ?hr ?_;(case hd=>rfl);(case hg=>rfl);(case hr=>first|(go_simp;done)|(go_simp;rfl));intro gb467 hg w5 hbox hb;have n0_:=zA (zR (by exact zB_ HB.out) hb);have n1_:=zA (hbox);have n2_:=zA ((by rw [hg];exact (zQ (by exact zB_ HB.out)):w.heap.size≤gb467));have n3_:=zA ((by rw [hg];exact (zQ (by exact zB_ HB.out)):w.heap.size≤gb467));clear HB;have HB:=n0_;have BK467:=n1_;have GW467:=n2_;have GE467:=n3_;clear n0_ n1_ n2_ n3_;clear hb hbox hg)|((with_reducible refine gate_dst (N:=4) rfl ?_);refine box_event ?hg (N:=4) ?hd (cs:=#[.slice none 0 0,.slice none 0 0]) (t:=33) ?hr ?_;(case hd=>rfl);(case hg=>rfl);(case hr=>first|(go_simp;done)|(go_simp;rfl));intro gb468 hg w6 hbox hb;have n0_:=zA (zX (g:=gb467) (o:=.cells #[.slice A0_0 l0_0.length c0_0,.slice A0_1 l0_1.length c0_1] 33 (0,0)) (by (with_reducible repeat (first|refine zG ?_ _|refine zI ?_|refine zH ?_ _));exact BK467.out) hb);have n1_:=zA (zR (by repeat (first|(with_reducible first|exact HB.out|apply zD|apply zB|apply zC|refine zF ?_ GE467.out)|exact HB.out)) hb);have n2_:=zA (hbox);have n3_:=zA ((by rw [hg];exact (zQ (by repeat (first|(with_reducible first|exact HB.out|apply zD|apply zB|apply zC|refine zF ?_ GE467.out)|exact HB.out))):w.heap.size≤gb468));have n4_:=zA ((by rw [hg];exact (zQ (by repeat (first|(with_reducible first|exact HB.out|apply zD|apply zB|apply zC|refine zF ?_ GE467.out)|exact HB.out))):w.heap.size≤gb468));have n5_:=zA ((by rw [hg];exact Nat.ne_of_lt (blk_lt (g:=gb467) (o:=.cells #[.slice A0_0 l0_0.length c0_0,.slice A0_1 l0_1.length c0_1] 33 (0,0)) (by (with_reducible repeat (first|refine zG ?_ _|refine zI ?_|refine zH ?_ _));exact BK467.out)):gb467≠gb468));have n6_:=zA ((by rw [hg];exact Nat.ne_of_gt (blk_lt (g:=gb467) (o:=.cells #[.slice A0_0 l0_0.length c0_0,.slice A0_1 l0_1.length c0_1] 33 (0,0)) (by (with_reducible repeat (first|refine zG ?_ _|refine zI ?_|refine zH ?_ _));exact BK467.out)):gb468≠gb467));clear BK467;clear HB;have BK467:=n0_;have HB:=n1_;have BK468:=n2_;have GW468:=n3_;have GE468:=n4_;have NB467_468:=n5_;have NB468_467:=n6_;clear n0_ n1_ n2_ n3_ n4_ n5_ n6_;clear hb hbox hg))
 have n0_:=zA (zI BK467.out)
 have n1_:=zA (zI BK468.out)
 have n2_:=zA (zC HB.out)
 clear BK467 BK468 HB
 have BK467:=n0_
 have BK468:=n1_
 have HB:=n2_
 clear n0_ n1_ n2_
 refine start_ (n:=6) (S:=fun w'=>w'.cell? ⟨gb467,0,none⟩ = some (.slice A0_0 l0_0.length c0_0)∧w'.cell? ⟨gb467,1,none⟩ = some (.slice A0_1 l0_1.length c0_1)) (ds:=[]) #[zf,zf,zf,zf,zf,zf] (by kernel_rfl) rfl rfl ⟨(zT BK467.out 0).trans rfl,(zT BK467.out 1).trans rfl⟩ (fun hHeld=>?_)
 generalize w6.drew = w7 at BK467 BK468 HB hHeld ⊢
 refine pure_ (i:=2) (N:=some 7) (v:=?_) (a':=?_) #[zf,zf,zt,zf,zf,zf] rfl rfl (by kernel_rfl) (fun _ _ _ h=>h) (Or.inl ⟨by rfl,?_⟩) ?_ ?_
 rotate_left
 ·intro w'
  go_simp
  with_reducible rfl
 rotate_left
 ·simp only [Act.put,zP_,i64_w]
  rfl
 refine take_ (i:=0) (N:=some 5) (v:=?_) (a':=?_) #[zt,zf,zt,zf,zf,zf] rfl rfl (by kernel_rfl) (fun _ _ _ h=>h) (Or.inl ⟨by rfl,?_⟩) hHeld ?_ ?_
 rotate_left
 ·rintro w' ⟨s0,s1⟩
  go_simp
  with_reducible rfl
 rotate_left
 ·simp only [Act.put,zP_,i64_w]
  rfl
 refine take_ (i:=1) (N:=some 6) (v:=?_) (a':=?_) #[zt,zt,zt,zf,zf,zf] rfl rfl (by kernel_rfl) (fun _ _ _ h=>h) (Or.inl ⟨by rfl,?_⟩) hHeld ?_ ?_
 rotate_left
 ·rintro w' ⟨s0,s1⟩
  go_simp
  with_reducible rfl
 rotate_left
 ·simp only [Act.put,zP_,i64_w]
  rfl
 refine one_ (i:=3) (N:=some 8) #[zt,zt,zt,zt,zf,zf] rfl rfl (by kernel_rfl) (by decide) (fun K hK=>?_)
 refine goes_ Try.func97 (by kernel_rfl) rfl #[.agg #[.slice A0_0 l0_0.length c0_0,.slice A0_1 l0_1.length c0_1],.int .i64 a1] (by rfl) rfl rfl (by (try simp only [zJ,zM,zN]);first|done|rfl|(simp only [zL,zK];rfl)) ?_
 with_reducible refine (spec_l2Names.calls k _ _ l0_0 _ _ l0_1 a1 t469 _ ?side1 ?side2 ?side3 ?side4 A3.out).mono ?_
 (case side1=>repeat (first|exact (zW HR0_0.out HB.out)|(with_reducible exact HR0_0.out)|apply zC_))
 (case side2=>exact HC0_0.out)
 (case side3=>repeat (first|exact (zW HR0_1.out HB.out)|(with_reducible exact HR0_1.out)|apply zC_))
 (case side4=>exact HC0_1.out)
 rintro e w8 ⟨v470,rfl,ho0,hb⟩
 refine ⟨_,rfl,?_⟩
 have n0_:=zA (ze ho0 (zQ (by repeat (first|(with_reducible first|exact HB.out|apply zD|apply zB|apply zC|refine zF ?_ GE467.out|refine zF ?_ GE468.out)|exact HB.out))))
 have n1_:=zA (zX (g:=gb467) (o:=.cells #[.slice A0_0 l0_0.length c0_0,.slice A0_1 l0_1.length c0_1] 33 (0,0)) (by (with_reducible repeat (first|refine zG ?_ _|refine zI ?_|refine zH ?_ _));exact BK467.out) hb)
 have n2_:=zA (zX (g:=gb468) (o:=.cells #[.slice none 0 0,.slice none 0 0] 33 (0,0)) (by (with_reducible repeat (first|refine zG ?_ _|refine zI ?_|refine zH ?_ _));exact BK468.out) hb)
 have n3_:=zA (zR (by repeat (first|(with_reducible first|exact HB.out|apply zD|apply zB|apply zC|refine zF ?_ GE467.out|refine zF ?_ GE468.out)|exact HB.out)) hb)
 clear BK467 BK468 HB
 have HO471:=n0_
 have BK467:=n1_
 have BK468:=n2_
 have HB:=n3_
 clear n0_ n1_ n2_ n3_
 (try clear hb);(try clear hb2);(try clear hk);(try clear hi);(try clear ho0)
 obtain ⟨Ao9,co9,eo9⟩:=zg HO471.out
 (first|subst eo9|(injection eo9 with f1_ f2_ f3_;have f4_:=f1_.symm;have f5_:=f3_.symm;clear f1_ f2_ f3_;subst f4_;subst f5_))
 refine hK.out _ _ ⟨(zT BK467.out 0).trans rfl,(zT BK467.out 1).trans rfl⟩ (fun hHeld=>?_)
 clear hK K
 refine norm_ (a':=?_) ?_ ?_
 rotate_left
 ·show Act.put _ (some 8) _ = _
  simp only [Act.put,zP_,i64_w]
  rfl
 refine one_ (i:=4) (N:=some 9) #[zt,zt,zt,zt,zt,zf] rfl rfl (by kernel_rfl) (by decide) (fun K hK=>?_)
 refine goes_ Try.func96 (by kernel_rfl) rfl #[.agg #[.slice A0_0 l0_0.length c0_0,.slice A0_1 l0_1.length c0_1],.slice Ao9 t469.length co9] (by rfl) rfl rfl (by (try simp only [zJ,zM,zN]);first|done|rfl|(simp only [zL,zK];rfl)) ?_
 with_reducible refine (spec_l2Rename.calls k _ _ l0_0 _ _ l0_1 _ _ t469 t472 t475 _ ?side1 ?side2 ?side3 ?side4 ?side5 ?side6 A4.out).mono ?_
 (case side1=>repeat (first|exact (zW HR0_0.out HB.out)|(with_reducible exact HR0_0.out)|apply zC_))
 (case side2=>exact HC0_0.out)
 (case side3=>repeat (first|exact (zW HR0_1.out HB.out)|(with_reducible exact HR0_1.out)|apply zC_))
 (case side4=>exact HC0_1.out)
 (case side5=>repeat (first|exact (zU HO471.out).2.2|apply zC_))
 (case side6=>exact (zU HO471.out).2.1)
 rintro e w10 ⟨v473,v476,rfl,ho0,ho1,hb⟩
 refine ⟨_,rfl,?_⟩
 have n0_:=zA (zV (Kd.R_told (Kd.R_told (Kd.R_old (by apply zR_;exact HO471.out) hb) (zd ho0)) (zd ho1)) (fun _ h_=>h_.1))
 have n1_:=zA (ze (Kd.R_new' ho0 (Kd.R_lt (by apply zR_;exact HO471.out))) (zQ (by repeat (first|(with_reducible first|exact HB.out|apply zD|apply zB|apply zC|refine zF ?_ GE467.out|refine zF ?_ GE468.out)|exact HB.out))))
 have n2_:=zA (ze (Kd.R_new' ho1 (Kd.R_lt (by apply zR_;exact HO471.out))) (zQ (by repeat (first|(with_reducible first|exact HB.out|apply zD|apply zB|apply zC|refine zF ?_ GE467.out|refine zF ?_ GE468.out)|exact HB.out))))
 have n3_:=zA (zX (g:=gb467) (o:=.cells #[.slice A0_0 l0_0.length c0_0,.slice A0_1 l0_1.length c0_1] 33 (0,0)) (by (with_reducible repeat (first|refine zG ?_ _|refine zI ?_|refine zH ?_ _));exact BK467.out) hb)
 have n4_:=zA (zX (g:=gb468) (o:=.cells #[.slice none 0 0,.slice none 0 0] 33 (0,0)) (by (with_reducible repeat (first|refine zG ?_ _|refine zI ?_|refine zH ?_ _));exact BK468.out) hb)
 have n5_:=zA (zR (by repeat (first|(with_reducible first|exact HB.out|apply zD|apply zB|apply zC|refine zF ?_ GE467.out|refine zF ?_ GE468.out)|exact HB.out)) hb)
 clear HO471 BK467 BK468 HB
 have HO471:=n0_
 have HO474:=n1_
 have HO477:=n2_
 have BK467:=n3_
 have BK468:=n4_
 have HB:=n5_
 clear n0_ n1_ n2_ n3_ n4_ n5_
 (try clear hb);(try clear hb2);(try clear hk);(try clear hi);(try clear ho0);(try clear ho1)
 obtain ⟨Ao11,co11,eo11⟩:=zg HO474.out
 (first|subst eo11|(injection eo11 with f1_ f2_ f3_;have f4_:=f1_.symm;have f5_:=f3_.symm;clear f1_ f2_ f3_;subst f4_;subst f5_))
 obtain ⟨Ao13,co13,eo13⟩:=zg HO477.out
 (first|subst eo13|(injection eo13 with f1_ f2_ f3_;have f4_:=f1_.symm;have f5_:=f3_.symm;clear f1_ f2_ f3_;subst f4_;subst f5_))
 refine hK.out _ _ ⟨(zT BK467.out 0).trans rfl,(zT BK467.out 1).trans rfl⟩ (fun hHeld=>?_)
 clear hK K
 refine norm_ (a':=?_) ?_ ?_
 rotate_left
 ·show Act.put _ (some 9) _ = _
  simp only [Act.put,zP_,i64_w]
  rfl
 refine one_ (i:=5) (N:=none) #[zt,zt,zt,zt,zt,zt] rfl rfl (by kernel_rfl) (by decide) (fun K hK=>?_)
 have hs12:w10.cell? ⟨gb468,0,none⟩ = some (.slice none 0 0):=(zT BK468.out 0).trans rfl
 have hfs12:=zZ BK468.out 0
 have hns12_0:=NB467_468.out
 have hms12_0:=NB468_467.out
 have hs14:w10.cell? ⟨gb468,1,none⟩ = some (.slice none 0 0):=(zT BK468.out 1).trans rfl
 have hfs14:=zZ BK468.out 1
 have hns14_0:=NB467_468.out
 have hms14_0:=NB468_467.out
 refine skip_ (w1:=?_) (by rfl) rfl ?_ ?_
 rotate_left
 ·go_simp
  rfl
 refine hK.out _ _ ⟨((cell_far (p:=⟨gb468,_,none⟩) NB467_468.out _).trans (((cell_far (p:=⟨gb468,_,none⟩) NB467_468.out _).trans (hHeld.1)))),((cell_far (p:=⟨gb468,_,none⟩) NB467_468.out _).trans (((cell_far (p:=⟨gb468,_,none⟩) NB467_468.out _).trans (hHeld.2))))⟩ (fun hHeld=>?_)
 clear hK K
 refine done_ (by kernel_rfl) ?_
 try go_wp2
 refine bodyPost_ret (results_cell_row rfl _ _ gb468 33 #[.slice Ao11 t472.length co11,.slice Ao13 t475.length co13] (0,0) _ rfl (by (with_reducible repeat (first|refine zG ?_ _|refine zI ?_|refine zH ?_ _));refine blk_put (cs:=#[.slice Ao11 t472.length co11,.slice none 0 0]) ?_ 1 _ rfl;(with_reducible repeat (first|refine zG ?_ _|refine zI ?_|refine zH ?_ _));refine blk_put (cs:=#[.slice none 0 0,.slice none 0 0]) ?_ 0 _ rfl;(with_reducible repeat (first|refine zG ?_ _|refine zI ?_|refine zH ?_ _));exact BK468.out) Try.underlying33 rfl (by kernel_rfl)) rfl ?_
 exact ⟨_,_,by first|rfl|(simp [errW_none,errW_some] <;> rfl)|(simp [*,errW_none,errW_some] <;> rfl),by apply zR_;exact zV (Kd.R_far (p:=⟨gb468,1,none⟩) (Kd.R_far (p:=⟨gb468,0,none⟩) (Kd.R_types HO474.out BK468.out (by decide)) (fun _ hk=>hk.2) (.slice Ao11 t472.length co11)) (fun _ hk=>hk.2) (.slice Ao13 t475.length co13)) (fun _ hk=>hk.1.1),by apply zR_;exact zV (Kd.R_far (p:=⟨gb468,1,none⟩) (Kd.R_far (p:=⟨gb468,0,none⟩) (Kd.R_types HO477.out BK468.out (by decide)) (fun _ hk=>hk.2) (.slice Ao11 t472.length co11)) (fun _ hk=>hk.2) (.slice Ao13 t475.length co13)) (fun _ hk=>hk.1.1),by repeat (first|(with_reducible first|exact HB.out|apply zD|apply zB|apply zC|refine zF ?_ GE467.out|refine zF ?_ GE468.out)|exact HB.out)⟩

/-! ### spec_l3All: function 45 -/
mutual
def spec_l3All.l0:Nat→Int→List (S33)→List Int→List Int→Option ((List (S33)))
 | 0,_,_,_,_=>none
 | k+1,x1,x5,x6,x7=>if (x7.length:Int) > 0 then ((spec_MapValid.f k x7 x6).bind fun t488=>(if t488 = true then ((spec_l2Genus.f k x7 x6).bind fun t489=>(spec_l3All.j1 k x1 x5 x6 x7 (t489 == x1) x7 x6)) else (spec_l3All.j1 k x1 x5 x6 x7 false x7 x6))) else (some x5)
def spec_l3All.j1:Nat→Int→List (S33)→List Int→List Int→Bool→List Int→List Int→Option ((List (S33)))
 | 0,_,_,_,_,_,_,_=>none
 | k+1,x1,x5,x6,x7,x30,x488000,x488001=>if x30 = true then ((spec_l2Form.f k x488000 x488001 0).bind fun bt490=>((spec_l3Put.f k x5 bt490.1 bt490.2).bind fun t496=>((spec_l3Next.f k x7).bind fun t499=>(spec_l3All.l0 k x1 t496 x6 t499)))) else ((spec_l3Next.f k x7).bind fun t502=>(spec_l3All.l0 k x1 x5 x6 t502))
end
def spec_l3All.f (k:Nat) (a0:Int) (a1:Int):Option ((List (S33))):=(spec_l3Flip.f k a0).bind fun t481=>((spec_l1Same.f k (wrap64 (2 * a0))).bind fun t484=>(spec_l3All.l0 k a1 (([]:List (S33))) t481 t484))
theorem spec_l3All.mono_l:∀ k,(∀ y0 y1 y2 y3,LeO (spec_l3All.l0 k y0 y1 y2 y3) (spec_l3All.l0 (k+1) y0 y1 y2 y3))∧(∀ y0 y1 y2 y3 y4 y5 y6,LeO (spec_l3All.j1 k y0 y1 y2 y3 y4 y5 y6) (spec_l3All.j1 (k+1) y0 y1 y2 y3 y4 y5 y6))
 | 0=>⟨fun _ _ _ _ r h=>by simp [spec_l3All.l0] at h,fun _ _ _ _ _ _ _ r h=>by simp [spec_l3All.j1] at h⟩
 | k+1=>by
  obtain ⟨ih0,ih1⟩:=spec_l3All.mono_l k
  refine ⟨?_,?_⟩
  ·intro y0 y1 y2 y3
   unfold spec_l3All.l0
   repeat' first
   | (with_reducible exact ih0 _ _ _ _)
   | (with_reducible exact ih1 _ _ _ _ _ _ _)
   | (with_reducible exact spec_MapValid.mono _ _ _)
   | (with_reducible exact spec_l1Same.mono _ _)
   | (with_reducible exact spec_l2Form.mono _ _ _ _)
   | (with_reducible exact spec_l2Genus.mono _ _ _)
   | (with_reducible exact spec_l3Flip.mono _ _)
   | (with_reducible exact spec_l3Next.mono _ _)
   | (with_reducible exact spec_l3Put.mono _ _ _ _)
   | (with_reducible exact LeO.refl _)
   | (with_reducible exact za _)
   | (with_reducible refine zc ?_ ?_)
   | (with_reducible refine zb ?_ (fun _=>?_))
  ·intro y0 y1 y2 y3 y4 y5 y6
   unfold spec_l3All.j1
   repeat' first
   | (with_reducible exact ih0 _ _ _ _)
   | (with_reducible exact ih1 _ _ _ _ _ _ _)
   | (with_reducible exact spec_MapValid.mono _ _ _)
   | (with_reducible exact spec_l1Same.mono _ _)
   | (with_reducible exact spec_l2Form.mono _ _ _ _)
   | (with_reducible exact spec_l2Genus.mono _ _ _)
   | (with_reducible exact spec_l3Flip.mono _ _)
   | (with_reducible exact spec_l3Next.mono _ _)
   | (with_reducible exact spec_l3Put.mono _ _ _ _)
   | (with_reducible exact LeO.refl _)
   | (with_reducible exact za _)
   | (with_reducible refine zc ?_ ?_)
   | (with_reducible refine zb ?_ (fun _=>?_))
theorem spec_l3All.mono:∀ a0 a1 k,LeO (spec_l3All.f k a0 a1) (spec_l3All.f (k+1) a0 a1):=by
 intro a0 a1 k
 obtain ⟨ih0,ih1⟩:=spec_l3All.mono_l k
 unfold spec_l3All.f
 repeat' first
   | (with_reducible exact ih0 _ _ _ _)
   | (with_reducible exact ih1 _ _ _ _ _ _ _)
   | (with_reducible exact spec_MapValid.mono _ _ _)
   | (with_reducible exact spec_l1Same.mono _ _)
   | (with_reducible exact spec_l2Form.mono _ _ _ _)
   | (with_reducible exact spec_l2Genus.mono _ _ _)
   | (with_reducible exact spec_l3Flip.mono _ _)
   | (with_reducible exact spec_l3Next.mono _ _)
   | (with_reducible exact spec_l3Put.mono _ _ _ _)
   | (with_reducible exact LeO.refl _)
   | (with_reducible exact za _)
   | (with_reducible refine zc ?_ ?_)
   | (with_reducible refine zb ?_ (fun _=>?_))
set_option maxHeartbeats 8000000 in
set_option maxRecDepth 100000 in
theorem spec_l3All.calls (k:Nat) (a0:Int) (a1:Int) (r:List (S33)) (w:World) (h:spec_l3All.f k a0 a1 = some r) :
  Calls Try.prog 45 #[.int .i64 a0,.int .i64 a1] w fun e w' => ∃ v0_:Value,e = .returned (v0_)∧Kd.V k33 33 w' w.heap.size (fun k_=>(w.heap.size≤k_)) v0_ r∧Below w.heap.size w w':=by
 have hu33:=Try.underlying33
 have HB:=zA (Below.refl w.heap.size w)
 have H:((spec_l3Flip.f k a0).bind fun t481=>((spec_l1Same.f k (wrap64 (2 * a0))).bind fun t484=>(spec_l3All.l0 k a1 (([]:List (S33))) t481 t484))) = some r:=h
 clear h
 obtain ⟨y478,hy478⟩:∃ y_:List (S33),y_ = (([]:List (S33))):=⟨_,rfl⟩
 replace H:((spec_l3Flip.f k a0).bind fun t481=>((spec_l1Same.f k (wrap64 (2 * a0))).bind fun t484=>(spec_l3All.l0 k a1 y478 t481 t484))) = some r:=by (try rw [hy478]);first|with_reducible exact H|with_reducible exact zS_ H|exact H
 have Ny478:=zA hy478
 clear hy478
 replace H:=zz0 H
 obtain ⟨t481,A30,H⟩:=H
 try dsimp only at H
 have A3:=zA A30
 clear A30
 replace H:=zz0 H
 obtain ⟨t484,A40,H⟩:=H
 try dsimp only at H
 have A4:=zA A40
 clear A40
 have H':=zA H
 clear H
 go_enter Try.func45,Try.ntmps45
 go_wp2_with (first|((with_reducible refine gate_dst (N:=9) rfl ?_);refine Kd.S_lit k33 _ 33 ?hg (N:=9) ?hd (xs:=([]:List (S33))) (inner:=[]) (ok:=fun _=>True) (okp:=fun _=>True) ?hr ?hp (fun _ hk=>hk) trivial (Below.refl _ _) (Nat.le_refl _) (by simp) ?_;(case hd=>rfl);(case hg=>rfl);(case hr=>first|(go_simp;done)|(go_simp;rfl));(case hp=>exact (Reps.none _ _));intro v479 w5 ho6 hb hg_ hnew_;clear hg_ hnew_;(first|rw [← Ny478.out] at ho6|(simp only [Int.reduceToNat] at ho6;rw [← Ny478.out] at ho6));have n0_:=zA (Kd.S_lower (Kd.S_newM (M:=fun k_=>(w.heap.size≤k_)) ho6 (zQ (by exact zB_ HB.out)) (fun k_ h_=>h_)) (zQ (by exact zB_ HB.out)));have n1_:=zA (zR (by exact zB_ HB.out) hb);clear HB;have HO480:=n0_;have HB:=n1_;clear n0_ n1_;clear hb ho6)|((with_reducible refine gate_callee (f:=73) rfl ?_);refine goesL_ (some 11) rfl rfl Try.func73 (by kernel_rfl) rfl #[.int .i64 a0] rfl (by (try simp only [zJ,zM,zN]);first|done|rfl|(simp only [zL,zK];rfl)) ?_;(with_reducible refine (spec_l3Flip.calls k a0 t481 _ A3.out).mono ?_);rintro e w7 ⟨v482,rfl,ho0,hb⟩;refine ⟨_,rfl,?_⟩;have n0_:=zA (Kd.S_elder' (by (with_reducible repeat (first|apply Kd.S_alloc|apply Kd.S_drewN|apply Kd.S_drew));exact HO480.out) (zd ho0) hb);have n1_:=zA (ze (Kd.R_newM (M:=fun k_=>(w.heap.size≤k_)) ho0 (zQ (by exact zB_ HB.out)) (fun k_ h_=>h_)) (zQ (by exact zB_ HB.out)));have n2_:=zA (zR (by exact zB_ HB.out) hb);clear HO480;clear HB;have HO480:=n0_;have HO483:=n1_;have HB:=n2_;clear n0_ n1_ n2_;(try clear hb);(try clear hb2);(try clear hk);(try clear hi);(try clear ho0))|((with_reducible refine gate_callee (f:=74) rfl ?_);refine goesL_ (some 14) rfl rfl Try.func74 (by kernel_rfl) rfl #[.int .i64 (wrap64 (2 * a0))] rfl (by (try simp only [zJ,zM,zN]);first|done|rfl|(simp only [zL,zK];rfl)) ?_;(with_reducible refine (spec_l1Same.calls k (wrap64 (2 * a0)) t484 _ A4.out).mono ?_);rintro e w8 ⟨v485,rfl,ho0,hb⟩;refine ⟨_,rfl,?_⟩;have n0_:=zA (Kd.S_elder' (by (with_reducible repeat (first|apply Kd.S_alloc|apply Kd.S_drewN|apply Kd.S_drew));exact HO480.out) (zd ho0) hb);have n1_:=zA (Kd.R_elder' (by apply zR_;exact HO483.out) (zd ho0) hb);have n2_:=zA (ze (Kd.R_new' (Kd.R_newM (M:=fun k_=>(w.heap.size≤k_)) ho0 (zQ (by exact zB_ HB.out)) (fun k_ h_=>h_)) (Kd.R_lt (by apply zR_;exact HO483.out))) (zQ (by exact zB_ HB.out)));have n3_:=zA (zR (by exact zB_ HB.out) hb);clear HO480;clear HO483;clear HB;have HO480:=n0_;have HO483:=n1_;have HO486:=n2_;have HB:=n3_;clear n0_ n1_ n2_ n3_;(try clear hb);(try clear hb2);(try clear hk);(try clear hi);(try clear ho0)))
 go_loopg [5,7] k (fun kq v5 v7 w' => ∃ (x5_1:List (S33)) (x7_1:List Int),Aside0 (spec_l3All.l0 kq a1 x5_1 t481 x7_1 = some r)∧Aside0 (kq≤k)∧Aside0 (Kd.V k33 33 w' w.heap.size (fun k_=>(w.heap.size≤k_)∧some k_≠(v482:Value).ownBlock∧some k_≠(v7:Value).ownBlock) v5 x5_1)∧Aside0 (Kd.R (Kd.int .i64) 3 w' w.heap.size (fun k_=>(w.heap.size≤k_)∧some k_≠(v7:Value).ownBlock) v482 t481)∧Aside0 (Kd.R (Kd.int .i64) 3 w' w.heap.size (fun k_=>(w.heap.size≤k_)∧some k_≠(v482:Value).ownBlock) v7 x7_1)∧Aside0 (Below w.heap.size w w'))
 case atStart=>exact ⟨(y478),(t484),H',⟨Nat.le_refl _⟩,⟨Kd.S_V (by (with_reducible repeat (first|apply Kd.S_alloc|apply Kd.S_drewN|apply Kd.S_drew));exact Kd.S_mono HO480.out (fun _ hk=>⟨hk.1.1.1,⟨hk.1.2,hk.2⟩⟩))⟩,⟨by apply zR_;exact zV HO483.out (fun _ hk=>⟨hk.1.1,hk.2⟩)⟩,⟨by apply zR_;exact zV HO486.out (fun _ hk=>⟨hk.1.1,hk.2⟩)⟩,⟨by exact zB_ HB.out⟩⟩
 case round =>
  clear H'
  (try clear p2);(try clear c4);(try clear p6);(try clear c7)
  obtain ⟨x5_1,x7_1,HA,HK1,HO_5,HO_6,HO_7,HB⟩:=hrel
  cases gk with
  | zero=>exact absurd HA.out (by simp [spec_l3All.l0])
  | succ k1 =>
   have H:=HA.out
   clear HA
   simp only [spec_l3All.l0] at H
   by_cases c9:(x7_1.length:Int) > 0
   ·rw [if_pos c9] at H
    have c9b0:decide (0 < (x7_1.length:Int)) = true:=zO c9
    have c9b1:decide (0 < x7_1.length) = true:=zO (by omega)
    clear c9
    have HC10:=zA H
    clear H
    obtain ⟨Ao11,co11,eo11⟩:=zg HO_7.out
    subst eo11
    obtain ⟨Ao12,co12,eo12⟩:=zg HO_6.out
    subst eo12
    go_upto_region 7 with (first|((with_reducible refine gate_dst (N:=8) rfl ?_);refine box_event ?hg (N:=8) ?hd (cs:=#[.slice none 0 0,.slice none 0 0]) (t:=33) ?hr ?_;(case hd=>rfl);(case hg=>rfl);(case hr=>first|(go_simp;done)|(go_simp;rfl));intro gb487 hg w13 hbox hb;have n0_:=zA (Kd.V_below (Kd.V_elderB (by apply zV_;exact HO_5.out) gb487 (Nat.le_of_eq hg.symm)) hb);have n1_:=zA (Kd.R_below (by apply zR_;exact HO_6.out) hb);have n2_:=zA (Kd.R_below (by apply zR_;exact HO_7.out) hb);have n3_:=zA (zR (by exact zB_ HB.out) hb);have n4_:=zA (hbox);have n5_:=zA ((by rw [hg];exact (zQ (by exact zB_ HB.out)):w.heap.size≤gb487));have n6_:=zA ((by rw [hg];exact (zQ (by exact zB_ HB.out)):w.heap.size≤gb487));clear HO_5;clear HO_6;clear HO_7;clear HB;have HO_5:=n0_;have HO_6:=n1_;have HO_7:=n2_;have HB:=n3_;have BK487:=n4_;have GW487:=n5_;have GE487:=n6_;clear n0_ n1_ n2_ n3_ n4_ n5_ n6_;clear hb hbox hg;have hcz14_0:w13.cell? ⟨gb487,0,none⟩ = some (.slice none 0 0):=(zT BK487.out 0).trans rfl;have hcz14_1:w13.cell? ⟨gb487,1,none⟩ = some (.slice none 0 0):=(zT BK487.out 1).trans rfl;have hfz14_0:=zZ BK487.out 0;have hfz14_1:=zZ BK487.out 1))
    (try simp only [Act.put,zP_])
    go_cut [30] (fun v30 wc => ∃ (kq:Nat) (x30_9:Bool),v30 = .bool x30_9∧Aside0 (spec_l3All.j1 kq a1 x5_1 t481 x7_1 x30_9 x7_1 t481 = some r)∧Aside0 (kq≤k1)∧Aside0 (Kd.V k33 33 wc w.heap.size (fun k_=>(w.heap.size≤k_)∧some k_≠((.slice Ao12 t481.length co12):Value).ownBlock∧some k_≠((.slice Ao11 x7_1.length co11):Value).ownBlock∧some k_≠((.slice Ao11 x7_1.length co11):Value).ownBlock∧some k_≠((.slice Ao12 t481.length co12):Value).ownBlock∧k_≠gb487) u5 x5_1)∧Aside0 (Kd.R (Kd.int .i64) 3 wc w.heap.size (fun k_=>(w.heap.size≤k_)∧some k_≠((.slice Ao11 x7_1.length co11):Value).ownBlock∧some k_≠((.slice Ao11 x7_1.length co11):Value).ownBlock) (.slice Ao12 t481.length co12) t481)∧Aside0 (Kd.R (Kd.int .i64) 3 wc w.heap.size (fun k_=>(w.heap.size≤k_)∧some k_≠((.slice Ao12 t481.length co12):Value).ownBlock∧some k_≠((.slice Ao12 t481.length co12):Value).ownBlock) (.slice Ao11 x7_1.length co11) x7_1)∧Aside0 (Kd.R (Kd.int .i64) 3 wc w.heap.size (fun k_=>(w.heap.size≤k_)∧some k_≠((.slice Ao12 t481.length co12):Value).ownBlock∧some k_≠((.slice Ao12 t481.length co12):Value).ownBlock) (.slice Ao11 x7_1.length co11) x7_1)∧Aside0 (Kd.R (Kd.int .i64) 3 wc w.heap.size (fun k_=>(w.heap.size≤k_)∧some k_≠((.slice Ao11 x7_1.length co11):Value).ownBlock∧some k_≠((.slice Ao11 x7_1.length co11):Value).ownBlock) (.slice Ao12 t481.length co12) t481)∧Aside0 (wc.heap[gb487]? = some (.cells #[(.slice Ao11 x7_1.length co11),(.slice Ao12 t481.length co12)] 33 (0,0)))∧Aside0 (Below w.heap.size w wc))
    case first =>
     have H:=HC10.out
     clear HC10
     replace H:=zz0 H
     obtain ⟨t488,A150,H⟩:=H
     try dsimp only at H
     have A15:=zA A150
     clear A150
     by_cases c16:t488 = true
     ·subst c16
      rw [if_pos rfl] at H;try dsimp only at H
      replace H:=zz0 H
      obtain ⟨t489,A170,H⟩:=H
      try dsimp only at H
      have A17:=zA A170
      clear A170
      have H':=zA H
      clear H
      have hcz18_0:w13.cell? ⟨gb487,0,none⟩ = some (.slice none 0 0):=(zT BK487.out 0).trans rfl
      have hcz18_1:w13.cell? ⟨gb487,1,none⟩ = some (.slice none 0 0):=(zT BK487.out 1).trans rfl
      have hfz18_0:=zZ BK487.out 0
      have hfz18_1:=zZ BK487.out 1
      go_wp2_with (first|((with_reducible refine gate_callee (f:=76) rfl ?_);refine goesL_ (some 24) rfl rfl Try.func76 (by kernel_rfl) rfl #[.agg #[.slice Ao11 x7_1.length co11,.slice Ao12 t481.length co12]] rfl (by (try simp only [zJ,zM,zN]);first|done|rfl|(simp only [zL,zK];rfl)) ?_;(with_reducible refine (spec_MapValid.calls k1 _ _ x7_1 _ _ t481 true _ ?side1 ?side2 ?side3 ?side4 A15.out).mono ?_);(case side1=>refine (zU (e:=3) (base:=w.heap.size) (ok:=fun k_=>((w.heap.size≤k_)∧some k_≠(.slice Ao12 t481.length co12:Value).ownBlock)) (n:=x7_1.length) (c:=co11) ?_).2.2;exact (by apply zR_;exact (zV (Kd.R_far (p:=⟨gb487,1,none⟩) (Kd.R_far (p:=⟨gb487,0,none⟩) (Kd.R_types HO_7.out BK487.out (by decide)) (fun _ hk=>hk.2) (.slice Ao11 x7_1.length co11)) (fun _ hk=>hk.2) (.slice Ao12 t481.length co12)) (fun _ h_=>h_.1))));(case side2=>exact (zU HO_7.out).2.1);(case side3=>refine (zU (e:=3) (base:=w.heap.size) (ok:=fun k_=>((w.heap.size≤k_)∧some k_≠(.slice Ao11 x7_1.length co11:Value).ownBlock)) (n:=t481.length) (c:=co12) ?_).2.2;exact (by apply zR_;exact (zV (Kd.R_far (p:=⟨gb487,1,none⟩) (Kd.R_far (p:=⟨gb487,0,none⟩) (Kd.R_types HO_6.out BK487.out (by decide)) (fun _ hk=>hk.2) (.slice Ao11 x7_1.length co11)) (fun _ hk=>hk.2) (.slice Ao12 t481.length co12)) (fun _ h_=>h_.1))));(case side4=>exact (zU HO_6.out).2.1);rintro e w19 ⟨rfl,hb⟩;refine ⟨_,rfl,?_⟩;have n0_:=zA (Kd.V_below (by apply zV_;exact (Kd.V_mono (Kd.V_far (p:=⟨gb487,1,none⟩) (Kd.V_far (p:=⟨gb487,0,none⟩) (Kd.V_mono HO_5.out (fun k_ hk=>(⟨hk,hk.2⟩:_∧k_≠gb487))) (fun _ hk=>hk.2) (.slice Ao11 x7_1.length co11)) (fun _ hk=>hk.2) (.slice Ao12 t481.length co12)) (fun _ h_=>h_.1))) hb);have n1_:=zA (Kd.R_below (by apply zR_;exact (zV (Kd.R_far (p:=⟨gb487,1,none⟩) (Kd.R_far (p:=⟨gb487,0,none⟩) (Kd.R_types HO_6.out BK487.out (by decide)) (fun _ hk=>hk.2) (.slice Ao11 x7_1.length co11)) (fun _ hk=>hk.2) (.slice Ao12 t481.length co12)) (fun _ h_=>h_.1))) hb);have n2_:=zA (Kd.R_below (by apply zR_;exact (zV (Kd.R_far (p:=⟨gb487,1,none⟩) (Kd.R_far (p:=⟨gb487,0,none⟩) (Kd.R_types HO_7.out BK487.out (by decide)) (fun _ hk=>hk.2) (.slice Ao11 x7_1.length co11)) (fun _ hk=>hk.2) (.slice Ao12 t481.length co12)) (fun _ h_=>h_.1))) hb);have n3_:=zA (zX (g:=gb487) (o:=.cells #[.slice Ao11 x7_1.length co11,.slice Ao12 t481.length co12] 33 (0,0)) (by (with_reducible repeat (first|refine zG ?_ _|refine zI ?_|refine zH ?_ _));refine blk_put (cs:=#[.slice Ao11 x7_1.length co11,.slice none 0 0]) ?_ 1 _ rfl;(with_reducible repeat (first|refine zG ?_ _|refine zI ?_|refine zH ?_ _));refine blk_put (cs:=#[.slice none 0 0,.slice none 0 0]) ?_ 0 _ rfl;(with_reducible repeat (first|refine zG ?_ _|refine zI ?_|refine zH ?_ _));exact BK487.out) hb);have n4_:=zA (zR (by repeat (first|(with_reducible first|exact HB.out|apply zD|apply zB|apply zC|refine zF ?_ GE487.out)|exact HB.out)) hb);clear HO_5;clear HO_6;clear HO_7;clear BK487;clear HB;have HO_5:=n0_;have HO_6:=n1_;have HO_7:=n2_;have BK487:=n3_;have HB:=n4_;clear n0_ n1_ n2_ n3_ n4_;(try clear hb);(try clear hb2);(try clear hk);(try clear hi);have hcz20_0:w19.cell? ⟨gb487,0,none⟩ = some (.slice Ao11 x7_1.length co11):=(zT BK487.out 0).trans rfl;have hcz20_1:w19.cell? ⟨gb487,1,none⟩ = some (.slice Ao12 t481.length co12):=(zT BK487.out 1).trans rfl;have hfz20_0:=zZ BK487.out 0;have hfz20_1:=zZ BK487.out 1)|(go_at_call 77;(with_reducible refine (spec_l2Genus.calls k1 _ _ x7_1 _ _ t481 t489 _ ?side1 ?side2 ?side3 ?side4 A17.out).mono ?_);(case side1=>repeat (first|exact (zU HO_7.out).2.2|apply zC_));(case side2=>exact (zU HO_7.out).2.1);(case side3=>repeat (first|exact (zU HO_6.out).2.2|apply zC_));(case side4=>exact (zU HO_6.out).2.1);rintro e w21 ⟨rfl,hb⟩;have n0_:=zA (Kd.V_below (by apply zV_;exact HO_5.out) hb);have n1_:=zA (Kd.R_below (by apply zR_;exact HO_6.out) hb);have n2_:=zA (Kd.R_below (by apply zR_;exact HO_7.out) hb);have n3_:=zA (zX (g:=gb487) (o:=.cells #[.slice Ao11 x7_1.length co11,.slice Ao12 t481.length co12] 33 (0,0)) (by (with_reducible repeat (first|refine zG ?_ _|refine zI ?_|refine zH ?_ _));exact BK487.out) hb);have n4_:=zA (zR (by repeat (first|(with_reducible first|exact HB.out|apply zD|apply zB|apply zC|refine zF ?_ GE487.out)|exact HB.out)) hb);clear HO_5;clear HO_6;clear HO_7;clear BK487;clear HB;have HO_5:=n0_;have HO_6:=n1_;have HO_7:=n2_;have BK487:=n3_;have HB:=n4_;clear n0_ n1_ n2_ n3_ n4_;(try clear hb);(try clear hb2);(try clear hk);(try clear hi)))
      go_meet
      case rel=>exact ⟨_,((t489 == a1)),(by first|rfl|(simp;done)|(simp [*];done)),H',⟨by have:=HK1.out;first|omega|exact Nat.le_refl _⟩,⟨by apply zV_;exact Kd.V_mono HO_5.out (fun _ hk=>⟨hk.1.1,⟨hk.1.2.1,⟨hk.1.2.2,⟨hk.1.2.2,⟨hk.1.2.1,hk.2⟩⟩⟩⟩⟩)⟩,⟨by apply zR_;exact zV HO_6.out (fun _ hk=>⟨hk.1,⟨hk.2,hk.2⟩⟩)⟩,⟨by apply zR_;exact zV HO_7.out (fun _ hk=>⟨hk.1,⟨hk.2,hk.2⟩⟩)⟩,⟨by apply zR_;exact zV HO_7.out (fun _ hk=>⟨hk.1,⟨hk.2,hk.2⟩⟩)⟩,⟨by apply zR_;exact zV HO_6.out (fun _ hk=>⟨hk.1,⟨hk.2,hk.2⟩⟩)⟩,⟨by (with_reducible repeat (first|refine zG ?_ _|refine zI ?_|refine zH ?_ _));exact BK487.out⟩,⟨by repeat (first|(with_reducible first|exact HB.out|apply zD|apply zB|apply zC|refine zF ?_ GE487.out)|exact HB.out)⟩⟩
     ·replace c16:=Bool.eq_false_iff.mpr c16
      subst c16
      have H1:(spec_l3All.j1 k1 a1 x5_1 t481 x7_1 false x7_1 t481) = some r:=by rw [if_neg (show ¬ (false = true) by decide)] at H;exact H
      clear H
      have H:=H1
      clear H1
      have H':=zA H
      clear H
      have hcz22_0:w13.cell? ⟨gb487,0,none⟩ = some (.slice none 0 0):=(zT BK487.out 0).trans rfl
      have hcz22_1:w13.cell? ⟨gb487,1,none⟩ = some (.slice none 0 0):=(zT BK487.out 1).trans rfl
      have hfz22_0:=zZ BK487.out 0
      have hfz22_1:=zZ BK487.out 1
      go_wp2_with (first|((with_reducible refine gate_callee (f:=76) rfl ?_);refine goesL_ (some 24) rfl rfl Try.func76 (by kernel_rfl) rfl #[.agg #[.slice Ao11 x7_1.length co11,.slice Ao12 t481.length co12]] rfl (by (try simp only [zJ,zM,zN]);first|done|rfl|(simp only [zL,zK];rfl)) ?_;(with_reducible refine (spec_MapValid.calls k1 _ _ x7_1 _ _ t481 false _ ?side1 ?side2 ?side3 ?side4 A15.out).mono ?_);(case side1=>refine (zU (e:=3) (base:=w.heap.size) (ok:=fun k_=>((w.heap.size≤k_)∧some k_≠(.slice Ao12 t481.length co12:Value).ownBlock)) (n:=x7_1.length) (c:=co11) ?_).2.2;exact (by apply zR_;exact (zV (Kd.R_far (p:=⟨gb487,1,none⟩) (Kd.R_far (p:=⟨gb487,0,none⟩) (Kd.R_types HO_7.out BK487.out (by decide)) (fun _ hk=>hk.2) (.slice Ao11 x7_1.length co11)) (fun _ hk=>hk.2) (.slice Ao12 t481.length co12)) (fun _ h_=>h_.1))));(case side2=>exact (zU HO_7.out).2.1);(case side3=>refine (zU (e:=3) (base:=w.heap.size) (ok:=fun k_=>((w.heap.size≤k_)∧some k_≠(.slice Ao11 x7_1.length co11:Value).ownBlock)) (n:=t481.length) (c:=co12) ?_).2.2;exact (by apply zR_;exact (zV (Kd.R_far (p:=⟨gb487,1,none⟩) (Kd.R_far (p:=⟨gb487,0,none⟩) (Kd.R_types HO_6.out BK487.out (by decide)) (fun _ hk=>hk.2) (.slice Ao11 x7_1.length co11)) (fun _ hk=>hk.2) (.slice Ao12 t481.length co12)) (fun _ h_=>h_.1))));(case side4=>exact (zU HO_6.out).2.1);rintro e w23 ⟨rfl,hb⟩;refine ⟨_,rfl,?_⟩;have n0_:=zA (Kd.V_below (by apply zV_;exact (Kd.V_mono (Kd.V_far (p:=⟨gb487,1,none⟩) (Kd.V_far (p:=⟨gb487,0,none⟩) (Kd.V_mono HO_5.out (fun k_ hk=>(⟨hk,hk.2⟩:_∧k_≠gb487))) (fun _ hk=>hk.2) (.slice Ao11 x7_1.length co11)) (fun _ hk=>hk.2) (.slice Ao12 t481.length co12)) (fun _ h_=>h_.1))) hb);have n1_:=zA (Kd.R_below (by apply zR_;exact (zV (Kd.R_far (p:=⟨gb487,1,none⟩) (Kd.R_far (p:=⟨gb487,0,none⟩) (Kd.R_types HO_6.out BK487.out (by decide)) (fun _ hk=>hk.2) (.slice Ao11 x7_1.length co11)) (fun _ hk=>hk.2) (.slice Ao12 t481.length co12)) (fun _ h_=>h_.1))) hb);have n2_:=zA (Kd.R_below (by apply zR_;exact (zV (Kd.R_far (p:=⟨gb487,1,none⟩) (Kd.R_far (p:=⟨gb487,0,none⟩) (Kd.R_types HO_7.out BK487.out (by decide)) (fun _ hk=>hk.2) (.slice Ao11 x7_1.length co11)) (fun _ hk=>hk.2) (.slice Ao12 t481.length co12)) (fun _ h_=>h_.1))) hb);have n3_:=zA (zX (g:=gb487) (o:=.cells #[.slice Ao11 x7_1.length co11,.slice Ao12 t481.length co12] 33 (0,0)) (by (with_reducible repeat (first|refine zG ?_ _|refine zI ?_|refine zH ?_ _));refine blk_put (cs:=#[.slice Ao11 x7_1.length co11,.slice none 0 0]) ?_ 1 _ rfl;(with_reducible repeat (first|refine zG ?_ _|refine zI ?_|refine zH ?_ _));refine blk_put (cs:=#[.slice none 0 0,.slice none 0 0]) ?_ 0 _ rfl;(with_reducible repeat (first|refine zG ?_ _|refine zI ?_|refine zH ?_ _));exact BK487.out) hb);have n4_:=zA (zR (by repeat (first|(with_reducible first|exact HB.out|apply zD|apply zB|apply zC|refine zF ?_ GE487.out)|exact HB.out)) hb);clear HO_5;clear HO_6;clear HO_7;clear BK487;clear HB;have HO_5:=n0_;have HO_6:=n1_;have HO_7:=n2_;have BK487:=n3_;have HB:=n4_;clear n0_ n1_ n2_ n3_ n4_;(try clear hb);(try clear hb2);(try clear hk);(try clear hi)))
      go_meet
      case rel=>exact ⟨_,(false),(by first|rfl|(simp;done)|(simp [*];done)),H',⟨by have:=HK1.out;first|omega|exact Nat.le_refl _⟩,⟨by apply zV_;exact Kd.V_mono HO_5.out (fun _ hk=>⟨hk.1.1,⟨hk.1.2.1,⟨hk.1.2.2,⟨hk.1.2.2,⟨hk.1.2.1,hk.2⟩⟩⟩⟩⟩)⟩,⟨by apply zR_;exact zV HO_6.out (fun _ hk=>⟨hk.1,⟨hk.2,hk.2⟩⟩)⟩,⟨by apply zR_;exact zV HO_7.out (fun _ hk=>⟨hk.1,⟨hk.2,hk.2⟩⟩)⟩,⟨by apply zR_;exact zV HO_7.out (fun _ hk=>⟨hk.1,⟨hk.2,hk.2⟩⟩)⟩,⟨by apply zR_;exact zV HO_6.out (fun _ hk=>⟨hk.1,⟨hk.2,hk.2⟩⟩)⟩,⟨by (with_reducible repeat (first|refine zG ?_ _|refine zI ?_|refine zH ?_ _));exact BK487.out⟩,⟨by repeat (first|(with_reducible first|exact HB.out|apply zD|apply zB|apply zC|refine zF ?_ GE487.out)|exact HB.out)⟩⟩
    case rest =>
     clear HC10
     (try clear c1);(try clear p2);(try clear c4);(try clear p6);(try clear c7);(try clear c9);(try clear c9b0);(try clear c9b1);(try clear c16);(try clear hcz14_0);(try clear hcz14_1);(try clear hcz18_0);(try clear hcz18_1);(try clear hcz20_0);(try clear hcz20_1);(try clear hcz22_0);(try clear hcz22_1);(try clear hfz14_0);(try clear hfz14_1);(try clear hfz18_0);(try clear hfz18_1);(try clear hfz20_0);(try clear hfz20_1);(try clear hfz22_0);(try clear hfz22_1);(try clear p2);(try clear p6)
     obtain ⟨kq,x30_9,rfl,HA,HJ9,HO_5,HO_6,HO_7,HO_488000,HO_488001,BK487,HB⟩:=hcut
     cases kq with
     | zero=>exact absurd HA.out (by simp [spec_l3All.j1])
     | succ kj9 =>
      have H:=HA.out
      clear HA
      simp only [spec_l3All.j1] at H
      by_cases c24:x30_9 = true
      ·subst c24
       rw [if_pos rfl] at H;try dsimp only at H
       replace H:=zz0 H
       obtain ⟨⟨t490,t493⟩,A250,H⟩:=H
       try dsimp only at H
       have A25:=zA A250
       clear A250
       replace H:=zz0 H
       obtain ⟨t496,A260,H⟩:=H
       try dsimp only at H
       have A26:=zA A260
       clear A260
       replace H:=zz0 H
       obtain ⟨t499,A270,H⟩:=H
       try dsimp only at H
       have A27:=zA A270
       clear A270
       have H':=zA H
       clear H
       have hcz28_0:wc.cell? ⟨gb487,0,none⟩ = some (.slice Ao11 x7_1.length co11):=(zT BK487.out 0).trans rfl
       have hcz28_1:wc.cell? ⟨gb487,1,none⟩ = some (.slice Ao12 t481.length co12):=(zT BK487.out 1).trans rfl
       have hfz28_0:=zZ BK487.out 0
       have hfz28_1:=zZ BK487.out 1
       go_wp2_with (first|((with_reducible refine gate_callee (f:=78) rfl ?_);refine goesL_ (some 33) rfl rfl Try.func78 (by kernel_rfl) rfl #[.agg #[.slice Ao11 x7_1.length co11,.slice Ao12 t481.length co12],.int .i64 0] rfl (by (try simp only [zJ,zM,zN]);first|done|rfl|(simp only [zL,zK];rfl)) ?_;(with_reducible refine (spec_l2Form.calls kj9 _ _ x7_1 _ _ t481 0 t490 t493 _ ?side1 ?side2 ?side3 ?side4 A25.out).mono ?_);(case side1=>repeat (first|exact (zU HO_488000.out).2.2|apply zC_));(case side2=>exact (zU HO_488000.out).2.1);(case side3=>repeat (first|exact (zU HO_488001.out).2.2|apply zC_));(case side4=>exact (zU HO_488001.out).2.1);rintro e w29 ⟨v491,v494,rfl,ho0,ho1,hb⟩;refine ⟨_,rfl,?_⟩;have n0_:=zA (Kd.V_mono (Kd.V_told (Kd.V_told (Kd.V_old (by apply zV_;exact HO_5.out) hb) (zd ho0)) (zd ho1)) (fun _ h_=>h_.1));have n1_:=zA (zV (Kd.R_told (Kd.R_told (Kd.R_old (by apply zR_;exact HO_6.out) hb) (zd ho0)) (zd ho1)) (fun _ h_=>h_.1));have n2_:=zA (zV (Kd.R_told (Kd.R_told (Kd.R_old (by apply zR_;exact HO_7.out) hb) (zd ho0)) (zd ho1)) (fun _ h_=>h_.1));have n3_:=zA (zV (Kd.R_told (Kd.R_told (Kd.R_old (by apply zR_;exact HO_488000.out) hb) (zd ho0)) (zd ho1)) (fun _ h_=>h_.1));have n4_:=zA (zV (Kd.R_told (Kd.R_told (Kd.R_old (by apply zR_;exact HO_488001.out) hb) (zd ho0)) (zd ho1)) (fun _ h_=>h_.1));have n5_:=zA (ze (Kd.R_new' (Kd.R_new' (Kd.R_new' (Kd.R_new' (Kd.R_newM (M:=fun k_=>(w.heap.size≤k_)) ho0 (zQ (by repeat (first|(with_reducible first|exact HB.out|apply zD|apply zB|apply zC|refine zF ?_ GE487.out)|exact HB.out))) (fun k_ h_=>h_)) (Kd.R_lt (by apply zR_;exact HO_6.out))) (Kd.R_lt (by apply zR_;exact HO_7.out))) (Kd.R_lt (by apply zR_;exact HO_488000.out))) (Kd.R_lt (by apply zR_;exact HO_488001.out))) (zQ (by repeat (first|(with_reducible first|exact HB.out|apply zD|apply zB|apply zC|refine zF ?_ GE487.out)|exact HB.out))));have n6_:=zA (ze (Kd.R_new' (Kd.R_new' (Kd.R_new' (Kd.R_new' (Kd.R_newM (M:=fun k_=>(w.heap.size≤k_)) ho1 (zQ (by repeat (first|(with_reducible first|exact HB.out|apply zD|apply zB|apply zC|refine zF ?_ GE487.out)|exact HB.out))) (fun k_ h_=>h_)) (Kd.R_lt (by apply zR_;exact HO_6.out))) (Kd.R_lt (by apply zR_;exact HO_7.out))) (Kd.R_lt (by apply zR_;exact HO_488000.out))) (Kd.R_lt (by apply zR_;exact HO_488001.out))) (zQ (by repeat (first|(with_reducible first|exact HB.out|apply zD|apply zB|apply zC|refine zF ?_ GE487.out)|exact HB.out))));have n7_:=zA (zX (g:=gb487) (o:=.cells #[.slice Ao11 x7_1.length co11,.slice Ao12 t481.length co12] 33 (0,0)) (by (with_reducible repeat (first|refine zG ?_ _|refine zI ?_|refine zH ?_ _));exact BK487.out) hb);have n8_:=zA (zR (by repeat (first|(with_reducible first|exact HB.out|apply zD|apply zB|apply zC|refine zF ?_ GE487.out)|exact HB.out)) hb);clear HO_5;clear HO_6;clear HO_7;clear HO_488000;clear HO_488001;clear BK487;clear HB;have HO_5:=n0_;have HO_6:=n1_;have HO_7:=n2_;have HO_488000:=n3_;have HO_488001:=n4_;have HO492:=n5_;have HO495:=n6_;have BK487:=n7_;have HB:=n8_;clear n0_ n1_ n2_ n3_ n4_ n5_ n6_ n7_ n8_;(try clear hb);(try clear hb2);(try clear hk);(try clear hi);(try clear ho0);(try clear ho1);obtain ⟨Ao30,co30,eo30⟩:=Kd.V_slice HO_5.out;subst eo30;obtain ⟨Ao31,co31,eo31⟩:=zg HO492.out;subst eo31;obtain ⟨Ao32,co32,eo32⟩:=zg HO495.out;subst eo32)|((with_reducible refine gate_callee (f:=64) rfl ?_);refine goesL_ (some 34) rfl rfl Try.func64 (by kernel_rfl) rfl #[.slice Ao30 x5_1.length co30,.agg #[.slice Ao31 t490.length co31,.slice Ao32 t493.length co32]] rfl (by (try simp only [zJ,zM,zN]);first|done|rfl|(simp only [zL,zK];rfl)) ?_;(with_reducible refine (spec_l3Put.calls kj9 (fun k_=>((((w.heap.size≤k_)∧(some k_≠(.slice Ao12 t481.length co12:Value).ownBlock∧(some k_≠(.slice Ao11 x7_1.length co11:Value).ownBlock∧(some k_≠(.slice Ao11 x7_1.length co11:Value).ownBlock∧(some k_≠(.slice Ao12 t481.length co12:Value).ownBlock∧k_≠gb487)))))∧some k_≠(.slice Ao31 t490.length co31:Value).ownBlock)∧some k_≠(.slice Ao32 t493.length co32:Value).ownBlock)) _ _ x5_1 (fun k_=>some k_ = (.slice Ao31 t490.length co31:Value).ownBlock) _ _ t490 (fun k_=>some k_ = (.slice Ao32 t493.length co32:Value).ownBlock) _ _ t493 t496 _ ?side1 ?side2 ?side3 A26.out).mono ?_);(case side1=>exact HO_5.out);(case side2=>exact Kd.R_V (Kd.R_tight rfl (Kd.R_types (HO492.out) BK487.out (by decide))));(case side3=>exact Kd.R_V (Kd.R_tight rfl (Kd.R_types (HO495.out) BK487.out (by decide))));rintro e w33 ⟨v497,rfl,ho0,hb⟩;refine ⟨_,rfl,?_⟩;have n0_:=zA (Kd.V_below (by apply zV_;exact HO_5.out) hb);have n1_:=zA (Kd.R_below (by apply zR_;exact HO_6.out) hb);have n2_:=zA (Kd.R_below (by apply zR_;exact HO_7.out) hb);have n3_:=zA (Kd.R_below (by apply zR_;exact HO_488000.out) hb);have n4_:=zA (Kd.R_below (by apply zR_;exact HO_488001.out) hb);have n5_:=zA (Kd.R_below (by apply zR_;exact HO492.out) hb);have n6_:=zA (Kd.R_below (by apply zR_;exact HO495.out) hb);have n7_:=zA (Kd.V_lower (Kd.V_mono (ok':=fun k_=>(w.heap.size≤k_)∧some k_≠(.slice Ao12 t481.length co12:Value).ownBlock∧some k_≠(.slice Ao11 x7_1.length co11:Value).ownBlock∧some k_≠(.slice Ao11 x7_1.length co11:Value).ownBlock∧some k_≠(.slice Ao12 t481.length co12:Value).ownBlock∧k_≠gb487) ho0 (fun k_ hk_=>⟨Or.elim hk_ (fun hs_=>Or.elim hs_ (fun hs_=>hs_.1.1.1) (fun hs_=>Or.elim hs_ (fun hs_=>((Kd.R_types (HO492.out) BK487.out (by decide)).1 k_ hs_.symm).1.1.1.1.1.1) (fun hs_=>((Kd.R_types (HO495.out) BK487.out (by decide)).1 k_ hs_.symm).1.1.1.1.1.1))) (fun hn_=>(Nat.le_trans (zQ (by repeat (first|(with_reducible first|exact HB.out|apply zD|apply zB|apply zC|refine zF ?_ GE487.out)|exact HB.out))) hn_)),Or.elim hk_ (fun hs_=>Or.elim hs_ (fun hs_=>hs_.1.1.2.1) (fun hs_=>Or.elim hs_ (fun hs_=>((Kd.R_types (HO492.out) BK487.out (by decide)).1 k_ hs_.symm).1.1.1.1.2) (fun hs_=>((Kd.R_types (HO495.out) BK487.out (by decide)).1 k_ hs_.symm).1.1.1.1.2))) (fun hn_=>(Kd.fresh' (Kd.R_lt (by apply zR_;exact HO_6.out)) k_ hn_)),Or.elim hk_ (fun hs_=>Or.elim hs_ (fun hs_=>hs_.1.1.2.2.1) (fun hs_=>Or.elim hs_ (fun hs_=>((Kd.R_types (HO492.out) BK487.out (by decide)).1 k_ hs_.symm).1.1.1.2) (fun hs_=>((Kd.R_types (HO495.out) BK487.out (by decide)).1 k_ hs_.symm).1.1.1.2))) (fun hn_=>(Kd.fresh' (Kd.R_lt (by apply zR_;exact HO_7.out)) k_ hn_)),Or.elim hk_ (fun hs_=>Or.elim hs_ (fun hs_=>hs_.1.1.2.2.2.1) (fun hs_=>Or.elim hs_ (fun hs_=>((Kd.R_types (HO492.out) BK487.out (by decide)).1 k_ hs_.symm).1.1.2) (fun hs_=>((Kd.R_types (HO495.out) BK487.out (by decide)).1 k_ hs_.symm).1.1.2))) (fun hn_=>(Kd.fresh' (Kd.R_lt (by apply zR_;exact HO_488000.out)) k_ hn_)),Or.elim hk_ (fun hs_=>Or.elim hs_ (fun hs_=>hs_.1.1.2.2.2.2.1) (fun hs_=>Or.elim hs_ (fun hs_=>((Kd.R_types (HO492.out) BK487.out (by decide)).1 k_ hs_.symm).1.2) (fun hs_=>((Kd.R_types (HO495.out) BK487.out (by decide)).1 k_ hs_.symm).1.2))) (fun hn_=>(Kd.fresh' (Kd.R_lt (by apply zR_;exact HO_488001.out)) k_ hn_)),Or.elim hk_ (fun hs_=>Or.elim hs_ (fun hs_=>hs_.1.1.2.2.2.2.2) (fun hs_=>Or.elim hs_ (fun hs_=>((Kd.R_types (HO492.out) BK487.out (by decide)).1 k_ hs_.symm).2) (fun hs_=>((Kd.R_types (HO495.out) BK487.out (by decide)).1 k_ hs_.symm).2))) (fun hn_=>(Kd.freshB (g:=gb487) (o:=.cells #[.slice Ao11 x7_1.length co11,.slice Ao12 t481.length co12] 33 (0,0)) (by (with_reducible repeat (first|refine zG ?_ _|refine zI ?_|refine zH ?_ _));exact BK487.out) k_ hn_))⟩)) (zQ (by repeat (first|(with_reducible first|exact HB.out|apply zD|apply zB|apply zC|refine zF ?_ GE487.out)|exact HB.out))));have n8_:=zA (zX (g:=gb487) (o:=.cells #[.slice Ao11 x7_1.length co11,.slice Ao12 t481.length co12] 33 (0,0)) (by (with_reducible repeat (first|refine zG ?_ _|refine zI ?_|refine zH ?_ _));exact BK487.out) hb);have n9_:=zA (zR (by repeat (first|(with_reducible first|exact HB.out|apply zD|apply zB|apply zC|refine zF ?_ GE487.out)|exact HB.out)) hb);clear HO_5;clear HO_6;clear HO_7;clear HO_488000;clear HO_488001;clear HO492;clear HO495;clear BK487;clear HB;have HO_5:=n0_;have HO_6:=n1_;have HO_7:=n2_;have HO_488000:=n3_;have HO_488001:=n4_;have HO492:=n5_;have HO495:=n6_;have HO498:=n7_;have BK487:=n8_;have HB:=n9_;clear n0_ n1_ n2_ n3_ n4_ n5_ n6_ n7_ n8_ n9_;(try clear hb);(try clear hb2);(try clear hk);(try clear hi);(try clear ho0))|((with_reducible refine gate_callee (f:=75) rfl ?_);refine goesL_ (some 19) rfl rfl Try.func75 (by kernel_rfl) rfl #[.slice Ao11 x7_1.length co11] rfl (by (try simp only [zJ,zM,zN]);first|done|rfl|(simp only [zL,zK];rfl)) ?_;(with_reducible refine (spec_l3Next.calls kj9 _ _ x7_1 t499 _ ?side1 ?side2 A27.out).mono ?_);(case side1=>repeat (first|exact (zU HO_7.out).2.2|apply zC_));(case side2=>exact (zU HO_7.out).2.1);rintro e w34 ⟨v500,rfl,ho0,hb⟩;refine ⟨_,rfl,?_⟩;have n0_:=zA (Kd.V_elder' (by apply zV_;exact HO_5.out) (zd ho0) hb);have n1_:=zA (Kd.R_elder' (by apply zR_;exact HO_6.out) (zd ho0) hb);have n2_:=zA (Kd.R_elder' (by apply zR_;exact HO_7.out) (zd ho0) hb);have n3_:=zA (Kd.R_elder' (by apply zR_;exact HO_488000.out) (zd ho0) hb);have n4_:=zA (Kd.R_elder' (by apply zR_;exact HO_488001.out) (zd ho0) hb);have n5_:=zA (Kd.R_elder' (by apply zR_;exact HO492.out) (zd ho0) hb);have n6_:=zA (Kd.R_elder' (by apply zR_;exact HO495.out) (zd ho0) hb);have n7_:=zA (Kd.V_elder' (by apply zV_;exact HO498.out) (zd ho0) hb);have n8_:=zA (ze (Kd.R_new' (Kd.R_new' (Kd.R_new' (Kd.R_new' (Kd.R_new' (Kd.R_new' (Kd.R_newM (M:=fun k_=>(w.heap.size≤k_)) ho0 (zQ (by repeat (first|(with_reducible first|exact HB.out|apply zD|apply zB|apply zC|refine zF ?_ GE487.out)|exact HB.out))) (fun k_ h_=>h_)) (Kd.R_lt (by apply zR_;exact HO_6.out))) (Kd.R_lt (by apply zR_;exact HO_7.out))) (Kd.R_lt (by apply zR_;exact HO_488000.out))) (Kd.R_lt (by apply zR_;exact HO_488001.out))) (Kd.R_lt (by apply zR_;exact HO492.out))) (Kd.R_lt (by apply zR_;exact HO495.out))) (zQ (by repeat (first|(with_reducible first|exact HB.out|apply zD|apply zB|apply zC|refine zF ?_ GE487.out)|exact HB.out))));have n9_:=zA (zX (g:=gb487) (o:=.cells #[.slice Ao11 x7_1.length co11,.slice Ao12 t481.length co12] 33 (0,0)) (by (with_reducible repeat (first|refine zG ?_ _|refine zI ?_|refine zH ?_ _));exact BK487.out) hb);have n10_:=zA (zR (by repeat (first|(with_reducible first|exact HB.out|apply zD|apply zB|apply zC|refine zF ?_ GE487.out)|exact HB.out)) hb);clear HO_5;clear HO_6;clear HO_7;clear HO_488000;clear HO_488001;clear HO492;clear HO495;clear HO498;clear BK487;clear HB;have HO_5:=n0_;have HO_6:=n1_;have HO_7:=n2_;have HO_488000:=n3_;have HO_488001:=n4_;have HO492:=n5_;have HO495:=n6_;have HO498:=n7_;have HO501:=n8_;have BK487:=n9_;have HB:=n10_;clear n0_ n1_ n2_ n3_ n4_ n5_ n6_ n7_ n8_ n9_ n10_;(try clear hb);(try clear hb2);(try clear hk);(try clear hi);(try clear ho0)))
       go_roundg kj9
       case measure=>have:=HK1.out;have:=HJ9.out;omega
       case rel=>exact ⟨(t496),(t499),H',⟨by have:=HK1.out;have:=HJ9.out;omega⟩,⟨by apply zV_;exact Kd.V_mono HO498.out (fun _ hk=>⟨hk.1.1,⟨hk.1.2.1,hk.2⟩⟩)⟩,⟨by apply zR_;exact zV HO_6.out (fun _ hk=>⟨hk.1.1.1.1,hk.2⟩)⟩,⟨by apply zR_;exact zV HO501.out (fun _ hk=>⟨hk.1.1.1.1.1.1.1,hk.1.1.1.1.1.2⟩)⟩,⟨by repeat (first|(with_reducible first|exact HB.out|apply zD|apply zB|apply zC|refine zF ?_ GE487.out)|exact HB.out)⟩⟩
      ·replace c24:=Bool.eq_false_iff.mpr c24
       subst c24
       have H1:((spec_l3Next.f kj9 x7_1).bind fun t502=>(spec_l3All.l0 kj9 a1 x5_1 t481 t502)) = some r:=by rw [if_neg (show ¬ (false = true) by decide)] at H;exact H
       clear H
       have H:=H1
       clear H1
       replace H:=zz0 H
       obtain ⟨t502,A350,H⟩:=H
       try dsimp only at H
       have A35:=zA A350
       clear A350
       have H':=zA H
       clear H
       go_wp2_with (first|((with_reducible refine gate_callee (f:=75) rfl ?_);refine goesL_ (some 19) rfl rfl Try.func75 (by kernel_rfl) rfl #[.slice Ao11 x7_1.length co11] rfl (by (try simp only [zJ,zM,zN]);first|done|rfl|(simp only [zL,zK];rfl)) ?_;(with_reducible refine (spec_l3Next.calls kj9 _ _ x7_1 t502 _ ?side1 ?side2 A35.out).mono ?_);(case side1=>repeat (first|exact (zU HO_7.out).2.2|apply zC_));(case side2=>exact (zU HO_7.out).2.1);rintro e w36 ⟨v503,rfl,ho0,hb⟩;refine ⟨_,rfl,?_⟩;have n0_:=zA (Kd.V_elder' (by apply zV_;exact HO_5.out) (zd ho0) hb);have n1_:=zA (Kd.R_elder' (by apply zR_;exact HO_6.out) (zd ho0) hb);have n2_:=zA (Kd.R_elder' (by apply zR_;exact HO_7.out) (zd ho0) hb);have n3_:=zA (Kd.R_elder' (by apply zR_;exact HO_488000.out) (zd ho0) hb);have n4_:=zA (Kd.R_elder' (by apply zR_;exact HO_488001.out) (zd ho0) hb);have n5_:=zA (ze (Kd.R_new' (Kd.R_new' (Kd.R_new' (Kd.R_new' (Kd.R_newM (M:=fun k_=>(w.heap.size≤k_)) ho0 (zQ (by repeat (first|(with_reducible first|exact HB.out|apply zD|apply zB|apply zC|refine zF ?_ GE487.out)|exact HB.out))) (fun k_ h_=>h_)) (Kd.R_lt (by apply zR_;exact HO_6.out))) (Kd.R_lt (by apply zR_;exact HO_7.out))) (Kd.R_lt (by apply zR_;exact HO_488000.out))) (Kd.R_lt (by apply zR_;exact HO_488001.out))) (zQ (by repeat (first|(with_reducible first|exact HB.out|apply zD|apply zB|apply zC|refine zF ?_ GE487.out)|exact HB.out))));have n6_:=zA (zX (g:=gb487) (o:=.cells #[.slice Ao11 x7_1.length co11,.slice Ao12 t481.length co12] 33 (0,0)) (by (with_reducible repeat (first|refine zG ?_ _|refine zI ?_|refine zH ?_ _));exact BK487.out) hb);have n7_:=zA (zR (by repeat (first|(with_reducible first|exact HB.out|apply zD|apply zB|apply zC|refine zF ?_ GE487.out)|exact HB.out)) hb);clear HO_5;clear HO_6;clear HO_7;clear HO_488000;clear HO_488001;clear BK487;clear HB;have HO_5:=n0_;have HO_6:=n1_;have HO_7:=n2_;have HO_488000:=n3_;have HO_488001:=n4_;have HO504:=n5_;have BK487:=n6_;have HB:=n7_;clear n0_ n1_ n2_ n3_ n4_ n5_ n6_ n7_;(try clear hb);(try clear hb2);(try clear hk);(try clear hi);(try clear ho0)))
       go_roundg kj9
       case measure=>have:=HK1.out;have:=HJ9.out;omega
       case rel=>exact ⟨(x5_1),(t502),H',⟨by have:=HK1.out;have:=HJ9.out;omega⟩,⟨by apply zV_;exact Kd.V_mono HO_5.out (fun _ hk=>⟨hk.1.1,⟨hk.1.2.1,hk.2⟩⟩)⟩,⟨by apply zR_;exact zV HO_6.out (fun _ hk=>⟨hk.1.1,hk.2⟩)⟩,⟨by apply zR_;exact zV HO504.out (fun _ hk=>⟨hk.1.1.1.1.1,hk.1.1.1.2⟩)⟩,⟨by repeat (first|(with_reducible first|exact HB.out|apply zD|apply zB|apply zC|refine zF ?_ GE487.out)|exact HB.out)⟩⟩
   ·rw [if_neg c9] at H
    have c9b0:decide (0 < (x7_1.length:Int)) = false:=zP c9
    have c9b1:decide (0 < x7_1.length) = false:=zP (by omega)
    clear c9
    obtain rfl:=zS H
    obtain ⟨Ao37,co37,eo37⟩:=zg HO_7.out
    subst eo37
    go_wp2
    go_ret
    exact ⟨_,by first|rfl|(simp [errW_none,errW_some] <;> rfl)|(simp [*,errW_none,errW_some] <;> rfl),by apply zV_;exact Kd.V_mono HO_5.out (fun _ hk=>hk.1),by exact zB_ HB.out⟩

end Go.Proofs.Ytdaiohcgdpclnaa.Q
