import Derived.Test.YtonlecigglbohaaQ0
import Derived.Test.YtonlecigglbohaaQ1
import Derived.Test.YtonlecigglbohaaQ2
import Derived.Test.YtonlecigglbohaaQ4
import Derived.Test.YtonlecigglbohaaQ5
import Derived.Test.YtonlecigglbohaaQ7
import Derived.Test.YtonlecigglbohaaQ8
import Derived.Test.YtonlecigglbohaaQ9
import Derived.Test.YtonlecigglbohaaZ
namespace Go.Proofs.Ytonlecigglbohaa.Q
open Go.RowKit Go.Proofs.YtonlecigglbohaaW.PrintWords Go.Proofs.YtonlecigglbohaaW.PrintLast Go.Proofs.YtonlecigglbohaaW.PrintMore
attribute [local go_sem] max2_int min2_int max_two min_two max_three min_three max_four min_four   -- for this text's walks alone
set_option linter.unusedVariables false
set_option linter.unusedSimpArgs false

/-! ### spec_l2Rename: function 116 -/
def spec_l2Rename.f (k:Nat) (l0_0:List Int) (l0_1:List Int) (l1:List Int):Option (List Int × List Int):=(spec_PermConj.f k l0_0 l1).bind fun bt576=>((spec_PermConj.f k l0_1 l1).bind fun bt580=>(some (bt576.1,bt580.1)))
theorem spec_l2Rename.mono:∀ a0 a1 a2 k,LeO (spec_l2Rename.f k a0 a1 a2) (spec_l2Rename.f (k+1) a0 a1 a2):=by
 intro a0 a1 a2 k
 unfold spec_l2Rename.f
 repeat' first
   | (with_reducible exact spec_PermConj.mono _ _ _)
   | (with_reducible exact LeO.refl _)
   | (with_reducible exact za _)
   | (with_reducible refine zc ?_ ?_)
   | (with_reducible refine zb ?_ (fun _=>?_))
set_option maxHeartbeats 8000000 in
set_option maxRecDepth 100000 in
theorem spec_l2Rename.calls (k:Nat) (A0_0:Option Addr) (c0_0:Nat) (l0_0:List Int) (A0_1:Option Addr) (c0_1:Nat) (l0_1:List Int) (A1:Option Addr) (c1:Nat) (l1:List Int) (r1:List Int) (r2:List Int) (w:World) (hr0_0:Kd.C (Kd.int .i64) w A0_0 l0_0.length l0_0) (hc0_0:l0_0.length≤c0_0) (hr0_1:Kd.C (Kd.int .i64) w A0_1 l0_1.length l0_1) (hc0_1:l0_1.length≤c0_1) (hr1:Kd.C (Kd.int .i64) w A1 l1.length l1) (hc1:l1.length≤c1) (h:spec_l2Rename.f k l0_0 l0_1 l1 = some (r1,r2)) :
  Calls Try.prog 116 #[.agg #[.slice A0_0 l0_0.length c0_0,.slice A0_1 l0_1.length c0_1],.slice A1 l1.length c1] w fun e w' => ∃ v0_ v1_:Value,e = .returned (.agg #[v0_,v1_])∧Kd.R (Kd.int .i64) 3 w' w.heap.size (fun k_=>some k_≠(v1_:Value).ownBlock) v0_ r1∧Kd.R (Kd.int .i64) 3 w' w.heap.size (fun k_=>some k_≠(v0_:Value).ownBlock) v1_ r2∧Below w.heap.size w w':=by
 have hu27:=Try.underlying27
 have HR0_0:=zA hr0_0
 have HC0_0:=zA hc0_0
 clear hr0_0 hc0_0
 have HR0_1:=zA hr0_1
 have HC0_1:=zA hc0_1
 clear hr0_1 hc0_1
 have HR1:=zA hr1
 have HC1:=zA hc1
 clear hr1 hc1
 have HB:=zA (Below.refl w.heap.size w)
 have H:((spec_PermConj.f k l0_0 l1).bind fun bt576=>((spec_PermConj.f k l0_1 l1).bind fun bt580=>(some (bt576.1,bt580.1)))) = some (r1,r2):=h
 clear h
 replace H:=zz0 H
 obtain ⟨⟨t576,t577⟩,A30,H⟩:=H
 try dsimp only at H
 have A3:=zA A30
 clear A30
 replace H:=zz0 H
 obtain ⟨⟨t580,t581⟩,A40,H⟩:=H
 try dsimp only at H
 have A4:=zA A40
 clear A40
 simp only [Option.some.injEq,Prod.mk.injEq] at H
 obtain ⟨rfl,rfl⟩:=H
 go_enter Try.func116,Try.ntmps116
 go_wp2_with (first|((with_reducible refine gate_dst (N:=2) rfl ?_);refine box_event ?hg (N:=2) ?hd (cs:=#[.slice A0_0 l0_0.length c0_0,.slice A0_1 l0_1.length c0_1]) (t:=27) ?hr ?_;(case hd=>rfl);(case hg=>rfl);(case hr=>first|(go_simp;done)|(go_simp;rfl));intro gb574 hg w5 hbox hb;have n0_:=zA (zR (by exact zB_ HB.out) hb);have n1_:=zA (hbox);have n2_:=zA ((by rw [hg];exact (zQ (by exact zB_ HB.out)):w.heap.size≤gb574));have n3_:=zA ((by rw [hg];exact (zQ (by exact zB_ HB.out)):w.heap.size≤gb574));clear HB;have HB:=n0_;have BK574:=n1_;have GW574:=n2_;have GE574:=n3_;clear n0_ n1_ n2_ n3_;clear hb hbox hg)|((with_reducible refine gate_dst (N:=4) rfl ?_);refine box_event ?hg (N:=4) ?hd (cs:=#[.slice none 0 0,.slice none 0 0]) (t:=27) ?hr ?_;(case hd=>rfl);(case hg=>rfl);(case hr=>first|(go_simp;done)|(go_simp;rfl));intro gb575 hg w6 hbox hb;have n0_:=zA (zX (g:=gb574) (o:=.cells #[.slice A0_0 l0_0.length c0_0,.slice A0_1 l0_1.length c0_1] 27 (0,0)) (by (with_reducible repeat (first|refine zG ?_ _|refine zI ?_|refine zH ?_ _));exact BK574.out) hb);have n1_:=zA (zR (by repeat (first|(with_reducible first|exact HB.out|apply zD|apply zB|apply zC|refine zF ?_ GE574.out)|exact HB.out)) hb);have n2_:=zA (hbox);have n3_:=zA ((by rw [hg];exact (zQ (by repeat (first|(with_reducible first|exact HB.out|apply zD|apply zB|apply zC|refine zF ?_ GE574.out)|exact HB.out))):w.heap.size≤gb575));have n4_:=zA ((by rw [hg];exact (zQ (by repeat (first|(with_reducible first|exact HB.out|apply zD|apply zB|apply zC|refine zF ?_ GE574.out)|exact HB.out))):w.heap.size≤gb575));have n5_:=zA ((by rw [hg];exact Nat.ne_of_lt (blk_lt (g:=gb574) (o:=.cells #[.slice A0_0 l0_0.length c0_0,.slice A0_1 l0_1.length c0_1] 27 (0,0)) (by (with_reducible repeat (first|refine zG ?_ _|refine zI ?_|refine zH ?_ _));exact BK574.out)):gb574≠gb575));have n6_:=zA ((by rw [hg];exact Nat.ne_of_gt (blk_lt (g:=gb574) (o:=.cells #[.slice A0_0 l0_0.length c0_0,.slice A0_1 l0_1.length c0_1] 27 (0,0)) (by (with_reducible repeat (first|refine zG ?_ _|refine zI ?_|refine zH ?_ _));exact BK574.out)):gb575≠gb574));clear BK574;clear HB;have BK574:=n0_;have HB:=n1_;have BK575:=n2_;have GW575:=n3_;have GE575:=n4_;have NB574_575:=n5_;have NB575_574:=n6_;clear n0_ n1_ n2_ n3_ n4_ n5_ n6_;clear hb hbox hg;have hnb7:=NB574_575.out;have hnc7:=NB575_574.out;have hcz8_0:w6.cell? ⟨gb574,0,none⟩ = some (.slice A0_0 l0_0.length c0_0):=(zT BK574.out 0).trans rfl;have hcz8_1:w6.cell? ⟨gb574,1,none⟩ = some (.slice A0_1 l0_1.length c0_1):=(zT BK574.out 1).trans rfl;have hfz8_0:=zZ BK574.out 0;have hfz8_1:=zZ BK574.out 1)|((with_reducible refine gate_callee (f:=111) rfl ?_);refine goesL_ (some 13) rfl rfl Try.func111 (by kernel_rfl) rfl #[.slice A0_0 l0_0.length c0_0,.slice A1 l1.length c1] rfl (by (try simp only [zJ,zM,zN]);first|done|rfl|(simp only [zL,zK];rfl)) ?_;(with_reducible refine (spec_PermConj.calls k _ _ l0_0 _ _ l1 t576 t577 _ ?side1 ?side2 ?side3 ?side4 A3.out).mono ?_);(case side1=>repeat (first|exact (zW HR0_0.out HB.out)|(with_reducible exact HR0_0.out)|apply zC_));(case side2=>exact HC0_0.out);(case side3=>repeat (first|exact (zW HR1.out HB.out)|(with_reducible exact HR1.out)|apply zC_));(case side4=>exact HC1.out);rintro e w9 ⟨v578,rfl,ho0,hb⟩;refine ⟨_,rfl,?_⟩;have n0_:=zA (ze ho0 (zQ (by repeat (first|(with_reducible first|exact HB.out|apply zD|apply zB|apply zC|refine zF ?_ GE574.out|refine zF ?_ GE575.out)|exact HB.out))));have n1_:=zA (zX (g:=gb574) (o:=.cells #[.slice A0_0 l0_0.length c0_0,.slice A0_1 l0_1.length c0_1] 27 (0,0)) (by (with_reducible repeat (first|refine zG ?_ _|refine zI ?_|refine zH ?_ _));exact BK574.out) hb);have n2_:=zA (zX (g:=gb575) (o:=.cells #[.slice none 0 0,.slice none 0 0] 27 (0,0)) (by (with_reducible repeat (first|refine zG ?_ _|refine zI ?_|refine zH ?_ _));exact BK575.out) hb);have n3_:=zA (zR (by repeat (first|(with_reducible first|exact HB.out|apply zD|apply zB|apply zC|refine zF ?_ GE574.out|refine zF ?_ GE575.out)|exact HB.out)) hb);clear BK574;clear BK575;clear HB;have HO579:=n0_;have BK574:=n1_;have BK575:=n2_;have HB:=n3_;clear n0_ n1_ n2_ n3_;(try clear hb);(try clear hb2);(try clear hk);(try clear hi);(try clear ho0);have hcz10_0:w9.cell? ⟨gb574,0,none⟩ = some (.slice A0_0 l0_0.length c0_0):=(zT BK574.out 0).trans rfl;have hcz10_1:w9.cell? ⟨gb574,1,none⟩ = some (.slice A0_1 l0_1.length c0_1):=(zT BK574.out 1).trans rfl;have hfz10_0:=zZ BK574.out 0;have hfz10_1:=zZ BK574.out 1)|((with_reducible refine gate_callee (f:=111) rfl ?_);refine goesL_ (some 20) rfl rfl Try.func111 (by kernel_rfl) rfl #[.slice A0_1 l0_1.length c0_1,.slice A1 l1.length c1] rfl (by (try simp only [zJ,zM,zN]);first|done|rfl|(simp only [zL,zK];rfl)) ?_;(with_reducible refine (spec_PermConj.calls k _ _ l0_1 _ _ l1 t580 t581 _ ?side1 ?side2 ?side3 ?side4 A4.out).mono ?_);(case side1=>repeat (first|exact (zW HR0_1.out HB.out)|(with_reducible exact HR0_1.out)|apply zC_));(case side2=>exact HC0_1.out);(case side3=>repeat (first|exact (zW HR1.out HB.out)|(with_reducible exact HR1.out)|apply zC_));(case side4=>exact HC1.out);rintro e w11 ⟨v582,rfl,ho0,hb⟩;refine ⟨_,rfl,?_⟩;have n0_:=zA (Kd.R_elder' (by apply zR_;exact HO579.out) (zd ho0) hb);have n1_:=zA (ze (zh ho0 (Kd.R_lt (by apply zR_;exact HO579.out))) (zQ (by repeat (first|(with_reducible first|exact HB.out|apply zD|apply zB|apply zC|refine zF ?_ GE574.out|refine zF ?_ GE575.out)|exact HB.out))));have n2_:=zA (zX (g:=gb574) (o:=.cells #[.slice A0_0 l0_0.length c0_0,.slice A0_1 l0_1.length c0_1] 27 (0,0)) (by (with_reducible repeat (first|refine zG ?_ _|refine zI ?_|refine zH ?_ _));exact BK574.out) hb);have n3_:=zA (zX (g:=gb575) (o:=.cells #[.slice none 0 0,.slice none 0 0] 27 (0,0)) (by (with_reducible repeat (first|refine zG ?_ _|refine zI ?_|refine zH ?_ _));exact BK575.out) hb);have n4_:=zA (zR (by repeat (first|(with_reducible first|exact HB.out|apply zD|apply zB|apply zC|refine zF ?_ GE574.out|refine zF ?_ GE575.out)|exact HB.out)) hb);clear HO579;clear BK574;clear BK575;clear HB;have HO579:=n0_;have HO583:=n1_;have BK574:=n2_;have BK575:=n3_;have HB:=n4_;clear n0_ n1_ n2_ n3_ n4_;(try clear hb);(try clear hb2);(try clear hk);(try clear hi);(try clear ho0);obtain ⟨Ao12,co12,eo12⟩:=zg HO583.out;subst eo12;obtain ⟨Ao13,co13,eo13⟩:=zg HO579.out;subst eo13;have hcz14_0:w11.cell? ⟨gb575,0,none⟩ = some (.slice none 0 0):=(zT BK575.out 0).trans rfl;have hcz14_1:w11.cell? ⟨gb575,1,none⟩ = some (.slice none 0 0):=(zT BK575.out 1).trans rfl;have hfz14_0:=zZ BK575.out 0;have hfz14_1:=zZ BK575.out 1))
 refine bodyPost_ret (results_cell_row rfl _ _ gb575 27 #[.slice Ao13 t576.length co13,.slice Ao12 t580.length co12] (0,0) _ rfl (by (with_reducible repeat (first|refine zG ?_ _|refine zI ?_|refine zH ?_ _));refine blk_put (cs:=#[.slice Ao13 t576.length co13,.slice none 0 0]) ?_ 1 _ rfl;(with_reducible repeat (first|refine zG ?_ _|refine zI ?_|refine zH ?_ _));refine blk_put (cs:=#[.slice none 0 0,.slice none 0 0]) ?_ 0 _ rfl;(with_reducible repeat (first|refine zG ?_ _|refine zI ?_|refine zH ?_ _));exact BK575.out) Try.underlying27 rfl (by kernel_rfl)) rfl ?_
 exact ⟨_,_,by first|rfl|(simp [errW_none,errW_some] <;> rfl)|(simp [*,errW_none,errW_some] <;> rfl),by apply zR_;exact zV (Kd.R_far (p:=⟨gb575,1,none⟩) (Kd.R_far (p:=⟨gb575,0,none⟩) (Kd.R_types HO579.out BK575.out (by decide)) (fun _ hk=>hk.2) (.slice Ao13 t576.length co13)) (fun _ hk=>hk.2) (.slice Ao12 t580.length co12)) (fun _ hk=>hk.1.2),by apply zR_;exact zV (Kd.R_far (p:=⟨gb575,1,none⟩) (Kd.R_far (p:=⟨gb575,0,none⟩) (Kd.R_types HO583.out BK575.out (by decide)) (fun _ hk=>hk.2) (.slice Ao13 t576.length co13)) (fun _ hk=>hk.2) (.slice Ao12 t580.length co12)) (fun _ hk=>hk.1.2),by repeat (first|(with_reducible first|exact HB.out|apply zD|apply zB|apply zC|refine zF ?_ GE574.out|refine zF ?_ GE575.out)|exact HB.out)⟩

/-! ### spec_DrawGluingOf: function 59 -/
def spec_DrawGluingOf.f (k:Nat) (l0:List Int):Option (List Int × List Int × Int):=(spec_l6Open.f l0).bind fun bt585=>((spec_l6Rd_pick.f k bt585.1 bt585.2 4).bind fun bt588=>(if bt588.1 = 0 then ((spec_l91Map.f k bt585.1 bt588.2 4).bind fun bt590=>((spec_l91At.f k bt585.1 bt590.2.2 (bt590.1.length:Int)).bind fun bt598=>(some (bt590.1,bt590.2.1,bt598.1)))) else ((spec_l91Gluing.f k bt585.1 bt588.2 5).bind fun bt600=>((spec_GluingMap.f k bt600.1).bind fun bt604=>(if bt604.2.2 = true then ((spec_l91Perm.f k bt585.1 bt600.2 (bt604.1.length:Int)).bind fun bt612=>((spec_l2Rename.f k bt604.1 bt604.2.1 bt612.1).bind fun bt616=>((spec_l91At.f k bt585.1 bt612.2 (bt616.1.length:Int)).bind fun bt622=>(some (bt616.1,bt616.2,bt622.1))))) else (some (bt604.1,bt604.2.1,0)))))))
theorem spec_DrawGluingOf.mono:∀ a0 k,LeO (spec_DrawGluingOf.f k a0) (spec_DrawGluingOf.f (k+1) a0):=by
 intro a0 k
 unfold spec_DrawGluingOf.f
 repeat' first
   | (with_reducible exact spec_GluingMap.mono _ _)
   | (with_reducible exact spec_l2Rename.mono _ _ _ _)
   | (with_reducible exact spec_l6Rd_pick.mono _ _ _ _)
   | (with_reducible exact spec_l91At.mono _ _ _ _)
   | (with_reducible exact spec_l91Gluing.mono _ _ _ _)
   | (with_reducible exact spec_l91Map.mono _ _ _ _)
   | (with_reducible exact spec_l91Perm.mono _ _ _ _)
   | (with_reducible exact LeO.refl _)
   | (with_reducible exact za _)
   | (with_reducible refine zc ?_ ?_)
   | (with_reducible refine zb ?_ (fun _=>?_))
def spec_DrawGluingOf.T4:Bool × List (List Nat × List Nat):=(true,[([],[]),([],[]),([],[]),([2],[2]),([3],[3]),([1,4],[1,4]),([0,5,0],[0]),([5,6,0,1,2,3,4,5,6],[5])])
def spec_DrawGluingOf.B4:List Nat:=[0,0,0,4,12,30,63,127]
theorem spec_DrawGluingOf.tab4:rtab .any (opsOf Try.f59 4) = spec_DrawGluingOf.T4:=by kernel_rfl
theorem spec_DrawGluingOf.bits4:waitsOk spec_DrawGluingOf.T4.2 spec_DrawGluingOf.B4 = true:=by kernel_rfl
def spec_DrawGluingOf.T8:Bool × List (List Nat × List Nat):=(true,[([],[]),([],[]),([],[]),([2],[2]),([3],[3]),([1,4],[1,4]),([0,5,5],[0,5]),([6,6,0,1,2,3,4,5,6],[6])])
def spec_DrawGluingOf.B8:List Nat:=[0,0,0,4,12,30,63,127]
theorem spec_DrawGluingOf.tab8:rtab .any (opsOf Try.f59 8) = spec_DrawGluingOf.T8:=by kernel_rfl
theorem spec_DrawGluingOf.bits8:waitsOk spec_DrawGluingOf.T8.2 spec_DrawGluingOf.B8 = true:=by kernel_rfl
def spec_DrawGluingOf.T9:Bool × List (List Nat × List Nat):=(true,[([],[]),([],[]),([],[]),([2],[2]),([3],[3]),([1,4],[1,4]),([0,5,0],[0]),([5,6,0,1,2,3,4,5,6],[5])])
def spec_DrawGluingOf.B9:List Nat:=[0,0,0,4,12,30,63,127]
theorem spec_DrawGluingOf.tab9:rtab .any (opsOf Try.f59 9) = spec_DrawGluingOf.T9:=by kernel_rfl
theorem spec_DrawGluingOf.bits9:waitsOk spec_DrawGluingOf.T9.2 spec_DrawGluingOf.B9 = true:=by kernel_rfl
set_option maxHeartbeats 8000000 in
set_option maxRecDepth 100000 in
theorem spec_DrawGluingOf.calls (k:Nat) (A0:Option Addr) (c0:Nat) (l0:List Int) (r1:List Int) (r2:List Int) (r3:Int) (w:World) (hr0:Kd.C (Kd.int .u8) w A0 l0.length l0) (hc0:l0.length≤c0) (h:spec_DrawGluingOf.f k l0 = some (r1,r2,r3)) :
  Calls Try.prog 59 #[.slice A0 l0.length c0] w fun e w' => ∃ v0_ v1_:Value,e = .returned (.tuple #[.agg #[v0_,v1_],.int .i64 r3])∧Kd.Q (Kd.int .i64) 3 w' w.heap.size (fun k_=>some k_≠(v1_:Value).ownBlock) v0_ r1∧Kd.R (Kd.int .i64) 3 w' w.heap.size (fun k_=>some k_≠(v0_:Value).ownBlock) v1_ r2∧Below w.heap.size w w':=by
 have hu27:=Try.underlying27
 have HR0:=zA hr0
 have HC0:=zA hc0
 clear hr0 hc0
 have HB:=zA (Below.refl w.heap.size w)
 have H:((spec_l6Open.f l0).bind fun bt585=>((spec_l6Rd_pick.f k bt585.1 bt585.2 4).bind fun bt588=>(if bt588.1 = 0 then ((spec_l91Map.f k bt585.1 bt588.2 4).bind fun bt590=>((spec_l91At.f k bt585.1 bt590.2.2 (bt590.1.length:Int)).bind fun bt598=>(some (bt590.1,bt590.2.1,bt598.1)))) else ((spec_l91Gluing.f k bt585.1 bt588.2 5).bind fun bt600=>((spec_GluingMap.f k bt600.1).bind fun bt604=>(if bt604.2.2 = true then ((spec_l91Perm.f k bt585.1 bt600.2 (bt604.1.length:Int)).bind fun bt612=>((spec_l2Rename.f k bt604.1 bt604.2.1 bt612.1).bind fun bt616=>((spec_l91At.f k bt585.1 bt612.2 (bt616.1.length:Int)).bind fun bt622=>(some (bt616.1,bt616.2,bt622.1))))) else (some (bt604.1,bt604.2.1,0)))))))) = some (r1,r2,r3):=h
 clear h
 replace H:=zz0 H
 obtain ⟨⟨t585,t586⟩,A20,H⟩:=H
 try dsimp only at H
 have A2:=zA A20
 clear A20
 replace H:=zz0 H
 obtain ⟨⟨t588,t589⟩,A30,H⟩:=H
 try dsimp only at H
 have A3:=zA A30
 clear A30
 by_cases c4:t588 = 0
 ·rw [if_pos c4] at H
  have c4b0:(t588 == 0) = true:=beq_iff_eq.mpr c4
  have c4b1:(t588 != 0) = false:=bne_eq_false_iff_eq.mpr c4
  clear c4
  replace H:=zz0 H
  obtain ⟨⟨t590,t593,t596⟩,A50,H⟩:=H
  try dsimp only at H
  have A5:=zA A50
  clear A50
  replace H:=zz0 H
  obtain ⟨⟨t598,t599⟩,A60,H⟩:=H
  try dsimp only at H
  have A6:=zA A60
  clear A60
  simp only [Option.some.injEq,Prod.mk.injEq] at H
  obtain ⟨rfl,rfl,rfl⟩:=H
  go_enter Try.func59,Try.ntmps59
  try go_wp2_with (first|((with_reducible refine gate_dst (N:=2) rfl ?_);refine box_event ?hg (N:=2) ?hd (cs:=#[.slice none 0 0,.slice none 0 0]) (t:=27) ?hr ?_;(case hd=>rfl);(case hg=>rfl);(case hr=>first|(go_simp;done)|(go_simp;rfl));intro gb584 hg w7 hbox hb;have n0_:=zA (zR (by exact zB_ HB.out) hb);have n1_:=zA (hbox);have n2_:=zA ((by rw [hg];exact (zQ (by exact zB_ HB.out)):w.heap.size≤gb584));have n3_:=zA ((by rw [hg];exact (zQ (by exact zB_ HB.out)):w.heap.size≤gb584));clear HB;have HB:=n0_;have BK584:=n1_;have GW584:=n2_;have GE584:=n3_;clear n0_ n1_ n2_ n3_;clear hb hbox hg)|((with_reducible refine gate_callee (f:=78) rfl ?_);refine goesL_ (some 9) rfl rfl Try.func78 (by kernel_rfl) rfl #[.slice A0 l0.length c0] rfl (by (try simp only [zJ,zM,zN]);first|done|rfl|(simp only [zL,zK];rfl)) ?_;(with_reducible refine (spec_l6Open.calls _ _ l0 t585 t586 w _ ?side1 ?side2 ?side3 A2.out).mono ?_);(case side1=>repeat (first|(with_reducible first|exact HB.out|apply zD|apply zB|apply zC|refine zF ?_ GE584.out)|exact HB.out));(case side2=>exact HR0.out);(case side3=>exact HC0.out);rintro e w8 ⟨g587,rfl,hi,hb,hb2⟩;refine ⟨_,rfl,?_⟩;have n0_:=zA (zX (g:=gb584) (o:=.cells #[.slice none 0 0,.slice none 0 0] 27 (0,0)) (by (with_reducible repeat (first|refine zG ?_ _|refine zI ?_|refine zH ?_ _));exact BK584.out) hb2);have n1_:=zA (hb);have n2_:=zA (hi);have n3_:=zA (IsS84.ne_blk hi (zX (g:=gb584) (o:=.cells #[.slice none 0 0,.slice none 0 0] 27 (0,0)) (by (with_reducible repeat (first|refine zG ?_ _|refine zI ?_|refine zH ?_ _));exact BK584.out) hb2) (by decide));have n4_:=zA (Ne.symm (IsS84.ne_blk hi (zX (g:=gb584) (o:=.cells #[.slice none 0 0,.slice none 0 0] 27 (0,0)) (by (with_reducible repeat (first|refine zG ?_ _|refine zI ?_|refine zH ?_ _));exact BK584.out) hb2) (by decide)));clear BK584;clear HB;have BK584:=n0_;have HB:=n1_;have HI587:=n2_;have NB587_584:=n3_;have NB584_587:=n4_;clear n0_ n1_ n2_ n3_ n4_;(try clear hb);(try clear hb2);(try clear hk);(try clear hi))|((with_reducible refine gate_callee (f:=90) rfl ?_);refine goesL_ (some 11) rfl rfl Try.func90 (by kernel_rfl) rfl #[.pointer (some ⟨g587,0,none⟩),.int .i64 4] rfl (by (try simp only [zJ,zM,zN]);first|done|rfl|(simp only [zL,zK];rfl)) ?_;(with_reducible refine (spec_l6Rd_pick.calls k g587 t585 t586 4 t588 t589 w _ ?side1 ?side2 A3.out).mono ?_);(case side1=>repeat (first|(with_reducible first|exact HI587.out|apply IsS84.alloc|apply IsS84.drewN|apply IsS84.drew|apply IsS84.set_1|refine IsS84.far ?_ NB587_584.out _)|exact HI587.out));(case side2=>repeat (first|(with_reducible first|exact HB.out|apply zD|apply zB|apply zC|refine zF ?_ (IsS84.ge HI587.out)|refine zF ?_ GE584.out)|exact HB.out));rintro e w9 ⟨rfl,hi,hb,hk⟩;refine ⟨_,rfl,?_⟩;have n0_:=zA (KeepBut.blk hk (g':=gb584) (o:=.cells #[.slice none 0 0,.slice none 0 0] 27 (0,0)) (by (with_reducible repeat (first|refine zG ?_ _|refine zI ?_|refine zH ?_ _));exact BK584.out) NB584_587.out (by simp));have n1_:=zA (hb);have n2_:=zA (hi);clear BK584;clear HB;clear HI587;have BK584:=n0_;have HB:=n1_;have HI587:=n2_;clear n0_ n1_ n2_;(try clear hb);(try clear hb2);(try clear hk);(try clear hi))|((with_reducible refine gate_callee (f:=93) rfl ?_);refine goesL_ (some 14) rfl rfl Try.func93 (by kernel_rfl) rfl #[.pointer (some ⟨g587,0,none⟩),.int .i64 4] rfl (by (try simp only [zJ,zM,zN]);first|done|rfl|(simp only [zL,zK];rfl)) ?_;(with_reducible refine (spec_l91Map.calls k g587 t585 t589 4 t590 t593 t596 w _ ?side1 ?side2 A5.out).mono ?_);(case side1=>repeat (first|(with_reducible first|exact HI587.out|apply IsS84.alloc|apply IsS84.drewN|apply IsS84.drew|apply IsS84.set_1|refine IsS84.far ?_ NB587_584.out _)|exact HI587.out));(case side2=>repeat (first|(with_reducible first|exact HB.out|apply zD|apply zB|apply zC|refine zF ?_ (IsS84.ge HI587.out)|refine zF ?_ GE584.out)|exact HB.out));rintro e w10 ⟨v591,v594,rfl,ho0,ho1,hi,hb,hk⟩;refine ⟨_,rfl,?_⟩;have n0_:=zA (KeepBut.blk hk (g':=gb584) (o:=.cells #[.slice none 0 0,.slice none 0 0] 27 (0,0)) (by (with_reducible repeat (first|refine zG ?_ _|refine zI ?_|refine zH ?_ _));exact BK584.out) NB584_587.out (by simp));have n1_:=zA (Kd.Q_lower ho0 (zQ (by repeat (first|(with_reducible first|exact HB.out|apply zD|apply zB|apply zC|refine zF ?_ (IsS84.ge HI587.out)|refine zF ?_ GE584.out)|exact HB.out))));have n2_:=zA (ze ho1 (zQ (by repeat (first|(with_reducible first|exact HB.out|apply zD|apply zB|apply zC|refine zF ?_ (IsS84.ge HI587.out)|refine zF ?_ GE584.out)|exact HB.out))));have n3_:=zA (hb);have n4_:=zA (hi);clear BK584;clear HB;clear HI587;have BK584:=n0_;have HO592:=n1_;have HO595:=n2_;have HB:=n3_;have HI587:=n4_;clear n0_ n1_ n2_ n3_ n4_;(try clear hb);(try clear hb2);(try clear hk);(try clear hi);(try clear ho0);(try clear ho1))|((with_reducible refine gate_dst (N:=5) rfl ?_);refine box_event ?hg (N:=5) ?hd (cs:=#[.slice none 0 0,.slice none 0 0]) (t:=27) ?hr ?_;(case hd=>rfl);(case hg=>rfl);(case hr=>first|(go_simp;done)|(go_simp;rfl));intro gb597 hg w11 hbox hb;have n0_:=zA (Kd.Q_below (by (with_reducible repeat (first|apply Kd.Q_alloc|apply Kd.Q_drewN|apply Kd.Q_drew));exact HO592.out) hb);have n1_:=zA (Kd.R_below (by apply zR_;exact HO595.out) hb);have n2_:=zA (zX (g:=gb584) (o:=.cells #[.slice none 0 0,.slice none 0 0] 27 (0,0)) (by (with_reducible repeat (first|refine zG ?_ _|refine zI ?_|refine zH ?_ _));exact BK584.out) hb);have n3_:=zA (IsS84.below (by repeat (first|(with_reducible first|exact HI587.out|apply IsS84.alloc|apply IsS84.drewN|apply IsS84.drew|apply IsS84.set_1|refine IsS84.far ?_ NB587_584.out _)|exact HI587.out)) hb);have n4_:=zA (zR (by repeat (first|(with_reducible first|exact HB.out|apply zD|apply zB|apply zC|refine zF ?_ (IsS84.ge HI587.out)|refine zF ?_ GE584.out)|exact HB.out)) hb);have n5_:=zA (hbox);have n6_:=zA ((by rw [hg];exact (zQ (by repeat (first|(with_reducible first|exact HB.out|apply zD|apply zB|apply zC|refine zF ?_ (IsS84.ge HI587.out)|refine zF ?_ GE584.out)|exact HB.out))):w.heap.size≤gb597));have n7_:=zA ((by rw [hg];exact (zQ (by repeat (first|(with_reducible first|exact HB.out|apply zD|apply zB|apply zC|refine zF ?_ (IsS84.ge HI587.out)|refine zF ?_ GE584.out)|exact HB.out))):w.heap.size≤gb597));have n8_:=zA ((by rw [hg];exact Nat.ne_of_lt (blk_lt (g:=gb584) (o:=.cells #[.slice none 0 0,.slice none 0 0] 27 (0,0)) (by (with_reducible repeat (first|refine zG ?_ _|refine zI ?_|refine zH ?_ _));exact BK584.out)):gb584≠gb597));have n9_:=zA ((by rw [hg];exact Nat.ne_of_gt (blk_lt (g:=gb584) (o:=.cells #[.slice none 0 0,.slice none 0 0] 27 (0,0)) (by (with_reducible repeat (first|refine zG ?_ _|refine zI ?_|refine zH ?_ _));exact BK584.out)):gb597≠gb584));have n10_:=zA ((by rw [hg];exact Nat.ne_of_lt (IsS84.lt (show IsS84 w _ g587 t585 t596 from by repeat (first|(with_reducible first|exact HI587.out|apply IsS84.alloc|apply IsS84.drewN|apply IsS84.drew|apply IsS84.set_1|refine IsS84.far ?_ NB587_584.out _)|exact HI587.out))):g587≠gb597));have n11_:=zA ((by rw [hg];exact Nat.ne_of_gt (IsS84.lt (show IsS84 w _ g587 t585 t596 from by repeat (first|(with_reducible first|exact HI587.out|apply IsS84.alloc|apply IsS84.drewN|apply IsS84.drew|apply IsS84.set_1|refine IsS84.far ?_ NB587_584.out _)|exact HI587.out))):gb597≠g587));clear HO592;clear HO595;clear BK584;clear HI587;clear HB;have HO592:=n0_;have HO595:=n1_;have BK584:=n2_;have HI587:=n3_;have HB:=n4_;have BK597:=n5_;have GW597:=n6_;have GE597:=n7_;have NB584_597:=n8_;have NB597_584:=n9_;have NB587_597:=n10_;have NB597_587:=n11_;clear n0_ n1_ n2_ n3_ n4_ n5_ n6_ n7_ n8_ n9_ n10_ n11_;clear hb hbox hg;obtain ⟨Ao12,co12,eo12,_⟩:=Kd.Q_slice HO592.out;subst eo12;have hnb13:=NB597_584.out;have hnc13:=NB584_597.out;have hnb14:=NB597_587.out;have hnc14:=NB587_597.out;have hcz15_0:w11.cell? ⟨gb597,0,none⟩ = some (.slice none 0 0):=(zT BK597.out 0).trans rfl;have hcz15_1:w11.cell? ⟨gb597,1,none⟩ = some (.slice none 0 0):=(zT BK597.out 1).trans rfl;have hfz15_0:=zZ BK597.out 0;have hfz15_1:=zZ BK597.out 1;obtain ⟨Ao16,co16,eo16⟩:=zg HO595.out;subst eo16))
  have n0_:Aside0 (Kd.Q (Kd.int .i64) 3 ((w11.setCell ⟨gb597,0,none⟩ (.slice Ao12 t590.length co12)).setCell ⟨gb597,1,none⟩ (.slice Ao16 t593.length co16)) w.heap.size (fun k_=>some k_≠(.slice Ao16 t593.length co16:Value).ownBlock) (.slice Ao12 t590.length co12) t590):=⟨by (with_reducible repeat (first|apply Kd.Q_alloc|apply Kd.Q_drewN|apply Kd.Q_drew));exact Kd.Q_mono (Kd.Q_far (p:=⟨gb597,1,none⟩) (Kd.Q_far (p:=⟨gb597,0,none⟩) (Kd.Q_types HO592.out BK597.out (by decide)) (fun _ hk=>hk.2) (.slice Ao12 t590.length co12)) (fun _ hk=>hk.2) (.slice Ao16 t593.length co16)) (fun _ hk=>hk.1)⟩
  have n1_:Aside0 (Kd.R (Kd.int .i64) 3 ((w11.setCell ⟨gb597,0,none⟩ (.slice Ao12 t590.length co12)).setCell ⟨gb597,1,none⟩ (.slice Ao16 t593.length co16)) w.heap.size (fun k_=>some k_≠(.slice Ao12 t590.length co12:Value).ownBlock) (.slice Ao16 t593.length co16) t593):=⟨by apply zR_;exact zV (Kd.R_far (p:=⟨gb597,1,none⟩) (Kd.R_far (p:=⟨gb597,0,none⟩) (Kd.R_types HO595.out BK597.out (by decide)) (fun _ hk=>hk.2) (.slice Ao12 t590.length co12)) (fun _ hk=>hk.2) (.slice Ao16 t593.length co16)) (fun _ hk=>hk.1)⟩
  have n2_:Aside0 (((w11.setCell ⟨gb597,0,none⟩ (.slice Ao12 t590.length co12)).setCell ⟨gb597,1,none⟩ (.slice Ao16 t593.length co16)).heap[gb584]? = some (.cells #[.slice none 0 0,.slice none 0 0] 27 (0,0))):=⟨by (with_reducible repeat (first|refine zG ?_ _|refine zI ?_|refine zH ?_ _));refine blk_far ?_ NB584_597.out _;(with_reducible repeat (first|refine zG ?_ _|refine zI ?_|refine zH ?_ _));refine blk_far ?_ NB584_597.out _;(with_reducible repeat (first|refine zG ?_ _|refine zI ?_|refine zH ?_ _));exact BK584.out⟩
  have n3_:Aside0 (((w11.setCell ⟨gb597,0,none⟩ (.slice Ao12 t590.length co12)).setCell ⟨gb597,1,none⟩ (.slice Ao16 t593.length co16)).heap[gb597]? = some (.cells #[.slice Ao12 t590.length co12,.slice Ao16 t593.length co16] 27 (0,0))):=⟨by (with_reducible repeat (first|refine zG ?_ _|refine zI ?_|refine zH ?_ _));refine blk_put (cs:=#[.slice Ao12 t590.length co12,.slice none 0 0]) ?_ 1 _ rfl;(with_reducible repeat (first|refine zG ?_ _|refine zI ?_|refine zH ?_ _));refine blk_put (cs:=#[.slice none 0 0,.slice none 0 0]) ?_ 0 _ rfl;(with_reducible repeat (first|refine zG ?_ _|refine zI ?_|refine zH ?_ _));exact BK597.out⟩
  have n4_:Aside0 (IsS84 w ((w11.setCell ⟨gb597,0,none⟩ (.slice Ao12 t590.length co12)).setCell ⟨gb597,1,none⟩ (.slice Ao16 t593.length co16)) g587 t585 t596):=⟨by repeat (first|(with_reducible first|exact HI587.out|apply IsS84.alloc|apply IsS84.drewN|apply IsS84.drew|apply IsS84.set_1|refine IsS84.far ?_ NB587_584.out _|refine IsS84.far ?_ NB587_597.out _)|exact HI587.out)⟩
  have n5_:Aside0 (Below w.heap.size w ((w11.setCell ⟨gb597,0,none⟩ (.slice Ao12 t590.length co12)).setCell ⟨gb597,1,none⟩ (.slice Ao16 t593.length co16))):=⟨by repeat (first|(with_reducible first|exact HB.out|apply zD|apply zB|apply zC|refine zF ?_ (IsS84.ge HI587.out)|refine zF ?_ GE584.out|refine zF ?_ GE597.out)|exact HB.out)⟩
  (try clear HO592);(try clear HO595);(try clear BK584);(try clear BK597);(try clear HI587);(try clear HB)
  generalize ((w11.setCell ⟨gb597,0,none⟩ (.slice Ao12 t590.length co12)).setCell ⟨gb597,1,none⟩ (.slice Ao16 t593.length co16)) = w17 at n0_ n1_ n2_ n3_ n4_ n5_ ⊢
  have HO592:=n0_
  have HO595:=n1_
  have BK584:=n2_
  have BK597:=n3_
  have HI587:=n4_
  have HB:=n5_
  clear n0_ n1_ n2_ n3_ n4_ n5_
  have n0_:=zA (Kd.Q_drew HO592.out)
  have n1_:=zA (Kd.R_drew HO595.out)
  have n2_:=zA (zI BK584.out)
  have n3_:=zA (zI BK597.out)
  have n4_:=zA (IsS84.drew HI587.out)
  have n5_:=zA (zC HB.out)
  clear HO592 HO595 BK584 BK597 HI587 HB
  have HO592:=n0_
  have HO595:=n1_
  have BK584:=n2_
  have BK597:=n3_
  have HI587:=n4_
  have HB:=n5_
  clear n0_ n1_ n2_ n3_ n4_ n5_
  refine start_ (n:=8) (S:=fun w'=>w'.cell? ⟨gb597,0,none⟩ = some (.slice Ao12 t590.length co12)∧w'.cell? ⟨gb597,1,none⟩ = some (.slice Ao16 t593.length co16)) (ds:=[]) #[zf,zf,zf,zf,zf,zf,zf,zf] (by kernel_rfl) rfl rfl ⟨(zT BK597.out 0).trans rfl,(zT BK597.out 1).trans rfl⟩ (fun hHeld=>?_);refine with_tabW spec_DrawGluingOf.tab4 spec_DrawGluingOf.bits4 (fun HT_ HW_=>?_)
  generalize w17.drew = w18 at HO592 HO595 BK584 BK597 HI587 HB hHeld ⊢
  refine pure_ (i:=1) (N:=some 16) (v:=?_) (a':=?_) #[zf,zt,zf,zf,zf,zf,zf,zf] rfl rfl (any_of HT_.out (by kernel_rfl)) (fun _ _ _ h=>h) (Or.inl ⟨by rfl,?_⟩) ?_ ?_
  rotate_left
  ·intro w'
   go_simp
   with_reducible rfl
  rotate_left
  ·simp only [Act.put,zP_,i64_w]
   rfl
  refine pure_ (i:=2) (N:=some 17) (v:=?_) (a':=?_) #[zf,zt,zt,zf,zf,zf,zf,zf] rfl rfl (any_of HT_.out (by kernel_rfl)) (fun _ _ _ h=>h) (Or.inl ⟨by rfl,?_⟩) ?_ ?_
  rotate_left
  ·intro w'
   go_simp
   with_reducible rfl
  rotate_left
  ·simp only [Act.put,zP_,i64_w]
   rfl
  refine take_ (i:=0) (N:=some 15) (v:=?_) (a':=?_) #[zt,zt,zt,zf,zf,zf,zf,zf] rfl rfl (take_ofW HT_.out HW_.out (by kernel_rfl)) (fun _ _ _ h=>h) (Or.inl ⟨by rfl,?_⟩) hHeld ?_ ?_
  rotate_left
  ·rintro w' ⟨s0,s1⟩
   go_simp
   with_reducible rfl
  rotate_left
  ·simp only [Act.put,zP_,i64_w]
   rfl
  refine take_ (i:=3) (N:=some 18) (v:=?_) (a':=?_) #[zt,zt,zt,zt,zf,zf,zf,zf] rfl rfl (take_ofW HT_.out HW_.out (by kernel_rfl)) (fun _ _ _ h=>h) (Or.inl ⟨by rfl,?_⟩) hHeld ?_ ?_
  rotate_left
  ·rintro w' ⟨s0,s1⟩
   go_simp
   with_reducible rfl
  rotate_left
  ·simp only [Act.put,zP_,i64_w]
   rfl
  refine pure_ (i:=4) (N:=some 19) (v:=?_) (a':=?_) #[zt,zt,zt,zt,zt,zf,zf,zf] rfl rfl (any_of HT_.out (by kernel_rfl)) (fun _ _ _ h=>h) (Or.inl ⟨by rfl,?_⟩) ?_ ?_
  rotate_left
  ·intro w'
   go_simp
   with_reducible rfl
  rotate_left
  ·simp only [Act.put,zP_,i64_w]
   rfl
  refine one_ (i:=5) (N:=some 20) #[zt,zt,zt,zt,zt,zt,zf,zf] rfl rfl (one_of HT_.out (by kernel_rfl)) (by decide) (fun K hK=>?_)
  refine goes_ Try.func115 (by kernel_rfl) rfl #[.pointer (some ⟨g587,0,none⟩),.int .i64 (t590.length:Int)] (by rfl) rfl rfl (by (try simp only [zJ,zM,zN]);first|done|rfl|(simp only [zL,zK];rfl)) ?_
  with_reducible refine (spec_l91At.calls k g587 t585 t596 (t590.length:Int) t598 t599 w _ ?side1 ?side2 A6.out).mono ?_
  (case side1=>repeat (first|(with_reducible first|exact HI587.out|apply IsS84.alloc|apply IsS84.drewN|apply IsS84.drew|apply IsS84.set_1|refine IsS84.far ?_ NB587_584.out _|refine IsS84.far ?_ NB587_597.out _)|exact HI587.out))
  (case side2=>repeat (first|(with_reducible first|exact HB.out|apply zD|apply zB|apply zC|refine zF ?_ (IsS84.ge HI587.out)|refine zF ?_ GE584.out|refine zF ?_ GE597.out)|exact HB.out))
  rintro e w19 ⟨rfl,hi,hb,hk⟩
  refine ⟨_,rfl,?_⟩
  have n0_:=zA (KeepBut.blk hk (g':=gb584) (o:=.cells #[.slice none 0 0,.slice none 0 0] 27 (0,0)) (by (with_reducible repeat (first|refine zG ?_ _|refine zI ?_|refine zH ?_ _));exact BK584.out) NB584_587.out (by simp))
  have n1_:=zA (Kd.Q_mono (Kd.Q_keep (IsS84.apartQ (show IsS84 w _ g587 t585 t596 from by repeat (first|(with_reducible first|exact HI587.out|apply IsS84.alloc|apply IsS84.drewN|apply IsS84.drew|apply IsS84.set_1|refine IsS84.far ?_ NB587_584.out _|refine IsS84.far ?_ NB587_597.out _)|exact HI587.out)) (by (with_reducible repeat (first|apply Kd.Q_alloc|apply Kd.Q_drewN|apply Kd.Q_drew));exact HO592.out) (by decide)) hk (fun _ h=>h.2)) (fun _ h=>h.1))
  have n2_:=zA (zV (Kd.R_keep (IsS84.apart (show IsS84 w _ g587 t585 t596 from by repeat (first|(with_reducible first|exact HI587.out|apply IsS84.alloc|apply IsS84.drewN|apply IsS84.drew|apply IsS84.set_1|refine IsS84.far ?_ NB587_584.out _|refine IsS84.far ?_ NB587_597.out _)|exact HI587.out)) (by apply zR_;exact HO595.out) (by decide)) hk (fun _ h=>h.2)) (fun _ h=>h.1))
  have n3_:=zA (KeepBut.blk hk (g':=gb597) (o:=.cells #[.slice Ao12 t590.length co12,.slice Ao16 t593.length co16] 27 (0,0)) (by (with_reducible repeat (first|refine zG ?_ _|refine zI ?_|refine zH ?_ _));exact BK597.out) NB597_587.out (by simp))
  have n4_:=zA (hb)
  have n5_:=zA (hi)
  clear BK584 HO592 HO595 BK597 HB HI587
  have BK584:=n0_
  have HO592:=n1_
  have HO595:=n2_
  have BK597:=n3_
  have HB:=n4_
  have HI587:=n5_
  clear n0_ n1_ n2_ n3_ n4_ n5_
  (try clear hb);(try clear hb2);(try clear hk);(try clear hi)
  refine hK.out _ _ ⟨(zT BK597.out 0).trans rfl,(zT BK597.out 1).trans rfl⟩ (fun hHeld=>?_)
  clear hK K
  refine norm_ (a':=?_) ?_ ?_
  rotate_left
  ·show Act.put _ (some 20) _ = _
   simp only [Act.put,zP_,i64_w]
   rfl
  refine one_ (i:=6) (N:=none) #[zt,zt,zt,zt,zt,zt,zt,zf] rfl rfl (one_of HT_.out (by kernel_rfl)) (by decide) (fun K hK=>?_)
  have hs20:w19.cell? ⟨gb584,0,none⟩ = some (.slice none 0 0):=(zT BK584.out 0).trans rfl
  have hfs20:=zZ BK584.out 0
  have hns20_1:=NB597_584.out
  have hms20_1:=NB584_597.out
  have hs21:w19.cell? ⟨gb584,1,none⟩ = some (.slice none 0 0):=(zT BK584.out 1).trans rfl
  have hfs21:=zZ BK584.out 1
  have hns21_1:=NB597_584.out
  have hms21_1:=NB584_597.out
  refine skip_ (w1:=?_) (by rfl) rfl ?_ ?_
  rotate_left
  ·go_simp
   rfl
  refine hK.out _ _ ⟨((cell_far (p:=⟨gb584,_,none⟩) NB597_584.out _).trans (((cell_far (p:=⟨gb584,_,none⟩) NB597_584.out _).trans (hHeld.1)))),((cell_far (p:=⟨gb584,_,none⟩) NB597_584.out _).trans (((cell_far (p:=⟨gb584,_,none⟩) NB597_584.out _).trans (hHeld.2))))⟩ (fun hHeld=>?_)
  clear hK K
  refine pure_ (i:=7) (N:=some 3) (v:=?_) (a':=?_) #[zt,zt,zt,zt,zt,zt,zt,zt] rfl rfl (any_of HT_.out (by kernel_rfl)) (fun _ _ _ h=>h) (Or.inl ⟨by rfl,?_⟩) ?_ ?_
  rotate_left
  ·intro w'
   go_simp
   with_reducible rfl
  rotate_left
  ·simp only [Act.put,zP_,i64_w]
   rfl
  refine done_ (done_of HT_.out (by kernel_rfl)) ?_
  try go_wp2
  refine bodyPost_ret (results_ct rfl _ _ gb584 27 #[.slice Ao12 t590.length co12,.slice Ao16 t593.length co16] (0,0) _ rfl (by (with_reducible repeat (first|refine zG ?_ _|refine zI ?_|refine zH ?_ _));refine blk_put (cs:=#[.slice Ao12 t590.length co12,.slice none 0 0]) ?_ 1 _ rfl;(with_reducible repeat (first|refine zG ?_ _|refine zI ?_|refine zH ?_ _));refine blk_put (cs:=#[.slice none 0 0,.slice none 0 0]) ?_ 0 _ rfl;(with_reducible repeat (first|refine zG ?_ _|refine zI ?_|refine zH ?_ _));exact BK584.out) Try.underlying27 rfl (by kernel_rfl)) rfl ?_
  exact ⟨_,_,by first|rfl|(simp [errW_none,errW_some] <;> rfl)|(simp [*,errW_none,errW_some] <;> rfl),by (with_reducible repeat (first|apply Kd.Q_alloc|apply Kd.Q_drewN|apply Kd.Q_drew));exact Kd.Q_mono (Kd.Q_far (p:=⟨gb584,1,none⟩) (Kd.Q_far (p:=⟨gb584,0,none⟩) (Kd.Q_types HO592.out BK584.out (by decide)) (fun _ hk=>hk.2) (.slice Ao12 t590.length co12)) (fun _ hk=>hk.2) (.slice Ao16 t593.length co16)) (fun _ hk=>hk.1),by apply zR_;exact zV (Kd.R_far (p:=⟨gb584,1,none⟩) (Kd.R_far (p:=⟨gb584,0,none⟩) (Kd.R_types HO595.out BK584.out (by decide)) (fun _ hk=>hk.2) (.slice Ao12 t590.length co12)) (fun _ hk=>hk.2) (.slice Ao16 t593.length co16)) (fun _ hk=>hk.1),by repeat (first|(with_reducible first|exact HB.out|apply zD|apply zB|apply zC|refine zF ?_ (IsS84.ge HI587.out)|refine zF ?_ GE584.out|refine zF ?_ GE597.out)|exact HB.out)⟩
 ·rw [if_neg c4] at H
  have c4b0:(t588 == 0) = false:=beq_eq_false_iff_ne.mpr c4
  have c4b1:(t588 != 0) = true:=bne_iff_ne.mpr c4
  replace H:=zz0 H
  obtain ⟨⟨t600,t603⟩,A220,H⟩:=H
  try dsimp only at H
  have A22:=zA A220
  clear A220
  replace H:=zz0 H
  obtain ⟨⟨t604,t607,t610⟩,A230,H⟩:=H
  try dsimp only at H
  have A23:=zA A230
  clear A230
  by_cases c24:t610 = true
  ·subst c24
   rw [if_pos rfl] at H;try dsimp only at H
   replace H:=zz0 H
   obtain ⟨⟨t612,t615⟩,A250,H⟩:=H
   try dsimp only at H
   have A25:=zA A250
   clear A250
   replace H:=zz0 H
   obtain ⟨⟨t616,t619⟩,A260,H⟩:=H
   try dsimp only at H
   have A26:=zA A260
   clear A260
   replace H:=zz0 H
   obtain ⟨⟨t622,t623⟩,A270,H⟩:=H
   try dsimp only at H
   have A27:=zA A270
   clear A270
   simp only [Option.some.injEq,Prod.mk.injEq] at H
   obtain ⟨rfl,rfl,rfl⟩:=H
   go_enter Try.func59,Try.ntmps59
   try go_wp2_with (first|((with_reducible refine gate_dst (N:=2) rfl ?_);refine box_event ?hg (N:=2) ?hd (cs:=#[.slice none 0 0,.slice none 0 0]) (t:=27) ?hr ?_;(case hd=>rfl);(case hg=>rfl);(case hr=>first|(go_simp;done)|(go_simp;rfl));intro gb584 hg w28 hbox hb;have n0_:=zA (zR (by exact zB_ HB.out) hb);have n1_:=zA (hbox);have n2_:=zA ((by rw [hg];exact (zQ (by exact zB_ HB.out)):w.heap.size≤gb584));have n3_:=zA ((by rw [hg];exact (zQ (by exact zB_ HB.out)):w.heap.size≤gb584));clear HB;have HB:=n0_;have BK584:=n1_;have GW584:=n2_;have GE584:=n3_;clear n0_ n1_ n2_ n3_;clear hb hbox hg)|((with_reducible refine gate_callee (f:=78) rfl ?_);refine goesL_ (some 9) rfl rfl Try.func78 (by kernel_rfl) rfl #[.slice A0 l0.length c0] rfl (by (try simp only [zJ,zM,zN]);first|done|rfl|(simp only [zL,zK];rfl)) ?_;(with_reducible refine (spec_l6Open.calls _ _ l0 t585 t586 w _ ?side1 ?side2 ?side3 A2.out).mono ?_);(case side1=>repeat (first|(with_reducible first|exact HB.out|apply zD|apply zB|apply zC|refine zF ?_ GE584.out)|exact HB.out));(case side2=>exact HR0.out);(case side3=>exact HC0.out);rintro e w29 ⟨g587,rfl,hi,hb,hb2⟩;refine ⟨_,rfl,?_⟩;have n0_:=zA (zX (g:=gb584) (o:=.cells #[.slice none 0 0,.slice none 0 0] 27 (0,0)) (by (with_reducible repeat (first|refine zG ?_ _|refine zI ?_|refine zH ?_ _));exact BK584.out) hb2);have n1_:=zA (hb);have n2_:=zA (hi);have n3_:=zA (IsS84.ne_blk hi (zX (g:=gb584) (o:=.cells #[.slice none 0 0,.slice none 0 0] 27 (0,0)) (by (with_reducible repeat (first|refine zG ?_ _|refine zI ?_|refine zH ?_ _));exact BK584.out) hb2) (by decide));have n4_:=zA (Ne.symm (IsS84.ne_blk hi (zX (g:=gb584) (o:=.cells #[.slice none 0 0,.slice none 0 0] 27 (0,0)) (by (with_reducible repeat (first|refine zG ?_ _|refine zI ?_|refine zH ?_ _));exact BK584.out) hb2) (by decide)));clear BK584;clear HB;have BK584:=n0_;have HB:=n1_;have HI587:=n2_;have NB587_584:=n3_;have NB584_587:=n4_;clear n0_ n1_ n2_ n3_ n4_;(try clear hb);(try clear hb2);(try clear hk);(try clear hi))|((with_reducible refine gate_callee (f:=90) rfl ?_);refine goesL_ (some 11) rfl rfl Try.func90 (by kernel_rfl) rfl #[.pointer (some ⟨g587,0,none⟩),.int .i64 4] rfl (by (try simp only [zJ,zM,zN]);first|done|rfl|(simp only [zL,zK];rfl)) ?_;(with_reducible refine (spec_l6Rd_pick.calls k g587 t585 t586 4 t588 t589 w _ ?side1 ?side2 A3.out).mono ?_);(case side1=>repeat (first|(with_reducible first|exact HI587.out|apply IsS84.alloc|apply IsS84.drewN|apply IsS84.drew|apply IsS84.set_1|refine IsS84.far ?_ NB587_584.out _)|exact HI587.out));(case side2=>repeat (first|(with_reducible first|exact HB.out|apply zD|apply zB|apply zC|refine zF ?_ (IsS84.ge HI587.out)|refine zF ?_ GE584.out)|exact HB.out));rintro e w30 ⟨rfl,hi,hb,hk⟩;refine ⟨_,rfl,?_⟩;have n0_:=zA (KeepBut.blk hk (g':=gb584) (o:=.cells #[.slice none 0 0,.slice none 0 0] 27 (0,0)) (by (with_reducible repeat (first|refine zG ?_ _|refine zI ?_|refine zH ?_ _));exact BK584.out) NB584_587.out (by simp));have n1_:=zA (hb);have n2_:=zA (hi);clear BK584;clear HB;clear HI587;have BK584:=n0_;have HB:=n1_;have HI587:=n2_;clear n0_ n1_ n2_;(try clear hb);(try clear hb2);(try clear hk);(try clear hi))|((with_reducible refine gate_callee (f:=77) rfl ?_);refine goesL_ (some 23) rfl rfl Try.func77 (by kernel_rfl) rfl #[.pointer (some ⟨g587,0,none⟩),.int .i64 5] rfl (by (try simp only [zJ,zM,zN]);first|done|rfl|(simp only [zL,zK];rfl)) ?_;(with_reducible refine (spec_l91Gluing.calls k g587 t585 t589 5 t600 t603 w _ ?side1 ?side2 A22.out).mono ?_);(case side1=>repeat (first|(with_reducible first|exact HI587.out|apply IsS84.alloc|apply IsS84.drewN|apply IsS84.drew|apply IsS84.set_1|refine IsS84.far ?_ NB587_584.out _)|exact HI587.out));(case side2=>repeat (first|(with_reducible first|exact HB.out|apply zD|apply zB|apply zC|refine zF ?_ (IsS84.ge HI587.out)|refine zF ?_ GE584.out)|exact HB.out));rintro e w31 ⟨v601,rfl,ho0,hi,hb,hk⟩;refine ⟨_,rfl,?_⟩;have n0_:=zA (KeepBut.blk hk (g':=gb584) (o:=.cells #[.slice none 0 0,.slice none 0 0] 27 (0,0)) (by (with_reducible repeat (first|refine zG ?_ _|refine zI ?_|refine zH ?_ _));exact BK584.out) NB584_587.out (by simp));have n1_:=zA (ze ho0 (zQ (by repeat (first|(with_reducible first|exact HB.out|apply zD|apply zB|apply zC|refine zF ?_ (IsS84.ge HI587.out)|refine zF ?_ GE584.out)|exact HB.out))));have n2_:=zA (hb);have n3_:=zA (hi);clear BK584;clear HB;clear HI587;have BK584:=n0_;have HO602:=n1_;have HB:=n2_;have HI587:=n3_;clear n0_ n1_ n2_ n3_;(try clear hb);(try clear hb2);(try clear hk);(try clear hi);(try clear ho0);obtain ⟨Ao32,co32,eo32⟩:=zg HO602.out;subst eo32)|((with_reducible refine gate_callee (f:=22) rfl ?_);refine goesL_ (some 24) rfl rfl Try.func22 (by kernel_rfl) rfl #[.slice Ao32 t600.length co32] rfl (by (try simp only [zJ,zM,zN]);first|done|rfl|(simp only [zL,zK];rfl)) ?_;(with_reducible refine (spec_GluingMap.calls k _ _ t600 t604 t607 true _ ?side1 ?side2 A23.out).mono ?_);(case side1=>repeat (first|exact (zU HO602.out).2.2|apply zC_));(case side2=>exact (zU HO602.out).2.1);rintro e w33 ⟨v605,v608,rfl,ho0,ho1,hb⟩;refine ⟨_,rfl,?_⟩;have n0_:=zA (zV (Kd.R_told (Kd.R_told (Kd.R_old (by apply zR_;exact HO602.out) hb) (zd ho0)) (zd ho1)) (fun _ h_=>h_.1));have n1_:=zA (ze (zh ho0 (Kd.R_lt (by apply zR_;exact HO602.out))) (zQ (by repeat (first|(with_reducible first|exact HB.out|apply zD|apply zB|apply zC|refine zF ?_ (IsS84.ge HI587.out)|refine zF ?_ GE584.out)|exact HB.out))));have n2_:=zA (ze (zh ho1 (Kd.R_lt (by apply zR_;exact HO602.out))) (zQ (by repeat (first|(with_reducible first|exact HB.out|apply zD|apply zB|apply zC|refine zF ?_ (IsS84.ge HI587.out)|refine zF ?_ GE584.out)|exact HB.out))));have n3_:=zA (zX (g:=gb584) (o:=.cells #[.slice none 0 0,.slice none 0 0] 27 (0,0)) (by (with_reducible repeat (first|refine zG ?_ _|refine zI ?_|refine zH ?_ _));exact BK584.out) hb);have n4_:=zA (IsS84.below (by repeat (first|(with_reducible first|exact HI587.out|apply IsS84.alloc|apply IsS84.drewN|apply IsS84.drew|apply IsS84.set_1|refine IsS84.far ?_ NB587_584.out _)|exact HI587.out)) hb);have n5_:=zA (zR (by repeat (first|(with_reducible first|exact HB.out|apply zD|apply zB|apply zC|refine zF ?_ (IsS84.ge HI587.out)|refine zF ?_ GE584.out)|exact HB.out)) hb);clear HO602;clear BK584;clear HI587;clear HB;have HO602:=n0_;have HO606:=n1_;have HO609:=n2_;have BK584:=n3_;have HI587:=n4_;have HB:=n5_;clear n0_ n1_ n2_ n3_ n4_ n5_;(try clear hb);(try clear hb2);(try clear hk);(try clear hi);(try clear ho0);(try clear ho1))|((with_reducible refine gate_dst (N:=6) rfl ?_);refine box_event ?hg (N:=6) ?hd (cs:=#[.slice none 0 0,.slice none 0 0]) (t:=27) ?hr ?_;(case hd=>rfl);(case hg=>rfl);(case hr=>first|(go_simp;done)|(go_simp;rfl));intro gb611 hg w34 hbox hb;have n0_:=zA (Kd.R_below (by apply zR_;exact HO602.out) hb);have n1_:=zA (Kd.R_below (by apply zR_;exact HO606.out) hb);have n2_:=zA (Kd.R_below (by apply zR_;exact HO609.out) hb);have n3_:=zA (zX (g:=gb584) (o:=.cells #[.slice none 0 0,.slice none 0 0] 27 (0,0)) (by (with_reducible repeat (first|refine zG ?_ _|refine zI ?_|refine zH ?_ _));exact BK584.out) hb);have n4_:=zA (IsS84.below (by repeat (first|(with_reducible first|exact HI587.out|apply IsS84.alloc|apply IsS84.drewN|apply IsS84.drew|apply IsS84.set_1|refine IsS84.far ?_ NB587_584.out _)|exact HI587.out)) hb);have n5_:=zA (zR (by repeat (first|(with_reducible first|exact HB.out|apply zD|apply zB|apply zC|refine zF ?_ (IsS84.ge HI587.out)|refine zF ?_ GE584.out)|exact HB.out)) hb);have n6_:=zA (hbox);have n7_:=zA ((by rw [hg];exact (zQ (by repeat (first|(with_reducible first|exact HB.out|apply zD|apply zB|apply zC|refine zF ?_ (IsS84.ge HI587.out)|refine zF ?_ GE584.out)|exact HB.out))):w.heap.size≤gb611));have n8_:=zA ((by rw [hg];exact (zQ (by repeat (first|(with_reducible first|exact HB.out|apply zD|apply zB|apply zC|refine zF ?_ (IsS84.ge HI587.out)|refine zF ?_ GE584.out)|exact HB.out))):w.heap.size≤gb611));have n9_:=zA ((by rw [hg];exact Nat.ne_of_lt (blk_lt (g:=gb584) (o:=.cells #[.slice none 0 0,.slice none 0 0] 27 (0,0)) (by (with_reducible repeat (first|refine zG ?_ _|refine zI ?_|refine zH ?_ _));exact BK584.out)):gb584≠gb611));have n10_:=zA ((by rw [hg];exact Nat.ne_of_gt (blk_lt (g:=gb584) (o:=.cells #[.slice none 0 0,.slice none 0 0] 27 (0,0)) (by (with_reducible repeat (first|refine zG ?_ _|refine zI ?_|refine zH ?_ _));exact BK584.out)):gb611≠gb584));have n11_:=zA ((by rw [hg];exact Nat.ne_of_lt (IsS84.lt (show IsS84 w _ g587 t585 t603 from by repeat (first|(with_reducible first|exact HI587.out|apply IsS84.alloc|apply IsS84.drewN|apply IsS84.drew|apply IsS84.set_1|refine IsS84.far ?_ NB587_584.out _)|exact HI587.out))):g587≠gb611));have n12_:=zA ((by rw [hg];exact Nat.ne_of_gt (IsS84.lt (show IsS84 w _ g587 t585 t603 from by repeat (first|(with_reducible first|exact HI587.out|apply IsS84.alloc|apply IsS84.drewN|apply IsS84.drew|apply IsS84.set_1|refine IsS84.far ?_ NB587_584.out _)|exact HI587.out))):gb611≠g587));clear HO602;clear HO606;clear HO609;clear BK584;clear HI587;clear HB;have HO602:=n0_;have HO606:=n1_;have HO609:=n2_;have BK584:=n3_;have HI587:=n4_;have HB:=n5_;have BK611:=n6_;have GW611:=n7_;have GE611:=n8_;have NB584_611:=n9_;have NB611_584:=n10_;have NB587_611:=n11_;have NB611_587:=n12_;clear n0_ n1_ n2_ n3_ n4_ n5_ n6_ n7_ n8_ n9_ n10_ n11_ n12_;clear hb hbox hg;obtain ⟨Ao35,co35,eo35⟩:=zg HO606.out;subst eo35;have hnb36:=NB611_584.out;have hnc36:=NB584_611.out;have hnb37:=NB611_587.out;have hnc37:=NB587_611.out;have hcz38_0:w34.cell? ⟨gb611,0,none⟩ = some (.slice none 0 0):=(zT BK611.out 0).trans rfl;have hcz38_1:w34.cell? ⟨gb611,1,none⟩ = some (.slice none 0 0):=(zT BK611.out 1).trans rfl;have hfz38_0:=zZ BK611.out 0;have hfz38_1:=zZ BK611.out 1;obtain ⟨Ao39,co39,eo39⟩:=zg HO609.out;subst eo39))
   have n0_:Aside0 (Kd.R (Kd.int .i64) 3 ((w34.setCell ⟨gb611,0,none⟩ (.slice Ao35 t604.length co35)).setCell ⟨gb611,1,none⟩ (.slice Ao39 t607.length co39)) w.heap.size (fun k_=>some k_≠(.slice Ao35 t604.length co35:Value).ownBlock∧some k_≠(.slice Ao39 t607.length co39:Value).ownBlock) (.slice Ao32 t600.length co32) t600):=⟨by apply zR_;exact zV (Kd.R_far (p:=⟨gb611,1,none⟩) (Kd.R_far (p:=⟨gb611,0,none⟩) (Kd.R_types HO602.out BK611.out (by decide)) (fun _ hk=>hk.2) (.slice Ao35 t604.length co35)) (fun _ hk=>hk.2) (.slice Ao39 t607.length co39)) (fun _ hk=>⟨hk.1.1.2,hk.1.2⟩)⟩
   have n1_:Aside0 (Kd.R (Kd.int .i64) 3 ((w34.setCell ⟨gb611,0,none⟩ (.slice Ao35 t604.length co35)).setCell ⟨gb611,1,none⟩ (.slice Ao39 t607.length co39)) w.heap.size (fun k_=>some k_≠(.slice Ao32 t600.length co32:Value).ownBlock∧some k_≠(.slice Ao39 t607.length co39:Value).ownBlock) (.slice Ao35 t604.length co35) t604):=⟨by apply zR_;exact zV (Kd.R_far (p:=⟨gb611,1,none⟩) (Kd.R_far (p:=⟨gb611,0,none⟩) (Kd.R_types HO606.out BK611.out (by decide)) (fun _ hk=>hk.2) (.slice Ao35 t604.length co35)) (fun _ hk=>hk.2) (.slice Ao39 t607.length co39)) (fun _ hk=>⟨hk.1.2,hk.1.1⟩)⟩
   have n2_:Aside0 (Kd.R (Kd.int .i64) 3 ((w34.setCell ⟨gb611,0,none⟩ (.slice Ao35 t604.length co35)).setCell ⟨gb611,1,none⟩ (.slice Ao39 t607.length co39)) w.heap.size (fun k_=>some k_≠(.slice Ao32 t600.length co32:Value).ownBlock∧some k_≠(.slice Ao35 t604.length co35:Value).ownBlock) (.slice Ao39 t607.length co39) t607):=⟨by apply zR_;exact zV (Kd.R_far (p:=⟨gb611,1,none⟩) (Kd.R_far (p:=⟨gb611,0,none⟩) (Kd.R_types HO609.out BK611.out (by decide)) (fun _ hk=>hk.2) (.slice Ao35 t604.length co35)) (fun _ hk=>hk.2) (.slice Ao39 t607.length co39)) (fun _ hk=>⟨hk.1.2,hk.1.1⟩)⟩
   have n3_:Aside0 (((w34.setCell ⟨gb611,0,none⟩ (.slice Ao35 t604.length co35)).setCell ⟨gb611,1,none⟩ (.slice Ao39 t607.length co39)).heap[gb584]? = some (.cells #[.slice none 0 0,.slice none 0 0] 27 (0,0))):=⟨by (with_reducible repeat (first|refine zG ?_ _|refine zI ?_|refine zH ?_ _));refine blk_far ?_ NB584_611.out _;(with_reducible repeat (first|refine zG ?_ _|refine zI ?_|refine zH ?_ _));refine blk_far ?_ NB584_611.out _;(with_reducible repeat (first|refine zG ?_ _|refine zI ?_|refine zH ?_ _));exact BK584.out⟩
   have n4_:Aside0 (((w34.setCell ⟨gb611,0,none⟩ (.slice Ao35 t604.length co35)).setCell ⟨gb611,1,none⟩ (.slice Ao39 t607.length co39)).heap[gb611]? = some (.cells #[.slice Ao35 t604.length co35,.slice Ao39 t607.length co39] 27 (0,0))):=⟨by (with_reducible repeat (first|refine zG ?_ _|refine zI ?_|refine zH ?_ _));refine blk_put (cs:=#[.slice Ao35 t604.length co35,.slice none 0 0]) ?_ 1 _ rfl;(with_reducible repeat (first|refine zG ?_ _|refine zI ?_|refine zH ?_ _));refine blk_put (cs:=#[.slice none 0 0,.slice none 0 0]) ?_ 0 _ rfl;(with_reducible repeat (first|refine zG ?_ _|refine zI ?_|refine zH ?_ _));exact BK611.out⟩
   have n5_:Aside0 (IsS84 w ((w34.setCell ⟨gb611,0,none⟩ (.slice Ao35 t604.length co35)).setCell ⟨gb611,1,none⟩ (.slice Ao39 t607.length co39)) g587 t585 t603):=⟨by repeat (first|(with_reducible first|exact HI587.out|apply IsS84.alloc|apply IsS84.drewN|apply IsS84.drew|apply IsS84.set_1|refine IsS84.far ?_ NB587_584.out _|refine IsS84.far ?_ NB587_611.out _)|exact HI587.out)⟩
   have n6_:Aside0 (Below w.heap.size w ((w34.setCell ⟨gb611,0,none⟩ (.slice Ao35 t604.length co35)).setCell ⟨gb611,1,none⟩ (.slice Ao39 t607.length co39))):=⟨by repeat (first|(with_reducible first|exact HB.out|apply zD|apply zB|apply zC|refine zF ?_ (IsS84.ge HI587.out)|refine zF ?_ GE584.out|refine zF ?_ GE611.out)|exact HB.out)⟩
   (try clear HO602);(try clear HO606);(try clear HO609);(try clear BK584);(try clear BK611);(try clear HI587);(try clear HB)
   generalize ((w34.setCell ⟨gb611,0,none⟩ (.slice Ao35 t604.length co35)).setCell ⟨gb611,1,none⟩ (.slice Ao39 t607.length co39)) = w40 at n0_ n1_ n2_ n3_ n4_ n5_ n6_ ⊢
   have HO602:=n0_
   have HO606:=n1_
   have HO609:=n2_
   have BK584:=n3_
   have BK611:=n4_
   have HI587:=n5_
   have HB:=n6_
   clear n0_ n1_ n2_ n3_ n4_ n5_ n6_
   have n0_:=zA (Kd.R_drew HO602.out)
   have n1_:=zA (Kd.R_drew HO606.out)
   have n2_:=zA (Kd.R_drew HO609.out)
   have n3_:=zA (zI BK584.out)
   have n4_:=zA (zI BK611.out)
   have n5_:=zA (IsS84.drew HI587.out)
   have n6_:=zA (zC HB.out)
   clear HO602 HO606 HO609 BK584 BK611 HI587 HB
   have HO602:=n0_
   have HO606:=n1_
   have HO609:=n2_
   have BK584:=n3_
   have BK611:=n4_
   have HI587:=n5_
   have HB:=n6_
   clear n0_ n1_ n2_ n3_ n4_ n5_ n6_
   refine start_ (n:=8) (S:=fun w'=>w'.cell? ⟨gb611,0,none⟩ = some (.slice Ao35 t604.length co35)∧w'.cell? ⟨gb611,1,none⟩ = some (.slice Ao39 t607.length co39)) (ds:=[7]) #[zf,zf,zf,zf,zf,zf,zf,zf] (by kernel_rfl) rfl rfl ⟨(zT BK611.out 0).trans rfl,(zT BK611.out 1).trans rfl⟩ (fun hHeld=>?_);refine with_tabW spec_DrawGluingOf.tab8 spec_DrawGluingOf.bits8 (fun HT_ HW_=>?_)
   generalize w40.drew = w41 at HO602 HO606 HO609 BK584 BK611 HI587 HB hHeld ⊢
   refine pure_ (i:=1) (N:=some 31) (v:=?_) (a':=?_) #[zf,zt,zf,zf,zf,zf,zf,zf] rfl rfl (any_of HT_.out (by kernel_rfl)) (fun _ _ _ h=>h) (Or.inl ⟨by rfl,?_⟩) ?_ ?_
   rotate_left
   ·intro w'
    go_simp
    with_reducible rfl
   rotate_left
   ·simp only [Act.put,zP_,i64_w]
    rfl
   refine pure_ (i:=2) (N:=some 32) (v:=?_) (a':=?_) #[zf,zt,zt,zf,zf,zf,zf,zf] rfl rfl (any_of HT_.out (by kernel_rfl)) (fun _ _ _ h=>h) (Or.inl ⟨by rfl,?_⟩) ?_ ?_
   rotate_left
   ·intro w'
    go_simp
    with_reducible rfl
   rotate_left
   ·simp only [Act.put,zP_,i64_w]
    rfl
   refine take_ (i:=0) (N:=some 30) (v:=?_) (a':=?_) #[zt,zt,zt,zf,zf,zf,zf,zf] rfl rfl (take_ofW HT_.out HW_.out (by kernel_rfl)) (fun _ _ _ h=>h) (Or.inl ⟨by rfl,?_⟩) hHeld ?_ ?_
   rotate_left
   ·rintro w' ⟨s0,s1⟩
    go_simp
    with_reducible rfl
   rotate_left
   ·simp only [Act.put,zP_,i64_w]
    rfl
   refine take_ (i:=3) (N:=some 33) (v:=?_) (a':=?_) #[zt,zt,zt,zt,zf,zf,zf,zf] rfl rfl (take_ofW HT_.out HW_.out (by kernel_rfl)) (fun _ _ _ h=>h) (Or.inl ⟨by rfl,?_⟩) hHeld ?_ ?_
   rotate_left
   ·rintro w' ⟨s0,s1⟩
    go_simp
    with_reducible rfl
   rotate_left
   ·simp only [Act.put,zP_,i64_w]
    rfl
   refine pure_ (i:=4) (N:=some 34) (v:=?_) (a':=?_) #[zt,zt,zt,zt,zt,zf,zf,zf] rfl rfl (any_of HT_.out (by kernel_rfl)) (fun _ _ _ h=>h) (Or.inl ⟨by rfl,?_⟩) ?_ ?_
   rotate_left
   ·intro w'
    go_simp
    with_reducible rfl
   rotate_left
   ·simp only [Act.put,zP_,i64_w]
    rfl
   refine one_ (i:=5) (N:=some 35) #[zt,zt,zt,zt,zt,zt,zf,zf] rfl rfl (one_of HT_.out (by kernel_rfl)) (by decide) (fun K hK=>?_)
   refine goes_ Try.func91 (by kernel_rfl) rfl #[.pointer (some ⟨g587,0,none⟩),.int .i64 (t604.length:Int)] (by rfl) rfl rfl (by (try simp only [zJ,zM,zN]);first|done|rfl|(simp only [zL,zK];rfl)) ?_
   with_reducible refine (spec_l91Perm.calls k g587 t585 t603 (t604.length:Int) t612 t615 w _ ?side1 ?side2 A25.out).mono ?_
   (case side1=>repeat (first|(with_reducible first|exact HI587.out|apply IsS84.alloc|apply IsS84.drewN|apply IsS84.drew|apply IsS84.set_1|refine IsS84.far ?_ NB587_584.out _|refine IsS84.far ?_ NB587_611.out _)|exact HI587.out))
   (case side2=>repeat (first|(with_reducible first|exact HB.out|apply zD|apply zB|apply zC|refine zF ?_ (IsS84.ge HI587.out)|refine zF ?_ GE584.out|refine zF ?_ GE611.out)|exact HB.out))
   rintro e w42 ⟨v613,rfl,ho0,hi,hb,hk⟩
   refine ⟨_,rfl,?_⟩
   have n0_:=zA (KeepBut.blk hk (g':=gb584) (o:=.cells #[.slice none 0 0,.slice none 0 0] 27 (0,0)) (by (with_reducible repeat (first|refine zG ?_ _|refine zI ?_|refine zH ?_ _));exact BK584.out) NB584_587.out (by simp))
   have n1_:=zA (zV (Kd.R_told (Kd.R_oldK (IsS84.apart (show IsS84 w _ g587 t585 t603 from by repeat (first|(with_reducible first|exact HI587.out|apply IsS84.alloc|apply IsS84.drewN|apply IsS84.drew|apply IsS84.set_1|refine IsS84.far ?_ NB587_584.out _|refine IsS84.far ?_ NB587_611.out _)|exact HI587.out)) (by apply zR_;exact HO602.out) (by decide)) hk) (zd ho0)) (fun _ h_=>h_.1))
   have n2_:=zA (zV (Kd.R_told (Kd.R_oldK (IsS84.apart (show IsS84 w _ g587 t585 t603 from by repeat (first|(with_reducible first|exact HI587.out|apply IsS84.alloc|apply IsS84.drewN|apply IsS84.drew|apply IsS84.set_1|refine IsS84.far ?_ NB587_584.out _|refine IsS84.far ?_ NB587_611.out _)|exact HI587.out)) (by apply zR_;exact HO606.out) (by decide)) hk) (zd ho0)) (fun _ h_=>h_.1))
   have n3_:=zA (zV (Kd.R_told (Kd.R_oldK (IsS84.apart (show IsS84 w _ g587 t585 t603 from by repeat (first|(with_reducible first|exact HI587.out|apply IsS84.alloc|apply IsS84.drewN|apply IsS84.drew|apply IsS84.set_1|refine IsS84.far ?_ NB587_584.out _|refine IsS84.far ?_ NB587_611.out _)|exact HI587.out)) (by apply zR_;exact HO609.out) (by decide)) hk) (zd ho0)) (fun _ h_=>h_.1))
   have n4_:=zA (KeepBut.blk hk (g':=gb611) (o:=.cells #[.slice Ao35 t604.length co35,.slice Ao39 t607.length co39] 27 (0,0)) (by (with_reducible repeat (first|refine zG ?_ _|refine zI ?_|refine zH ?_ _));exact BK611.out) NB611_587.out (by simp))
   have n5_:=zA (ze (zh (zh (zh ho0 (Kd.R_lt (by apply zR_;exact HO602.out))) (Kd.R_lt (by apply zR_;exact HO606.out))) (Kd.R_lt (by apply zR_;exact HO609.out))) (zQ (by repeat (first|(with_reducible first|exact HB.out|apply zD|apply zB|apply zC|refine zF ?_ (IsS84.ge HI587.out)|refine zF ?_ GE584.out|refine zF ?_ GE611.out)|exact HB.out))))
   have n6_:=zA (hb)
   have n7_:=zA (hi)
   clear BK584 HO602 HO606 HO609 BK611 HB HI587
   have BK584:=n0_
   have HO602:=n1_
   have HO606:=n2_
   have HO609:=n3_
   have BK611:=n4_
   have HO614:=n5_
   have HB:=n6_
   have HI587:=n7_
   clear n0_ n1_ n2_ n3_ n4_ n5_ n6_ n7_
   (try clear hb);(try clear hb2);(try clear hk);(try clear hi);(try clear ho0)
   obtain ⟨Ao43,co43,eo43⟩:=zg HO614.out
   (first|subst eo43|(injection eo43 with f1_ f2_ f3_;have f4_:=f1_.symm;have f5_:=f3_.symm;clear f1_ f2_ f3_;subst f4_;subst f5_))
   refine hK.out _ _ ⟨(zT BK611.out 0).trans rfl,(zT BK611.out 1).trans rfl⟩ (fun hHeld=>?_)
   clear hK K
   refine norm_ (a':=?_) ?_ ?_
   rotate_left
   ·show Act.put _ (some 35) _ = _
    simp only [Act.put,zP_,i64_w]
    rfl
   refine one_ (i:=6) (N:=some 36) #[zt,zt,zt,zt,zt,zt,zt,zf] rfl rfl (one_of HT_.out (by kernel_rfl)) (by decide) (fun K hK=>?_)
   refine goes_ Try.func116 (by kernel_rfl) rfl #[.agg #[.slice Ao35 t604.length co35,.slice Ao39 t607.length co39],.slice Ao43 t612.length co43] (by rfl) rfl rfl (by (try simp only [zJ,zM,zN]);first|done|rfl|(simp only [zL,zK];rfl)) ?_
   with_reducible refine (spec_l2Rename.calls k _ _ t604 _ _ t607 _ _ t612 t616 t619 _ ?side1 ?side2 ?side3 ?side4 ?side5 ?side6 A26.out).mono ?_
   (case side1=>repeat (first|exact (zU HO606.out).2.2|apply zC_))
   (case side2=>exact (zU HO606.out).2.1)
   (case side3=>repeat (first|exact (zU HO609.out).2.2|apply zC_))
   (case side4=>exact (zU HO609.out).2.1)
   (case side5=>repeat (first|exact (zU HO614.out).2.2|apply zC_))
   (case side6=>exact (zU HO614.out).2.1)
   rintro e w44 ⟨v617,v620,rfl,ho0,ho1,hb⟩
   refine ⟨_,rfl,?_⟩
   have n0_:=zA (zV (Kd.R_told (Kd.R_told (Kd.R_old (by apply zR_;exact HO602.out) hb) (zd ho0)) (zd ho1)) (fun _ h_=>h_.1))
   have n1_:=zA (zV (Kd.R_told (Kd.R_told (Kd.R_old (by apply zR_;exact HO606.out) hb) (zd ho0)) (zd ho1)) (fun _ h_=>h_.1))
   have n2_:=zA (zV (Kd.R_told (Kd.R_told (Kd.R_old (by apply zR_;exact HO609.out) hb) (zd ho0)) (zd ho1)) (fun _ h_=>h_.1))
   have n3_:=zA (zV (Kd.R_told (Kd.R_told (Kd.R_old (by apply zR_;exact HO614.out) hb) (zd ho0)) (zd ho1)) (fun _ h_=>h_.1))
   have n4_:=zA (ze (zh (zh (zh (zh ho0 (Kd.R_lt (by apply zR_;exact HO602.out))) (Kd.R_lt (by apply zR_;exact HO606.out))) (Kd.R_lt (by apply zR_;exact HO609.out))) (Kd.R_lt (by apply zR_;exact HO614.out))) (zQ (by repeat (first|(with_reducible first|exact HB.out|apply zD|apply zB|apply zC|refine zF ?_ (IsS84.ge HI587.out)|refine zF ?_ GE584.out|refine zF ?_ GE611.out)|exact HB.out))))
   have n5_:=zA (ze (zh (zh (zh (zh ho1 (Kd.R_lt (by apply zR_;exact HO602.out))) (Kd.R_lt (by apply zR_;exact HO606.out))) (Kd.R_lt (by apply zR_;exact HO609.out))) (Kd.R_lt (by apply zR_;exact HO614.out))) (zQ (by repeat (first|(with_reducible first|exact HB.out|apply zD|apply zB|apply zC|refine zF ?_ (IsS84.ge HI587.out)|refine zF ?_ GE584.out|refine zF ?_ GE611.out)|exact HB.out))))
   have n6_:=zA (zX (g:=gb584) (o:=.cells #[.slice none 0 0,.slice none 0 0] 27 (0,0)) (by (with_reducible repeat (first|refine zG ?_ _|refine zI ?_|refine zH ?_ _));exact BK584.out) hb)
   have n7_:=zA (IsS84.below (by repeat (first|(with_reducible first|exact HI587.out|apply IsS84.alloc|apply IsS84.drewN|apply IsS84.drew|apply IsS84.set_1|refine IsS84.far ?_ NB587_584.out _|refine IsS84.far ?_ NB587_611.out _)|exact HI587.out)) hb)
   have n8_:=zA (zX (g:=gb611) (o:=.cells #[.slice Ao35 t604.length co35,.slice Ao39 t607.length co39] 27 (0,0)) (by (with_reducible repeat (first|refine zG ?_ _|refine zI ?_|refine zH ?_ _));exact BK611.out) hb)
   have n9_:=zA (zR (by repeat (first|(with_reducible first|exact HB.out|apply zD|apply zB|apply zC|refine zF ?_ (IsS84.ge HI587.out)|refine zF ?_ GE584.out|refine zF ?_ GE611.out)|exact HB.out)) hb)
   clear HO602 HO606 HO609 HO614 BK584 HI587 BK611 HB
   have HO602:=n0_
   have HO606:=n1_
   have HO609:=n2_
   have HO614:=n3_
   have HO618:=n4_
   have HO621:=n5_
   have BK584:=n6_
   have HI587:=n7_
   have BK611:=n8_
   have HB:=n9_
   clear n0_ n1_ n2_ n3_ n4_ n5_ n6_ n7_ n8_ n9_
   (try clear hb);(try clear hb2);(try clear hk);(try clear hi);(try clear ho0);(try clear ho1)
   obtain ⟨Ao45,co45,eo45⟩:=zg HO618.out
   (first|subst eo45|(injection eo45 with f1_ f2_ f3_;have f4_:=f1_.symm;have f5_:=f3_.symm;clear f1_ f2_ f3_;subst f4_;subst f5_))
   obtain ⟨Ao47,co47,eo47⟩:=zg HO621.out
   (first|subst eo47|(injection eo47 with f1_ f2_ f3_;have f4_:=f1_.symm;have f5_:=f3_.symm;clear f1_ f2_ f3_;subst f4_;subst f5_))
   refine hK.out _ _ ⟨(zT BK611.out 0).trans rfl,(zT BK611.out 1).trans rfl⟩ (fun hHeld=>?_)
   clear hK K
   refine norm_ (a':=?_) ?_ ?_
   rotate_left
   ·show Act.put _ (some 36) _ = _
    simp only [Act.put,zP_,i64_w]
    rfl
   refine last_ (i:=7) (N:=none) #[zt,zt,zt,zt,zt,zt,zt,zt] rfl rfl (one_of HT_.out (by kernel_rfl)) (by decide) (fun K hK=>?_)
   have hs46:w44.cell? ⟨gb611,0,none⟩ = some (.slice Ao35 t604.length co35):=(zT BK611.out 0).trans rfl
   have hfs46:=zZ BK611.out 0
   have hns46_0:=NB584_611.out
   have hms46_0:=NB611_584.out
   have hs48:w44.cell? ⟨gb611,1,none⟩ = some (.slice Ao39 t607.length co39):=(zT BK611.out 1).trans rfl
   have hfs48:=zZ BK611.out 1
   have hns48_0:=NB584_611.out
   have hms48_0:=NB611_584.out
   refine skip_ (w1:=?_) (by rfl) rfl ?_ ?_
   rotate_left
   ·go_simp
    rfl
   refine hK.out _ _ ?_
   clear hK K
   refine done_ (done_of HT_.out (by kernel_rfl)) ?_
   try go_wp2
   have n0_:Aside0 (Kd.R (Kd.int .i64) 3 ((w44.setCell ⟨gb611,0,none⟩ (.slice Ao45 t616.length co45)).setCell ⟨gb611,1,none⟩ (.slice Ao47 t619.length co47)) w.heap.size (fun k_=>some k_≠(.slice Ao35 t604.length co35:Value).ownBlock∧some k_≠(.slice Ao39 t607.length co39:Value).ownBlock∧some k_≠(.slice Ao43 t612.length co43:Value).ownBlock∧some k_≠(.slice Ao45 t616.length co45:Value).ownBlock∧some k_≠(.slice Ao47 t619.length co47:Value).ownBlock) (.slice Ao32 t600.length co32) t600):=⟨by apply zR_;exact zV (Kd.R_far (p:=⟨gb611,1,none⟩) (Kd.R_far (p:=⟨gb611,0,none⟩) (Kd.R_types HO602.out BK611.out (by decide)) (fun _ hk=>hk.2) (.slice Ao45 t616.length co45)) (fun _ hk=>hk.2) (.slice Ao47 t619.length co47)) (fun _ hk=>⟨hk.1.1.1.1.1,⟨hk.1.1.1.1.2,⟨hk.1.1.1.2,⟨hk.1.1.2,hk.1.2⟩⟩⟩⟩)⟩
   have n1_:Aside0 (Kd.R (Kd.int .i64) 3 ((w44.setCell ⟨gb611,0,none⟩ (.slice Ao45 t616.length co45)).setCell ⟨gb611,1,none⟩ (.slice Ao47 t619.length co47)) w.heap.size (fun k_=>some k_≠(.slice Ao32 t600.length co32:Value).ownBlock∧some k_≠(.slice Ao39 t607.length co39:Value).ownBlock∧some k_≠(.slice Ao43 t612.length co43:Value).ownBlock∧some k_≠(.slice Ao45 t616.length co45:Value).ownBlock∧some k_≠(.slice Ao47 t619.length co47:Value).ownBlock) (.slice Ao35 t604.length co35) t604):=⟨by apply zR_;exact zV (Kd.R_far (p:=⟨gb611,1,none⟩) (Kd.R_far (p:=⟨gb611,0,none⟩) (Kd.R_types HO606.out BK611.out (by decide)) (fun _ hk=>hk.2) (.slice Ao45 t616.length co45)) (fun _ hk=>hk.2) (.slice Ao47 t619.length co47)) (fun _ hk=>⟨hk.1.1.1.1.1,⟨hk.1.1.1.1.2,⟨hk.1.1.1.2,⟨hk.1.1.2,hk.1.2⟩⟩⟩⟩)⟩
   have n2_:Aside0 (Kd.R (Kd.int .i64) 3 ((w44.setCell ⟨gb611,0,none⟩ (.slice Ao45 t616.length co45)).setCell ⟨gb611,1,none⟩ (.slice Ao47 t619.length co47)) w.heap.size (fun k_=>some k_≠(.slice Ao32 t600.length co32:Value).ownBlock∧some k_≠(.slice Ao35 t604.length co35:Value).ownBlock∧some k_≠(.slice Ao43 t612.length co43:Value).ownBlock∧some k_≠(.slice Ao45 t616.length co45:Value).ownBlock∧some k_≠(.slice Ao47 t619.length co47:Value).ownBlock) (.slice Ao39 t607.length co39) t607):=⟨by apply zR_;exact zV (Kd.R_far (p:=⟨gb611,1,none⟩) (Kd.R_far (p:=⟨gb611,0,none⟩) (Kd.R_types HO609.out BK611.out (by decide)) (fun _ hk=>hk.2) (.slice Ao45 t616.length co45)) (fun _ hk=>hk.2) (.slice Ao47 t619.length co47)) (fun _ hk=>⟨hk.1.1.1.1.1,⟨hk.1.1.1.1.2,⟨hk.1.1.1.2,⟨hk.1.1.2,hk.1.2⟩⟩⟩⟩)⟩
   have n3_:Aside0 (Kd.R (Kd.int .i64) 3 ((w44.setCell ⟨gb611,0,none⟩ (.slice Ao45 t616.length co45)).setCell ⟨gb611,1,none⟩ (.slice Ao47 t619.length co47)) w.heap.size (fun k_=>some k_≠(.slice Ao32 t600.length co32:Value).ownBlock∧some k_≠(.slice Ao35 t604.length co35:Value).ownBlock∧some k_≠(.slice Ao39 t607.length co39:Value).ownBlock∧some k_≠(.slice Ao45 t616.length co45:Value).ownBlock∧some k_≠(.slice Ao47 t619.length co47:Value).ownBlock) (.slice Ao43 t612.length co43) t612):=⟨by apply zR_;exact zV (Kd.R_far (p:=⟨gb611,1,none⟩) (Kd.R_far (p:=⟨gb611,0,none⟩) (Kd.R_types HO614.out BK611.out (by decide)) (fun _ hk=>hk.2) (.slice Ao45 t616.length co45)) (fun _ hk=>hk.2) (.slice Ao47 t619.length co47)) (fun _ hk=>⟨hk.1.1.1.1.1.2,⟨hk.1.1.1.1.2,⟨hk.1.1.1.2,⟨hk.1.1.2,hk.1.2⟩⟩⟩⟩)⟩
   have n4_:Aside0 (Kd.R (Kd.int .i64) 3 ((w44.setCell ⟨gb611,0,none⟩ (.slice Ao45 t616.length co45)).setCell ⟨gb611,1,none⟩ (.slice Ao47 t619.length co47)) w.heap.size (fun k_=>some k_≠(.slice Ao32 t600.length co32:Value).ownBlock∧some k_≠(.slice Ao35 t604.length co35:Value).ownBlock∧some k_≠(.slice Ao39 t607.length co39:Value).ownBlock∧some k_≠(.slice Ao43 t612.length co43:Value).ownBlock∧some k_≠(.slice Ao47 t619.length co47:Value).ownBlock) (.slice Ao45 t616.length co45) t616):=⟨by apply zR_;exact zV (Kd.R_far (p:=⟨gb611,1,none⟩) (Kd.R_far (p:=⟨gb611,0,none⟩) (Kd.R_types HO618.out BK611.out (by decide)) (fun _ hk=>hk.2) (.slice Ao45 t616.length co45)) (fun _ hk=>hk.2) (.slice Ao47 t619.length co47)) (fun _ hk=>⟨hk.1.1.1.1.2,⟨hk.1.1.1.2,⟨hk.1.1.2,⟨hk.1.2,hk.1.1.1.1.1⟩⟩⟩⟩)⟩
   have n5_:Aside0 (Kd.R (Kd.int .i64) 3 ((w44.setCell ⟨gb611,0,none⟩ (.slice Ao45 t616.length co45)).setCell ⟨gb611,1,none⟩ (.slice Ao47 t619.length co47)) w.heap.size (fun k_=>some k_≠(.slice Ao32 t600.length co32:Value).ownBlock∧some k_≠(.slice Ao35 t604.length co35:Value).ownBlock∧some k_≠(.slice Ao39 t607.length co39:Value).ownBlock∧some k_≠(.slice Ao43 t612.length co43:Value).ownBlock∧some k_≠(.slice Ao45 t616.length co45:Value).ownBlock) (.slice Ao47 t619.length co47) t619):=⟨by apply zR_;exact zV (Kd.R_far (p:=⟨gb611,1,none⟩) (Kd.R_far (p:=⟨gb611,0,none⟩) (Kd.R_types HO621.out BK611.out (by decide)) (fun _ hk=>hk.2) (.slice Ao45 t616.length co45)) (fun _ hk=>hk.2) (.slice Ao47 t619.length co47)) (fun _ hk=>⟨hk.1.1.1.1.2,⟨hk.1.1.1.2,⟨hk.1.1.2,⟨hk.1.2,hk.1.1.1.1.1⟩⟩⟩⟩)⟩
   have n6_:Aside0 (((w44.setCell ⟨gb611,0,none⟩ (.slice Ao45 t616.length co45)).setCell ⟨gb611,1,none⟩ (.slice Ao47 t619.length co47)).heap[gb584]? = some (.cells #[.slice none 0 0,.slice none 0 0] 27 (0,0))):=⟨by (with_reducible repeat (first|refine zG ?_ _|refine zI ?_|refine zH ?_ _));refine blk_far ?_ NB584_611.out _;(with_reducible repeat (first|refine zG ?_ _|refine zI ?_|refine zH ?_ _));refine blk_far ?_ NB584_611.out _;(with_reducible repeat (first|refine zG ?_ _|refine zI ?_|refine zH ?_ _));exact BK584.out⟩
   have n7_:Aside0 (((w44.setCell ⟨gb611,0,none⟩ (.slice Ao45 t616.length co45)).setCell ⟨gb611,1,none⟩ (.slice Ao47 t619.length co47)).heap[gb611]? = some (.cells #[.slice Ao45 t616.length co45,.slice Ao47 t619.length co47] 27 (0,0))):=⟨by (with_reducible repeat (first|refine zG ?_ _|refine zI ?_|refine zH ?_ _));refine blk_put (cs:=#[.slice Ao45 t616.length co45,.slice Ao39 t607.length co39]) ?_ 1 _ rfl;(with_reducible repeat (first|refine zG ?_ _|refine zI ?_|refine zH ?_ _));refine blk_put (cs:=#[.slice Ao35 t604.length co35,.slice Ao39 t607.length co39]) ?_ 0 _ rfl;(with_reducible repeat (first|refine zG ?_ _|refine zI ?_|refine zH ?_ _));exact BK611.out⟩
   have n8_:Aside0 (IsS84 w ((w44.setCell ⟨gb611,0,none⟩ (.slice Ao45 t616.length co45)).setCell ⟨gb611,1,none⟩ (.slice Ao47 t619.length co47)) g587 t585 t615):=⟨by repeat (first|(with_reducible first|exact HI587.out|apply IsS84.alloc|apply IsS84.drewN|apply IsS84.drew|apply IsS84.set_1|refine IsS84.far ?_ NB587_584.out _|refine IsS84.far ?_ NB587_611.out _)|exact HI587.out)⟩
   have n9_:Aside0 (Below w.heap.size w ((w44.setCell ⟨gb611,0,none⟩ (.slice Ao45 t616.length co45)).setCell ⟨gb611,1,none⟩ (.slice Ao47 t619.length co47))):=⟨by repeat (first|(with_reducible first|exact HB.out|apply zD|apply zB|apply zC|refine zF ?_ (IsS84.ge HI587.out)|refine zF ?_ GE584.out|refine zF ?_ GE611.out)|exact HB.out)⟩
   (try clear HO602);(try clear HO606);(try clear HO609);(try clear HO614);(try clear HO618);(try clear HO621);(try clear BK584);(try clear BK611);(try clear HI587);(try clear HB)
   generalize ((w44.setCell ⟨gb611,0,none⟩ (.slice Ao45 t616.length co45)).setCell ⟨gb611,1,none⟩ (.slice Ao47 t619.length co47)) = w49 at n0_ n1_ n2_ n3_ n4_ n5_ n6_ n7_ n8_ n9_ ⊢
   have HO602:=n0_
   have HO606:=n1_
   have HO609:=n2_
   have HO614:=n3_
   have HO618:=n4_
   have HO621:=n5_
   have BK584:=n6_
   have BK611:=n7_
   have HI587:=n8_
   have HB:=n9_
   clear n0_ n1_ n2_ n3_ n4_ n5_ n6_ n7_ n8_ n9_
   have n0_:=zA (Kd.R_drew HO602.out)
   have n1_:=zA (Kd.R_drew HO606.out)
   have n2_:=zA (Kd.R_drew HO609.out)
   have n3_:=zA (Kd.R_drew HO614.out)
   have n4_:=zA (Kd.R_drew HO618.out)
   have n5_:=zA (Kd.R_drew HO621.out)
   have n6_:=zA (zI BK584.out)
   have n7_:=zA (zI BK611.out)
   have n8_:=zA (IsS84.drew HI587.out)
   have n9_:=zA (zC HB.out)
   clear HO602 HO606 HO609 HO614 HO618 HO621 BK584 BK611 HI587 HB
   have HO602:=n0_
   have HO606:=n1_
   have HO609:=n2_
   have HO614:=n3_
   have HO618:=n4_
   have HO621:=n5_
   have BK584:=n6_
   have BK611:=n7_
   have HI587:=n8_
   have HB:=n9_
   clear n0_ n1_ n2_ n3_ n4_ n5_ n6_ n7_ n8_ n9_
   refine start_ (n:=8) (S:=fun w'=>w'.cell? ⟨gb611,0,none⟩ = some (.slice Ao45 t616.length co45)∧w'.cell? ⟨gb611,1,none⟩ = some (.slice Ao47 t619.length co47)) (ds:=[]) #[zf,zf,zf,zf,zf,zf,zf,zf] (by kernel_rfl) rfl rfl ⟨(zT BK611.out 0).trans rfl,(zT BK611.out 1).trans rfl⟩ (fun hHeld=>?_);refine with_tabW spec_DrawGluingOf.tab9 spec_DrawGluingOf.bits9 (fun HT_ HW_=>?_)
   generalize w49.drew = w50 at HO602 HO606 HO609 HO614 HO618 HO621 BK584 BK611 HI587 HB hHeld ⊢
   refine pure_ (i:=1) (N:=some 38) (v:=?_) (a':=?_) #[zf,zt,zf,zf,zf,zf,zf,zf] rfl rfl (any_of HT_.out (by kernel_rfl)) (fun _ _ _ h=>h) (Or.inl ⟨by rfl,?_⟩) ?_ ?_
   rotate_left
   ·intro w'
    go_simp
    with_reducible rfl
   rotate_left
   ·simp only [Act.put,zP_,i64_w]
    rfl
   refine pure_ (i:=2) (N:=some 39) (v:=?_) (a':=?_) #[zf,zt,zt,zf,zf,zf,zf,zf] rfl rfl (any_of HT_.out (by kernel_rfl)) (fun _ _ _ h=>h) (Or.inl ⟨by rfl,?_⟩) ?_ ?_
   rotate_left
   ·intro w'
    go_simp
    with_reducible rfl
   rotate_left
   ·simp only [Act.put,zP_,i64_w]
    rfl
   refine take_ (i:=0) (N:=some 37) (v:=?_) (a':=?_) #[zt,zt,zt,zf,zf,zf,zf,zf] rfl rfl (take_ofW HT_.out HW_.out (by kernel_rfl)) (fun _ _ _ h=>h) (Or.inl ⟨by rfl,?_⟩) hHeld ?_ ?_
   rotate_left
   ·rintro w' ⟨s0,s1⟩
    go_simp
    with_reducible rfl
   rotate_left
   ·simp only [Act.put,zP_,i64_w]
    rfl
   refine take_ (i:=3) (N:=some 40) (v:=?_) (a':=?_) #[zt,zt,zt,zt,zf,zf,zf,zf] rfl rfl (take_ofW HT_.out HW_.out (by kernel_rfl)) (fun _ _ _ h=>h) (Or.inl ⟨by rfl,?_⟩) hHeld ?_ ?_
   rotate_left
   ·rintro w' ⟨s0,s1⟩
    go_simp
    with_reducible rfl
   rotate_left
   ·simp only [Act.put,zP_,i64_w]
    rfl
   refine pure_ (i:=4) (N:=some 41) (v:=?_) (a':=?_) #[zt,zt,zt,zt,zt,zf,zf,zf] rfl rfl (any_of HT_.out (by kernel_rfl)) (fun _ _ _ h=>h) (Or.inl ⟨by rfl,?_⟩) ?_ ?_
   rotate_left
   ·intro w'
    go_simp
    with_reducible rfl
   rotate_left
   ·simp only [Act.put,zP_,i64_w]
    rfl
   refine one_ (i:=5) (N:=some 42) #[zt,zt,zt,zt,zt,zt,zf,zf] rfl rfl (one_of HT_.out (by kernel_rfl)) (by decide) (fun K hK=>?_)
   refine goes_ Try.func115 (by kernel_rfl) rfl #[.pointer (some ⟨g587,0,none⟩),.int .i64 (t616.length:Int)] (by rfl) rfl rfl (by (try simp only [zJ,zM,zN]);first|done|rfl|(simp only [zL,zK];rfl)) ?_
   with_reducible refine (spec_l91At.calls k g587 t585 t615 (t616.length:Int) t622 t623 w _ ?side1 ?side2 A27.out).mono ?_
   (case side1=>repeat (first|(with_reducible first|exact HI587.out|apply IsS84.alloc|apply IsS84.drewN|apply IsS84.drew|apply IsS84.set_1|refine IsS84.far ?_ NB587_584.out _|refine IsS84.far ?_ NB587_611.out _)|exact HI587.out))
   (case side2=>repeat (first|(with_reducible first|exact HB.out|apply zD|apply zB|apply zC|refine zF ?_ (IsS84.ge HI587.out)|refine zF ?_ GE584.out|refine zF ?_ GE611.out)|exact HB.out))
   rintro e w51 ⟨rfl,hi,hb,hk⟩
   refine ⟨_,rfl,?_⟩
   have n0_:=zA (KeepBut.blk hk (g':=gb584) (o:=.cells #[.slice none 0 0,.slice none 0 0] 27 (0,0)) (by (with_reducible repeat (first|refine zG ?_ _|refine zI ?_|refine zH ?_ _));exact BK584.out) NB584_587.out (by simp))
   have n1_:=zA (zV (Kd.R_keep (IsS84.apart (show IsS84 w _ g587 t585 t615 from by repeat (first|(with_reducible first|exact HI587.out|apply IsS84.alloc|apply IsS84.drewN|apply IsS84.drew|apply IsS84.set_1|refine IsS84.far ?_ NB587_584.out _|refine IsS84.far ?_ NB587_611.out _)|exact HI587.out)) (by apply zR_;exact HO602.out) (by decide)) hk (fun _ h=>h.2)) (fun _ h=>h.1))
   have n2_:=zA (zV (Kd.R_keep (IsS84.apart (show IsS84 w _ g587 t585 t615 from by repeat (first|(with_reducible first|exact HI587.out|apply IsS84.alloc|apply IsS84.drewN|apply IsS84.drew|apply IsS84.set_1|refine IsS84.far ?_ NB587_584.out _|refine IsS84.far ?_ NB587_611.out _)|exact HI587.out)) (by apply zR_;exact HO606.out) (by decide)) hk (fun _ h=>h.2)) (fun _ h=>h.1))
   have n3_:=zA (zV (Kd.R_keep (IsS84.apart (show IsS84 w _ g587 t585 t615 from by repeat (first|(with_reducible first|exact HI587.out|apply IsS84.alloc|apply IsS84.drewN|apply IsS84.drew|apply IsS84.set_1|refine IsS84.far ?_ NB587_584.out _|refine IsS84.far ?_ NB587_611.out _)|exact HI587.out)) (by apply zR_;exact HO609.out) (by decide)) hk (fun _ h=>h.2)) (fun _ h=>h.1))
   have n4_:=zA (KeepBut.blk hk (g':=gb611) (o:=.cells #[.slice Ao45 t616.length co45,.slice Ao47 t619.length co47] 27 (0,0)) (by (with_reducible repeat (first|refine zG ?_ _|refine zI ?_|refine zH ?_ _));exact BK611.out) NB611_587.out (by simp))
   have n5_:=zA (zV (Kd.R_keep (IsS84.apart (show IsS84 w _ g587 t585 t615 from by repeat (first|(with_reducible first|exact HI587.out|apply IsS84.alloc|apply IsS84.drewN|apply IsS84.drew|apply IsS84.set_1|refine IsS84.far ?_ NB587_584.out _|refine IsS84.far ?_ NB587_611.out _)|exact HI587.out)) (by apply zR_;exact HO614.out) (by decide)) hk (fun _ h=>h.2)) (fun _ h=>h.1))
   have n6_:=zA (zV (Kd.R_keep (IsS84.apart (show IsS84 w _ g587 t585 t615 from by repeat (first|(with_reducible first|exact HI587.out|apply IsS84.alloc|apply IsS84.drewN|apply IsS84.drew|apply IsS84.set_1|refine IsS84.far ?_ NB587_584.out _|refine IsS84.far ?_ NB587_611.out _)|exact HI587.out)) (by apply zR_;exact HO618.out) (by decide)) hk (fun _ h=>h.2)) (fun _ h=>h.1))
   have n7_:=zA (zV (Kd.R_keep (IsS84.apart (show IsS84 w _ g587 t585 t615 from by repeat (first|(with_reducible first|exact HI587.out|apply IsS84.alloc|apply IsS84.drewN|apply IsS84.drew|apply IsS84.set_1|refine IsS84.far ?_ NB587_584.out _|refine IsS84.far ?_ NB587_611.out _)|exact HI587.out)) (by apply zR_;exact HO621.out) (by decide)) hk (fun _ h=>h.2)) (fun _ h=>h.1))
   have n8_:=zA (hb)
   have n9_:=zA (hi)
   clear BK584 HO602 HO606 HO609 BK611 HO614 HO618 HO621 HB HI587
   have BK584:=n0_
   have HO602:=n1_
   have HO606:=n2_
   have HO609:=n3_
   have BK611:=n4_
   have HO614:=n5_
   have HO618:=n6_
   have HO621:=n7_
   have HB:=n8_
   have HI587:=n9_
   clear n0_ n1_ n2_ n3_ n4_ n5_ n6_ n7_ n8_ n9_
   (try clear hb);(try clear hb2);(try clear hk);(try clear hi)
   refine hK.out _ _ ⟨(zT BK611.out 0).trans rfl,(zT BK611.out 1).trans rfl⟩ (fun hHeld=>?_)
   clear hK K
   refine norm_ (a':=?_) ?_ ?_
   rotate_left
   ·show Act.put _ (some 42) _ = _
    simp only [Act.put,zP_,i64_w]
    rfl
   refine one_ (i:=6) (N:=none) #[zt,zt,zt,zt,zt,zt,zt,zf] rfl rfl (one_of HT_.out (by kernel_rfl)) (by decide) (fun K hK=>?_)
   have hs52:w51.cell? ⟨gb584,0,none⟩ = some (.slice none 0 0):=(zT BK584.out 0).trans rfl
   have hfs52:=zZ BK584.out 0
   have hns52_1:=NB611_584.out
   have hms52_1:=NB584_611.out
   have hs53:w51.cell? ⟨gb584,1,none⟩ = some (.slice none 0 0):=(zT BK584.out 1).trans rfl
   have hfs53:=zZ BK584.out 1
   have hns53_1:=NB611_584.out
   have hms53_1:=NB584_611.out
   refine skip_ (w1:=?_) (by rfl) rfl ?_ ?_
   rotate_left
   ·go_simp
    rfl
   refine hK.out _ _ ⟨((cell_far (p:=⟨gb584,_,none⟩) NB611_584.out _).trans (((cell_far (p:=⟨gb584,_,none⟩) NB611_584.out _).trans (hHeld.1)))),((cell_far (p:=⟨gb584,_,none⟩) NB611_584.out _).trans (((cell_far (p:=⟨gb584,_,none⟩) NB611_584.out _).trans (hHeld.2))))⟩ (fun hHeld=>?_)
   clear hK K
   refine pure_ (i:=7) (N:=some 3) (v:=?_) (a':=?_) #[zt,zt,zt,zt,zt,zt,zt,zt] rfl rfl (any_of HT_.out (by kernel_rfl)) (fun _ _ _ h=>h) (Or.inl ⟨by rfl,?_⟩) ?_ ?_
   rotate_left
   ·intro w'
    go_simp
    with_reducible rfl
   rotate_left
   ·simp only [Act.put,zP_,i64_w]
    rfl
   refine done_ (done_of HT_.out (by kernel_rfl)) ?_
   try go_wp2
   refine bodyPost_ret (results_ct rfl _ _ gb584 27 #[.slice Ao45 t616.length co45,.slice Ao47 t619.length co47] (0,0) _ rfl (by (with_reducible repeat (first|refine zG ?_ _|refine zI ?_|refine zH ?_ _));refine blk_put (cs:=#[.slice Ao45 t616.length co45,.slice none 0 0]) ?_ 1 _ rfl;(with_reducible repeat (first|refine zG ?_ _|refine zI ?_|refine zH ?_ _));refine blk_put (cs:=#[.slice none 0 0,.slice none 0 0]) ?_ 0 _ rfl;(with_reducible repeat (first|refine zG ?_ _|refine zI ?_|refine zH ?_ _));exact BK584.out) Try.underlying27 rfl (by kernel_rfl)) rfl ?_
   exact ⟨_,_,by first|rfl|(simp [errW_none,errW_some] <;> rfl)|(simp [*,errW_none,errW_some] <;> rfl),Kd.Q_of_R (by apply zR_;exact zV (Kd.R_far (p:=⟨gb584,1,none⟩) (Kd.R_far (p:=⟨gb584,0,none⟩) (Kd.R_types HO618.out BK584.out (by decide)) (fun _ hk=>hk.2) (.slice Ao45 t616.length co45)) (fun _ hk=>hk.2) (.slice Ao47 t619.length co47)) (fun _ hk=>hk.1.2.2.2.2)),by apply zR_;exact zV (Kd.R_far (p:=⟨gb584,1,none⟩) (Kd.R_far (p:=⟨gb584,0,none⟩) (Kd.R_types HO621.out BK584.out (by decide)) (fun _ hk=>hk.2) (.slice Ao45 t616.length co45)) (fun _ hk=>hk.2) (.slice Ao47 t619.length co47)) (fun _ hk=>hk.1.2.2.2.2),by repeat (first|(with_reducible first|exact HB.out|apply zD|apply zB|apply zC|refine zF ?_ (IsS84.ge HI587.out)|refine zF ?_ GE584.out|refine zF ?_ GE611.out)|exact HB.out)⟩
  ·replace c24:=Bool.eq_false_iff.mpr c24
   subst c24
   have H1:(some (t604,t607,0)) = some (r1,r2,r3):=by rw [if_neg (show ¬ (false = true) by decide)] at H;exact H
   clear H
   have H:=H1
   clear H1
   simp only [Option.some.injEq,Prod.mk.injEq] at H
   obtain ⟨rfl,rfl,rfl⟩:=H
   go_enter Try.func59,Try.ntmps59
   go_wp2_with (first|((with_reducible refine gate_dst (N:=2) rfl ?_);refine box_event ?hg (N:=2) ?hd (cs:=#[.slice none 0 0,.slice none 0 0]) (t:=27) ?hr ?_;(case hd=>rfl);(case hg=>rfl);(case hr=>first|(go_simp;done)|(go_simp;rfl));intro gb584 hg w54 hbox hb;have n0_:=zA (zR (by exact zB_ HB.out) hb);have n1_:=zA (hbox);have n2_:=zA ((by rw [hg];exact (zQ (by exact zB_ HB.out)):w.heap.size≤gb584));have n3_:=zA ((by rw [hg];exact (zQ (by exact zB_ HB.out)):w.heap.size≤gb584));clear HB;have HB:=n0_;have BK584:=n1_;have GW584:=n2_;have GE584:=n3_;clear n0_ n1_ n2_ n3_;clear hb hbox hg)|((with_reducible refine gate_callee (f:=78) rfl ?_);refine goesL_ (some 9) rfl rfl Try.func78 (by kernel_rfl) rfl #[.slice A0 l0.length c0] rfl (by (try simp only [zJ,zM,zN]);first|done|rfl|(simp only [zL,zK];rfl)) ?_;(with_reducible refine (spec_l6Open.calls _ _ l0 t585 t586 w _ ?side1 ?side2 ?side3 A2.out).mono ?_);(case side1=>repeat (first|(with_reducible first|exact HB.out|apply zD|apply zB|apply zC|refine zF ?_ GE584.out)|exact HB.out));(case side2=>exact HR0.out);(case side3=>exact HC0.out);rintro e w55 ⟨g587,rfl,hi,hb,hb2⟩;refine ⟨_,rfl,?_⟩;have n0_:=zA (zX (g:=gb584) (o:=.cells #[.slice none 0 0,.slice none 0 0] 27 (0,0)) (by (with_reducible repeat (first|refine zG ?_ _|refine zI ?_|refine zH ?_ _));exact BK584.out) hb2);have n1_:=zA (hb);have n2_:=zA (hi);have n3_:=zA (IsS84.ne_blk hi (zX (g:=gb584) (o:=.cells #[.slice none 0 0,.slice none 0 0] 27 (0,0)) (by (with_reducible repeat (first|refine zG ?_ _|refine zI ?_|refine zH ?_ _));exact BK584.out) hb2) (by decide));have n4_:=zA (Ne.symm (IsS84.ne_blk hi (zX (g:=gb584) (o:=.cells #[.slice none 0 0,.slice none 0 0] 27 (0,0)) (by (with_reducible repeat (first|refine zG ?_ _|refine zI ?_|refine zH ?_ _));exact BK584.out) hb2) (by decide)));clear BK584;clear HB;have BK584:=n0_;have HB:=n1_;have HI587:=n2_;have NB587_584:=n3_;have NB584_587:=n4_;clear n0_ n1_ n2_ n3_ n4_;(try clear hb);(try clear hb2);(try clear hk);(try clear hi))|((with_reducible refine gate_callee (f:=90) rfl ?_);refine goesL_ (some 11) rfl rfl Try.func90 (by kernel_rfl) rfl #[.pointer (some ⟨g587,0,none⟩),.int .i64 4] rfl (by (try simp only [zJ,zM,zN]);first|done|rfl|(simp only [zL,zK];rfl)) ?_;(with_reducible refine (spec_l6Rd_pick.calls k g587 t585 t586 4 t588 t589 w _ ?side1 ?side2 A3.out).mono ?_);(case side1=>repeat (first|(with_reducible first|exact HI587.out|apply IsS84.alloc|apply IsS84.drewN|apply IsS84.drew|apply IsS84.set_1|refine IsS84.far ?_ NB587_584.out _)|exact HI587.out));(case side2=>repeat (first|(with_reducible first|exact HB.out|apply zD|apply zB|apply zC|refine zF ?_ (IsS84.ge HI587.out)|refine zF ?_ GE584.out)|exact HB.out));rintro e w56 ⟨rfl,hi,hb,hk⟩;refine ⟨_,rfl,?_⟩;have n0_:=zA (KeepBut.blk hk (g':=gb584) (o:=.cells #[.slice none 0 0,.slice none 0 0] 27 (0,0)) (by (with_reducible repeat (first|refine zG ?_ _|refine zI ?_|refine zH ?_ _));exact BK584.out) NB584_587.out (by simp));have n1_:=zA (hb);have n2_:=zA (hi);clear BK584;clear HB;clear HI587;have BK584:=n0_;have HB:=n1_;have HI587:=n2_;clear n0_ n1_ n2_;(try clear hb);(try clear hb2);(try clear hk);(try clear hi))|((with_reducible refine gate_callee (f:=77) rfl ?_);refine goesL_ (some 23) rfl rfl Try.func77 (by kernel_rfl) rfl #[.pointer (some ⟨g587,0,none⟩),.int .i64 5] rfl (by (try simp only [zJ,zM,zN]);first|done|rfl|(simp only [zL,zK];rfl)) ?_;(with_reducible refine (spec_l91Gluing.calls k g587 t585 t589 5 t600 t603 w _ ?side1 ?side2 A22.out).mono ?_);(case side1=>repeat (first|(with_reducible first|exact HI587.out|apply IsS84.alloc|apply IsS84.drewN|apply IsS84.drew|apply IsS84.set_1|refine IsS84.far ?_ NB587_584.out _)|exact HI587.out));(case side2=>repeat (first|(with_reducible first|exact HB.out|apply zD|apply zB|apply zC|refine zF ?_ (IsS84.ge HI587.out)|refine zF ?_ GE584.out)|exact HB.out));rintro e w57 ⟨v601,rfl,ho0,hi,hb,hk⟩;refine ⟨_,rfl,?_⟩;have n0_:=zA (KeepBut.blk hk (g':=gb584) (o:=.cells #[.slice none 0 0,.slice none 0 0] 27 (0,0)) (by (with_reducible repeat (first|refine zG ?_ _|refine zI ?_|refine zH ?_ _));exact BK584.out) NB584_587.out (by simp));have n1_:=zA (ze ho0 (zQ (by repeat (first|(with_reducible first|exact HB.out|apply zD|apply zB|apply zC|refine zF ?_ (IsS84.ge HI587.out)|refine zF ?_ GE584.out)|exact HB.out))));have n2_:=zA (hb);have n3_:=zA (hi);clear BK584;clear HB;clear HI587;have BK584:=n0_;have HO602:=n1_;have HB:=n2_;have HI587:=n3_;clear n0_ n1_ n2_ n3_;(try clear hb);(try clear hb2);(try clear hk);(try clear hi);(try clear ho0);obtain ⟨Ao58,co58,eo58⟩:=zg HO602.out;subst eo58)|((with_reducible refine gate_callee (f:=22) rfl ?_);refine goesL_ (some 24) rfl rfl Try.func22 (by kernel_rfl) rfl #[.slice Ao58 t600.length co58] rfl (by (try simp only [zJ,zM,zN]);first|done|rfl|(simp only [zL,zK];rfl)) ?_;(with_reducible refine (spec_GluingMap.calls k _ _ t600 t604 t607 false _ ?side1 ?side2 A23.out).mono ?_);(case side1=>repeat (first|exact (zU HO602.out).2.2|apply zC_));(case side2=>exact (zU HO602.out).2.1);rintro e w59 ⟨v605,v608,rfl,ho0,ho1,hb⟩;refine ⟨_,rfl,?_⟩;have n0_:=zA (zV (Kd.R_told (Kd.R_told (Kd.R_old (by apply zR_;exact HO602.out) hb) (zd ho0)) (zd ho1)) (fun _ h_=>h_.1));have n1_:=zA (ze (zh ho0 (Kd.R_lt (by apply zR_;exact HO602.out))) (zQ (by repeat (first|(with_reducible first|exact HB.out|apply zD|apply zB|apply zC|refine zF ?_ (IsS84.ge HI587.out)|refine zF ?_ GE584.out)|exact HB.out))));have n2_:=zA (ze (zh ho1 (Kd.R_lt (by apply zR_;exact HO602.out))) (zQ (by repeat (first|(with_reducible first|exact HB.out|apply zD|apply zB|apply zC|refine zF ?_ (IsS84.ge HI587.out)|refine zF ?_ GE584.out)|exact HB.out))));have n3_:=zA (zX (g:=gb584) (o:=.cells #[.slice none 0 0,.slice none 0 0] 27 (0,0)) (by (with_reducible repeat (first|refine zG ?_ _|refine zI ?_|refine zH ?_ _));exact BK584.out) hb);have n4_:=zA (IsS84.below (by repeat (first|(with_reducible first|exact HI587.out|apply IsS84.alloc|apply IsS84.drewN|apply IsS84.drew|apply IsS84.set_1|refine IsS84.far ?_ NB587_584.out _)|exact HI587.out)) hb);have n5_:=zA (zR (by repeat (first|(with_reducible first|exact HB.out|apply zD|apply zB|apply zC|refine zF ?_ (IsS84.ge HI587.out)|refine zF ?_ GE584.out)|exact HB.out)) hb);clear HO602;clear BK584;clear HI587;clear HB;have HO602:=n0_;have HO606:=n1_;have HO609:=n2_;have BK584:=n3_;have HI587:=n4_;have HB:=n5_;clear n0_ n1_ n2_ n3_ n4_ n5_;(try clear hb);(try clear hb2);(try clear hk);(try clear hi);(try clear ho0);(try clear ho1))|((with_reducible refine gate_dst (N:=6) rfl ?_);refine box_event ?hg (N:=6) ?hd (cs:=#[.slice none 0 0,.slice none 0 0]) (t:=27) ?hr ?_;(case hd=>rfl);(case hg=>rfl);(case hr=>first|(go_simp;done)|(go_simp;rfl));intro gb611 hg w60 hbox hb;have n0_:=zA (Kd.R_below (by apply zR_;exact HO602.out) hb);have n1_:=zA (Kd.R_below (by apply zR_;exact HO606.out) hb);have n2_:=zA (Kd.R_below (by apply zR_;exact HO609.out) hb);have n3_:=zA (zX (g:=gb584) (o:=.cells #[.slice none 0 0,.slice none 0 0] 27 (0,0)) (by (with_reducible repeat (first|refine zG ?_ _|refine zI ?_|refine zH ?_ _));exact BK584.out) hb);have n4_:=zA (IsS84.below (by repeat (first|(with_reducible first|exact HI587.out|apply IsS84.alloc|apply IsS84.drewN|apply IsS84.drew|apply IsS84.set_1|refine IsS84.far ?_ NB587_584.out _)|exact HI587.out)) hb);have n5_:=zA (zR (by repeat (first|(with_reducible first|exact HB.out|apply zD|apply zB|apply zC|refine zF ?_ (IsS84.ge HI587.out)|refine zF ?_ GE584.out)|exact HB.out)) hb);have n6_:=zA (hbox);have n7_:=zA ((by rw [hg];exact (zQ (by repeat (first|(with_reducible first|exact HB.out|apply zD|apply zB|apply zC|refine zF ?_ (IsS84.ge HI587.out)|refine zF ?_ GE584.out)|exact HB.out))):w.heap.size≤gb611));have n8_:=zA ((by rw [hg];exact (zQ (by repeat (first|(with_reducible first|exact HB.out|apply zD|apply zB|apply zC|refine zF ?_ (IsS84.ge HI587.out)|refine zF ?_ GE584.out)|exact HB.out))):w.heap.size≤gb611));have n9_:=zA ((by rw [hg];exact Nat.ne_of_lt (blk_lt (g:=gb584) (o:=.cells #[.slice none 0 0,.slice none 0 0] 27 (0,0)) (by (with_reducible repeat (first|refine zG ?_ _|refine zI ?_|refine zH ?_ _));exact BK584.out)):gb584≠gb611));have n10_:=zA ((by rw [hg];exact Nat.ne_of_gt (blk_lt (g:=gb584) (o:=.cells #[.slice none 0 0,.slice none 0 0] 27 (0,0)) (by (with_reducible repeat (first|refine zG ?_ _|refine zI ?_|refine zH ?_ _));exact BK584.out)):gb611≠gb584));have n11_:=zA ((by rw [hg];exact Nat.ne_of_lt (IsS84.lt (show IsS84 w _ g587 t585 t603 from by repeat (first|(with_reducible first|exact HI587.out|apply IsS84.alloc|apply IsS84.drewN|apply IsS84.drew|apply IsS84.set_1|refine IsS84.far ?_ NB587_584.out _)|exact HI587.out))):g587≠gb611));have n12_:=zA ((by rw [hg];exact Nat.ne_of_gt (IsS84.lt (show IsS84 w _ g587 t585 t603 from by repeat (first|(with_reducible first|exact HI587.out|apply IsS84.alloc|apply IsS84.drewN|apply IsS84.drew|apply IsS84.set_1|refine IsS84.far ?_ NB587_584.out _)|exact HI587.out))):gb611≠g587));clear HO602;clear HO606;clear HO609;clear BK584;clear HI587;clear HB;have HO602:=n0_;have HO606:=n1_;have HO609:=n2_;have BK584:=n3_;have HI587:=n4_;have HB:=n5_;have BK611:=n6_;have GW611:=n7_;have GE611:=n8_;have NB584_611:=n9_;have NB611_584:=n10_;have NB587_611:=n11_;have NB611_587:=n12_;clear n0_ n1_ n2_ n3_ n4_ n5_ n6_ n7_ n8_ n9_ n10_ n11_ n12_;clear hb hbox hg;obtain ⟨Ao61,co61,eo61⟩:=zg HO606.out;subst eo61;have hnb62:=NB611_584.out;have hnc62:=NB584_611.out;have hnb63:=NB611_587.out;have hnc63:=NB587_611.out;have hcz64_0:w60.cell? ⟨gb611,0,none⟩ = some (.slice none 0 0):=(zT BK611.out 0).trans rfl;have hcz64_1:w60.cell? ⟨gb611,1,none⟩ = some (.slice none 0 0):=(zT BK611.out 1).trans rfl;have hfz64_0:=zZ BK611.out 0;have hfz64_1:=zZ BK611.out 1;obtain ⟨Ao65,co65,eo65⟩:=zg HO609.out;subst eo65;have hnb66:=NB584_587.out;have hnc66:=NB587_584.out;have hcz67_0:w60.cell? ⟨gb584,0,none⟩ = some (.slice none 0 0):=(zT BK584.out 0).trans rfl;have hcz67_1:w60.cell? ⟨gb584,1,none⟩ = some (.slice none 0 0):=(zT BK584.out 1).trans rfl;have hfz67_0:=zZ BK584.out 0;have hfz67_1:=zZ BK584.out 1))
   refine bodyPost_ret (results_ct rfl _ _ gb584 27 #[.slice Ao61 t604.length co61,.slice Ao65 t607.length co65] (0,0) _ rfl (by (with_reducible repeat (first|refine zG ?_ _|refine zI ?_|refine zH ?_ _));refine blk_put (cs:=#[.slice Ao61 t604.length co61,.slice none 0 0]) ?_ 1 _ rfl;(with_reducible repeat (first|refine zG ?_ _|refine zI ?_|refine zH ?_ _));refine blk_put (cs:=#[.slice none 0 0,.slice none 0 0]) ?_ 0 _ rfl;(with_reducible repeat (first|refine zG ?_ _|refine zI ?_|refine zH ?_ _));refine blk_far ?_ NB584_611.out _;(with_reducible repeat (first|refine zG ?_ _|refine zI ?_|refine zH ?_ _));refine blk_far ?_ NB584_611.out _;(with_reducible repeat (first|refine zG ?_ _|refine zI ?_|refine zH ?_ _));exact BK584.out) Try.underlying27 rfl (by kernel_rfl)) rfl ?_
   exact ⟨_,_,by first|rfl|(simp [errW_none,errW_some] <;> rfl)|(simp [*,errW_none,errW_some] <;> rfl),Kd.Q_of_R (by apply zR_;exact zV (Kd.R_far (p:=⟨gb584,1,none⟩) (Kd.R_far (p:=⟨gb584,0,none⟩) (Kd.R_far (p:=⟨gb611,1,none⟩) (Kd.R_far (p:=⟨gb611,0,none⟩) (Kd.R_types (Kd.R_types HO606.out BK611.out (by decide)) BK584.out (by decide)) (fun _ hk=>hk.1.2) (.slice Ao61 t604.length co61)) (fun _ hk=>hk.1.2) (.slice Ao65 t607.length co65)) (fun _ hk=>hk.2) (.slice Ao61 t604.length co61)) (fun _ hk=>hk.2) (.slice Ao65 t607.length co65)) (fun _ hk=>hk.1.1.1)),by apply zR_;exact zV (Kd.R_far (p:=⟨gb584,1,none⟩) (Kd.R_far (p:=⟨gb584,0,none⟩) (Kd.R_far (p:=⟨gb611,1,none⟩) (Kd.R_far (p:=⟨gb611,0,none⟩) (Kd.R_types (Kd.R_types HO609.out BK611.out (by decide)) BK584.out (by decide)) (fun _ hk=>hk.1.2) (.slice Ao61 t604.length co61)) (fun _ hk=>hk.1.2) (.slice Ao65 t607.length co65)) (fun _ hk=>hk.2) (.slice Ao61 t604.length co61)) (fun _ hk=>hk.2) (.slice Ao65 t607.length co65)) (fun _ hk=>hk.1.1.1),by repeat (first|(with_reducible first|exact HB.out|apply zD|apply zB|apply zC|refine zF ?_ (IsS84.ge HI587.out)|refine zF ?_ GE584.out|refine zF ?_ GE611.out)|exact HB.out)⟩

/-! ### impl_MapForm: function 60 -/
def impl_MapForm.j0:Nat→Int→Bool→List Int→List Int→Option (List Int × List Int × Bool)
 | 0,_,_,_,_=>none
 | k+1,x1,x19,x625000,x625001=>if x19 = true then (some (([]:List Int),([]:List Int),false)) else ((impl_namesFrom.f k x625000 x625001 x1).bind fun t627=>((impl_renamed.f k x625000 x625001 t627).bind fun bt630=>(some (bt630.1,bt630.2,true))))
def impl_MapForm.f (k:Nat) (l0_0:List Int) (l0_1:List Int) (a1:Int):Option (List Int × List Int × Bool):=(impl_MapValid.f k l0_0 l0_1).bind fun t626=>(if t626 = true then (if a1 < 0 then (impl_MapForm.j0 k a1 true l0_0 l0_1) else (impl_MapForm.j0 k a1 (decide (a1 ≥ (l0_0.length:Int))) l0_0 l0_1)) else (impl_MapForm.j0 k a1 true l0_0 l0_1))
theorem impl_MapForm.mono_l:∀ k,(∀ y0 y1 y2 y3,LeO (impl_MapForm.j0 k y0 y1 y2 y3) (impl_MapForm.j0 (k+1) y0 y1 y2 y3))
 | 0=>fun _ _ _ _ r h=>by simp [impl_MapForm.j0] at h
 | k+1=>by
  have ih0:=impl_MapForm.mono_l k
  ·intro y0 y1 y2 y3
   unfold impl_MapForm.j0
   repeat' first
   | (with_reducible exact ih0 _ _ _ _)
   | (with_reducible exact impl_MapValid.mono _ _ _)
   | (with_reducible exact impl_namesFrom.mono _ _ _ _)
   | (with_reducible exact impl_renamed.mono _ _ _ _)
   | (with_reducible exact LeO.refl _)
   | (with_reducible exact za _)
   | (with_reducible refine zc ?_ ?_)
   | (with_reducible refine zb ?_ (fun _=>?_))
theorem impl_MapForm.mono:∀ a0 a1 a2 k,LeO (impl_MapForm.f k a0 a1 a2) (impl_MapForm.f (k+1) a0 a1 a2):=by
 intro a0 a1 a2 k
 have ih0:=impl_MapForm.mono_l k
 unfold impl_MapForm.f
 repeat' first
   | (with_reducible exact ih0 _ _ _ _)
   | (with_reducible exact impl_MapValid.mono _ _ _)
   | (with_reducible exact impl_namesFrom.mono _ _ _ _)
   | (with_reducible exact impl_renamed.mono _ _ _ _)
   | (with_reducible exact LeO.refl _)
   | (with_reducible exact za _)
   | (with_reducible refine zc ?_ ?_)
   | (with_reducible refine zb ?_ (fun _=>?_))
set_option maxHeartbeats 8000000 in
set_option maxRecDepth 100000 in
theorem impl_MapForm.calls (k:Nat) (A0_0:Option Addr) (c0_0:Nat) (l0_0:List Int) (A0_1:Option Addr) (c0_1:Nat) (l0_1:List Int) (a1:Int) (r1:List Int) (r2:List Int) (r3:Bool) (w:World) (hr0_0:Kd.C (Kd.int .i64) w A0_0 l0_0.length l0_0) (hc0_0:l0_0.length≤c0_0) (hr0_1:Kd.C (Kd.int .i64) w A0_1 l0_1.length l0_1) (hc0_1:l0_1.length≤c0_1) (h:impl_MapForm.f k l0_0 l0_1 a1 = some (r1,r2,r3)) :
  Calls Try.prog 60 #[.agg #[.slice A0_0 l0_0.length c0_0,.slice A0_1 l0_1.length c0_1],.int .i64 a1] w fun e w' => ∃ v0_ v1_:Value,e = .returned (.tuple #[.agg #[v0_,v1_],.bool r3])∧Kd.R (Kd.int .i64) 3 w' w.heap.size (fun k_=>some k_≠(v1_:Value).ownBlock) v0_ r1∧Kd.R (Kd.int .i64) 3 w' w.heap.size (fun k_=>some k_≠(v0_:Value).ownBlock) v1_ r2∧Below w.heap.size w w':=by
 have hu27:=Try.underlying27
 have HR0_0:=zA hr0_0
 have HC0_0:=zA hc0_0
 clear hr0_0 hc0_0
 have HR0_1:=zA hr0_1
 have HC0_1:=zA hc0_1
 clear hr0_1 hc0_1
 have HB:=zA (Below.refl w.heap.size w)
 have H:((impl_MapValid.f k l0_0 l0_1).bind fun t626=>(if t626 = true then (if a1 < 0 then (impl_MapForm.j0 k a1 true l0_0 l0_1) else (impl_MapForm.j0 k a1 (decide (a1 ≥ (l0_0.length:Int))) l0_0 l0_1)) else (impl_MapForm.j0 k a1 true l0_0 l0_1))) = some (r1,r2,r3):=h
 clear h
 have HC3:=zA H
 clear H
 go_enter Try.func60,Try.ntmps60
 go_upto_region 1 with (first|((with_reducible refine gate_dst (N:=2) rfl ?_);(try (refine gate_guard (by rfl) ?_;dsimp only));refine box_event ?hg (N:=2) ?hd (cs:=#[.slice A0_0 l0_0.length c0_0,.slice A0_1 l0_1.length c0_1]) (t:=27) ?hr ?_;(case hd=>rfl);(case hg=>rfl);(case hr=>first|(go_simp;done)|(go_simp;rfl));intro gb624 hg w4 hbox hb;have n0_:=zA (zR (by exact zB_ HB.out) hb);have n1_:=zA (hbox);have n2_:=zA ((by rw [hg];exact (zQ (by exact zB_ HB.out)):w.heap.size≤gb624));have n3_:=zA ((by rw [hg];exact (zQ (by exact zB_ HB.out)):w.heap.size≤gb624));clear HB;have HB:=n0_;have BK624:=n1_;have GW624:=n2_;have GE624:=n3_;clear n0_ n1_ n2_ n3_;clear hb hbox hg)|((with_reducible refine gate_dst (N:=4) rfl ?_);(try (refine gate_guard (by rfl) ?_;dsimp only));refine box_event ?hg (N:=4) ?hd (cs:=#[.slice none 0 0,.slice none 0 0]) (t:=27) ?hr ?_;(case hd=>rfl);(case hg=>rfl);(case hr=>first|(go_simp;done)|(go_simp;rfl));intro gb625 hg w5 hbox hb;have n0_:=zA (zX (g:=gb624) (o:=.cells #[.slice A0_0 l0_0.length c0_0,.slice A0_1 l0_1.length c0_1] 27 (0,0)) (by (with_reducible repeat (first|refine zG ?_ _|refine zI ?_|refine zH ?_ _));exact BK624.out) hb);have n1_:=zA (zR (by repeat (first|(with_reducible first|exact HB.out|apply zD|apply zB|apply zC|refine zF ?_ GE624.out)|exact HB.out)) hb);have n2_:=zA (hbox);have n3_:=zA ((by rw [hg];exact (zQ (by repeat (first|(with_reducible first|exact HB.out|apply zD|apply zB|apply zC|refine zF ?_ GE624.out)|exact HB.out))):w.heap.size≤gb625));have n4_:=zA ((by rw [hg];exact (zQ (by repeat (first|(with_reducible first|exact HB.out|apply zD|apply zB|apply zC|refine zF ?_ GE624.out)|exact HB.out))):w.heap.size≤gb625));have n5_:=zA ((by rw [hg];exact Nat.ne_of_lt (blk_lt (g:=gb624) (o:=.cells #[.slice A0_0 l0_0.length c0_0,.slice A0_1 l0_1.length c0_1] 27 (0,0)) (by (with_reducible repeat (first|refine zG ?_ _|refine zI ?_|refine zH ?_ _));exact BK624.out)):gb624≠gb625));have n6_:=zA ((by rw [hg];exact Nat.ne_of_gt (blk_lt (g:=gb624) (o:=.cells #[.slice A0_0 l0_0.length c0_0,.slice A0_1 l0_1.length c0_1] 27 (0,0)) (by (with_reducible repeat (first|refine zG ?_ _|refine zI ?_|refine zH ?_ _));exact BK624.out)):gb625≠gb624));clear BK624;clear HB;have BK624:=n0_;have HB:=n1_;have BK625:=n2_;have GW625:=n3_;have GE625:=n4_;have NB624_625:=n5_;have NB625_624:=n6_;clear n0_ n1_ n2_ n3_ n4_ n5_ n6_;clear hb hbox hg))
 (try simp only [Act.put,zP_])
 go_cut [19] (fun v19 wc => ∃ (kq:Nat) (x19_2:Bool),v19 = .bool x19_2∧Aside0 (impl_MapForm.j0 kq a1 x19_2 l0_0 l0_1 = some (r1,r2,r3))∧Aside0 (kq≤k)∧Aside0 (wc.heap[gb624]? = some (.cells #[(.slice A0_0 l0_0.length c0_0),(.slice A0_1 l0_1.length c0_1)] 27 (0,0)))∧Aside0 (wc.heap[gb625]? = some (.cells #[(.slice none 0 0),(.slice none 0 0)] 27 (0,0)))∧Aside0 (Below w.heap.size w wc))
 case first =>
  have H:=HC3.out
  clear HC3
  replace H:=zz0 H
  obtain ⟨t626,A60,H⟩:=H
  try dsimp only at H
  have A6:=zA A60
  clear A60
  by_cases c7:t626 = true
  ·subst c7
   rw [if_pos rfl] at H;try dsimp only at H
   by_cases c8:a1 < 0
   ·rw [if_pos c8] at H
    have c8b0:decide (a1 < 0) = true:=zO c8
    clear c8
    (first|rw [c8b0]|(simp only [i64_w,i32_w];rw [c8b0])|skip)
    have H':=zA H
    clear H
    have hnb9:=NB624_625.out
    have hnc9:=NB625_624.out
    have hcz10_0:w5.cell? ⟨gb624,0,none⟩ = some (.slice A0_0 l0_0.length c0_0):=(zT BK624.out 0).trans rfl
    have hcz10_1:w5.cell? ⟨gb624,1,none⟩ = some (.slice A0_1 l0_1.length c0_1):=(zT BK624.out 1).trans rfl
    have hfz10_0:=zZ BK624.out 0
    have hfz10_1:=zZ BK624.out 1
    go_wp2_with (first|((with_reducible refine gate_callee (f:=33) rfl ?_);refine goesL_ (some 7) rfl rfl Try.func33 (by kernel_rfl) rfl #[.agg #[.slice A0_0 l0_0.length c0_0,.slice A0_1 l0_1.length c0_1]] rfl (by (try simp only [zJ,zM,zN]);first|done|rfl|(simp only [zL,zK];rfl)) ?_;(with_reducible refine (impl_MapValid.calls k (fun k_=>k_ < w.heap.size) _ _ l0_0 (fun k_=>k_ < w.heap.size) _ _ l0_1 true _ ?side1 ?side2 A6.out).mono ?_);(case side1=>exact Kd.V_mk HC0_0.out (Kd.F_below (Kd.C_F (Kd.heap_int .i64) HR0_0.out) (by repeat (first|(with_reducible first|exact HB.out|apply zD|apply zB|apply zC|refine zF ?_ GE624.out|refine zF ?_ GE625.out)|exact HB.out))));(case side2=>exact Kd.V_mk HC0_1.out (Kd.F_below (Kd.C_F (Kd.heap_int .i64) HR0_1.out) (by repeat (first|(with_reducible first|exact HB.out|apply zD|apply zB|apply zC|refine zF ?_ GE624.out|refine zF ?_ GE625.out)|exact HB.out))));rintro e w11 ⟨rfl,hb⟩;refine ⟨_,rfl,?_⟩;have n0_:=zA (zX (g:=gb624) (o:=.cells #[.slice A0_0 l0_0.length c0_0,.slice A0_1 l0_1.length c0_1] 27 (0,0)) (by (with_reducible repeat (first|refine zG ?_ _|refine zI ?_|refine zH ?_ _));exact BK624.out) hb);have n1_:=zA (zX (g:=gb625) (o:=.cells #[.slice none 0 0,.slice none 0 0] 27 (0,0)) (by (with_reducible repeat (first|refine zG ?_ _|refine zI ?_|refine zH ?_ _));exact BK625.out) hb);have n2_:=zA (zR (by repeat (first|(with_reducible first|exact HB.out|apply zD|apply zB|apply zC|refine zF ?_ GE624.out|refine zF ?_ GE625.out)|exact HB.out)) hb);clear BK624;clear BK625;clear HB;have BK624:=n0_;have BK625:=n1_;have HB:=n2_;clear n0_ n1_ n2_;(try clear hb);(try clear hb2);(try clear hk);(try clear hi)))
    go_meet
    case rel=>exact ⟨_,(true),(by first|rfl|(simp;done)|(simp [*];done)),H',⟨by first|omega|exact Nat.le_refl _⟩,⟨by (with_reducible repeat (first|refine zG ?_ _|refine zI ?_|refine zH ?_ _));exact BK624.out⟩,⟨by (with_reducible repeat (first|refine zG ?_ _|refine zI ?_|refine zH ?_ _));exact BK625.out⟩,⟨by repeat (first|(with_reducible first|exact HB.out|apply zD|apply zB|apply zC|refine zF ?_ GE624.out|refine zF ?_ GE625.out)|exact HB.out)⟩⟩
   ·rw [if_neg c8] at H
    have c8b0:decide (a1 < 0) = false:=zP c8
    clear c8
    (first|rw [c8b0]|(simp only [i64_w,i32_w];rw [c8b0])|skip)
    have H':=zA H
    clear H
    have hnb12:=NB624_625.out
    have hnc12:=NB625_624.out
    have hcz13_0:w5.cell? ⟨gb624,0,none⟩ = some (.slice A0_0 l0_0.length c0_0):=(zT BK624.out 0).trans rfl
    have hcz13_1:w5.cell? ⟨gb624,1,none⟩ = some (.slice A0_1 l0_1.length c0_1):=(zT BK624.out 1).trans rfl
    have hfz13_0:=zZ BK624.out 0
    have hfz13_1:=zZ BK624.out 1
    go_wp2_with (first|((with_reducible refine gate_callee (f:=33) rfl ?_);refine goesL_ (some 7) rfl rfl Try.func33 (by kernel_rfl) rfl #[.agg #[.slice A0_0 l0_0.length c0_0,.slice A0_1 l0_1.length c0_1]] rfl (by (try simp only [zJ,zM,zN]);first|done|rfl|(simp only [zL,zK];rfl)) ?_;(with_reducible refine (impl_MapValid.calls k (fun k_=>k_ < w.heap.size) _ _ l0_0 (fun k_=>k_ < w.heap.size) _ _ l0_1 true _ ?side1 ?side2 A6.out).mono ?_);(case side1=>exact Kd.V_mk HC0_0.out (Kd.F_below (Kd.C_F (Kd.heap_int .i64) HR0_0.out) (by repeat (first|(with_reducible first|exact HB.out|apply zD|apply zB|apply zC|refine zF ?_ GE624.out|refine zF ?_ GE625.out)|exact HB.out))));(case side2=>exact Kd.V_mk HC0_1.out (Kd.F_below (Kd.C_F (Kd.heap_int .i64) HR0_1.out) (by repeat (first|(with_reducible first|exact HB.out|apply zD|apply zB|apply zC|refine zF ?_ GE624.out|refine zF ?_ GE625.out)|exact HB.out))));rintro e w14 ⟨rfl,hb⟩;refine ⟨_,rfl,?_⟩;have n0_:=zA (zX (g:=gb624) (o:=.cells #[.slice A0_0 l0_0.length c0_0,.slice A0_1 l0_1.length c0_1] 27 (0,0)) (by (with_reducible repeat (first|refine zG ?_ _|refine zI ?_|refine zH ?_ _));exact BK624.out) hb);have n1_:=zA (zX (g:=gb625) (o:=.cells #[.slice none 0 0,.slice none 0 0] 27 (0,0)) (by (with_reducible repeat (first|refine zG ?_ _|refine zI ?_|refine zH ?_ _));exact BK625.out) hb);have n2_:=zA (zR (by repeat (first|(with_reducible first|exact HB.out|apply zD|apply zB|apply zC|refine zF ?_ GE624.out|refine zF ?_ GE625.out)|exact HB.out)) hb);clear BK624;clear BK625;clear HB;have BK624:=n0_;have BK625:=n1_;have HB:=n2_;clear n0_ n1_ n2_;(try clear hb);(try clear hb2);(try clear hk);(try clear hi);have hcz15_0:w14.cell? ⟨gb624,0,none⟩ = some (.slice A0_0 l0_0.length c0_0):=(zT BK624.out 0).trans rfl;have hcz15_1:w14.cell? ⟨gb624,1,none⟩ = some (.slice A0_1 l0_1.length c0_1):=(zT BK624.out 1).trans rfl;have hfz15_0:=zZ BK624.out 0;have hfz15_1:=zZ BK624.out 1))
    go_meet
    case rel=>exact ⟨_,(decide (a1 ≥ (l0_0.length:Int))),(by first|rfl|(simp;done)|(simp [*];done)),H',⟨by first|omega|exact Nat.le_refl _⟩,⟨by (with_reducible repeat (first|refine zG ?_ _|refine zI ?_|refine zH ?_ _));exact BK624.out⟩,⟨by (with_reducible repeat (first|refine zG ?_ _|refine zI ?_|refine zH ?_ _));exact BK625.out⟩,⟨by repeat (first|(with_reducible first|exact HB.out|apply zD|apply zB|apply zC|refine zF ?_ GE624.out|refine zF ?_ GE625.out)|exact HB.out)⟩⟩
  ·replace c7:=Bool.eq_false_iff.mpr c7
   subst c7
   have H1:(impl_MapForm.j0 k a1 true l0_0 l0_1) = some (r1,r2,r3):=by rw [if_neg (show ¬ (false = true) by decide)] at H;exact H
   clear H
   have H:=H1
   clear H1
   have H':=zA H
   clear H
   have hnb16:=NB624_625.out
   have hnc16:=NB625_624.out
   have hcz17_0:w5.cell? ⟨gb624,0,none⟩ = some (.slice A0_0 l0_0.length c0_0):=(zT BK624.out 0).trans rfl
   have hcz17_1:w5.cell? ⟨gb624,1,none⟩ = some (.slice A0_1 l0_1.length c0_1):=(zT BK624.out 1).trans rfl
   have hfz17_0:=zZ BK624.out 0
   have hfz17_1:=zZ BK624.out 1
   go_wp2_with (first|((with_reducible refine gate_callee (f:=33) rfl ?_);refine goesL_ (some 7) rfl rfl Try.func33 (by kernel_rfl) rfl #[.agg #[.slice A0_0 l0_0.length c0_0,.slice A0_1 l0_1.length c0_1]] rfl (by (try simp only [zJ,zM,zN]);first|done|rfl|(simp only [zL,zK];rfl)) ?_;(with_reducible refine (impl_MapValid.calls k (fun k_=>k_ < w.heap.size) _ _ l0_0 (fun k_=>k_ < w.heap.size) _ _ l0_1 false _ ?side1 ?side2 A6.out).mono ?_);(case side1=>exact Kd.V_mk HC0_0.out (Kd.F_below (Kd.C_F (Kd.heap_int .i64) HR0_0.out) (by repeat (first|(with_reducible first|exact HB.out|apply zD|apply zB|apply zC|refine zF ?_ GE624.out|refine zF ?_ GE625.out)|exact HB.out))));(case side2=>exact Kd.V_mk HC0_1.out (Kd.F_below (Kd.C_F (Kd.heap_int .i64) HR0_1.out) (by repeat (first|(with_reducible first|exact HB.out|apply zD|apply zB|apply zC|refine zF ?_ GE624.out|refine zF ?_ GE625.out)|exact HB.out))));rintro e w18 ⟨rfl,hb⟩;refine ⟨_,rfl,?_⟩;have n0_:=zA (zX (g:=gb624) (o:=.cells #[.slice A0_0 l0_0.length c0_0,.slice A0_1 l0_1.length c0_1] 27 (0,0)) (by (with_reducible repeat (first|refine zG ?_ _|refine zI ?_|refine zH ?_ _));exact BK624.out) hb);have n1_:=zA (zX (g:=gb625) (o:=.cells #[.slice none 0 0,.slice none 0 0] 27 (0,0)) (by (with_reducible repeat (first|refine zG ?_ _|refine zI ?_|refine zH ?_ _));exact BK625.out) hb);have n2_:=zA (zR (by repeat (first|(with_reducible first|exact HB.out|apply zD|apply zB|apply zC|refine zF ?_ GE624.out|refine zF ?_ GE625.out)|exact HB.out)) hb);clear BK624;clear BK625;clear HB;have BK624:=n0_;have BK625:=n1_;have HB:=n2_;clear n0_ n1_ n2_;(try clear hb);(try clear hb2);(try clear hk);(try clear hi)))
   go_meet
   case rel=>exact ⟨_,(true),(by first|rfl|(simp;done)|(simp [*];done)),H',⟨by first|omega|exact Nat.le_refl _⟩,⟨by (with_reducible repeat (first|refine zG ?_ _|refine zI ?_|refine zH ?_ _));exact BK624.out⟩,⟨by (with_reducible repeat (first|refine zG ?_ _|refine zI ?_|refine zH ?_ _));exact BK625.out⟩,⟨by repeat (first|(with_reducible first|exact HB.out|apply zD|apply zB|apply zC|refine zF ?_ GE624.out|refine zF ?_ GE625.out)|exact HB.out)⟩⟩
 case rest =>
  clear HC3
  (try clear c1);(try clear p2);(try clear c3);(try clear c6);(try clear c7);(try clear c8);(try clear c8b0);(try clear c9);(try clear c12);(try clear c16);(try clear hcz10_0);(try clear hcz10_1);(try clear hcz13_0);(try clear hcz13_1);(try clear hcz15_0);(try clear hcz15_1);(try clear hcz17_0);(try clear hcz17_1);(try clear hfz10_0);(try clear hfz10_1);(try clear hfz13_0);(try clear hfz13_1);(try clear hfz15_0);(try clear hfz15_1);(try clear hfz17_0);(try clear hfz17_1)
  obtain ⟨kq,x19_2,rfl,HA,HJ2,BK624,BK625,HB⟩:=hcut
  cases kq with
  | zero=>exact absurd HA.out (by simp [impl_MapForm.j0])
  | succ kj2 =>
   have H:=HA.out
   clear HA
   simp only [impl_MapForm.j0] at H
   by_cases c19:x19_2 = true
   ·subst c19
    rw [if_pos rfl] at H;try dsimp only at H
    simp only [Option.some.injEq,Prod.mk.injEq] at H
    obtain ⟨rfl,rfl,rfl⟩:=H
    have hnb20:=NB625_624.out
    have hnc20:=NB624_625.out
    have hcz21_0:wc.cell? ⟨gb625,0,none⟩ = some (.slice none 0 0):=(zT BK625.out 0).trans rfl
    have hcz21_1:wc.cell? ⟨gb625,1,none⟩ = some (.slice none 0 0):=(zT BK625.out 1).trans rfl
    have hfz21_0:=zZ BK625.out 0
    have hfz21_1:=zZ BK625.out 1
    go_wp2
    refine bodyPost_ret (results_ct rfl _ _ gb625 27 #[.slice none 0 0,.slice none 0 0] (0,0) _ rfl (by (with_reducible repeat (first|refine zG ?_ _|refine zI ?_|refine zH ?_ _));refine blk_put (cs:=#[.slice none 0 0,.slice none 0 0]) ?_ 1 _ rfl;(with_reducible repeat (first|refine zG ?_ _|refine zI ?_|refine zH ?_ _));refine blk_put (cs:=#[.slice none 0 0,.slice none 0 0]) ?_ 0 _ rfl;(with_reducible repeat (first|refine zG ?_ _|refine zI ?_|refine zH ?_ _));exact BK625.out) Try.underlying27 rfl (by kernel_rfl)) rfl ?_
    exact ⟨_,_,by first|rfl|(simp [errW_none,errW_some] <;> rfl)|(simp [*,errW_none,errW_some] <;> rfl),by first|exact Kd.R_nil _ _ _ _ _|exact Kd.N_nil _ _ _ _ _|exact Kd.V_nil _ _ _ _ _|exact Kd.Q_nil _ _ _ _ _|exact Kd.S_nil _ _ _ _ _,by first|exact Kd.R_nil _ _ _ _ _|exact Kd.N_nil _ _ _ _ _|exact Kd.V_nil _ _ _ _ _|exact Kd.Q_nil _ _ _ _ _|exact Kd.S_nil _ _ _ _ _,by repeat (first|(with_reducible first|exact HB.out|apply zD|apply zB|apply zC|refine zF ?_ GE624.out|refine zF ?_ GE625.out)|exact HB.out)⟩
   ·replace c19:=Bool.eq_false_iff.mpr c19
    subst c19
    have H1:((impl_namesFrom.f kj2 l0_0 l0_1 a1).bind fun t627=>((impl_renamed.f kj2 l0_0 l0_1 t627).bind fun bt630=>(some (bt630.1,bt630.2,true)))) = some (r1,r2,r3):=by rw [if_neg (show ¬ (false = true) by decide)] at H;exact H
    clear H
    have H:=H1
    clear H1
    replace H:=zz0 H
    obtain ⟨t627,A220,H⟩:=H
    try dsimp only at H
    have A22:=zA A220
    clear A220
    replace H:=zz0 H
    obtain ⟨⟨t630,t633⟩,A230,H⟩:=H
    try dsimp only at H
    have A23:=zA A230
    clear A230
    simp only [Option.some.injEq,Prod.mk.injEq] at H
    obtain ⟨rfl,rfl,rfl⟩:=H
    try go_wp2
    have n0_:=zA (zI BK624.out)
    have n1_:=zA (zI BK625.out)
    have n2_:=zA (zC HB.out)
    clear BK624 BK625 HB
    have BK624:=n0_
    have BK625:=n1_
    have HB:=n2_
    clear n0_ n1_ n2_
    refine start_ (n:=7) (S:=fun w'=>w'.cell? ⟨gb624,0,none⟩ = some (.slice A0_0 l0_0.length c0_0)∧w'.cell? ⟨gb624,1,none⟩ = some (.slice A0_1 l0_1.length c0_1)) (ds:=[]) #[zf,zf,zf,zf,zf,zf,zf] (by kernel_rfl) rfl rfl ⟨(zT BK624.out 0).trans rfl,(zT BK624.out 1).trans rfl⟩ (fun hHeld=>?_)
    generalize wc.drew = w24 at BK624 BK625 HB hHeld ⊢
    refine pure_ (i:=2) (N:=some 23) (v:=?_) (a':=?_) #[zf,zf,zt,zf,zf,zf,zf] rfl rfl (by kernel_rfl) (fun _ _ _ h=>h) (Or.inl ⟨by rfl,?_⟩) ?_ ?_
    rotate_left
    ·intro w'
     go_simp
     with_reducible rfl
    rotate_left
    ·simp only [Act.put,zP_,i64_w]
     rfl
    refine take_ (i:=0) (N:=some 21) (v:=?_) (a':=?_) #[zt,zf,zt,zf,zf,zf,zf] rfl rfl (by kernel_rfl) (fun _ _ _ h=>h) (Or.inl ⟨by rfl,?_⟩) hHeld ?_ ?_
    rotate_left
    ·rintro w' ⟨s0,s1⟩
     go_simp
     with_reducible rfl
    rotate_left
    ·simp only [Act.put,zP_,i64_w]
     rfl
    refine take_ (i:=1) (N:=some 22) (v:=?_) (a':=?_) #[zt,zt,zt,zf,zf,zf,zf] rfl rfl (by kernel_rfl) (fun _ _ _ h=>h) (Or.inl ⟨by rfl,?_⟩) hHeld ?_ ?_
    rotate_left
    ·rintro w' ⟨s0,s1⟩
     go_simp
     with_reducible rfl
    rotate_left
    ·simp only [Act.put,zP_,i64_w]
     rfl
    refine one_ (i:=3) (N:=some 24) #[zt,zt,zt,zt,zf,zf,zf] rfl rfl (by kernel_rfl) (by decide) (fun K hK=>?_)
    refine goes_ Try.func118 (by kernel_rfl) rfl #[.agg #[.slice A0_0 l0_0.length c0_0,.slice A0_1 l0_1.length c0_1],.int .i64 a1] (by rfl) rfl rfl (by (try simp only [zJ,zM,zN]);first|done|rfl|(simp only [zL,zK];rfl)) ?_
    with_reducible refine (impl_namesFrom.calls kj2 _ _ l0_0 _ _ l0_1 a1 t627 _ ?side1 ?side2 ?side3 ?side4 A22.out).mono ?_
    (case side1=>repeat (first|exact (zW HR0_0.out HB.out)|(with_reducible exact HR0_0.out)|apply zC_))
    (case side2=>exact HC0_0.out)
    (case side3=>repeat (first|exact (zW HR0_1.out HB.out)|(with_reducible exact HR0_1.out)|apply zC_))
    (case side4=>exact HC0_1.out)
    rintro e w25 ⟨v628,rfl,ho0,hb⟩
    refine ⟨_,rfl,?_⟩
    have n0_:=zA (ze ho0 (zQ (by repeat (first|(with_reducible first|exact HB.out|apply zD|apply zB|apply zC|refine zF ?_ GE624.out|refine zF ?_ GE625.out)|exact HB.out))))
    have n1_:=zA (zX (g:=gb624) (o:=.cells #[.slice A0_0 l0_0.length c0_0,.slice A0_1 l0_1.length c0_1] 27 (0,0)) (by (with_reducible repeat (first|refine zG ?_ _|refine zI ?_|refine zH ?_ _));exact BK624.out) hb)
    have n2_:=zA (zX (g:=gb625) (o:=.cells #[.slice none 0 0,.slice none 0 0] 27 (0,0)) (by (with_reducible repeat (first|refine zG ?_ _|refine zI ?_|refine zH ?_ _));exact BK625.out) hb)
    have n3_:=zA (zR (by repeat (first|(with_reducible first|exact HB.out|apply zD|apply zB|apply zC|refine zF ?_ GE624.out|refine zF ?_ GE625.out)|exact HB.out)) hb)
    clear BK624 BK625 HB
    have HO629:=n0_
    have BK624:=n1_
    have BK625:=n2_
    have HB:=n3_
    clear n0_ n1_ n2_ n3_
    (try clear hb);(try clear hb2);(try clear hk);(try clear hi);(try clear ho0)
    obtain ⟨Ao26,co26,eo26⟩:=zg HO629.out
    (first|subst eo26|(injection eo26 with f1_ f2_ f3_;have f4_:=f1_.symm;have f5_:=f3_.symm;clear f1_ f2_ f3_;subst f4_;subst f5_))
    refine hK.out _ _ ⟨(zT BK624.out 0).trans rfl,(zT BK624.out 1).trans rfl⟩ (fun hHeld=>?_)
    clear hK K
    refine norm_ (a':=?_) ?_ ?_
    rotate_left
    ·show Act.put _ (some 24) _ = _
     simp only [Act.put,zP_,i64_w]
     rfl
    refine one_ (i:=4) (N:=some 25) #[zt,zt,zt,zt,zt,zf,zf] rfl rfl (by kernel_rfl) (by decide) (fun K hK=>?_)
    refine goes_ Try.func117 (by kernel_rfl) rfl #[.agg #[.slice A0_0 l0_0.length c0_0,.slice A0_1 l0_1.length c0_1],.slice Ao26 t627.length co26] (by rfl) rfl rfl (by (try simp only [zJ,zM,zN]);first|done|rfl|(simp only [zL,zK];rfl)) ?_
    with_reducible refine (impl_renamed.calls kj2 _ _ l0_0 _ _ l0_1 _ _ t627 t630 t633 _ ?side1 ?side2 ?side3 ?side4 ?side5 ?side6 A23.out).mono ?_
    (case side1=>repeat (first|exact (zW HR0_0.out HB.out)|(with_reducible exact HR0_0.out)|apply zC_))
    (case side2=>exact HC0_0.out)
    (case side3=>repeat (first|exact (zW HR0_1.out HB.out)|(with_reducible exact HR0_1.out)|apply zC_))
    (case side4=>exact HC0_1.out)
    (case side5=>repeat (first|exact (zU HO629.out).2.2|apply zC_))
    (case side6=>exact (zU HO629.out).2.1)
    rintro e w27 ⟨v631,v634,rfl,ho0,ho1,hb⟩
    refine ⟨_,rfl,?_⟩
    have n0_:=zA (zV (Kd.R_told (Kd.R_told (Kd.R_old (by apply zR_;exact HO629.out) hb) (zd ho0)) (zd ho1)) (fun _ h_=>h_.1))
    have n1_:=zA (ze (zh ho0 (Kd.R_lt (by apply zR_;exact HO629.out))) (zQ (by repeat (first|(with_reducible first|exact HB.out|apply zD|apply zB|apply zC|refine zF ?_ GE624.out|refine zF ?_ GE625.out)|exact HB.out))))
    have n2_:=zA (ze (zh ho1 (Kd.R_lt (by apply zR_;exact HO629.out))) (zQ (by repeat (first|(with_reducible first|exact HB.out|apply zD|apply zB|apply zC|refine zF ?_ GE624.out|refine zF ?_ GE625.out)|exact HB.out))))
    have n3_:=zA (zX (g:=gb624) (o:=.cells #[.slice A0_0 l0_0.length c0_0,.slice A0_1 l0_1.length c0_1] 27 (0,0)) (by (with_reducible repeat (first|refine zG ?_ _|refine zI ?_|refine zH ?_ _));exact BK624.out) hb)
    have n4_:=zA (zX (g:=gb625) (o:=.cells #[.slice none 0 0,.slice none 0 0] 27 (0,0)) (by (with_reducible repeat (first|refine zG ?_ _|refine zI ?_|refine zH ?_ _));exact BK625.out) hb)
    have n5_:=zA (zR (by repeat (first|(with_reducible first|exact HB.out|apply zD|apply zB|apply zC|refine zF ?_ GE624.out|refine zF ?_ GE625.out)|exact HB.out)) hb)
    clear HO629 BK624 BK625 HB
    have HO629:=n0_
    have HO632:=n1_
    have HO635:=n2_
    have BK624:=n3_
    have BK625:=n4_
    have HB:=n5_
    clear n0_ n1_ n2_ n3_ n4_ n5_
    (try clear hb);(try clear hb2);(try clear hk);(try clear hi);(try clear ho0);(try clear ho1)
    obtain ⟨Ao28,co28,eo28⟩:=zg HO632.out
    (first|subst eo28|(injection eo28 with f1_ f2_ f3_;have f4_:=f1_.symm;have f5_:=f3_.symm;clear f1_ f2_ f3_;subst f4_;subst f5_))
    obtain ⟨Ao30,co30,eo30⟩:=zg HO635.out
    (first|subst eo30|(injection eo30 with f1_ f2_ f3_;have f4_:=f1_.symm;have f5_:=f3_.symm;clear f1_ f2_ f3_;subst f4_;subst f5_))
    refine hK.out _ _ ⟨(zT BK624.out 0).trans rfl,(zT BK624.out 1).trans rfl⟩ (fun hHeld=>?_)
    clear hK K
    refine norm_ (a':=?_) ?_ ?_
    rotate_left
    ·show Act.put _ (some 25) _ = _
     simp only [Act.put,zP_,i64_w]
     rfl
    refine one_ (i:=5) (N:=none) #[zt,zt,zt,zt,zt,zt,zf] rfl rfl (by kernel_rfl) (by decide) (fun K hK=>?_)
    have hs29:w27.cell? ⟨gb625,0,none⟩ = some (.slice none 0 0):=(zT BK625.out 0).trans rfl
    have hfs29:=zZ BK625.out 0
    have hns29_0:=NB624_625.out
    have hms29_0:=NB625_624.out
    have hs31:w27.cell? ⟨gb625,1,none⟩ = some (.slice none 0 0):=(zT BK625.out 1).trans rfl
    have hfs31:=zZ BK625.out 1
    have hns31_0:=NB624_625.out
    have hms31_0:=NB625_624.out
    refine skip_ (w1:=?_) (by rfl) rfl ?_ ?_
    rotate_left
    ·go_simp
     rfl
    refine hK.out _ _ ⟨((cell_far (p:=⟨gb625,_,none⟩) NB624_625.out _).trans (((cell_far (p:=⟨gb625,_,none⟩) NB624_625.out _).trans (hHeld.1)))),((cell_far (p:=⟨gb625,_,none⟩) NB624_625.out _).trans (((cell_far (p:=⟨gb625,_,none⟩) NB624_625.out _).trans (hHeld.2))))⟩ (fun hHeld=>?_)
    clear hK K
    refine pure_ (i:=6) (N:=some 5) (v:=?_) (a':=?_) #[zt,zt,zt,zt,zt,zt,zt] rfl rfl (by kernel_rfl) (fun _ _ _ h=>h) (Or.inl ⟨by rfl,?_⟩) ?_ ?_
    rotate_left
    ·intro w'
     go_simp
     with_reducible rfl
    rotate_left
    ·simp only [Act.put,zP_,i64_w]
     rfl
    refine done_ (by kernel_rfl) ?_
    try go_wp2
    refine bodyPost_ret (results_ct rfl _ _ gb625 27 #[.slice Ao28 t630.length co28,.slice Ao30 t633.length co30] (0,0) _ rfl (by (with_reducible repeat (first|refine zG ?_ _|refine zI ?_|refine zH ?_ _));refine blk_put (cs:=#[.slice Ao28 t630.length co28,.slice none 0 0]) ?_ 1 _ rfl;(with_reducible repeat (first|refine zG ?_ _|refine zI ?_|refine zH ?_ _));refine blk_put (cs:=#[.slice none 0 0,.slice none 0 0]) ?_ 0 _ rfl;(with_reducible repeat (first|refine zG ?_ _|refine zI ?_|refine zH ?_ _));exact BK625.out) Try.underlying27 rfl (by kernel_rfl)) rfl ?_
    exact ⟨_,_,by first|rfl|(simp [errW_none,errW_some] <;> rfl)|(simp [*,errW_none,errW_some] <;> rfl),by apply zR_;exact zV (Kd.R_far (p:=⟨gb625,1,none⟩) (Kd.R_far (p:=⟨gb625,0,none⟩) (Kd.R_types HO632.out BK625.out (by decide)) (fun _ hk=>hk.2) (.slice Ao28 t630.length co28)) (fun _ hk=>hk.2) (.slice Ao30 t633.length co30)) (fun _ hk=>hk.1.1),by apply zR_;exact zV (Kd.R_far (p:=⟨gb625,1,none⟩) (Kd.R_far (p:=⟨gb625,0,none⟩) (Kd.R_types HO635.out BK625.out (by decide)) (fun _ hk=>hk.2) (.slice Ao28 t630.length co28)) (fun _ hk=>hk.2) (.slice Ao30 t633.length co30)) (fun _ hk=>hk.1.1),by repeat (first|(with_reducible first|exact HB.out|apply zD|apply zB|apply zC|refine zF ?_ GE624.out|refine zF ?_ GE625.out)|exact HB.out)⟩

/-! ### laws_FnGluingOf: function 10 (a section of my own) -/
def laws_FnGluingOf.r (k:Nat) (t f:List Int) (root:Int) (p:List Int):Option Bool:=(impl_GluingMap.f k p).bind fun x=>(impl_MapForm.f k x.1 x.2.1 0).bind fun a=>(impl_MapForm.f k t f root).bind fun b=>(laws_sameMap.f k a.1 a.2.1 b.1 b.2.1).bind fun s=>(impl_MapSame.f k x.1 x.2.1 t f).bind fun e=>if x.2.2 = true∧a.2.2 = true∧b.2.2 = true∧s = true∧e = true then some true else none
def laws_FnGluingOf.f (k:Nat) (l0:List Int):Option Bool:=if (l0.length:Int) > 1048576 then some true else (spec_DrawGluingOf.f k l0).bind fun m=>(impl_GluingOf.f k m.1 m.2.1 m.2.2).bind fun o=>(spec_GluingOf.f k m.1 m.2.1 m.2.2).bind fun u=>if o = u then (laws_sameInts.f k o.1 o.1).bind fun e=>if e = true then (if o.2 = true then laws_FnGluingOf.r k m.1 m.2.1 m.2.2 o.1 else some true) else none else none
theorem laws_FnGluingOf.inb {w:World} {a:Addr} {v:Value} (h:w.cell? a = some v):a.block < w.heap.size:=by
 refine Nat.lt_of_not_le fun hle=>?_
 have h1:w.heap[a.block]? = none:=Array.getElem?_eq_none hle
 simp [World.cell?,h1] at h
/-- a map in a block of its own -/
abbrev laws_FnGluingOf.Bx (W:World) (g:Nat) (A B:Option Addr) (c d:Nat) (x y:List Int):Prop:=(W.cell? ⟨g,0,none⟩ = some (.slice A x.length c)∧W.cell? ⟨g,1,none⟩ = some (.slice B y.length d))∧(x.length≤c∧Kd.C (Kd.int .i64) W A x.length x)∧(y.length≤d∧Kd.C (Kd.int .i64) W B y.length y)
theorem laws_FnGluingOf.Bx.below {W W':World} {g:Nat} {A B:Option Addr} {c d:Nat} {x y:List Int} (h:laws_FnGluingOf.Bx W g A B c d x y) (hb:Below W.heap.size W W'):laws_FnGluingOf.Bx W' g A B c d x y :=
 ⟨⟨(hb.cell (p:=⟨g,0,none⟩) (laws_FnGluingOf.inb h.1.1)).trans h.1.1,(hb.cell (p:=⟨g,1,none⟩) (laws_FnGluingOf.inb h.1.2)).trans h.1.2⟩,⟨h.2.1.1,zW h.2.1.2 hb⟩,⟨h.2.2.1,zW h.2.2.2 hb⟩⟩
theorem laws_FnGluingOf.Bx.new {W:World} {A B:Option Addr} {c d:Nat} {x y:List Int} (h1:x.length≤c∧Kd.C (Kd.int .i64) W A x.length x) (h2:y.length≤d∧Kd.C (Kd.int .i64) W B y.length y):laws_FnGluingOf.Bx (W.alloc (.cells #[.slice A x.length c,.slice B y.length d] 27 (0,0))) W.heap.size A B c d x y :=
 ⟨⟨by rw [World.cell?_alloc_new];rfl,by rw [World.cell?_alloc_new];rfl⟩,⟨h1.1,Kd.C_alloc h1.2 _⟩,⟨h2.1,Kd.C_alloc h2.2 _⟩⟩
set_option maxHeartbeats 16000000 in
set_option maxRecDepth 100000 in
theorem laws_FnGluingOf.calls (k:Nat) (A0:Option Addr) (c0:Nat) (l0:List Int) (r:Bool) (w:World) (hr0:Kd.C (Kd.int .u8) w A0 l0.length l0) (hc0:l0.length≤c0) (h:laws_FnGluingOf.f k l0 = some r) :
  Calls Try.prog 10 #[.slice A0 l0.length c0] w fun e w'=>e = .returned (.bool r)∧Below w.heap.size w w':=by
 unfold laws_FnGluingOf.f at h
 by_cases c1:(l0.length:Int) > 1048576
 ·rw [if_pos c1] at h
  obtain rfl:=zS h
  have c1b:decide (1048576 < (l0.length:Int)) = true:=zO c1
  have HB:=zA (Below.refl w.heap.size w)
  clear h c1
  go_enter Try.func10,Try.ntmps10
  go_wp2
  go_ret
  exact ⟨rfl,HB.out⟩
 rw [if_neg c1] at h
 have c1b:decide (1048576 < (l0.length:Int)) = false:=zP c1
 clear c1
 obtain ⟨⟨t,f,root⟩,hm,h⟩:=zz0 h
 obtain ⟨⟨p,ok⟩,hp,h⟩:=zz0 h
 obtain ⟨u,hu,h⟩:=zz0 h
 simp only at h hp hu
 by_cases c2:¬ (p,ok) = u
 ·rw [if_neg c2] at h;cases h
 replace c2:=Classical.not_not.mp c2
 rw [if_pos c2] at h
 subst c2
 obtain ⟨e,he,h⟩:=zz0 h
 by_cases c3:¬ e = true
 ·rw [if_neg c3] at h;cases h
 replace c3:=Classical.not_not.mp c3
 rw [if_pos c3] at h
 subst c3
 have HT:=zA hm
 have HO:=zA hp
 have HU:=zA hu
 have HE:=zA he
 have HR0:=zA hr0
 have HC0:=zA hc0
 have HH:=zA h
 clear hm hp hu he hr0 hc0 h
 go_enter Try.func10,Try.ntmps10
 go_upto_region 3 with (fail)
 go_cut [3,4] (fun v3 v4 wc => ∃ (g:Nat) (Ax Ay:Option Addr) (cx cy:Nat),v3 = .pointer (some ⟨g,0,none⟩)∧v4 = .int .i64 root∧Aside0 (laws_FnGluingOf.Bx wc g Ax Ay cx cy t f)∧Aside0 (Below w.heap.size w wc))
 case first =>
  go_wp2_with (go_at_call 59;refine (spec_DrawGluingOf.calls k A0 c0 l0 t f root w HR0.out HC0.out HT.out).mono ?_;rintro e w1 ⟨v0,v1,rfl,hq,hr,hb⟩;obtain ⟨Ax,cx,rfl,lx,gx⟩:=Kd.Q_reads hq;obtain ⟨Ay,cy,rfl⟩:=zg hr;have HX:=zA (And.intro lx gx);have HY:=zA (zU hr).2;have HB1:=zA hb;clear hq hr hb lx gx)
  go_meet
  case rel=>exact ⟨w1.heap.size,Ax,Ay,cx,cy,rfl,rfl,⟨laws_FnGluingOf.Bx.new HX.out HY.out⟩,⟨zD HB1.out _⟩⟩
 case rest =>
  clear HT HR0 HC0 c1b
  obtain ⟨g,Ax,Ay,cx,cy,rfl,rfl,HM,HB⟩:=hcut
  have e0:=HM.out.1.1
  have e1:=HM.out.1.2
  go_upto_region 5 with (go_at_call 24;refine (impl_GluingOf.calls k Ax cx t Ay cy f root p ok wc HM.out.2.1.2 HM.out.2.1.1 HM.out.2.2.2 HM.out.2.2.1 HO.out).mono ?_;rintro e w2 ⟨v2,rfl,ho,hb⟩;obtain ⟨Ap,cp,rfl⟩:=zg ho;have HP2:=zA (zU ho).2;have HM2:=zA (HM.out.below hb);have HB2:=zA (zR HB.out hb);clear ho hb)
  clear e0 e1 HM HB HO
  have e0:=HM2.out.1.1
  have e1:=HM2.out.1.2
  go_upto_region 6 with (go_at_call 49;refine (spec_GluingOf.calls k Ax cx t Ay cy f root p ok w2 HM2.out.2.1.2 HM2.out.2.1.1 HM2.out.2.2.2 HM2.out.2.2.1 HU.out).mono ?_;rintro e w3 ⟨v3,rfl,ho,hb⟩;obtain ⟨Au,cu,rfl⟩:=zg ho;have HU3:=zA (zU ho).2;have HP3:=zA (And.intro HP2.out.1 (zW HP2.out.2 hb));have HM3:=zA (HM2.out.below hb);have HB3:=zA (zR HB2.out hb);clear ho hb)
  clear e0 e1 HM2 HB2 HU HP2
  have h:=HH.out
  clear HH
  cases ok with
  | false =>
   rw [if_neg (by simp)] at h
   obtain rfl:=zS h
   clear h
   go_wp2_with (first|(go_at_call 25;with_reducible refine (laws_sameInts.calls k Ap cp p Au cu p true w3 HP3.out.2 HP3.out.1 HU3.out.2 HU3.out.1 HE.out).mono ?_;rintro e w' ⟨rfl,⟨n1,rfl⟩⟩)|(go_at_call 25;with_reducible refine (laws_sameInts.calls k Ap cp p Au cu p true _ (Kd.C_drewN HP3.out.2 _) HP3.out.1 (Kd.C_drewN HU3.out.2 _) HU3.out.1 HE.out).mono ?_;rintro e w' ⟨rfl,⟨n2,rfl⟩⟩))
   go_ret
   exact ⟨rfl,by repeat (first|exact HB3.out|apply zB)⟩
  | true =>
   rw [if_pos rfl] at h
   unfold laws_FnGluingOf.r at h
   obtain ⟨⟨x0,x1,x2⟩,h1,h⟩:=zz0 h
   obtain ⟨⟨a0,a1,a2⟩,h2,h⟩:=zz0 h
   obtain ⟨⟨b0,b1,b2⟩,h3,h⟩:=zz0 h
   obtain ⟨s,h4,h⟩:=zz0 h
   obtain ⟨ee,h5,h⟩:=zz0 h
   simp only at h h2 h4 h5
   by_cases c4:¬ (x2 = true∧a2 = true∧b2 = true∧s = true∧ee = true)
   ·rw [if_neg c4] at h;cases h
   replace c4:=Classical.not_not.mp c4
   rw [if_pos c4] at h
   obtain rfl:=zS h
   obtain ⟨rfl,rfl,rfl,rfl,rfl⟩:=c4
   have H1:=zA h1
   have H2:=zA h2
   have H3:=zA h3
   have H4:=zA h4
   have H5:=zA h5
   clear h h1 h2 h3 h4 h5
   go_upto_region 8 with (go_at_call 25;refine (laws_sameInts.calls k Ap cp p Au cu p true w3 HP3.out.2 HP3.out.1 HU3.out.2 HU3.out.1 HE.out).mono ?_;rintro e w' ⟨rfl,⟨n1,rfl⟩⟩)
   have HP4:=zA (And.intro HP3.out.1 (Kd.C_drewN HP3.out.2 n1))
   have HM4:=zA (HM3.out.below (zB (Below.refl _ _) n1))
   have HB4:=zA (zB HB3.out n1)
   clear HP3 HM3 HB3 HU3 HE
   generalize w3.drewN n1 = w4 at HP4 HM4 HB4 ⊢
   go_cut [9,10] (fun v9 v10 wc => ∃ (g9:Nat) (A9 B9:Option Addr) (c9 d9:Nat),v9 = .pointer (some ⟨g9,0,none⟩)∧v10 = .bool true∧Aside0 (laws_FnGluingOf.Bx wc g9 A9 B9 c9 d9 x0 x1)∧Aside0 (Below w4.heap.size w4 wc))
   case first =>
    go_wp2_with (go_at_call 18;refine (impl_GluingMap.calls k Ap cp p x0 x1 true w4 HP4.out.2 HP4.out.1 H1.out).mono ?_;rintro e w6 ⟨v0,v1,rfl,hq,hr,hb⟩;obtain ⟨A9,c9,rfl⟩:=zg hq;obtain ⟨B9,d9,rfl⟩:=zg hr;have HX6:=zA (zU hq).2;have HY6:=zA (zU hr).2;have HB6:=zA hb;clear hq hr hb)
    go_meet
    case rel=>exact ⟨w6.heap.size,A9,B9,c9,d9,rfl,rfl,⟨laws_FnGluingOf.Bx.new HX6.out HY6.out⟩,⟨zD HB6.out _⟩⟩
   case rest =>
    obtain ⟨g9,A9,B9,c9,d9,rfl,rfl,HX5,hb⟩:=hcut
    have HM5:=zA (HM4.out.below hb.out)
    have HB5:=zA (zR HB4.out hb.out)
    clear HM4 HB4 hb HP4 H1
    go_upto_region 9 with (fail)
    have e0:=HX5.out.1.1
    have e1:=HX5.out.1.2
    go_cut [11,12] (fun v11 v12 wd => ∃ (ga:Nat) (Aa Ba:Option Addr) (ca da:Nat),v11 = .pointer (some ⟨ga,0,none⟩)∧v12 = .bool true∧Aside0 (laws_FnGluingOf.Bx wd ga Aa Ba ca da a0 a1)∧Aside0 (Below wc.heap.size wc wd))
    case first =>
     go_wp2_with (go_at_call 60;refine (impl_MapForm.calls k A9 c9 x0 B9 d9 x1 0 a0 a1 true wc HX5.out.2.1.2 HX5.out.2.1.1 HX5.out.2.2.2 HX5.out.2.2.1 H2.out).mono ?_;rintro e w6 ⟨v0,v1,rfl,hq,hr,hb⟩;obtain ⟨Aa,ca,rfl⟩:=zg hq;obtain ⟨Ba,da,rfl⟩:=zg hr;have HX6:=zA (zU hq).2;have HY6:=zA (zU hr).2;have HB6:=zA hb;clear hq hr hb)
     go_meet
     case rel=>exact ⟨w6.heap.size,Aa,Ba,ca,da,rfl,rfl,⟨laws_FnGluingOf.Bx.new HX6.out HY6.out⟩,⟨zD HB6.out _⟩⟩
    case rest =>
     clear e0 e1
     obtain ⟨ga,Aa,Ba,ca,da,rfl,rfl,HA6,hb⟩:=hcut
     have HM6:=zA (HM5.out.below hb.out)
     have HX6:=zA (HX5.out.below hb.out)
     have HB6:=zA (zR HB5.out hb.out)
     clear HM5 HX5 HB5 hb H2
     go_upto_region 10 with (fail)
     have e0:=HM6.out.1.1
     have e1:=HM6.out.1.2
     go_cut [13,14] (fun v13 v14 wd => ∃ (gb:Nat) (Ab Bb:Option Addr) (cb db:Nat),v13 = .pointer (some ⟨gb,0,none⟩)∧v14 = .bool true∧Aside0 (laws_FnGluingOf.Bx wd gb Ab Bb cb db b0 b1)∧Aside0 (Below wc.heap.size wc wd))
     case first =>
      go_wp2_with (go_at_call 60;refine (impl_MapForm.calls k Ax cx t Ay cy f root b0 b1 true wc HM6.out.2.1.2 HM6.out.2.1.1 HM6.out.2.2.2 HM6.out.2.2.1 H3.out).mono ?_;rintro e w6 ⟨v0,v1,rfl,hq,hr,hb⟩;obtain ⟨Ab,cb,rfl⟩:=zg hq;obtain ⟨Bb,db,rfl⟩:=zg hr;have HX7:=zA (zU hq).2;have HY7:=zA (zU hr).2;have HB7:=zA hb;clear hq hr hb)
      go_meet
      case rel=>exact ⟨w6.heap.size,Ab,Bb,cb,db,rfl,rfl,⟨laws_FnGluingOf.Bx.new HX7.out HY7.out⟩,⟨zD HB7.out _⟩⟩
     case rest =>
      clear e0 e1
      obtain ⟨gb,Ab,Bb,cb,db,rfl,rfl,HB7,hb⟩:=hcut
      have HM7:=zA (HM6.out.below hb.out)
      have HX7:=zA (HX6.out.below hb.out)
      have HA7:=zA (HA6.out.below hb.out)
      have HBB:=zA (zR HB6.out hb.out)
      clear HM6 HX6 HA6 HB6 hb H3
      have f0:=HA7.out.1.1
      have f1:=HA7.out.1.2
      have f2:=HB7.out.1.1
      have f3:=HB7.out.1.2
      go_wp2_with (first|(go_at_call 23;with_reducible refine (laws_sameMap.calls k Aa ca a0 Ba da a1 Ab cb b0 Bb db b1 true wc HA7.out.2.1.2 HA7.out.2.1.1 HA7.out.2.2.2 HA7.out.2.2.1 HB7.out.2.1.2 HB7.out.2.1.1 HB7.out.2.2.2 HB7.out.2.2.1 H4.out).mono ?_;rintro e w8 ⟨rfl,hb⟩;have HM8:=zA (HM7.out.below hb);have HX8:=zA (HX7.out.below hb);have HB8:=zA (zR HBB.out hb);clear hb f0 f1 f2 f3;have f0:=HM8.out.1.1;have f1:=HM8.out.1.2;have f2:=HX8.out.1.1;have f3:=HX8.out.1.2)|(go_at_call 58;with_reducible refine (impl_MapSame.calls k A9 c9 x0 B9 d9 x1 Ax cx t Ay cy f true w8 HX8.out.2.1.2 HX8.out.2.1.1 HX8.out.2.2.2 HX8.out.2.2.1 HM8.out.2.1.2 HM8.out.2.1.1 HM8.out.2.2.2 HM8.out.2.2.1 H5.out).mono ?_;rintro e w9 ⟨rfl,hb⟩;have HB9:=zA (zR HB8.out hb);clear hb))
      go_ret
      exact ⟨rfl,HB9.out⟩
def laws_FnGluingOf.Pure:Prop := ∀ (l0:List Int),l0.length≤maxLen→l0.length * 1≤140737488351232→(∀ x ∈ l0,(Lit.int .u8 x).wf = true) → ∃ k,laws_FnGluingOf.f k l0 = some true
theorem laws_FnGluingOf.walk (P:laws_FnGluingOf.Pure) (a0:Option Addr) (len0 cap0:Nat) (z0:List Int) (w:World) (w0:(a0 = none∧len0 = 0∧cap0 = 0∧z0 = []) ∨ ∃ x,a0 = some x∧len0≤cap0∧cap0≤maxLen∧z0.length = cap0∧(∀ i,i < z0.length→w.cell? (x.add i) = some (.int .u8 (z0.getD i 0))) ∧ ∀ n ∈ z0,(Lit.int .u8 n).wf = true) (y0:len0 * 1≤140737488351232) :
  Calls Try.prog 10 #[.slice a0 len0 cap0] w fun e w'=>e = .returned (.bool true)∧Below w.heap.size w w':=by
 obtain ⟨l0,rfl,hr0,hm0,hw0,hc0⟩:=ReadsInt.ofRowC w0
 obtain ⟨k,h⟩:=P l0 hm0 y0 hw0
 exact laws_FnGluingOf.calls k _ _ l0 true w (Kd.C_of_reads (d:=(0:Int)) (h1:=fun _=>rfl) hr0) hc0 h

end Go.Proofs.Ytonlecigglbohaa.Q
