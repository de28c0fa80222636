import Derived.Test.YtdaiohcgdpclnaaQ0
import Derived.Test.YtdaiohcgdpclnaaQ10
import Derived.Test.YtdaiohcgdpclnaaQ11
import Derived.Test.YtdaiohcgdpclnaaQ12
import Derived.Test.YtdaiohcgdpclnaaQ13
import Derived.Test.YtdaiohcgdpclnaaQ5
import Derived.Test.YtdaiohcgdpclnaaQ6
import Derived.Test.YtdaiohcgdpclnaaQ8
import Derived.Test.YtdaiohcgdpclnaaQ9
import Derived.Test.YtdaiohcgdpclnaaZ
namespace Go.Proofs.Ytdaiohcgdpclnaa.Q
open Go.RowKit Go.Proofs.YtdaiohcgdpclnaaW.PrintWords Go.Proofs.YtdaiohcgdpclnaaW.PrintLast Go.Proofs.YtdaiohcgdpclnaaW.PrintMore
attribute [local go_sem] max2_int min2_int max_two min_two max_three min_three max_four min_four   -- for this text's walks alone
set_option linter.unusedVariables false
set_option linter.unusedSimpArgs false

/-! ### spec_l2Form: function 78 -/
def spec_l2Form.f (k:Nat) (l0_0:List Int) (l0_1:List Int) (a1:Int):Option (List Int × List Int):=(spec_l2Names.f k l0_0 l0_1 a1).bind fun t547=>((spec_l2Rename.f k l0_0 l0_1 t547).bind fun bt550=>(some (bt550.1,bt550.2)))
theorem spec_l2Form.mono:∀ a0 a1 a2 k,LeO (spec_l2Form.f k a0 a1 a2) (spec_l2Form.f (k+1) a0 a1 a2):=by
 intro a0 a1 a2 k
 unfold spec_l2Form.f
 repeat' first
   | (with_reducible exact spec_l2Names.mono _ _ _ _)
   | (with_reducible exact spec_l2Rename.mono _ _ _ _)
   | (with_reducible exact LeO.refl _)
   | (with_reducible exact za _)
   | (with_reducible refine zc ?_ ?_)
   | (with_reducible refine zb ?_ (fun _=>?_))
set_option maxHeartbeats 8000000 in
set_option maxRecDepth 100000 in
theorem spec_l2Form.calls (k:Nat) (A0_0:Option Addr) (c0_0:Nat) (l0_0:List Int) (A0_1:Option Addr) (c0_1:Nat) (l0_1:List Int) (a1:Int) (r1:List Int) (r2:List Int) (w:World) (hr0_0:Kd.C (Kd.int .i64) w A0_0 l0_0.length l0_0) (hc0_0:l0_0.length≤c0_0) (hr0_1:Kd.C (Kd.int .i64) w A0_1 l0_1.length l0_1) (hc0_1:l0_1.length≤c0_1) (h:spec_l2Form.f k l0_0 l0_1 a1 = some (r1,r2)) :
  Calls Try.prog 78 #[.agg #[.slice A0_0 l0_0.length c0_0,.slice A0_1 l0_1.length c0_1],.int .i64 a1] w fun e w' => ∃ v0_ v1_:Value,e = .returned (.agg #[v0_,v1_])∧Kd.R (Kd.int .i64) 3 w' w.heap.size (fun k_=>some k_≠(v1_:Value).ownBlock) v0_ r1∧Kd.R (Kd.int .i64) 3 w' w.heap.size (fun k_=>some k_≠(v0_:Value).ownBlock) v1_ r2∧Below w.heap.size w w':=by
 have hu33:=Try.underlying33
 have HR0_0:=zA hr0_0
 have HC0_0:=zA hc0_0
 clear hr0_0 hc0_0
 have HR0_1:=zA hr0_1
 have HC0_1:=zA hc0_1
 clear hr0_1 hc0_1
 have HB:=zA (Below.refl w.heap.size w)
 have H:((spec_l2Names.f k l0_0 l0_1 a1).bind fun t547=>((spec_l2Rename.f k l0_0 l0_1 t547).bind fun bt550=>(some (bt550.1,bt550.2)))) = some (r1,r2):=h
 clear h
 replace H:=zz0 H
 obtain ⟨t547,A30,H⟩:=H
 try dsimp only at H
 have A3:=zA A30
 clear A30
 replace H:=zz0 H
 obtain ⟨⟨t550,t553⟩,A40,H⟩:=H
 try dsimp only at H
 have A4:=zA A40
 clear A40
 simp only [Option.some.injEq,Prod.mk.injEq] at H
 obtain ⟨rfl,rfl⟩:=H
 go_enter Try.func78,Try.ntmps78
 try go_wp2_with (first|((with_reducible refine gate_dst (N:=2) rfl ?_);refine box_event ?hg (N:=2) ?hd (cs:=#[.slice A0_0 l0_0.length c0_0,.slice A0_1 l0_1.length c0_1]) (t:=33) ?hr ?_;(case hd=>rfl);(case hg=>rfl);(case hr=>first|(go_simp;done)|(go_simp;rfl));intro gb545 hg w5 hbox hb;have n0_:=zA (zR (by exact zB_ HB.out) hb);have n1_:=zA (hbox);have n2_:=zA ((by rw [hg];exact (zQ (by exact zB_ HB.out)):w.heap.size≤gb545));have n3_:=zA ((by rw [hg];exact (zQ (by exact zB_ HB.out)):w.heap.size≤gb545));clear HB;have HB:=n0_;have BK545:=n1_;have GW545:=n2_;have GE545:=n3_;clear n0_ n1_ n2_ n3_;clear hb hbox hg)|((with_reducible refine gate_dst (N:=4) rfl ?_);refine box_event ?hg (N:=4) ?hd (cs:=#[.slice none 0 0,.slice none 0 0]) (t:=33) ?hr ?_;(case hd=>rfl);(case hg=>rfl);(case hr=>first|(go_simp;done)|(go_simp;rfl));intro gb546 hg w6 hbox hb;have n0_:=zA (zX (g:=gb545) (o:=.cells #[.slice A0_0 l0_0.length c0_0,.slice A0_1 l0_1.length c0_1] 33 (0,0)) (by (with_reducible repeat (first|refine zG ?_ _|refine zI ?_|refine zH ?_ _));exact BK545.out) hb);have n1_:=zA (zR (by repeat (first|(with_reducible first|exact HB.out|apply zD|apply zB|apply zC|refine zF ?_ GE545.out)|exact HB.out)) hb);have n2_:=zA (hbox);have n3_:=zA ((by rw [hg];exact (zQ (by repeat (first|(with_reducible first|exact HB.out|apply zD|apply zB|apply zC|refine zF ?_ GE545.out)|exact HB.out))):w.heap.size≤gb546));have n4_:=zA ((by rw [hg];exact (zQ (by repeat (first|(with_reducible first|exact HB.out|apply zD|apply zB|apply zC|refine zF ?_ GE545.out)|exact HB.out))):w.heap.size≤gb546));have n5_:=zA ((by rw [hg];exact Nat.ne_of_lt (blk_lt (g:=gb545) (o:=.cells #[.slice A0_0 l0_0.length c0_0,.slice A0_1 l0_1.length c0_1] 33 (0,0)) (by (with_reducible repeat (first|refine zG ?_ _|refine zI ?_|refine zH ?_ _));exact BK545.out)):gb545≠gb546));have n6_:=zA ((by rw [hg];exact Nat.ne_of_gt (blk_lt (g:=gb545) (o:=.cells #[.slice A0_0 l0_0.length c0_0,.slice A0_1 l0_1.length c0_1] 33 (0,0)) (by (with_reducible repeat (first|refine zG ?_ _|refine zI ?_|refine zH ?_ _));exact BK545.out)):gb546≠gb545));clear BK545;clear HB;have BK545:=n0_;have HB:=n1_;have BK546:=n2_;have GW546:=n3_;have GE546:=n4_;have NB545_546:=n5_;have NB546_545:=n6_;clear n0_ n1_ n2_ n3_ n4_ n5_ n6_;clear hb hbox hg))
 have n0_:=zA (zI BK545.out)
 have n1_:=zA (zI BK546.out)
 have n2_:=zA (zC HB.out)
 clear BK545 BK546 HB
 have BK545:=n0_
 have BK546:=n1_
 have HB:=n2_
 clear n0_ n1_ n2_
 refine start_ (n:=6) (S:=fun w'=>w'.cell? ⟨gb545,0,none⟩ = some (.slice A0_0 l0_0.length c0_0)∧w'.cell? ⟨gb545,1,none⟩ = some (.slice A0_1 l0_1.length c0_1)) (ds:=[]) #[zf,zf,zf,zf,zf,zf] (by kernel_rfl) rfl rfl ⟨(zT BK545.out 0).trans rfl,(zT BK545.out 1).trans rfl⟩ (fun hHeld=>?_)
 generalize w6.drew = w7 at BK545 BK546 HB hHeld ⊢
 refine pure_ (i:=2) (N:=some 7) (v:=?_) (a':=?_) #[zf,zf,zt,zf,zf,zf] rfl rfl (by kernel_rfl) (fun _ _ _ h=>h) (Or.inl ⟨by rfl,?_⟩) ?_ ?_
 rotate_left
 ·intro w'
  go_simp
  with_reducible rfl
 rotate_left
 ·simp only [Act.put,zP_,i64_w]
  rfl
 refine take_ (i:=0) (N:=some 5) (v:=?_) (a':=?_) #[zt,zf,zt,zf,zf,zf] rfl rfl (by kernel_rfl) (fun _ _ _ h=>h) (Or.inl ⟨by rfl,?_⟩) hHeld ?_ ?_
 rotate_left
 ·rintro w' ⟨s0,s1⟩
  go_simp
  with_reducible rfl
 rotate_left
 ·simp only [Act.put,zP_,i64_w]
  rfl
 refine take_ (i:=1) (N:=some 6) (v:=?_) (a':=?_) #[zt,zt,zt,zf,zf,zf] rfl rfl (by kernel_rfl) (fun _ _ _ h=>h) (Or.inl ⟨by rfl,?_⟩) hHeld ?_ ?_
 rotate_left
 ·rintro w' ⟨s0,s1⟩
  go_simp
  with_reducible rfl
 rotate_left
 ·simp only [Act.put,zP_,i64_w]
  rfl
 refine one_ (i:=3) (N:=some 8) #[zt,zt,zt,zt,zf,zf] rfl rfl (by kernel_rfl) (by decide) (fun K hK=>?_)
 refine goes_ Try.func97 (by kernel_rfl) rfl #[.agg #[.slice A0_0 l0_0.length c0_0,.slice A0_1 l0_1.length c0_1],.int .i64 a1] (by rfl) rfl rfl (by (try simp only [zJ,zM,zN]);first|done|rfl|(simp only [zL,zK];rfl)) ?_
 with_reducible refine (spec_l2Names.calls k _ _ l0_0 _ _ l0_1 a1 t547 _ ?side1 ?side2 ?side3 ?side4 A3.out).mono ?_
 (case side1=>repeat (first|exact (zW HR0_0.out HB.out)|(with_reducible exact HR0_0.out)|apply zC_))
 (case side2=>exact HC0_0.out)
 (case side3=>repeat (first|exact (zW HR0_1.out HB.out)|(with_reducible exact HR0_1.out)|apply zC_))
 (case side4=>exact HC0_1.out)
 rintro e w8 ⟨v548,rfl,ho0,hb⟩
 refine ⟨_,rfl,?_⟩
 have n0_:=zA (ze ho0 (zQ (by repeat (first|(with_reducible first|exact HB.out|apply zD|apply zB|apply zC|refine zF ?_ GE545.out|refine zF ?_ GE546.out)|exact HB.out))))
 have n1_:=zA (zX (g:=gb545) (o:=.cells #[.slice A0_0 l0_0.length c0_0,.slice A0_1 l0_1.length c0_1] 33 (0,0)) (by (with_reducible repeat (first|refine zG ?_ _|refine zI ?_|refine zH ?_ _));exact BK545.out) hb)
 have n2_:=zA (zX (g:=gb546) (o:=.cells #[.slice none 0 0,.slice none 0 0] 33 (0,0)) (by (with_reducible repeat (first|refine zG ?_ _|refine zI ?_|refine zH ?_ _));exact BK546.out) hb)
 have n3_:=zA (zR (by repeat (first|(with_reducible first|exact HB.out|apply zD|apply zB|apply zC|refine zF ?_ GE545.out|refine zF ?_ GE546.out)|exact HB.out)) hb)
 clear BK545 BK546 HB
 have HO549:=n0_
 have BK545:=n1_
 have BK546:=n2_
 have HB:=n3_
 clear n0_ n1_ n2_ n3_
 (try clear hb);(try clear hb2);(try clear hk);(try clear hi);(try clear ho0)
 obtain ⟨Ao9,co9,eo9⟩:=zg HO549.out
 (first|subst eo9|(injection eo9 with f1_ f2_ f3_;have f4_:=f1_.symm;have f5_:=f3_.symm;clear f1_ f2_ f3_;subst f4_;subst f5_))
 refine hK.out _ _ ⟨(zT BK545.out 0).trans rfl,(zT BK545.out 1).trans rfl⟩ (fun hHeld=>?_)
 clear hK K
 refine norm_ (a':=?_) ?_ ?_
 rotate_left
 ·show Act.put _ (some 8) _ = _
  simp only [Act.put,zP_,i64_w]
  rfl
 refine one_ (i:=4) (N:=some 9) #[zt,zt,zt,zt,zt,zf] rfl rfl (by kernel_rfl) (by decide) (fun K hK=>?_)
 refine goes_ Try.func96 (by kernel_rfl) rfl #[.agg #[.slice A0_0 l0_0.length c0_0,.slice A0_1 l0_1.length c0_1],.slice Ao9 t547.length co9] (by rfl) rfl rfl (by (try simp only [zJ,zM,zN]);first|done|rfl|(simp only [zL,zK];rfl)) ?_
 with_reducible refine (spec_l2Rename.calls k _ _ l0_0 _ _ l0_1 _ _ t547 t550 t553 _ ?side1 ?side2 ?side3 ?side4 ?side5 ?side6 A4.out).mono ?_
 (case side1=>repeat (first|exact (zW HR0_0.out HB.out)|(with_reducible exact HR0_0.out)|apply zC_))
 (case side2=>exact HC0_0.out)
 (case side3=>repeat (first|exact (zW HR0_1.out HB.out)|(with_reducible exact HR0_1.out)|apply zC_))
 (case side4=>exact HC0_1.out)
 (case side5=>repeat (first|exact (zU HO549.out).2.2|apply zC_))
 (case side6=>exact (zU HO549.out).2.1)
 rintro e w10 ⟨v551,v554,rfl,ho0,ho1,hb⟩
 refine ⟨_,rfl,?_⟩
 have n0_:=zA (zV (Kd.R_told (Kd.R_told (Kd.R_old (by apply zR_;exact HO549.out) hb) (zd ho0)) (zd ho1)) (fun _ h_=>h_.1))
 have n1_:=zA (ze (zh ho0 (Kd.R_lt (by apply zR_;exact HO549.out))) (zQ (by repeat (first|(with_reducible first|exact HB.out|apply zD|apply zB|apply zC|refine zF ?_ GE545.out|refine zF ?_ GE546.out)|exact HB.out))))
 have n2_:=zA (ze (zh ho1 (Kd.R_lt (by apply zR_;exact HO549.out))) (zQ (by repeat (first|(with_reducible first|exact HB.out|apply zD|apply zB|apply zC|refine zF ?_ GE545.out|refine zF ?_ GE546.out)|exact HB.out))))
 have n3_:=zA (zX (g:=gb545) (o:=.cells #[.slice A0_0 l0_0.length c0_0,.slice A0_1 l0_1.length c0_1] 33 (0,0)) (by (with_reducible repeat (first|refine zG ?_ _|refine zI ?_|refine zH ?_ _));exact BK545.out) hb)
 have n4_:=zA (zX (g:=gb546) (o:=.cells #[.slice none 0 0,.slice none 0 0] 33 (0,0)) (by (with_reducible repeat (first|refine zG ?_ _|refine zI ?_|refine zH ?_ _));exact BK546.out) hb)
 have n5_:=zA (zR (by repeat (first|(with_reducible first|exact HB.out|apply zD|apply zB|apply zC|refine zF ?_ GE545.out|refine zF ?_ GE546.out)|exact HB.out)) hb)
 clear HO549 BK545 BK546 HB
 have HO549:=n0_
 have HO552:=n1_
 have HO555:=n2_
 have BK545:=n3_
 have BK546:=n4_
 have HB:=n5_
 clear n0_ n1_ n2_ n3_ n4_ n5_
 (try clear hb);(try clear hb2);(try clear hk);(try clear hi);(try clear ho0);(try clear ho1)
 obtain ⟨Ao11,co11,eo11⟩:=zg HO552.out
 (first|subst eo11|(injection eo11 with f1_ f2_ f3_;have f4_:=f1_.symm;have f5_:=f3_.symm;clear f1_ f2_ f3_;subst f4_;subst f5_))
 obtain ⟨Ao13,co13,eo13⟩:=zg HO555.out
 (first|subst eo13|(injection eo13 with f1_ f2_ f3_;have f4_:=f1_.symm;have f5_:=f3_.symm;clear f1_ f2_ f3_;subst f4_;subst f5_))
 refine hK.out _ _ ⟨(zT BK545.out 0).trans rfl,(zT BK545.out 1).trans rfl⟩ (fun hHeld=>?_)
 clear hK K
 refine norm_ (a':=?_) ?_ ?_
 rotate_left
 ·show Act.put _ (some 9) _ = _
  simp only [Act.put,zP_,i64_w]
  rfl
 refine one_ (i:=5) (N:=none) #[zt,zt,zt,zt,zt,zt] rfl rfl (by kernel_rfl) (by decide) (fun K hK=>?_)
 have hs12:w10.cell? ⟨gb546,0,none⟩ = some (.slice none 0 0):=(zT BK546.out 0).trans rfl
 have hfs12:=zZ BK546.out 0
 have hns12_0:=NB545_546.out
 have hms12_0:=NB546_545.out
 have hs14:w10.cell? ⟨gb546,1,none⟩ = some (.slice none 0 0):=(zT BK546.out 1).trans rfl
 have hfs14:=zZ BK546.out 1
 have hns14_0:=NB545_546.out
 have hms14_0:=NB546_545.out
 refine skip_ (w1:=?_) (by rfl) rfl ?_ ?_
 rotate_left
 ·go_simp
  rfl
 refine hK.out _ _ ⟨((cell_far (p:=⟨gb546,_,none⟩) NB545_546.out _).trans (((cell_far (p:=⟨gb546,_,none⟩) NB545_546.out _).trans (hHeld.1)))),((cell_far (p:=⟨gb546,_,none⟩) NB545_546.out _).trans (((cell_far (p:=⟨gb546,_,none⟩) NB545_546.out _).trans (hHeld.2))))⟩ (fun hHeld=>?_)
 clear hK K
 refine done_ (by kernel_rfl) ?_
 try go_wp2
 refine bodyPost_ret (results_cell_row rfl _ _ gb546 33 #[.slice Ao11 t550.length co11,.slice Ao13 t553.length co13] (0,0) _ rfl (by (with_reducible repeat (first|refine zG ?_ _|refine zI ?_|refine zH ?_ _));refine blk_put (cs:=#[.slice Ao11 t550.length co11,.slice none 0 0]) ?_ 1 _ rfl;(with_reducible repeat (first|refine zG ?_ _|refine zI ?_|refine zH ?_ _));refine blk_put (cs:=#[.slice none 0 0,.slice none 0 0]) ?_ 0 _ rfl;(with_reducible repeat (first|refine zG ?_ _|refine zI ?_|refine zH ?_ _));exact BK546.out) Try.underlying33 rfl (by kernel_rfl)) rfl ?_
 exact ⟨_,_,by first|rfl|(simp [errW_none,errW_some] <;> rfl)|(simp [*,errW_none,errW_some] <;> rfl),by apply zR_;exact zV (zi (p:=⟨gb546,1,none⟩) (zi (p:=⟨gb546,0,none⟩) (Kd.R_types HO552.out BK546.out (by decide)) (fun _ hk=>hk.2) (.slice Ao11 t550.length co11)) (fun _ hk=>hk.2) (.slice Ao13 t553.length co13)) (fun _ hk=>hk.1.1),by apply zR_;exact zV (zi (p:=⟨gb546,1,none⟩) (zi (p:=⟨gb546,0,none⟩) (Kd.R_types HO555.out BK546.out (by decide)) (fun _ hk=>hk.2) (.slice Ao11 t550.length co11)) (fun _ hk=>hk.2) (.slice Ao13 t553.length co13)) (fun _ hk=>hk.1.1),by repeat (first|(with_reducible first|exact HB.out|apply zD|apply zB|apply zC|refine zF ?_ GE545.out|refine zF ?_ GE546.out)|exact HB.out)⟩

/-! ### spec_l3All: function 45 -/
mutual
def spec_l3All.l0:Nat→Int→List (S33)→List Int→List Int→Option ((List (S33)))
 | 0,_,_,_,_=>none
 | k+1,x1,x5,x6,x7=>if (x7.length:Int) > 0 then ((spec_MapValid.f k x7 x6).bind fun t566=>(if t566 = true then ((spec_l2Genus.f k x7 x6).bind fun t567=>(spec_l3All.j1 k x1 x5 x6 x7 (t567 == x1) x7 x6)) else (spec_l3All.j1 k x1 x5 x6 x7 false x7 x6))) else (some x5)
def spec_l3All.j1:Nat→Int→List (S33)→List Int→List Int→Bool→List Int→List Int→Option ((List (S33)))
 | 0,_,_,_,_,_,_,_=>none
 | k+1,x1,x5,x6,x7,x30,x566000,x566001=>if x30 = true then ((spec_l2Form.f k x566000 x566001 0).bind fun bt568=>((spec_l3Put.f k x5 bt568.1 bt568.2).bind fun t574=>((spec_l3Next.f k x7).bind fun t577=>(spec_l3All.l0 k x1 t574 x6 t577)))) else ((spec_l3Next.f k x7).bind fun t580=>(spec_l3All.l0 k x1 x5 x6 t580))
end
def spec_l3All.f (k:Nat) (a0:Int) (a1:Int):Option ((List (S33))):=(spec_l3Flip.f k a0).bind fun t559=>((spec_l1Same.f k (wrap64 (2 * a0))).bind fun t562=>(spec_l3All.l0 k a1 (([]:List (S33))) t559 t562))
theorem spec_l3All.mono_l:∀ k,(∀ y0 y1 y2 y3,LeO (spec_l3All.l0 k y0 y1 y2 y3) (spec_l3All.l0 (k+1) y0 y1 y2 y3))∧(∀ y0 y1 y2 y3 y4 y5 y6,LeO (spec_l3All.j1 k y0 y1 y2 y3 y4 y5 y6) (spec_l3All.j1 (k+1) y0 y1 y2 y3 y4 y5 y6))
 | 0=>⟨fun _ _ _ _ r h=>by simp [spec_l3All.l0] at h,fun _ _ _ _ _ _ _ r h=>by simp [spec_l3All.j1] at h⟩
 | k+1=>by
  obtain ⟨ih0,ih1⟩:=spec_l3All.mono_l k
  refine ⟨?_,?_⟩
  ·intro y0 y1 y2 y3
   unfold spec_l3All.l0
   repeat' first
   | (with_reducible exact ih0 _ _ _ _)
   | (with_reducible exact ih1 _ _ _ _ _ _ _)
   | (with_reducible exact spec_MapValid.mono _ _ _)
   | (with_reducible exact spec_l1Same.mono _ _)
   | (with_reducible exact spec_l2Form.mono _ _ _ _)
   | (with_reducible exact spec_l2Genus.mono _ _ _)
   | (with_reducible exact spec_l3Flip.mono _ _)
   | (with_reducible exact spec_l3Next.mono _ _)
   | (with_reducible exact spec_l3Put.mono _ _ _ _)
   | (with_reducible exact LeO.refl _)
   | (with_reducible exact za _)
   | (with_reducible refine zc ?_ ?_)
   | (with_reducible refine zb ?_ (fun _=>?_))
  ·intro y0 y1 y2 y3 y4 y5 y6
   unfold spec_l3All.j1
   repeat' first
   | (with_reducible exact ih0 _ _ _ _)
   | (with_reducible exact ih1 _ _ _ _ _ _ _)
   | (with_reducible exact spec_MapValid.mono _ _ _)
   | (with_reducible exact spec_l1Same.mono _ _)
   | (with_reducible exact spec_l2Form.mono _ _ _ _)
   | (with_reducible exact spec_l2Genus.mono _ _ _)
   | (with_reducible exact spec_l3Flip.mono _ _)
   | (with_reducible exact spec_l3Next.mono _ _)
   | (with_reducible exact spec_l3Put.mono _ _ _ _)
   | (with_reducible exact LeO.refl _)
   | (with_reducible exact za _)
   | (with_reducible refine zc ?_ ?_)
   | (with_reducible refine zb ?_ (fun _=>?_))
theorem spec_l3All.mono:∀ a0 a1 k,LeO (spec_l3All.f k a0 a1) (spec_l3All.f (k+1) a0 a1):=by
 intro a0 a1 k
 obtain ⟨ih0,ih1⟩:=spec_l3All.mono_l k
 unfold spec_l3All.f
 repeat' first
   | (with_reducible exact ih0 _ _ _ _)
   | (with_reducible exact ih1 _ _ _ _ _ _ _)
   | (with_reducible exact spec_MapValid.mono _ _ _)
   | (with_reducible exact spec_l1Same.mono _ _)
   | (with_reducible exact spec_l2Form.mono _ _ _ _)
   | (with_reducible exact spec_l2Genus.mono _ _ _)
   | (with_reducible exact spec_l3Flip.mono _ _)
   | (with_reducible exact spec_l3Next.mono _ _)
   | (with_reducible exact spec_l3Put.mono _ _ _ _)
   | (with_reducible exact LeO.refl _)
   | (with_reducible exact za _)
   | (with_reducible refine zc ?_ ?_)
   | (with_reducible refine zb ?_ (fun _=>?_))
set_option maxHeartbeats 8000000 in
set_option maxRecDepth 100000 in
theorem spec_l3All.calls (k:Nat) (a0:Int) (a1:Int) (r:List (S33)) (w:World) (h:spec_l3All.f k a0 a1 = some r) :
  Calls Try.prog 45 #[.int .i64 a0,.int .i64 a1] w fun e w' => ∃ v0_:Value,e = .returned (v0_)∧Kd.V k33 33 w' w.heap.size (fun k_=>(w.heap.size≤k_)) v0_ r∧Below w.heap.size w w':=by
 have hu33:=Try.underlying33
 have HB:=zA (Below.refl w.heap.size w)
 have H:((spec_l3Flip.f k a0).bind fun t559=>((spec_l1Same.f k (wrap64 (2 * a0))).bind fun t562=>(spec_l3All.l0 k a1 (([]:List (S33))) t559 t562))) = some r:=h
 clear h
 obtain ⟨y556,hy556⟩:∃ y_:List (S33),y_ = (([]:List (S33))):=⟨_,rfl⟩
 replace H:((spec_l3Flip.f k a0).bind fun t559=>((spec_l1Same.f k (wrap64 (2 * a0))).bind fun t562=>(spec_l3All.l0 k a1 y556 t559 t562))) = some r:=by (try rw [hy556]);first|with_reducible exact H|with_reducible exact zS_ H|exact H
 have Ny556:=zA hy556
 clear hy556
 replace H:=zz0 H
 obtain ⟨t559,A30,H⟩:=H
 try dsimp only at H
 have A3:=zA A30
 clear A30
 replace H:=zz0 H
 obtain ⟨t562,A40,H⟩:=H
 try dsimp only at H
 have A4:=zA A40
 clear A40
 have H':=zA H
 clear H
 go_enter Try.func45,Try.ntmps45
 go_wp2_with (first|((with_reducible refine gate_dst (N:=9) rfl ?_);refine Kd.S_lit k33 _ 33 ?hg (N:=9) ?hd (xs:=([]:List (S33))) (inner:=[]) (ok:=fun _=>True) (okp:=fun _=>True) ?hr ?hp (fun _ hk=>hk) trivial (Below.refl _ _) (Nat.le_refl _) (by simp) ?_;(case hd=>rfl);(case hg=>rfl);(case hr=>first|(go_simp;done)|(go_simp;rfl));(case hp=>exact (Reps.none _ _));intro v557 w5 ho6 hb hg_ hnew_;clear hg_ hnew_;(first|rw [← Ny556.out] at ho6|(simp only [Int.reduceToNat] at ho6;rw [← Ny556.out] at ho6));have n0_:=zA (Kd.S_lower (Kd.S_newM (M:=fun k_=>(w.heap.size≤k_)) ho6 (zQ (by exact zB_ HB.out)) (fun k_ h_=>h_)) (zQ (by exact zB_ HB.out)));have n1_:=zA (zR (by exact zB_ HB.out) hb);clear HB;have HO558:=n0_;have HB:=n1_;clear n0_ n1_;clear hb ho6)|((with_reducible refine gate_callee (f:=73) rfl ?_);refine goesL_ (some 11) rfl rfl Try.func73 (by kernel_rfl) rfl #[.int .i64 a0] rfl (by (try simp only [zJ,zM,zN]);first|done|rfl|(simp only [zL,zK];rfl)) ?_;(with_reducible refine (spec_l3Flip.calls k a0 t559 _ A3.out).mono ?_);rintro e w7 ⟨v560,rfl,ho0,hb⟩;refine ⟨_,rfl,?_⟩;have n0_:=zA (Kd.S_elder' (by (with_reducible repeat (first|apply Kd.S_alloc|apply Kd.S_drewN|apply Kd.S_drew));exact HO558.out) (zd ho0) hb);have n1_:=zA (ze (Kd.R_newM (M:=fun k_=>(w.heap.size≤k_)) ho0 (zQ (by exact zB_ HB.out)) (fun k_ h_=>h_)) (zQ (by exact zB_ HB.out)));have n2_:=zA (zR (by exact zB_ HB.out) hb);clear HO558;clear HB;have HO558:=n0_;have HO561:=n1_;have HB:=n2_;clear n0_ n1_ n2_;(try clear hb);(try clear hb2);(try clear hk);(try clear hi);(try clear ho0))|((with_reducible refine gate_callee (f:=74) rfl ?_);refine goesL_ (some 14) rfl rfl Try.func74 (by kernel_rfl) rfl #[.int .i64 (wrap64 (2 * a0))] rfl (by (try simp only [zJ,zM,zN]);first|done|rfl|(simp only [zL,zK];rfl)) ?_;(with_reducible refine (spec_l1Same.calls k (wrap64 (2 * a0)) t562 _ A4.out).mono ?_);rintro e w8 ⟨v563,rfl,ho0,hb⟩;refine ⟨_,rfl,?_⟩;have n0_:=zA (Kd.S_elder' (by (with_reducible repeat (first|apply Kd.S_alloc|apply Kd.S_drewN|apply Kd.S_drew));exact HO558.out) (zd ho0) hb);have n1_:=zA (Kd.R_elder' (by apply zR_;exact HO561.out) (zd ho0) hb);have n2_:=zA (ze (zh (Kd.R_newM (M:=fun k_=>(w.heap.size≤k_)) ho0 (zQ (by exact zB_ HB.out)) (fun k_ h_=>h_)) (Kd.R_lt (by apply zR_;exact HO561.out))) (zQ (by exact zB_ HB.out)));have n3_:=zA (zR (by exact zB_ HB.out) hb);clear HO558;clear HO561;clear HB;have HO558:=n0_;have HO561:=n1_;have HO564:=n2_;have HB:=n3_;clear n0_ n1_ n2_ n3_;(try clear hb);(try clear hb2);(try clear hk);(try clear hi);(try clear ho0)))
 go_loopg [5,7] k (fun kq v5 v7 w' => ∃ (x5_1:List (S33)) (x7_1:List Int),Aside0 (spec_l3All.l0 kq a1 x5_1 t559 x7_1 = some r)∧Aside0 (kq≤k)∧Aside0 (Kd.V k33 33 w' w.heap.size (fun k_=>(w.heap.size≤k_)∧some k_≠(v560:Value).ownBlock∧some k_≠(v7:Value).ownBlock) v5 x5_1)∧Aside0 (Kd.R (Kd.int .i64) 3 w' w.heap.size (fun k_=>(w.heap.size≤k_)∧some k_≠(v7:Value).ownBlock) v560 t559)∧Aside0 (Kd.R (Kd.int .i64) 3 w' w.heap.size (fun k_=>(w.heap.size≤k_)∧some k_≠(v560:Value).ownBlock) v7 x7_1)∧Aside0 (Below w.heap.size w w'))
 case atStart=>exact ⟨(y556),(t562),H',⟨Nat.le_refl _⟩,⟨Kd.S_V (by (with_reducible repeat (first|apply Kd.S_alloc|apply Kd.S_drewN|apply Kd.S_drew));exact Kd.S_mono HO558.out (fun _ hk=>⟨hk.1.1.1,⟨hk.1.2,hk.2⟩⟩))⟩,⟨by apply zR_;exact zV HO561.out (fun _ hk=>⟨hk.1.1,hk.2⟩)⟩,⟨by apply zR_;exact zV HO564.out (fun _ hk=>⟨hk.1.1,hk.2⟩)⟩,⟨by exact zB_ HB.out⟩⟩
 case round =>
  clear H'
  (try clear p2);(try clear c4);(try clear p6);(try clear c7)
  obtain ⟨x5_1,x7_1,HA,HK1,HO_5,HO_6,HO_7,HB⟩:=hrel
  cases gk with
  | zero=>exact absurd HA.out (by simp [spec_l3All.l0])
  | succ k1 =>
   have H:=HA.out
   clear HA
   simp only [spec_l3All.l0] at H
   by_cases c9:(x7_1.length:Int) > 0
   ·rw [if_pos c9] at H
    have c9b0:decide (0 < (x7_1.length:Int)) = true:=zO c9
    have c9b1:decide (0 < x7_1.length) = true:=zO (by omega)
    clear c9
    have HC10:=zA H
    clear H
    obtain ⟨Ao11,co11,eo11⟩:=zg HO_7.out
    subst eo11
    obtain ⟨Ao12,co12,eo12⟩:=zg HO_6.out
    subst eo12
    go_upto_region 7 with (first|((with_reducible refine gate_dst (N:=8) rfl ?_);refine box_event ?hg (N:=8) ?hd (cs:=#[.slice none 0 0,.slice none 0 0]) (t:=33) ?hr ?_;(case hd=>rfl);(case hg=>rfl);(case hr=>first|(go_simp;done)|(go_simp;rfl));intro gb565 hg w13 hbox hb;have n0_:=zA (Kd.V_below (Kd.V_elderB (by apply zV_;exact HO_5.out) gb565 (Nat.le_of_eq hg.symm)) hb);have n1_:=zA (zj (by apply zR_;exact HO_6.out) hb);have n2_:=zA (zj (by apply zR_;exact HO_7.out) hb);have n3_:=zA (zR (by exact zB_ HB.out) hb);have n4_:=zA (hbox);have n5_:=zA ((by rw [hg];exact (zQ (by exact zB_ HB.out)):w.heap.size≤gb565));have n6_:=zA ((by rw [hg];exact (zQ (by exact zB_ HB.out)):w.heap.size≤gb565));clear HO_5;clear HO_6;clear HO_7;clear HB;have HO_5:=n0_;have HO_6:=n1_;have HO_7:=n2_;have HB:=n3_;have BK565:=n4_;have GW565:=n5_;have GE565:=n6_;clear n0_ n1_ n2_ n3_ n4_ n5_ n6_;clear hb hbox hg;have hcz14_0:w13.cell? ⟨gb565,0,none⟩ = some (.slice none 0 0):=(zT BK565.out 0).trans rfl;have hcz14_1:w13.cell? ⟨gb565,1,none⟩ = some (.slice none 0 0):=(zT BK565.out 1).trans rfl;have hfz14_0:=zZ BK565.out 0;have hfz14_1:=zZ BK565.out 1))
    (try simp only [Act.put,zP_])
    go_cut [30] (fun v30 wc => ∃ (kq:Nat) (x30_9:Bool),v30 = .bool x30_9∧Aside0 (spec_l3All.j1 kq a1 x5_1 t559 x7_1 x30_9 x7_1 t559 = some r)∧Aside0 (kq≤k1)∧Aside0 (Kd.V k33 33 wc w.heap.size (fun k_=>(w.heap.size≤k_)∧some k_≠((.slice Ao12 t559.length co12):Value).ownBlock∧some k_≠((.slice Ao11 x7_1.length co11):Value).ownBlock∧some k_≠((.slice Ao11 x7_1.length co11):Value).ownBlock∧some k_≠((.slice Ao12 t559.length co12):Value).ownBlock∧k_≠gb565) u5 x5_1)∧Aside0 (Kd.R (Kd.int .i64) 3 wc w.heap.size (fun k_=>(w.heap.size≤k_)∧some k_≠((.slice Ao11 x7_1.length co11):Value).ownBlock∧some k_≠((.slice Ao11 x7_1.length co11):Value).ownBlock) (.slice Ao12 t559.length co12) t559)∧Aside0 (Kd.R (Kd.int .i64) 3 wc w.heap.size (fun k_=>(w.heap.size≤k_)∧some k_≠((.slice Ao12 t559.length co12):Value).ownBlock∧some k_≠((.slice Ao12 t559.length co12):Value).ownBlock) (.slice Ao11 x7_1.length co11) x7_1)∧Aside0 (Kd.R (Kd.int .i64) 3 wc w.heap.size (fun k_=>(w.heap.size≤k_)∧some k_≠((.slice Ao12 t559.length co12):Value).ownBlock∧some k_≠((.slice Ao12 t559.length co12):Value).ownBlock) (.slice Ao11 x7_1.length co11) x7_1)∧Aside0 (Kd.R (Kd.int .i64) 3 wc w.heap.size (fun k_=>(w.heap.size≤k_)∧some k_≠((.slice Ao11 x7_1.length co11):Value).ownBlock∧some k_≠((.slice Ao11 x7_1.length co11):Value).ownBlock) (.slice Ao12 t559.length co12) t559)∧Aside0 (wc.heap[gb565]? = some (.cells #[(.slice Ao11 x7_1.length co11),(.slice Ao12 t559.length co12)] 33 (0,0)))∧Aside0 (Below w.heap.size w wc))
    case first =>
     have H:=HC10.out
     clear HC10
     replace H:=zz0 H
     obtain ⟨t566,A150,H⟩:=H
     try dsimp only at H
     have A15:=zA A150
     clear A150
     by_cases c16:t566 = true
     ·subst c16
      rw [if_pos rfl] at H;try dsimp only at H
      replace H:=zz0 H
      obtain ⟨t567,A170,H⟩:=H
      try dsimp only at H
      have A17:=zA A170
      clear A170
      have H':=zA H
      clear H
      have hcz18_0:w13.cell? ⟨gb565,0,none⟩ = some (.slice none 0 0):=(zT BK565.out 0).trans rfl
      have hcz18_1:w13.cell? ⟨gb565,1,none⟩ = some (.slice none 0 0):=(zT BK565.out 1).trans rfl
      have hfz18_0:=zZ BK565.out 0
      have hfz18_1:=zZ BK565.out 1
      go_wp2_with (first|((with_reducible refine gate_callee (f:=76) rfl ?_);refine goesL_ (some 24) rfl rfl Try.func76 (by kernel_rfl) rfl #[.agg #[.slice Ao11 x7_1.length co11,.slice Ao12 t559.length co12]] rfl (by (try simp only [zJ,zM,zN]);first|done|rfl|(simp only [zL,zK];rfl)) ?_;(with_reducible refine (spec_MapValid.calls k1 _ _ x7_1 _ _ t559 true _ ?side1 ?side2 ?side3 ?side4 A15.out).mono ?_);(case side1=>refine (zU (e:=3) (base:=w.heap.size) (ok:=fun k_=>((w.heap.size≤k_)∧some k_≠(.slice Ao12 t559.length co12:Value).ownBlock)) (n:=x7_1.length) (c:=co11) ?_).2.2;exact (by apply zR_;exact (zV (zi (p:=⟨gb565,1,none⟩) (zi (p:=⟨gb565,0,none⟩) (Kd.R_types HO_7.out BK565.out (by decide)) (fun _ hk=>hk.2) (.slice Ao11 x7_1.length co11)) (fun _ hk=>hk.2) (.slice Ao12 t559.length co12)) (fun _ h_=>h_.1))));(case side2=>exact (zU HO_7.out).2.1);(case side3=>refine (zU (e:=3) (base:=w.heap.size) (ok:=fun k_=>((w.heap.size≤k_)∧some k_≠(.slice Ao11 x7_1.length co11:Value).ownBlock)) (n:=t559.length) (c:=co12) ?_).2.2;exact (by apply zR_;exact (zV (zi (p:=⟨gb565,1,none⟩) (zi (p:=⟨gb565,0,none⟩) (Kd.R_types HO_6.out BK565.out (by decide)) (fun _ hk=>hk.2) (.slice Ao11 x7_1.length co11)) (fun _ hk=>hk.2) (.slice Ao12 t559.length co12)) (fun _ h_=>h_.1))));(case side4=>exact (zU HO_6.out).2.1);rintro e w19 ⟨rfl,hb⟩;refine ⟨_,rfl,?_⟩;have n0_:=zA (Kd.V_below (by apply zV_;exact (Kd.V_mono (Kd.V_far (p:=⟨gb565,1,none⟩) (Kd.V_far (p:=⟨gb565,0,none⟩) (Kd.V_mono HO_5.out (fun k_ hk=>(⟨hk,hk.2⟩:_∧k_≠gb565))) (fun _ hk=>hk.2) (.slice Ao11 x7_1.length co11)) (fun _ hk=>hk.2) (.slice Ao12 t559.length co12)) (fun _ h_=>h_.1))) hb);have n1_:=zA (zj (by apply zR_;exact (zV (zi (p:=⟨gb565,1,none⟩) (zi (p:=⟨gb565,0,none⟩) (Kd.R_types HO_6.out BK565.out (by decide)) (fun _ hk=>hk.2) (.slice Ao11 x7_1.length co11)) (fun _ hk=>hk.2) (.slice Ao12 t559.length co12)) (fun _ h_=>h_.1))) hb);have n2_:=zA (zj (by apply zR_;exact (zV (zi (p:=⟨gb565,1,none⟩) (zi (p:=⟨gb565,0,none⟩) (Kd.R_types HO_7.out BK565.out (by decide)) (fun _ hk=>hk.2) (.slice Ao11 x7_1.length co11)) (fun _ hk=>hk.2) (.slice Ao12 t559.length co12)) (fun _ h_=>h_.1))) hb);have n3_:=zA (zX (g:=gb565) (o:=.cells #[.slice Ao11 x7_1.length co11,.slice Ao12 t559.length co12] 33 (0,0)) (by (with_reducible repeat (first|refine zG ?_ _|refine zI ?_|refine zH ?_ _));refine blk_put (cs:=#[.slice Ao11 x7_1.length co11,.slice none 0 0]) ?_ 1 _ rfl;(with_reducible repeat (first|refine zG ?_ _|refine zI ?_|refine zH ?_ _));refine blk_put (cs:=#[.slice none 0 0,.slice none 0 0]) ?_ 0 _ rfl;(with_reducible repeat (first|refine zG ?_ _|refine zI ?_|refine zH ?_ _));exact BK565.out) hb);have n4_:=zA (zR (by repeat (first|(with_reducible first|exact HB.out|apply zD|apply zB|apply zC|refine zF ?_ GE565.out)|exact HB.out)) hb);clear HO_5;clear HO_6;clear HO_7;clear BK565;clear HB;have HO_5:=n0_;have HO_6:=n1_;have HO_7:=n2_;have BK565:=n3_;have HB:=n4_;clear n0_ n1_ n2_ n3_ n4_;(try clear hb);(try clear hb2);(try clear hk);(try clear hi);have hcz20_0:w19.cell? ⟨gb565,0,none⟩ = some (.slice Ao11 x7_1.length co11):=(zT BK565.out 0).trans rfl;have hcz20_1:w19.cell? ⟨gb565,1,none⟩ = some (.slice Ao12 t559.length co12):=(zT BK565.out 1).trans rfl;have hfz20_0:=zZ BK565.out 0;have hfz20_1:=zZ BK565.out 1)|(go_at_call 77;(with_reducible refine (spec_l2Genus.calls k1 _ _ x7_1 _ _ t559 t567 _ ?side1 ?side2 ?side3 ?side4 A17.out).mono ?_);(case side1=>repeat (first|exact (zU HO_7.out).2.2|apply zC_));(case side2=>exact (zU HO_7.out).2.1);(case side3=>repeat (first|exact (zU HO_6.out).2.2|apply zC_));(case side4=>exact (zU HO_6.out).2.1);rintro e w21 ⟨rfl,hb⟩;have n0_:=zA (Kd.V_below (by apply zV_;exact HO_5.out) hb);have n1_:=zA (zj (by apply zR_;exact HO_6.out) hb);have n2_:=zA (zj (by apply zR_;exact HO_7.out) hb);have n3_:=zA (zX (g:=gb565) (o:=.cells #[.slice Ao11 x7_1.length co11,.slice Ao12 t559.length co12] 33 (0,0)) (by (with_reducible repeat (first|refine zG ?_ _|refine zI ?_|refine zH ?_ _));exact BK565.out) hb);have n4_:=zA (zR (by repeat (first|(with_reducible first|exact HB.out|apply zD|apply zB|apply zC|refine zF ?_ GE565.out)|exact HB.out)) hb);clear HO_5;clear HO_6;clear HO_7;clear BK565;clear HB;have HO_5:=n0_;have HO_6:=n1_;have HO_7:=n2_;have BK565:=n3_;have HB:=n4_;clear n0_ n1_ n2_ n3_ n4_;(try clear hb);(try clear hb2);(try clear hk);(try clear hi)))
      go_meet
      case rel=>exact ⟨_,((t567 == a1)),(by first|rfl|(simp;done)|(simp [*];done)),H',⟨by have:=HK1.out;first|omega|exact Nat.le_refl _⟩,⟨by apply zV_;exact Kd.V_mono HO_5.out (fun _ hk=>⟨hk.1.1,⟨hk.1.2.1,⟨hk.1.2.2,⟨hk.1.2.2,⟨hk.1.2.1,hk.2⟩⟩⟩⟩⟩)⟩,⟨by apply zR_;exact zV HO_6.out (fun _ hk=>⟨hk.1,⟨hk.2,hk.2⟩⟩)⟩,⟨by apply zR_;exact zV HO_7.out (fun _ hk=>⟨hk.1,⟨hk.2,hk.2⟩⟩)⟩,⟨by apply zR_;exact zV HO_7.out (fun _ hk=>⟨hk.1,⟨hk.2,hk.2⟩⟩)⟩,⟨by apply zR_;exact zV HO_6.out (fun _ hk=>⟨hk.1,⟨hk.2,hk.2⟩⟩)⟩,⟨by (with_reducible repeat (first|refine zG ?_ _|refine zI ?_|refine zH ?_ _));exact BK565.out⟩,⟨by repeat (first|(with_reducible first|exact HB.out|apply zD|apply zB|apply zC|refine zF ?_ GE565.out)|exact HB.out)⟩⟩
     ·replace c16:=Bool.eq_false_iff.mpr c16
      subst c16
      have H1:(spec_l3All.j1 k1 a1 x5_1 t559 x7_1 false x7_1 t559) = some r:=by rw [if_neg (show ¬ (false = true) by decide)] at H;exact H
      clear H
      have H:=H1
      clear H1
      have H':=zA H
      clear H
      have hcz22_0:w13.cell? ⟨gb565,0,none⟩ = some (.slice none 0 0):=(zT BK565.out 0).trans rfl
      have hcz22_1:w13.cell? ⟨gb565,1,none⟩ = some (.slice none 0 0):=(zT BK565.out 1).trans rfl
      have hfz22_0:=zZ BK565.out 0
      have hfz22_1:=zZ BK565.out 1
      go_wp2_with (first|((with_reducible refine gate_callee (f:=76) rfl ?_);refine goesL_ (some 24) rfl rfl Try.func76 (by kernel_rfl) rfl #[.agg #[.slice Ao11 x7_1.length co11,.slice Ao12 t559.length co12]] rfl (by (try simp only [zJ,zM,zN]);first|done|rfl|(simp only [zL,zK];rfl)) ?_;(with_reducible refine (spec_MapValid.calls k1 _ _ x7_1 _ _ t559 false _ ?side1 ?side2 ?side3 ?side4 A15.out).mono ?_);(case side1=>refine (zU (e:=3) (base:=w.heap.size) (ok:=fun k_=>((w.heap.size≤k_)∧some k_≠(.slice Ao12 t559.length co12:Value).ownBlock)) (n:=x7_1.length) (c:=co11) ?_).2.2;exact (by apply zR_;exact (zV (zi (p:=⟨gb565,1,none⟩) (zi (p:=⟨gb565,0,none⟩) (Kd.R_types HO_7.out BK565.out (by decide)) (fun _ hk=>hk.2) (.slice Ao11 x7_1.length co11)) (fun _ hk=>hk.2) (.slice Ao12 t559.length co12)) (fun _ h_=>h_.1))));(case side2=>exact (zU HO_7.out).2.1);(case side3=>refine (zU (e:=3) (base:=w.heap.size) (ok:=fun k_=>((w.heap.size≤k_)∧some k_≠(.slice Ao11 x7_1.length co11:Value).ownBlock)) (n:=t559.length) (c:=co12) ?_).2.2;exact (by apply zR_;exact (zV (zi (p:=⟨gb565,1,none⟩) (zi (p:=⟨gb565,0,none⟩) (Kd.R_types HO_6.out BK565.out (by decide)) (fun _ hk=>hk.2) (.slice Ao11 x7_1.length co11)) (fun _ hk=>hk.2) (.slice Ao12 t559.length co12)) (fun _ h_=>h_.1))));(case side4=>exact (zU HO_6.out).2.1);rintro e w23 ⟨rfl,hb⟩;refine ⟨_,rfl,?_⟩;have n0_:=zA (Kd.V_below (by apply zV_;exact (Kd.V_mono (Kd.V_far (p:=⟨gb565,1,none⟩) (Kd.V_far (p:=⟨gb565,0,none⟩) (Kd.V_mono HO_5.out (fun k_ hk=>(⟨hk,hk.2⟩:_∧k_≠gb565))) (fun _ hk=>hk.2) (.slice Ao11 x7_1.length co11)) (fun _ hk=>hk.2) (.slice Ao12 t559.length co12)) (fun _ h_=>h_.1))) hb);have n1_:=zA (zj (by apply zR_;exact (zV (zi (p:=⟨gb565,1,none⟩) (zi (p:=⟨gb565,0,none⟩) (Kd.R_types HO_6.out BK565.out (by decide)) (fun _ hk=>hk.2) (.slice Ao11 x7_1.length co11)) (fun _ hk=>hk.2) (.slice Ao12 t559.length co12)) (fun _ h_=>h_.1))) hb);have n2_:=zA (zj (by apply zR_;exact (zV (zi (p:=⟨gb565,1,none⟩) (zi (p:=⟨gb565,0,none⟩) (Kd.R_types HO_7.out BK565.out (by decide)) (fun _ hk=>hk.2) (.slice Ao11 x7_1.length co11)) (fun _ hk=>hk.2) (.slice Ao12 t559.length co12)) (fun _ h_=>h_.1))) hb);have n3_:=zA (zX (g:=gb565) (o:=.cells #[.slice Ao11 x7_1.length co11,.slice Ao12 t559.length co12] 33 (0,0)) (by (with_reducible repeat (first|refine zG ?_ _|refine zI ?_|refine zH ?_ _));refine blk_put (cs:=#[.slice Ao11 x7_1.length co11,.slice none 0 0]) ?_ 1 _ rfl;(with_reducible repeat (first|refine zG ?_ _|refine zI ?_|refine zH ?_ _));refine blk_put (cs:=#[.slice none 0 0,.slice none 0 0]) ?_ 0 _ rfl;(with_reducible repeat (first|refine zG ?_ _|refine zI ?_|refine zH ?_ _));exact BK565.out) hb);have n4_:=zA (zR (by repeat (first|(with_reducible first|exact HB.out|apply zD|apply zB|apply zC|refine zF ?_ GE565.out)|exact HB.out)) hb);clear HO_5;clear HO_6;clear HO_7;clear BK565;clear HB;have HO_5:=n0_;have HO_6:=n1_;have HO_7:=n2_;have BK565:=n3_;have HB:=n4_;clear n0_ n1_ n2_ n3_ n4_;(try clear hb);(try clear hb2);(try clear hk);(try clear hi)))
      go_meet
      case rel=>exact ⟨_,(false),(by first|rfl|(simp;done)|(simp [*];done)),H',⟨by have:=HK1.out;first|omega|exact Nat.le_refl _⟩,⟨by apply zV_;exact Kd.V_mono HO_5.out (fun _ hk=>⟨hk.1.1,⟨hk.1.2.1,⟨hk.1.2.2,⟨hk.1.2.2,⟨hk.1.2.1,hk.2⟩⟩⟩⟩⟩)⟩,⟨by apply zR_;exact zV HO_6.out (fun _ hk=>⟨hk.1,⟨hk.2,hk.2⟩⟩)⟩,⟨by apply zR_;exact zV HO_7.out (fun _ hk=>⟨hk.1,⟨hk.2,hk.2⟩⟩)⟩,⟨by apply zR_;exact zV HO_7.out (fun _ hk=>⟨hk.1,⟨hk.2,hk.2⟩⟩)⟩,⟨by apply zR_;exact zV HO_6.out (fun _ hk=>⟨hk.1,⟨hk.2,hk.2⟩⟩)⟩,⟨by (with_reducible repeat (first|refine zG ?_ _|refine zI ?_|refine zH ?_ _));exact BK565.out⟩,⟨by repeat (first|(with_reducible first|exact HB.out|apply zD|apply zB|apply zC|refine zF ?_ GE565.out)|exact HB.out)⟩⟩
    case rest =>
     clear HC10
     (try clear c1);(try clear p2);(try clear c4);(try clear p6);(try clear c7);(try clear c9);(try clear c9b0);(try clear c9b1);(try clear c16);(try clear hcz14_0);(try clear hcz14_1);(try clear hcz18_0);(try clear hcz18_1);(try clear hcz20_0);(try clear hcz20_1);(try clear hcz22_0);(try clear hcz22_1);(try clear hfz14_0);(try clear hfz14_1);(try clear hfz18_0);(try clear hfz18_1);(try clear hfz20_0);(try clear hfz20_1);(try clear hfz22_0);(try clear hfz22_1);(try clear p2);(try clear p6)
     obtain ⟨kq,x30_9,rfl,HA,HJ9,HO_5,HO_6,HO_7,HO_566000,HO_566001,BK565,HB⟩:=hcut
     cases kq with
     | zero=>exact absurd HA.out (by simp [spec_l3All.j1])
     | succ kj9 =>
      have H:=HA.out
      clear HA
      simp only [spec_l3All.j1] at H
      by_cases c24:x30_9 = true
      ·subst c24
       rw [if_pos rfl] at H;try dsimp only at H
       replace H:=zz0 H
       obtain ⟨⟨t568,t571⟩,A250,H⟩:=H
       try dsimp only at H
       have A25:=zA A250
       clear A250
       replace H:=zz0 H
       obtain ⟨t574,A260,H⟩:=H
       try dsimp only at H
       have A26:=zA A260
       clear A260
       replace H:=zz0 H
       obtain ⟨t577,A270,H⟩:=H
       try dsimp only at H
       have A27:=zA A270
       clear A270
       have H':=zA H
       clear H
       have hcz28_0:wc.cell? ⟨gb565,0,none⟩ = some (.slice Ao11 x7_1.length co11):=(zT BK565.out 0).trans rfl
       have hcz28_1:wc.cell? ⟨gb565,1,none⟩ = some (.slice Ao12 t559.length co12):=(zT BK565.out 1).trans rfl
       have hfz28_0:=zZ BK565.out 0
       have hfz28_1:=zZ BK565.out 1
       go_wp2_with (first|((with_reducible refine gate_callee (f:=78) rfl ?_);refine goesL_ (some 33) rfl rfl Try.func78 (by kernel_rfl) rfl #[.agg #[.slice Ao11 x7_1.length co11,.slice Ao12 t559.length co12],.int .i64 0] rfl (by (try simp only [zJ,zM,zN]);first|done|rfl|(simp only [zL,zK];rfl)) ?_;(with_reducible refine (spec_l2Form.calls kj9 _ _ x7_1 _ _ t559 0 t568 t571 _ ?side1 ?side2 ?side3 ?side4 A25.out).mono ?_);(case side1=>repeat (first|exact (zU HO_566000.out).2.2|apply zC_));(case side2=>exact (zU HO_566000.out).2.1);(case side3=>repeat (first|exact (zU HO_566001.out).2.2|apply zC_));(case side4=>exact (zU HO_566001.out).2.1);rintro e w29 ⟨v569,v572,rfl,ho0,ho1,hb⟩;refine ⟨_,rfl,?_⟩;have n0_:=zA (Kd.V_mono (Kd.V_told (Kd.V_told (Kd.V_old (by apply zV_;exact HO_5.out) hb) (zd ho0)) (zd ho1)) (fun _ h_=>h_.1));have n1_:=zA (zV (Kd.R_told (Kd.R_told (Kd.R_old (by apply zR_;exact HO_6.out) hb) (zd ho0)) (zd ho1)) (fun _ h_=>h_.1));have n2_:=zA (zV (Kd.R_told (Kd.R_told (Kd.R_old (by apply zR_;exact HO_7.out) hb) (zd ho0)) (zd ho1)) (fun _ h_=>h_.1));have n3_:=zA (zV (Kd.R_told (Kd.R_told (Kd.R_old (by apply zR_;exact HO_566000.out) hb) (zd ho0)) (zd ho1)) (fun _ h_=>h_.1));have n4_:=zA (zV (Kd.R_told (Kd.R_told (Kd.R_old (by apply zR_;exact HO_566001.out) hb) (zd ho0)) (zd ho1)) (fun _ h_=>h_.1));have n5_:=zA (ze (zh (zh (zh (zh (Kd.R_newM (M:=fun k_=>(w.heap.size≤k_)) ho0 (zQ (by repeat (first|(with_reducible first|exact HB.out|apply zD|apply zB|apply zC|refine zF ?_ GE565.out)|exact HB.out))) (fun k_ h_=>h_)) (Kd.R_lt (by apply zR_;exact HO_6.out))) (Kd.R_lt (by apply zR_;exact HO_7.out))) (Kd.R_lt (by apply zR_;exact HO_566000.out))) (Kd.R_lt (by apply zR_;exact HO_566001.out))) (zQ (by repeat (first|(with_reducible first|exact HB.out|apply zD|apply zB|apply zC|refine zF ?_ GE565.out)|exact HB.out))));have n6_:=zA (ze (zh (zh (zh (zh (Kd.R_newM (M:=fun k_=>(w.heap.size≤k_)) ho1 (zQ (by repeat (first|(with_reducible first|exact HB.out|apply zD|apply zB|apply zC|refine zF ?_ GE565.out)|exact HB.out))) (fun k_ h_=>h_)) (Kd.R_lt (by apply zR_;exact HO_6.out))) (Kd.R_lt (by apply zR_;exact HO_7.out))) (Kd.R_lt (by apply zR_;exact HO_566000.out))) (Kd.R_lt (by apply zR_;exact HO_566001.out))) (zQ (by repeat (first|(with_reducible first|exact HB.out|apply zD|apply zB|apply zC|refine zF ?_ GE565.out)|exact HB.out))));have n7_:=zA (zX (g:=gb565) (o:=.cells #[.slice Ao11 x7_1.length co11,.slice Ao12 t559.length co12] 33 (0,0)) (by (with_reducible repeat (first|refine zG ?_ _|refine zI ?_|refine zH ?_ _));exact BK565.out) hb);have n8_:=zA (zR (by repeat (first|(with_reducible first|exact HB.out|apply zD|apply zB|apply zC|refine zF ?_ GE565.out)|exact HB.out)) hb);clear HO_5;clear HO_6;clear HO_7;clear HO_566000;clear HO_566001;clear BK565;clear HB;have HO_5:=n0_;have HO_6:=n1_;have HO_7:=n2_;have HO_566000:=n3_;have HO_566001:=n4_;have HO570:=n5_;have HO573:=n6_;have BK565:=n7_;have HB:=n8_;clear n0_ n1_ n2_ n3_ n4_ n5_ n6_ n7_ n8_;(try clear hb);(try clear hb2);(try clear hk);(try clear hi);(try clear ho0);(try clear ho1);obtain ⟨Ao30,co30,eo30⟩:=Kd.V_slice HO_5.out;subst eo30;obtain ⟨Ao31,co31,eo31⟩:=zg HO570.out;subst eo31;obtain ⟨Ao32,co32,eo32⟩:=zg HO573.out;subst eo32)|((with_reducible refine gate_callee (f:=64) rfl ?_);refine goesL_ (some 34) rfl rfl Try.func64 (by kernel_rfl) rfl #[.slice Ao30 x5_1.length co30,.agg #[.slice Ao31 t568.length co31,.slice Ao32 t571.length co32]] rfl (by (try simp only [zJ,zM,zN]);first|done|rfl|(simp only [zL,zK];rfl)) ?_;(with_reducible refine (spec_l3Put.calls kj9 (fun k_=>((((w.heap.size≤k_)∧(some k_≠(.slice Ao12 t559.length co12:Value).ownBlock∧(some k_≠(.slice Ao11 x7_1.length co11:Value).ownBlock∧(some k_≠(.slice Ao11 x7_1.length co11:Value).ownBlock∧(some k_≠(.slice Ao12 t559.length co12:Value).ownBlock∧k_≠gb565)))))∧some k_≠(.slice Ao31 t568.length co31:Value).ownBlock)∧some k_≠(.slice Ao32 t571.length co32:Value).ownBlock)) _ _ x5_1 (fun k_=>some k_ = (.slice Ao31 t568.length co31:Value).ownBlock) _ _ t568 (fun k_=>some k_ = (.slice Ao32 t571.length co32:Value).ownBlock) _ _ t571 t574 _ ?side1 ?side2 ?side3 A26.out).mono ?_);(case side1=>exact HO_5.out);(case side2=>exact Kd.R_V (Kd.R_tight rfl (Kd.R_types (HO570.out) BK565.out (by decide))));(case side3=>exact Kd.R_V (Kd.R_tight rfl (Kd.R_types (HO573.out) BK565.out (by decide))));rintro e w33 ⟨v575,rfl,ho0,hb⟩;refine ⟨_,rfl,?_⟩;have n0_:=zA (Kd.V_below (by apply zV_;exact HO_5.out) hb);have n1_:=zA (zj (by apply zR_;exact HO_6.out) hb);have n2_:=zA (zj (by apply zR_;exact HO_7.out) hb);have n3_:=zA (zj (by apply zR_;exact HO_566000.out) hb);have n4_:=zA (zj (by apply zR_;exact HO_566001.out) hb);have n5_:=zA (zj (by apply zR_;exact HO570.out) hb);have n6_:=zA (zj (by apply zR_;exact HO573.out) hb);have n7_:=zA (Kd.V_lower (Kd.V_mono (ok':=fun k_=>(w.heap.size≤k_)∧some k_≠(.slice Ao12 t559.length co12:Value).ownBlock∧some k_≠(.slice Ao11 x7_1.length co11:Value).ownBlock∧some k_≠(.slice Ao11 x7_1.length co11:Value).ownBlock∧some k_≠(.slice Ao12 t559.length co12:Value).ownBlock∧k_≠gb565) ho0 (fun k_ hk_=>⟨Or.elim hk_ (fun hs_=>Or.elim hs_ (fun hs_=>hs_.1.1.1) (fun hs_=>Or.elim hs_ (fun hs_=>((Kd.R_types (HO570.out) BK565.out (by decide)).1 k_ hs_.symm).1.1.1.1.1.1) (fun hs_=>((Kd.R_types (HO573.out) BK565.out (by decide)).1 k_ hs_.symm).1.1.1.1.1.1))) (fun hn_=>(Nat.le_trans (zQ (by repeat (first|(with_reducible first|exact HB.out|apply zD|apply zB|apply zC|refine zF ?_ GE565.out)|exact HB.out))) hn_)),Or.elim hk_ (fun hs_=>Or.elim hs_ (fun hs_=>hs_.1.1.2.1) (fun hs_=>Or.elim hs_ (fun hs_=>((Kd.R_types (HO570.out) BK565.out (by decide)).1 k_ hs_.symm).1.1.1.1.2) (fun hs_=>((Kd.R_types (HO573.out) BK565.out (by decide)).1 k_ hs_.symm).1.1.1.1.2))) (fun hn_=>(Kd.fresh' (Kd.R_lt (by apply zR_;exact HO_6.out)) k_ hn_)),Or.elim hk_ (fun hs_=>Or.elim hs_ (fun hs_=>hs_.1.1.2.2.1) (fun hs_=>Or.elim hs_ (fun hs_=>((Kd.R_types (HO570.out) BK565.out (by decide)).1 k_ hs_.symm).1.1.1.2) (fun hs_=>((Kd.R_types (HO573.out) BK565.out (by decide)).1 k_ hs_.symm).1.1.1.2))) (fun hn_=>(Kd.fresh' (Kd.R_lt (by apply zR_;exact HO_7.out)) k_ hn_)),Or.elim hk_ (fun hs_=>Or.elim hs_ (fun hs_=>hs_.1.1.2.2.2.1) (fun hs_=>Or.elim hs_ (fun hs_=>((Kd.R_types (HO570.out) BK565.out (by decide)).1 k_ hs_.symm).1.1.2) (fun hs_=>((Kd.R_types (HO573.out) BK565.out (by decide)).1 k_ hs_.symm).1.1.2))) (fun hn_=>(Kd.fresh' (Kd.R_lt (by apply zR_;exact HO_566000.out)) k_ hn_)),Or.elim hk_ (fun hs_=>Or.elim hs_ (fun hs_=>hs_.1.1.2.2.2.2.1) (fun hs_=>Or.elim hs_ (fun hs_=>((Kd.R_types (HO570.out) BK565.out (by decide)).1 k_ hs_.symm).1.2) (fun hs_=>((Kd.R_types (HO573.out) BK565.out (by decide)).1 k_ hs_.symm).1.2))) (fun hn_=>(Kd.fresh' (Kd.R_lt (by apply zR_;exact HO_566001.out)) k_ hn_)),Or.elim hk_ (fun hs_=>Or.elim hs_ (fun hs_=>hs_.1.1.2.2.2.2.2) (fun hs_=>Or.elim hs_ (fun hs_=>((Kd.R_types (HO570.out) BK565.out (by decide)).1 k_ hs_.symm).2) (fun hs_=>((Kd.R_types (HO573.out) BK565.out (by decide)).1 k_ hs_.symm).2))) (fun hn_=>(Kd.freshB (g:=gb565) (o:=.cells #[.slice Ao11 x7_1.length co11,.slice Ao12 t559.length co12] 33 (0,0)) (by (with_reducible repeat (first|refine zG ?_ _|refine zI ?_|refine zH ?_ _));exact BK565.out) k_ hn_))⟩)) (zQ (by repeat (first|(with_reducible first|exact HB.out|apply zD|apply zB|apply zC|refine zF ?_ GE565.out)|exact HB.out))));have n8_:=zA (zX (g:=gb565) (o:=.cells #[.slice Ao11 x7_1.length co11,.slice Ao12 t559.length co12] 33 (0,0)) (by (with_reducible repeat (first|refine zG ?_ _|refine zI ?_|refine zH ?_ _));exact BK565.out) hb);have n9_:=zA (zR (by repeat (first|(with_reducible first|exact HB.out|apply zD|apply zB|apply zC|refine zF ?_ GE565.out)|exact HB.out)) hb);clear HO_5;clear HO_6;clear HO_7;clear HO_566000;clear HO_566001;clear HO570;clear HO573;clear BK565;clear HB;have HO_5:=n0_;have HO_6:=n1_;have HO_7:=n2_;have HO_566000:=n3_;have HO_566001:=n4_;have HO570:=n5_;have HO573:=n6_;have HO576:=n7_;have BK565:=n8_;have HB:=n9_;clear n0_ n1_ n2_ n3_ n4_ n5_ n6_ n7_ n8_ n9_;(try clear hb);(try clear hb2);(try clear hk);(try clear hi);(try clear ho0))|((with_reducible refine gate_callee (f:=75) rfl ?_);refine goesL_ (some 19) rfl rfl Try.func75 (by kernel_rfl) rfl #[.slice Ao11 x7_1.length co11] rfl (by (try simp only [zJ,zM,zN]);first|done|rfl|(simp only [zL,zK];rfl)) ?_;(with_reducible refine (spec_l3Next.calls kj9 _ _ x7_1 t577 _ ?side1 ?side2 A27.out).mono ?_);(case side1=>repeat (first|exact (zU HO_7.out).2.2|apply zC_));(case side2=>exact (zU HO_7.out).2.1);rintro e w34 ⟨v578,rfl,ho0,hb⟩;refine ⟨_,rfl,?_⟩;have n0_:=zA (Kd.V_elder' (by apply zV_;exact HO_5.out) (zd ho0) hb);have n1_:=zA (Kd.R_elder' (by apply zR_;exact HO_6.out) (zd ho0) hb);have n2_:=zA (Kd.R_elder' (by apply zR_;exact HO_7.out) (zd ho0) hb);have n3_:=zA (Kd.R_elder' (by apply zR_;exact HO_566000.out) (zd ho0) hb);have n4_:=zA (Kd.R_elder' (by apply zR_;exact HO_566001.out) (zd ho0) hb);have n5_:=zA (Kd.R_elder' (by apply zR_;exact HO570.out) (zd ho0) hb);have n6_:=zA (Kd.R_elder' (by apply zR_;exact HO573.out) (zd ho0) hb);have n7_:=zA (Kd.V_elder' (by apply zV_;exact HO576.out) (zd ho0) hb);have n8_:=zA (ze (zh (zh (zh (zh (zh (zh (Kd.R_newM (M:=fun k_=>(w.heap.size≤k_)) ho0 (zQ (by repeat (first|(with_reducible first|exact HB.out|apply zD|apply zB|apply zC|refine zF ?_ GE565.out)|exact HB.out))) (fun k_ h_=>h_)) (Kd.R_lt (by apply zR_;exact HO_6.out))) (Kd.R_lt (by apply zR_;exact HO_7.out))) (Kd.R_lt (by apply zR_;exact HO_566000.out))) (Kd.R_lt (by apply zR_;exact HO_566001.out))) (Kd.R_lt (by apply zR_;exact HO570.out))) (Kd.R_lt (by apply zR_;exact HO573.out))) (zQ (by repeat (first|(with_reducible first|exact HB.out|apply zD|apply zB|apply zC|refine zF ?_ GE565.out)|exact HB.out))));have n9_:=zA (zX (g:=gb565) (o:=.cells #[.slice Ao11 x7_1.length co11,.slice Ao12 t559.length co12] 33 (0,0)) (by (with_reducible repeat (first|refine zG ?_ _|refine zI ?_|refine zH ?_ _));exact BK565.out) hb);have n10_:=zA (zR (by repeat (first|(with_reducible first|exact HB.out|apply zD|apply zB|apply zC|refine zF ?_ GE565.out)|exact HB.out)) hb);clear HO_5;clear HO_6;clear HO_7;clear HO_566000;clear HO_566001;clear HO570;clear HO573;clear HO576;clear BK565;clear HB;have HO_5:=n0_;have HO_6:=n1_;have HO_7:=n2_;have HO_566000:=n3_;have HO_566001:=n4_;have HO570:=n5_;have HO573:=n6_;have HO576:=n7_;have HO579:=n8_;have BK565:=n9_;have HB:=n10_;clear n0_ n1_ n2_ n3_ n4_ n5_ n6_ n7_ n8_ n9_ n10_;(try clear hb);(try clear hb2);(try clear hk);(try clear hi);(try clear ho0)))
       go_roundg kj9
       case measure=>have:=HK1.out;have:=HJ9.out;omega
       case rel=>exact ⟨(t574),(t577),H',⟨by have:=HK1.out;have:=HJ9.out;omega⟩,⟨by apply zV_;exact Kd.V_mono HO576.out (fun _ hk=>⟨hk.1.1,⟨hk.1.2.1,hk.2⟩⟩)⟩,⟨by apply zR_;exact zV HO_6.out (fun _ hk=>⟨hk.1.1.1.1,hk.2⟩)⟩,⟨by apply zR_;exact zV HO579.out (fun _ hk=>⟨hk.1.1.1.1.1.1.1,hk.1.1.1.1.1.2⟩)⟩,⟨by repeat (first|(with_reducible first|exact HB.out|apply zD|apply zB|apply zC|refine zF ?_ GE565.out)|exact HB.out)⟩⟩
      ·replace c24:=Bool.eq_false_iff.mpr c24
       subst c24
       have H1:((spec_l3Next.f kj9 x7_1).bind fun t580=>(spec_l3All.l0 kj9 a1 x5_1 t559 t580)) = some r:=by rw [if_neg (show ¬ (false = true) by decide)] at H;exact H
       clear H
       have H:=H1
       clear H1
       replace H:=zz0 H
       obtain ⟨t580,A350,H⟩:=H
       try dsimp only at H
       have A35:=zA A350
       clear A350
       have H':=zA H
       clear H
       go_wp2_with (first|((with_reducible refine gate_callee (f:=75) rfl ?_);refine goesL_ (some 19) rfl rfl Try.func75 (by kernel_rfl) rfl #[.slice Ao11 x7_1.length co11] rfl (by (try simp only [zJ,zM,zN]);first|done|rfl|(simp only [zL,zK];rfl)) ?_;(with_reducible refine (spec_l3Next.calls kj9 _ _ x7_1 t580 _ ?side1 ?side2 A35.out).mono ?_);(case side1=>repeat (first|exact (zU HO_7.out).2.2|apply zC_));(case side2=>exact (zU HO_7.out).2.1);rintro e w36 ⟨v581,rfl,ho0,hb⟩;refine ⟨_,rfl,?_⟩;have n0_:=zA (Kd.V_elder' (by apply zV_;exact HO_5.out) (zd ho0) hb);have n1_:=zA (Kd.R_elder' (by apply zR_;exact HO_6.out) (zd ho0) hb);have n2_:=zA (Kd.R_elder' (by apply zR_;exact HO_7.out) (zd ho0) hb);have n3_:=zA (Kd.R_elder' (by apply zR_;exact HO_566000.out) (zd ho0) hb);have n4_:=zA (Kd.R_elder' (by apply zR_;exact HO_566001.out) (zd ho0) hb);have n5_:=zA (ze (zh (zh (zh (zh (Kd.R_newM (M:=fun k_=>(w.heap.size≤k_)) ho0 (zQ (by repeat (first|(with_reducible first|exact HB.out|apply zD|apply zB|apply zC|refine zF ?_ GE565.out)|exact HB.out))) (fun k_ h_=>h_)) (Kd.R_lt (by apply zR_;exact HO_6.out))) (Kd.R_lt (by apply zR_;exact HO_7.out))) (Kd.R_lt (by apply zR_;exact HO_566000.out))) (Kd.R_lt (by apply zR_;exact HO_566001.out))) (zQ (by repeat (first|(with_reducible first|exact HB.out|apply zD|apply zB|apply zC|refine zF ?_ GE565.out)|exact HB.out))));have n6_:=zA (zX (g:=gb565) (o:=.cells #[.slice Ao11 x7_1.length co11,.slice Ao12 t559.length co12] 33 (0,0)) (by (with_reducible repeat (first|refine zG ?_ _|refine zI ?_|refine zH ?_ _));exact BK565.out) hb);have n7_:=zA (zR (by repeat (first|(with_reducible first|exact HB.out|apply zD|apply zB|apply zC|refine zF ?_ GE565.out)|exact HB.out)) hb);clear HO_5;clear HO_6;clear HO_7;clear HO_566000;clear HO_566001;clear BK565;clear HB;have HO_5:=n0_;have HO_6:=n1_;have HO_7:=n2_;have HO_566000:=n3_;have HO_566001:=n4_;have HO582:=n5_;have BK565:=n6_;have HB:=n7_;clear n0_ n1_ n2_ n3_ n4_ n5_ n6_ n7_;(try clear hb);(try clear hb2);(try clear hk);(try clear hi);(try clear ho0)))
       go_roundg kj9
       case measure=>have:=HK1.out;have:=HJ9.out;omega
       case rel=>exact ⟨(x5_1),(t580),H',⟨by have:=HK1.out;have:=HJ9.out;omega⟩,⟨by apply zV_;exact Kd.V_mono HO_5.out (fun _ hk=>⟨hk.1.1,⟨hk.1.2.1,hk.2⟩⟩)⟩,⟨by apply zR_;exact zV HO_6.out (fun _ hk=>⟨hk.1.1,hk.2⟩)⟩,⟨by apply zR_;exact zV HO582.out (fun _ hk=>⟨hk.1.1.1.1.1,hk.1.1.1.2⟩)⟩,⟨by repeat (first|(with_reducible first|exact HB.out|apply zD|apply zB|apply zC|refine zF ?_ GE565.out)|exact HB.out)⟩⟩
   ·rw [if_neg c9] at H
    have c9b0:decide (0 < (x7_1.length:Int)) = false:=zP c9
    have c9b1:decide (0 < x7_1.length) = false:=zP (by omega)
    clear c9
    obtain rfl:=zS H
    obtain ⟨Ao37,co37,eo37⟩:=zg HO_7.out
    subst eo37
    go_wp2
    go_ret
    exact ⟨_,by first|rfl|(simp [errW_none,errW_some] <;> rfl)|(simp [*,errW_none,errW_some] <;> rfl),by apply zV_;exact Kd.V_mono HO_5.out (fun _ hk=>hk.1),by exact zB_ HB.out⟩

/-! ### spec_l2Least: function 65 -/
def spec_l2Least.l0:Nat→Int→List Int→List Int→List Int→List Int→Option (List Int × List Int)
 | 0,_,_,_,_,_=>none
 | k+1,x4,x584000,x584001,x592000,x592001=>if x4 < (x584000.length:Int) then ((spec_l2Form.f k x584000 x584001 x4).bind fun bt592=>((spec_l2Before.f k bt592.1 bt592.2 x592000 x592001).bind fun t599=>(if t599 < 0 then (spec_l2Least.l0 k (wrap64 (x4+1)) x584000 x584001 bt592.1 bt592.2) else (spec_l2Least.l0 k (wrap64 (x4+1)) x584000 x584001 x592000 x592001)))) else (some (x592000,x592001))
def spec_l2Least.f (k:Nat) (l0_0:List Int) (l0_1:List Int):Option (List Int × List Int):=(spec_l2Form.f k l0_0 l0_1 0).bind fun bt585=>(spec_l2Least.l0 k 1 l0_0 l0_1 bt585.1 bt585.2)
theorem spec_l2Least.mono_l:∀ k,(∀ y0 y1 y2 y3 y4,LeO (spec_l2Least.l0 k y0 y1 y2 y3 y4) (spec_l2Least.l0 (k+1) y0 y1 y2 y3 y4))
 | 0=>fun _ _ _ _ _ r h=>by simp [spec_l2Least.l0] at h
 | k+1=>by
  have ih0:=spec_l2Least.mono_l k
  ·intro y0 y1 y2 y3 y4
   unfold spec_l2Least.l0
   repeat' first
   | (with_reducible exact ih0 _ _ _ _ _)
   | (with_reducible exact spec_l2Before.mono _ _ _ _ _)
   | (with_reducible exact spec_l2Form.mono _ _ _ _)
   | (with_reducible exact LeO.refl _)
   | (with_reducible exact za _)
   | (with_reducible refine zc ?_ ?_)
   | (with_reducible refine zb ?_ (fun _=>?_))
theorem spec_l2Least.mono:∀ a0 a1 k,LeO (spec_l2Least.f k a0 a1) (spec_l2Least.f (k+1) a0 a1):=by
 intro a0 a1 k
 have ih0:=spec_l2Least.mono_l k
 unfold spec_l2Least.f
 repeat' first
   | (with_reducible exact ih0 _ _ _ _ _)
   | (with_reducible exact spec_l2Before.mono _ _ _ _ _)
   | (with_reducible exact spec_l2Form.mono _ _ _ _)
   | (with_reducible exact LeO.refl _)
   | (with_reducible exact za _)
   | (with_reducible refine zc ?_ ?_)
   | (with_reducible refine zb ?_ (fun _=>?_))
set_option maxHeartbeats 8000000 in
set_option maxRecDepth 100000 in
theorem spec_l2Least.calls (k:Nat) (A0_0:Option Addr) (c0_0:Nat) (l0_0:List Int) (A0_1:Option Addr) (c0_1:Nat) (l0_1:List Int) (r1:List Int) (r2:List Int) (w:World) (hr0_0:Kd.C (Kd.int .i64) w A0_0 l0_0.length l0_0) (hc0_0:l0_0.length≤c0_0) (hr0_1:Kd.C (Kd.int .i64) w A0_1 l0_1.length l0_1) (hc0_1:l0_1.length≤c0_1) (h:spec_l2Least.f k l0_0 l0_1 = some (r1,r2)) :
  Calls Try.prog 65 #[.agg #[.slice A0_0 l0_0.length c0_0,.slice A0_1 l0_1.length c0_1]] w fun e w' => ∃ v0_ v1_:Value,e = .returned (.agg #[v0_,v1_])∧Kd.R (Kd.int .i64) 3 w' w.heap.size (fun k_=>some k_≠(v1_:Value).ownBlock) v0_ r1∧Kd.R (Kd.int .i64) 3 w' w.heap.size (fun k_=>some k_≠(v0_:Value).ownBlock) v1_ r2∧Below w.heap.size w w':=by
 have hu33:=Try.underlying33
 have HR0_0:=zA hr0_0
 have HC0_0:=zA hc0_0
 clear hr0_0 hc0_0
 have HR0_1:=zA hr0_1
 have HC0_1:=zA hc0_1
 clear hr0_1 hc0_1
 have HB:=zA (Below.refl w.heap.size w)
 have H:((spec_l2Form.f k l0_0 l0_1 0).bind fun bt585=>(spec_l2Least.l0 k 1 l0_0 l0_1 bt585.1 bt585.2)) = some (r1,r2):=h
 clear h
 replace H:=zz0 H
 obtain ⟨⟨t585,t588⟩,A20,H⟩:=H
 try dsimp only at H
 have A2:=zA A20
 clear A20
 have H':=zA H
 clear H
 go_enter Try.func65,Try.ntmps65
 go_wp2_with (first|((with_reducible refine gate_dst (N:=1) rfl ?_);refine box_event ?hg (N:=1) ?hd (cs:=#[.slice A0_0 l0_0.length c0_0,.slice A0_1 l0_1.length c0_1]) (t:=33) ?hr ?_;(case hd=>rfl);(case hg=>rfl);(case hr=>first|(go_simp;done)|(go_simp;rfl));intro gb583 hg w3 hbox hb;have n0_:=zA (zR (by exact zB_ HB.out) hb);have n1_:=zA (hbox);have n2_:=zA ((by rw [hg];exact (zQ (by exact zB_ HB.out)):w.heap.size≤gb583));have n3_:=zA ((by rw [hg];exact (zQ (by exact zB_ HB.out)):w.heap.size≤gb583));clear HB;have HB:=n0_;have BK583:=n1_;have GW583:=n2_;have GE583:=n3_;clear n0_ n1_ n2_ n3_;clear hb hbox hg)|((with_reducible refine gate_dst (N:=2) rfl ?_);refine box_event ?hg (N:=2) ?hd (cs:=#[.slice none 0 0,.slice none 0 0]) (t:=33) ?hr ?_;(case hd=>rfl);(case hg=>rfl);(case hr=>first|(go_simp;done)|(go_simp;rfl));intro gb584 hg w4 hbox hb;have n0_:=zA (zX (g:=gb583) (o:=.cells #[.slice A0_0 l0_0.length c0_0,.slice A0_1 l0_1.length c0_1] 33 (0,0)) (by (with_reducible repeat (first|refine zG ?_ _|refine zI ?_|refine zH ?_ _));exact BK583.out) hb);have n1_:=zA (zR (by repeat (first|(with_reducible first|exact HB.out|apply zD|apply zB|apply zC|refine zF ?_ GE583.out)|exact HB.out)) hb);have n2_:=zA (hbox);have n3_:=zA ((by rw [hg];exact (zQ (by repeat (first|(with_reducible first|exact HB.out|apply zD|apply zB|apply zC|refine zF ?_ GE583.out)|exact HB.out))):w.heap.size≤gb584));have n4_:=zA ((by rw [hg];exact (zQ (by repeat (first|(with_reducible first|exact HB.out|apply zD|apply zB|apply zC|refine zF ?_ GE583.out)|exact HB.out))):w.heap.size≤gb584));have n5_:=zA ((by rw [hg];exact Nat.ne_of_lt (blk_lt (g:=gb583) (o:=.cells #[.slice A0_0 l0_0.length c0_0,.slice A0_1 l0_1.length c0_1] 33 (0,0)) (by (with_reducible repeat (first|refine zG ?_ _|refine zI ?_|refine zH ?_ _));exact BK583.out)):gb583≠gb584));have n6_:=zA ((by rw [hg];exact Nat.ne_of_gt (blk_lt (g:=gb583) (o:=.cells #[.slice A0_0 l0_0.length c0_0,.slice A0_1 l0_1.length c0_1] 33 (0,0)) (by (with_reducible repeat (first|refine zG ?_ _|refine zI ?_|refine zH ?_ _));exact BK583.out)):gb584≠gb583));clear BK583;clear HB;have BK583:=n0_;have HB:=n1_;have BK584:=n2_;have GW584:=n3_;have GE584:=n4_;have NB583_584:=n5_;have NB584_583:=n6_;clear n0_ n1_ n2_ n3_ n4_ n5_ n6_;clear hb hbox hg;have hnb5:=NB583_584.out;have hnc5:=NB584_583.out;have hcz6_0:w4.cell? ⟨gb583,0,none⟩ = some (.slice A0_0 l0_0.length c0_0):=(zT BK583.out 0).trans rfl;have hcz6_1:w4.cell? ⟨gb583,1,none⟩ = some (.slice A0_1 l0_1.length c0_1):=(zT BK583.out 1).trans rfl;have hfz6_0:=zZ BK583.out 0;have hfz6_1:=zZ BK583.out 1)|((with_reducible refine gate_callee (f:=78) rfl ?_);refine goesL_ (some 7) rfl rfl Try.func78 (by kernel_rfl) rfl #[.agg #[.slice A0_0 l0_0.length c0_0,.slice A0_1 l0_1.length c0_1],.int .i64 0] rfl (by (try simp only [zJ,zM,zN]);first|done|rfl|(simp only [zL,zK];rfl)) ?_;(with_reducible refine (spec_l2Form.calls k _ _ l0_0 _ _ l0_1 0 t585 t588 _ ?side1 ?side2 ?side3 ?side4 A2.out).mono ?_);(case side1=>repeat (first|exact (zW HR0_0.out HB.out)|(with_reducible exact HR0_0.out)|apply zC_));(case side2=>exact HC0_0.out);(case side3=>repeat (first|exact (zW HR0_1.out HB.out)|(with_reducible exact HR0_1.out)|apply zC_));(case side4=>exact HC0_1.out);rintro e w7 ⟨v586,v589,rfl,ho0,ho1,hb⟩;refine ⟨_,rfl,?_⟩;have n0_:=zA (ze ho0 (zQ (by repeat (first|(with_reducible first|exact HB.out|apply zD|apply zB|apply zC|refine zF ?_ GE583.out|refine zF ?_ GE584.out)|exact HB.out))));have n1_:=zA (ze ho1 (zQ (by repeat (first|(with_reducible first|exact HB.out|apply zD|apply zB|apply zC|refine zF ?_ GE583.out|refine zF ?_ GE584.out)|exact HB.out))));have n2_:=zA (zX (g:=gb583) (o:=.cells #[.slice A0_0 l0_0.length c0_0,.slice A0_1 l0_1.length c0_1] 33 (0,0)) (by (with_reducible repeat (first|refine zG ?_ _|refine zI ?_|refine zH ?_ _));exact BK583.out) hb);have n3_:=zA (zX (g:=gb584) (o:=.cells #[.slice none 0 0,.slice none 0 0] 33 (0,0)) (by (with_reducible repeat (first|refine zG ?_ _|refine zI ?_|refine zH ?_ _));exact BK584.out) hb);have n4_:=zA (zR (by repeat (first|(with_reducible first|exact HB.out|apply zD|apply zB|apply zC|refine zF ?_ GE583.out|refine zF ?_ GE584.out)|exact HB.out)) hb);clear BK583;clear BK584;clear HB;have HO587:=n0_;have HO590:=n1_;have BK583:=n2_;have BK584:=n3_;have HB:=n4_;clear n0_ n1_ n2_ n3_ n4_;(try clear hb);(try clear hb2);(try clear hk);(try clear hi);(try clear ho0);(try clear ho1))|((with_reducible refine gate_dst (N:=3) rfl ?_);refine box_event ?hg (N:=3) ?hd (cs:=#[.slice none 0 0,.slice none 0 0]) (t:=33) ?hr ?_;(case hd=>rfl);(case hg=>rfl);(case hr=>first|(go_simp;done)|(go_simp;rfl));intro gb591 hg w8 hbox hb;have n0_:=zA (zj (by apply zR_;exact HO587.out) hb);have n1_:=zA (zj (by apply zR_;exact HO590.out) hb);have n2_:=zA (zX (g:=gb583) (o:=.cells #[.slice A0_0 l0_0.length c0_0,.slice A0_1 l0_1.length c0_1] 33 (0,0)) (by (with_reducible repeat (first|refine zG ?_ _|refine zI ?_|refine zH ?_ _));exact BK583.out) hb);have n3_:=zA (zX (g:=gb584) (o:=.cells #[.slice none 0 0,.slice none 0 0] 33 (0,0)) (by (with_reducible repeat (first|refine zG ?_ _|refine zI ?_|refine zH ?_ _));exact BK584.out) hb);have n4_:=zA (zR (by repeat (first|(with_reducible first|exact HB.out|apply zD|apply zB|apply zC|refine zF ?_ GE583.out|refine zF ?_ GE584.out)|exact HB.out)) hb);have n5_:=zA (hbox);have n6_:=zA ((by rw [hg];exact (zQ (by repeat (first|(with_reducible first|exact HB.out|apply zD|apply zB|apply zC|refine zF ?_ GE583.out|refine zF ?_ GE584.out)|exact HB.out))):w.heap.size≤gb591));have n7_:=zA ((by rw [hg];exact (zQ (by repeat (first|(with_reducible first|exact HB.out|apply zD|apply zB|apply zC|refine zF ?_ GE583.out|refine zF ?_ GE584.out)|exact HB.out))):w.heap.size≤gb591));have n8_:=zA ((by rw [hg];exact Nat.ne_of_lt (blk_lt (g:=gb583) (o:=.cells #[.slice A0_0 l0_0.length c0_0,.slice A0_1 l0_1.length c0_1] 33 (0,0)) (by (with_reducible repeat (first|refine zG ?_ _|refine zI ?_|refine zH ?_ _));exact BK583.out)):gb583≠gb591));have n9_:=zA ((by rw [hg];exact Nat.ne_of_gt (blk_lt (g:=gb583) (o:=.cells #[.slice A0_0 l0_0.length c0_0,.slice A0_1 l0_1.length c0_1] 33 (0,0)) (by (with_reducible repeat (first|refine zG ?_ _|refine zI ?_|refine zH ?_ _));exact BK583.out)):gb591≠gb583));have n10_:=zA ((by rw [hg];exact Nat.ne_of_lt (blk_lt (g:=gb584) (o:=.cells #[.slice none 0 0,.slice none 0 0] 33 (0,0)) (by (with_reducible repeat (first|refine zG ?_ _|refine zI ?_|refine zH ?_ _));exact BK584.out)):gb584≠gb591));have n11_:=zA ((by rw [hg];exact Nat.ne_of_gt (blk_lt (g:=gb584) (o:=.cells #[.slice none 0 0,.slice none 0 0] 33 (0,0)) (by (with_reducible repeat (first|refine zG ?_ _|refine zI ?_|refine zH ?_ _));exact BK584.out)):gb591≠gb584));clear HO587;clear HO590;clear BK583;clear BK584;clear HB;have HO587:=n0_;have HO590:=n1_;have BK583:=n2_;have BK584:=n3_;have HB:=n4_;have BK591:=n5_;have GW591:=n6_;have GE591:=n7_;have NB583_591:=n8_;have NB591_583:=n9_;have NB584_591:=n10_;have NB591_584:=n11_;clear n0_ n1_ n2_ n3_ n4_ n5_ n6_ n7_ n8_ n9_ n10_ n11_;clear hb hbox hg;obtain ⟨Ao9,co9,eo9⟩:=zg HO587.out;subst eo9;have hnb10:=NB591_583.out;have hnc10:=NB583_591.out;have hnb11:=NB591_584.out;have hnc11:=NB584_591.out;have hcz12_0:w8.cell? ⟨gb591,0,none⟩ = some (.slice none 0 0):=(zT BK591.out 0).trans rfl;have hcz12_1:w8.cell? ⟨gb591,1,none⟩ = some (.slice none 0 0):=(zT BK591.out 1).trans rfl;have hfz12_0:=zZ BK591.out 0;have hfz12_1:=zZ BK591.out 1;obtain ⟨Ao13,co13,eo13⟩:=zg HO590.out;subst eo13))
 go_loopg [4] k (fun kq v4 w' => ∃ (x4_1:Int) (x592000_1:List Int) (x592001_1:List Int) (u592000:Value) (u592001:Value),v4 = .int .i64 x4_1∧Aside0 (spec_l2Least.l0 kq x4_1 l0_0 l0_1 x592000_1 x592001_1 = some (r1,r2))∧Aside0 (kq≤k)∧Aside0 (Kd.R (Kd.int .i64) 3 w' w.heap.size (fun k_=>some k_≠(u592001:Value).ownBlock) u592000 x592000_1)∧Aside0 (Kd.R (Kd.int .i64) 3 w' w.heap.size (fun k_=>some k_≠(u592000:Value).ownBlock) u592001 x592001_1)∧Aside0 (w'.heap[gb583]? = some (.cells #[(.slice A0_0 l0_0.length c0_0),(.slice A0_1 l0_1.length c0_1)] 33 (0,0)))∧Aside0 (w'.heap[gb584]? = some (.cells #[(.slice none 0 0),(.slice none 0 0)] 33 (0,0)))∧Aside0 (w'.heap[gb591]? = some (.cells #[u592000,u592001] 33 (0,0)))∧Aside0 (Below w.heap.size w w'))
 case atStart=>exact ⟨(1),(t585),(t588),(.slice Ao9 t585.length co9),(.slice Ao13 t588.length co13),(by first|rfl|(simp;done)|(simp [*];done)),H',⟨Nat.le_refl _⟩,⟨by apply zR_;exact zV (zi (p:=⟨gb591,1,none⟩) (zi (p:=⟨gb591,0,none⟩) (Kd.R_types HO587.out BK591.out (by decide)) (fun _ hk=>hk.2) (.slice Ao9 t585.length co9)) (fun _ hk=>hk.2) (.slice Ao13 t588.length co13)) (fun _ hk=>hk.1)⟩,⟨by apply zR_;exact zV (zi (p:=⟨gb591,1,none⟩) (zi (p:=⟨gb591,0,none⟩) (Kd.R_types HO590.out BK591.out (by decide)) (fun _ hk=>hk.2) (.slice Ao9 t585.length co9)) (fun _ hk=>hk.2) (.slice Ao13 t588.length co13)) (fun _ hk=>hk.1)⟩,⟨by (with_reducible repeat (first|refine zG ?_ _|refine zI ?_|refine zH ?_ _));refine blk_far ?_ NB583_591.out _;(with_reducible repeat (first|refine zG ?_ _|refine zI ?_|refine zH ?_ _));refine blk_far ?_ NB583_591.out _;(with_reducible repeat (first|refine zG ?_ _|refine zI ?_|refine zH ?_ _));exact BK583.out⟩,⟨by (with_reducible repeat (first|refine zG ?_ _|refine zI ?_|refine zH ?_ _));refine blk_far ?_ NB584_591.out _;(with_reducible repeat (first|refine zG ?_ _|refine zI ?_|refine zH ?_ _));refine blk_far ?_ NB584_591.out _;(with_reducible repeat (first|refine zG ?_ _|refine zI ?_|refine zH ?_ _));exact BK584.out⟩,⟨by (with_reducible repeat (first|refine zG ?_ _|refine zI ?_|refine zH ?_ _));refine blk_put (cs:=#[.slice Ao9 t585.length co9,.slice none 0 0]) ?_ 1 _ rfl;(with_reducible repeat (first|refine zG ?_ _|refine zI ?_|refine zH ?_ _));refine blk_put (cs:=#[.slice none 0 0,.slice none 0 0]) ?_ 0 _ rfl;(with_reducible repeat (first|refine zG ?_ _|refine zI ?_|refine zH ?_ _));exact BK591.out⟩,⟨by repeat (first|(with_reducible first|exact HB.out|apply zD|apply zB|apply zC|refine zF ?_ GE583.out|refine zF ?_ GE584.out|refine zF ?_ GE591.out)|exact HB.out)⟩⟩
 case round =>
  clear H'
  (try clear c1);(try clear p2);(try clear c5);(try clear c6);(try clear c7);(try clear c10);(try clear c11);(try clear hcz12_0);(try clear hcz12_1);(try clear hcz6_0);(try clear hcz6_1);(try clear hfz12_0);(try clear hfz12_1);(try clear hfz6_0);(try clear hfz6_1)
  obtain ⟨x4_1,x592000_1,x592001_1,u592000,u592001,rfl,HA,HK1,HO_592000,HO_592001,BK583,BK584,BK591,HB⟩:=hrel
  cases gk with
  | zero=>exact absurd HA.out (by simp [spec_l2Least.l0])
  | succ k1 =>
   have H:=HA.out
   clear HA
   simp only [spec_l2Least.l0] at H
   by_cases c14:x4_1 < (l0_0.length:Int)
   ·rw [if_pos c14] at H
    have c14b0:decide (x4_1 < (l0_0.length:Int)) = true:=zO c14
    clear c14
    replace H:=zz0 H
    obtain ⟨⟨t592,t595⟩,A150,H⟩:=H
    try dsimp only at H
    have A15:=zA A150
    clear A150
    replace H:=zz0 H
    obtain ⟨t599,A160,H⟩:=H
    try dsimp only at H
    have A16:=zA A160
    clear A160
    by_cases c17:t599 < 0
    ·rw [if_pos c17] at H
     have c17b0:decide (t599 < 0) = true:=zO c17
     clear c17
     have H':=zA H
     clear H
     have hnb18:=NB583_584.out
     have hnc18:=NB584_583.out
     have hnb19:=NB583_591.out
     have hnc19:=NB591_583.out
     have hcz20_0:wr.cell? ⟨gb583,0,none⟩ = some (.slice A0_0 l0_0.length c0_0):=(zT BK583.out 0).trans rfl
     have hcz20_1:wr.cell? ⟨gb583,1,none⟩ = some (.slice A0_1 l0_1.length c0_1):=(zT BK583.out 1).trans rfl
     have hfz20_0:=zZ BK583.out 0
     have hfz20_1:=zZ BK583.out 1
     go_wp2_with (first|((with_reducible refine gate_callee (f:=78) rfl ?_);refine goesL_ (some 17) rfl rfl Try.func78 (by kernel_rfl) rfl #[.agg #[.slice A0_0 l0_0.length c0_0,.slice A0_1 l0_1.length c0_1],.int .i64 x4_1] rfl (by (try simp only [zJ,zM,zN]);first|done|rfl|(simp only [zL,zK];rfl)) ?_;(with_reducible refine (spec_l2Form.calls k1 _ _ l0_0 _ _ l0_1 x4_1 t592 t595 _ ?side1 ?side2 ?side3 ?side4 A15.out).mono ?_);(case side1=>repeat (first|exact (zW HR0_0.out HB.out)|(with_reducible exact HR0_0.out)|apply zC_));(case side2=>exact HC0_0.out);(case side3=>repeat (first|exact (zW HR0_1.out HB.out)|(with_reducible exact HR0_1.out)|apply zC_));(case side4=>exact HC0_1.out);rintro e w21 ⟨v593,v596,rfl,ho0,ho1,hb⟩;refine ⟨_,rfl,?_⟩;have n0_:=zA (zV (Kd.R_told (Kd.R_told (Kd.R_old (by apply zR_;exact HO_592000.out) hb) (zd ho0)) (zd ho1)) (fun _ h_=>h_.1));have n1_:=zA (zV (Kd.R_told (Kd.R_told (Kd.R_old (by apply zR_;exact HO_592001.out) hb) (zd ho0)) (zd ho1)) (fun _ h_=>h_.1));have n2_:=zA (ze (zh (zh ho0 (Kd.R_lt (by apply zR_;exact HO_592000.out))) (Kd.R_lt (by apply zR_;exact HO_592001.out))) (zQ (by repeat (first|(with_reducible first|exact HB.out|apply zD|apply zB|apply zC|refine zF ?_ GE583.out|refine zF ?_ GE584.out|refine zF ?_ GE591.out)|exact HB.out))));have n3_:=zA (ze (zh (zh ho1 (Kd.R_lt (by apply zR_;exact HO_592000.out))) (Kd.R_lt (by apply zR_;exact HO_592001.out))) (zQ (by repeat (first|(with_reducible first|exact HB.out|apply zD|apply zB|apply zC|refine zF ?_ GE583.out|refine zF ?_ GE584.out|refine zF ?_ GE591.out)|exact HB.out))));have n4_:=zA (zX (g:=gb583) (o:=.cells #[.slice A0_0 l0_0.length c0_0,.slice A0_1 l0_1.length c0_1] 33 (0,0)) (by (with_reducible repeat (first|refine zG ?_ _|refine zI ?_|refine zH ?_ _));exact BK583.out) hb);have n5_:=zA (zX (g:=gb584) (o:=.cells #[.slice none 0 0,.slice none 0 0] 33 (0,0)) (by (with_reducible repeat (first|refine zG ?_ _|refine zI ?_|refine zH ?_ _));exact BK584.out) hb);have n6_:=zA (zX (g:=gb591) (o:=.cells #[u592000,u592001] 33 (0,0)) (by (with_reducible repeat (first|refine zG ?_ _|refine zI ?_|refine zH ?_ _));exact BK591.out) hb);have n7_:=zA (zR (by repeat (first|(with_reducible first|exact HB.out|apply zD|apply zB|apply zC|refine zF ?_ GE583.out|refine zF ?_ GE584.out|refine zF ?_ GE591.out)|exact HB.out)) hb);clear HO_592000;clear HO_592001;clear BK583;clear BK584;clear BK591;clear HB;have HO_592000:=n0_;have HO_592001:=n1_;have HO594:=n2_;have HO597:=n3_;have BK583:=n4_;have BK584:=n5_;have BK591:=n6_;have HB:=n7_;clear n0_ n1_ n2_ n3_ n4_ n5_ n6_ n7_;(try clear hb);(try clear hb2);(try clear hk);(try clear hi);(try clear ho0);(try clear ho1))|((with_reducible refine gate_dst (N:=5) rfl ?_);refine box_event ?hg (N:=5) ?hd (cs:=#[.slice none 0 0,.slice none 0 0]) (t:=33) ?hr ?_;(case hd=>rfl);(case hg=>rfl);(case hr=>first|(go_simp;done)|(go_simp;rfl));intro gb598 hg w22 hbox hb;have n0_:=zA (zj (by apply zR_;exact HO_592000.out) hb);have n1_:=zA (zj (by apply zR_;exact HO_592001.out) hb);have n2_:=zA (zj (by apply zR_;exact HO594.out) hb);have n3_:=zA (zj (by apply zR_;exact HO597.out) hb);have n4_:=zA (zX (g:=gb583) (o:=.cells #[.slice A0_0 l0_0.length c0_0,.slice A0_1 l0_1.length c0_1] 33 (0,0)) (by (with_reducible repeat (first|refine zG ?_ _|refine zI ?_|refine zH ?_ _));exact BK583.out) hb);have n5_:=zA (zX (g:=gb584) (o:=.cells #[.slice none 0 0,.slice none 0 0] 33 (0,0)) (by (with_reducible repeat (first|refine zG ?_ _|refine zI ?_|refine zH ?_ _));exact BK584.out) hb);have n6_:=zA (zX (g:=gb591) (o:=.cells #[u592000,u592001] 33 (0,0)) (by (with_reducible repeat (first|refine zG ?_ _|refine zI ?_|refine zH ?_ _));exact BK591.out) hb);have n7_:=zA (zR (by repeat (first|(with_reducible first|exact HB.out|apply zD|apply zB|apply zC|refine zF ?_ GE583.out|refine zF ?_ GE584.out|refine zF ?_ GE591.out)|exact HB.out)) hb);have n8_:=zA (hbox);have n9_:=zA ((by rw [hg];exact (zQ (by repeat (first|(with_reducible first|exact HB.out|apply zD|apply zB|apply zC|refine zF ?_ GE583.out|refine zF ?_ GE584.out|refine zF ?_ GE591.out)|exact HB.out))):w.heap.size≤gb598));have n10_:=zA ((by rw [hg];exact (zQ (by repeat (first|(with_reducible first|exact HB.out|apply zD|apply zB|apply zC|refine zF ?_ GE583.out|refine zF ?_ GE584.out|refine zF ?_ GE591.out)|exact HB.out))):w.heap.size≤gb598));have n11_:=zA ((by rw [hg];exact Nat.ne_of_lt (blk_lt (g:=gb583) (o:=.cells #[.slice A0_0 l0_0.length c0_0,.slice A0_1 l0_1.length c0_1] 33 (0,0)) (by (with_reducible repeat (first|refine zG ?_ _|refine zI ?_|refine zH ?_ _));exact BK583.out)):gb583≠gb598));have n12_:=zA ((by rw [hg];exact Nat.ne_of_gt (blk_lt (g:=gb583) (o:=.cells #[.slice A0_0 l0_0.length c0_0,.slice A0_1 l0_1.length c0_1] 33 (0,0)) (by (with_reducible repeat (first|refine zG ?_ _|refine zI ?_|refine zH ?_ _));exact BK583.out)):gb598≠gb583));have n13_:=zA ((by rw [hg];exact Nat.ne_of_lt (blk_lt (g:=gb584) (o:=.cells #[.slice none 0 0,.slice none 0 0] 33 (0,0)) (by (with_reducible repeat (first|refine zG ?_ _|refine zI ?_|refine zH ?_ _));exact BK584.out)):gb584≠gb598));have n14_:=zA ((by rw [hg];exact Nat.ne_of_gt (blk_lt (g:=gb584) (o:=.cells #[.slice none 0 0,.slice none 0 0] 33 (0,0)) (by (with_reducible repeat (first|refine zG ?_ _|refine zI ?_|refine zH ?_ _));exact BK584.out)):gb598≠gb584));have n15_:=zA ((by rw [hg];exact Nat.ne_of_lt (blk_lt (g:=gb591) (o:=.cells #[u592000,u592001] 33 (0,0)) (by (with_reducible repeat (first|refine zG ?_ _|refine zI ?_|refine zH ?_ _));exact BK591.out)):gb591≠gb598));have n16_:=zA ((by rw [hg];exact Nat.ne_of_gt (blk_lt (g:=gb591) (o:=.cells #[u592000,u592001] 33 (0,0)) (by (with_reducible repeat (first|refine zG ?_ _|refine zI ?_|refine zH ?_ _));exact BK591.out)):gb598≠gb591));clear HO_592000;clear HO_592001;clear HO594;clear HO597;clear BK583;clear BK584;clear BK591;clear HB;have HO_592000:=n0_;have HO_592001:=n1_;have HO594:=n2_;have HO597:=n3_;have BK583:=n4_;have BK584:=n5_;have BK591:=n6_;have HB:=n7_;have BK598:=n8_;have GW598:=n9_;have GE598:=n10_;have NB583_598:=n11_;have NB598_583:=n12_;have NB584_598:=n13_;have NB598_584:=n14_;have NB591_598:=n15_;have NB598_591:=n16_;clear n0_ n1_ n2_ n3_ n4_ n5_ n6_ n7_ n8_ n9_ n10_ n11_ n12_ n13_ n14_ n15_ n16_;clear hb hbox hg;obtain ⟨Ao23,co23,eo23⟩:=zg HO594.out;subst eo23;have hnb24:=NB598_583.out;have hnc24:=NB583_598.out;have hnb25:=NB598_584.out;have hnc25:=NB584_598.out;have hnb26:=NB598_591.out;have hnc26:=NB591_598.out;have hcz27_0:w22.cell? ⟨gb598,0,none⟩ = some (.slice none 0 0):=(zT BK598.out 0).trans rfl;have hcz27_1:w22.cell? ⟨gb598,1,none⟩ = some (.slice none 0 0):=(zT BK598.out 1).trans rfl;have hfz27_0:=zZ BK598.out 0;have hfz27_1:=zZ BK598.out 1;obtain ⟨Ao28,co28,eo28⟩:=zg HO597.out;subst eo28;have hnb29:=NB591_584.out;have hnc29:=NB584_591.out;have hcz30_0:w22.cell? ⟨gb591,0,none⟩ = some (u592000):=(zT BK591.out 0).trans rfl;have hcz30_1:w22.cell? ⟨gb591,1,none⟩ = some (u592001):=(zT BK591.out 1).trans rfl;have hfz30_0:=zZ BK591.out 0;have hfz30_1:=zZ BK591.out 1;obtain ⟨Ao31,co31,eo31⟩:=zg HO_592000.out;subst eo31;obtain ⟨Ao32,co32,eo32⟩:=zg HO_592001.out;subst eo32)|((with_reducible refine gate_callee (f:=83) rfl ?_);refine goesL_ (some 20) rfl rfl Try.func83 (by kernel_rfl) rfl #[.agg #[.slice Ao23 t592.length co23,.slice Ao28 t595.length co28],.agg #[.slice Ao31 x592000_1.length co31,.slice Ao32 x592001_1.length co32]] rfl (by (try simp only [zJ,zM,zN]);first|done|rfl|(simp only [zL,zK];rfl)) ?_;(with_reducible refine (spec_l2Before.calls k1 _ _ t592 _ _ t595 _ _ x592000_1 _ _ x592001_1 t599 _ ?side1 ?side2 ?side3 ?side4 ?side5 ?side6 ?side7 ?side8 A16.out).mono ?_);(case side1=>refine (zU (e:=3) (base:=w.heap.size) (ok:=fun k_=>((some k_≠(.slice Ao28 t595.length co28:Value).ownBlock∧some k_≠(.slice Ao31 x592000_1.length co31:Value).ownBlock)∧some k_≠(.slice Ao32 x592001_1.length co32:Value).ownBlock)) (n:=t592.length) (c:=co23) ?_).2.2;exact (by apply zR_;exact (zV (zi (p:=⟨gb598,1,none⟩) (zi (p:=⟨gb598,0,none⟩) (Kd.R_types HO594.out BK598.out (by decide)) (fun _ hk=>hk.2) (.slice Ao23 t592.length co23)) (fun _ hk=>hk.2) (.slice Ao28 t595.length co28)) (fun _ h_=>h_.1))));(case side2=>exact (zU HO594.out).2.1);(case side3=>refine (zU (e:=3) (base:=w.heap.size) (ok:=fun k_=>((some k_≠(.slice Ao23 t592.length co23:Value).ownBlock∧some k_≠(.slice Ao31 x592000_1.length co31:Value).ownBlock)∧some k_≠(.slice Ao32 x592001_1.length co32:Value).ownBlock)) (n:=t595.length) (c:=co28) ?_).2.2;exact (by apply zR_;exact (zV (zi (p:=⟨gb598,1,none⟩) (zi (p:=⟨gb598,0,none⟩) (Kd.R_types HO597.out BK598.out (by decide)) (fun _ hk=>hk.2) (.slice Ao23 t592.length co23)) (fun _ hk=>hk.2) (.slice Ao28 t595.length co28)) (fun _ h_=>h_.1))));(case side4=>exact (zU HO597.out).2.1);(case side5=>refine (zU (e:=3) (base:=w.heap.size) (ok:=fun k_=>((some k_≠(.slice Ao32 x592001_1.length co32:Value).ownBlock∧some k_≠(.slice Ao23 t592.length co23:Value).ownBlock)∧some k_≠(.slice Ao28 t595.length co28:Value).ownBlock)) (n:=x592000_1.length) (c:=co31) ?_).2.2;exact (by apply zR_;exact (zV (zi (p:=⟨gb598,1,none⟩) (zi (p:=⟨gb598,0,none⟩) (Kd.R_types HO_592000.out BK598.out (by decide)) (fun _ hk=>hk.2) (.slice Ao23 t592.length co23)) (fun _ hk=>hk.2) (.slice Ao28 t595.length co28)) (fun _ h_=>h_.1))));(case side6=>exact (zU HO_592000.out).2.1);(case side7=>refine (zU (e:=3) (base:=w.heap.size) (ok:=fun k_=>((some k_≠(.slice Ao31 x592000_1.length co31:Value).ownBlock∧some k_≠(.slice Ao23 t592.length co23:Value).ownBlock)∧some k_≠(.slice Ao28 t595.length co28:Value).ownBlock)) (n:=x592001_1.length) (c:=co32) ?_).2.2;exact (by apply zR_;exact (zV (zi (p:=⟨gb598,1,none⟩) (zi (p:=⟨gb598,0,none⟩) (Kd.R_types HO_592001.out BK598.out (by decide)) (fun _ hk=>hk.2) (.slice Ao23 t592.length co23)) (fun _ hk=>hk.2) (.slice Ao28 t595.length co28)) (fun _ h_=>h_.1))));(case side8=>exact (zU HO_592001.out).2.1);rintro e w33 ⟨rfl,hb⟩;refine ⟨_,rfl,?_⟩;have n0_:=zA (zj (by apply zR_;exact (zV (zi (p:=⟨gb598,1,none⟩) (zi (p:=⟨gb598,0,none⟩) (Kd.R_types HO_592000.out BK598.out (by decide)) (fun _ hk=>hk.2) (.slice Ao23 t592.length co23)) (fun _ hk=>hk.2) (.slice Ao28 t595.length co28)) (fun _ h_=>h_.1))) hb);have n1_:=zA (zj (by apply zR_;exact (zV (zi (p:=⟨gb598,1,none⟩) (zi (p:=⟨gb598,0,none⟩) (Kd.R_types HO_592001.out BK598.out (by decide)) (fun _ hk=>hk.2) (.slice Ao23 t592.length co23)) (fun _ hk=>hk.2) (.slice Ao28 t595.length co28)) (fun _ h_=>h_.1))) hb);have n2_:=zA (zj (by apply zR_;exact (zV (zi (p:=⟨gb598,1,none⟩) (zi (p:=⟨gb598,0,none⟩) (Kd.R_types HO594.out BK598.out (by decide)) (fun _ hk=>hk.2) (.slice Ao23 t592.length co23)) (fun _ hk=>hk.2) (.slice Ao28 t595.length co28)) (fun _ h_=>h_.1))) hb);have n3_:=zA (zj (by apply zR_;exact (zV (zi (p:=⟨gb598,1,none⟩) (zi (p:=⟨gb598,0,none⟩) (Kd.R_types HO597.out BK598.out (by decide)) (fun _ hk=>hk.2) (.slice Ao23 t592.length co23)) (fun _ hk=>hk.2) (.slice Ao28 t595.length co28)) (fun _ h_=>h_.1))) hb);have n4_:=zA (zX (g:=gb583) (o:=.cells #[.slice A0_0 l0_0.length c0_0,.slice A0_1 l0_1.length c0_1] 33 (0,0)) (by (with_reducible repeat (first|refine zG ?_ _|refine zI ?_|refine zH ?_ _));refine blk_far ?_ NB583_598.out _;(with_reducible repeat (first|refine zG ?_ _|refine zI ?_|refine zH ?_ _));refine blk_far ?_ NB583_598.out _;(with_reducible repeat (first|refine zG ?_ _|refine zI ?_|refine zH ?_ _));exact BK583.out) hb);have n5_:=zA (zX (g:=gb584) (o:=.cells #[.slice none 0 0,.slice none 0 0] 33 (0,0)) (by (with_reducible repeat (first|refine zG ?_ _|refine zI ?_|refine zH ?_ _));refine blk_far ?_ NB584_598.out _;(with_reducible repeat (first|refine zG ?_ _|refine zI ?_|refine zH ?_ _));refine blk_far ?_ NB584_598.out _;(with_reducible repeat (first|refine zG ?_ _|refine zI ?_|refine zH ?_ _));exact BK584.out) hb);have n6_:=zA (zX (g:=gb591) (o:=.cells #[.slice Ao31 x592000_1.length co31,.slice Ao32 x592001_1.length co32] 33 (0,0)) (by (with_reducible repeat (first|refine zG ?_ _|refine zI ?_|refine zH ?_ _));refine blk_far ?_ NB591_598.out _;(with_reducible repeat (first|refine zG ?_ _|refine zI ?_|refine zH ?_ _));refine blk_far ?_ NB591_598.out _;(with_reducible repeat (first|refine zG ?_ _|refine zI ?_|refine zH ?_ _));exact BK591.out) hb);have n7_:=zA (zX (g:=gb598) (o:=.cells #[.slice Ao23 t592.length co23,.slice Ao28 t595.length co28] 33 (0,0)) (by (with_reducible repeat (first|refine zG ?_ _|refine zI ?_|refine zH ?_ _));refine blk_put (cs:=#[.slice Ao23 t592.length co23,.slice none 0 0]) ?_ 1 _ rfl;(with_reducible repeat (first|refine zG ?_ _|refine zI ?_|refine zH ?_ _));refine blk_put (cs:=#[.slice none 0 0,.slice none 0 0]) ?_ 0 _ rfl;(with_reducible repeat (first|refine zG ?_ _|refine zI ?_|refine zH ?_ _));exact BK598.out) hb);have n8_:=zA (zR (by repeat (first|(with_reducible first|exact HB.out|apply zD|apply zB|apply zC|refine zF ?_ GE583.out|refine zF ?_ GE584.out|refine zF ?_ GE591.out|refine zF ?_ GE598.out)|exact HB.out)) hb);clear HO_592000;clear HO_592001;clear HO594;clear HO597;clear BK583;clear BK584;clear BK591;clear BK598;clear HB;have HO_592000:=n0_;have HO_592001:=n1_;have HO594:=n2_;have HO597:=n3_;have BK583:=n4_;have BK584:=n5_;have BK591:=n6_;have BK598:=n7_;have HB:=n8_;clear n0_ n1_ n2_ n3_ n4_ n5_ n6_ n7_ n8_;(try clear hb);(try clear hb2);(try clear hk);(try clear hi);have hcz34_0:w33.cell? ⟨gb598,0,none⟩ = some (.slice Ao23 t592.length co23):=(zT BK598.out 0).trans rfl;have hcz34_1:w33.cell? ⟨gb598,1,none⟩ = some (.slice Ao28 t595.length co28):=(zT BK598.out 1).trans rfl;have hfz34_0:=zZ BK598.out 0;have hfz34_1:=zZ BK598.out 1;have hcz35_0:w33.cell? ⟨gb591,0,none⟩ = some (.slice Ao31 x592000_1.length co31):=(zT BK591.out 0).trans rfl;have hcz35_1:w33.cell? ⟨gb591,1,none⟩ = some (.slice Ao32 x592001_1.length co32):=(zT BK591.out 1).trans rfl;have hfz35_0:=zZ BK591.out 0;have hfz35_1:=zZ BK591.out 1))
     go_roundg k1
     case measure=>have:=HK1.out;omega
     case rel=>exact ⟨(wrap64 (x4_1+1)),(t592),(t595),(.slice Ao23 t592.length co23),(.slice Ao28 t595.length co28),(by first|rfl|(simp;done)|(simp [*];done)),H',⟨by have:=HK1.out;omega⟩,⟨by apply zR_;exact zV (zi (p:=⟨gb591,1,none⟩) (zi (p:=⟨gb591,0,none⟩) (Kd.R_types HO594.out BK591.out (by decide)) (fun _ hk=>hk.2) (.slice Ao23 t592.length co23)) (fun _ hk=>hk.2) (.slice Ao28 t595.length co28)) (fun _ hk=>hk.1.1.1)⟩,⟨by apply zR_;exact zV (zi (p:=⟨gb591,1,none⟩) (zi (p:=⟨gb591,0,none⟩) (Kd.R_types HO597.out BK591.out (by decide)) (fun _ hk=>hk.2) (.slice Ao23 t592.length co23)) (fun _ hk=>hk.2) (.slice Ao28 t595.length co28)) (fun _ hk=>hk.1.1.1)⟩,⟨by (with_reducible repeat (first|refine zG ?_ _|refine zI ?_|refine zH ?_ _));refine blk_far ?_ NB583_591.out _;(with_reducible repeat (first|refine zG ?_ _|refine zI ?_|refine zH ?_ _));refine blk_far ?_ NB583_591.out _;(with_reducible repeat (first|refine zG ?_ _|refine zI ?_|refine zH ?_ _));exact BK583.out⟩,⟨by (with_reducible repeat (first|refine zG ?_ _|refine zI ?_|refine zH ?_ _));refine blk_far ?_ NB584_591.out _;(with_reducible repeat (first|refine zG ?_ _|refine zI ?_|refine zH ?_ _));refine blk_far ?_ NB584_591.out _;(with_reducible repeat (first|refine zG ?_ _|refine zI ?_|refine zH ?_ _));exact BK584.out⟩,⟨by (with_reducible repeat (first|refine zG ?_ _|refine zI ?_|refine zH ?_ _));refine blk_put (cs:=#[.slice Ao23 t592.length co23,.slice Ao32 x592001_1.length co32]) ?_ 1 _ rfl;(with_reducible repeat (first|refine zG ?_ _|refine zI ?_|refine zH ?_ _));refine blk_put (cs:=#[.slice Ao31 x592000_1.length co31,.slice Ao32 x592001_1.length co32]) ?_ 0 _ rfl;(with_reducible repeat (first|refine zG ?_ _|refine zI ?_|refine zH ?_ _));exact BK591.out⟩,⟨by repeat (first|(with_reducible first|exact HB.out|apply zD|apply zB|apply zC|refine zF ?_ GE583.out|refine zF ?_ GE584.out|refine zF ?_ GE591.out|refine zF ?_ GE598.out)|exact HB.out)⟩⟩
    ·rw [if_neg c17] at H
     have c17b0:decide (t599 < 0) = false:=zP c17
     clear c17
     have H':=zA H
     clear H
     have hnb36:=NB583_584.out
     have hnc36:=NB584_583.out
     have hnb37:=NB583_591.out
     have hnc37:=NB591_583.out
     have hcz38_0:wr.cell? ⟨gb583,0,none⟩ = some (.slice A0_0 l0_0.length c0_0):=(zT BK583.out 0).trans rfl
     have hcz38_1:wr.cell? ⟨gb583,1,none⟩ = some (.slice A0_1 l0_1.length c0_1):=(zT BK583.out 1).trans rfl
     have hfz38_0:=zZ BK583.out 0
     have hfz38_1:=zZ BK583.out 1
     go_wp2_with (first|((with_reducible refine gate_callee (f:=78) rfl ?_);refine goesL_ (some 17) rfl rfl Try.func78 (by kernel_rfl) rfl #[.agg #[.slice A0_0 l0_0.length c0_0,.slice A0_1 l0_1.length c0_1],.int .i64 x4_1] rfl (by (try simp only [zJ,zM,zN]);first|done|rfl|(simp only [zL,zK];rfl)) ?_;(with_reducible refine (spec_l2Form.calls k1 _ _ l0_0 _ _ l0_1 x4_1 t592 t595 _ ?side1 ?side2 ?side3 ?side4 A15.out).mono ?_);(case side1=>repeat (first|exact (zW HR0_0.out HB.out)|(with_reducible exact HR0_0.out)|apply zC_));(case side2=>exact HC0_0.out);(case side3=>repeat (first|exact (zW HR0_1.out HB.out)|(with_reducible exact HR0_1.out)|apply zC_));(case side4=>exact HC0_1.out);rintro e w39 ⟨v593,v596,rfl,ho0,ho1,hb⟩;refine ⟨_,rfl,?_⟩;have n0_:=zA (zV (Kd.R_told (Kd.R_told (Kd.R_old (by apply zR_;exact HO_592000.out) hb) (zd ho0)) (zd ho1)) (fun _ h_=>h_.1));have n1_:=zA (zV (Kd.R_told (Kd.R_told (Kd.R_old (by apply zR_;exact HO_592001.out) hb) (zd ho0)) (zd ho1)) (fun _ h_=>h_.1));have n2_:=zA (ze (zh (zh ho0 (Kd.R_lt (by apply zR_;exact HO_592000.out))) (Kd.R_lt (by apply zR_;exact HO_592001.out))) (zQ (by repeat (first|(with_reducible first|exact HB.out|apply zD|apply zB|apply zC|refine zF ?_ GE583.out|refine zF ?_ GE584.out|refine zF ?_ GE591.out)|exact HB.out))));have n3_:=zA (ze (zh (zh ho1 (Kd.R_lt (by apply zR_;exact HO_592000.out))) (Kd.R_lt (by apply zR_;exact HO_592001.out))) (zQ (by repeat (first|(with_reducible first|exact HB.out|apply zD|apply zB|apply zC|refine zF ?_ GE583.out|refine zF ?_ GE584.out|refine zF ?_ GE591.out)|exact HB.out))));have n4_:=zA (zX (g:=gb583) (o:=.cells #[.slice A0_0 l0_0.length c0_0,.slice A0_1 l0_1.length c0_1] 33 (0,0)) (by (with_reducible repeat (first|refine zG ?_ _|refine zI ?_|refine zH ?_ _));exact BK583.out) hb);have n5_:=zA (zX (g:=gb584) (o:=.cells #[.slice none 0 0,.slice none 0 0] 33 (0,0)) (by (with_reducible repeat (first|refine zG ?_ _|refine zI ?_|refine zH ?_ _));exact BK584.out) hb);have n6_:=zA (zX (g:=gb591) (o:=.cells #[u592000,u592001] 33 (0,0)) (by (with_reducible repeat (first|refine zG ?_ _|refine zI ?_|refine zH ?_ _));exact BK591.out) hb);have n7_:=zA (zR (by repeat (first|(with_reducible first|exact HB.out|apply zD|apply zB|apply zC|refine zF ?_ GE583.out|refine zF ?_ GE584.out|refine zF ?_ GE591.out)|exact HB.out)) hb);clear HO_592000;clear HO_592001;clear BK583;clear BK584;clear BK591;clear HB;have HO_592000:=n0_;have HO_592001:=n1_;have HO594:=n2_;have HO597:=n3_;have BK583:=n4_;have BK584:=n5_;have BK591:=n6_;have HB:=n7_;clear n0_ n1_ n2_ n3_ n4_ n5_ n6_ n7_;(try clear hb);(try clear hb2);(try clear hk);(try clear hi);(try clear ho0);(try clear ho1))|((with_reducible refine gate_dst (N:=5) rfl ?_);refine box_event ?hg (N:=5) ?hd (cs:=#[.slice none 0 0,.slice none 0 0]) (t:=33) ?hr ?_;(case hd=>rfl);(case hg=>rfl);(case hr=>first|(go_simp;done)|(go_simp;rfl));intro gb598 hg w40 hbox hb;have n0_:=zA (zj (by apply zR_;exact HO_592000.out) hb);have n1_:=zA (zj (by apply zR_;exact HO_592001.out) hb);have n2_:=zA (zj (by apply zR_;exact HO594.out) hb);have n3_:=zA (zj (by apply zR_;exact HO597.out) hb);have n4_:=zA (zX (g:=gb583) (o:=.cells #[.slice A0_0 l0_0.length c0_0,.slice A0_1 l0_1.length c0_1] 33 (0,0)) (by (with_reducible repeat (first|refine zG ?_ _|refine zI ?_|refine zH ?_ _));exact BK583.out) hb);have n5_:=zA (zX (g:=gb584) (o:=.cells #[.slice none 0 0,.slice none 0 0] 33 (0,0)) (by (with_reducible repeat (first|refine zG ?_ _|refine zI ?_|refine zH ?_ _));exact BK584.out) hb);have n6_:=zA (zX (g:=gb591) (o:=.cells #[u592000,u592001] 33 (0,0)) (by (with_reducible repeat (first|refine zG ?_ _|refine zI ?_|refine zH ?_ _));exact BK591.out) hb);have n7_:=zA (zR (by repeat (first|(with_reducible first|exact HB.out|apply zD|apply zB|apply zC|refine zF ?_ GE583.out|refine zF ?_ GE584.out|refine zF ?_ GE591.out)|exact HB.out)) hb);have n8_:=zA (hbox);have n9_:=zA ((by rw [hg];exact (zQ (by repeat (first|(with_reducible first|exact HB.out|apply zD|apply zB|apply zC|refine zF ?_ GE583.out|refine zF ?_ GE584.out|refine zF ?_ GE591.out)|exact HB.out))):w.heap.size≤gb598));have n10_:=zA ((by rw [hg];exact (zQ (by repeat (first|(with_reducible first|exact HB.out|apply zD|apply zB|apply zC|refine zF ?_ GE583.out|refine zF ?_ GE584.out|refine zF ?_ GE591.out)|exact HB.out))):w.heap.size≤gb598));have n11_:=zA ((by rw [hg];exact Nat.ne_of_lt (blk_lt (g:=gb583) (o:=.cells #[.slice A0_0 l0_0.length c0_0,.slice A0_1 l0_1.length c0_1] 33 (0,0)) (by (with_reducible repeat (first|refine zG ?_ _|refine zI ?_|refine zH ?_ _));exact BK583.out)):gb583≠gb598));have n12_:=zA ((by rw [hg];exact Nat.ne_of_gt (blk_lt (g:=gb583) (o:=.cells #[.slice A0_0 l0_0.length c0_0,.slice A0_1 l0_1.length c0_1] 33 (0,0)) (by (with_reducible repeat (first|refine zG ?_ _|refine zI ?_|refine zH ?_ _));exact BK583.out)):gb598≠gb583));have n13_:=zA ((by rw [hg];exact Nat.ne_of_lt (blk_lt (g:=gb584) (o:=.cells #[.slice none 0 0,.slice none 0 0] 33 (0,0)) (by (with_reducible repeat (first|refine zG ?_ _|refine zI ?_|refine zH ?_ _));exact BK584.out)):gb584≠gb598));have n14_:=zA ((by rw [hg];exact Nat.ne_of_gt (blk_lt (g:=gb584) (o:=.cells #[.slice none 0 0,.slice none 0 0] 33 (0,0)) (by (with_reducible repeat (first|refine zG ?_ _|refine zI ?_|refine zH ?_ _));exact BK584.out)):gb598≠gb584));have n15_:=zA ((by rw [hg];exact Nat.ne_of_lt (blk_lt (g:=gb591) (o:=.cells #[u592000,u592001] 33 (0,0)) (by (with_reducible repeat (first|refine zG ?_ _|refine zI ?_|refine zH ?_ _));exact BK591.out)):gb591≠gb598));have n16_:=zA ((by rw [hg];exact Nat.ne_of_gt (blk_lt (g:=gb591) (o:=.cells #[u592000,u592001] 33 (0,0)) (by (with_reducible repeat (first|refine zG ?_ _|refine zI ?_|refine zH ?_ _));exact BK591.out)):gb598≠gb591));clear HO_592000;clear HO_592001;clear HO594;clear HO597;clear BK583;clear BK584;clear BK591;clear HB;have HO_592000:=n0_;have HO_592001:=n1_;have HO594:=n2_;have HO597:=n3_;have BK583:=n4_;have BK584:=n5_;have BK591:=n6_;have HB:=n7_;have BK598:=n8_;have GW598:=n9_;have GE598:=n10_;have NB583_598:=n11_;have NB598_583:=n12_;have NB584_598:=n13_;have NB598_584:=n14_;have NB591_598:=n15_;have NB598_591:=n16_;clear n0_ n1_ n2_ n3_ n4_ n5_ n6_ n7_ n8_ n9_ n10_ n11_ n12_ n13_ n14_ n15_ n16_;clear hb hbox hg;obtain ⟨Ao41,co41,eo41⟩:=zg HO594.out;subst eo41;have hnb42:=NB598_583.out;have hnc42:=NB583_598.out;have hnb43:=NB598_584.out;have hnc43:=NB584_598.out;have hnb44:=NB598_591.out;have hnc44:=NB591_598.out;have hcz45_0:w40.cell? ⟨gb598,0,none⟩ = some (.slice none 0 0):=(zT BK598.out 0).trans rfl;have hcz45_1:w40.cell? ⟨gb598,1,none⟩ = some (.slice none 0 0):=(zT BK598.out 1).trans rfl;have hfz45_0:=zZ BK598.out 0;have hfz45_1:=zZ BK598.out 1;obtain ⟨Ao46,co46,eo46⟩:=zg HO597.out;subst eo46;have hnb47:=NB591_584.out;have hnc47:=NB584_591.out;have hcz48_0:w40.cell? ⟨gb591,0,none⟩ = some (u592000):=(zT BK591.out 0).trans rfl;have hcz48_1:w40.cell? ⟨gb591,1,none⟩ = some (u592001):=(zT BK591.out 1).trans rfl;have hfz48_0:=zZ BK591.out 0;have hfz48_1:=zZ BK591.out 1;obtain ⟨Ao49,co49,eo49⟩:=zg HO_592000.out;subst eo49;obtain ⟨Ao50,co50,eo50⟩:=zg HO_592001.out;subst eo50)|((with_reducible refine gate_callee (f:=83) rfl ?_);refine goesL_ (some 20) rfl rfl Try.func83 (by kernel_rfl) rfl #[.agg #[.slice Ao41 t592.length co41,.slice Ao46 t595.length co46],.agg #[.slice Ao49 x592000_1.length co49,.slice Ao50 x592001_1.length co50]] rfl (by (try simp only [zJ,zM,zN]);first|done|rfl|(simp only [zL,zK];rfl)) ?_;(with_reducible refine (spec_l2Before.calls k1 _ _ t592 _ _ t595 _ _ x592000_1 _ _ x592001_1 t599 _ ?side1 ?side2 ?side3 ?side4 ?side5 ?side6 ?side7 ?side8 A16.out).mono ?_);(case side1=>refine (zU (e:=3) (base:=w.heap.size) (ok:=fun k_=>((some k_≠(.slice Ao46 t595.length co46:Value).ownBlock∧some k_≠(.slice Ao49 x592000_1.length co49:Value).ownBlock)∧some k_≠(.slice Ao50 x592001_1.length co50:Value).ownBlock)) (n:=t592.length) (c:=co41) ?_).2.2;exact (by apply zR_;exact (zV (zi (p:=⟨gb598,1,none⟩) (zi (p:=⟨gb598,0,none⟩) (Kd.R_types HO594.out BK598.out (by decide)) (fun _ hk=>hk.2) (.slice Ao41 t592.length co41)) (fun _ hk=>hk.2) (.slice Ao46 t595.length co46)) (fun _ h_=>h_.1))));(case side2=>exact (zU HO594.out).2.1);(case side3=>refine (zU (e:=3) (base:=w.heap.size) (ok:=fun k_=>((some k_≠(.slice Ao41 t592.length co41:Value).ownBlock∧some k_≠(.slice Ao49 x592000_1.length co49:Value).ownBlock)∧some k_≠(.slice Ao50 x592001_1.length co50:Value).ownBlock)) (n:=t595.length) (c:=co46) ?_).2.2;exact (by apply zR_;exact (zV (zi (p:=⟨gb598,1,none⟩) (zi (p:=⟨gb598,0,none⟩) (Kd.R_types HO597.out BK598.out (by decide)) (fun _ hk=>hk.2) (.slice Ao41 t592.length co41)) (fun _ hk=>hk.2) (.slice Ao46 t595.length co46)) (fun _ h_=>h_.1))));(case side4=>exact (zU HO597.out).2.1);(case side5=>refine (zU (e:=3) (base:=w.heap.size) (ok:=fun k_=>((some k_≠(.slice Ao50 x592001_1.length co50:Value).ownBlock∧some k_≠(.slice Ao41 t592.length co41:Value).ownBlock)∧some k_≠(.slice Ao46 t595.length co46:Value).ownBlock)) (n:=x592000_1.length) (c:=co49) ?_).2.2;exact (by apply zR_;exact (zV (zi (p:=⟨gb598,1,none⟩) (zi (p:=⟨gb598,0,none⟩) (Kd.R_types HO_592000.out BK598.out (by decide)) (fun _ hk=>hk.2) (.slice Ao41 t592.length co41)) (fun _ hk=>hk.2) (.slice Ao46 t595.length co46)) (fun _ h_=>h_.1))));(case side6=>exact (zU HO_592000.out).2.1);(case side7=>refine (zU (e:=3) (base:=w.heap.size) (ok:=fun k_=>((some k_≠(.slice Ao49 x592000_1.length co49:Value).ownBlock∧some k_≠(.slice Ao41 t592.length co41:Value).ownBlock)∧some k_≠(.slice Ao46 t595.length co46:Value).ownBlock)) (n:=x592001_1.length) (c:=co50) ?_).2.2;exact (by apply zR_;exact (zV (zi (p:=⟨gb598,1,none⟩) (zi (p:=⟨gb598,0,none⟩) (Kd.R_types HO_592001.out BK598.out (by decide)) (fun _ hk=>hk.2) (.slice Ao41 t592.length co41)) (fun _ hk=>hk.2) (.slice Ao46 t595.length co46)) (fun _ h_=>h_.1))));(case side8=>exact (zU HO_592001.out).2.1);rintro e w51 ⟨rfl,hb⟩;refine ⟨_,rfl,?_⟩;have n0_:=zA (zj (by apply zR_;exact (zV (zi (p:=⟨gb598,1,none⟩) (zi (p:=⟨gb598,0,none⟩) (Kd.R_types HO_592000.out BK598.out (by decide)) (fun _ hk=>hk.2) (.slice Ao41 t592.length co41)) (fun _ hk=>hk.2) (.slice Ao46 t595.length co46)) (fun _ h_=>h_.1))) hb);have n1_:=zA (zj (by apply zR_;exact (zV (zi (p:=⟨gb598,1,none⟩) (zi (p:=⟨gb598,0,none⟩) (Kd.R_types HO_592001.out BK598.out (by decide)) (fun _ hk=>hk.2) (.slice Ao41 t592.length co41)) (fun _ hk=>hk.2) (.slice Ao46 t595.length co46)) (fun _ h_=>h_.1))) hb);have n2_:=zA (zj (by apply zR_;exact (zV (zi (p:=⟨gb598,1,none⟩) (zi (p:=⟨gb598,0,none⟩) (Kd.R_types HO594.out BK598.out (by decide)) (fun _ hk=>hk.2) (.slice Ao41 t592.length co41)) (fun _ hk=>hk.2) (.slice Ao46 t595.length co46)) (fun _ h_=>h_.1))) hb);have n3_:=zA (zj (by apply zR_;exact (zV (zi (p:=⟨gb598,1,none⟩) (zi (p:=⟨gb598,0,none⟩) (Kd.R_types HO597.out BK598.out (by decide)) (fun _ hk=>hk.2) (.slice Ao41 t592.length co41)) (fun _ hk=>hk.2) (.slice Ao46 t595.length co46)) (fun _ h_=>h_.1))) hb);have n4_:=zA (zX (g:=gb583) (o:=.cells #[.slice A0_0 l0_0.length c0_0,.slice A0_1 l0_1.length c0_1] 33 (0,0)) (by (with_reducible repeat (first|refine zG ?_ _|refine zI ?_|refine zH ?_ _));refine blk_far ?_ NB583_598.out _;(with_reducible repeat (first|refine zG ?_ _|refine zI ?_|refine zH ?_ _));refine blk_far ?_ NB583_598.out _;(with_reducible repeat (first|refine zG ?_ _|refine zI ?_|refine zH ?_ _));exact BK583.out) hb);have n5_:=zA (zX (g:=gb584) (o:=.cells #[.slice none 0 0,.slice none 0 0] 33 (0,0)) (by (with_reducible repeat (first|refine zG ?_ _|refine zI ?_|refine zH ?_ _));refine blk_far ?_ NB584_598.out _;(with_reducible repeat (first|refine zG ?_ _|refine zI ?_|refine zH ?_ _));refine blk_far ?_ NB584_598.out _;(with_reducible repeat (first|refine zG ?_ _|refine zI ?_|refine zH ?_ _));exact BK584.out) hb);have n6_:=zA (zX (g:=gb591) (o:=.cells #[.slice Ao49 x592000_1.length co49,.slice Ao50 x592001_1.length co50] 33 (0,0)) (by (with_reducible repeat (first|refine zG ?_ _|refine zI ?_|refine zH ?_ _));refine blk_far ?_ NB591_598.out _;(with_reducible repeat (first|refine zG ?_ _|refine zI ?_|refine zH ?_ _));refine blk_far ?_ NB591_598.out _;(with_reducible repeat (first|refine zG ?_ _|refine zI ?_|refine zH ?_ _));exact BK591.out) hb);have n7_:=zA (zX (g:=gb598) (o:=.cells #[.slice Ao41 t592.length co41,.slice Ao46 t595.length co46] 33 (0,0)) (by (with_reducible repeat (first|refine zG ?_ _|refine zI ?_|refine zH ?_ _));refine blk_put (cs:=#[.slice Ao41 t592.length co41,.slice none 0 0]) ?_ 1 _ rfl;(with_reducible repeat (first|refine zG ?_ _|refine zI ?_|refine zH ?_ _));refine blk_put (cs:=#[.slice none 0 0,.slice none 0 0]) ?_ 0 _ rfl;(with_reducible repeat (first|refine zG ?_ _|refine zI ?_|refine zH ?_ _));exact BK598.out) hb);have n8_:=zA (zR (by repeat (first|(with_reducible first|exact HB.out|apply zD|apply zB|apply zC|refine zF ?_ GE583.out|refine zF ?_ GE584.out|refine zF ?_ GE591.out|refine zF ?_ GE598.out)|exact HB.out)) hb);clear HO_592000;clear HO_592001;clear HO594;clear HO597;clear BK583;clear BK584;clear BK591;clear BK598;clear HB;have HO_592000:=n0_;have HO_592001:=n1_;have HO594:=n2_;have HO597:=n3_;have BK583:=n4_;have BK584:=n5_;have BK591:=n6_;have BK598:=n7_;have HB:=n8_;clear n0_ n1_ n2_ n3_ n4_ n5_ n6_ n7_ n8_;(try clear hb);(try clear hb2);(try clear hk);(try clear hi)))
     go_roundg k1
     case measure=>have:=HK1.out;omega
     case rel=>exact ⟨(wrap64 (x4_1+1)),(x592000_1),(x592001_1),(.slice Ao49 x592000_1.length co49),(.slice Ao50 x592001_1.length co50),(by first|rfl|(simp;done)|(simp [*];done)),H',⟨by have:=HK1.out;omega⟩,⟨by apply zR_;exact zV HO_592000.out (fun _ hk=>hk.1.1)⟩,⟨by apply zR_;exact zV HO_592001.out (fun _ hk=>hk.1.1)⟩,⟨by (with_reducible repeat (first|refine zG ?_ _|refine zI ?_|refine zH ?_ _));exact BK583.out⟩,⟨by (with_reducible repeat (first|refine zG ?_ _|refine zI ?_|refine zH ?_ _));exact BK584.out⟩,⟨by (with_reducible repeat (first|refine zG ?_ _|refine zI ?_|refine zH ?_ _));exact BK591.out⟩,⟨by repeat (first|(with_reducible first|exact HB.out|apply zD|apply zB|apply zC|refine zF ?_ GE583.out|refine zF ?_ GE584.out|refine zF ?_ GE591.out|refine zF ?_ GE598.out)|exact HB.out)⟩⟩
   ·rw [if_neg c14] at H
    have c14b0:decide (x4_1 < (l0_0.length:Int)) = false:=zP c14
    clear c14
    simp only [Option.some.injEq,Prod.mk.injEq] at H
    obtain ⟨rfl,rfl⟩:=H
    have hnb52:=NB583_584.out
    have hnc52:=NB584_583.out
    have hnb53:=NB583_591.out
    have hnc53:=NB591_583.out
    have hcz54_0:wr.cell? ⟨gb583,0,none⟩ = some (.slice A0_0 l0_0.length c0_0):=(zT BK583.out 0).trans rfl
    have hcz54_1:wr.cell? ⟨gb583,1,none⟩ = some (.slice A0_1 l0_1.length c0_1):=(zT BK583.out 1).trans rfl
    have hfz54_0:=zZ BK583.out 0
    have hfz54_1:=zZ BK583.out 1
    have hnb55:=NB591_584.out
    have hnc55:=NB584_591.out
    have hcz56_0:wr.cell? ⟨gb591,0,none⟩ = some (u592000):=(zT BK591.out 0).trans rfl
    have hcz56_1:wr.cell? ⟨gb591,1,none⟩ = some (u592001):=(zT BK591.out 1).trans rfl
    have hfz56_0:=zZ BK591.out 0
    have hfz56_1:=zZ BK591.out 1
    obtain ⟨Ao57,co57,eo57⟩:=zg HO_592000.out
    subst eo57
    have hcz58_0:wr.cell? ⟨gb584,0,none⟩ = some (.slice none 0 0):=(zT BK584.out 0).trans rfl
    have hcz58_1:wr.cell? ⟨gb584,1,none⟩ = some (.slice none 0 0):=(zT BK584.out 1).trans rfl
    have hfz58_0:=zZ BK584.out 0
    have hfz58_1:=zZ BK584.out 1
    obtain ⟨Ao59,co59,eo59⟩:=zg HO_592001.out
    subst eo59
    go_wp2
    refine bodyPost_ret (results_cell_row rfl _ _ gb584 33 #[.slice Ao57 x592000_1.length co57,.slice Ao59 x592001_1.length co59] (0,0) _ rfl (by (with_reducible repeat (first|refine zG ?_ _|refine zI ?_|refine zH ?_ _));refine blk_put (cs:=#[.slice Ao57 x592000_1.length co57,.slice none 0 0]) ?_ 1 _ rfl;(with_reducible repeat (first|refine zG ?_ _|refine zI ?_|refine zH ?_ _));refine blk_put (cs:=#[.slice none 0 0,.slice none 0 0]) ?_ 0 _ rfl;(with_reducible repeat (first|refine zG ?_ _|refine zI ?_|refine zH ?_ _));exact BK584.out) Try.underlying33 rfl (by kernel_rfl)) rfl ?_
    exact ⟨_,_,by first|rfl|(simp [errW_none,errW_some] <;> rfl)|(simp [*,errW_none,errW_some] <;> rfl),by apply zR_;exact zV (zi (p:=⟨gb584,1,none⟩) (zi (p:=⟨gb584,0,none⟩) (Kd.R_types HO_592000.out BK584.out (by decide)) (fun _ hk=>hk.2) (.slice Ao57 x592000_1.length co57)) (fun _ hk=>hk.2) (.slice Ao59 x592001_1.length co59)) (fun _ hk=>hk.1),by apply zR_;exact zV (zi (p:=⟨gb584,1,none⟩) (zi (p:=⟨gb584,0,none⟩) (Kd.R_types HO_592001.out BK584.out (by decide)) (fun _ hk=>hk.2) (.slice Ao57 x592000_1.length co57)) (fun _ hk=>hk.2) (.slice Ao59 x592001_1.length co59)) (fun _ hk=>hk.1),by repeat (first|(with_reducible first|exact HB.out|apply zD|apply zB|apply zC|refine zF ?_ GE583.out|refine zF ?_ GE584.out|refine zF ?_ GE591.out)|exact HB.out)⟩

/-! ### spec_l3Different: function 41 -/
def spec_l3Different.l0:Nat→List (S33)→List (S33)→Int→Option ((List (S33)))
 | 0,_,_,_=>none
 | k+1,x5,x6,x7=>if x7 < (x6.length:Int) then (if 0≤x7 then ((spec_l2Least.f k ((rd_T33 x6 x7).f0) ((rd_T33 x6 x7).f1)).bind fun bt607=>((spec_l3Put.f k x5 bt607.1 bt607.2).bind fun t613=>(spec_l3Different.l0 k t613 x6 (wrap64 (x7+1))))) else (none)) else (some x5)
def spec_l3Different.f (k:Nat) (a0:Int) (a1:Int):Option ((List (S33))):=(spec_l3All.f k a0 a1).bind fun t603=>(spec_l3Different.l0 k (([]:List (S33))) t603 0)
theorem spec_l3Different.mono_l:∀ k,(∀ y0 y1 y2,LeO (spec_l3Different.l0 k y0 y1 y2) (spec_l3Different.l0 (k+1) y0 y1 y2))
 | 0=>fun _ _ _ r h=>by simp [spec_l3Different.l0] at h
 | k+1=>by
  have ih0:=spec_l3Different.mono_l k
  ·intro y0 y1 y2
   unfold spec_l3Different.l0
   repeat' first
   | (with_reducible exact ih0 _ _ _)
   | (with_reducible exact spec_l2Least.mono _ _ _)
   | (with_reducible exact spec_l3All.mono _ _ _)
   | (with_reducible exact spec_l3Put.mono _ _ _ _)
   | (with_reducible exact LeO.refl _)
   | (with_reducible exact za _)
   | (with_reducible refine zc ?_ ?_)
   | (with_reducible refine zb ?_ (fun _=>?_))
theorem spec_l3Different.mono:∀ a0 a1 k,LeO (spec_l3Different.f k a0 a1) (spec_l3Different.f (k+1) a0 a1):=by
 intro a0 a1 k
 have ih0:=spec_l3Different.mono_l k
 unfold spec_l3Different.f
 repeat' first
   | (with_reducible exact ih0 _ _ _)
   | (with_reducible exact spec_l2Least.mono _ _ _)
   | (with_reducible exact spec_l3All.mono _ _ _)
   | (with_reducible exact spec_l3Put.mono _ _ _ _)
   | (with_reducible exact LeO.refl _)
   | (with_reducible exact za _)
   | (with_reducible refine zc ?_ ?_)
   | (with_reducible refine zb ?_ (fun _=>?_))
set_option maxHeartbeats 8000000 in
set_option maxRecDepth 100000 in
theorem spec_l3Different.calls (k:Nat) (a0:Int) (a1:Int) (r:List (S33)) (w:World) (h:spec_l3Different.f k a0 a1 = some r) :
  Calls Try.prog 41 #[.int .i64 a0,.int .i64 a1] w fun e w' => ∃ v0_:Value,e = .returned (v0_)∧Kd.V k33 33 w' w.heap.size (fun k_=>(w.heap.size≤k_)) v0_ r∧Below w.heap.size w w':=by
 have hu33:=Try.underlying33
 have HB:=zA (Below.refl w.heap.size w)
 have H:((spec_l3All.f k a0 a1).bind fun t603=>(spec_l3Different.l0 k (([]:List (S33))) t603 0)) = some r:=h
 clear h
 obtain ⟨y600,hy600⟩:∃ y_:List (S33),y_ = (([]:List (S33))):=⟨_,rfl⟩
 replace H:((spec_l3All.f k a0 a1).bind fun t603=>(spec_l3Different.l0 k y600 t603 0)) = some r:=by (try rw [hy600]);first|with_reducible exact H|with_reducible exact zS_ H|exact H
 have Ny600:=zA hy600
 clear hy600
 replace H:=zz0 H
 obtain ⟨t603,A30,H⟩:=H
 try dsimp only at H
 have A3:=zA A30
 clear A30
 have H':=zA H
 clear H
 go_enter Try.func41,Try.ntmps41
 go_wp2_with (first|((with_reducible refine gate_dst (N:=8) rfl ?_);refine Kd.S_lit k33 _ 33 ?hg (N:=8) ?hd (xs:=([]:List (S33))) (inner:=[]) (ok:=fun _=>True) (okp:=fun _=>True) ?hr ?hp (fun _ hk=>hk) trivial (Below.refl _ _) (Nat.le_refl _) (by simp) ?_;(case hd=>rfl);(case hg=>rfl);(case hr=>first|(go_simp;done)|(go_simp;rfl));(case hp=>exact (Reps.none _ _));intro v601 w4 ho5 hb hg_ hnew_;clear hg_ hnew_;(first|rw [← Ny600.out] at ho5|(simp only [Int.reduceToNat] at ho5;rw [← Ny600.out] at ho5));have n0_:=zA (Kd.S_lower (Kd.S_newM (M:=fun k_=>(w.heap.size≤k_)) ho5 (zQ (by exact zB_ HB.out)) (fun k_ h_=>h_)) (zQ (by exact zB_ HB.out)));have n1_:=zA (zR (by exact zB_ HB.out) hb);clear HB;have HO602:=n0_;have HB:=n1_;clear n0_ n1_;clear hb ho5)|((with_reducible refine gate_callee (f:=45) rfl ?_);refine goesL_ (some 11) rfl rfl Try.func45 (by kernel_rfl) rfl #[.int .i64 a0,.int .i64 a1] rfl (by (try simp only [zJ,zM,zN]);first|done|rfl|(simp only [zL,zK];rfl)) ?_;(with_reducible refine (spec_l3All.calls k a0 a1 t603 _ A3.out).mono ?_);rintro e w6 ⟨v604,rfl,ho0,hb⟩;refine ⟨_,rfl,?_⟩;have n0_:=zA (Kd.S_below (by (with_reducible repeat (first|apply Kd.S_alloc|apply Kd.S_drewN|apply Kd.S_drew));exact HO602.out) hb);have n1_:=zA (Kd.V_lower (Kd.V_mono (ok':=fun k_=>(w.heap.size≤k_)∧some k_≠(v601:Value).ownBlock) ho0 (fun k_ hk_=>⟨(Nat.le_trans (zQ (by exact zB_ HB.out)) hk_),(Kd.fresh' (Kd.S_lt (by (with_reducible repeat (first|apply Kd.S_alloc|apply Kd.S_drewN|apply Kd.S_drew));exact HO602.out)) k_ hk_)⟩)) (zQ (by exact zB_ HB.out)));have n2_:=zA (zR (by exact zB_ HB.out) hb);clear HO602;clear HB;have HO602:=n0_;have HO605:=n1_;have HB:=n2_;clear n0_ n1_ n2_;(try clear hb);(try clear hb2);(try clear hk);(try clear hi);(try clear ho0)))
 go_loopg [5,7] k (fun kq v5 v7 w' => ∃ (x5_1:List (S33)) (x7_1:Int),v7 = .int .i64 x7_1∧Aside0 (spec_l3Different.l0 kq x5_1 t603 x7_1 = some r)∧Aside0 (kq≤k)∧Aside0 (Kd.V k33 33 w' w.heap.size (fun k_=>(w.heap.size≤k_)) v5 x5_1)∧Aside0 (Kd.V k33 33 w' w.heap.size (fun k_=>(w.heap.size≤k_)) v604 t603)∧Aside0 (Below w.heap.size w w'))
 case atStart=>exact ⟨(y600),(0),(by first|rfl|(simp;done)|(simp [*];done)),H',⟨Nat.le_refl _⟩,⟨Kd.S_V (by (with_reducible repeat (first|apply Kd.S_alloc|apply Kd.S_drewN|apply Kd.S_drew));exact Kd.S_mono HO602.out (fun _ hk=>hk.1))⟩,⟨by apply zV_;exact Kd.V_mono HO605.out (fun _ hk=>hk.1)⟩,⟨by exact zB_ HB.out⟩⟩
 case round =>
  clear H'
  (try clear p2);(try clear c4)
  obtain ⟨x5_1,x7_1,rfl,HA,HK1,HO_5,HO_6,HB⟩:=hrel
  cases gk with
  | zero=>exact absurd HA.out (by simp [spec_l3Different.l0])
  | succ k1 =>
   have H:=HA.out
   clear HA
   simp only [spec_l3Different.l0] at H
   by_cases c7:x7_1 < (t603.length:Int)
   ·rw [if_pos c7] at H
    have c7b0:decide (x7_1 < (t603.length:Int)) = true:=zO c7
    clear c7
    by_cases c8:0≤x7_1
    ·rw [if_pos c8] at H
     have c8b0:decide (0≤x7_1) = true:=zO c8
     clear c8
     replace H:=zz0 H
     obtain ⟨⟨t607,t610⟩,A90,H⟩:=H
     try dsimp only at H
     have A9:=zA A90
     clear A90
     replace H:=zz0 H
     obtain ⟨t613,A100,H⟩:=H
     try dsimp only at H
     have A10:=zA A100
     clear A100
     have H':=zA H
     clear H
     obtain ⟨Ao11,co11,eo11⟩:=Kd.V_slice HO_6.out
     subst eo11
     have p606:0≤(x7_1:Int):=zE (by with_reducible assumption)
     have q606:x7_1 < (t603.length:Int):=zE (by with_reducible assumption)
     obtain ⟨ad606,A606_0,c606_0,A606_1,c606_1,e606,hx606_0,hx606_1,hl606_0,hi606_0,hl606_1,hi606_1⟩:=at_T33 (zk HO_6.out).2.2 x7_1 p606 q606
     cases e606
     obtain ⟨ce606,hce606,hMe606,hcc606⟩:=Kd.V_get HO_6.out z33 x7_1 p606 (by first|exact q606|exact zE (by with_reducible assumption)|(have e_:=(zk HO_6.out).1;omega))
     obtain ⟨ua606_0,uc606_0,ua606_1,uc606_1,rfl,ul606_0,ge606_0,ul606_1,ge606_1⟩:=k33_openF hMe606
     have hv606_0:=hcc606 0 _ rfl
     rw [Nat.add_zero] at hv606_0
     replace hv606_0:=zS (hv606_0.symm.trans hx606_0)
     injection hv606_0 with hva_ hvn_ hvc_
     rw [hva_] at ge606_0
     rw [hvc_] at ul606_0
     have HL606_0:=zA (show Kd.V (Kd.int .i64) 3 _ w.heap.size _ _ ((rd_T33 t603 x7_1).f0) from Kd.V_mk ul606_0 ge606_0)
     clear hva_ hvn_ hvc_ ge606_0 ul606_0
     have hv606_1:=hcc606 1 _ rfl
     rw [add_field _ _ 1 (by omega)] at hv606_1
     replace hv606_1:=zS (hv606_1.symm.trans hx606_1)
     injection hv606_1 with hva_ hvn_ hvc_
     rw [hva_] at ge606_1
     rw [hvc_] at ul606_1
     have HL606_1:=zA (show Kd.V (Kd.int .i64) 3 _ w.heap.size _ _ ((rd_T33 t603 x7_1).f1) from Kd.V_mk ul606_1 ge606_1)
     clear hva_ hvn_ hvc_ ge606_1 ul606_1 hcc606 hce606
     have HR606_0:=zA hi606_0
     have HC606_0:=zA hl606_0
     clear hi606_0 hl606_0
     have HR606_1:=zA hi606_1
     have HC606_1:=zA hl606_1
     clear hi606_1 hl606_1
     replace p606:=eq_true p606
     replace q606:=eq_true q606
     go_wp2_with (first|((with_reducible refine gate_callee (f:=65) rfl ?_);refine goesL_ (some 23) rfl rfl Try.func65 (by kernel_rfl) rfl #[.agg #[.slice A606_0 ((rd_T33 t603 x7_1).f0).length c606_0,.slice A606_1 ((rd_T33 t603 x7_1).f1).length c606_1]] rfl (by (try simp only [zJ,zM,zN]);first|done|rfl|(simp only [zL,zK];rfl)) ?_;(with_reducible refine (spec_l2Least.calls k1 _ _ ((rd_T33 t603 x7_1).f0) _ _ ((rd_T33 t603 x7_1).f1) t607 t610 _ ?side1 ?side2 ?side3 ?side4 A9.out).mono ?_);(case side1=>repeat (first|exact (by repeat (first|(with_reducible exact HR606_0.out)|apply zC_|exact HR606_0.out))|apply zC_));(case side2=>exact HC606_0.out);(case side3=>repeat (first|exact (by repeat (first|(with_reducible exact HR606_1.out)|apply zC_|exact HR606_1.out))|apply zC_));(case side4=>exact HC606_1.out);rintro e w12 ⟨v608,v611,rfl,ho0,ho1,hb⟩;refine ⟨_,rfl,?_⟩;have n0_:=zA (Kd.V_mono (Kd.V_told (Kd.V_told (Kd.V_old (by apply zV_;exact HO_5.out) hb) (zd ho0)) (zd ho1)) (fun _ h_=>h_.1));have n1_:=zA (Kd.V_mono (Kd.V_told (Kd.V_told (Kd.V_old (by apply zV_;exact HO_6.out) hb) (zd ho0)) (zd ho1)) (fun _ h_=>h_.1));have n2_:=zA (Kd.V_mono (Kd.V_told (Kd.V_told (Kd.V_old (by apply zV_;exact HL606_0.out) hb) (zd ho0)) (zd ho1)) (fun _ h_=>h_.1));have n3_:=zA (Kd.V_mono (Kd.V_told (Kd.V_told (Kd.V_old (by apply zV_;exact HL606_1.out) hb) (zd ho0)) (zd ho1)) (fun _ h_=>h_.1));have n4_:=zA (ze (Kd.R_newM (M:=fun k_=>(w.heap.size≤k_)) ho0 (zQ (by exact zB_ HB.out)) (fun k_ h_=>h_)) (zQ (by exact zB_ HB.out)));have n5_:=zA (ze (Kd.R_newM (M:=fun k_=>(w.heap.size≤k_)) ho1 (zQ (by exact zB_ HB.out)) (fun k_ h_=>h_)) (zQ (by exact zB_ HB.out)));have n6_:=zA (zW (by repeat (first|(with_reducible exact HR606_0.out)|apply zC_|exact HR606_0.out)) hb);have n7_:=zA (zW (by repeat (first|(with_reducible exact HR606_1.out)|apply zC_|exact HR606_1.out)) hb);have n8_:=zA (zR (by exact zB_ HB.out) hb);clear HO_5;clear HO_6;clear HL606_0;clear HL606_1;clear HR606_0;clear HR606_1;clear HB;have HO_5:=n0_;have HO_6:=n1_;have HL606_0:=n2_;have HL606_1:=n3_;have HO609:=n4_;have HO612:=n5_;have HR606_0:=n6_;have HR606_1:=n7_;have HB:=n8_;clear n0_ n1_ n2_ n3_ n4_ n5_ n6_ n7_ n8_;(try clear hb);(try clear hb2);(try clear hk);(try clear hi);(try clear ho0);(try clear ho1);obtain ⟨Ao13,co13,eo13⟩:=Kd.V_slice HO_5.out;subst eo13;obtain ⟨Ao14,co14,eo14⟩:=zg HO609.out;subst eo14;obtain ⟨Ao15,co15,eo15⟩:=zg HO612.out;subst eo15)|((with_reducible refine gate_callee (f:=64) rfl ?_);refine goesL_ (some 24) rfl rfl Try.func64 (by kernel_rfl) rfl #[.slice Ao13 x5_1.length co13,.agg #[.slice Ao14 t607.length co14,.slice Ao15 t610.length co15]] rfl (by (try simp only [zJ,zM,zN]);first|done|rfl|(simp only [zL,zK];rfl)) ?_;(with_reducible refine (spec_l3Put.calls k1 (fun k_=>(((w.heap.size≤k_)∧some k_≠(.slice Ao14 t607.length co14:Value).ownBlock)∧some k_≠(.slice Ao15 t610.length co15:Value).ownBlock)) _ _ x5_1 (fun k_=>some k_ = (.slice Ao14 t607.length co14:Value).ownBlock) _ _ t607 (fun k_=>some k_ = (.slice Ao15 t610.length co15:Value).ownBlock) _ _ t610 t613 _ ?side1 ?side2 ?side3 A10.out).mono ?_);(case side1=>exact HO_5.out);(case side2=>exact Kd.R_V (Kd.R_tight rfl (HO609.out)));(case side3=>exact Kd.R_V (Kd.R_tight rfl (HO612.out)));rintro e w16 ⟨v614,rfl,ho0,hb⟩;refine ⟨_,rfl,?_⟩;have n0_:=zA (Kd.V_below (by apply zV_;exact HO_5.out) hb);have n1_:=zA (Kd.V_below (by apply zV_;exact HO_6.out) hb);have n2_:=zA (Kd.V_below (by apply zV_;exact HL606_0.out) hb);have n3_:=zA (Kd.V_below (by apply zV_;exact HL606_1.out) hb);have n4_:=zA (zj (by apply zR_;exact HO609.out) hb);have n5_:=zA (zj (by apply zR_;exact HO612.out) hb);have n6_:=zA (Kd.V_lower (Kd.V_mono (ok':=fun k_=>(w.heap.size≤k_)) ho0 (fun k_ hk_=>Or.elim hk_ (fun hs_=>Or.elim hs_ (fun hs_=>hs_.1.1) (fun hs_=>Or.elim hs_ (fun hs_=>((HO609.out).1 k_ hs_.symm).1) (fun hs_=>((HO612.out).1 k_ hs_.symm).1))) (fun hn_=>(Nat.le_trans (zQ (by exact zB_ HB.out)) hn_)))) (zQ (by exact zB_ HB.out)));have n7_:=zA (zW (by repeat (first|(with_reducible exact HR606_0.out)|apply zC_|exact HR606_0.out)) hb);have n8_:=zA (zW (by repeat (first|(with_reducible exact HR606_1.out)|apply zC_|exact HR606_1.out)) hb);have n9_:=zA (zR (by exact zB_ HB.out) hb);clear HO_5;clear HO_6;clear HL606_0;clear HL606_1;clear HO609;clear HO612;clear HR606_0;clear HR606_1;clear HB;have HO_5:=n0_;have HO_6:=n1_;have HL606_0:=n2_;have HL606_1:=n3_;have HO609:=n4_;have HO612:=n5_;have HO615:=n6_;have HR606_0:=n7_;have HR606_1:=n8_;have HB:=n9_;clear n0_ n1_ n2_ n3_ n4_ n5_ n6_ n7_ n8_ n9_;(try clear hb);(try clear hb2);(try clear hk);(try clear hi);(try clear ho0)))
     go_roundg k1
     case measure=>have:=HK1.out;omega
     case rel=>exact ⟨(t613),(wrap64 (x7_1+1)),(by first|rfl|(simp;done)|(simp [*];done)),H',⟨by have:=HK1.out;omega⟩,⟨by apply zV_;exact HO615.out⟩,⟨by apply zV_;exact Kd.V_mono HO_6.out (fun _ hk=>hk.1.1)⟩,⟨by exact zB_ HB.out⟩⟩
    ·rw [if_neg c8] at H
     exact absurd H (by simp)
   ·rw [if_neg c7] at H
    have c7b0:decide (x7_1 < (t603.length:Int)) = false:=zP c7
    clear c7
    obtain rfl:=zS H
    obtain ⟨Ao17,co17,eo17⟩:=Kd.V_slice HO_6.out
    subst eo17
    go_wp2
    go_ret
    exact ⟨_,by first|rfl|(simp [errW_none,errW_some] <;> rfl)|(simp [*,errW_none,errW_some] <;> rfl),by apply zV_;exact HO_5.out,by exact zB_ HB.out⟩

/-! ### spec_RootlessCount: function 15 -/
def spec_RootlessCount.f (k:Nat) (a0:Int) (a1:Int):Option (Int):=(spec_l6In.f a0 1 3).bind fun t616=>(if t616 = true then (if a1 < 0 then (some (-1)) else ((spec_l3Different.f k a0 a1).bind fun t617=>(some (t617.length:Int)))) else (some (-1)))
theorem spec_RootlessCount.mono:∀ a0 a1 k,LeO (spec_RootlessCount.f k a0 a1) (spec_RootlessCount.f (k+1) a0 a1):=by
 intro a0 a1 k
 unfold spec_RootlessCount.f
 repeat' first
   | (with_reducible exact spec_l3Different.mono _ _ _)
   | (with_reducible exact LeO.refl _)
   | (with_reducible exact za _)
   | (with_reducible refine zc ?_ ?_)
   | (with_reducible refine zb ?_ (fun _=>?_))
set_option maxHeartbeats 8000000 in
set_option maxRecDepth 100000 in
theorem spec_RootlessCount.calls (k:Nat) (a0:Int) (a1:Int) (r:Int) (w:World) (h:spec_RootlessCount.f k a0 a1 = some r) :
  Calls Try.prog 15 #[.int .i64 a0,.int .i64 a1] w fun e w'=>e = .returned (.int .i64 r)∧Below w.heap.size w w':=by
 have HB:=zA (Below.refl w.heap.size w)
 have H:((spec_l6In.f a0 1 3).bind fun t616=>(if t616 = true then (if a1 < 0 then (some (-1)) else ((spec_l3Different.f k a0 a1).bind fun t617=>(some (t617.length:Int)))) else (some (-1)))) = some r:=h
 clear h
 replace H:=zz0 H
 obtain ⟨t616,A30,H⟩:=H
 try dsimp only at H
 have A3:=zA A30
 clear A30
 by_cases c4:t616 = true
 ·subst c4
  rw [if_pos rfl] at H;try dsimp only at H
  by_cases c5:a1 < 0
  ·rw [if_pos c5] at H
   have c5b0:decide (a1 < 0) = true:=zO c5
   clear c5
   obtain rfl:=zS H
   go_enter Try.func15,Try.ntmps15
   go_wp2_with (first|((with_reducible refine gate_callee (f:=40) rfl ?_);refine goesL_ (some 6) rfl rfl Try.func40 (by kernel_rfl) rfl #[.int .i64 a0,.int .i64 1,.int .i64 3] rfl (by (try simp only [zJ,zM,zN]);first|done|rfl|(simp only [zL,zK];rfl)) ?_;(with_reducible refine (spec_l6In.calls a0 1 3 true _ A3.out).mono ?_);rintro e w' ⟨rfl,⟨nd,rfl⟩⟩;refine ⟨_,rfl,?_⟩))
   go_ret
   exact ⟨by first|rfl|(simp [errW_none,errW_some] <;> rfl)|(simp [*,errW_none,errW_some] <;> rfl),by exact zB_ HB.out⟩
  ·rw [if_neg c5] at H
   have c5b0:decide (a1 < 0) = false:=zP c5
   clear c5
   replace H:=zz0 H
   obtain ⟨t617,A60,H⟩:=H
   try dsimp only at H
   have A6:=zA A60
   clear A60
   obtain rfl:=zS H
   go_enter Try.func15,Try.ntmps15
   go_wp2_with (first|((with_reducible refine gate_callee (f:=40) rfl ?_);refine goesL_ (some 6) rfl rfl Try.func40 (by kernel_rfl) rfl #[.int .i64 a0,.int .i64 1,.int .i64 3] rfl (by (try simp only [zJ,zM,zN]);first|done|rfl|(simp only [zL,zK];rfl)) ?_;(with_reducible refine (spec_l6In.calls a0 1 3 true _ A3.out).mono ?_);rintro e w' ⟨rfl,⟨nd,rfl⟩⟩;refine ⟨_,rfl,?_⟩)|((with_reducible refine gate_callee (f:=41) rfl ?_);refine goesL_ (some 14) rfl rfl Try.func41 (by kernel_rfl) rfl #[.int .i64 a0,.int .i64 a1] rfl (by (try simp only [zJ,zM,zN]);first|done|rfl|(simp only [zL,zK];rfl)) ?_;(with_reducible refine (spec_l3Different.calls k a0 a1 t617 _ A6.out).mono ?_);rintro e w7 ⟨v618,rfl,ho0,hb⟩;refine ⟨_,rfl,?_⟩;have n0_:=zA (Kd.V_lower (Kd.V_mono (ok':=fun k_=>True) ho0 (fun k_ hk_=>trivial)) (zQ (by exact zB_ HB.out)));have n1_:=zA (zR (by exact zB_ HB.out) hb);clear HB;have HO619:=n0_;have HB:=n1_;clear n0_ n1_;(try clear hb);(try clear hb2);(try clear hk);(try clear hi);(try clear ho0);obtain ⟨Ao8,co8,eo8⟩:=Kd.V_slice HO619.out;subst eo8))
   go_ret
   exact ⟨by first|rfl|(simp [errW_none,errW_some] <;> rfl)|(simp [*,errW_none,errW_some] <;> rfl),by exact zB_ HB.out⟩
 ·replace c4:=Bool.eq_false_iff.mpr c4
  subst c4
  have H1:(some (-1)) = some r:=by rw [if_neg (show ¬ (false = true) by decide)] at H;exact H
  clear H
  have H:=H1
  clear H1
  obtain rfl:=zS H
  go_enter Try.func15,Try.ntmps15
  go_wp2_with (first|((with_reducible refine gate_callee (f:=40) rfl ?_);refine goesL_ (some 6) rfl rfl Try.func40 (by kernel_rfl) rfl #[.int .i64 a0,.int .i64 1,.int .i64 3] rfl (by (try simp only [zJ,zM,zN]);first|done|rfl|(simp only [zL,zK];rfl)) ?_;(with_reducible refine (spec_l6In.calls a0 1 3 false _ A3.out).mono ?_);rintro e w' ⟨rfl,⟨nd,rfl⟩⟩;refine ⟨_,rfl,?_⟩))
  go_ret
  exact ⟨by first|rfl|(simp [errW_none,errW_some] <;> rfl)|(simp [*,errW_none,errW_some] <;> rfl),by exact zB_ HB.out⟩

/-! ### laws_FnRootless: function 3 -/
def laws_FnRootless.f (k:Nat) (l0:List Int):Option (Bool):=if (l0.length:Int) > 1048576 then (some true) else ((spec_DrawRootlessCount.f k l0).bind fun bt620=>((impl_RootlessCount.f k bt620.1 bt620.2).bind fun t622=>((spec_RootlessCount.f k bt620.1 bt620.2).bind fun t623=>(if t622 = t623 then (if t622 < 0 then (some (t622 == t623)) else ((impl_RootedCount.f bt620.1 bt620.2).bind fun t624=>(if t622≤t624 then (if (wrap64 ((wrap64 (2 * bt620.1)) * t622)) ≥ t624 then (some ((t622 == 0) == (t624 == 0))) else (some false)) else (some false)))) else (some (t622 == t623))))))
theorem laws_FnRootless.mono:∀ a0 k,LeO (laws_FnRootless.f k a0) (laws_FnRootless.f (k+1) a0):=by
 intro a0 k
 unfold laws_FnRootless.f
 repeat' first
   | (with_reducible exact impl_RootlessCount.mono _ _ _)
   | (with_reducible exact spec_DrawRootlessCount.mono _ _)
   | (with_reducible exact spec_RootlessCount.mono _ _ _)
   | (with_reducible exact LeO.refl _)
   | (with_reducible exact za _)
   | (with_reducible refine zc ?_ ?_)
   | (with_reducible refine zb ?_ (fun _=>?_))
set_option maxHeartbeats 8000000 in
set_option maxRecDepth 100000 in
theorem laws_FnRootless.calls (k:Nat) (A0:Option Addr) (c0:Nat) (l0:List Int) (r:Bool) (w:World) (hr0:Kd.C (Kd.int .u8) w A0 l0.length l0) (hc0:l0.length≤c0) (h:laws_FnRootless.f k l0 = some r) :
  Calls Try.prog 3 #[.slice A0 l0.length c0] w fun e w'=>e = .returned (.bool r)∧Below w.heap.size w w':=by
 have HR0:=zA hr0
 have HC0:=zA hc0
 clear hr0 hc0
 have HB:=zA (Below.refl w.heap.size w)
 have H:(if (l0.length:Int) > 1048576 then (some true) else ((spec_DrawRootlessCount.f k l0).bind fun bt620=>((impl_RootlessCount.f k bt620.1 bt620.2).bind fun t622=>((spec_RootlessCount.f k bt620.1 bt620.2).bind fun t623=>(if t622 = t623 then (if t622 < 0 then (some (t622 == t623)) else ((impl_RootedCount.f bt620.1 bt620.2).bind fun t624=>(if t622≤t624 then (if (wrap64 ((wrap64 (2 * bt620.1)) * t622)) ≥ t624 then (some ((t622 == 0) == (t624 == 0))) else (some false)) else (some false)))) else (some (t622 == t623))))))) = some r:=h
 clear h
 by_cases c2:(l0.length:Int) > 1048576
 ·rw [if_pos c2] at H
  have c2b0:decide (1048576 < (l0.length:Int)) = true:=zO c2
  have c2b1:decide (1048576 < l0.length) = true:=zO (by omega)
  clear c2
  obtain rfl:=zS H
  go_enter Try.func3,Try.ntmps3
  go_wp2
  go_ret
  exact ⟨by first|rfl|(simp [errW_none,errW_some] <;> rfl)|(simp [*,errW_none,errW_some] <;> rfl),by exact zB_ HB.out⟩
 ·rw [if_neg c2] at H
  have c2b0:decide (1048576 < (l0.length:Int)) = false:=zP c2
  have c2b1:decide (1048576 < l0.length) = false:=zP (by omega)
  clear c2
  replace H:=zz0 H
  obtain ⟨⟨t620,t621⟩,A30,H⟩:=H
  try dsimp only at H
  have A3:=zA A30
  clear A30
  replace H:=zz0 H
  obtain ⟨t622,A40,H⟩:=H
  try dsimp only at H
  have A4:=zA A40
  clear A40
  replace H:=zz0 H
  obtain ⟨t623,A50,H⟩:=H
  try dsimp only at H
  have A5:=zA A50
  clear A50
  by_cases c6:t622 = t623
  ·rw [if_pos c6] at H
   have c6b0:(t622 == t623) = true:=beq_iff_eq.mpr c6
   have c6b1:(t622 != t623) = false:=bne_eq_false_iff_eq.mpr c6
   clear c6
   by_cases c7:t622 < 0
   ·rw [if_pos c7] at H
    have c7b0:decide (t622 < 0) = true:=zO c7
    clear c7
    obtain rfl:=zS H
    go_enter Try.func3,Try.ntmps3
    go_wp2_with (first|((with_reducible refine gate_callee (f:=13) rfl ?_);refine goesL_ (some 13) rfl rfl Try.func13 (by kernel_rfl) rfl #[.slice A0 l0.length c0] rfl (by (try simp only [zJ,zM,zN]);first|done|rfl|(simp only [zL,zK];rfl)) ?_;(with_reducible refine (spec_DrawRootlessCount.calls k _ _ l0 t620 t621 _ ?side1 ?side2 A3.out).mono ?_);(case side1=>repeat (first|exact HR0.out|apply zC_));(case side2=>exact HC0.out);rintro e w8 ⟨rfl,hb⟩;refine ⟨_,rfl,?_⟩;have n0_:=zA (zR (by exact zB_ HB.out) hb);clear HB;have HB:=n0_;clear n0_;(try clear hb);(try clear hb2);(try clear hk);(try clear hi))|((with_reducible refine gate_callee (f:=14) rfl ?_);refine goesL_ (some 18) rfl rfl Try.func14 (by kernel_rfl) rfl #[.int .i64 t620,.int .i64 t621] rfl (by (try simp only [zJ,zM,zN]);first|done|rfl|(simp only [zL,zK];rfl)) ?_;(with_reducible refine (impl_RootlessCount.calls k t620 t621 t622 _ A4.out).mono ?_);rintro e w9 ⟨rfl,hb⟩;refine ⟨_,rfl,?_⟩;have n0_:=zA (zR (by exact zB_ HB.out) hb);clear HB;have HB:=n0_;clear n0_;(try clear hb);(try clear hb2);(try clear hk);(try clear hi))|((with_reducible refine gate_callee (f:=15) rfl ?_);refine goesL_ (some 21) rfl rfl Try.func15 (by kernel_rfl) rfl #[.int .i64 t620,.int .i64 t621] rfl (by (try simp only [zJ,zM,zN]);first|done|rfl|(simp only [zL,zK];rfl)) ?_;(with_reducible refine (spec_RootlessCount.calls k t620 t621 t623 _ A5.out).mono ?_);rintro e w10 ⟨rfl,hb⟩;refine ⟨_,rfl,?_⟩;have n0_:=zA (zR (by exact zB_ HB.out) hb);clear HB;have HB:=n0_;clear n0_;(try clear hb);(try clear hb2);(try clear hk);(try clear hi)))
    go_ret
    exact ⟨by first|rfl|(simp [errW_none,errW_some] <;> rfl)|(simp [*,errW_none,errW_some] <;> rfl),by exact zB_ HB.out⟩
   ·rw [if_neg c7] at H
    have c7b0:decide (t622 < 0) = false:=zP c7
    clear c7
    replace H:=zz0 H
    obtain ⟨t624,A110,H⟩:=H
    try dsimp only at H
    have A11:=zA A110
    clear A110
    by_cases c12:t622≤t624
    ·rw [if_pos c12] at H
     have c12b0:decide (t622≤t624) = true:=zO c12
     clear c12
     by_cases c13:(wrap64 ((wrap64 (2 * t620)) * t622)) ≥ t624
     ·rw [if_pos c13] at H
      have c13b0:decide (t624≤(wrap64 ((wrap64 (2 * t620)) * t622))) = true:=zO c13
      clear c13
      obtain rfl:=zS H
      go_enter Try.func3,Try.ntmps3
      go_wp2_with (first|((with_reducible refine gate_callee (f:=13) rfl ?_);refine goesL_ (some 13) rfl rfl Try.func13 (by kernel_rfl) rfl #[.slice A0 l0.length c0] rfl (by (try simp only [zJ,zM,zN]);first|done|rfl|(simp only [zL,zK];rfl)) ?_;(with_reducible refine (spec_DrawRootlessCount.calls k _ _ l0 t620 t621 _ ?side1 ?side2 A3.out).mono ?_);(case side1=>repeat (first|exact HR0.out|apply zC_));(case side2=>exact HC0.out);rintro e w14 ⟨rfl,hb⟩;refine ⟨_,rfl,?_⟩;have n0_:=zA (zR (by exact zB_ HB.out) hb);clear HB;have HB:=n0_;clear n0_;(try clear hb);(try clear hb2);(try clear hk);(try clear hi))|((with_reducible refine gate_callee (f:=14) rfl ?_);refine goesL_ (some 18) rfl rfl Try.func14 (by kernel_rfl) rfl #[.int .i64 t620,.int .i64 t621] rfl (by (try simp only [zJ,zM,zN]);first|done|rfl|(simp only [zL,zK];rfl)) ?_;(with_reducible refine (impl_RootlessCount.calls k t620 t621 t622 _ A4.out).mono ?_);rintro e w15 ⟨rfl,hb⟩;refine ⟨_,rfl,?_⟩;have n0_:=zA (zR (by exact zB_ HB.out) hb);clear HB;have HB:=n0_;clear n0_;(try clear hb);(try clear hb2);(try clear hk);(try clear hi))|((with_reducible refine gate_callee (f:=15) rfl ?_);refine goesL_ (some 21) rfl rfl Try.func15 (by kernel_rfl) rfl #[.int .i64 t620,.int .i64 t621] rfl (by (try simp only [zJ,zM,zN]);first|done|rfl|(simp only [zL,zK];rfl)) ?_;(with_reducible refine (spec_RootlessCount.calls k t620 t621 t623 _ A5.out).mono ?_);rintro e w16 ⟨rfl,hb⟩;refine ⟨_,rfl,?_⟩;have n0_:=zA (zR (by exact zB_ HB.out) hb);clear HB;have HB:=n0_;clear n0_;(try clear hb);(try clear hb2);(try clear hk);(try clear hi))|((with_reducible refine gate_callee (f:=16) rfl ?_);refine goesL_ (some 34) rfl rfl Try.func16 (by kernel_rfl) rfl #[.int .i64 t620,.int .i64 t621] rfl (by (try simp only [zJ,zM,zN]);first|done|rfl|(simp only [zL,zK];rfl)) ?_;(with_reducible refine (impl_RootedCount.calls t620 t621 t624 _ A11.out).mono ?_);rintro e w17 ⟨rfl,hb⟩;refine ⟨_,rfl,?_⟩;have n0_:=zA (zR (by exact zB_ HB.out) hb);clear HB;have HB:=n0_;clear n0_;(try clear hb);(try clear hb2);(try clear hk);(try clear hi)))
      go_ret
      exact ⟨by first|rfl|(simp [errW_none,errW_some] <;> rfl)|(simp [*,errW_none,errW_some] <;> rfl),by exact zB_ HB.out⟩
     ·rw [if_neg c13] at H
      have c13b0:decide (t624≤(wrap64 ((wrap64 (2 * t620)) * t622))) = false:=zP c13
      clear c13
      obtain rfl:=zS H
      go_enter Try.func3,Try.ntmps3
      go_wp2_with (first|((with_reducible refine gate_callee (f:=13) rfl ?_);refine goesL_ (some 13) rfl rfl Try.func13 (by kernel_rfl) rfl #[.slice A0 l0.length c0] rfl (by (try simp only [zJ,zM,zN]);first|done|rfl|(simp only [zL,zK];rfl)) ?_;(with_reducible refine (spec_DrawRootlessCount.calls k _ _ l0 t620 t621 _ ?side1 ?side2 A3.out).mono ?_);(case side1=>repeat (first|exact HR0.out|apply zC_));(case side2=>exact HC0.out);rintro e w18 ⟨rfl,hb⟩;refine ⟨_,rfl,?_⟩;have n0_:=zA (zR (by exact zB_ HB.out) hb);clear HB;have HB:=n0_;clear n0_;(try clear hb);(try clear hb2);(try clear hk);(try clear hi))|((with_reducible refine gate_callee (f:=14) rfl ?_);refine goesL_ (some 18) rfl rfl Try.func14 (by kernel_rfl) rfl #[.int .i64 t620,.int .i64 t621] rfl (by (try simp only [zJ,zM,zN]);first|done|rfl|(simp only [zL,zK];rfl)) ?_;(with_reducible refine (impl_RootlessCount.calls k t620 t621 t622 _ A4.out).mono ?_);rintro e w19 ⟨rfl,hb⟩;refine ⟨_,rfl,?_⟩;have n0_:=zA (zR (by exact zB_ HB.out) hb);clear HB;have HB:=n0_;clear n0_;(try clear hb);(try clear hb2);(try clear hk);(try clear hi))|((with_reducible refine gate_callee (f:=15) rfl ?_);refine goesL_ (some 21) rfl rfl Try.func15 (by kernel_rfl) rfl #[.int .i64 t620,.int .i64 t621] rfl (by (try simp only [zJ,zM,zN]);first|done|rfl|(simp only [zL,zK];rfl)) ?_;(with_reducible refine (spec_RootlessCount.calls k t620 t621 t623 _ A5.out).mono ?_);rintro e w20 ⟨rfl,hb⟩;refine ⟨_,rfl,?_⟩;have n0_:=zA (zR (by exact zB_ HB.out) hb);clear HB;have HB:=n0_;clear n0_;(try clear hb);(try clear hb2);(try clear hk);(try clear hi))|((with_reducible refine gate_callee (f:=16) rfl ?_);refine goesL_ (some 34) rfl rfl Try.func16 (by kernel_rfl) rfl #[.int .i64 t620,.int .i64 t621] rfl (by (try simp only [zJ,zM,zN]);first|done|rfl|(simp only [zL,zK];rfl)) ?_;(with_reducible refine (impl_RootedCount.calls t620 t621 t624 _ A11.out).mono ?_);rintro e w21 ⟨rfl,hb⟩;refine ⟨_,rfl,?_⟩;have n0_:=zA (zR (by exact zB_ HB.out) hb);clear HB;have HB:=n0_;clear n0_;(try clear hb);(try clear hb2);(try clear hk);(try clear hi)))
      go_ret
      exact ⟨by first|rfl|(simp [errW_none,errW_some] <;> rfl)|(simp [*,errW_none,errW_some] <;> rfl),by exact zB_ HB.out⟩
    ·rw [if_neg c12] at H
     have c12b0:decide (t622≤t624) = false:=zP c12
     clear c12
     obtain rfl:=zS H
     go_enter Try.func3,Try.ntmps3
     go_wp2_with (first|((with_reducible refine gate_callee (f:=13) rfl ?_);refine goesL_ (some 13) rfl rfl Try.func13 (by kernel_rfl) rfl #[.slice A0 l0.length c0] rfl (by (try simp only [zJ,zM,zN]);first|done|rfl|(simp only [zL,zK];rfl)) ?_;(with_reducible refine (spec_DrawRootlessCount.calls k _ _ l0 t620 t621 _ ?side1 ?side2 A3.out).mono ?_);(case side1=>repeat (first|exact HR0.out|apply zC_));(case side2=>exact HC0.out);rintro e w22 ⟨rfl,hb⟩;refine ⟨_,rfl,?_⟩;have n0_:=zA (zR (by exact zB_ HB.out) hb);clear HB;have HB:=n0_;clear n0_;(try clear hb);(try clear hb2);(try clear hk);(try clear hi))|((with_reducible refine gate_callee (f:=14) rfl ?_);refine goesL_ (some 18) rfl rfl Try.func14 (by kernel_rfl) rfl #[.int .i64 t620,.int .i64 t621] rfl (by (try simp only [zJ,zM,zN]);first|done|rfl|(simp only [zL,zK];rfl)) ?_;(with_reducible refine (impl_RootlessCount.calls k t620 t621 t622 _ A4.out).mono ?_);rintro e w23 ⟨rfl,hb⟩;refine ⟨_,rfl,?_⟩;have n0_:=zA (zR (by exact zB_ HB.out) hb);clear HB;have HB:=n0_;clear n0_;(try clear hb);(try clear hb2);(try clear hk);(try clear hi))|((with_reducible refine gate_callee (f:=15) rfl ?_);refine goesL_ (some 21) rfl rfl Try.func15 (by kernel_rfl) rfl #[.int .i64 t620,.int .i64 t621] rfl (by (try simp only [zJ,zM,zN]);first|done|rfl|(simp only [zL,zK];rfl)) ?_;(with_reducible refine (spec_RootlessCount.calls k t620 t621 t623 _ A5.out).mono ?_);rintro e w24 ⟨rfl,hb⟩;refine ⟨_,rfl,?_⟩;have n0_:=zA (zR (by exact zB_ HB.out) hb);clear HB;have HB:=n0_;clear n0_;(try clear hb);(try clear hb2);(try clear hk);(try clear hi))|((with_reducible refine gate_callee (f:=16) rfl ?_);refine goesL_ (some 34) rfl rfl Try.func16 (by kernel_rfl) rfl #[.int .i64 t620,.int .i64 t621] rfl (by (try simp only [zJ,zM,zN]);first|done|rfl|(simp only [zL,zK];rfl)) ?_;(with_reducible refine (impl_RootedCount.calls t620 t621 t624 _ A11.out).mono ?_);rintro e w25 ⟨rfl,hb⟩;refine ⟨_,rfl,?_⟩;have n0_:=zA (zR (by exact zB_ HB.out) hb);clear HB;have HB:=n0_;clear n0_;(try clear hb);(try clear hb2);(try clear hk);(try clear hi)))
     go_ret
     exact ⟨by first|rfl|(simp [errW_none,errW_some] <;> rfl)|(simp [*,errW_none,errW_some] <;> rfl),by exact zB_ HB.out⟩
  ·rw [if_neg c6] at H
   have c6b0:(t622 == t623) = false:=beq_eq_false_iff_ne.mpr c6
   have c6b1:(t622 != t623) = true:=bne_iff_ne.mpr c6
   obtain rfl:=zS H
   go_enter Try.func3,Try.ntmps3
   go_wp2_with (first|((with_reducible refine gate_callee (f:=13) rfl ?_);refine goesL_ (some 13) rfl rfl Try.func13 (by kernel_rfl) rfl #[.slice A0 l0.length c0] rfl (by (try simp only [zJ,zM,zN]);first|done|rfl|(simp only [zL,zK];rfl)) ?_;(with_reducible refine (spec_DrawRootlessCount.calls k _ _ l0 t620 t621 _ ?side1 ?side2 A3.out).mono ?_);(case side1=>repeat (first|exact HR0.out|apply zC_));(case side2=>exact HC0.out);rintro e w26 ⟨rfl,hb⟩;refine ⟨_,rfl,?_⟩;have n0_:=zA (zR (by exact zB_ HB.out) hb);clear HB;have HB:=n0_;clear n0_;(try clear hb);(try clear hb2);(try clear hk);(try clear hi))|((with_reducible refine gate_callee (f:=14) rfl ?_);refine goesL_ (some 18) rfl rfl Try.func14 (by kernel_rfl) rfl #[.int .i64 t620,.int .i64 t621] rfl (by (try simp only [zJ,zM,zN]);first|done|rfl|(simp only [zL,zK];rfl)) ?_;(with_reducible refine (impl_RootlessCount.calls k t620 t621 t622 _ A4.out).mono ?_);rintro e w27 ⟨rfl,hb⟩;refine ⟨_,rfl,?_⟩;have n0_:=zA (zR (by exact zB_ HB.out) hb);clear HB;have HB:=n0_;clear n0_;(try clear hb);(try clear hb2);(try clear hk);(try clear hi))|((with_reducible refine gate_callee (f:=15) rfl ?_);refine goesL_ (some 21) rfl rfl Try.func15 (by kernel_rfl) rfl #[.int .i64 t620,.int .i64 t621] rfl (by (try simp only [zJ,zM,zN]);first|done|rfl|(simp only [zL,zK];rfl)) ?_;(with_reducible refine (spec_RootlessCount.calls k t620 t621 t623 _ A5.out).mono ?_);rintro e w28 ⟨rfl,hb⟩;refine ⟨_,rfl,?_⟩;have n0_:=zA (zR (by exact zB_ HB.out) hb);clear HB;have HB:=n0_;clear n0_;(try clear hb);(try clear hb2);(try clear hk);(try clear hi)))
   go_ret
   exact ⟨by first|rfl|(simp [errW_none,errW_some] <;> rfl)|(simp [*,errW_none,errW_some] <;> rfl),by exact zB_ HB.out⟩

/-- THE ONE PURE STATEMENT of laws_FnRootless: yours. -/
def laws_FnRootless.Pure:Prop := ∀ (l0:List Int),l0.length≤maxLen→l0.length * 1≤140737488351232→(∀ x ∈ l0,(Lit.int .u8 x).wf = true) → ∃ k,laws_FnRootless.f k l0 = some true
theorem laws_FnRootless.walk (P:laws_FnRootless.Pure) (a0:Option Addr) (len0 cap0:Nat) (z0:List Int) (w:World) (w0:(a0 = none∧len0 = 0∧cap0 = 0∧z0 = []) ∨ ∃ x,a0 = some x∧len0≤cap0∧cap0≤maxLen∧z0.length = cap0∧(∀ i,i < z0.length→w.cell? (x.add i) = some (.int .u8 (z0.getD i 0))) ∧ ∀ n ∈ z0,(Lit.int .u8 n).wf = true) (y0:len0 * 1≤140737488351232) :
  Calls Try.prog 3 #[.slice a0 len0 cap0] w fun e w'=>e = .returned (.bool true)∧Below w.heap.size w w':=by
 obtain ⟨l0,rfl,hr0,hm0,hw0,hc0⟩:=ReadsInt.ofRowC w0
 obtain ⟨k,h⟩:=P l0 hm0 y0 hw0
 refine (laws_FnRootless.calls k _ _ l0 true w (Kd.C_of_reads (d:=(0:Int)) (h1:=fun _=>rfl) hr0) hc0 h).mono ?_
 rintro e w' ⟨rfl,hd⟩
 exact ⟨rfl,hd⟩

end Go.Proofs.Ytdaiohcgdpclnaa.Q
