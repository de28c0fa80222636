import Derived.Test.YtdaiohcgdpclnaaQ0
import Derived.Test.YtdaiohcgdpclnaaQ10
import Derived.Test.YtdaiohcgdpclnaaQ11
import Derived.Test.YtdaiohcgdpclnaaQ12
import Derived.Test.YtdaiohcgdpclnaaQ7
import Derived.Test.YtdaiohcgdpclnaaQ8
import Derived.Test.YtdaiohcgdpclnaaQ9
import Derived.Test.YtdaiohcgdpclnaaZ
namespace Go.Proofs.Ytdaiohcgdpclnaa.Q
open Go.RowKit Go.Proofs.YtdaiohcgdpclnaaW.PrintWords Go.Proofs.YtdaiohcgdpclnaaW.PrintLast Go.Proofs.YtdaiohcgdpclnaaW.PrintMore
attribute [local go_sem] max2_int min2_int max_two min_two max_three min_three max_four min_four   -- for this text's walks alone
set_option linter.unusedVariables false
set_option linter.unusedSimpArgs false

/-! ### spec_l2Form: function 78 -/
def spec_l2Form.f (k:Nat) (l0_0:List Int) (l0_1:List Int) (a1:Int):Option (List Int × List Int):=(spec_l2Names.f k l0_0 l0_1 a1).bind fun t514=>((spec_l2Rename.f k l0_0 l0_1 t514).bind fun bt517=>(some (bt517.1,bt517.2)))
theorem spec_l2Form.mono:∀ a0 a1 a2 k,LeO (spec_l2Form.f k a0 a1 a2) (spec_l2Form.f (k+1) a0 a1 a2):=by
 intro a0 a1 a2 k
 unfold spec_l2Form.f
 repeat' first
   | (with_reducible exact spec_l2Names.mono _ _ _ _)
   | (with_reducible exact spec_l2Rename.mono _ _ _ _)
   | (with_reducible exact LeO.refl _)
   | (with_reducible exact zm _)
   | (with_reducible refine zo ?_ ?_)
   | (with_reducible refine zn ?_ (fun _=>?_))
   | exact spec_l2Names.mono _ _ _ _
   | exact spec_l2Rename.mono _ _ _ _
   | exact zm _
   | refine zo ?_ ?_
   | refine zn ?_ (fun _=>?_)
set_option maxHeartbeats 8000000 in
set_option maxRecDepth 100000 in
theorem spec_l2Form.calls (k:Nat) (A0_0:Option Addr) (c0_0:Nat) (l0_0:List Int) (A0_1:Option Addr) (c0_1:Nat) (l0_1:List Int) (a1:Int) (r1:List Int) (r2:List Int) (w:World) (hr0_0:Kd.C (Kd.int .i64) w A0_0 l0_0.length l0_0) (hc0_0:l0_0.length≤c0_0) (hr0_1:Kd.C (Kd.int .i64) w A0_1 l0_1.length l0_1) (hc0_1:l0_1.length≤c0_1) (h:spec_l2Form.f k l0_0 l0_1 a1 = some (r1,r2)) :
  Calls Try.prog 78 #[.agg #[.slice A0_0 l0_0.length c0_0,.slice A0_1 l0_1.length c0_1],.int .i64 a1] w fun e w' => ∃ v0_ v1_:Value,e = .returned (.agg #[v0_,v1_])∧Kd.R (Kd.int .i64) 3 w' w.heap.size (fun k_=>some k_≠(v1_:Value).ownBlock) v0_ r1∧Kd.R (Kd.int .i64) 3 w' w.heap.size (fun k_=>some k_≠(v0_:Value).ownBlock) v1_ r2∧Below w.heap.size w w':=by
 have hu33:=Try.underlying33
 have HR0_0:=zA hr0_0
 have HC0_0:=zA hc0_0
 clear hr0_0 hc0_0
 have HR0_1:=zA hr0_1
 have HC0_1:=zA hc0_1
 clear hr0_1 hc0_1
 have HB:=zA (Below.refl w.heap.size w)
 have H:((spec_l2Names.f k l0_0 l0_1 a1).bind fun t514=>((spec_l2Rename.f k l0_0 l0_1 t514).bind fun bt517=>(some (bt517.1,bt517.2)))) = some (r1,r2):=h
 clear h
 replace H:=zz0 H
 obtain ⟨t514,A30,H⟩:=H
 replace H:((spec_l2Rename.f k l0_0 l0_1 t514).bind fun bt517=>(some (bt517.1,bt517.2))) = some (r1,r2):=H
 have A3:=zA A30
 clear A30
 replace H:=zz0 H
 obtain ⟨⟨t517,t520⟩,A40,H⟩:=H
 replace H:(some (t517,t520)) = some (r1,r2):=H
 have A4:=zA A40
 clear A40
 simp only [Option.some.injEq,Prod.mk.injEq] at H
 obtain ⟨rfl,rfl⟩:=H
 go_enter Try.func78,Try.ntmps78
 try go_wp2_with (first|((with_reducible refine gate_dst (N:=2) rfl ?_);refine box_event ?hg (N:=2) ?hd (cs:=#[.slice A0_0 l0_0.length c0_0,.slice A0_1 l0_1.length c0_1]) (t:=33) ?hr ?_;(case hd=>rfl);(case hg=>rfl);(case hr=>first|(go_simp;done)|(go_simp;rfl));intro gb512 hg w5 hbox hb;have n0_:=zA (za (by repeat (first|(with_reducible first|exact HB.out|apply zD|apply zB|apply zC)|exact HB.out)) hb);have n1_:=zA (hbox);have n2_:=zA ((by rw [hg];exact (zZ (by repeat (first|(with_reducible first|exact HB.out|apply zD|apply zB|apply zC)|exact HB.out))):w.heap.size≤gb512));have n3_:=zA ((by rw [hg];exact (zZ (by repeat (first|(with_reducible first|exact HB.out|apply zD|apply zB|apply zC)|exact HB.out))):w.heap.size≤gb512));clear HB;have HB:=n0_;have BK512:=n1_;have GW512:=n2_;have GE512:=n3_;clear n0_ n1_ n2_ n3_;clear hb hbox hg)|((with_reducible refine gate_dst (N:=4) rfl ?_);refine box_event ?hg (N:=4) ?hd (cs:=#[.slice none 0 0,.slice none 0 0]) (t:=33) ?hr ?_;(case hd=>rfl);(case hg=>rfl);(case hr=>first|(go_simp;done)|(go_simp;rfl));intro gb513 hg w6 hbox hb;have n0_:=zA (zg (g:=gb512) (o:=.cells #[.slice A0_0 l0_0.length c0_0,.slice A0_1 l0_1.length c0_1] 33 (0,0)) (by (with_reducible repeat (first|refine zM ?_ _|refine zO ?_|refine zN ?_ _));exact BK512.out) hb);have n1_:=zA (za (by repeat (first|(with_reducible first|exact HB.out|apply zD|apply zB|apply zC|refine zI ?_ GE512.out)|exact HB.out)) hb);have n2_:=zA (hbox);have n3_:=zA ((by rw [hg];exact (zZ (by repeat (first|(with_reducible first|exact HB.out|apply zD|apply zB|apply zC|refine zI ?_ GE512.out)|exact HB.out))):w.heap.size≤gb513));have n4_:=zA ((by rw [hg];exact (zZ (by repeat (first|(with_reducible first|exact HB.out|apply zD|apply zB|apply zC|refine zI ?_ GE512.out)|exact HB.out))):w.heap.size≤gb513));have n5_:=zA ((by rw [hg];exact Nat.ne_of_lt (blk_lt (g:=gb512) (o:=.cells #[.slice A0_0 l0_0.length c0_0,.slice A0_1 l0_1.length c0_1] 33 (0,0)) (by (with_reducible repeat (first|refine zM ?_ _|refine zO ?_|refine zN ?_ _));exact BK512.out)):gb512≠gb513));have n6_:=zA ((by rw [hg];exact Nat.ne_of_gt (blk_lt (g:=gb512) (o:=.cells #[.slice A0_0 l0_0.length c0_0,.slice A0_1 l0_1.length c0_1] 33 (0,0)) (by (with_reducible repeat (first|refine zM ?_ _|refine zO ?_|refine zN ?_ _));exact BK512.out)):gb513≠gb512));clear BK512;clear HB;have BK512:=n0_;have HB:=n1_;have BK513:=n2_;have GW513:=n3_;have GE513:=n4_;have NB512_513:=n5_;have NB513_512:=n6_;clear n0_ n1_ n2_ n3_ n4_ n5_ n6_;clear hb hbox hg))
 have n0_:=zA (zO BK512.out)
 have n1_:=zA (zO BK513.out)
 have n2_:=zA (zC HB.out)
 clear BK512
 clear BK513
 clear HB
 have BK512:=n0_
 have BK513:=n1_
 have HB:=n2_
 clear n0_ n1_ n2_
 refine start_ (n:=6) (S:=fun w'=>w'.cell? ⟨gb512,0,none⟩ = some (.slice A0_0 l0_0.length c0_0)∧w'.cell? ⟨gb512,1,none⟩ = some (.slice A0_1 l0_1.length c0_1)) (ds:=[]) #[false,false,false,false,false,false] (by kernel_rfl) rfl rfl ⟨(zc BK512.out 0).trans rfl,(zc BK512.out 1).trans rfl⟩ (fun hHeld=>?_)
 generalize w6.drew = w7 at BK512 BK513 HB hHeld ⊢
 refine pure_ (i:=2) (N:=some 7) (v:=?_) (a':=?_) #[false,false,true,false,false,false] rfl rfl (by kernel_rfl) (fun _ _ _ h=>h) (Or.inl ⟨by rfl,?_⟩) ?_ ?_
 rotate_left
 ·intro w'
  go_simp
  with_reducible rfl
 rotate_left
 ·simp only [Act.put,zE,zG,zH,i64_w,i32_w]
  rfl
 refine take_ (i:=0) (N:=some 5) (v:=?_) (a':=?_) #[true,false,true,false,false,false] rfl rfl (by kernel_rfl) (fun _ _ _ h=>h) (Or.inl ⟨by rfl,?_⟩) hHeld ?_ ?_
 rotate_left
 ·rintro w' ⟨s0,s1⟩
  go_simp
  with_reducible rfl
 rotate_left
 ·simp only [Act.put,zE,zG,zH,i64_w,i32_w]
  rfl
 refine take_ (i:=1) (N:=some 6) (v:=?_) (a':=?_) #[true,true,true,false,false,false] rfl rfl (by kernel_rfl) (fun _ _ _ h=>h) (Or.inl ⟨by rfl,?_⟩) hHeld ?_ ?_
 rotate_left
 ·rintro w' ⟨s0,s1⟩
  go_simp
  with_reducible rfl
 rotate_left
 ·simp only [Act.put,zE,zG,zH,i64_w,i32_w]
  rfl
 refine one_ (i:=3) (N:=some 8) #[true,true,true,true,false,false] rfl rfl (by kernel_rfl) (by decide) (fun K hK=>?_)
 refine goes_ Try.func97 (by kernel_rfl) rfl #[.agg #[.slice A0_0 l0_0.length c0_0,.slice A0_1 l0_1.length c0_1],.int .i64 a1] (by rfl) rfl rfl (by (try simp only [zP,zS,zT]);first|done|rfl|(simp only [zR,zQ];rfl)) ?_
 with_reducible refine (spec_l2Names.calls k _ _ l0_0 _ _ l0_1 a1 t514 _ ?side1 ?side2 ?side3 ?side4 A3.out).mono ?_
 (case side1=>repeat (first|exact (zf HR0_0.out HB.out)|(with_reducible exact HR0_0.out)|(with_reducible refine zW ?_ _)|(with_reducible refine zX ?_ _)|(with_reducible refine zY ?_)))
 (case side2=>exact HC0_0.out)
 (case side3=>repeat (first|exact (zf HR0_1.out HB.out)|(with_reducible exact HR0_1.out)|(with_reducible refine zW ?_ _)|(with_reducible refine zX ?_ _)|(with_reducible refine zY ?_)))
 (case side4=>exact HC0_1.out)
 rintro e w8 ⟨v515,rfl,ho0,hb⟩
 refine ⟨_,rfl,?_⟩
 have n0_:=zA (zq ho0 (zZ (by repeat (first|(with_reducible first|exact HB.out|apply zD|apply zB|apply zC|refine zI ?_ GE512.out|refine zI ?_ GE513.out)|exact HB.out))))
 have n1_:=zA (zg (g:=gb512) (o:=.cells #[.slice A0_0 l0_0.length c0_0,.slice A0_1 l0_1.length c0_1] 33 (0,0)) (by (with_reducible repeat (first|refine zM ?_ _|refine zO ?_|refine zN ?_ _));exact BK512.out) hb)
 have n2_:=zA (zg (g:=gb513) (o:=.cells #[.slice none 0 0,.slice none 0 0] 33 (0,0)) (by (with_reducible repeat (first|refine zM ?_ _|refine zO ?_|refine zN ?_ _));exact BK513.out) hb)
 have n3_:=zA (za (by repeat (first|(with_reducible first|exact HB.out|apply zD|apply zB|apply zC|refine zI ?_ GE512.out|refine zI ?_ GE513.out)|exact HB.out)) hb)
 clear BK512
 clear BK513
 clear HB
 have HO516:=n0_
 have BK512:=n1_
 have BK513:=n2_
 have HB:=n3_
 clear n0_ n1_ n2_ n3_
 (try clear hb)
 (try clear hb2)
 (try clear hk)
 (try clear hi)
 (try clear ho0)
 obtain ⟨Ao9,co9,eo9⟩:=zr HO516.out
 (first|subst eo9|(injection eo9 with f1_ f2_ f3_;have f4_:=f1_.symm;have f5_:=f3_.symm;clear f1_ f2_ f3_;subst f4_;subst f5_))
 refine hK.out _ _ ⟨(zc BK512.out 0).trans rfl,(zc BK512.out 1).trans rfl⟩ (fun hHeld=>?_)
 clear hK K
 refine norm_ (a':=?_) ?_ ?_
 rotate_left
 ·show Act.put _ (some 8) _ = _
  simp only [Act.put,zE,zG,zH,i64_w,i32_w]
  rfl
 refine one_ (i:=4) (N:=some 9) #[true,true,true,true,true,false] rfl rfl (by kernel_rfl) (by decide) (fun K hK=>?_)
 refine goes_ Try.func96 (by kernel_rfl) rfl #[.agg #[.slice A0_0 l0_0.length c0_0,.slice A0_1 l0_1.length c0_1],.slice Ao9 t514.length co9] (by rfl) rfl rfl (by (try simp only [zP,zS,zT]);first|done|rfl|(simp only [zR,zQ];rfl)) ?_
 with_reducible refine (spec_l2Rename.calls k _ _ l0_0 _ _ l0_1 _ _ t514 t517 t520 _ ?side1 ?side2 ?side3 ?side4 ?side5 ?side6 A4.out).mono ?_
 (case side1=>repeat (first|exact (zf HR0_0.out HB.out)|(with_reducible exact HR0_0.out)|(with_reducible refine zW ?_ _)|(with_reducible refine zX ?_ _)|(with_reducible refine zY ?_)))
 (case side2=>exact HC0_0.out)
 (case side3=>repeat (first|exact (zf HR0_1.out HB.out)|(with_reducible exact HR0_1.out)|(with_reducible refine zW ?_ _)|(with_reducible refine zX ?_ _)|(with_reducible refine zY ?_)))
 (case side4=>exact HC0_1.out)
 (case side5=>repeat (first|exact (zd HO516.out).2.2|(with_reducible refine zW ?_ _)|(with_reducible refine zX ?_ _)|(with_reducible refine zY ?_)))
 (case side6=>exact (zd HO516.out).2.1)
 rintro e w10 ⟨v518,v521,rfl,ho0,ho1,hb⟩
 refine ⟨_,rfl,?_⟩
 have n0_:=zA (ze (Kd.R_told (Kd.R_told (Kd.R_old (by (with_reducible repeat (first|apply zK|apply zJ|apply zL));exact HO516.out) hb) (zp ho0)) (zp ho1)) (fun _ h_=>h_.1))
 have n1_:=zA (zq (zs ho0 (Kd.R_lt (by (with_reducible repeat (first|apply zK|apply zJ|apply zL));exact HO516.out))) (zZ (by repeat (first|(with_reducible first|exact HB.out|apply zD|apply zB|apply zC|refine zI ?_ GE512.out|refine zI ?_ GE513.out)|exact HB.out))))
 have n2_:=zA (zq (zs ho1 (Kd.R_lt (by (with_reducible repeat (first|apply zK|apply zJ|apply zL));exact HO516.out))) (zZ (by repeat (first|(with_reducible first|exact HB.out|apply zD|apply zB|apply zC|refine zI ?_ GE512.out|refine zI ?_ GE513.out)|exact HB.out))))
 have n3_:=zA (zg (g:=gb512) (o:=.cells #[.slice A0_0 l0_0.length c0_0,.slice A0_1 l0_1.length c0_1] 33 (0,0)) (by (with_reducible repeat (first|refine zM ?_ _|refine zO ?_|refine zN ?_ _));exact BK512.out) hb)
 have n4_:=zA (zg (g:=gb513) (o:=.cells #[.slice none 0 0,.slice none 0 0] 33 (0,0)) (by (with_reducible repeat (first|refine zM ?_ _|refine zO ?_|refine zN ?_ _));exact BK513.out) hb)
 have n5_:=zA (za (by repeat (first|(with_reducible first|exact HB.out|apply zD|apply zB|apply zC|refine zI ?_ GE512.out|refine zI ?_ GE513.out)|exact HB.out)) hb)
 clear HO516
 clear BK512
 clear BK513
 clear HB
 have HO516:=n0_
 have HO519:=n1_
 have HO522:=n2_
 have BK512:=n3_
 have BK513:=n4_
 have HB:=n5_
 clear n0_ n1_ n2_ n3_ n4_ n5_
 (try clear hb)
 (try clear hb2)
 (try clear hk)
 (try clear hi)
 (try clear ho0)
 (try clear ho1)
 obtain ⟨Ao11,co11,eo11⟩:=zr HO519.out
 (first|subst eo11|(injection eo11 with f1_ f2_ f3_;have f4_:=f1_.symm;have f5_:=f3_.symm;clear f1_ f2_ f3_;subst f4_;subst f5_))
 obtain ⟨Ao13,co13,eo13⟩:=zr HO522.out
 (first|subst eo13|(injection eo13 with f1_ f2_ f3_;have f4_:=f1_.symm;have f5_:=f3_.symm;clear f1_ f2_ f3_;subst f4_;subst f5_))
 refine hK.out _ _ ⟨(zc BK512.out 0).trans rfl,(zc BK512.out 1).trans rfl⟩ (fun hHeld=>?_)
 clear hK K
 refine norm_ (a':=?_) ?_ ?_
 rotate_left
 ·show Act.put _ (some 9) _ = _
  simp only [Act.put,zE,zG,zH,i64_w,i32_w]
  rfl
 refine one_ (i:=5) (N:=none) #[true,true,true,true,true,true] rfl rfl (by kernel_rfl) (by decide) (fun K hK=>?_)
 have hs12:w10.cell? ⟨gb513,0,none⟩ = some (.slice none 0 0):=(zc BK513.out 0).trans rfl
 have hfs12:=zl BK513.out 0
 have hns12_0:=NB512_513.out
 have hms12_0:=NB513_512.out
 have hs14:w10.cell? ⟨gb513,1,none⟩ = some (.slice none 0 0):=(zc BK513.out 1).trans rfl
 have hfs14:=zl BK513.out 1
 have hns14_0:=NB512_513.out
 have hms14_0:=NB513_512.out
 refine skip_ (w1:=?_) (by rfl) rfl ?_ ?_
 rotate_left
 ·go_simp
  rfl
 refine hK.out _ _ ⟨((cell_far (p:=⟨gb513,_,none⟩) NB512_513.out _).trans (((cell_far (p:=⟨gb513,_,none⟩) NB512_513.out _).trans (hHeld.1)))),((cell_far (p:=⟨gb513,_,none⟩) NB512_513.out _).trans (((cell_far (p:=⟨gb513,_,none⟩) NB512_513.out _).trans (hHeld.2))))⟩ (fun hHeld=>?_)
 clear hK K
 refine done_ (by kernel_rfl) ?_
 try go_wp2
 refine bodyPost_ret (results_cell_row rfl _ _ gb513 33 #[.slice Ao11 t517.length co11,.slice Ao13 t520.length co13] (0,0) _ rfl (by (with_reducible repeat (first|refine zM ?_ _|refine zO ?_|refine zN ?_ _));refine blk_put (cs:=#[.slice Ao11 t517.length co11,.slice none 0 0]) ?_ 1 _ rfl;(with_reducible repeat (first|refine zM ?_ _|refine zO ?_|refine zN ?_ _));refine blk_put (cs:=#[.slice none 0 0,.slice none 0 0]) ?_ 0 _ rfl;(with_reducible repeat (first|refine zM ?_ _|refine zO ?_|refine zN ?_ _));exact BK513.out) Try.underlying33 rfl (by kernel_rfl)) rfl ?_
 exact ⟨_,_,by first|rfl|(simp [errW_none,errW_some] <;> rfl)|(simp [*,errW_none,errW_some] <;> rfl),by (with_reducible repeat (first|apply zK|apply zJ|apply zL));exact ze (zt (p:=⟨gb513,1,none⟩) (zt (p:=⟨gb513,0,none⟩) (Kd.R_types HO519.out BK513.out (by decide)) (fun _ hk=>hk.2) (.slice Ao11 t517.length co11)) (fun _ hk=>hk.2) (.slice Ao13 t520.length co13)) (fun _ hk=>hk.1.1),by (with_reducible repeat (first|apply zK|apply zJ|apply zL));exact ze (zt (p:=⟨gb513,1,none⟩) (zt (p:=⟨gb513,0,none⟩) (Kd.R_types HO522.out BK513.out (by decide)) (fun _ hk=>hk.2) (.slice Ao11 t517.length co11)) (fun _ hk=>hk.2) (.slice Ao13 t520.length co13)) (fun _ hk=>hk.1.1),by repeat (first|(with_reducible first|exact HB.out|apply zD|apply zB|apply zC|refine zI ?_ GE512.out|refine zI ?_ GE513.out)|exact HB.out)⟩

/-! ### spec_l3All: function 45 -/
mutual
def spec_l3All.l0:Nat→Int→List (S33)→List Int→List Int→Option ((List (S33)))
 | 0,_,_,_,_=>none
 | k+1,x1,x5,x6,x7=>if (x7.length:Int) > 0 then ((spec_MapValid.f k x7 x6).bind fun t533=>(if t533 = true then ((spec_l2Genus.f k x7 x6).bind fun t534=>(spec_l3All.j1 k x1 x5 x6 x7 (t534 == x1) x7 x6)) else (spec_l3All.j1 k x1 x5 x6 x7 false x7 x6))) else (some x5)
def spec_l3All.j1:Nat→Int→List (S33)→List Int→List Int→Bool→List Int→List Int→Option ((List (S33)))
 | 0,_,_,_,_,_,_,_=>none
 | k+1,x1,x5,x6,x7,x30,x533000,x533001=>if x30 = true then ((spec_l2Form.f k x533000 x533001 0).bind fun bt535=>((spec_l3Put.f k x5 bt535.1 bt535.2).bind fun t541=>((spec_l3Next.f k x7).bind fun t544=>(spec_l3All.l0 k x1 t541 x6 t544)))) else ((spec_l3Next.f k x7).bind fun t547=>(spec_l3All.l0 k x1 x5 x6 t547))
end
def spec_l3All.f (k:Nat) (a0:Int) (a1:Int):Option ((List (S33))):=(spec_l3Flip.f k a0).bind fun t526=>((spec_l1Same.f k (wrap64 (2 * a0))).bind fun t529=>(spec_l3All.l0 k a1 (([]:List (S33))) t526 t529))
theorem spec_l3All.mono_l:∀ k,(∀ y0 y1 y2 y3,LeO (spec_l3All.l0 k y0 y1 y2 y3) (spec_l3All.l0 (k+1) y0 y1 y2 y3))∧(∀ y0 y1 y2 y3 y4 y5 y6,LeO (spec_l3All.j1 k y0 y1 y2 y3 y4 y5 y6) (spec_l3All.j1 (k+1) y0 y1 y2 y3 y4 y5 y6))
 | 0=>⟨fun _ _ _ _ r h=>by simp [spec_l3All.l0] at h,fun _ _ _ _ _ _ _ r h=>by simp [spec_l3All.j1] at h⟩
 | k+1=>by
  obtain ⟨ih0,ih1⟩:=spec_l3All.mono_l k
  refine ⟨?_,?_⟩
  ·intro y0 y1 y2 y3
   unfold spec_l3All.l0
   repeat' first
   | (with_reducible exact ih0 _ _ _ _)
   | (with_reducible exact ih1 _ _ _ _ _ _ _)
   | (with_reducible exact spec_MapValid.mono _ _ _)
   | (with_reducible exact spec_l1Same.mono _ _)
   | (with_reducible exact spec_l2Form.mono _ _ _ _)
   | (with_reducible exact spec_l2Genus.mono _ _ _)
   | (with_reducible exact spec_l3Flip.mono _ _)
   | (with_reducible exact spec_l3Next.mono _ _)
   | (with_reducible exact spec_l3Put.mono _ _ _ _)
   | (with_reducible exact LeO.refl _)
   | (with_reducible exact zm _)
   | (with_reducible refine zo ?_ ?_)
   | (with_reducible refine zn ?_ (fun _=>?_))
   | exact ih0 _ _ _ _
   | exact ih1 _ _ _ _ _ _ _
   | exact spec_MapValid.mono _ _ _
   | exact spec_l1Same.mono _ _
   | exact spec_l2Form.mono _ _ _ _
   | exact spec_l2Genus.mono _ _ _
   | exact spec_l3Flip.mono _ _
   | exact spec_l3Next.mono _ _
   | exact spec_l3Put.mono _ _ _ _
   | exact zm _
   | refine zo ?_ ?_
   | refine zn ?_ (fun _=>?_)
  ·intro y0 y1 y2 y3 y4 y5 y6
   unfold spec_l3All.j1
   repeat' first
   | (with_reducible exact ih0 _ _ _ _)
   | (with_reducible exact ih1 _ _ _ _ _ _ _)
   | (with_reducible exact spec_MapValid.mono _ _ _)
   | (with_reducible exact spec_l1Same.mono _ _)
   | (with_reducible exact spec_l2Form.mono _ _ _ _)
   | (with_reducible exact spec_l2Genus.mono _ _ _)
   | (with_reducible exact spec_l3Flip.mono _ _)
   | (with_reducible exact spec_l3Next.mono _ _)
   | (with_reducible exact spec_l3Put.mono _ _ _ _)
   | (with_reducible exact LeO.refl _)
   | (with_reducible exact zm _)
   | (with_reducible refine zo ?_ ?_)
   | (with_reducible refine zn ?_ (fun _=>?_))
   | exact ih0 _ _ _ _
   | exact ih1 _ _ _ _ _ _ _
   | exact spec_MapValid.mono _ _ _
   | exact spec_l1Same.mono _ _
   | exact spec_l2Form.mono _ _ _ _
   | exact spec_l2Genus.mono _ _ _
   | exact spec_l3Flip.mono _ _
   | exact spec_l3Next.mono _ _
   | exact spec_l3Put.mono _ _ _ _
   | exact zm _
   | refine zo ?_ ?_
   | refine zn ?_ (fun _=>?_)
theorem spec_l3All.mono:∀ a0 a1 k,LeO (spec_l3All.f k a0 a1) (spec_l3All.f (k+1) a0 a1):=by
 intro a0 a1 k
 obtain ⟨ih0,ih1⟩:=spec_l3All.mono_l k
 unfold spec_l3All.f
 repeat' first
   | (with_reducible exact ih0 _ _ _ _)
   | (with_reducible exact ih1 _ _ _ _ _ _ _)
   | (with_reducible exact spec_MapValid.mono _ _ _)
   | (with_reducible exact spec_l1Same.mono _ _)
   | (with_reducible exact spec_l2Form.mono _ _ _ _)
   | (with_reducible exact spec_l2Genus.mono _ _ _)
   | (with_reducible exact spec_l3Flip.mono _ _)
   | (with_reducible exact spec_l3Next.mono _ _)
   | (with_reducible exact spec_l3Put.mono _ _ _ _)
   | (with_reducible exact LeO.refl _)
   | (with_reducible exact zm _)
   | (with_reducible refine zo ?_ ?_)
   | (with_reducible refine zn ?_ (fun _=>?_))
   | exact ih0 _ _ _ _
   | exact ih1 _ _ _ _ _ _ _
   | exact spec_MapValid.mono _ _ _
   | exact spec_l1Same.mono _ _
   | exact spec_l2Form.mono _ _ _ _
   | exact spec_l2Genus.mono _ _ _
   | exact spec_l3Flip.mono _ _
   | exact spec_l3Next.mono _ _
   | exact spec_l3Put.mono _ _ _ _
   | exact zm _
   | refine zo ?_ ?_
   | refine zn ?_ (fun _=>?_)
set_option maxHeartbeats 8000000 in
set_option maxRecDepth 100000 in
theorem spec_l3All.calls (k:Nat) (a0:Int) (a1:Int) (r:List (S33)) (w:World) (h:spec_l3All.f k a0 a1 = some r) :
  Calls Try.prog 45 #[.int .i64 a0,.int .i64 a1] w fun e w' => ∃ v0_:Value,e = .returned (v0_)∧Kd.V k33 33 w' w.heap.size (fun k_=>(w.heap.size≤k_)) v0_ r∧Below w.heap.size w w':=by
 have hu33:=Try.underlying33
 have HB:=zA (Below.refl w.heap.size w)
 have H:((spec_l3Flip.f k a0).bind fun t526=>((spec_l1Same.f k (wrap64 (2 * a0))).bind fun t529=>(spec_l3All.l0 k a1 (([]:List (S33))) t526 t529))) = some r:=h
 clear h
 obtain ⟨y523,hy523⟩:∃ y_:List (S33),y_ = (([]:List (S33))):=⟨_,rfl⟩
 replace H:((spec_l3Flip.f k a0).bind fun t526=>((spec_l1Same.f k (wrap64 (2 * a0))).bind fun t529=>(spec_l3All.l0 k a1 y523 t526 t529))) = some r:=by first|(rw [hy523];with_reducible exact H)|(have H2_:=(Option.bind_some _ _).symm.trans H;rw [hy523];with_reducible exact H2_)|(have H2_:=(Option.bind_some _ _).symm.trans H;with_reducible exact H2_)|with_reducible exact H|(rw [hy523];exact H)|exact H
 have Ny523:=zA hy523
 clear hy523
 replace H:=zz0 H
 obtain ⟨t526,A30,H⟩:=H
 replace H:((spec_l1Same.f k (wrap64 (2 * a0))).bind fun t529=>(spec_l3All.l0 k a1 y523 t526 t529)) = some r:=H
 have A3:=zA A30
 clear A30
 replace H:=zz0 H
 obtain ⟨t529,A40,H⟩:=H
 replace H:(spec_l3All.l0 k a1 y523 t526 t529) = some r:=H
 have A4:=zA A40
 clear A40
 have H':=zA H
 clear H
 go_enter Try.func45,Try.ntmps45
 go_wp2_with (first|((with_reducible refine gate_dst (N:=9) rfl ?_);refine Kd.S_lit k33 _ 33 ?hg (N:=9) ?hd (xs:=([]:List (S33))) (inner:=[]) (ok:=fun _=>True) (okp:=fun _=>True) ?hr ?hp (fun _ hk=>hk) trivial (Below.refl _ _) (Nat.le_refl _) (by simp) ?_;(case hd=>rfl);(case hg=>rfl);(case hr=>first|(go_simp;done)|(go_simp;rfl));(case hp=>exact (Reps.none _ _));intro v524 w5 ho6 hb hg_ hnew_;clear hg_ hnew_;(first|rw [← Ny523.out] at ho6|(simp only [Int.reduceToNat] at ho6;rw [← Ny523.out] at ho6));have n0_:=zA (Kd.S_lower (Kd.S_newM (M:=fun k_=>(w.heap.size≤k_)) ho6 (zZ (by repeat (first|(with_reducible first|exact HB.out|apply zD|apply zB|apply zC)|exact HB.out))) (fun k_ h_=>h_)) (zZ (by repeat (first|(with_reducible first|exact HB.out|apply zD|apply zB|apply zC)|exact HB.out))));have n1_:=zA (za (by repeat (first|(with_reducible first|exact HB.out|apply zD|apply zB|apply zC)|exact HB.out)) hb);clear HB;have HO525:=n0_;have HB:=n1_;clear n0_ n1_;clear hb ho6)|((with_reducible refine gate_callee (f:=73) rfl ?_);refine goesL_ (some 11) rfl rfl Try.func73 (by kernel_rfl) rfl #[.int .i64 a0] rfl (by (try simp only [zP,zS,zT]);first|done|rfl|(simp only [zR,zQ];rfl)) ?_;(with_reducible refine (spec_l3Flip.calls k a0 t526 _ A3.out).mono ?_);rintro e w7 ⟨v527,rfl,ho0,hb⟩;refine ⟨_,rfl,?_⟩;have n0_:=zA (Kd.S_elder' (by (with_reducible repeat (first|apply Kd.S_alloc|apply Kd.S_drewN|apply Kd.S_drew));exact HO525.out) (zp ho0) hb);have n1_:=zA (zq (Kd.R_newM (M:=fun k_=>(w.heap.size≤k_)) ho0 (zZ (by repeat (first|(with_reducible first|exact HB.out|apply zD|apply zB|apply zC)|exact HB.out))) (fun k_ h_=>h_)) (zZ (by repeat (first|(with_reducible first|exact HB.out|apply zD|apply zB|apply zC)|exact HB.out))));have n2_:=zA (za (by repeat (first|(with_reducible first|exact HB.out|apply zD|apply zB|apply zC)|exact HB.out)) hb);clear HO525;clear HB;have HO525:=n0_;have HO528:=n1_;have HB:=n2_;clear n0_ n1_ n2_;(try clear hb);(try clear hb2);(try clear hk);(try clear hi);(try clear ho0))|((with_reducible refine gate_callee (f:=74) rfl ?_);refine goesL_ (some 14) rfl rfl Try.func74 (by kernel_rfl) rfl #[.int .i64 (wrap64 (2 * a0))] rfl (by (try simp only [zP,zS,zT]);first|done|rfl|(simp only [zR,zQ];rfl)) ?_;(with_reducible refine (spec_l1Same.calls k (wrap64 (2 * a0)) t529 _ A4.out).mono ?_);rintro e w8 ⟨v530,rfl,ho0,hb⟩;refine ⟨_,rfl,?_⟩;have n0_:=zA (Kd.S_elder' (by (with_reducible repeat (first|apply Kd.S_alloc|apply Kd.S_drewN|apply Kd.S_drew));exact HO525.out) (zp ho0) hb);have n1_:=zA (Kd.R_elder' (by (with_reducible repeat (first|apply zK|apply zJ|apply zL));exact HO528.out) (zp ho0) hb);have n2_:=zA (zq (zs (Kd.R_newM (M:=fun k_=>(w.heap.size≤k_)) ho0 (zZ (by repeat (first|(with_reducible first|exact HB.out|apply zD|apply zB|apply zC)|exact HB.out))) (fun k_ h_=>h_)) (Kd.R_lt (by (with_reducible repeat (first|apply zK|apply zJ|apply zL));exact HO528.out))) (zZ (by repeat (first|(with_reducible first|exact HB.out|apply zD|apply zB|apply zC)|exact HB.out))));have n3_:=zA (za (by repeat (first|(with_reducible first|exact HB.out|apply zD|apply zB|apply zC)|exact HB.out)) hb);clear HO525;clear HO528;clear HB;have HO525:=n0_;have HO528:=n1_;have HO531:=n2_;have HB:=n3_;clear n0_ n1_ n2_ n3_;(try clear hb);(try clear hb2);(try clear hk);(try clear hi);(try clear ho0)))
 go_loopg [5,7] k (fun kq v5 v7 w' => ∃ (x5_1:List (S33)) (x7_1:List Int),Aside0 (spec_l3All.l0 kq a1 x5_1 t526 x7_1 = some r)∧Aside0 (kq≤k)∧Aside0 (Kd.V k33 33 w' w.heap.size (fun k_=>(w.heap.size≤k_)∧some k_≠(v527:Value).ownBlock∧some k_≠(v7:Value).ownBlock) v5 x5_1)∧Aside0 (Kd.R (Kd.int .i64) 3 w' w.heap.size (fun k_=>(w.heap.size≤k_)∧some k_≠(v7:Value).ownBlock) v527 t526)∧Aside0 (Kd.R (Kd.int .i64) 3 w' w.heap.size (fun k_=>(w.heap.size≤k_)∧some k_≠(v527:Value).ownBlock) v7 x7_1)∧Aside0 (Below w.heap.size w w'))
 case atStart=>exact ⟨(y523),(t529),H',⟨Nat.le_refl _⟩,⟨Kd.S_V (by (with_reducible repeat (first|apply Kd.S_alloc|apply Kd.S_drewN|apply Kd.S_drew));exact Kd.S_mono HO525.out (fun _ hk=>⟨hk.1.1.1,⟨hk.1.2,hk.2⟩⟩))⟩,⟨by (with_reducible repeat (first|apply zK|apply zJ|apply zL));exact ze HO528.out (fun _ hk=>⟨hk.1.1,hk.2⟩)⟩,⟨by (with_reducible repeat (first|apply zK|apply zJ|apply zL));exact ze HO531.out (fun _ hk=>⟨hk.1.1,hk.2⟩)⟩,⟨by repeat (first|(with_reducible first|exact HB.out|apply zD|apply zB|apply zC)|exact HB.out)⟩⟩
 case round =>
  clear H'
  try clear p2
  try clear c4
  try clear p6
  try clear c7
  obtain ⟨x5_1,x7_1,HA,HK1,HO_5,HO_6,HO_7,HB⟩:=hrel
  cases gk with
  | zero=>exact absurd HA.out (by simp [spec_l3All.l0])
  | succ k1 =>
   have H:=HA.out
   clear HA
   simp only [spec_l3All.l0] at H
   by_cases c9:(x7_1.length:Int) > 0
   ·rw [if_pos c9] at H
    have c9b0:decide (0 < (x7_1.length:Int)) = true:=zU c9
    have c9b1:decide (0 < x7_1.length) = true:=zU (by omega)
    clear c9
    have HC10:=zA H
    clear H
    obtain ⟨Ao11,co11,eo11⟩:=zr HO_7.out
    subst eo11
    obtain ⟨Ao12,co12,eo12⟩:=zr HO_6.out
    subst eo12
    go_upto_region 7 with (first|((with_reducible refine gate_dst (N:=8) rfl ?_);refine box_event ?hg (N:=8) ?hd (cs:=#[.slice none 0 0,.slice none 0 0]) (t:=33) ?hr ?_;(case hd=>rfl);(case hg=>rfl);(case hr=>first|(go_simp;done)|(go_simp;rfl));intro gb532 hg w13 hbox hb;have n0_:=zA (Kd.V_below (Kd.V_elderB (by (with_reducible repeat (first|apply zi|apply zj|apply zh));exact HO_5.out) gb532 (Nat.le_of_eq hg.symm)) hb);have n1_:=zA (zu (by (with_reducible repeat (first|apply zK|apply zJ|apply zL));exact HO_6.out) hb);have n2_:=zA (zu (by (with_reducible repeat (first|apply zK|apply zJ|apply zL));exact HO_7.out) hb);have n3_:=zA (za (by repeat (first|(with_reducible first|exact HB.out|apply zD|apply zB|apply zC)|exact HB.out)) hb);have n4_:=zA (hbox);have n5_:=zA ((by rw [hg];exact (zZ (by repeat (first|(with_reducible first|exact HB.out|apply zD|apply zB|apply zC)|exact HB.out))):w.heap.size≤gb532));have n6_:=zA ((by rw [hg];exact (zZ (by repeat (first|(with_reducible first|exact HB.out|apply zD|apply zB|apply zC)|exact HB.out))):w.heap.size≤gb532));clear HO_5;clear HO_6;clear HO_7;clear HB;have HO_5:=n0_;have HO_6:=n1_;have HO_7:=n2_;have HB:=n3_;have BK532:=n4_;have GW532:=n5_;have GE532:=n6_;clear n0_ n1_ n2_ n3_ n4_ n5_ n6_;clear hb hbox hg;have hcz14_0:w13.cell? ⟨gb532,0,none⟩ = some (.slice none 0 0):=(zc BK532.out 0).trans rfl;have hcz14_1:w13.cell? ⟨gb532,1,none⟩ = some (.slice none 0 0):=(zc BK532.out 1).trans rfl;have hfz14_0:=zl BK532.out 0;have hfz14_1:=zl BK532.out 1))
    (try simp only [Act.put,zE,zG,zH])
    go_cut [30] (fun v30 wc => ∃ (kq:Nat) (x30_9:Bool),v30 = .bool x30_9∧Aside0 (spec_l3All.j1 kq a1 x5_1 t526 x7_1 x30_9 x7_1 t526 = some r)∧Aside0 (kq≤k1)∧Aside0 (Kd.V k33 33 wc w.heap.size (fun k_=>(w.heap.size≤k_)∧some k_≠((.slice Ao12 t526.length co12):Value).ownBlock∧some k_≠((.slice Ao11 x7_1.length co11):Value).ownBlock∧some k_≠((.slice Ao11 x7_1.length co11):Value).ownBlock∧some k_≠((.slice Ao12 t526.length co12):Value).ownBlock∧k_≠gb532) u5 x5_1)∧Aside0 (Kd.R (Kd.int .i64) 3 wc w.heap.size (fun k_=>(w.heap.size≤k_)∧some k_≠((.slice Ao11 x7_1.length co11):Value).ownBlock∧some k_≠((.slice Ao11 x7_1.length co11):Value).ownBlock) (.slice Ao12 t526.length co12) t526)∧Aside0 (Kd.R (Kd.int .i64) 3 wc w.heap.size (fun k_=>(w.heap.size≤k_)∧some k_≠((.slice Ao12 t526.length co12):Value).ownBlock∧some k_≠((.slice Ao12 t526.length co12):Value).ownBlock) (.slice Ao11 x7_1.length co11) x7_1)∧Aside0 (Kd.R (Kd.int .i64) 3 wc w.heap.size (fun k_=>(w.heap.size≤k_)∧some k_≠((.slice Ao12 t526.length co12):Value).ownBlock∧some k_≠((.slice Ao12 t526.length co12):Value).ownBlock) (.slice Ao11 x7_1.length co11) x7_1)∧Aside0 (Kd.R (Kd.int .i64) 3 wc w.heap.size (fun k_=>(w.heap.size≤k_)∧some k_≠((.slice Ao11 x7_1.length co11):Value).ownBlock∧some k_≠((.slice Ao11 x7_1.length co11):Value).ownBlock) (.slice Ao12 t526.length co12) t526)∧Aside0 (wc.heap[gb532]? = some (.cells #[(.slice Ao11 x7_1.length co11),(.slice Ao12 t526.length co12)] 33 (0,0)))∧Aside0 (Below w.heap.size w wc))
    case first =>
     have H:=HC10.out
     clear HC10
     replace H:=zz0 H
     obtain ⟨t533,A150,H⟩:=H
     replace H:(if t533 = true then ((spec_l2Genus.f k1 x7_1 t526).bind fun t534=>(spec_l3All.j1 k1 a1 x5_1 t526 x7_1 (t534 == a1) x7_1 t526)) else (spec_l3All.j1 k1 a1 x5_1 t526 x7_1 false x7_1 t526)) = some r:=H
     have A15:=zA A150
     clear A150
     by_cases c16:t533 = true
     ·subst c16
      have H1:((spec_l2Genus.f k1 x7_1 t526).bind fun t534=>(spec_l3All.j1 k1 a1 x5_1 t526 x7_1 (t534 == a1) x7_1 t526)) = some r:=by rw [if_pos rfl] at H;exact H
      clear H
      have H:=H1
      clear H1
      replace H:=zz0 H
      obtain ⟨t534,A170,H⟩:=H
      replace H:(spec_l3All.j1 k1 a1 x5_1 t526 x7_1 (t534 == a1) x7_1 t526) = some r:=H
      have A17:=zA A170
      clear A170
      have H':=zA H
      clear H
      have hcz18_0:w13.cell? ⟨gb532,0,none⟩ = some (.slice none 0 0):=(zc BK532.out 0).trans rfl
      have hcz18_1:w13.cell? ⟨gb532,1,none⟩ = some (.slice none 0 0):=(zc BK532.out 1).trans rfl
      have hfz18_0:=zl BK532.out 0
      have hfz18_1:=zl BK532.out 1
      go_wp2_with (first|((with_reducible refine gate_callee (f:=76) rfl ?_);refine goesL_ (some 24) rfl rfl Try.func76 (by kernel_rfl) rfl #[.agg #[.slice Ao11 x7_1.length co11,.slice Ao12 t526.length co12]] rfl (by (try simp only [zP,zS,zT]);first|done|rfl|(simp only [zR,zQ];rfl)) ?_;(with_reducible refine (spec_MapValid.calls k1 _ _ x7_1 _ _ t526 true _ ?side1 ?side2 ?side3 ?side4 A15.out).mono ?_);(case side1=>refine (zd (e:=3) (base:=w.heap.size) (ok:=fun k_=>((w.heap.size≤k_)∧some k_≠(.slice Ao12 t526.length co12:Value).ownBlock)) (n:=x7_1.length) (c:=co11) ?_).2.2;exact (by (with_reducible repeat (first|apply zK|apply zJ|apply zL));exact (ze (zt (p:=⟨gb532,1,none⟩) (zt (p:=⟨gb532,0,none⟩) (Kd.R_types HO_7.out BK532.out (by decide)) (fun _ hk=>hk.2) (.slice Ao11 x7_1.length co11)) (fun _ hk=>hk.2) (.slice Ao12 t526.length co12)) (fun _ h_=>h_.1))));(case side2=>exact (zd HO_7.out).2.1);(case side3=>refine (zd (e:=3) (base:=w.heap.size) (ok:=fun k_=>((w.heap.size≤k_)∧some k_≠(.slice Ao11 x7_1.length co11:Value).ownBlock)) (n:=t526.length) (c:=co12) ?_).2.2;exact (by (with_reducible repeat (first|apply zK|apply zJ|apply zL));exact (ze (zt (p:=⟨gb532,1,none⟩) (zt (p:=⟨gb532,0,none⟩) (Kd.R_types HO_6.out BK532.out (by decide)) (fun _ hk=>hk.2) (.slice Ao11 x7_1.length co11)) (fun _ hk=>hk.2) (.slice Ao12 t526.length co12)) (fun _ h_=>h_.1))));(case side4=>exact (zd HO_6.out).2.1);rintro e w19 ⟨rfl,hb⟩;refine ⟨_,rfl,?_⟩;have n0_:=zA (Kd.V_below (by (with_reducible repeat (first|apply zi|apply zj|apply zh));exact (Kd.V_mono (Kd.V_far (p:=⟨gb532,1,none⟩) (Kd.V_far (p:=⟨gb532,0,none⟩) (Kd.V_mono HO_5.out (fun k_ hk=>(⟨hk,hk.2⟩:_∧k_≠gb532))) (fun _ hk=>hk.2) (.slice Ao11 x7_1.length co11)) (fun _ hk=>hk.2) (.slice Ao12 t526.length co12)) (fun _ h_=>h_.1))) hb);have n1_:=zA (zu (by (with_reducible repeat (first|apply zK|apply zJ|apply zL));exact (ze (zt (p:=⟨gb532,1,none⟩) (zt (p:=⟨gb532,0,none⟩) (Kd.R_types HO_6.out BK532.out (by decide)) (fun _ hk=>hk.2) (.slice Ao11 x7_1.length co11)) (fun _ hk=>hk.2) (.slice Ao12 t526.length co12)) (fun _ h_=>h_.1))) hb);have n2_:=zA (zu (by (with_reducible repeat (first|apply zK|apply zJ|apply zL));exact (ze (zt (p:=⟨gb532,1,none⟩) (zt (p:=⟨gb532,0,none⟩) (Kd.R_types HO_7.out BK532.out (by decide)) (fun _ hk=>hk.2) (.slice Ao11 x7_1.length co11)) (fun _ hk=>hk.2) (.slice Ao12 t526.length co12)) (fun _ h_=>h_.1))) hb);have n3_:=zA (zg (g:=gb532) (o:=.cells #[.slice Ao11 x7_1.length co11,.slice Ao12 t526.length co12] 33 (0,0)) (by (with_reducible repeat (first|refine zM ?_ _|refine zO ?_|refine zN ?_ _));refine blk_put (cs:=#[.slice Ao11 x7_1.length co11,.slice none 0 0]) ?_ 1 _ rfl;(with_reducible repeat (first|refine zM ?_ _|refine zO ?_|refine zN ?_ _));refine blk_put (cs:=#[.slice none 0 0,.slice none 0 0]) ?_ 0 _ rfl;(with_reducible repeat (first|refine zM ?_ _|refine zO ?_|refine zN ?_ _));exact BK532.out) hb);have n4_:=zA (za (by repeat (first|(with_reducible first|exact HB.out|apply zD|apply zB|apply zC|refine zI ?_ GE532.out)|exact HB.out)) hb);clear HO_5;clear HO_6;clear HO_7;clear BK532;clear HB;have HO_5:=n0_;have HO_6:=n1_;have HO_7:=n2_;have BK532:=n3_;have HB:=n4_;clear n0_ n1_ n2_ n3_ n4_;(try clear hb);(try clear hb2);(try clear hk);(try clear hi);have hcz20_0:w19.cell? ⟨gb532,0,none⟩ = some (.slice Ao11 x7_1.length co11):=(zc BK532.out 0).trans rfl;have hcz20_1:w19.cell? ⟨gb532,1,none⟩ = some (.slice Ao12 t526.length co12):=(zc BK532.out 1).trans rfl;have hfz20_0:=zl BK532.out 0;have hfz20_1:=zl BK532.out 1)|(go_at_call 77;(with_reducible refine (spec_l2Genus.calls k1 _ _ x7_1 _ _ t526 t534 _ ?side1 ?side2 ?side3 ?side4 A17.out).mono ?_);(case side1=>repeat (first|exact (zd HO_7.out).2.2|(with_reducible refine zW ?_ _)|(with_reducible refine zX ?_ _)|(with_reducible refine zY ?_)));(case side2=>exact (zd HO_7.out).2.1);(case side3=>repeat (first|exact (zd HO_6.out).2.2|(with_reducible refine zW ?_ _)|(with_reducible refine zX ?_ _)|(with_reducible refine zY ?_)));(case side4=>exact (zd HO_6.out).2.1);rintro e w21 ⟨rfl,hb⟩;have n0_:=zA (Kd.V_below (by (with_reducible repeat (first|apply zi|apply zj|apply zh));exact HO_5.out) hb);have n1_:=zA (zu (by (with_reducible repeat (first|apply zK|apply zJ|apply zL));exact HO_6.out) hb);have n2_:=zA (zu (by (with_reducible repeat (first|apply zK|apply zJ|apply zL));exact HO_7.out) hb);have n3_:=zA (zg (g:=gb532) (o:=.cells #[.slice Ao11 x7_1.length co11,.slice Ao12 t526.length co12] 33 (0,0)) (by (with_reducible repeat (first|refine zM ?_ _|refine zO ?_|refine zN ?_ _));exact BK532.out) hb);have n4_:=zA (za (by repeat (first|(with_reducible first|exact HB.out|apply zD|apply zB|apply zC|refine zI ?_ GE532.out)|exact HB.out)) hb);clear HO_5;clear HO_6;clear HO_7;clear BK532;clear HB;have HO_5:=n0_;have HO_6:=n1_;have HO_7:=n2_;have BK532:=n3_;have HB:=n4_;clear n0_ n1_ n2_ n3_ n4_;(try clear hb);(try clear hb2);(try clear hk);(try clear hi)))
      go_meet
      case rel=>exact ⟨_,((t534 == a1)),(by first|rfl|(simp;done)|(simp [*];done)),H',⟨by have:=HK1.out;first|omega|exact Nat.le_refl _⟩,⟨by (with_reducible repeat (first|apply zi|apply zj|apply zh));exact Kd.V_mono HO_5.out (fun _ hk=>⟨hk.1.1,⟨hk.1.2.1,⟨hk.1.2.2,⟨hk.1.2.2,⟨hk.1.2.1,hk.2⟩⟩⟩⟩⟩)⟩,⟨by (with_reducible repeat (first|apply zK|apply zJ|apply zL));exact ze HO_6.out (fun _ hk=>⟨hk.1,⟨hk.2,hk.2⟩⟩)⟩,⟨by (with_reducible repeat (first|apply zK|apply zJ|apply zL));exact ze HO_7.out (fun _ hk=>⟨hk.1,⟨hk.2,hk.2⟩⟩)⟩,⟨by (with_reducible repeat (first|apply zK|apply zJ|apply zL));exact ze HO_7.out (fun _ hk=>⟨hk.1,⟨hk.2,hk.2⟩⟩)⟩,⟨by (with_reducible repeat (first|apply zK|apply zJ|apply zL));exact ze HO_6.out (fun _ hk=>⟨hk.1,⟨hk.2,hk.2⟩⟩)⟩,⟨by (with_reducible repeat (first|refine zM ?_ _|refine zO ?_|refine zN ?_ _));exact BK532.out⟩,⟨by repeat (first|(with_reducible first|exact HB.out|apply zD|apply zB|apply zC|refine zI ?_ GE532.out)|exact HB.out)⟩⟩
     ·replace c16:=Bool.eq_false_iff.mpr c16
      subst c16
      have H1:(spec_l3All.j1 k1 a1 x5_1 t526 x7_1 false x7_1 t526) = some r:=by rw [if_neg (show ¬ (false = true) by decide)] at H;exact H
      clear H
      have H:=H1
      clear H1
      have H':=zA H
      clear H
      have hcz22_0:w13.cell? ⟨gb532,0,none⟩ = some (.slice none 0 0):=(zc BK532.out 0).trans rfl
      have hcz22_1:w13.cell? ⟨gb532,1,none⟩ = some (.slice none 0 0):=(zc BK532.out 1).trans rfl
      have hfz22_0:=zl BK532.out 0
      have hfz22_1:=zl BK532.out 1
      go_wp2_with (first|((with_reducible refine gate_callee (f:=76) rfl ?_);refine goesL_ (some 24) rfl rfl Try.func76 (by kernel_rfl) rfl #[.agg #[.slice Ao11 x7_1.length co11,.slice Ao12 t526.length co12]] rfl (by (try simp only [zP,zS,zT]);first|done|rfl|(simp only [zR,zQ];rfl)) ?_;(with_reducible refine (spec_MapValid.calls k1 _ _ x7_1 _ _ t526 false _ ?side1 ?side2 ?side3 ?side4 A15.out).mono ?_);(case side1=>refine (zd (e:=3) (base:=w.heap.size) (ok:=fun k_=>((w.heap.size≤k_)∧some k_≠(.slice Ao12 t526.length co12:Value).ownBlock)) (n:=x7_1.length) (c:=co11) ?_).2.2;exact (by (with_reducible repeat (first|apply zK|apply zJ|apply zL));exact (ze (zt (p:=⟨gb532,1,none⟩) (zt (p:=⟨gb532,0,none⟩) (Kd.R_types HO_7.out BK532.out (by decide)) (fun _ hk=>hk.2) (.slice Ao11 x7_1.length co11)) (fun _ hk=>hk.2) (.slice Ao12 t526.length co12)) (fun _ h_=>h_.1))));(case side2=>exact (zd HO_7.out).2.1);(case side3=>refine (zd (e:=3) (base:=w.heap.size) (ok:=fun k_=>((w.heap.size≤k_)∧some k_≠(.slice Ao11 x7_1.length co11:Value).ownBlock)) (n:=t526.length) (c:=co12) ?_).2.2;exact (by (with_reducible repeat (first|apply zK|apply zJ|apply zL));exact (ze (zt (p:=⟨gb532,1,none⟩) (zt (p:=⟨gb532,0,none⟩) (Kd.R_types HO_6.out BK532.out (by decide)) (fun _ hk=>hk.2) (.slice Ao11 x7_1.length co11)) (fun _ hk=>hk.2) (.slice Ao12 t526.length co12)) (fun _ h_=>h_.1))));(case side4=>exact (zd HO_6.out).2.1);rintro e w23 ⟨rfl,hb⟩;refine ⟨_,rfl,?_⟩;have n0_:=zA (Kd.V_below (by (with_reducible repeat (first|apply zi|apply zj|apply zh));exact (Kd.V_mono (Kd.V_far (p:=⟨gb532,1,none⟩) (Kd.V_far (p:=⟨gb532,0,none⟩) (Kd.V_mono HO_5.out (fun k_ hk=>(⟨hk,hk.2⟩:_∧k_≠gb532))) (fun _ hk=>hk.2) (.slice Ao11 x7_1.length co11)) (fun _ hk=>hk.2) (.slice Ao12 t526.length co12)) (fun _ h_=>h_.1))) hb);have n1_:=zA (zu (by (with_reducible repeat (first|apply zK|apply zJ|apply zL));exact (ze (zt (p:=⟨gb532,1,none⟩) (zt (p:=⟨gb532,0,none⟩) (Kd.R_types HO_6.out BK532.out (by decide)) (fun _ hk=>hk.2) (.slice Ao11 x7_1.length co11)) (fun _ hk=>hk.2) (.slice Ao12 t526.length co12)) (fun _ h_=>h_.1))) hb);have n2_:=zA (zu (by (with_reducible repeat (first|apply zK|apply zJ|apply zL));exact (ze (zt (p:=⟨gb532,1,none⟩) (zt (p:=⟨gb532,0,none⟩) (Kd.R_types HO_7.out BK532.out (by decide)) (fun _ hk=>hk.2) (.slice Ao11 x7_1.length co11)) (fun _ hk=>hk.2) (.slice Ao12 t526.length co12)) (fun _ h_=>h_.1))) hb);have n3_:=zA (zg (g:=gb532) (o:=.cells #[.slice Ao11 x7_1.length co11,.slice Ao12 t526.length co12] 33 (0,0)) (by (with_reducible repeat (first|refine zM ?_ _|refine zO ?_|refine zN ?_ _));refine blk_put (cs:=#[.slice Ao11 x7_1.length co11,.slice none 0 0]) ?_ 1 _ rfl;(with_reducible repeat (first|refine zM ?_ _|refine zO ?_|refine zN ?_ _));refine blk_put (cs:=#[.slice none 0 0,.slice none 0 0]) ?_ 0 _ rfl;(with_reducible repeat (first|refine zM ?_ _|refine zO ?_|refine zN ?_ _));exact BK532.out) hb);have n4_:=zA (za (by repeat (first|(with_reducible first|exact HB.out|apply zD|apply zB|apply zC|refine zI ?_ GE532.out)|exact HB.out)) hb);clear HO_5;clear HO_6;clear HO_7;clear BK532;clear HB;have HO_5:=n0_;have HO_6:=n1_;have HO_7:=n2_;have BK532:=n3_;have HB:=n4_;clear n0_ n1_ n2_ n3_ n4_;(try clear hb);(try clear hb2);(try clear hk);(try clear hi)))
      go_meet
      case rel=>exact ⟨_,(false),(by first|rfl|(simp;done)|(simp [*];done)),H',⟨by have:=HK1.out;first|omega|exact Nat.le_refl _⟩,⟨by (with_reducible repeat (first|apply zi|apply zj|apply zh));exact Kd.V_mono HO_5.out (fun _ hk=>⟨hk.1.1,⟨hk.1.2.1,⟨hk.1.2.2,⟨hk.1.2.2,⟨hk.1.2.1,hk.2⟩⟩⟩⟩⟩)⟩,⟨by (with_reducible repeat (first|apply zK|apply zJ|apply zL));exact ze HO_6.out (fun _ hk=>⟨hk.1,⟨hk.2,hk.2⟩⟩)⟩,⟨by (with_reducible repeat (first|apply zK|apply zJ|apply zL));exact ze HO_7.out (fun _ hk=>⟨hk.1,⟨hk.2,hk.2⟩⟩)⟩,⟨by (with_reducible repeat (first|apply zK|apply zJ|apply zL));exact ze HO_7.out (fun _ hk=>⟨hk.1,⟨hk.2,hk.2⟩⟩)⟩,⟨by (with_reducible repeat (first|apply zK|apply zJ|apply zL));exact ze HO_6.out (fun _ hk=>⟨hk.1,⟨hk.2,hk.2⟩⟩)⟩,⟨by (with_reducible repeat (first|refine zM ?_ _|refine zO ?_|refine zN ?_ _));exact BK532.out⟩,⟨by repeat (first|(with_reducible first|exact HB.out|apply zD|apply zB|apply zC|refine zI ?_ GE532.out)|exact HB.out)⟩⟩
    case rest =>
     clear HC10
     try clear c1
     try clear p2
     try clear c4
     try clear p6
     try clear c7
     try clear c9
     try clear c9b0
     try clear c9b1
     try clear c16
     try clear hcz14_0
     try clear hcz14_1
     try clear hcz18_0
     try clear hcz18_1
     try clear hcz20_0
     try clear hcz20_1
     try clear hcz22_0
     try clear hcz22_1
     try clear hfz14_0
     try clear hfz14_1
     try clear hfz18_0
     try clear hfz18_1
     try clear hfz20_0
     try clear hfz20_1
     try clear hfz22_0
     try clear hfz22_1
     try clear p2
     try clear p6
     obtain ⟨kq,x30_9,rfl,HA,HJ9,HO_5,HO_6,HO_7,HO_533000,HO_533001,BK532,HB⟩:=hcut
     cases kq with
     | zero=>exact absurd HA.out (by simp [spec_l3All.j1])
     | succ kj9 =>
      have H:=HA.out
      clear HA
      simp only [spec_l3All.j1] at H
      by_cases c24:x30_9 = true
      ·subst c24
       have H1:((spec_l2Form.f kj9 x7_1 t526 0).bind fun bt535=>((spec_l3Put.f kj9 x5_1 bt535.1 bt535.2).bind fun t541=>((spec_l3Next.f kj9 x7_1).bind fun t544=>(spec_l3All.l0 kj9 a1 t541 t526 t544)))) = some r:=by rw [if_pos rfl] at H;exact H
       clear H
       have H:=H1
       clear H1
       replace H:=zz0 H
       obtain ⟨⟨t535,t538⟩,A250,H⟩:=H
       replace H:((spec_l3Put.f kj9 x5_1 t535 t538).bind fun t541=>((spec_l3Next.f kj9 x7_1).bind fun t544=>(spec_l3All.l0 kj9 a1 t541 t526 t544))) = some r:=H
       have A25:=zA A250
       clear A250
       replace H:=zz0 H
       obtain ⟨t541,A260,H⟩:=H
       replace H:((spec_l3Next.f kj9 x7_1).bind fun t544=>(spec_l3All.l0 kj9 a1 t541 t526 t544)) = some r:=H
       have A26:=zA A260
       clear A260
       replace H:=zz0 H
       obtain ⟨t544,A270,H⟩:=H
       replace H:(spec_l3All.l0 kj9 a1 t541 t526 t544) = some r:=H
       have A27:=zA A270
       clear A270
       have H':=zA H
       clear H
       have hcz28_0:wc.cell? ⟨gb532,0,none⟩ = some (.slice Ao11 x7_1.length co11):=(zc BK532.out 0).trans rfl
       have hcz28_1:wc.cell? ⟨gb532,1,none⟩ = some (.slice Ao12 t526.length co12):=(zc BK532.out 1).trans rfl
       have hfz28_0:=zl BK532.out 0
       have hfz28_1:=zl BK532.out 1
       go_wp2_with (first|((with_reducible refine gate_callee (f:=78) rfl ?_);refine goesL_ (some 33) rfl rfl Try.func78 (by kernel_rfl) rfl #[.agg #[.slice Ao11 x7_1.length co11,.slice Ao12 t526.length co12],.int .i64 0] rfl (by (try simp only [zP,zS,zT]);first|done|rfl|(simp only [zR,zQ];rfl)) ?_;(with_reducible refine (spec_l2Form.calls kj9 _ _ x7_1 _ _ t526 0 t535 t538 _ ?side1 ?side2 ?side3 ?side4 A25.out).mono ?_);(case side1=>repeat (first|exact (zd HO_533000.out).2.2|(with_reducible refine zW ?_ _)|(with_reducible refine zX ?_ _)|(with_reducible refine zY ?_)));(case side2=>exact (zd HO_533000.out).2.1);(case side3=>repeat (first|exact (zd HO_533001.out).2.2|(with_reducible refine zW ?_ _)|(with_reducible refine zX ?_ _)|(with_reducible refine zY ?_)));(case side4=>exact (zd HO_533001.out).2.1);rintro e w29 ⟨v536,v539,rfl,ho0,ho1,hb⟩;refine ⟨_,rfl,?_⟩;have n0_:=zA (Kd.V_mono (Kd.V_told (Kd.V_told (Kd.V_old (by (with_reducible repeat (first|apply zi|apply zj|apply zh));exact HO_5.out) hb) (zp ho0)) (zp ho1)) (fun _ h_=>h_.1));have n1_:=zA (ze (Kd.R_told (Kd.R_told (Kd.R_old (by (with_reducible repeat (first|apply zK|apply zJ|apply zL));exact HO_6.out) hb) (zp ho0)) (zp ho1)) (fun _ h_=>h_.1));have n2_:=zA (ze (Kd.R_told (Kd.R_told (Kd.R_old (by (with_reducible repeat (first|apply zK|apply zJ|apply zL));exact HO_7.out) hb) (zp ho0)) (zp ho1)) (fun _ h_=>h_.1));have n3_:=zA (ze (Kd.R_told (Kd.R_told (Kd.R_old (by (with_reducible repeat (first|apply zK|apply zJ|apply zL));exact HO_533000.out) hb) (zp ho0)) (zp ho1)) (fun _ h_=>h_.1));have n4_:=zA (ze (Kd.R_told (Kd.R_told (Kd.R_old (by (with_reducible repeat (first|apply zK|apply zJ|apply zL));exact HO_533001.out) hb) (zp ho0)) (zp ho1)) (fun _ h_=>h_.1));have n5_:=zA (zq (zs (zs (zs (zs (Kd.R_newM (M:=fun k_=>(w.heap.size≤k_)) ho0 (zZ (by repeat (first|(with_reducible first|exact HB.out|apply zD|apply zB|apply zC|refine zI ?_ GE532.out)|exact HB.out))) (fun k_ h_=>h_)) (Kd.R_lt (by (with_reducible repeat (first|apply zK|apply zJ|apply zL));exact HO_6.out))) (Kd.R_lt (by (with_reducible repeat (first|apply zK|apply zJ|apply zL));exact HO_7.out))) (Kd.R_lt (by (with_reducible repeat (first|apply zK|apply zJ|apply zL));exact HO_533000.out))) (Kd.R_lt (by (with_reducible repeat (first|apply zK|apply zJ|apply zL));exact HO_533001.out))) (zZ (by repeat (first|(with_reducible first|exact HB.out|apply zD|apply zB|apply zC|refine zI ?_ GE532.out)|exact HB.out))));have n6_:=zA (zq (zs (zs (zs (zs (Kd.R_newM (M:=fun k_=>(w.heap.size≤k_)) ho1 (zZ (by repeat (first|(with_reducible first|exact HB.out|apply zD|apply zB|apply zC|refine zI ?_ GE532.out)|exact HB.out))) (fun k_ h_=>h_)) (Kd.R_lt (by (with_reducible repeat (first|apply zK|apply zJ|apply zL));exact HO_6.out))) (Kd.R_lt (by (with_reducible repeat (first|apply zK|apply zJ|apply zL));exact HO_7.out))) (Kd.R_lt (by (with_reducible repeat (first|apply zK|apply zJ|apply zL));exact HO_533000.out))) (Kd.R_lt (by (with_reducible repeat (first|apply zK|apply zJ|apply zL));exact HO_533001.out))) (zZ (by repeat (first|(with_reducible first|exact HB.out|apply zD|apply zB|apply zC|refine zI ?_ GE532.out)|exact HB.out))));have n7_:=zA (zg (g:=gb532) (o:=.cells #[.slice Ao11 x7_1.length co11,.slice Ao12 t526.length co12] 33 (0,0)) (by (with_reducible repeat (first|refine zM ?_ _|refine zO ?_|refine zN ?_ _));exact BK532.out) hb);have n8_:=zA (za (by repeat (first|(with_reducible first|exact HB.out|apply zD|apply zB|apply zC|refine zI ?_ GE532.out)|exact HB.out)) hb);clear HO_5;clear HO_6;clear HO_7;clear HO_533000;clear HO_533001;clear BK532;clear HB;have HO_5:=n0_;have HO_6:=n1_;have HO_7:=n2_;have HO_533000:=n3_;have HO_533001:=n4_;have HO537:=n5_;have HO540:=n6_;have BK532:=n7_;have HB:=n8_;clear n0_ n1_ n2_ n3_ n4_ n5_ n6_ n7_ n8_;(try clear hb);(try clear hb2);(try clear hk);(try clear hi);(try clear ho0);(try clear ho1);obtain ⟨Ao30,co30,eo30⟩:=Kd.V_slice HO_5.out;subst eo30;obtain ⟨Ao31,co31,eo31⟩:=zr HO537.out;subst eo31;obtain ⟨Ao32,co32,eo32⟩:=zr HO540.out;subst eo32)|((with_reducible refine gate_callee (f:=64) rfl ?_);refine goesL_ (some 34) rfl rfl Try.func64 (by kernel_rfl) rfl #[.slice Ao30 x5_1.length co30,.agg #[.slice Ao31 t535.length co31,.slice Ao32 t538.length co32]] rfl (by (try simp only [zP,zS,zT]);first|done|rfl|(simp only [zR,zQ];rfl)) ?_;(with_reducible refine (spec_l3Put.calls kj9 (fun k_=>((((w.heap.size≤k_)∧(some k_≠(.slice Ao12 t526.length co12:Value).ownBlock∧(some k_≠(.slice Ao11 x7_1.length co11:Value).ownBlock∧(some k_≠(.slice Ao11 x7_1.length co11:Value).ownBlock∧(some k_≠(.slice Ao12 t526.length co12:Value).ownBlock∧k_≠gb532)))))∧some k_≠(.slice Ao31 t535.length co31:Value).ownBlock)∧some k_≠(.slice Ao32 t538.length co32:Value).ownBlock)) _ _ x5_1 (fun k_=>some k_ = (.slice Ao31 t535.length co31:Value).ownBlock) _ _ t535 (fun k_=>some k_ = (.slice Ao32 t538.length co32:Value).ownBlock) _ _ t538 t541 _ ?side1 ?side2 ?side3 A26.out).mono ?_);(case side1=>exact HO_5.out);(case side2=>exact Kd.R_V (Kd.R_tight rfl (Kd.R_types (HO537.out) BK532.out (by decide))));(case side3=>exact Kd.R_V (Kd.R_tight rfl (Kd.R_types (HO540.out) BK532.out (by decide))));rintro e w33 ⟨v542,rfl,ho0,hb⟩;refine ⟨_,rfl,?_⟩;have n0_:=zA (Kd.V_below (by (with_reducible repeat (first|apply zi|apply zj|apply zh));exact HO_5.out) hb);have n1_:=zA (zu (by (with_reducible repeat (first|apply zK|apply zJ|apply zL));exact HO_6.out) hb);have n2_:=zA (zu (by (with_reducible repeat (first|apply zK|apply zJ|apply zL));exact HO_7.out) hb);have n3_:=zA (zu (by (with_reducible repeat (first|apply zK|apply zJ|apply zL));exact HO_533000.out) hb);have n4_:=zA (zu (by (with_reducible repeat (first|apply zK|apply zJ|apply zL));exact HO_533001.out) hb);have n5_:=zA (zu (by (with_reducible repeat (first|apply zK|apply zJ|apply zL));exact HO537.out) hb);have n6_:=zA (zu (by (with_reducible repeat (first|apply zK|apply zJ|apply zL));exact HO540.out) hb);have n7_:=zA (Kd.V_lower (Kd.V_mono (ok':=fun k_=>(w.heap.size≤k_)∧some k_≠(.slice Ao12 t526.length co12:Value).ownBlock∧some k_≠(.slice Ao11 x7_1.length co11:Value).ownBlock∧some k_≠(.slice Ao11 x7_1.length co11:Value).ownBlock∧some k_≠(.slice Ao12 t526.length co12:Value).ownBlock∧k_≠gb532) ho0 (fun k_ hk_=>⟨Or.elim hk_ (fun hs_=>Or.elim hs_ (fun hs_=>hs_.1.1.1) (fun hs_=>Or.elim hs_ (fun hs_=>((Kd.R_types (HO537.out) BK532.out (by decide)).1 k_ hs_.symm).1.1.1.1.1.1) (fun hs_=>((Kd.R_types (HO540.out) BK532.out (by decide)).1 k_ hs_.symm).1.1.1.1.1.1))) (fun hn_=>(Nat.le_trans (zZ (by repeat (first|(with_reducible first|exact HB.out|apply zD|apply zB|apply zC|refine zI ?_ GE532.out)|exact HB.out))) hn_)),Or.elim hk_ (fun hs_=>Or.elim hs_ (fun hs_=>hs_.1.1.2.1) (fun hs_=>Or.elim hs_ (fun hs_=>((Kd.R_types (HO537.out) BK532.out (by decide)).1 k_ hs_.symm).1.1.1.1.2) (fun hs_=>((Kd.R_types (HO540.out) BK532.out (by decide)).1 k_ hs_.symm).1.1.1.1.2))) (fun hn_=>(Kd.fresh' (Kd.R_lt (by (with_reducible repeat (first|apply zK|apply zJ|apply zL));exact HO_6.out)) k_ hn_)),Or.elim hk_ (fun hs_=>Or.elim hs_ (fun hs_=>hs_.1.1.2.2.1) (fun hs_=>Or.elim hs_ (fun hs_=>((Kd.R_types (HO537.out) BK532.out (by decide)).1 k_ hs_.symm).1.1.1.2) (fun hs_=>((Kd.R_types (HO540.out) BK532.out (by decide)).1 k_ hs_.symm).1.1.1.2))) (fun hn_=>(Kd.fresh' (Kd.R_lt (by (with_reducible repeat (first|apply zK|apply zJ|apply zL));exact HO_7.out)) k_ hn_)),Or.elim hk_ (fun hs_=>Or.elim hs_ (fun hs_=>hs_.1.1.2.2.2.1) (fun hs_=>Or.elim hs_ (fun hs_=>((Kd.R_types (HO537.out) BK532.out (by decide)).1 k_ hs_.symm).1.1.2) (fun hs_=>((Kd.R_types (HO540.out) BK532.out (by decide)).1 k_ hs_.symm).1.1.2))) (fun hn_=>(Kd.fresh' (Kd.R_lt (by (with_reducible repeat (first|apply zK|apply zJ|apply zL));exact HO_533000.out)) k_ hn_)),Or.elim hk_ (fun hs_=>Or.elim hs_ (fun hs_=>hs_.1.1.2.2.2.2.1) (fun hs_=>Or.elim hs_ (fun hs_=>((Kd.R_types (HO537.out) BK532.out (by decide)).1 k_ hs_.symm).1.2) (fun hs_=>((Kd.R_types (HO540.out) BK532.out (by decide)).1 k_ hs_.symm).1.2))) (fun hn_=>(Kd.fresh' (Kd.R_lt (by (with_reducible repeat (first|apply zK|apply zJ|apply zL));exact HO_533001.out)) k_ hn_)),Or.elim hk_ (fun hs_=>Or.elim hs_ (fun hs_=>hs_.1.1.2.2.2.2.2) (fun hs_=>Or.elim hs_ (fun hs_=>((Kd.R_types (HO537.out) BK532.out (by decide)).1 k_ hs_.symm).2) (fun hs_=>((Kd.R_types (HO540.out) BK532.out (by decide)).1 k_ hs_.symm).2))) (fun hn_=>(Kd.freshB (g:=gb532) (o:=.cells #[.slice Ao11 x7_1.length co11,.slice Ao12 t526.length co12] 33 (0,0)) (by (with_reducible repeat (first|refine zM ?_ _|refine zO ?_|refine zN ?_ _));exact BK532.out) k_ hn_))⟩)) (zZ (by repeat (first|(with_reducible first|exact HB.out|apply zD|apply zB|apply zC|refine zI ?_ GE532.out)|exact HB.out))));have n8_:=zA (zg (g:=gb532) (o:=.cells #[.slice Ao11 x7_1.length co11,.slice Ao12 t526.length co12] 33 (0,0)) (by (with_reducible repeat (first|refine zM ?_ _|refine zO ?_|refine zN ?_ _));exact BK532.out) hb);have n9_:=zA (za (by repeat (first|(with_reducible first|exact HB.out|apply zD|apply zB|apply zC|refine zI ?_ GE532.out)|exact HB.out)) hb);clear HO_5;clear HO_6;clear HO_7;clear HO_533000;clear HO_533001;clear HO537;clear HO540;clear BK532;clear HB;have HO_5:=n0_;have HO_6:=n1_;have HO_7:=n2_;have HO_533000:=n3_;have HO_533001:=n4_;have HO537:=n5_;have HO540:=n6_;have HO543:=n7_;have BK532:=n8_;have HB:=n9_;clear n0_ n1_ n2_ n3_ n4_ n5_ n6_ n7_ n8_ n9_;(try clear hb);(try clear hb2);(try clear hk);(try clear hi);(try clear ho0))|((with_reducible refine gate_callee (f:=75) rfl ?_);refine goesL_ (some 19) rfl rfl Try.func75 (by kernel_rfl) rfl #[.slice Ao11 x7_1.length co11] rfl (by (try simp only [zP,zS,zT]);first|done|rfl|(simp only [zR,zQ];rfl)) ?_;(with_reducible refine (spec_l3Next.calls kj9 _ _ x7_1 t544 _ ?side1 ?side2 A27.out).mono ?_);(case side1=>repeat (first|exact (zd HO_7.out).2.2|(with_reducible refine zW ?_ _)|(with_reducible refine zX ?_ _)|(with_reducible refine zY ?_)));(case side2=>exact (zd HO_7.out).2.1);rintro e w34 ⟨v545,rfl,ho0,hb⟩;refine ⟨_,rfl,?_⟩;have n0_:=zA (Kd.V_elder' (by (with_reducible repeat (first|apply zi|apply zj|apply zh));exact HO_5.out) (zp ho0) hb);have n1_:=zA (Kd.R_elder' (by (with_reducible repeat (first|apply zK|apply zJ|apply zL));exact HO_6.out) (zp ho0) hb);have n2_:=zA (Kd.R_elder' (by (with_reducible repeat (first|apply zK|apply zJ|apply zL));exact HO_7.out) (zp ho0) hb);have n3_:=zA (Kd.R_elder' (by (with_reducible repeat (first|apply zK|apply zJ|apply zL));exact HO_533000.out) (zp ho0) hb);have n4_:=zA (Kd.R_elder' (by (with_reducible repeat (first|apply zK|apply zJ|apply zL));exact HO_533001.out) (zp ho0) hb);have n5_:=zA (Kd.R_elder' (by (with_reducible repeat (first|apply zK|apply zJ|apply zL));exact HO537.out) (zp ho0) hb);have n6_:=zA (Kd.R_elder' (by (with_reducible repeat (first|apply zK|apply zJ|apply zL));exact HO540.out) (zp ho0) hb);have n7_:=zA (Kd.V_elder' (by (with_reducible repeat (first|apply zi|apply zj|apply zh));exact HO543.out) (zp ho0) hb);have n8_:=zA (zq (zs (zs (zs (zs (zs (zs (Kd.R_newM (M:=fun k_=>(w.heap.size≤k_)) ho0 (zZ (by repeat (first|(with_reducible first|exact HB.out|apply zD|apply zB|apply zC|refine zI ?_ GE532.out)|exact HB.out))) (fun k_ h_=>h_)) (Kd.R_lt (by (with_reducible repeat (first|apply zK|apply zJ|apply zL));exact HO_6.out))) (Kd.R_lt (by (with_reducible repeat (first|apply zK|apply zJ|apply zL));exact HO_7.out))) (Kd.R_lt (by (with_reducible repeat (first|apply zK|apply zJ|apply zL));exact HO_533000.out))) (Kd.R_lt (by (with_reducible repeat (first|apply zK|apply zJ|apply zL));exact HO_533001.out))) (Kd.R_lt (by (with_reducible repeat (first|apply zK|apply zJ|apply zL));exact HO537.out))) (Kd.R_lt (by (with_reducible repeat (first|apply zK|apply zJ|apply zL));exact HO540.out))) (zZ (by repeat (first|(with_reducible first|exact HB.out|apply zD|apply zB|apply zC|refine zI ?_ GE532.out)|exact HB.out))));have n9_:=zA (zg (g:=gb532) (o:=.cells #[.slice Ao11 x7_1.length co11,.slice Ao12 t526.length co12] 33 (0,0)) (by (with_reducible repeat (first|refine zM ?_ _|refine zO ?_|refine zN ?_ _));exact BK532.out) hb);have n10_:=zA (za (by repeat (first|(with_reducible first|exact HB.out|apply zD|apply zB|apply zC|refine zI ?_ GE532.out)|exact HB.out)) hb);clear HO_5;clear HO_6;clear HO_7;clear HO_533000;clear HO_533001;clear HO537;clear HO540;clear HO543;clear BK532;clear HB;have HO_5:=n0_;have HO_6:=n1_;have HO_7:=n2_;have HO_533000:=n3_;have HO_533001:=n4_;have HO537:=n5_;have HO540:=n6_;have HO543:=n7_;have HO546:=n8_;have BK532:=n9_;have HB:=n10_;clear n0_ n1_ n2_ n3_ n4_ n5_ n6_ n7_ n8_ n9_ n10_;(try clear hb);(try clear hb2);(try clear hk);(try clear hi);(try clear ho0)))
       go_roundg kj9
       case measure=>have:=HK1.out;have:=HJ9.out;omega
       case rel=>exact ⟨(t541),(t544),H',⟨by have:=HK1.out;have:=HJ9.out;omega⟩,⟨by (with_reducible repeat (first|apply zi|apply zj|apply zh));exact Kd.V_mono HO543.out (fun _ hk=>⟨hk.1.1,⟨hk.1.2.1,hk.2⟩⟩)⟩,⟨by (with_reducible repeat (first|apply zK|apply zJ|apply zL));exact ze HO_6.out (fun _ hk=>⟨hk.1.1.1.1,hk.2⟩)⟩,⟨by (with_reducible repeat (first|apply zK|apply zJ|apply zL));exact ze HO546.out (fun _ hk=>⟨hk.1.1.1.1.1.1.1,hk.1.1.1.1.1.2⟩)⟩,⟨by repeat (first|(with_reducible first|exact HB.out|apply zD|apply zB|apply zC|refine zI ?_ GE532.out)|exact HB.out)⟩⟩
      ·replace c24:=Bool.eq_false_iff.mpr c24
       subst c24
       have H1:((spec_l3Next.f kj9 x7_1).bind fun t547=>(spec_l3All.l0 kj9 a1 x5_1 t526 t547)) = some r:=by rw [if_neg (show ¬ (false = true) by decide)] at H;exact H
       clear H
       have H:=H1
       clear H1
       replace H:=zz0 H
       obtain ⟨t547,A350,H⟩:=H
       replace H:(spec_l3All.l0 kj9 a1 x5_1 t526 t547) = some r:=H
       have A35:=zA A350
       clear A350
       have H':=zA H
       clear H
       go_wp2_with (first|((with_reducible refine gate_callee (f:=75) rfl ?_);refine goesL_ (some 19) rfl rfl Try.func75 (by kernel_rfl) rfl #[.slice Ao11 x7_1.length co11] rfl (by (try simp only [zP,zS,zT]);first|done|rfl|(simp only [zR,zQ];rfl)) ?_;(with_reducible refine (spec_l3Next.calls kj9 _ _ x7_1 t547 _ ?side1 ?side2 A35.out).mono ?_);(case side1=>repeat (first|exact (zd HO_7.out).2.2|(with_reducible refine zW ?_ _)|(with_reducible refine zX ?_ _)|(with_reducible refine zY ?_)));(case side2=>exact (zd HO_7.out).2.1);rintro e w36 ⟨v548,rfl,ho0,hb⟩;refine ⟨_,rfl,?_⟩;have n0_:=zA (Kd.V_elder' (by (with_reducible repeat (first|apply zi|apply zj|apply zh));exact HO_5.out) (zp ho0) hb);have n1_:=zA (Kd.R_elder' (by (with_reducible repeat (first|apply zK|apply zJ|apply zL));exact HO_6.out) (zp ho0) hb);have n2_:=zA (Kd.R_elder' (by (with_reducible repeat (first|apply zK|apply zJ|apply zL));exact HO_7.out) (zp ho0) hb);have n3_:=zA (Kd.R_elder' (by (with_reducible repeat (first|apply zK|apply zJ|apply zL));exact HO_533000.out) (zp ho0) hb);have n4_:=zA (Kd.R_elder' (by (with_reducible repeat (first|apply zK|apply zJ|apply zL));exact HO_533001.out) (zp ho0) hb);have n5_:=zA (zq (zs (zs (zs (zs (Kd.R_newM (M:=fun k_=>(w.heap.size≤k_)) ho0 (zZ (by repeat (first|(with_reducible first|exact HB.out|apply zD|apply zB|apply zC|refine zI ?_ GE532.out)|exact HB.out))) (fun k_ h_=>h_)) (Kd.R_lt (by (with_reducible repeat (first|apply zK|apply zJ|apply zL));exact HO_6.out))) (Kd.R_lt (by (with_reducible repeat (first|apply zK|apply zJ|apply zL));exact HO_7.out))) (Kd.R_lt (by (with_reducible repeat (first|apply zK|apply zJ|apply zL));exact HO_533000.out))) (Kd.R_lt (by (with_reducible repeat (first|apply zK|apply zJ|apply zL));exact HO_533001.out))) (zZ (by repeat (first|(with_reducible first|exact HB.out|apply zD|apply zB|apply zC|refine zI ?_ GE532.out)|exact HB.out))));have n6_:=zA (zg (g:=gb532) (o:=.cells #[.slice Ao11 x7_1.length co11,.slice Ao12 t526.length co12] 33 (0,0)) (by (with_reducible repeat (first|refine zM ?_ _|refine zO ?_|refine zN ?_ _));exact BK532.out) hb);have n7_:=zA (za (by repeat (first|(with_reducible first|exact HB.out|apply zD|apply zB|apply zC|refine zI ?_ GE532.out)|exact HB.out)) hb);clear HO_5;clear HO_6;clear HO_7;clear HO_533000;clear HO_533001;clear BK532;clear HB;have HO_5:=n0_;have HO_6:=n1_;have HO_7:=n2_;have HO_533000:=n3_;have HO_533001:=n4_;have HO549:=n5_;have BK532:=n6_;have HB:=n7_;clear n0_ n1_ n2_ n3_ n4_ n5_ n6_ n7_;(try clear hb);(try clear hb2);(try clear hk);(try clear hi);(try clear ho0)))
       go_roundg kj9
       case measure=>have:=HK1.out;have:=HJ9.out;omega
       case rel=>exact ⟨(x5_1),(t547),H',⟨by have:=HK1.out;have:=HJ9.out;omega⟩,⟨by (with_reducible repeat (first|apply zi|apply zj|apply zh));exact Kd.V_mono HO_5.out (fun _ hk=>⟨hk.1.1,⟨hk.1.2.1,hk.2⟩⟩)⟩,⟨by (with_reducible repeat (first|apply zK|apply zJ|apply zL));exact ze HO_6.out (fun _ hk=>⟨hk.1.1,hk.2⟩)⟩,⟨by (with_reducible repeat (first|apply zK|apply zJ|apply zL));exact ze HO549.out (fun _ hk=>⟨hk.1.1.1.1.1,hk.1.1.1.2⟩)⟩,⟨by repeat (first|(with_reducible first|exact HB.out|apply zD|apply zB|apply zC|refine zI ?_ GE532.out)|exact HB.out)⟩⟩
   ·rw [if_neg c9] at H
    have c9b0:decide (0 < (x7_1.length:Int)) = false:=zV c9
    have c9b1:decide (0 < x7_1.length) = false:=zV (by omega)
    clear c9
    obtain rfl:=zb H
    obtain ⟨Ao37,co37,eo37⟩:=zr HO_7.out
    subst eo37
    go_wp2
    go_ret
    exact ⟨_,by first|rfl|(simp [errW_none,errW_some] <;> rfl)|(simp [*,errW_none,errW_some] <;> rfl),by (with_reducible repeat (first|apply zi|apply zj|apply zh));exact Kd.V_mono HO_5.out (fun _ hk=>hk.1),by repeat (first|(with_reducible first|exact HB.out|apply zD|apply zB|apply zC)|exact HB.out)⟩

/-! ### spec_l2Least: function 65 -/
def spec_l2Least.l0:Nat→Int→List Int→List Int→List Int→List Int→Option (List Int × List Int)
 | 0,_,_,_,_,_=>none
 | k+1,x4,x551000,x551001,x559000,x559001=>if x4 < (x551000.length:Int) then ((spec_l2Form.f k x551000 x551001 x4).bind fun bt559=>((spec_l2Before.f k bt559.1 bt559.2 x559000 x559001).bind fun t566=>(if t566 < 0 then (spec_l2Least.l0 k (wrap64 (x4+1)) x551000 x551001 bt559.1 bt559.2) else (spec_l2Least.l0 k (wrap64 (x4+1)) x551000 x551001 x559000 x559001)))) else (some (x559000,x559001))
def spec_l2Least.f (k:Nat) (l0_0:List Int) (l0_1:List Int):Option (List Int × List Int):=(spec_l2Form.f k l0_0 l0_1 0).bind fun bt552=>(spec_l2Least.l0 k 1 l0_0 l0_1 bt552.1 bt552.2)
theorem spec_l2Least.mono_l:∀ k,(∀ y0 y1 y2 y3 y4,LeO (spec_l2Least.l0 k y0 y1 y2 y3 y4) (spec_l2Least.l0 (k+1) y0 y1 y2 y3 y4))
 | 0=>fun _ _ _ _ _ r h=>by simp [spec_l2Least.l0] at h
 | k+1=>by
  have ih0:=spec_l2Least.mono_l k
  ·intro y0 y1 y2 y3 y4
   unfold spec_l2Least.l0
   repeat' first
   | (with_reducible exact ih0 _ _ _ _ _)
   | (with_reducible exact spec_l2Before.mono _ _ _ _ _)
   | (with_reducible exact spec_l2Form.mono _ _ _ _)
   | (with_reducible exact LeO.refl _)
   | (with_reducible exact zm _)
   | (with_reducible refine zo ?_ ?_)
   | (with_reducible refine zn ?_ (fun _=>?_))
   | exact ih0 _ _ _ _ _
   | exact spec_l2Before.mono _ _ _ _ _
   | exact spec_l2Form.mono _ _ _ _
   | exact zm _
   | refine zo ?_ ?_
   | refine zn ?_ (fun _=>?_)
theorem spec_l2Least.mono:∀ a0 a1 k,LeO (spec_l2Least.f k a0 a1) (spec_l2Least.f (k+1) a0 a1):=by
 intro a0 a1 k
 have ih0:=spec_l2Least.mono_l k
 unfold spec_l2Least.f
 repeat' first
   | (with_reducible exact ih0 _ _ _ _ _)
   | (with_reducible exact spec_l2Before.mono _ _ _ _ _)
   | (with_reducible exact spec_l2Form.mono _ _ _ _)
   | (with_reducible exact LeO.refl _)
   | (with_reducible exact zm _)
   | (with_reducible refine zo ?_ ?_)
   | (with_reducible refine zn ?_ (fun _=>?_))
   | exact ih0 _ _ _ _ _
   | exact spec_l2Before.mono _ _ _ _ _
   | exact spec_l2Form.mono _ _ _ _
   | exact zm _
   | refine zo ?_ ?_
   | refine zn ?_ (fun _=>?_)
set_option maxHeartbeats 8000000 in
set_option maxRecDepth 100000 in
theorem spec_l2Least.calls (k:Nat) (A0_0:Option Addr) (c0_0:Nat) (l0_0:List Int) (A0_1:Option Addr) (c0_1:Nat) (l0_1:List Int) (r1:List Int) (r2:List Int) (w:World) (hr0_0:Kd.C (Kd.int .i64) w A0_0 l0_0.length l0_0) (hc0_0:l0_0.length≤c0_0) (hr0_1:Kd.C (Kd.int .i64) w A0_1 l0_1.length l0_1) (hc0_1:l0_1.length≤c0_1) (h:spec_l2Least.f k l0_0 l0_1 = some (r1,r2)) :
  Calls Try.prog 65 #[.agg #[.slice A0_0 l0_0.length c0_0,.slice A0_1 l0_1.length c0_1]] w fun e w' => ∃ v0_ v1_:Value,e = .returned (.agg #[v0_,v1_])∧Kd.R (Kd.int .i64) 3 w' w.heap.size (fun k_=>some k_≠(v1_:Value).ownBlock) v0_ r1∧Kd.R (Kd.int .i64) 3 w' w.heap.size (fun k_=>some k_≠(v0_:Value).ownBlock) v1_ r2∧Below w.heap.size w w':=by
 have hu33:=Try.underlying33
 have HR0_0:=zA hr0_0
 have HC0_0:=zA hc0_0
 clear hr0_0 hc0_0
 have HR0_1:=zA hr0_1
 have HC0_1:=zA hc0_1
 clear hr0_1 hc0_1
 have HB:=zA (Below.refl w.heap.size w)
 have H:((spec_l2Form.f k l0_0 l0_1 0).bind fun bt552=>(spec_l2Least.l0 k 1 l0_0 l0_1 bt552.1 bt552.2)) = some (r1,r2):=h
 clear h
 replace H:=zz0 H
 obtain ⟨⟨t552,t555⟩,A20,H⟩:=H
 replace H:(spec_l2Least.l0 k 1 l0_0 l0_1 t552 t555) = some (r1,r2):=H
 have A2:=zA A20
 clear A20
 have H':=zA H
 clear H
 go_enter Try.func65,Try.ntmps65
 go_wp2_with (first|((with_reducible refine gate_dst (N:=1) rfl ?_);refine box_event ?hg (N:=1) ?hd (cs:=#[.slice A0_0 l0_0.length c0_0,.slice A0_1 l0_1.length c0_1]) (t:=33) ?hr ?_;(case hd=>rfl);(case hg=>rfl);(case hr=>first|(go_simp;done)|(go_simp;rfl));intro gb550 hg w3 hbox hb;have n0_:=zA (za (by repeat (first|(with_reducible first|exact HB.out|apply zD|apply zB|apply zC)|exact HB.out)) hb);have n1_:=zA (hbox);have n2_:=zA ((by rw [hg];exact (zZ (by repeat (first|(with_reducible first|exact HB.out|apply zD|apply zB|apply zC)|exact HB.out))):w.heap.size≤gb550));have n3_:=zA ((by rw [hg];exact (zZ (by repeat (first|(with_reducible first|exact HB.out|apply zD|apply zB|apply zC)|exact HB.out))):w.heap.size≤gb550));clear HB;have HB:=n0_;have BK550:=n1_;have GW550:=n2_;have GE550:=n3_;clear n0_ n1_ n2_ n3_;clear hb hbox hg)|((with_reducible refine gate_dst (N:=2) rfl ?_);refine box_event ?hg (N:=2) ?hd (cs:=#[.slice none 0 0,.slice none 0 0]) (t:=33) ?hr ?_;(case hd=>rfl);(case hg=>rfl);(case hr=>first|(go_simp;done)|(go_simp;rfl));intro gb551 hg w4 hbox hb;have n0_:=zA (zg (g:=gb550) (o:=.cells #[.slice A0_0 l0_0.length c0_0,.slice A0_1 l0_1.length c0_1] 33 (0,0)) (by (with_reducible repeat (first|refine zM ?_ _|refine zO ?_|refine zN ?_ _));exact BK550.out) hb);have n1_:=zA (za (by repeat (first|(with_reducible first|exact HB.out|apply zD|apply zB|apply zC|refine zI ?_ GE550.out)|exact HB.out)) hb);have n2_:=zA (hbox);have n3_:=zA ((by rw [hg];exact (zZ (by repeat (first|(with_reducible first|exact HB.out|apply zD|apply zB|apply zC|refine zI ?_ GE550.out)|exact HB.out))):w.heap.size≤gb551));have n4_:=zA ((by rw [hg];exact (zZ (by repeat (first|(with_reducible first|exact HB.out|apply zD|apply zB|apply zC|refine zI ?_ GE550.out)|exact HB.out))):w.heap.size≤gb551));have n5_:=zA ((by rw [hg];exact Nat.ne_of_lt (blk_lt (g:=gb550) (o:=.cells #[.slice A0_0 l0_0.length c0_0,.slice A0_1 l0_1.length c0_1] 33 (0,0)) (by (with_reducible repeat (first|refine zM ?_ _|refine zO ?_|refine zN ?_ _));exact BK550.out)):gb550≠gb551));have n6_:=zA ((by rw [hg];exact Nat.ne_of_gt (blk_lt (g:=gb550) (o:=.cells #[.slice A0_0 l0_0.length c0_0,.slice A0_1 l0_1.length c0_1] 33 (0,0)) (by (with_reducible repeat (first|refine zM ?_ _|refine zO ?_|refine zN ?_ _));exact BK550.out)):gb551≠gb550));clear BK550;clear HB;have BK550:=n0_;have HB:=n1_;have BK551:=n2_;have GW551:=n3_;have GE551:=n4_;have NB550_551:=n5_;have NB551_550:=n6_;clear n0_ n1_ n2_ n3_ n4_ n5_ n6_;clear hb hbox hg;have hnb5:=NB550_551.out;have hnc5:=NB551_550.out;have hcz6_0:w4.cell? ⟨gb550,0,none⟩ = some (.slice A0_0 l0_0.length c0_0):=(zc BK550.out 0).trans rfl;have hcz6_1:w4.cell? ⟨gb550,1,none⟩ = some (.slice A0_1 l0_1.length c0_1):=(zc BK550.out 1).trans rfl;have hfz6_0:=zl BK550.out 0;have hfz6_1:=zl BK550.out 1)|((with_reducible refine gate_callee (f:=78) rfl ?_);refine goesL_ (some 7) rfl rfl Try.func78 (by kernel_rfl) rfl #[.agg #[.slice A0_0 l0_0.length c0_0,.slice A0_1 l0_1.length c0_1],.int .i64 0] rfl (by (try simp only [zP,zS,zT]);first|done|rfl|(simp only [zR,zQ];rfl)) ?_;(with_reducible refine (spec_l2Form.calls k _ _ l0_0 _ _ l0_1 0 t552 t555 _ ?side1 ?side2 ?side3 ?side4 A2.out).mono ?_);(case side1=>repeat (first|exact (zf HR0_0.out HB.out)|(with_reducible exact HR0_0.out)|(with_reducible refine zW ?_ _)|(with_reducible refine zX ?_ _)|(with_reducible refine zY ?_)));(case side2=>exact HC0_0.out);(case side3=>repeat (first|exact (zf HR0_1.out HB.out)|(with_reducible exact HR0_1.out)|(with_reducible refine zW ?_ _)|(with_reducible refine zX ?_ _)|(with_reducible refine zY ?_)));(case side4=>exact HC0_1.out);rintro e w7 ⟨v553,v556,rfl,ho0,ho1,hb⟩;refine ⟨_,rfl,?_⟩;have n0_:=zA (zq ho0 (zZ (by repeat (first|(with_reducible first|exact HB.out|apply zD|apply zB|apply zC|refine zI ?_ GE550.out|refine zI ?_ GE551.out)|exact HB.out))));have n1_:=zA (zq ho1 (zZ (by repeat (first|(with_reducible first|exact HB.out|apply zD|apply zB|apply zC|refine zI ?_ GE550.out|refine zI ?_ GE551.out)|exact HB.out))));have n2_:=zA (zg (g:=gb550) (o:=.cells #[.slice A0_0 l0_0.length c0_0,.slice A0_1 l0_1.length c0_1] 33 (0,0)) (by (with_reducible repeat (first|refine zM ?_ _|refine zO ?_|refine zN ?_ _));exact BK550.out) hb);have n3_:=zA (zg (g:=gb551) (o:=.cells #[.slice none 0 0,.slice none 0 0] 33 (0,0)) (by (with_reducible repeat (first|refine zM ?_ _|refine zO ?_|refine zN ?_ _));exact BK551.out) hb);have n4_:=zA (za (by repeat (first|(with_reducible first|exact HB.out|apply zD|apply zB|apply zC|refine zI ?_ GE550.out|refine zI ?_ GE551.out)|exact HB.out)) hb);clear BK550;clear BK551;clear HB;have HO554:=n0_;have HO557:=n1_;have BK550:=n2_;have BK551:=n3_;have HB:=n4_;clear n0_ n1_ n2_ n3_ n4_;(try clear hb);(try clear hb2);(try clear hk);(try clear hi);(try clear ho0);(try clear ho1))|((with_reducible refine gate_dst (N:=3) rfl ?_);refine box_event ?hg (N:=3) ?hd (cs:=#[.slice none 0 0,.slice none 0 0]) (t:=33) ?hr ?_;(case hd=>rfl);(case hg=>rfl);(case hr=>first|(go_simp;done)|(go_simp;rfl));intro gb558 hg w8 hbox hb;have n0_:=zA (zu (by (with_reducible repeat (first|apply zK|apply zJ|apply zL));exact HO554.out) hb);have n1_:=zA (zu (by (with_reducible repeat (first|apply zK|apply zJ|apply zL));exact HO557.out) hb);have n2_:=zA (zg (g:=gb550) (o:=.cells #[.slice A0_0 l0_0.length c0_0,.slice A0_1 l0_1.length c0_1] 33 (0,0)) (by (with_reducible repeat (first|refine zM ?_ _|refine zO ?_|refine zN ?_ _));exact BK550.out) hb);have n3_:=zA (zg (g:=gb551) (o:=.cells #[.slice none 0 0,.slice none 0 0] 33 (0,0)) (by (with_reducible repeat (first|refine zM ?_ _|refine zO ?_|refine zN ?_ _));exact BK551.out) hb);have n4_:=zA (za (by repeat (first|(with_reducible first|exact HB.out|apply zD|apply zB|apply zC|refine zI ?_ GE550.out|refine zI ?_ GE551.out)|exact HB.out)) hb);have n5_:=zA (hbox);have n6_:=zA ((by rw [hg];exact (zZ (by repeat (first|(with_reducible first|exact HB.out|apply zD|apply zB|apply zC|refine zI ?_ GE550.out|refine zI ?_ GE551.out)|exact HB.out))):w.heap.size≤gb558));have n7_:=zA ((by rw [hg];exact (zZ (by repeat (first|(with_reducible first|exact HB.out|apply zD|apply zB|apply zC|refine zI ?_ GE550.out|refine zI ?_ GE551.out)|exact HB.out))):w.heap.size≤gb558));have n8_:=zA ((by rw [hg];exact Nat.ne_of_lt (blk_lt (g:=gb550) (o:=.cells #[.slice A0_0 l0_0.length c0_0,.slice A0_1 l0_1.length c0_1] 33 (0,0)) (by (with_reducible repeat (first|refine zM ?_ _|refine zO ?_|refine zN ?_ _));exact BK550.out)):gb550≠gb558));have n9_:=zA ((by rw [hg];exact Nat.ne_of_gt (blk_lt (g:=gb550) (o:=.cells #[.slice A0_0 l0_0.length c0_0,.slice A0_1 l0_1.length c0_1] 33 (0,0)) (by (with_reducible repeat (first|refine zM ?_ _|refine zO ?_|refine zN ?_ _));exact BK550.out)):gb558≠gb550));have n10_:=zA ((by rw [hg];exact Nat.ne_of_lt (blk_lt (g:=gb551) (o:=.cells #[.slice none 0 0,.slice none 0 0] 33 (0,0)) (by (with_reducible repeat (first|refine zM ?_ _|refine zO ?_|refine zN ?_ _));exact BK551.out)):gb551≠gb558));have n11_:=zA ((by rw [hg];exact Nat.ne_of_gt (blk_lt (g:=gb551) (o:=.cells #[.slice none 0 0,.slice none 0 0] 33 (0,0)) (by (with_reducible repeat (first|refine zM ?_ _|refine zO ?_|refine zN ?_ _));exact BK551.out)):gb558≠gb551));clear HO554;clear HO557;clear BK550;clear BK551;clear HB;have HO554:=n0_;have HO557:=n1_;have BK550:=n2_;have BK551:=n3_;have HB:=n4_;have BK558:=n5_;have GW558:=n6_;have GE558:=n7_;have NB550_558:=n8_;have NB558_550:=n9_;have NB551_558:=n10_;have NB558_551:=n11_;clear n0_ n1_ n2_ n3_ n4_ n5_ n6_ n7_ n8_ n9_ n10_ n11_;clear hb hbox hg;obtain ⟨Ao9,co9,eo9⟩:=zr HO554.out;subst eo9;have hnb10:=NB558_550.out;have hnc10:=NB550_558.out;have hnb11:=NB558_551.out;have hnc11:=NB551_558.out;have hcz12_0:w8.cell? ⟨gb558,0,none⟩ = some (.slice none 0 0):=(zc BK558.out 0).trans rfl;have hcz12_1:w8.cell? ⟨gb558,1,none⟩ = some (.slice none 0 0):=(zc BK558.out 1).trans rfl;have hfz12_0:=zl BK558.out 0;have hfz12_1:=zl BK558.out 1;obtain ⟨Ao13,co13,eo13⟩:=zr HO557.out;subst eo13))
 go_loopg [4] k (fun kq v4 w' => ∃ (x4_1:Int) (x559000_1:List Int) (x559001_1:List Int) (u559000:Value) (u559001:Value),v4 = .int .i64 x4_1∧Aside0 (spec_l2Least.l0 kq x4_1 l0_0 l0_1 x559000_1 x559001_1 = some (r1,r2))∧Aside0 (kq≤k)∧Aside0 (Kd.R (Kd.int .i64) 3 w' w.heap.size (fun k_=>some k_≠(u559001:Value).ownBlock) u559000 x559000_1)∧Aside0 (Kd.R (Kd.int .i64) 3 w' w.heap.size (fun k_=>some k_≠(u559000:Value).ownBlock) u559001 x559001_1)∧Aside0 (w'.heap[gb550]? = some (.cells #[(.slice A0_0 l0_0.length c0_0),(.slice A0_1 l0_1.length c0_1)] 33 (0,0)))∧Aside0 (w'.heap[gb551]? = some (.cells #[(.slice none 0 0),(.slice none 0 0)] 33 (0,0)))∧Aside0 (w'.heap[gb558]? = some (.cells #[u559000,u559001] 33 (0,0)))∧Aside0 (Below w.heap.size w w'))
 case atStart=>exact ⟨(1),(t552),(t555),(.slice Ao9 t552.length co9),(.slice Ao13 t555.length co13),(by first|rfl|(simp;done)|(simp [*];done)),H',⟨Nat.le_refl _⟩,⟨by (with_reducible repeat (first|apply zK|apply zJ|apply zL));exact ze (zt (p:=⟨gb558,1,none⟩) (zt (p:=⟨gb558,0,none⟩) (Kd.R_types HO554.out BK558.out (by decide)) (fun _ hk=>hk.2) (.slice Ao9 t552.length co9)) (fun _ hk=>hk.2) (.slice Ao13 t555.length co13)) (fun _ hk=>hk.1)⟩,⟨by (with_reducible repeat (first|apply zK|apply zJ|apply zL));exact ze (zt (p:=⟨gb558,1,none⟩) (zt (p:=⟨gb558,0,none⟩) (Kd.R_types HO557.out BK558.out (by decide)) (fun _ hk=>hk.2) (.slice Ao9 t552.length co9)) (fun _ hk=>hk.2) (.slice Ao13 t555.length co13)) (fun _ hk=>hk.1)⟩,⟨by (with_reducible repeat (first|refine zM ?_ _|refine zO ?_|refine zN ?_ _));refine blk_far ?_ NB550_558.out _;(with_reducible repeat (first|refine zM ?_ _|refine zO ?_|refine zN ?_ _));refine blk_far ?_ NB550_558.out _;(with_reducible repeat (first|refine zM ?_ _|refine zO ?_|refine zN ?_ _));exact BK550.out⟩,⟨by (with_reducible repeat (first|refine zM ?_ _|refine zO ?_|refine zN ?_ _));refine blk_far ?_ NB551_558.out _;(with_reducible repeat (first|refine zM ?_ _|refine zO ?_|refine zN ?_ _));refine blk_far ?_ NB551_558.out _;(with_reducible repeat (first|refine zM ?_ _|refine zO ?_|refine zN ?_ _));exact BK551.out⟩,⟨by (with_reducible repeat (first|refine zM ?_ _|refine zO ?_|refine zN ?_ _));refine blk_put (cs:=#[.slice Ao9 t552.length co9,.slice none 0 0]) ?_ 1 _ rfl;(with_reducible repeat (first|refine zM ?_ _|refine zO ?_|refine zN ?_ _));refine blk_put (cs:=#[.slice none 0 0,.slice none 0 0]) ?_ 0 _ rfl;(with_reducible repeat (first|refine zM ?_ _|refine zO ?_|refine zN ?_ _));exact BK558.out⟩,⟨by repeat (first|(with_reducible first|exact HB.out|apply zD|apply zB|apply zC|refine zI ?_ GE550.out|refine zI ?_ GE551.out|refine zI ?_ GE558.out)|exact HB.out)⟩⟩
 case round =>
  clear H'
  try clear c1
  try clear p2
  try clear c5
  try clear c6
  try clear c7
  try clear c10
  try clear c11
  try clear hcz12_0
  try clear hcz12_1
  try clear hcz6_0
  try clear hcz6_1
  try clear hfz12_0
  try clear hfz12_1
  try clear hfz6_0
  try clear hfz6_1
  obtain ⟨x4_1,x559000_1,x559001_1,u559000,u559001,rfl,HA,HK1,HO_559000,HO_559001,BK550,BK551,BK558,HB⟩:=hrel
  cases gk with
  | zero=>exact absurd HA.out (by simp [spec_l2Least.l0])
  | succ k1 =>
   have H:=HA.out
   clear HA
   simp only [spec_l2Least.l0] at H
   by_cases c14:x4_1 < (l0_0.length:Int)
   ·rw [if_pos c14] at H
    have c14b0:decide (x4_1 < (l0_0.length:Int)) = true:=zU c14
    clear c14
    replace H:=zz0 H
    obtain ⟨⟨t559,t562⟩,A150,H⟩:=H
    replace H:((spec_l2Before.f k1 t559 t562 x559000_1 x559001_1).bind fun t566=>(if t566 < 0 then (spec_l2Least.l0 k1 (wrap64 (x4_1+1)) l0_0 l0_1 t559 t562) else (spec_l2Least.l0 k1 (wrap64 (x4_1+1)) l0_0 l0_1 x559000_1 x559001_1))) = some (r1,r2):=H
    have A15:=zA A150
    clear A150
    replace H:=zz0 H
    obtain ⟨t566,A160,H⟩:=H
    replace H:(if t566 < 0 then (spec_l2Least.l0 k1 (wrap64 (x4_1+1)) l0_0 l0_1 t559 t562) else (spec_l2Least.l0 k1 (wrap64 (x4_1+1)) l0_0 l0_1 x559000_1 x559001_1)) = some (r1,r2):=H
    have A16:=zA A160
    clear A160
    by_cases c17:t566 < 0
    ·rw [if_pos c17] at H
     have c17b0:decide (t566 < 0) = true:=zU c17
     clear c17
     have H':=zA H
     clear H
     have hnb18:=NB550_551.out
     have hnc18:=NB551_550.out
     have hnb19:=NB550_558.out
     have hnc19:=NB558_550.out
     have hcz20_0:wr.cell? ⟨gb550,0,none⟩ = some (.slice A0_0 l0_0.length c0_0):=(zc BK550.out 0).trans rfl
     have hcz20_1:wr.cell? ⟨gb550,1,none⟩ = some (.slice A0_1 l0_1.length c0_1):=(zc BK550.out 1).trans rfl
     have hfz20_0:=zl BK550.out 0
     have hfz20_1:=zl BK550.out 1
     go_wp2_with (first|((with_reducible refine gate_callee (f:=78) rfl ?_);refine goesL_ (some 17) rfl rfl Try.func78 (by kernel_rfl) rfl #[.agg #[.slice A0_0 l0_0.length c0_0,.slice A0_1 l0_1.length c0_1],.int .i64 x4_1] rfl (by (try simp only [zP,zS,zT]);first|done|rfl|(simp only [zR,zQ];rfl)) ?_;(with_reducible refine (spec_l2Form.calls k1 _ _ l0_0 _ _ l0_1 x4_1 t559 t562 _ ?side1 ?side2 ?side3 ?side4 A15.out).mono ?_);(case side1=>repeat (first|exact (zf HR0_0.out HB.out)|(with_reducible exact HR0_0.out)|(with_reducible refine zW ?_ _)|(with_reducible refine zX ?_ _)|(with_reducible refine zY ?_)));(case side2=>exact HC0_0.out);(case side3=>repeat (first|exact (zf HR0_1.out HB.out)|(with_reducible exact HR0_1.out)|(with_reducible refine zW ?_ _)|(with_reducible refine zX ?_ _)|(with_reducible refine zY ?_)));(case side4=>exact HC0_1.out);rintro e w21 ⟨v560,v563,rfl,ho0,ho1,hb⟩;refine ⟨_,rfl,?_⟩;have n0_:=zA (ze (Kd.R_told (Kd.R_told (Kd.R_old (by (with_reducible repeat (first|apply zK|apply zJ|apply zL));exact HO_559000.out) hb) (zp ho0)) (zp ho1)) (fun _ h_=>h_.1));have n1_:=zA (ze (Kd.R_told (Kd.R_told (Kd.R_old (by (with_reducible repeat (first|apply zK|apply zJ|apply zL));exact HO_559001.out) hb) (zp ho0)) (zp ho1)) (fun _ h_=>h_.1));have n2_:=zA (zq (zs (zs ho0 (Kd.R_lt (by (with_reducible repeat (first|apply zK|apply zJ|apply zL));exact HO_559000.out))) (Kd.R_lt (by (with_reducible repeat (first|apply zK|apply zJ|apply zL));exact HO_559001.out))) (zZ (by repeat (first|(with_reducible first|exact HB.out|apply zD|apply zB|apply zC|refine zI ?_ GE550.out|refine zI ?_ GE551.out|refine zI ?_ GE558.out)|exact HB.out))));have n3_:=zA (zq (zs (zs ho1 (Kd.R_lt (by (with_reducible repeat (first|apply zK|apply zJ|apply zL));exact HO_559000.out))) (Kd.R_lt (by (with_reducible repeat (first|apply zK|apply zJ|apply zL));exact HO_559001.out))) (zZ (by repeat (first|(with_reducible first|exact HB.out|apply zD|apply zB|apply zC|refine zI ?_ GE550.out|refine zI ?_ GE551.out|refine zI ?_ GE558.out)|exact HB.out))));have n4_:=zA (zg (g:=gb550) (o:=.cells #[.slice A0_0 l0_0.length c0_0,.slice A0_1 l0_1.length c0_1] 33 (0,0)) (by (with_reducible repeat (first|refine zM ?_ _|refine zO ?_|refine zN ?_ _));exact BK550.out) hb);have n5_:=zA (zg (g:=gb551) (o:=.cells #[.slice none 0 0,.slice none 0 0] 33 (0,0)) (by (with_reducible repeat (first|refine zM ?_ _|refine zO ?_|refine zN ?_ _));exact BK551.out) hb);have n6_:=zA (zg (g:=gb558) (o:=.cells #[u559000,u559001] 33 (0,0)) (by (with_reducible repeat (first|refine zM ?_ _|refine zO ?_|refine zN ?_ _));exact BK558.out) hb);have n7_:=zA (za (by repeat (first|(with_reducible first|exact HB.out|apply zD|apply zB|apply zC|refine zI ?_ GE550.out|refine zI ?_ GE551.out|refine zI ?_ GE558.out)|exact HB.out)) hb);clear HO_559000;clear HO_559001;clear BK550;clear BK551;clear BK558;clear HB;have HO_559000:=n0_;have HO_559001:=n1_;have HO561:=n2_;have HO564:=n3_;have BK550:=n4_;have BK551:=n5_;have BK558:=n6_;have HB:=n7_;clear n0_ n1_ n2_ n3_ n4_ n5_ n6_ n7_;(try clear hb);(try clear hb2);(try clear hk);(try clear hi);(try clear ho0);(try clear ho1))|((with_reducible refine gate_dst (N:=5) rfl ?_);refine box_event ?hg (N:=5) ?hd (cs:=#[.slice none 0 0,.slice none 0 0]) (t:=33) ?hr ?_;(case hd=>rfl);(case hg=>rfl);(case hr=>first|(go_simp;done)|(go_simp;rfl));intro gb565 hg w22 hbox hb;have n0_:=zA (zu (by (with_reducible repeat (first|apply zK|apply zJ|apply zL));exact HO_559000.out) hb);have n1_:=zA (zu (by (with_reducible repeat (first|apply zK|apply zJ|apply zL));exact HO_559001.out) hb);have n2_:=zA (zu (by (with_reducible repeat (first|apply zK|apply zJ|apply zL));exact HO561.out) hb);have n3_:=zA (zu (by (with_reducible repeat (first|apply zK|apply zJ|apply zL));exact HO564.out) hb);have n4_:=zA (zg (g:=gb550) (o:=.cells #[.slice A0_0 l0_0.length c0_0,.slice A0_1 l0_1.length c0_1] 33 (0,0)) (by (with_reducible repeat (first|refine zM ?_ _|refine zO ?_|refine zN ?_ _));exact BK550.out) hb);have n5_:=zA (zg (g:=gb551) (o:=.cells #[.slice none 0 0,.slice none 0 0] 33 (0,0)) (by (with_reducible repeat (first|refine zM ?_ _|refine zO ?_|refine zN ?_ _));exact BK551.out) hb);have n6_:=zA (zg (g:=gb558) (o:=.cells #[u559000,u559001] 33 (0,0)) (by (with_reducible repeat (first|refine zM ?_ _|refine zO ?_|refine zN ?_ _));exact BK558.out) hb);have n7_:=zA (za (by repeat (first|(with_reducible first|exact HB.out|apply zD|apply zB|apply zC|refine zI ?_ GE550.out|refine zI ?_ GE551.out|refine zI ?_ GE558.out)|exact HB.out)) hb);have n8_:=zA (hbox);have n9_:=zA ((by rw [hg];exact (zZ (by repeat (first|(with_reducible first|exact HB.out|apply zD|apply zB|apply zC|refine zI ?_ GE550.out|refine zI ?_ GE551.out|refine zI ?_ GE558.out)|exact HB.out))):w.heap.size≤gb565));have n10_:=zA ((by rw [hg];exact (zZ (by repeat (first|(with_reducible first|exact HB.out|apply zD|apply zB|apply zC|refine zI ?_ GE550.out|refine zI ?_ GE551.out|refine zI ?_ GE558.out)|exact HB.out))):w.heap.size≤gb565));have n11_:=zA ((by rw [hg];exact Nat.ne_of_lt (blk_lt (g:=gb550) (o:=.cells #[.slice A0_0 l0_0.length c0_0,.slice A0_1 l0_1.length c0_1] 33 (0,0)) (by (with_reducible repeat (first|refine zM ?_ _|refine zO ?_|refine zN ?_ _));exact BK550.out)):gb550≠gb565));have n12_:=zA ((by rw [hg];exact Nat.ne_of_gt (blk_lt (g:=gb550) (o:=.cells #[.slice A0_0 l0_0.length c0_0,.slice A0_1 l0_1.length c0_1] 33 (0,0)) (by (with_reducible repeat (first|refine zM ?_ _|refine zO ?_|refine zN ?_ _));exact BK550.out)):gb565≠gb550));have n13_:=zA ((by rw [hg];exact Nat.ne_of_lt (blk_lt (g:=gb551) (o:=.cells #[.slice none 0 0,.slice none 0 0] 33 (0,0)) (by (with_reducible repeat (first|refine zM ?_ _|refine zO ?_|refine zN ?_ _));exact BK551.out)):gb551≠gb565));have n14_:=zA ((by rw [hg];exact Nat.ne_of_gt (blk_lt (g:=gb551) (o:=.cells #[.slice none 0 0,.slice none 0 0] 33 (0,0)) (by (with_reducible repeat (first|refine zM ?_ _|refine zO ?_|refine zN ?_ _));exact BK551.out)):gb565≠gb551));have n15_:=zA ((by rw [hg];exact Nat.ne_of_lt (blk_lt (g:=gb558) (o:=.cells #[u559000,u559001] 33 (0,0)) (by (with_reducible repeat (first|refine zM ?_ _|refine zO ?_|refine zN ?_ _));exact BK558.out)):gb558≠gb565));have n16_:=zA ((by rw [hg];exact Nat.ne_of_gt (blk_lt (g:=gb558) (o:=.cells #[u559000,u559001] 33 (0,0)) (by (with_reducible repeat (first|refine zM ?_ _|refine zO ?_|refine zN ?_ _));exact BK558.out)):gb565≠gb558));clear HO_559000;clear HO_559001;clear HO561;clear HO564;clear BK550;clear BK551;clear BK558;clear HB;have HO_559000:=n0_;have HO_559001:=n1_;have HO561:=n2_;have HO564:=n3_;have BK550:=n4_;have BK551:=n5_;have BK558:=n6_;have HB:=n7_;have BK565:=n8_;have GW565:=n9_;have GE565:=n10_;have NB550_565:=n11_;have NB565_550:=n12_;have NB551_565:=n13_;have NB565_551:=n14_;have NB558_565:=n15_;have NB565_558:=n16_;clear n0_ n1_ n2_ n3_ n4_ n5_ n6_ n7_ n8_ n9_ n10_ n11_ n12_ n13_ n14_ n15_ n16_;clear hb hbox hg;obtain ⟨Ao23,co23,eo23⟩:=zr HO561.out;subst eo23;have hnb24:=NB565_550.out;have hnc24:=NB550_565.out;have hnb25:=NB565_551.out;have hnc25:=NB551_565.out;have hnb26:=NB565_558.out;have hnc26:=NB558_565.out;have hcz27_0:w22.cell? ⟨gb565,0,none⟩ = some (.slice none 0 0):=(zc BK565.out 0).trans rfl;have hcz27_1:w22.cell? ⟨gb565,1,none⟩ = some (.slice none 0 0):=(zc BK565.out 1).trans rfl;have hfz27_0:=zl BK565.out 0;have hfz27_1:=zl BK565.out 1;obtain ⟨Ao28,co28,eo28⟩:=zr HO564.out;subst eo28;have hnb29:=NB558_551.out;have hnc29:=NB551_558.out;have hcz30_0:w22.cell? ⟨gb558,0,none⟩ = some (u559000):=(zc BK558.out 0).trans rfl;have hcz30_1:w22.cell? ⟨gb558,1,none⟩ = some (u559001):=(zc BK558.out 1).trans rfl;have hfz30_0:=zl BK558.out 0;have hfz30_1:=zl BK558.out 1;obtain ⟨Ao31,co31,eo31⟩:=zr HO_559000.out;subst eo31;obtain ⟨Ao32,co32,eo32⟩:=zr HO_559001.out;subst eo32)|((with_reducible refine gate_callee (f:=83) rfl ?_);refine goesL_ (some 20) rfl rfl Try.func83 (by kernel_rfl) rfl #[.agg #[.slice Ao23 t559.length co23,.slice Ao28 t562.length co28],.agg #[.slice Ao31 x559000_1.length co31,.slice Ao32 x559001_1.length co32]] rfl (by (try simp only [zP,zS,zT]);first|done|rfl|(simp only [zR,zQ];rfl)) ?_;(with_reducible refine (spec_l2Before.calls k1 _ _ t559 _ _ t562 _ _ x559000_1 _ _ x559001_1 t566 _ ?side1 ?side2 ?side3 ?side4 ?side5 ?side6 ?side7 ?side8 A16.out).mono ?_);(case side1=>refine (zd (e:=3) (base:=w.heap.size) (ok:=fun k_=>((some k_≠(.slice Ao28 t562.length co28:Value).ownBlock∧some k_≠(.slice Ao31 x559000_1.length co31:Value).ownBlock)∧some k_≠(.slice Ao32 x559001_1.length co32:Value).ownBlock)) (n:=t559.length) (c:=co23) ?_).2.2;exact (by (with_reducible repeat (first|apply zK|apply zJ|apply zL));exact (ze (zt (p:=⟨gb565,1,none⟩) (zt (p:=⟨gb565,0,none⟩) (Kd.R_types HO561.out BK565.out (by decide)) (fun _ hk=>hk.2) (.slice Ao23 t559.length co23)) (fun _ hk=>hk.2) (.slice Ao28 t562.length co28)) (fun _ h_=>h_.1))));(case side2=>exact (zd HO561.out).2.1);(case side3=>refine (zd (e:=3) (base:=w.heap.size) (ok:=fun k_=>((some k_≠(.slice Ao23 t559.length co23:Value).ownBlock∧some k_≠(.slice Ao31 x559000_1.length co31:Value).ownBlock)∧some k_≠(.slice Ao32 x559001_1.length co32:Value).ownBlock)) (n:=t562.length) (c:=co28) ?_).2.2;exact (by (with_reducible repeat (first|apply zK|apply zJ|apply zL));exact (ze (zt (p:=⟨gb565,1,none⟩) (zt (p:=⟨gb565,0,none⟩) (Kd.R_types HO564.out BK565.out (by decide)) (fun _ hk=>hk.2) (.slice Ao23 t559.length co23)) (fun _ hk=>hk.2) (.slice Ao28 t562.length co28)) (fun _ h_=>h_.1))));(case side4=>exact (zd HO564.out).2.1);(case side5=>refine (zd (e:=3) (base:=w.heap.size) (ok:=fun k_=>((some k_≠(.slice Ao32 x559001_1.length co32:Value).ownBlock∧some k_≠(.slice Ao23 t559.length co23:Value).ownBlock)∧some k_≠(.slice Ao28 t562.length co28:Value).ownBlock)) (n:=x559000_1.length) (c:=co31) ?_).2.2;exact (by (with_reducible repeat (first|apply zK|apply zJ|apply zL));exact (ze (zt (p:=⟨gb565,1,none⟩) (zt (p:=⟨gb565,0,none⟩) (Kd.R_types HO_559000.out BK565.out (by decide)) (fun _ hk=>hk.2) (.slice Ao23 t559.length co23)) (fun _ hk=>hk.2) (.slice Ao28 t562.length co28)) (fun _ h_=>h_.1))));(case side6=>exact (zd HO_559000.out).2.1);(case side7=>refine (zd (e:=3) (base:=w.heap.size) (ok:=fun k_=>((some k_≠(.slice Ao31 x559000_1.length co31:Value).ownBlock∧some k_≠(.slice Ao23 t559.length co23:Value).ownBlock)∧some k_≠(.slice Ao28 t562.length co28:Value).ownBlock)) (n:=x559001_1.length) (c:=co32) ?_).2.2;exact (by (with_reducible repeat (first|apply zK|apply zJ|apply zL));exact (ze (zt (p:=⟨gb565,1,none⟩) (zt (p:=⟨gb565,0,none⟩) (Kd.R_types HO_559001.out BK565.out (by decide)) (fun _ hk=>hk.2) (.slice Ao23 t559.length co23)) (fun _ hk=>hk.2) (.slice Ao28 t562.length co28)) (fun _ h_=>h_.1))));(case side8=>exact (zd HO_559001.out).2.1);rintro e w33 ⟨rfl,hb⟩;refine ⟨_,rfl,?_⟩;have n0_:=zA (zu (by (with_reducible repeat (first|apply zK|apply zJ|apply zL));exact (ze (zt (p:=⟨gb565,1,none⟩) (zt (p:=⟨gb565,0,none⟩) (Kd.R_types HO_559000.out BK565.out (by decide)) (fun _ hk=>hk.2) (.slice Ao23 t559.length co23)) (fun _ hk=>hk.2) (.slice Ao28 t562.length co28)) (fun _ h_=>h_.1))) hb);have n1_:=zA (zu (by (with_reducible repeat (first|apply zK|apply zJ|apply zL));exact (ze (zt (p:=⟨gb565,1,none⟩) (zt (p:=⟨gb565,0,none⟩) (Kd.R_types HO_559001.out BK565.out (by decide)) (fun _ hk=>hk.2) (.slice Ao23 t559.length co23)) (fun _ hk=>hk.2) (.slice Ao28 t562.length co28)) (fun _ h_=>h_.1))) hb);have n2_:=zA (zu (by (with_reducible repeat (first|apply zK|apply zJ|apply zL));exact (ze (zt (p:=⟨gb565,1,none⟩) (zt (p:=⟨gb565,0,none⟩) (Kd.R_types HO561.out BK565.out (by decide)) (fun _ hk=>hk.2) (.slice Ao23 t559.length co23)) (fun _ hk=>hk.2) (.slice Ao28 t562.length co28)) (fun _ h_=>h_.1))) hb);have n3_:=zA (zu (by (with_reducible repeat (first|apply zK|apply zJ|apply zL));exact (ze (zt (p:=⟨gb565,1,none⟩) (zt (p:=⟨gb565,0,none⟩) (Kd.R_types HO564.out BK565.out (by decide)) (fun _ hk=>hk.2) (.slice Ao23 t559.length co23)) (fun _ hk=>hk.2) (.slice Ao28 t562.length co28)) (fun _ h_=>h_.1))) hb);have n4_:=zA (zg (g:=gb550) (o:=.cells #[.slice A0_0 l0_0.length c0_0,.slice A0_1 l0_1.length c0_1] 33 (0,0)) (by (with_reducible repeat (first|refine zM ?_ _|refine zO ?_|refine zN ?_ _));refine blk_far ?_ NB550_565.out _;(with_reducible repeat (first|refine zM ?_ _|refine zO ?_|refine zN ?_ _));refine blk_far ?_ NB550_565.out _;(with_reducible repeat (first|refine zM ?_ _|refine zO ?_|refine zN ?_ _));exact BK550.out) hb);have n5_:=zA (zg (g:=gb551) (o:=.cells #[.slice none 0 0,.slice none 0 0] 33 (0,0)) (by (with_reducible repeat (first|refine zM ?_ _|refine zO ?_|refine zN ?_ _));refine blk_far ?_ NB551_565.out _;(with_reducible repeat (first|refine zM ?_ _|refine zO ?_|refine zN ?_ _));refine blk_far ?_ NB551_565.out _;(with_reducible repeat (first|refine zM ?_ _|refine zO ?_|refine zN ?_ _));exact BK551.out) hb);have n6_:=zA (zg (g:=gb558) (o:=.cells #[.slice Ao31 x559000_1.length co31,.slice Ao32 x559001_1.length co32] 33 (0,0)) (by (with_reducible repeat (first|refine zM ?_ _|refine zO ?_|refine zN ?_ _));refine blk_far ?_ NB558_565.out _;(with_reducible repeat (first|refine zM ?_ _|refine zO ?_|refine zN ?_ _));refine blk_far ?_ NB558_565.out _;(with_reducible repeat (first|refine zM ?_ _|refine zO ?_|refine zN ?_ _));exact BK558.out) hb);have n7_:=zA (zg (g:=gb565) (o:=.cells #[.slice Ao23 t559.length co23,.slice Ao28 t562.length co28] 33 (0,0)) (by (with_reducible repeat (first|refine zM ?_ _|refine zO ?_|refine zN ?_ _));refine blk_put (cs:=#[.slice Ao23 t559.length co23,.slice none 0 0]) ?_ 1 _ rfl;(with_reducible repeat (first|refine zM ?_ _|refine zO ?_|refine zN ?_ _));refine blk_put (cs:=#[.slice none 0 0,.slice none 0 0]) ?_ 0 _ rfl;(with_reducible repeat (first|refine zM ?_ _|refine zO ?_|refine zN ?_ _));exact BK565.out) hb);have n8_:=zA (za (by repeat (first|(with_reducible first|exact HB.out|apply zD|apply zB|apply zC|refine zI ?_ GE550.out|refine zI ?_ GE551.out|refine zI ?_ GE558.out|refine zI ?_ GE565.out)|exact HB.out)) hb);clear HO_559000;clear HO_559001;clear HO561;clear HO564;clear BK550;clear BK551;clear BK558;clear BK565;clear HB;have HO_559000:=n0_;have HO_559001:=n1_;have HO561:=n2_;have HO564:=n3_;have BK550:=n4_;have BK551:=n5_;have BK558:=n6_;have BK565:=n7_;have HB:=n8_;clear n0_ n1_ n2_ n3_ n4_ n5_ n6_ n7_ n8_;(try clear hb);(try clear hb2);(try clear hk);(try clear hi);have hcz34_0:w33.cell? ⟨gb565,0,none⟩ = some (.slice Ao23 t559.length co23):=(zc BK565.out 0).trans rfl;have hcz34_1:w33.cell? ⟨gb565,1,none⟩ = some (.slice Ao28 t562.length co28):=(zc BK565.out 1).trans rfl;have hfz34_0:=zl BK565.out 0;have hfz34_1:=zl BK565.out 1;have hcz35_0:w33.cell? ⟨gb558,0,none⟩ = some (.slice Ao31 x559000_1.length co31):=(zc BK558.out 0).trans rfl;have hcz35_1:w33.cell? ⟨gb558,1,none⟩ = some (.slice Ao32 x559001_1.length co32):=(zc BK558.out 1).trans rfl;have hfz35_0:=zl BK558.out 0;have hfz35_1:=zl BK558.out 1))
     go_roundg k1
     case measure=>have:=HK1.out;omega
     case rel=>exact ⟨(wrap64 (x4_1+1)),(t559),(t562),(.slice Ao23 t559.length co23),(.slice Ao28 t562.length co28),(by first|rfl|(simp;done)|(simp [*];done)),H',⟨by have:=HK1.out;omega⟩,⟨by (with_reducible repeat (first|apply zK|apply zJ|apply zL));exact ze (zt (p:=⟨gb558,1,none⟩) (zt (p:=⟨gb558,0,none⟩) (Kd.R_types HO561.out BK558.out (by decide)) (fun _ hk=>hk.2) (.slice Ao23 t559.length co23)) (fun _ hk=>hk.2) (.slice Ao28 t562.length co28)) (fun _ hk=>hk.1.1.1)⟩,⟨by (with_reducible repeat (first|apply zK|apply zJ|apply zL));exact ze (zt (p:=⟨gb558,1,none⟩) (zt (p:=⟨gb558,0,none⟩) (Kd.R_types HO564.out BK558.out (by decide)) (fun _ hk=>hk.2) (.slice Ao23 t559.length co23)) (fun _ hk=>hk.2) (.slice Ao28 t562.length co28)) (fun _ hk=>hk.1.1.1)⟩,⟨by (with_reducible repeat (first|refine zM ?_ _|refine zO ?_|refine zN ?_ _));refine blk_far ?_ NB550_558.out _;(with_reducible repeat (first|refine zM ?_ _|refine zO ?_|refine zN ?_ _));refine blk_far ?_ NB550_558.out _;(with_reducible repeat (first|refine zM ?_ _|refine zO ?_|refine zN ?_ _));exact BK550.out⟩,⟨by (with_reducible repeat (first|refine zM ?_ _|refine zO ?_|refine zN ?_ _));refine blk_far ?_ NB551_558.out _;(with_reducible repeat (first|refine zM ?_ _|refine zO ?_|refine zN ?_ _));refine blk_far ?_ NB551_558.out _;(with_reducible repeat (first|refine zM ?_ _|refine zO ?_|refine zN ?_ _));exact BK551.out⟩,⟨by (with_reducible repeat (first|refine zM ?_ _|refine zO ?_|refine zN ?_ _));refine blk_put (cs:=#[.slice Ao23 t559.length co23,.slice Ao32 x559001_1.length co32]) ?_ 1 _ rfl;(with_reducible repeat (first|refine zM ?_ _|refine zO ?_|refine zN ?_ _));refine blk_put (cs:=#[.slice Ao31 x559000_1.length co31,.slice Ao32 x559001_1.length co32]) ?_ 0 _ rfl;(with_reducible repeat (first|refine zM ?_ _|refine zO ?_|refine zN ?_ _));exact BK558.out⟩,⟨by repeat (first|(with_reducible first|exact HB.out|apply zD|apply zB|apply zC|refine zI ?_ GE550.out|refine zI ?_ GE551.out|refine zI ?_ GE558.out|refine zI ?_ GE565.out)|exact HB.out)⟩⟩
    ·rw [if_neg c17] at H
     have c17b0:decide (t566 < 0) = false:=zV c17
     clear c17
     have H':=zA H
     clear H
     have hnb36:=NB550_551.out
     have hnc36:=NB551_550.out
     have hnb37:=NB550_558.out
     have hnc37:=NB558_550.out
     have hcz38_0:wr.cell? ⟨gb550,0,none⟩ = some (.slice A0_0 l0_0.length c0_0):=(zc BK550.out 0).trans rfl
     have hcz38_1:wr.cell? ⟨gb550,1,none⟩ = some (.slice A0_1 l0_1.length c0_1):=(zc BK550.out 1).trans rfl
     have hfz38_0:=zl BK550.out 0
     have hfz38_1:=zl BK550.out 1
     go_wp2_with (first|((with_reducible refine gate_callee (f:=78) rfl ?_);refine goesL_ (some 17) rfl rfl Try.func78 (by kernel_rfl) rfl #[.agg #[.slice A0_0 l0_0.length c0_0,.slice A0_1 l0_1.length c0_1],.int .i64 x4_1] rfl (by (try simp only [zP,zS,zT]);first|done|rfl|(simp only [zR,zQ];rfl)) ?_;(with_reducible refine (spec_l2Form.calls k1 _ _ l0_0 _ _ l0_1 x4_1 t559 t562 _ ?side1 ?side2 ?side3 ?side4 A15.out).mono ?_);(case side1=>repeat (first|exact (zf HR0_0.out HB.out)|(with_reducible exact HR0_0.out)|(with_reducible refine zW ?_ _)|(with_reducible refine zX ?_ _)|(with_reducible refine zY ?_)));(case side2=>exact HC0_0.out);(case side3=>repeat (first|exact (zf HR0_1.out HB.out)|(with_reducible exact HR0_1.out)|(with_reducible refine zW ?_ _)|(with_reducible refine zX ?_ _)|(with_reducible refine zY ?_)));(case side4=>exact HC0_1.out);rintro e w39 ⟨v560,v563,rfl,ho0,ho1,hb⟩;refine ⟨_,rfl,?_⟩;have n0_:=zA (ze (Kd.R_told (Kd.R_told (Kd.R_old (by (with_reducible repeat (first|apply zK|apply zJ|apply zL));exact HO_559000.out) hb) (zp ho0)) (zp ho1)) (fun _ h_=>h_.1));have n1_:=zA (ze (Kd.R_told (Kd.R_told (Kd.R_old (by (with_reducible repeat (first|apply zK|apply zJ|apply zL));exact HO_559001.out) hb) (zp ho0)) (zp ho1)) (fun _ h_=>h_.1));have n2_:=zA (zq (zs (zs ho0 (Kd.R_lt (by (with_reducible repeat (first|apply zK|apply zJ|apply zL));exact HO_559000.out))) (Kd.R_lt (by (with_reducible repeat (first|apply zK|apply zJ|apply zL));exact HO_559001.out))) (zZ (by repeat (first|(with_reducible first|exact HB.out|apply zD|apply zB|apply zC|refine zI ?_ GE550.out|refine zI ?_ GE551.out|refine zI ?_ GE558.out)|exact HB.out))));have n3_:=zA (zq (zs (zs ho1 (Kd.R_lt (by (with_reducible repeat (first|apply zK|apply zJ|apply zL));exact HO_559000.out))) (Kd.R_lt (by (with_reducible repeat (first|apply zK|apply zJ|apply zL));exact HO_559001.out))) (zZ (by repeat (first|(with_reducible first|exact HB.out|apply zD|apply zB|apply zC|refine zI ?_ GE550.out|refine zI ?_ GE551.out|refine zI ?_ GE558.out)|exact HB.out))));have n4_:=zA (zg (g:=gb550) (o:=.cells #[.slice A0_0 l0_0.length c0_0,.slice A0_1 l0_1.length c0_1] 33 (0,0)) (by (with_reducible repeat (first|refine zM ?_ _|refine zO ?_|refine zN ?_ _));exact BK550.out) hb);have n5_:=zA (zg (g:=gb551) (o:=.cells #[.slice none 0 0,.slice none 0 0] 33 (0,0)) (by (with_reducible repeat (first|refine zM ?_ _|refine zO ?_|refine zN ?_ _));exact BK551.out) hb);have n6_:=zA (zg (g:=gb558) (o:=.cells #[u559000,u559001] 33 (0,0)) (by (with_reducible repeat (first|refine zM ?_ _|refine zO ?_|refine zN ?_ _));exact BK558.out) hb);have n7_:=zA (za (by repeat (first|(with_reducible first|exact HB.out|apply zD|apply zB|apply zC|refine zI ?_ GE550.out|refine zI ?_ GE551.out|refine zI ?_ GE558.out)|exact HB.out)) hb);clear HO_559000;clear HO_559001;clear BK550;clear BK551;clear BK558;clear HB;have HO_559000:=n0_;have HO_559001:=n1_;have HO561:=n2_;have HO564:=n3_;have BK550:=n4_;have BK551:=n5_;have BK558:=n6_;have HB:=n7_;clear n0_ n1_ n2_ n3_ n4_ n5_ n6_ n7_;(try clear hb);(try clear hb2);(try clear hk);(try clear hi);(try clear ho0);(try clear ho1))|((with_reducible refine gate_dst (N:=5) rfl ?_);refine box_event ?hg (N:=5) ?hd (cs:=#[.slice none 0 0,.slice none 0 0]) (t:=33) ?hr ?_;(case hd=>rfl);(case hg=>rfl);(case hr=>first|(go_simp;done)|(go_simp;rfl));intro gb565 hg w40 hbox hb;have n0_:=zA (zu (by (with_reducible repeat (first|apply zK|apply zJ|apply zL));exact HO_559000.out) hb);have n1_:=zA (zu (by (with_reducible repeat (first|apply zK|apply zJ|apply zL));exact HO_559001.out) hb);have n2_:=zA (zu (by (with_reducible repeat (first|apply zK|apply zJ|apply zL));exact HO561.out) hb);have n3_:=zA (zu (by (with_reducible repeat (first|apply zK|apply zJ|apply zL));exact HO564.out) hb);have n4_:=zA (zg (g:=gb550) (o:=.cells #[.slice A0_0 l0_0.length c0_0,.slice A0_1 l0_1.length c0_1] 33 (0,0)) (by (with_reducible repeat (first|refine zM ?_ _|refine zO ?_|refine zN ?_ _));exact BK550.out) hb);have n5_:=zA (zg (g:=gb551) (o:=.cells #[.slice none 0 0,.slice none 0 0] 33 (0,0)) (by (with_reducible repeat (first|refine zM ?_ _|refine zO ?_|refine zN ?_ _));exact BK551.out) hb);have n6_:=zA (zg (g:=gb558) (o:=.cells #[u559000,u559001] 33 (0,0)) (by (with_reducible repeat (first|refine zM ?_ _|refine zO ?_|refine zN ?_ _));exact BK558.out) hb);have n7_:=zA (za (by repeat (first|(with_reducible first|exact HB.out|apply zD|apply zB|apply zC|refine zI ?_ GE550.out|refine zI ?_ GE551.out|refine zI ?_ GE558.out)|exact HB.out)) hb);have n8_:=zA (hbox);have n9_:=zA ((by rw [hg];exact (zZ (by repeat (first|(with_reducible first|exact HB.out|apply zD|apply zB|apply zC|refine zI ?_ GE550.out|refine zI ?_ GE551.out|refine zI ?_ GE558.out)|exact HB.out))):w.heap.size≤gb565));have n10_:=zA ((by rw [hg];exact (zZ (by repeat (first|(with_reducible first|exact HB.out|apply zD|apply zB|apply zC|refine zI ?_ GE550.out|refine zI ?_ GE551.out|refine zI ?_ GE558.out)|exact HB.out))):w.heap.size≤gb565));have n11_:=zA ((by rw [hg];exact Nat.ne_of_lt (blk_lt (g:=gb550) (o:=.cells #[.slice A0_0 l0_0.length c0_0,.slice A0_1 l0_1.length c0_1] 33 (0,0)) (by (with_reducible repeat (first|refine zM ?_ _|refine zO ?_|refine zN ?_ _));exact BK550.out)):gb550≠gb565));have n12_:=zA ((by rw [hg];exact Nat.ne_of_gt (blk_lt (g:=gb550) (o:=.cells #[.slice A0_0 l0_0.length c0_0,.slice A0_1 l0_1.length c0_1] 33 (0,0)) (by (with_reducible repeat (first|refine zM ?_ _|refine zO ?_|refine zN ?_ _));exact BK550.out)):gb565≠gb550));have n13_:=zA ((by rw [hg];exact Nat.ne_of_lt (blk_lt (g:=gb551) (o:=.cells #[.slice none 0 0,.slice none 0 0] 33 (0,0)) (by (with_reducible repeat (first|refine zM ?_ _|refine zO ?_|refine zN ?_ _));exact BK551.out)):gb551≠gb565));have n14_:=zA ((by rw [hg];exact Nat.ne_of_gt (blk_lt (g:=gb551) (o:=.cells #[.slice none 0 0,.slice none 0 0] 33 (0,0)) (by (with_reducible repeat (first|refine zM ?_ _|refine zO ?_|refine zN ?_ _));exact BK551.out)):gb565≠gb551));have n15_:=zA ((by rw [hg];exact Nat.ne_of_lt (blk_lt (g:=gb558) (o:=.cells #[u559000,u559001] 33 (0,0)) (by (with_reducible repeat (first|refine zM ?_ _|refine zO ?_|refine zN ?_ _));exact BK558.out)):gb558≠gb565));have n16_:=zA ((by rw [hg];exact Nat.ne_of_gt (blk_lt (g:=gb558) (o:=.cells #[u559000,u559001] 33 (0,0)) (by (with_reducible repeat (first|refine zM ?_ _|refine zO ?_|refine zN ?_ _));exact BK558.out)):gb565≠gb558));clear HO_559000;clear HO_559001;clear HO561;clear HO564;clear BK550;clear BK551;clear BK558;clear HB;have HO_559000:=n0_;have HO_559001:=n1_;have HO561:=n2_;have HO564:=n3_;have BK550:=n4_;have BK551:=n5_;have BK558:=n6_;have HB:=n7_;have BK565:=n8_;have GW565:=n9_;have GE565:=n10_;have NB550_565:=n11_;have NB565_550:=n12_;have NB551_565:=n13_;have NB565_551:=n14_;have NB558_565:=n15_;have NB565_558:=n16_;clear n0_ n1_ n2_ n3_ n4_ n5_ n6_ n7_ n8_ n9_ n10_ n11_ n12_ n13_ n14_ n15_ n16_;clear hb hbox hg;obtain ⟨Ao41,co41,eo41⟩:=zr HO561.out;subst eo41;have hnb42:=NB565_550.out;have hnc42:=NB550_565.out;have hnb43:=NB565_551.out;have hnc43:=NB551_565.out;have hnb44:=NB565_558.out;have hnc44:=NB558_565.out;have hcz45_0:w40.cell? ⟨gb565,0,none⟩ = some (.slice none 0 0):=(zc BK565.out 0).trans rfl;have hcz45_1:w40.cell? ⟨gb565,1,none⟩ = some (.slice none 0 0):=(zc BK565.out 1).trans rfl;have hfz45_0:=zl BK565.out 0;have hfz45_1:=zl BK565.out 1;obtain ⟨Ao46,co46,eo46⟩:=zr HO564.out;subst eo46;have hnb47:=NB558_551.out;have hnc47:=NB551_558.out;have hcz48_0:w40.cell? ⟨gb558,0,none⟩ = some (u559000):=(zc BK558.out 0).trans rfl;have hcz48_1:w40.cell? ⟨gb558,1,none⟩ = some (u559001):=(zc BK558.out 1).trans rfl;have hfz48_0:=zl BK558.out 0;have hfz48_1:=zl BK558.out 1;obtain ⟨Ao49,co49,eo49⟩:=zr HO_559000.out;subst eo49;obtain ⟨Ao50,co50,eo50⟩:=zr HO_559001.out;subst eo50)|((with_reducible refine gate_callee (f:=83) rfl ?_);refine goesL_ (some 20) rfl rfl Try.func83 (by kernel_rfl) rfl #[.agg #[.slice Ao41 t559.length co41,.slice Ao46 t562.length co46],.agg #[.slice Ao49 x559000_1.length co49,.slice Ao50 x559001_1.length co50]] rfl (by (try simp only [zP,zS,zT]);first|done|rfl|(simp only [zR,zQ];rfl)) ?_;(with_reducible refine (spec_l2Before.calls k1 _ _ t559 _ _ t562 _ _ x559000_1 _ _ x559001_1 t566 _ ?side1 ?side2 ?side3 ?side4 ?side5 ?side6 ?side7 ?side8 A16.out).mono ?_);(case side1=>refine (zd (e:=3) (base:=w.heap.size) (ok:=fun k_=>((some k_≠(.slice Ao46 t562.length co46:Value).ownBlock∧some k_≠(.slice Ao49 x559000_1.length co49:Value).ownBlock)∧some k_≠(.slice Ao50 x559001_1.length co50:Value).ownBlock)) (n:=t559.length) (c:=co41) ?_).2.2;exact (by (with_reducible repeat (first|apply zK|apply zJ|apply zL));exact (ze (zt (p:=⟨gb565,1,none⟩) (zt (p:=⟨gb565,0,none⟩) (Kd.R_types HO561.out BK565.out (by decide)) (fun _ hk=>hk.2) (.slice Ao41 t559.length co41)) (fun _ hk=>hk.2) (.slice Ao46 t562.length co46)) (fun _ h_=>h_.1))));(case side2=>exact (zd HO561.out).2.1);(case side3=>refine (zd (e:=3) (base:=w.heap.size) (ok:=fun k_=>((some k_≠(.slice Ao41 t559.length co41:Value).ownBlock∧some k_≠(.slice Ao49 x559000_1.length co49:Value).ownBlock)∧some k_≠(.slice Ao50 x559001_1.length co50:Value).ownBlock)) (n:=t562.length) (c:=co46) ?_).2.2;exact (by (with_reducible repeat (first|apply zK|apply zJ|apply zL));exact (ze (zt (p:=⟨gb565,1,none⟩) (zt (p:=⟨gb565,0,none⟩) (Kd.R_types HO564.out BK565.out (by decide)) (fun _ hk=>hk.2) (.slice Ao41 t559.length co41)) (fun _ hk=>hk.2) (.slice Ao46 t562.length co46)) (fun _ h_=>h_.1))));(case side4=>exact (zd HO564.out).2.1);(case side5=>refine (zd (e:=3) (base:=w.heap.size) (ok:=fun k_=>((some k_≠(.slice Ao50 x559001_1.length co50:Value).ownBlock∧some k_≠(.slice Ao41 t559.length co41:Value).ownBlock)∧some k_≠(.slice Ao46 t562.length co46:Value).ownBlock)) (n:=x559000_1.length) (c:=co49) ?_).2.2;exact (by (with_reducible repeat (first|apply zK|apply zJ|apply zL));exact (ze (zt (p:=⟨gb565,1,none⟩) (zt (p:=⟨gb565,0,none⟩) (Kd.R_types HO_559000.out BK565.out (by decide)) (fun _ hk=>hk.2) (.slice Ao41 t559.length co41)) (fun _ hk=>hk.2) (.slice Ao46 t562.length co46)) (fun _ h_=>h_.1))));(case side6=>exact (zd HO_559000.out).2.1);(case side7=>refine (zd (e:=3) (base:=w.heap.size) (ok:=fun k_=>((some k_≠(.slice Ao49 x559000_1.length co49:Value).ownBlock∧some k_≠(.slice Ao41 t559.length co41:Value).ownBlock)∧some k_≠(.slice Ao46 t562.length co46:Value).ownBlock)) (n:=x559001_1.length) (c:=co50) ?_).2.2;exact (by (with_reducible repeat (first|apply zK|apply zJ|apply zL));exact (ze (zt (p:=⟨gb565,1,none⟩) (zt (p:=⟨gb565,0,none⟩) (Kd.R_types HO_559001.out BK565.out (by decide)) (fun _ hk=>hk.2) (.slice Ao41 t559.length co41)) (fun _ hk=>hk.2) (.slice Ao46 t562.length co46)) (fun _ h_=>h_.1))));(case side8=>exact (zd HO_559001.out).2.1);rintro e w51 ⟨rfl,hb⟩;refine ⟨_,rfl,?_⟩;have n0_:=zA (zu (by (with_reducible repeat (first|apply zK|apply zJ|apply zL));exact (ze (zt (p:=⟨gb565,1,none⟩) (zt (p:=⟨gb565,0,none⟩) (Kd.R_types HO_559000.out BK565.out (by decide)) (fun _ hk=>hk.2) (.slice Ao41 t559.length co41)) (fun _ hk=>hk.2) (.slice Ao46 t562.length co46)) (fun _ h_=>h_.1))) hb);have n1_:=zA (zu (by (with_reducible repeat (first|apply zK|apply zJ|apply zL));exact (ze (zt (p:=⟨gb565,1,none⟩) (zt (p:=⟨gb565,0,none⟩) (Kd.R_types HO_559001.out BK565.out (by decide)) (fun _ hk=>hk.2) (.slice Ao41 t559.length co41)) (fun _ hk=>hk.2) (.slice Ao46 t562.length co46)) (fun _ h_=>h_.1))) hb);have n2_:=zA (zu (by (with_reducible repeat (first|apply zK|apply zJ|apply zL));exact (ze (zt (p:=⟨gb565,1,none⟩) (zt (p:=⟨gb565,0,none⟩) (Kd.R_types HO561.out BK565.out (by decide)) (fun _ hk=>hk.2) (.slice Ao41 t559.length co41)) (fun _ hk=>hk.2) (.slice Ao46 t562.length co46)) (fun _ h_=>h_.1))) hb);have n3_:=zA (zu (by (with_reducible repeat (first|apply zK|apply zJ|apply zL));exact (ze (zt (p:=⟨gb565,1,none⟩) (zt (p:=⟨gb565,0,none⟩) (Kd.R_types HO564.out BK565.out (by decide)) (fun _ hk=>hk.2) (.slice Ao41 t559.length co41)) (fun _ hk=>hk.2) (.slice Ao46 t562.length co46)) (fun _ h_=>h_.1))) hb);have n4_:=zA (zg (g:=gb550) (o:=.cells #[.slice A0_0 l0_0.length c0_0,.slice A0_1 l0_1.length c0_1] 33 (0,0)) (by (with_reducible repeat (first|refine zM ?_ _|refine zO ?_|refine zN ?_ _));refine blk_far ?_ NB550_565.out _;(with_reducible repeat (first|refine zM ?_ _|refine zO ?_|refine zN ?_ _));refine blk_far ?_ NB550_565.out _;(with_reducible repeat (first|refine zM ?_ _|refine zO ?_|refine zN ?_ _));exact BK550.out) hb);have n5_:=zA (zg (g:=gb551) (o:=.cells #[.slice none 0 0,.slice none 0 0] 33 (0,0)) (by (with_reducible repeat (first|refine zM ?_ _|refine zO ?_|refine zN ?_ _));refine blk_far ?_ NB551_565.out _;(with_reducible repeat (first|refine zM ?_ _|refine zO ?_|refine zN ?_ _));refine blk_far ?_ NB551_565.out _;(with_reducible repeat (first|refine zM ?_ _|refine zO ?_|refine zN ?_ _));exact BK551.out) hb);have n6_:=zA (zg (g:=gb558) (o:=.cells #[.slice Ao49 x559000_1.length co49,.slice Ao50 x559001_1.length co50] 33 (0,0)) (by (with_reducible repeat (first|refine zM ?_ _|refine zO ?_|refine zN ?_ _));refine blk_far ?_ NB558_565.out _;(with_reducible repeat (first|refine zM ?_ _|refine zO ?_|refine zN ?_ _));refine blk_far ?_ NB558_565.out _;(with_reducible repeat (first|refine zM ?_ _|refine zO ?_|refine zN ?_ _));exact BK558.out) hb);have n7_:=zA (zg (g:=gb565) (o:=.cells #[.slice Ao41 t559.length co41,.slice Ao46 t562.length co46] 33 (0,0)) (by (with_reducible repeat (first|refine zM ?_ _|refine zO ?_|refine zN ?_ _));refine blk_put (cs:=#[.slice Ao41 t559.length co41,.slice none 0 0]) ?_ 1 _ rfl;(with_reducible repeat (first|refine zM ?_ _|refine zO ?_|refine zN ?_ _));refine blk_put (cs:=#[.slice none 0 0,.slice none 0 0]) ?_ 0 _ rfl;(with_reducible repeat (first|refine zM ?_ _|refine zO ?_|refine zN ?_ _));exact BK565.out) hb);have n8_:=zA (za (by repeat (first|(with_reducible first|exact HB.out|apply zD|apply zB|apply zC|refine zI ?_ GE550.out|refine zI ?_ GE551.out|refine zI ?_ GE558.out|refine zI ?_ GE565.out)|exact HB.out)) hb);clear HO_559000;clear HO_559001;clear HO561;clear HO564;clear BK550;clear BK551;clear BK558;clear BK565;clear HB;have HO_559000:=n0_;have HO_559001:=n1_;have HO561:=n2_;have HO564:=n3_;have BK550:=n4_;have BK551:=n5_;have BK558:=n6_;have BK565:=n7_;have HB:=n8_;clear n0_ n1_ n2_ n3_ n4_ n5_ n6_ n7_ n8_;(try clear hb);(try clear hb2);(try clear hk);(try clear hi)))
     go_roundg k1
     case measure=>have:=HK1.out;omega
     case rel=>exact ⟨(wrap64 (x4_1+1)),(x559000_1),(x559001_1),(.slice Ao49 x559000_1.length co49),(.slice Ao50 x559001_1.length co50),(by first|rfl|(simp;done)|(simp [*];done)),H',⟨by have:=HK1.out;omega⟩,⟨by (with_reducible repeat (first|apply zK|apply zJ|apply zL));exact ze HO_559000.out (fun _ hk=>hk.1.1)⟩,⟨by (with_reducible repeat (first|apply zK|apply zJ|apply zL));exact ze HO_559001.out (fun _ hk=>hk.1.1)⟩,⟨by (with_reducible repeat (first|refine zM ?_ _|refine zO ?_|refine zN ?_ _));exact BK550.out⟩,⟨by (with_reducible repeat (first|refine zM ?_ _|refine zO ?_|refine zN ?_ _));exact BK551.out⟩,⟨by (with_reducible repeat (first|refine zM ?_ _|refine zO ?_|refine zN ?_ _));exact BK558.out⟩,⟨by repeat (first|(with_reducible first|exact HB.out|apply zD|apply zB|apply zC|refine zI ?_ GE550.out|refine zI ?_ GE551.out|refine zI ?_ GE558.out|refine zI ?_ GE565.out)|exact HB.out)⟩⟩
   ·rw [if_neg c14] at H
    have c14b0:decide (x4_1 < (l0_0.length:Int)) = false:=zV c14
    clear c14
    simp only [Option.some.injEq,Prod.mk.injEq] at H
    obtain ⟨rfl,rfl⟩:=H
    have hnb52:=NB550_551.out
    have hnc52:=NB551_550.out
    have hnb53:=NB550_558.out
    have hnc53:=NB558_550.out
    have hcz54_0:wr.cell? ⟨gb550,0,none⟩ = some (.slice A0_0 l0_0.length c0_0):=(zc BK550.out 0).trans rfl
    have hcz54_1:wr.cell? ⟨gb550,1,none⟩ = some (.slice A0_1 l0_1.length c0_1):=(zc BK550.out 1).trans rfl
    have hfz54_0:=zl BK550.out 0
    have hfz54_1:=zl BK550.out 1
    have hnb55:=NB558_551.out
    have hnc55:=NB551_558.out
    have hcz56_0:wr.cell? ⟨gb558,0,none⟩ = some (u559000):=(zc BK558.out 0).trans rfl
    have hcz56_1:wr.cell? ⟨gb558,1,none⟩ = some (u559001):=(zc BK558.out 1).trans rfl
    have hfz56_0:=zl BK558.out 0
    have hfz56_1:=zl BK558.out 1
    obtain ⟨Ao57,co57,eo57⟩:=zr HO_559000.out
    subst eo57
    have hcz58_0:wr.cell? ⟨gb551,0,none⟩ = some (.slice none 0 0):=(zc BK551.out 0).trans rfl
    have hcz58_1:wr.cell? ⟨gb551,1,none⟩ = some (.slice none 0 0):=(zc BK551.out 1).trans rfl
    have hfz58_0:=zl BK551.out 0
    have hfz58_1:=zl BK551.out 1
    obtain ⟨Ao59,co59,eo59⟩:=zr HO_559001.out
    subst eo59
    go_wp2
    refine bodyPost_ret (results_cell_row rfl _ _ gb551 33 #[.slice Ao57 x559000_1.length co57,.slice Ao59 x559001_1.length co59] (0,0) _ rfl (by (with_reducible repeat (first|refine zM ?_ _|refine zO ?_|refine zN ?_ _));refine blk_put (cs:=#[.slice Ao57 x559000_1.length co57,.slice none 0 0]) ?_ 1 _ rfl;(with_reducible repeat (first|refine zM ?_ _|refine zO ?_|refine zN ?_ _));refine blk_put (cs:=#[.slice none 0 0,.slice none 0 0]) ?_ 0 _ rfl;(with_reducible repeat (first|refine zM ?_ _|refine zO ?_|refine zN ?_ _));exact BK551.out) Try.underlying33 rfl (by kernel_rfl)) rfl ?_
    exact ⟨_,_,by first|rfl|(simp [errW_none,errW_some] <;> rfl)|(simp [*,errW_none,errW_some] <;> rfl),by (with_reducible repeat (first|apply zK|apply zJ|apply zL));exact ze (zt (p:=⟨gb551,1,none⟩) (zt (p:=⟨gb551,0,none⟩) (Kd.R_types HO_559000.out BK551.out (by decide)) (fun _ hk=>hk.2) (.slice Ao57 x559000_1.length co57)) (fun _ hk=>hk.2) (.slice Ao59 x559001_1.length co59)) (fun _ hk=>hk.1),by (with_reducible repeat (first|apply zK|apply zJ|apply zL));exact ze (zt (p:=⟨gb551,1,none⟩) (zt (p:=⟨gb551,0,none⟩) (Kd.R_types HO_559001.out BK551.out (by decide)) (fun _ hk=>hk.2) (.slice Ao57 x559000_1.length co57)) (fun _ hk=>hk.2) (.slice Ao59 x559001_1.length co59)) (fun _ hk=>hk.1),by repeat (first|(with_reducible first|exact HB.out|apply zD|apply zB|apply zC|refine zI ?_ GE550.out|refine zI ?_ GE551.out|refine zI ?_ GE558.out)|exact HB.out)⟩

/-! ### spec_l3Different: function 41 -/
def spec_l3Different.l0:Nat→List (S33)→List (S33)→Int→Option ((List (S33)))
 | 0,_,_,_=>none
 | k+1,x5,x6,x7=>if x7 < (x6.length:Int) then (if 0≤x7 then ((spec_l2Least.f k ((rd_T33 x6 x7).f0) ((rd_T33 x6 x7).f1)).bind fun bt574=>((spec_l3Put.f k x5 bt574.1 bt574.2).bind fun t580=>(spec_l3Different.l0 k t580 x6 (wrap64 (x7+1))))) else (none)) else (some x5)
def spec_l3Different.f (k:Nat) (a0:Int) (a1:Int):Option ((List (S33))):=(spec_l3All.f k a0 a1).bind fun t570=>(spec_l3Different.l0 k (([]:List (S33))) t570 0)
theorem spec_l3Different.mono_l:∀ k,(∀ y0 y1 y2,LeO (spec_l3Different.l0 k y0 y1 y2) (spec_l3Different.l0 (k+1) y0 y1 y2))
 | 0=>fun _ _ _ r h=>by simp [spec_l3Different.l0] at h
 | k+1=>by
  have ih0:=spec_l3Different.mono_l k
  ·intro y0 y1 y2
   unfold spec_l3Different.l0
   repeat' first
   | (with_reducible exact ih0 _ _ _)
   | (with_reducible exact spec_l2Least.mono _ _ _)
   | (with_reducible exact spec_l3All.mono _ _ _)
   | (with_reducible exact spec_l3Put.mono _ _ _ _)
   | (with_reducible exact LeO.refl _)
   | (with_reducible exact zm _)
   | (with_reducible refine zo ?_ ?_)
   | (with_reducible refine zn ?_ (fun _=>?_))
   | exact ih0 _ _ _
   | exact spec_l2Least.mono _ _ _
   | exact spec_l3All.mono _ _ _
   | exact spec_l3Put.mono _ _ _ _
   | exact zm _
   | refine zo ?_ ?_
   | refine zn ?_ (fun _=>?_)
theorem spec_l3Different.mono:∀ a0 a1 k,LeO (spec_l3Different.f k a0 a1) (spec_l3Different.f (k+1) a0 a1):=by
 intro a0 a1 k
 have ih0:=spec_l3Different.mono_l k
 unfold spec_l3Different.f
 repeat' first
   | (with_reducible exact ih0 _ _ _)
   | (with_reducible exact spec_l2Least.mono _ _ _)
   | (with_reducible exact spec_l3All.mono _ _ _)
   | (with_reducible exact spec_l3Put.mono _ _ _ _)
   | (with_reducible exact LeO.refl _)
   | (with_reducible exact zm _)
   | (with_reducible refine zo ?_ ?_)
   | (with_reducible refine zn ?_ (fun _=>?_))
   | exact ih0 _ _ _
   | exact spec_l2Least.mono _ _ _
   | exact spec_l3All.mono _ _ _
   | exact spec_l3Put.mono _ _ _ _
   | exact zm _
   | refine zo ?_ ?_
   | refine zn ?_ (fun _=>?_)
set_option maxHeartbeats 8000000 in
set_option maxRecDepth 100000 in
theorem spec_l3Different.calls (k:Nat) (a0:Int) (a1:Int) (r:List (S33)) (w:World) (h:spec_l3Different.f k a0 a1 = some r) :
  Calls Try.prog 41 #[.int .i64 a0,.int .i64 a1] w fun e w' => ∃ v0_:Value,e = .returned (v0_)∧Kd.V k33 33 w' w.heap.size (fun k_=>(w.heap.size≤k_)) v0_ r∧Below w.heap.size w w':=by
 have hu33:=Try.underlying33
 have HB:=zA (Below.refl w.heap.size w)
 have H:((spec_l3All.f k a0 a1).bind fun t570=>(spec_l3Different.l0 k (([]:List (S33))) t570 0)) = some r:=h
 clear h
 obtain ⟨y567,hy567⟩:∃ y_:List (S33),y_ = (([]:List (S33))):=⟨_,rfl⟩
 replace H:((spec_l3All.f k a0 a1).bind fun t570=>(spec_l3Different.l0 k y567 t570 0)) = some r:=by first|(rw [hy567];with_reducible exact H)|(have H2_:=(Option.bind_some _ _).symm.trans H;rw [hy567];with_reducible exact H2_)|(have H2_:=(Option.bind_some _ _).symm.trans H;with_reducible exact H2_)|with_reducible exact H|(rw [hy567];exact H)|exact H
 have Ny567:=zA hy567
 clear hy567
 replace H:=zz0 H
 obtain ⟨t570,A30,H⟩:=H
 replace H:(spec_l3Different.l0 k y567 t570 0) = some r:=H
 have A3:=zA A30
 clear A30
 have H':=zA H
 clear H
 go_enter Try.func41,Try.ntmps41
 go_wp2_with (first|((with_reducible refine gate_dst (N:=8) rfl ?_);refine Kd.S_lit k33 _ 33 ?hg (N:=8) ?hd (xs:=([]:List (S33))) (inner:=[]) (ok:=fun _=>True) (okp:=fun _=>True) ?hr ?hp (fun _ hk=>hk) trivial (Below.refl _ _) (Nat.le_refl _) (by simp) ?_;(case hd=>rfl);(case hg=>rfl);(case hr=>first|(go_simp;done)|(go_simp;rfl));(case hp=>exact (Reps.none _ _));intro v568 w4 ho5 hb hg_ hnew_;clear hg_ hnew_;(first|rw [← Ny567.out] at ho5|(simp only [Int.reduceToNat] at ho5;rw [← Ny567.out] at ho5));have n0_:=zA (Kd.S_lower (Kd.S_newM (M:=fun k_=>(w.heap.size≤k_)) ho5 (zZ (by repeat (first|(with_reducible first|exact HB.out|apply zD|apply zB|apply zC)|exact HB.out))) (fun k_ h_=>h_)) (zZ (by repeat (first|(with_reducible first|exact HB.out|apply zD|apply zB|apply zC)|exact HB.out))));have n1_:=zA (za (by repeat (first|(with_reducible first|exact HB.out|apply zD|apply zB|apply zC)|exact HB.out)) hb);clear HB;have HO569:=n0_;have HB:=n1_;clear n0_ n1_;clear hb ho5)|((with_reducible refine gate_callee (f:=45) rfl ?_);refine goesL_ (some 11) rfl rfl Try.func45 (by kernel_rfl) rfl #[.int .i64 a0,.int .i64 a1] rfl (by (try simp only [zP,zS,zT]);first|done|rfl|(simp only [zR,zQ];rfl)) ?_;(with_reducible refine (spec_l3All.calls k a0 a1 t570 _ A3.out).mono ?_);rintro e w6 ⟨v571,rfl,ho0,hb⟩;refine ⟨_,rfl,?_⟩;have n0_:=zA (Kd.S_below (by (with_reducible repeat (first|apply Kd.S_alloc|apply Kd.S_drewN|apply Kd.S_drew));exact HO569.out) hb);have n1_:=zA (Kd.V_lower (Kd.V_mono (ok':=fun k_=>(w.heap.size≤k_)∧some k_≠(v568:Value).ownBlock) ho0 (fun k_ hk_=>⟨(Nat.le_trans (zZ (by repeat (first|(with_reducible first|exact HB.out|apply zD|apply zB|apply zC)|exact HB.out))) hk_),(Kd.fresh' (Kd.S_lt (by (with_reducible repeat (first|apply Kd.S_alloc|apply Kd.S_drewN|apply Kd.S_drew));exact HO569.out)) k_ hk_)⟩)) (zZ (by repeat (first|(with_reducible first|exact HB.out|apply zD|apply zB|apply zC)|exact HB.out))));have n2_:=zA (za (by repeat (first|(with_reducible first|exact HB.out|apply zD|apply zB|apply zC)|exact HB.out)) hb);clear HO569;clear HB;have HO569:=n0_;have HO572:=n1_;have HB:=n2_;clear n0_ n1_ n2_;(try clear hb);(try clear hb2);(try clear hk);(try clear hi);(try clear ho0)))
 go_loopg [5,7] k (fun kq v5 v7 w' => ∃ (x5_1:List (S33)) (x7_1:Int),v7 = .int .i64 x7_1∧Aside0 (spec_l3Different.l0 kq x5_1 t570 x7_1 = some r)∧Aside0 (kq≤k)∧Aside0 (Kd.V k33 33 w' w.heap.size (fun k_=>(w.heap.size≤k_)) v5 x5_1)∧Aside0 (Kd.V k33 33 w' w.heap.size (fun k_=>(w.heap.size≤k_)) v571 t570)∧Aside0 (Below w.heap.size w w'))
 case atStart=>exact ⟨(y567),(0),(by first|rfl|(simp;done)|(simp [*];done)),H',⟨Nat.le_refl _⟩,⟨Kd.S_V (by (with_reducible repeat (first|apply Kd.S_alloc|apply Kd.S_drewN|apply Kd.S_drew));exact Kd.S_mono HO569.out (fun _ hk=>hk.1))⟩,⟨by (with_reducible repeat (first|apply zi|apply zj|apply zh));exact Kd.V_mono HO572.out (fun _ hk=>hk.1)⟩,⟨by repeat (first|(with_reducible first|exact HB.out|apply zD|apply zB|apply zC)|exact HB.out)⟩⟩
 case round =>
  clear H'
  try clear p2
  try clear c4
  obtain ⟨x5_1,x7_1,rfl,HA,HK1,HO_5,HO_6,HB⟩:=hrel
  cases gk with
  | zero=>exact absurd HA.out (by simp [spec_l3Different.l0])
  | succ k1 =>
   have H:=HA.out
   clear HA
   simp only [spec_l3Different.l0] at H
   by_cases c7:x7_1 < (t570.length:Int)
   ·rw [if_pos c7] at H
    have c7b0:decide (x7_1 < (t570.length:Int)) = true:=zU c7
    clear c7
    by_cases c8:0≤x7_1
    ·rw [if_pos c8] at H
     have c8b0:decide (0≤x7_1) = true:=zU c8
     clear c8
     replace H:=zz0 H
     obtain ⟨⟨t574,t577⟩,A90,H⟩:=H
     replace H:((spec_l3Put.f k1 x5_1 t574 t577).bind fun t580=>(spec_l3Different.l0 k1 t580 t570 (wrap64 (x7_1+1)))) = some r:=H
     have A9:=zA A90
     clear A90
     replace H:=zz0 H
     obtain ⟨t580,A100,H⟩:=H
     replace H:(spec_l3Different.l0 k1 t580 t570 (wrap64 (x7_1+1))) = some r:=H
     have A10:=zA A100
     clear A100
     have H':=zA H
     clear H
     obtain ⟨Ao11,co11,eo11⟩:=Kd.V_slice HO_6.out
     subst eo11
     have p573:0≤(x7_1:Int):=zF (by first|(with_reducible assumption)|assumption)
     have q573:x7_1 < (t570.length:Int):=zF (by first|(with_reducible assumption)|assumption)
     obtain ⟨ad573,A573_0,c573_0,A573_1,c573_1,e573,hx573_0,hx573_1,hl573_0,hi573_0,hl573_1,hi573_1⟩:=at_T33 (zv HO_6.out).2.2 x7_1 p573 q573
     cases e573
     obtain ⟨ce573,hce573,hMe573,hcc573⟩:=Kd.V_get HO_6.out z33 x7_1 p573 (by first|exact q573|exact zF (by first|(with_reducible assumption)|assumption)|(have e_:=(zv HO_6.out).1;omega))
     obtain ⟨ua573_0,uc573_0,ua573_1,uc573_1,rfl,ul573_0,ge573_0,ul573_1,ge573_1⟩:=k33_openF hMe573
     have hv573_0:=hcc573 0 _ rfl
     rw [Nat.add_zero] at hv573_0
     replace hv573_0:=zb (hv573_0.symm.trans hx573_0)
     injection hv573_0 with hva_ hvn_ hvc_
     rw [hva_] at ge573_0
     rw [hvc_] at ul573_0
     have HL573_0:=zA (show Kd.V (Kd.int .i64) 3 _ w.heap.size _ _ ((rd_T33 t570 x7_1).f0) from Kd.V_mk ul573_0 ge573_0)
     clear hva_ hvn_ hvc_ ge573_0 ul573_0
     have hv573_1:=hcc573 1 _ rfl
     rw [add_field _ _ 1 (by omega)] at hv573_1
     replace hv573_1:=zb (hv573_1.symm.trans hx573_1)
     injection hv573_1 with hva_ hvn_ hvc_
     rw [hva_] at ge573_1
     rw [hvc_] at ul573_1
     have HL573_1:=zA (show Kd.V (Kd.int .i64) 3 _ w.heap.size _ _ ((rd_T33 t570 x7_1).f1) from Kd.V_mk ul573_1 ge573_1)
     clear hva_ hvn_ hvc_ ge573_1 ul573_1
     clear hcc573 hce573
     have HR573_0:=zA hi573_0
     have HC573_0:=zA hl573_0
     clear hi573_0 hl573_0
     have HR573_1:=zA hi573_1
     have HC573_1:=zA hl573_1
     clear hi573_1 hl573_1
     replace p573:=eq_true p573
     replace q573:=eq_true q573
     go_wp2_with (first|((with_reducible refine gate_callee (f:=65) rfl ?_);refine goesL_ (some 23) rfl rfl Try.func65 (by kernel_rfl) rfl #[.agg #[.slice A573_0 ((rd_T33 t570 x7_1).f0).length c573_0,.slice A573_1 ((rd_T33 t570 x7_1).f1).length c573_1]] rfl (by (try simp only [zP,zS,zT]);first|done|rfl|(simp only [zR,zQ];rfl)) ?_;(with_reducible refine (spec_l2Least.calls k1 _ _ ((rd_T33 t570 x7_1).f0) _ _ ((rd_T33 t570 x7_1).f1) t574 t577 _ ?side1 ?side2 ?side3 ?side4 A9.out).mono ?_);(case side1=>repeat (first|exact (by repeat (first|(with_reducible exact HR573_0.out)|(with_reducible refine zW ?_ _)|(with_reducible refine zX ?_ _)|(with_reducible refine zY ?_)|exact HR573_0.out))|(with_reducible refine zW ?_ _)|(with_reducible refine zX ?_ _)|(with_reducible refine zY ?_)));(case side2=>exact HC573_0.out);(case side3=>repeat (first|exact (by repeat (first|(with_reducible exact HR573_1.out)|(with_reducible refine zW ?_ _)|(with_reducible refine zX ?_ _)|(with_reducible refine zY ?_)|exact HR573_1.out))|(with_reducible refine zW ?_ _)|(with_reducible refine zX ?_ _)|(with_reducible refine zY ?_)));(case side4=>exact HC573_1.out);rintro e w12 ⟨v575,v578,rfl,ho0,ho1,hb⟩;refine ⟨_,rfl,?_⟩;have n0_:=zA (Kd.V_mono (Kd.V_told (Kd.V_told (Kd.V_old (by (with_reducible repeat (first|apply zi|apply zj|apply zh));exact HO_5.out) hb) (zp ho0)) (zp ho1)) (fun _ h_=>h_.1));have n1_:=zA (Kd.V_mono (Kd.V_told (Kd.V_told (Kd.V_old (by (with_reducible repeat (first|apply zi|apply zj|apply zh));exact HO_6.out) hb) (zp ho0)) (zp ho1)) (fun _ h_=>h_.1));have n2_:=zA (Kd.V_mono (Kd.V_told (Kd.V_told (Kd.V_old (by (with_reducible repeat (first|apply zi|apply zj|apply zh));exact HL573_0.out) hb) (zp ho0)) (zp ho1)) (fun _ h_=>h_.1));have n3_:=zA (Kd.V_mono (Kd.V_told (Kd.V_told (Kd.V_old (by (with_reducible repeat (first|apply zi|apply zj|apply zh));exact HL573_1.out) hb) (zp ho0)) (zp ho1)) (fun _ h_=>h_.1));have n4_:=zA (zq (Kd.R_newM (M:=fun k_=>(w.heap.size≤k_)) ho0 (zZ (by repeat (first|(with_reducible first|exact HB.out|apply zD|apply zB|apply zC)|exact HB.out))) (fun k_ h_=>h_)) (zZ (by repeat (first|(with_reducible first|exact HB.out|apply zD|apply zB|apply zC)|exact HB.out))));have n5_:=zA (zq (Kd.R_newM (M:=fun k_=>(w.heap.size≤k_)) ho1 (zZ (by repeat (first|(with_reducible first|exact HB.out|apply zD|apply zB|apply zC)|exact HB.out))) (fun k_ h_=>h_)) (zZ (by repeat (first|(with_reducible first|exact HB.out|apply zD|apply zB|apply zC)|exact HB.out))));have n6_:=zA (zf (by repeat (first|(with_reducible exact HR573_0.out)|(with_reducible refine zW ?_ _)|(with_reducible refine zX ?_ _)|(with_reducible refine zY ?_)|exact HR573_0.out)) hb);have n7_:=zA (zf (by repeat (first|(with_reducible exact HR573_1.out)|(with_reducible refine zW ?_ _)|(with_reducible refine zX ?_ _)|(with_reducible refine zY ?_)|exact HR573_1.out)) hb);have n8_:=zA (za (by repeat (first|(with_reducible first|exact HB.out|apply zD|apply zB|apply zC)|exact HB.out)) hb);clear HO_5;clear HO_6;clear HL573_0;clear HL573_1;clear HR573_0;clear HR573_1;clear HB;have HO_5:=n0_;have HO_6:=n1_;have HL573_0:=n2_;have HL573_1:=n3_;have HO576:=n4_;have HO579:=n5_;have HR573_0:=n6_;have HR573_1:=n7_;have HB:=n8_;clear n0_ n1_ n2_ n3_ n4_ n5_ n6_ n7_ n8_;(try clear hb);(try clear hb2);(try clear hk);(try clear hi);(try clear ho0);(try clear ho1);obtain ⟨Ao13,co13,eo13⟩:=Kd.V_slice HO_5.out;subst eo13;obtain ⟨Ao14,co14,eo14⟩:=zr HO576.out;subst eo14;obtain ⟨Ao15,co15,eo15⟩:=zr HO579.out;subst eo15)|((with_reducible refine gate_callee (f:=64) rfl ?_);refine goesL_ (some 24) rfl rfl Try.func64 (by kernel_rfl) rfl #[.slice Ao13 x5_1.length co13,.agg #[.slice Ao14 t574.length co14,.slice Ao15 t577.length co15]] rfl (by (try simp only [zP,zS,zT]);first|done|rfl|(simp only [zR,zQ];rfl)) ?_;(with_reducible refine (spec_l3Put.calls k1 (fun k_=>(((w.heap.size≤k_)∧some k_≠(.slice Ao14 t574.length co14:Value).ownBlock)∧some k_≠(.slice Ao15 t577.length co15:Value).ownBlock)) _ _ x5_1 (fun k_=>some k_ = (.slice Ao14 t574.length co14:Value).ownBlock) _ _ t574 (fun k_=>some k_ = (.slice Ao15 t577.length co15:Value).ownBlock) _ _ t577 t580 _ ?side1 ?side2 ?side3 A10.out).mono ?_);(case side1=>exact HO_5.out);(case side2=>exact Kd.R_V (Kd.R_tight rfl (HO576.out)));(case side3=>exact Kd.R_V (Kd.R_tight rfl (HO579.out)));rintro e w16 ⟨v581,rfl,ho0,hb⟩;refine ⟨_,rfl,?_⟩;have n0_:=zA (Kd.V_below (by (with_reducible repeat (first|apply zi|apply zj|apply zh));exact HO_5.out) hb);have n1_:=zA (Kd.V_below (by (with_reducible repeat (first|apply zi|apply zj|apply zh));exact HO_6.out) hb);have n2_:=zA (Kd.V_below (by (with_reducible repeat (first|apply zi|apply zj|apply zh));exact HL573_0.out) hb);have n3_:=zA (Kd.V_below (by (with_reducible repeat (first|apply zi|apply zj|apply zh));exact HL573_1.out) hb);have n4_:=zA (zu (by (with_reducible repeat (first|apply zK|apply zJ|apply zL));exact HO576.out) hb);have n5_:=zA (zu (by (with_reducible repeat (first|apply zK|apply zJ|apply zL));exact HO579.out) hb);have n6_:=zA (Kd.V_lower (Kd.V_mono (ok':=fun k_=>(w.heap.size≤k_)) ho0 (fun k_ hk_=>Or.elim hk_ (fun hs_=>Or.elim hs_ (fun hs_=>hs_.1.1) (fun hs_=>Or.elim hs_ (fun hs_=>((HO576.out).1 k_ hs_.symm).1) (fun hs_=>((HO579.out).1 k_ hs_.symm).1))) (fun hn_=>(Nat.le_trans (zZ (by repeat (first|(with_reducible first|exact HB.out|apply zD|apply zB|apply zC)|exact HB.out))) hn_)))) (zZ (by repeat (first|(with_reducible first|exact HB.out|apply zD|apply zB|apply zC)|exact HB.out))));have n7_:=zA (zf (by repeat (first|(with_reducible exact HR573_0.out)|(with_reducible refine zW ?_ _)|(with_reducible refine zX ?_ _)|(with_reducible refine zY ?_)|exact HR573_0.out)) hb);have n8_:=zA (zf (by repeat (first|(with_reducible exact HR573_1.out)|(with_reducible refine zW ?_ _)|(with_reducible refine zX ?_ _)|(with_reducible refine zY ?_)|exact HR573_1.out)) hb);have n9_:=zA (za (by repeat (first|(with_reducible first|exact HB.out|apply zD|apply zB|apply zC)|exact HB.out)) hb);clear HO_5;clear HO_6;clear HL573_0;clear HL573_1;clear HO576;clear HO579;clear HR573_0;clear HR573_1;clear HB;have HO_5:=n0_;have HO_6:=n1_;have HL573_0:=n2_;have HL573_1:=n3_;have HO576:=n4_;have HO579:=n5_;have HO582:=n6_;have HR573_0:=n7_;have HR573_1:=n8_;have HB:=n9_;clear n0_ n1_ n2_ n3_ n4_ n5_ n6_ n7_ n8_ n9_;(try clear hb);(try clear hb2);(try clear hk);(try clear hi);(try clear ho0)))
     go_roundg k1
     case measure=>have:=HK1.out;omega
     case rel=>exact ⟨(t580),(wrap64 (x7_1+1)),(by first|rfl|(simp;done)|(simp [*];done)),H',⟨by have:=HK1.out;omega⟩,⟨by (with_reducible repeat (first|apply zi|apply zj|apply zh));exact HO582.out⟩,⟨by (with_reducible repeat (first|apply zi|apply zj|apply zh));exact Kd.V_mono HO_6.out (fun _ hk=>hk.1.1)⟩,⟨by repeat (first|(with_reducible first|exact HB.out|apply zD|apply zB|apply zC)|exact HB.out)⟩⟩
    ·rw [if_neg c8] at H
     exact absurd H (by simp)
   ·rw [if_neg c7] at H
    have c7b0:decide (x7_1 < (t570.length:Int)) = false:=zV c7
    clear c7
    obtain rfl:=zb H
    obtain ⟨Ao17,co17,eo17⟩:=Kd.V_slice HO_6.out
    subst eo17
    go_wp2
    go_ret
    exact ⟨_,by first|rfl|(simp [errW_none,errW_some] <;> rfl)|(simp [*,errW_none,errW_some] <;> rfl),by (with_reducible repeat (first|apply zi|apply zj|apply zh));exact HO_5.out,by repeat (first|(with_reducible first|exact HB.out|apply zD|apply zB|apply zC)|exact HB.out)⟩

/-! ### spec_RootlessCount: function 15 -/
def spec_RootlessCount.f (k:Nat) (a0:Int) (a1:Int):Option (Int):=(spec_l6In.f a0 1 3).bind fun t583=>(if t583 = true then (if a1 < 0 then (some (-1)) else ((spec_l3Different.f k a0 a1).bind fun t584=>(some (t584.length:Int)))) else (some (-1)))
theorem spec_RootlessCount.mono:∀ a0 a1 k,LeO (spec_RootlessCount.f k a0 a1) (spec_RootlessCount.f (k+1) a0 a1):=by
 intro a0 a1 k
 unfold spec_RootlessCount.f
 repeat' first
   | (with_reducible exact spec_l3Different.mono _ _ _)
   | (with_reducible exact LeO.refl _)
   | (with_reducible exact zm _)
   | (with_reducible refine zo ?_ ?_)
   | (with_reducible refine zn ?_ (fun _=>?_))
   | exact spec_l3Different.mono _ _ _
   | exact zm _
   | refine zo ?_ ?_
   | refine zn ?_ (fun _=>?_)
set_option maxHeartbeats 8000000 in
set_option maxRecDepth 100000 in
theorem spec_RootlessCount.calls (k:Nat) (a0:Int) (a1:Int) (r:Int) (w:World) (h:spec_RootlessCount.f k a0 a1 = some r) :
  Calls Try.prog 15 #[.int .i64 a0,.int .i64 a1] w fun e w'=>e = .returned (.int .i64 r)∧Below w.heap.size w w':=by
 have HB:=zA (Below.refl w.heap.size w)
 have H:((spec_l6In.f a0 1 3).bind fun t583=>(if t583 = true then (if a1 < 0 then (some (-1)) else ((spec_l3Different.f k a0 a1).bind fun t584=>(some (t584.length:Int)))) else (some (-1)))) = some r:=h
 clear h
 replace H:=zz0 H
 obtain ⟨t583,A30,H⟩:=H
 replace H:(if t583 = true then (if a1 < 0 then (some (-1)) else ((spec_l3Different.f k a0 a1).bind fun t584=>(some (t584.length:Int)))) else (some (-1))) = some r:=H
 have A3:=zA A30
 clear A30
 by_cases c4:t583 = true
 ·subst c4
  have H1:(if a1 < 0 then (some (-1)) else ((spec_l3Different.f k a0 a1).bind fun t584=>(some (t584.length:Int)))) = some r:=by rw [if_pos rfl] at H;exact H
  clear H
  have H:=H1
  clear H1
  by_cases c5:a1 < 0
  ·rw [if_pos c5] at H
   have c5b0:decide (a1 < 0) = true:=zU c5
   clear c5
   obtain rfl:=zb H
   go_enter Try.func15,Try.ntmps15
   go_wp2_with (first|((with_reducible refine gate_callee (f:=40) rfl ?_);refine goesL_ (some 6) rfl rfl Try.func40 (by kernel_rfl) rfl #[.int .i64 a0,.int .i64 1,.int .i64 3] rfl (by (try simp only [zP,zS,zT]);first|done|rfl|(simp only [zR,zQ];rfl)) ?_;(with_reducible refine (spec_l6In.calls a0 1 3 true _ A3.out).mono ?_);rintro e w' ⟨rfl,⟨nd,rfl⟩⟩;refine ⟨_,rfl,?_⟩))
   go_ret
   exact ⟨by first|rfl|(simp [errW_none,errW_some] <;> rfl)|(simp [*,errW_none,errW_some] <;> rfl),by repeat (first|(with_reducible first|exact HB.out|apply zD|apply zB|apply zC)|exact HB.out)⟩
  ·rw [if_neg c5] at H
   have c5b0:decide (a1 < 0) = false:=zV c5
   clear c5
   replace H:=zz0 H
   obtain ⟨t584,A60,H⟩:=H
   replace H:(some (t584.length:Int)) = some r:=H
   have A6:=zA A60
   clear A60
   obtain rfl:=zb H
   go_enter Try.func15,Try.ntmps15
   go_wp2_with (first|((with_reducible refine gate_callee (f:=40) rfl ?_);refine goesL_ (some 6) rfl rfl Try.func40 (by kernel_rfl) rfl #[.int .i64 a0,.int .i64 1,.int .i64 3] rfl (by (try simp only [zP,zS,zT]);first|done|rfl|(simp only [zR,zQ];rfl)) ?_;(with_reducible refine (spec_l6In.calls a0 1 3 true _ A3.out).mono ?_);rintro e w' ⟨rfl,⟨nd,rfl⟩⟩;refine ⟨_,rfl,?_⟩)|((with_reducible refine gate_callee (f:=41) rfl ?_);refine goesL_ (some 14) rfl rfl Try.func41 (by kernel_rfl) rfl #[.int .i64 a0,.int .i64 a1] rfl (by (try simp only [zP,zS,zT]);first|done|rfl|(simp only [zR,zQ];rfl)) ?_;(with_reducible refine (spec_l3Different.calls k a0 a1 t584 _ A6.out).mono ?_);rintro e w7 ⟨v585,rfl,ho0,hb⟩;refine ⟨_,rfl,?_⟩;have n0_:=zA (Kd.V_lower (Kd.V_mono (ok':=fun k_=>True) ho0 (fun k_ hk_=>trivial)) (zZ (by repeat (first|(with_reducible first|exact HB.out|apply zD|apply zB|apply zC)|exact HB.out))));have n1_:=zA (za (by repeat (first|(with_reducible first|exact HB.out|apply zD|apply zB|apply zC)|exact HB.out)) hb);clear HB;have HO586:=n0_;have HB:=n1_;clear n0_ n1_;(try clear hb);(try clear hb2);(try clear hk);(try clear hi);(try clear ho0);obtain ⟨Ao8,co8,eo8⟩:=Kd.V_slice HO586.out;subst eo8))
   go_ret
   exact ⟨by first|rfl|(simp [errW_none,errW_some] <;> rfl)|(simp [*,errW_none,errW_some] <;> rfl),by repeat (first|(with_reducible first|exact HB.out|apply zD|apply zB|apply zC)|exact HB.out)⟩
 ·replace c4:=Bool.eq_false_iff.mpr c4
  subst c4
  have H1:(some (-1)) = some r:=by rw [if_neg (show ¬ (false = true) by decide)] at H;exact H
  clear H
  have H:=H1
  clear H1
  obtain rfl:=zb H
  go_enter Try.func15,Try.ntmps15
  go_wp2_with (first|((with_reducible refine gate_callee (f:=40) rfl ?_);refine goesL_ (some 6) rfl rfl Try.func40 (by kernel_rfl) rfl #[.int .i64 a0,.int .i64 1,.int .i64 3] rfl (by (try simp only [zP,zS,zT]);first|done|rfl|(simp only [zR,zQ];rfl)) ?_;(with_reducible refine (spec_l6In.calls a0 1 3 false _ A3.out).mono ?_);rintro e w' ⟨rfl,⟨nd,rfl⟩⟩;refine ⟨_,rfl,?_⟩))
  go_ret
  exact ⟨by first|rfl|(simp [errW_none,errW_some] <;> rfl)|(simp [*,errW_none,errW_some] <;> rfl),by repeat (first|(with_reducible first|exact HB.out|apply zD|apply zB|apply zC)|exact HB.out)⟩

/-! ### laws_FnExactRootlessCount: function 8 -/
def laws_FnExactRootlessCount.f (k:Nat) (a0:Int) (a1:Int):Option (Bool):=(spec_RootlessCount.f k a0 a1).bind fun t587=>((impl_RootlessCount.f k a0 a1).bind fun t588=>(if t588 = t587 then (some true) else (some false)))
theorem laws_FnExactRootlessCount.mono:∀ a0 a1 k,LeO (laws_FnExactRootlessCount.f k a0 a1) (laws_FnExactRootlessCount.f (k+1) a0 a1):=by
 intro a0 a1 k
 unfold laws_FnExactRootlessCount.f
 repeat' first
   | (with_reducible exact impl_RootlessCount.mono _ _ _)
   | (with_reducible exact spec_RootlessCount.mono _ _ _)
   | (with_reducible exact LeO.refl _)
   | (with_reducible exact zm _)
   | (with_reducible refine zo ?_ ?_)
   | (with_reducible refine zn ?_ (fun _=>?_))
   | exact impl_RootlessCount.mono _ _ _
   | exact spec_RootlessCount.mono _ _ _
   | exact zm _
   | refine zo ?_ ?_
   | refine zn ?_ (fun _=>?_)
set_option maxHeartbeats 8000000 in
set_option maxRecDepth 100000 in
theorem laws_FnExactRootlessCount.calls (k:Nat) (a0:Int) (a1:Int) (r:Bool) (w:World) (h:laws_FnExactRootlessCount.f k a0 a1 = some r) :
  Calls Try.prog 8 #[.int .i64 a0,.int .i64 a1] w fun e w'=>e = .returned (.bool r)∧Below w.heap.size w w':=by
 have HB:=zA (Below.refl w.heap.size w)
 have H:((spec_RootlessCount.f k a0 a1).bind fun t587=>((impl_RootlessCount.f k a0 a1).bind fun t588=>(if t588 = t587 then (some true) else (some false)))) = some r:=h
 clear h
 replace H:=zz0 H
 obtain ⟨t587,A30,H⟩:=H
 replace H:((impl_RootlessCount.f k a0 a1).bind fun t588=>(if t588 = t587 then (some true) else (some false))) = some r:=H
 have A3:=zA A30
 clear A30
 replace H:=zz0 H
 obtain ⟨t588,A40,H⟩:=H
 replace H:(if t588 = t587 then (some true) else (some false)) = some r:=H
 have A4:=zA A40
 clear A40
 by_cases c5:t588 = t587
 ·rw [if_pos c5] at H
  have c5b0:(t588 == t587) = true:=beq_iff_eq.mpr c5
  have c5b1:(t588 != t587) = false:=bne_eq_false_iff_eq.mpr c5
  clear c5
  obtain rfl:=zb H
  go_enter Try.func8,Try.ntmps8
  go_wp2_with (first|((with_reducible refine gate_callee (f:=15) rfl ?_);refine goesL_ (some 9) rfl rfl Try.func15 (by kernel_rfl) rfl #[.int .i64 a0,.int .i64 a1] rfl (by (try simp only [zP,zS,zT]);first|done|rfl|(simp only [zR,zQ];rfl)) ?_;(with_reducible refine (spec_RootlessCount.calls k a0 a1 t587 _ A3.out).mono ?_);rintro e w6 ⟨rfl,hb⟩;refine ⟨_,rfl,?_⟩;have n0_:=zA (za (by repeat (first|(with_reducible first|exact HB.out|apply zD|apply zB|apply zC)|exact HB.out)) hb);clear HB;have HB:=n0_;clear n0_;(try clear hb);(try clear hb2);(try clear hk);(try clear hi))|((with_reducible refine gate_callee (f:=14) rfl ?_);refine goesL_ (some 12) rfl rfl Try.func14 (by kernel_rfl) rfl #[.int .i64 a0,.int .i64 a1] rfl (by (try simp only [zP,zS,zT]);first|done|rfl|(simp only [zR,zQ];rfl)) ?_;(with_reducible refine (impl_RootlessCount.calls k a0 a1 t588 _ A4.out).mono ?_);rintro e w7 ⟨rfl,hb⟩;refine ⟨_,rfl,?_⟩;have n0_:=zA (za (by repeat (first|(with_reducible first|exact HB.out|apply zD|apply zB|apply zC)|exact HB.out)) hb);clear HB;have HB:=n0_;clear n0_;(try clear hb);(try clear hb2);(try clear hk);(try clear hi)))
  go_ret
  exact ⟨by first|rfl|(simp [errW_none,errW_some] <;> rfl)|(simp [*,errW_none,errW_some] <;> rfl),by repeat (first|(with_reducible first|exact HB.out|apply zD|apply zB|apply zC)|exact HB.out)⟩
 ·rw [if_neg c5] at H
  have c5b0:(t588 == t587) = false:=beq_eq_false_iff_ne.mpr c5
  have c5b1:(t588 != t587) = true:=bne_iff_ne.mpr c5
  obtain rfl:=zb H
  go_enter Try.func8,Try.ntmps8
  go_wp2_with (first|((with_reducible refine gate_callee (f:=15) rfl ?_);refine goesL_ (some 9) rfl rfl Try.func15 (by kernel_rfl) rfl #[.int .i64 a0,.int .i64 a1] rfl (by (try simp only [zP,zS,zT]);first|done|rfl|(simp only [zR,zQ];rfl)) ?_;(with_reducible refine (spec_RootlessCount.calls k a0 a1 t587 _ A3.out).mono ?_);rintro e w8 ⟨rfl,hb⟩;refine ⟨_,rfl,?_⟩;have n0_:=zA (za (by repeat (first|(with_reducible first|exact HB.out|apply zD|apply zB|apply zC)|exact HB.out)) hb);clear HB;have HB:=n0_;clear n0_;(try clear hb);(try clear hb2);(try clear hk);(try clear hi))|((with_reducible refine gate_callee (f:=14) rfl ?_);refine goesL_ (some 12) rfl rfl Try.func14 (by kernel_rfl) rfl #[.int .i64 a0,.int .i64 a1] rfl (by (try simp only [zP,zS,zT]);first|done|rfl|(simp only [zR,zQ];rfl)) ?_;(with_reducible refine (impl_RootlessCount.calls k a0 a1 t588 _ A4.out).mono ?_);rintro e w9 ⟨rfl,hb⟩;refine ⟨_,rfl,?_⟩;have n0_:=zA (za (by repeat (first|(with_reducible first|exact HB.out|apply zD|apply zB|apply zC)|exact HB.out)) hb);clear HB;have HB:=n0_;clear n0_;(try clear hb);(try clear hb2);(try clear hk);(try clear hi)))
  go_ret
  exact ⟨by first|rfl|(simp [errW_none,errW_some] <;> rfl)|(simp [*,errW_none,errW_some] <;> rfl),by repeat (first|(with_reducible first|exact HB.out|apply zD|apply zB|apply zC)|exact HB.out)⟩

/-- THE ONE PURE STATEMENT of laws_FnExactRootlessCount: yours. -/
def laws_FnExactRootlessCount.Pure:Prop := ∀ (a0:Int) (a1:Int),(Lit.int .i64 a0).wf = true→(Lit.int .i64 a1).wf = true → ∃ k,laws_FnExactRootlessCount.f k a0 a1 = some true
theorem laws_FnExactRootlessCount.walk (P:laws_FnExactRootlessCount.Pure) (a0:Int) (a1:Int) (w:World) (w0:(Lit.int .i64 a0).wf = true) (w1:(Lit.int .i64 a1).wf = true) :
  Calls Try.prog 8 #[.int .i64 a0,.int .i64 a1] w fun e w'=>e = .returned (.bool true)∧Below w.heap.size w w':=by
 obtain ⟨k,h⟩:=P a0 a1 w0 w1
 refine (laws_FnExactRootlessCount.calls k a0 a1 true w h).mono ?_
 rintro e w' ⟨rfl,hd⟩
 exact ⟨rfl,hd⟩

end Go.Proofs.Ytdaiohcgdpclnaa.Q
