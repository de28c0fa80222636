import Derived.Test.YtdaiohcgdpclnaaQ0
import Derived.Test.YtdaiohcgdpclnaaQ10
import Derived.Test.YtdaiohcgdpclnaaQ11
import Derived.Test.YtdaiohcgdpclnaaZ
namespace Go.Proofs.Ytdaiohcgdpclnaa.Q
open Go.RowKit Go.Proofs.YtdaiohcgdpclnaaW.PrintWords Go.Proofs.YtdaiohcgdpclnaaW.PrintLast Go.Proofs.YtdaiohcgdpclnaaW.PrintMore
attribute [local go_sem] max2_int min2_int max_two min_two max_three min_three max_four min_four   -- for this text's walks alone
set_option linter.unusedVariables false
set_option linter.unusedSimpArgs false

/-! ### spec_l2Counts: function 55 -/
def spec_l2Counts.f (k:Nat) (l0_0:List Int) (l0_1:List Int):Option (List Int):=(spec_l1Cycles.f k l0_0).bind fun t466=>((spec_l2Faces.f k l0_0 l0_1).bind fun t469=>((spec_l1Cycles.f k t469).bind fun t472=>(some (([(t466.length:Int),wrap64 ((l0_1.length:Int) / 2),(t472.length:Int)]:List Int)))))
theorem spec_l2Counts.mono:∀ a0 a1 k,LeO (spec_l2Counts.f k a0 a1) (spec_l2Counts.f (k+1) a0 a1):=by
 intro a0 a1 k
 unfold spec_l2Counts.f
 repeat' first
   | (with_reducible exact spec_l1Cycles.mono _ _)
   | (with_reducible exact spec_l2Faces.mono _ _ _)
   | (with_reducible exact LeO.refl _)
   | (with_reducible exact za _)
   | (with_reducible refine zc ?_ ?_)
   | (with_reducible refine zb ?_ (fun _=>?_))
def spec_l2Counts.T1:Bool × List (List Nat × List Nat):=(true,[([],[]),([0],[0]),([1],[1]),([2],[2]),([],[]),([4],[4]),([5],[5]),([6],[6]),([],[]),([8,2],[8]),([9,9],[9]),([10],[10]),([3,7,11],[3,7,11]),([12,10,0,1,2,3,4,5,6,7,8,9,10,11,12],[12])])
def spec_l2Counts.B1:List Nat:=[0,1,3,7,0,16,48,112,0,263,775,1799,4095,8191]
theorem spec_l2Counts.tab1:rtab .any (opsOf Try.f55 1) = spec_l2Counts.T1:=by kernel_rfl
theorem spec_l2Counts.bits1:waitsOk spec_l2Counts.T1.2 spec_l2Counts.B1 = true:=by kernel_rfl
set_option maxHeartbeats 8000000 in
set_option maxRecDepth 100000 in
theorem spec_l2Counts.calls (k:Nat) (A0_0:Option Addr) (c0_0:Nat) (l0_0:List Int) (A0_1:Option Addr) (c0_1:Nat) (l0_1:List Int) (r:List Int) (w:World) (hr0_0:Kd.C (Kd.int .i64) w A0_0 l0_0.length l0_0) (hc0_0:l0_0.length≤c0_0) (hr0_1:Kd.C (Kd.int .i64) w A0_1 l0_1.length l0_1) (hc0_1:l0_1.length≤c0_1) (h:spec_l2Counts.f k l0_0 l0_1 = some r) :
  Calls Try.prog 55 #[.agg #[.slice A0_0 l0_0.length c0_0,.slice A0_1 l0_1.length c0_1]] w fun e w' => ∃ v0_:Value,e = .returned (v0_)∧Kd.R (Kd.int .i64) 3 w' w.heap.size (fun _=>True) v0_ r∧Below w.heap.size w w':=by
 have hu33:=Try.underlying33
 have HR0_0:=zA hr0_0
 have HC0_0:=zA hc0_0
 clear hr0_0 hc0_0
 have HR0_1:=zA hr0_1
 have HC0_1:=zA hc0_1
 clear hr0_1 hc0_1
 have HB:=zA (Below.refl w.heap.size w)
 have H:((spec_l1Cycles.f k l0_0).bind fun t466=>((spec_l2Faces.f k l0_0 l0_1).bind fun t469=>((spec_l1Cycles.f k t469).bind fun t472=>(some (([(t466.length:Int),wrap64 ((l0_1.length:Int) / 2),(t472.length:Int)]:List Int)))))) = some r:=h
 clear h
 replace H:=zz0 H
 obtain ⟨t466,A20,H⟩:=H
 try dsimp only at H
 have A2:=zA A20
 clear A20
 replace H:=zz0 H
 obtain ⟨t469,A30,H⟩:=H
 try dsimp only at H
 have A3:=zA A30
 clear A30
 replace H:=zz0 H
 obtain ⟨t472,A40,H⟩:=H
 try dsimp only at H
 have A4:=zA A40
 clear A40
 obtain ⟨y475,hy475⟩:∃ y_:List Int,y_ = (([(t466.length:Int),wrap64 ((l0_1.length:Int) / 2),(t472.length:Int)]:List Int)):=⟨_,rfl⟩
 replace H:(some y475) = some r:=by (try rw [hy475]);first|with_reducible exact H|with_reducible exact zS_ H|exact H
 have Ny475:=zA hy475
 clear hy475
 obtain rfl:=zS H
 go_enter Try.func55,Try.ntmps55
 try go_wp2_with (first|((with_reducible refine gate_dst (N:=1) rfl ?_);refine box_event ?hg (N:=1) ?hd (cs:=#[.slice A0_0 l0_0.length c0_0,.slice A0_1 l0_1.length c0_1]) (t:=33) ?hr ?_;(case hd=>rfl);(case hg=>rfl);(case hr=>first|(go_simp;done)|(go_simp;rfl));intro gb465 hg w5 hbox hb;have n0_:=zA (zR (by exact zB_ HB.out) hb);have n1_:=zA (hbox);have n2_:=zA ((by rw [hg];exact (zQ (by exact zB_ HB.out)):w.heap.size≤gb465));have n3_:=zA ((by rw [hg];exact (zQ (by exact zB_ HB.out)):w.heap.size≤gb465));clear HB;have HB:=n0_;have BK465:=n1_;have GW465:=n2_;have GE465:=n3_;clear n0_ n1_ n2_ n3_;clear hb hbox hg))
 have n0_:=zA (zI BK465.out)
 have n1_:=zA (zC HB.out)
 clear BK465 HB
 have BK465:=n0_
 have HB:=n1_
 clear n0_ n1_
 refine start_ (n:=14) (S:=fun w'=>w'.cell? ⟨gb465,0,none⟩ = some (.slice A0_0 l0_0.length c0_0)∧w'.cell? ⟨gb465,1,none⟩ = some (.slice A0_1 l0_1.length c0_1)) (ds:=[]) #[zf,zf,zf,zf,zf,zf,zf,zf,zf,zf,zf,zf,zf,zf] (by kernel_rfl) rfl rfl ⟨(zT BK465.out 0).trans rfl,(zT BK465.out 1).trans rfl⟩ (fun hHeld=>?_);refine with_tabW spec_l2Counts.tab1 spec_l2Counts.bits1 (fun HT_ HW_=>?_)
 generalize w5.drew = w6 at BK465 HB hHeld ⊢
 refine pure_ (i:=0) (N:=some 3) (v:=?_) (a':=?_) #[zt,zf,zf,zf,zf,zf,zf,zf,zf,zf,zf,zf,zf,zf] rfl rfl (any_of HT_.out (by kernel_rfl)) (fun _ _ _ h=>h) (Or.inl ⟨by rfl,?_⟩) ?_ ?_
 rotate_left
 ·intro w'
  go_simp
  with_reducible rfl
 rotate_left
 ·simp only [Act.put,zP_,i64_w]
  rfl
 refine pure_ (i:=4) (N:=some 7) (v:=?_) (a':=?_) #[zt,zf,zf,zf,zt,zf,zf,zf,zf,zf,zf,zf,zf,zf] rfl rfl (any_of HT_.out (by kernel_rfl)) (fun _ _ _ h=>h) (Or.inl ⟨by rfl,?_⟩) ?_ ?_
 rotate_left
 ·intro w'
  go_simp
  with_reducible rfl
 rotate_left
 ·simp only [Act.put,zP_,i64_w]
  rfl
 refine take_ (i:=1) (N:=some 4) (v:=?_) (a':=?_) #[zt,zt,zf,zf,zt,zf,zf,zf,zf,zf,zf,zf,zf,zf] rfl rfl (take_ofW HT_.out HW_.out (by kernel_rfl)) (fun _ _ _ h=>h) (Or.inl ⟨by rfl,?_⟩) hHeld ?_ ?_
 rotate_left
 ·rintro w' ⟨s0,s1⟩
  go_simp
  with_reducible rfl
 rotate_left
 ·simp only [Act.put,zP_,i64_w]
  rfl
 refine take_ (i:=5) (N:=some 8) (v:=?_) (a':=?_) #[zt,zt,zf,zf,zt,zt,zf,zf,zf,zf,zf,zf,zf,zf] rfl rfl (take_ofW HT_.out HW_.out (by kernel_rfl)) (fun _ _ _ h=>h) (Or.inl ⟨by rfl,?_⟩) hHeld ?_ ?_
 rotate_left
 ·rintro w' ⟨s0,s1⟩
  go_simp
  with_reducible rfl
 rotate_left
 ·simp only [Act.put,zP_,i64_w]
  rfl
 refine pure_ (i:=6) (N:=some 9) (v:=?_) (a':=?_) #[zt,zt,zf,zf,zt,zt,zt,zf,zf,zf,zf,zf,zf,zf] rfl rfl (any_of HT_.out (by kernel_rfl)) (fun _ _ _ h=>h) (Or.inl ⟨by rfl,?_⟩) ?_ ?_
 rotate_left
 ·intro w'
  go_simp
  with_reducible rfl
 rotate_left
 ·simp only [Act.put,zP_,i64_w]
  rfl
 refine pure_ (i:=7) (N:=some 10) (v:=?_) (a':=?_) #[zt,zt,zf,zf,zt,zt,zt,zt,zf,zf,zf,zf,zf,zf] rfl rfl (any_of HT_.out (by kernel_rfl)) (fun _ _ _ h=>h) (Or.inl ⟨by rfl,?_⟩) ?_ ?_
 rotate_left
 ·intro w'
  go_simp
  with_reducible rfl
 rotate_left
 ·simp only [Act.put,zP_,i64_w]
  rfl
 refine take_ (i:=8) (N:=some 11) (v:=?_) (a':=?_) #[zt,zt,zf,zf,zt,zt,zt,zt,zt,zf,zf,zf,zf,zf] rfl rfl (take_ofW HT_.out HW_.out (by kernel_rfl)) (fun _ _ _ h=>h) (Or.inl ⟨by rfl,?_⟩) hHeld ?_ ?_
 rotate_left
 ·rintro w' ⟨s0,s1⟩
  go_simp
  with_reducible rfl
 rotate_left
 ·simp only [Act.put,zP_,i64_w]
  rfl
 refine one_ (i:=2) (N:=some 5) #[zt,zt,zt,zf,zt,zt,zt,zt,zt,zf,zf,zf,zf,zf] rfl rfl (one_of HT_.out (by kernel_rfl)) (by decide) (fun K hK=>?_)
 refine goes_ Try.func84 (by kernel_rfl) rfl #[.slice A0_0 l0_0.length c0_0] (by rfl) rfl rfl (by (try simp only [zJ,zM,zN]);first|done|rfl|(simp only [zL,zK];rfl)) ?_
 with_reducible refine (spec_l1Cycles.calls k _ _ l0_0 t466 _ ?side1 ?side2 A2.out).mono ?_
 (case side1=>repeat (first|exact (zW HR0_0.out HB.out)|(with_reducible exact HR0_0.out)|apply zC_))
 (case side2=>exact HC0_0.out)
 rintro e w7 ⟨v467,rfl,ho0,hb⟩
 refine ⟨_,rfl,?_⟩
 have n0_:=zA (Kd.S_lower ho0 (zQ (by repeat (first|(with_reducible first|exact HB.out|apply zD|apply zB|apply zC|refine zF ?_ GE465.out)|exact HB.out))))
 have n1_:=zA (zX (g:=gb465) (o:=.cells #[.slice A0_0 l0_0.length c0_0,.slice A0_1 l0_1.length c0_1] 33 (0,0)) (by (with_reducible repeat (first|refine zG ?_ _|refine zI ?_|refine zH ?_ _));exact BK465.out) hb)
 have n2_:=zA (zR (by repeat (first|(with_reducible first|exact HB.out|apply zD|apply zB|apply zC|refine zF ?_ GE465.out)|exact HB.out)) hb)
 clear BK465 HB
 have HO468:=n0_
 have BK465:=n1_
 have HB:=n2_
 clear n0_ n1_ n2_
 (try clear hb);(try clear hb2);(try clear hk);(try clear hi);(try clear ho0)
 obtain ⟨Ao8,co8,eo8⟩:=Kd.S_slice HO468.out
 (first|subst eo8|(injection eo8 with f1_ f2_ f3_;have f4_:=f1_.symm;have f5_:=f3_.symm;clear f1_ f2_ f3_;subst f4_;subst f5_))
 refine hK.out _ _ ⟨(zT BK465.out 0).trans rfl,(zT BK465.out 1).trans rfl⟩ (fun hHeld=>?_)
 clear hK K
 refine norm_ (a':=?_) ?_ ?_
 rotate_left
 ·show Act.put _ (some 5) _ = _
  simp only [Act.put,zP_,i64_w]
  rfl
 refine pure_ (i:=3) (N:=some 6) (v:=?_) (a':=?_) #[zt,zt,zt,zt,zt,zt,zt,zt,zt,zf,zf,zf,zf,zf] rfl rfl (any_of HT_.out (by kernel_rfl)) (fun _ _ _ h=>h) (Or.inl ⟨by rfl,?_⟩) ?_ ?_
 rotate_left
 ·intro w'
  go_simp
  with_reducible rfl
 rotate_left
 ·simp only [Act.put,zP_,i64_w]
  rfl
 refine one_ (i:=9) (N:=some 12) #[zt,zt,zt,zt,zt,zt,zt,zt,zt,zt,zf,zf,zf,zf] rfl rfl (one_of HT_.out (by kernel_rfl)) (by decide) (fun K hK=>?_)
 refine goes_ Try.func85 (by kernel_rfl) rfl #[.agg #[.slice A0_0 l0_0.length c0_0,.slice A0_1 l0_1.length c0_1]] (by rfl) rfl rfl (by (try simp only [zJ,zM,zN]);first|done|rfl|(simp only [zL,zK];rfl)) ?_
 with_reducible refine (spec_l2Faces.calls k _ _ l0_0 _ _ l0_1 t469 _ ?side1 ?side2 ?side3 ?side4 A3.out).mono ?_
 (case side1=>repeat (first|exact (zW HR0_0.out HB.out)|(with_reducible exact HR0_0.out)|apply zC_))
 (case side2=>exact HC0_0.out)
 (case side3=>repeat (first|exact (zW HR0_1.out HB.out)|(with_reducible exact HR0_1.out)|apply zC_))
 (case side4=>exact HC0_1.out)
 rintro e w9 ⟨v470,rfl,ho0,hb⟩
 refine ⟨_,rfl,?_⟩
 have n0_:=zA (Kd.S_elder' (by (with_reducible repeat (first|apply Kd.S_alloc|apply Kd.S_drewN|apply Kd.S_drew));exact HO468.out) (zd ho0) hb)
 have n1_:=zA (ze ho0 (zQ (by repeat (first|(with_reducible first|exact HB.out|apply zD|apply zB|apply zC|refine zF ?_ GE465.out)|exact HB.out))))
 have n2_:=zA (zX (g:=gb465) (o:=.cells #[.slice A0_0 l0_0.length c0_0,.slice A0_1 l0_1.length c0_1] 33 (0,0)) (by (with_reducible repeat (first|refine zG ?_ _|refine zI ?_|refine zH ?_ _));exact BK465.out) hb)
 have n3_:=zA (zR (by repeat (first|(with_reducible first|exact HB.out|apply zD|apply zB|apply zC|refine zF ?_ GE465.out)|exact HB.out)) hb)
 clear HO468 BK465 HB
 have HO468:=n0_
 have HO471:=n1_
 have BK465:=n2_
 have HB:=n3_
 clear n0_ n1_ n2_ n3_
 (try clear hb);(try clear hb2);(try clear hk);(try clear hi);(try clear ho0)
 obtain ⟨Ao10,co10,eo10⟩:=zg HO471.out
 (first|subst eo10|(injection eo10 with f1_ f2_ f3_;have f4_:=f1_.symm;have f5_:=f3_.symm;clear f1_ f2_ f3_;subst f4_;subst f5_))
 refine hK.out _ _ ⟨(zT BK465.out 0).trans rfl,(zT BK465.out 1).trans rfl⟩ (fun hHeld=>?_)
 clear hK K
 refine norm_ (a':=?_) ?_ ?_
 rotate_left
 ·show Act.put _ (some 12) _ = _
  simp only [Act.put,zP_,i64_w]
  rfl
 refine one_ (i:=10) (N:=some 13) #[zt,zt,zt,zt,zt,zt,zt,zt,zt,zt,zt,zf,zf,zf] rfl rfl (one_of HT_.out (by kernel_rfl)) (by decide) (fun K hK=>?_)
 refine goes_ Try.func84 (by kernel_rfl) rfl #[.slice Ao10 t469.length co10] (by rfl) rfl rfl (by (try simp only [zJ,zM,zN]);first|done|rfl|(simp only [zL,zK];rfl)) ?_
 with_reducible refine (spec_l1Cycles.calls k _ _ t469 t472 _ ?side1 ?side2 A4.out).mono ?_
 (case side1=>repeat (first|exact (zU HO471.out).2.2|apply zC_))
 (case side2=>exact (zU HO471.out).2.1)
 rintro e w11 ⟨v473,rfl,ho0,hb⟩
 refine ⟨_,rfl,?_⟩
 have n0_:=zA (Kd.S_elder' (by (with_reducible repeat (first|apply Kd.S_alloc|apply Kd.S_drewN|apply Kd.S_drew));exact HO468.out) (Kd.S_base ho0) hb)
 have n1_:=zA (zj (by apply zR_;exact HO471.out) hb)
 have n2_:=zA (Kd.S_lower (Kd.S_new' (Kd.S_new' ho0 (Kd.S_lt (by (with_reducible repeat (first|apply Kd.S_alloc|apply Kd.S_drewN|apply Kd.S_drew));exact HO468.out))) (Kd.R_lt (by apply zR_;exact HO471.out))) (zQ (by repeat (first|(with_reducible first|exact HB.out|apply zD|apply zB|apply zC|refine zF ?_ GE465.out)|exact HB.out))))
 have n3_:=zA (zX (g:=gb465) (o:=.cells #[.slice A0_0 l0_0.length c0_0,.slice A0_1 l0_1.length c0_1] 33 (0,0)) (by (with_reducible repeat (first|refine zG ?_ _|refine zI ?_|refine zH ?_ _));exact BK465.out) hb)
 have n4_:=zA (zR (by repeat (first|(with_reducible first|exact HB.out|apply zD|apply zB|apply zC|refine zF ?_ GE465.out)|exact HB.out)) hb)
 clear HO468 HO471 BK465 HB
 have HO468:=n0_
 have HO471:=n1_
 have HO474:=n2_
 have BK465:=n3_
 have HB:=n4_
 clear n0_ n1_ n2_ n3_ n4_
 (try clear hb);(try clear hb2);(try clear hk);(try clear hi);(try clear ho0)
 obtain ⟨Ao12,co12,eo12⟩:=Kd.S_slice HO474.out
 (first|subst eo12|(injection eo12 with f1_ f2_ f3_;have f4_:=f1_.symm;have f5_:=f3_.symm;clear f1_ f2_ f3_;subst f4_;subst f5_))
 refine hK.out _ _ ⟨(zT BK465.out 0).trans rfl,(zT BK465.out 1).trans rfl⟩ (fun hHeld=>?_)
 clear hK K
 refine norm_ (a':=?_) ?_ ?_
 rotate_left
 ·show Act.put _ (some 13) _ = _
  simp only [Act.put,zP_,i64_w]
  rfl
 refine pure_ (i:=11) (N:=some 14) (v:=?_) (a':=?_) #[zt,zt,zt,zt,zt,zt,zt,zt,zt,zt,zt,zt,zf,zf] rfl rfl (any_of HT_.out (by kernel_rfl)) (fun _ _ _ h=>h) (Or.inl ⟨by rfl,?_⟩) ?_ ?_
 rotate_left
 ·intro w'
  go_simp
  with_reducible rfl
 rotate_left
 ·simp only [Act.put,zP_,i64_w]
  rfl
 refine one_ (i:=12) (N:=some 15) #[zt,zt,zt,zt,zt,zt,zt,zt,zt,zt,zt,zt,zt,zf] rfl rfl (one_of HT_.out (by kernel_rfl)) (by decide) (fun K hK=>?_)
 refine Kd.R_lit_step (Kd.int .i64) _ 3 ?hg (N:=15) ?hd (xs:=([(t466.length:Int),wrap64 ((l0_1.length:Int) / 2),(t472.length:Int)]:List Int)) (inner:=[.int .i64 (t466.length:Int),.int .i64 (wrap64 ((l0_1.length:Int) / 2)),.int .i64 (t472.length:Int)]) (ok:=fun _=>True) (okp:=fun _=>True) ?hr ?hp (fun _ hk=>hk) trivial (Below.refl _ _) (Nat.le_refl _) (by simp) ?_;(case hd=>rfl);(case hg=>rfl);(case hr=>first|(go_simp;done)|(go_simp;rfl));(case hp=>exact (Reps.one (show Kd.M (Kd.int .i64) _ _ _ (t466.length:Int) [.int .i64 (t466.length:Int)] from rfl) (Reps.one (show Kd.M (Kd.int .i64) _ _ _ (wrap64 ((l0_1.length:Int) / 2)) [.int .i64 (wrap64 ((l0_1.length:Int) / 2))] from rfl) (Reps.one (show Kd.M (Kd.int .i64) _ _ _ (t472.length:Int) [.int .i64 (t472.length:Int)] from rfl) (Reps.none _ _)))))
 intro v476 w13 ho14 hb hg_ hnew_
 clear hg_ hnew_
 (first|rw [← Ny475.out] at ho14|(simp only [Int.reduceToNat] at ho14;rw [← Ny475.out] at ho14))
 have n0_:=zA (Kd.S_elder' (by (with_reducible repeat (first|apply Kd.S_alloc|apply Kd.S_drewN|apply Kd.S_drew));exact HO468.out) (zd ho14) hb)
 have n1_:=zA (Kd.R_elder' (by apply zR_;exact HO471.out) (zd ho14) hb)
 have n2_:=zA (Kd.S_elder' (by (with_reducible repeat (first|apply Kd.S_alloc|apply Kd.S_drewN|apply Kd.S_drew));exact HO474.out) (zd ho14) hb)
 have n3_:=zA (ze (zh ho14 (Kd.R_lt (by apply zR_;exact HO471.out))) (zQ (by repeat (first|(with_reducible first|exact HB.out|apply zD|apply zB|apply zC|refine zF ?_ GE465.out)|exact HB.out))))
 have n4_:=zA (zX (g:=gb465) (o:=.cells #[.slice A0_0 l0_0.length c0_0,.slice A0_1 l0_1.length c0_1] 33 (0,0)) (by (with_reducible repeat (first|refine zG ?_ _|refine zI ?_|refine zH ?_ _));exact BK465.out) hb)
 have n5_:=zA (zR (by repeat (first|(with_reducible first|exact HB.out|apply zD|apply zB|apply zC|refine zF ?_ GE465.out)|exact HB.out)) hb)
 clear HO468 HO471 HO474 BK465 HB
 have HO468:=n0_
 have HO471:=n1_
 have HO474:=n2_
 have HO477:=n3_
 have BK465:=n4_
 have HB:=n5_
 clear n0_ n1_ n2_ n3_ n4_ n5_ hb ho14
 refine hK.out _ _ ⟨(zT BK465.out 0).trans rfl,(zT BK465.out 1).trans rfl⟩ (fun hHeld=>?_)
 clear hK K
 refine norm_ (a':=?_) ?_ ?_
 rotate_left
 ·show Act.put _ (some 15) _ = _
  simp only [Act.put,zP_,i64_w]
  rfl
 refine pure_ (i:=13) (N:=some 2) (v:=?_) (a':=?_) #[zt,zt,zt,zt,zt,zt,zt,zt,zt,zt,zt,zt,zt,zt] rfl rfl (any_of HT_.out (by kernel_rfl)) (fun _ _ _ h=>h) (Or.inl ⟨by rfl,?_⟩) ?_ ?_
 rotate_left
 ·intro w'
  go_simp
  with_reducible rfl
 rotate_left
 ·simp only [Act.put,zP_,i64_w]
  rfl
 refine done_ (done_of HT_.out (by kernel_rfl)) ?_
 try go_wp2
 go_ret
 exact ⟨_,by first|rfl|(simp [errW_none,errW_some] <;> rfl)|(simp [*,errW_none,errW_some] <;> rfl),by apply zR_;exact zV HO477.out (fun _ hk=>trivial),by repeat (first|(with_reducible first|exact HB.out|apply zD|apply zB|apply zC|refine zF ?_ GE465.out)|exact HB.out)⟩

/-! ### spec_l2Genus: function 77 -/
def spec_l2Genus.f (k:Nat) (l0_0:List Int) (l0_1:List Int):Option (Int):=(spec_l2Counts.f k l0_0 l0_1).bind fun t479=>(if 0 < (t479.length:Int) then (if 1 < (t479.length:Int) then (if 2 < (t479.length:Int) then (some (wrap64 (Int.tdiv (wrap64 ((wrap64 ((wrap64 (2 - (rd t479 0)))+(rd t479 1))) - (rd t479 2))) 2))) else (none)) else (none)) else (none))
theorem spec_l2Genus.mono:∀ a0 a1 k,LeO (spec_l2Genus.f k a0 a1) (spec_l2Genus.f (k+1) a0 a1):=by
 intro a0 a1 k
 unfold spec_l2Genus.f
 repeat' first
   | (with_reducible exact spec_l2Counts.mono _ _ _)
   | (with_reducible exact LeO.refl _)
   | (with_reducible exact za _)
   | (with_reducible refine zc ?_ ?_)
   | (with_reducible refine zb ?_ (fun _=>?_))
set_option maxHeartbeats 8000000 in
set_option maxRecDepth 100000 in
theorem spec_l2Genus.calls (k:Nat) (A0_0:Option Addr) (c0_0:Nat) (l0_0:List Int) (A0_1:Option Addr) (c0_1:Nat) (l0_1:List Int) (r:Int) (w:World) (hr0_0:Kd.C (Kd.int .i64) w A0_0 l0_0.length l0_0) (hc0_0:l0_0.length≤c0_0) (hr0_1:Kd.C (Kd.int .i64) w A0_1 l0_1.length l0_1) (hc0_1:l0_1.length≤c0_1) (h:spec_l2Genus.f k l0_0 l0_1 = some r) :
  Calls Try.prog 77 #[.agg #[.slice A0_0 l0_0.length c0_0,.slice A0_1 l0_1.length c0_1]] w fun e w'=>e = .returned (.int .i64 r)∧Below w.heap.size w w':=by
 have hu33:=Try.underlying33
 have HR0_0:=zA hr0_0
 have HC0_0:=zA hc0_0
 clear hr0_0 hc0_0
 have HR0_1:=zA hr0_1
 have HC0_1:=zA hc0_1
 clear hr0_1 hc0_1
 have HB:=zA (Below.refl w.heap.size w)
 have H:((spec_l2Counts.f k l0_0 l0_1).bind fun t479=>(if 0 < (t479.length:Int) then (if 1 < (t479.length:Int) then (if 2 < (t479.length:Int) then (some (wrap64 (Int.tdiv (wrap64 ((wrap64 ((wrap64 (2 - (rd t479 0)))+(rd t479 1))) - (rd t479 2))) 2))) else (none)) else (none)) else (none))) = some r:=h
 clear h
 replace H:=zz0 H
 obtain ⟨t479,A20,H⟩:=H
 try dsimp only at H
 have A2:=zA A20
 clear A20
 by_cases c3:0 < (t479.length:Int)
 ·rw [if_pos c3] at H
  have c3b0:decide (0 < (t479.length:Int)) = true:=zO c3
  have c3b1:decide (0 < t479.length) = true:=zO (by omega)
  clear c3
  by_cases c4:1 < (t479.length:Int)
  ·rw [if_pos c4] at H
   have c4b0:decide (1 < (t479.length:Int)) = true:=zO c4
   have c4b1:decide (1 < t479.length) = true:=zO (by omega)
   clear c4
   by_cases c5:2 < (t479.length:Int)
   ·rw [if_pos c5] at H
    have c5b0:decide (2 < (t479.length:Int)) = true:=zO c5
    have c5b1:decide (2 < t479.length) = true:=zO (by omega)
    clear c5
    obtain rfl:=zS H
    go_enter Try.func77,Try.ntmps77
    go_wp2_with (first|((with_reducible refine gate_dst (N:=1) rfl ?_);refine box_event ?hg (N:=1) ?hd (cs:=#[.slice A0_0 l0_0.length c0_0,.slice A0_1 l0_1.length c0_1]) (t:=33) ?hr ?_;(case hd=>rfl);(case hg=>rfl);(case hr=>first|(go_simp;done)|(go_simp;rfl));intro gb478 hg w6 hbox hb;have n0_:=zA (zR (by exact zB_ HB.out) hb);have n1_:=zA (hbox);have n2_:=zA ((by rw [hg];exact (zQ (by exact zB_ HB.out)):w.heap.size≤gb478));have n3_:=zA ((by rw [hg];exact (zQ (by exact zB_ HB.out)):w.heap.size≤gb478));clear HB;have HB:=n0_;have BK478:=n1_;have GW478:=n2_;have GE478:=n3_;clear n0_ n1_ n2_ n3_;clear hb hbox hg;have hcz7_0:w6.cell? ⟨gb478,0,none⟩ = some (.slice A0_0 l0_0.length c0_0):=(zT BK478.out 0).trans rfl;have hcz7_1:w6.cell? ⟨gb478,1,none⟩ = some (.slice A0_1 l0_1.length c0_1):=(zT BK478.out 1).trans rfl;have hfz7_0:=zZ BK478.out 0;have hfz7_1:=zZ BK478.out 1)|(go_at_call 55;(with_reducible refine (spec_l2Counts.calls k _ _ l0_0 _ _ l0_1 t479 _ ?side1 ?side2 ?side3 ?side4 A2.out).mono ?_);(case side1=>repeat (first|exact (zW HR0_0.out HB.out)|(with_reducible exact HR0_0.out)|apply zC_));(case side2=>exact HC0_0.out);(case side3=>repeat (first|exact (zW HR0_1.out HB.out)|(with_reducible exact HR0_1.out)|apply zC_));(case side4=>exact HC0_1.out);rintro e w8 ⟨v480,rfl,ho0,hb⟩;have n0_:=zA (ze ho0 (zQ (by repeat (first|(with_reducible first|exact HB.out|apply zD|apply zB|apply zC|refine zF ?_ GE478.out)|exact HB.out))));have n1_:=zA (zX (g:=gb478) (o:=.cells #[.slice A0_0 l0_0.length c0_0,.slice A0_1 l0_1.length c0_1] 33 (0,0)) (by (with_reducible repeat (first|refine zG ?_ _|refine zI ?_|refine zH ?_ _));exact BK478.out) hb);have n2_:=zA (zR (by repeat (first|(with_reducible first|exact HB.out|apply zD|apply zB|apply zC|refine zF ?_ GE478.out)|exact HB.out)) hb);clear BK478;clear HB;have HO481:=n0_;have BK478:=n1_;have HB:=n2_;clear n0_ n1_ n2_;(try clear hb);(try clear hb2);(try clear hk);(try clear hi);(try clear ho0);obtain ⟨Ao9,co9,eo9⟩:=zg HO481.out;subst eo9;have p482:0≤(0:Int):=(by omega);have q482:0 < (t479.length:Int):=zE (by with_reducible assumption);obtain ⟨ad482,e482,hx482_0⟩:=Kd.at_int (zU HO481.out).2.2 0 p482 q482;cases e482;have qi482:(0 < t479.length) = True:=eq_true (by omega);(try rw [show ((0:Int)).toNat = 0 from rfl] at hx482_0);(try rw [Addr.add_zero'] at hx482_0);replace p482:=eq_true p482;replace q482:=eq_true q482;have p483:0≤(1:Int):=(by omega);have q483:1 < (t479.length:Int):=zE (by with_reducible assumption);obtain ⟨ad483,e483,hx483_0⟩:=Kd.at_int (zU HO481.out).2.2 1 p483 q483;obtain rfl:ad482 = ad483:=(by injection e483);(try simp only [show (1:Int).toNat = 1 from rfl,Nat.reduceMul,Nat.reduceEqDiff,Go.Addr.add, ↓reduceIte] at hx483_0);have qi483:(1 < t479.length) = True:=eq_true (by omega);(try rw [show ((1:Int)).toNat = 1 from rfl] at hx483_0);replace p483:=eq_true p483;replace q483:=eq_true q483;have p484:0≤(2:Int):=(by omega);have q484:2 < (t479.length:Int):=zE (by with_reducible assumption);obtain ⟨ad484,e484,hx484_0⟩:=Kd.at_int (zU HO481.out).2.2 2 p484 q484;obtain rfl:ad482 = ad484:=(by injection e484);(try simp only [show (2:Int).toNat = 2 from rfl,Nat.reduceMul,Nat.reduceEqDiff,Go.Addr.add, ↓reduceIte] at hx484_0);have qi484:(2 < t479.length) = True:=eq_true (by omega);(try rw [show ((2:Int)).toNat = 2 from rfl] at hx484_0);replace p484:=eq_true p484;replace q484:=eq_true q484))
    repeat (go_quiet (first|((with_reducible refine gate_dst (N:=1) rfl ?_);refine box_event ?hg (N:=1) ?hd (cs:=#[.slice A0_0 l0_0.length c0_0,.slice A0_1 l0_1.length c0_1]) (t:=33) ?hr ?_;(case hd=>rfl);(case hg=>rfl);(case hr=>first|(go_simp;done)|(go_simp;rfl));intro gb478 hg w6 hbox hb;have n0_:=zA (zR (by exact zB_ HB.out) hb);have n1_:=zA (hbox);have n2_:=zA ((by rw [hg];exact (zQ (by exact zB_ HB.out)):w.heap.size≤gb478));have n3_:=zA ((by rw [hg];exact (zQ (by exact zB_ HB.out)):w.heap.size≤gb478));clear HB;have HB:=n0_;have BK478:=n1_;have GW478:=n2_;have GE478:=n3_;clear n0_ n1_ n2_ n3_;clear hb hbox hg;have hcz7_0:w6.cell? ⟨gb478,0,none⟩ = some (.slice A0_0 l0_0.length c0_0):=(zT BK478.out 0).trans rfl;have hcz7_1:w6.cell? ⟨gb478,1,none⟩ = some (.slice A0_1 l0_1.length c0_1):=(zT BK478.out 1).trans rfl;have hfz7_0:=zZ BK478.out 0;have hfz7_1:=zZ BK478.out 1)|(go_at_call 55;(with_reducible refine (spec_l2Counts.calls k _ _ l0_0 _ _ l0_1 t479 _ ?side1 ?side2 ?side3 ?side4 A2.out).mono ?_);(case side1=>repeat (first|exact (zW HR0_0.out HB.out)|(with_reducible exact HR0_0.out)|apply zC_));(case side2=>exact HC0_0.out);(case side3=>repeat (first|exact (zW HR0_1.out HB.out)|(with_reducible exact HR0_1.out)|apply zC_));(case side4=>exact HC0_1.out);rintro e w8 ⟨v480,rfl,ho0,hb⟩;have n0_:=zA (ze ho0 (zQ (by repeat (first|(with_reducible first|exact HB.out|apply zD|apply zB|apply zC|refine zF ?_ GE478.out)|exact HB.out))));have n1_:=zA (zX (g:=gb478) (o:=.cells #[.slice A0_0 l0_0.length c0_0,.slice A0_1 l0_1.length c0_1] 33 (0,0)) (by (with_reducible repeat (first|refine zG ?_ _|refine zI ?_|refine zH ?_ _));exact BK478.out) hb);have n2_:=zA (zR (by repeat (first|(with_reducible first|exact HB.out|apply zD|apply zB|apply zC|refine zF ?_ GE478.out)|exact HB.out)) hb);clear BK478;clear HB;have HO481:=n0_;have BK478:=n1_;have HB:=n2_;clear n0_ n1_ n2_;(try clear hb);(try clear hb2);(try clear hk);(try clear hi);(try clear ho0);obtain ⟨Ao9,co9,eo9⟩:=zg HO481.out;subst eo9;have p482:0≤(0:Int):=(by omega);have q482:0 < (t479.length:Int):=zE (by with_reducible assumption);obtain ⟨ad482,e482,hx482_0⟩:=Kd.at_int (zU HO481.out).2.2 0 p482 q482;cases e482;have qi482:(0 < t479.length) = True:=eq_true (by omega);(try rw [show ((0:Int)).toNat = 0 from rfl] at hx482_0);(try rw [Addr.add_zero'] at hx482_0);replace p482:=eq_true p482;replace q482:=eq_true q482;have p483:0≤(1:Int):=(by omega);have q483:1 < (t479.length:Int):=zE (by with_reducible assumption);obtain ⟨ad483,e483,hx483_0⟩:=Kd.at_int (zU HO481.out).2.2 1 p483 q483;obtain rfl:ad482 = ad483:=(by injection e483);(try simp only [show (1:Int).toNat = 1 from rfl,Nat.reduceMul,Nat.reduceEqDiff,Go.Addr.add, ↓reduceIte] at hx483_0);have qi483:(1 < t479.length) = True:=eq_true (by omega);(try rw [show ((1:Int)).toNat = 1 from rfl] at hx483_0);replace p483:=eq_true p483;replace q483:=eq_true q483;have p484:0≤(2:Int):=(by omega);have q484:2 < (t479.length:Int):=zE (by with_reducible assumption);obtain ⟨ad484,e484,hx484_0⟩:=Kd.at_int (zU HO481.out).2.2 2 p484 q484;obtain rfl:ad482 = ad484:=(by injection e484);(try simp only [show (2:Int).toNat = 2 from rfl,Nat.reduceMul,Nat.reduceEqDiff,Go.Addr.add, ↓reduceIte] at hx484_0);have qi484:(2 < t479.length) = True:=eq_true (by omega);(try rw [show ((2:Int)).toNat = 2 from rfl] at hx484_0);replace p484:=eq_true p484;replace q484:=eq_true q484));try go_wp2_with (first|((with_reducible refine gate_dst (N:=1) rfl ?_);refine box_event ?hg (N:=1) ?hd (cs:=#[.slice A0_0 l0_0.length c0_0,.slice A0_1 l0_1.length c0_1]) (t:=33) ?hr ?_;(case hd=>rfl);(case hg=>rfl);(case hr=>first|(go_simp;done)|(go_simp;rfl));intro gb478 hg w6 hbox hb;have n0_:=zA (zR (by exact zB_ HB.out) hb);have n1_:=zA (hbox);have n2_:=zA ((by rw [hg];exact (zQ (by exact zB_ HB.out)):w.heap.size≤gb478));have n3_:=zA ((by rw [hg];exact (zQ (by exact zB_ HB.out)):w.heap.size≤gb478));clear HB;have HB:=n0_;have BK478:=n1_;have GW478:=n2_;have GE478:=n3_;clear n0_ n1_ n2_ n3_;clear hb hbox hg;have hcz7_0:w6.cell? ⟨gb478,0,none⟩ = some (.slice A0_0 l0_0.length c0_0):=(zT BK478.out 0).trans rfl;have hcz7_1:w6.cell? ⟨gb478,1,none⟩ = some (.slice A0_1 l0_1.length c0_1):=(zT BK478.out 1).trans rfl;have hfz7_0:=zZ BK478.out 0;have hfz7_1:=zZ BK478.out 1)|(go_at_call 55;(with_reducible refine (spec_l2Counts.calls k _ _ l0_0 _ _ l0_1 t479 _ ?side1 ?side2 ?side3 ?side4 A2.out).mono ?_);(case side1=>repeat (first|exact (zW HR0_0.out HB.out)|(with_reducible exact HR0_0.out)|apply zC_));(case side2=>exact HC0_0.out);(case side3=>repeat (first|exact (zW HR0_1.out HB.out)|(with_reducible exact HR0_1.out)|apply zC_));(case side4=>exact HC0_1.out);rintro e w8 ⟨v480,rfl,ho0,hb⟩;have n0_:=zA (ze ho0 (zQ (by repeat (first|(with_reducible first|exact HB.out|apply zD|apply zB|apply zC|refine zF ?_ GE478.out)|exact HB.out))));have n1_:=zA (zX (g:=gb478) (o:=.cells #[.slice A0_0 l0_0.length c0_0,.slice A0_1 l0_1.length c0_1] 33 (0,0)) (by (with_reducible repeat (first|refine zG ?_ _|refine zI ?_|refine zH ?_ _));exact BK478.out) hb);have n2_:=zA (zR (by repeat (first|(with_reducible first|exact HB.out|apply zD|apply zB|apply zC|refine zF ?_ GE478.out)|exact HB.out)) hb);clear BK478;clear HB;have HO481:=n0_;have BK478:=n1_;have HB:=n2_;clear n0_ n1_ n2_;(try clear hb);(try clear hb2);(try clear hk);(try clear hi);(try clear ho0);obtain ⟨Ao9,co9,eo9⟩:=zg HO481.out;subst eo9;have p482:0≤(0:Int):=(by omega);have q482:0 < (t479.length:Int):=zE (by with_reducible assumption);obtain ⟨ad482,e482,hx482_0⟩:=Kd.at_int (zU HO481.out).2.2 0 p482 q482;cases e482;have qi482:(0 < t479.length) = True:=eq_true (by omega);(try rw [show ((0:Int)).toNat = 0 from rfl] at hx482_0);(try rw [Addr.add_zero'] at hx482_0);replace p482:=eq_true p482;replace q482:=eq_true q482;have p483:0≤(1:Int):=(by omega);have q483:1 < (t479.length:Int):=zE (by with_reducible assumption);obtain ⟨ad483,e483,hx483_0⟩:=Kd.at_int (zU HO481.out).2.2 1 p483 q483;obtain rfl:ad482 = ad483:=(by injection e483);(try simp only [show (1:Int).toNat = 1 from rfl,Nat.reduceMul,Nat.reduceEqDiff,Go.Addr.add, ↓reduceIte] at hx483_0);have qi483:(1 < t479.length) = True:=eq_true (by omega);(try rw [show ((1:Int)).toNat = 1 from rfl] at hx483_0);replace p483:=eq_true p483;replace q483:=eq_true q483;have p484:0≤(2:Int):=(by omega);have q484:2 < (t479.length:Int):=zE (by with_reducible assumption);obtain ⟨ad484,e484,hx484_0⟩:=Kd.at_int (zU HO481.out).2.2 2 p484 q484;obtain rfl:ad482 = ad484:=(by injection e484);(try simp only [show (2:Int).toNat = 2 from rfl,Nat.reduceMul,Nat.reduceEqDiff,Go.Addr.add, ↓reduceIte] at hx484_0);have qi484:(2 < t479.length) = True:=eq_true (by omega);(try rw [show ((2:Int)).toNat = 2 from rfl] at hx484_0);replace p484:=eq_true p484;replace q484:=eq_true q484)))
    go_ret
    exact ⟨by first|rfl|(simp [errW_none,errW_some] <;> rfl)|(simp [*,errW_none,errW_some] <;> rfl),by repeat (first|(with_reducible first|exact HB.out|apply zD|apply zB|apply zC|refine zF ?_ GE478.out)|exact HB.out)⟩
   ·rw [if_neg c5] at H
    exact absurd H (by simp)
  ·rw [if_neg c4] at H
   exact absurd H (by simp)
 ·rw [if_neg c3] at H
  exact absurd H (by simp)

/-! ### spec_l1Back: function 119 -/
def spec_l1Back.l0:Nat→List Int→List Int→Int→Option (List Int)
 | 0,_,_,_=>none
 | k+1,x0,x3,x4=>if x4 < (x0.length:Int) then (if 0≤x4 then (if 0≤(rd x0 x4) then (if (rd x0 x4) < (x3.length:Int) then (spec_l1Back.l0 k x0 (x3.set ((rd x0 x4):Int).toNat x4) (wrap64 (x4+1))) else (none)) else (none)) else (none)) else (some x3)
def spec_l1Back.f (k:Nat) (l0:List Int):Option (List Int):=if 0≤(l0.length:Int) then (if ((l0.length:Int):Int).toNat≤35184372088832 then (spec_l1Back.l0 k l0 (List.replicate ((l0.length:Int):Int).toNat 0) 0) else (none)) else (none)
theorem spec_l1Back.mono_l:∀ k,(∀ y0 y1 y2,LeO (spec_l1Back.l0 k y0 y1 y2) (spec_l1Back.l0 (k+1) y0 y1 y2))
 | 0=>fun _ _ _ r h=>by simp [spec_l1Back.l0] at h
 | k+1=>by
  have ih0:=spec_l1Back.mono_l k
  ·intro y0 y1 y2
   unfold spec_l1Back.l0
   repeat' first
   | (with_reducible exact ih0 _ _ _)
   | (with_reducible exact LeO.refl _)
   | (with_reducible exact za _)
   | (with_reducible refine zc ?_ ?_)
   | (with_reducible refine zb ?_ (fun _=>?_))
theorem spec_l1Back.mono:∀ a0 k,LeO (spec_l1Back.f k a0) (spec_l1Back.f (k+1) a0):=by
 intro a0 k
 have ih0:=spec_l1Back.mono_l k
 unfold spec_l1Back.f
 repeat' first
   | (with_reducible exact ih0 _ _ _)
   | (with_reducible exact LeO.refl _)
   | (with_reducible exact za _)
   | (with_reducible refine zc ?_ ?_)
   | (with_reducible refine zb ?_ (fun _=>?_))
set_option maxHeartbeats 8000000 in
set_option maxRecDepth 100000 in
theorem spec_l1Back.calls (k:Nat) (A0:Option Addr) (c0:Nat) (l0:List Int) (r:List Int) (w:World) (hr0:Kd.C (Kd.int .i64) w A0 l0.length l0) (hc0:l0.length≤c0) (h:spec_l1Back.f k l0 = some r) :
  Calls Try.prog 119 #[.slice A0 l0.length c0] w fun e w' => ∃ v0_:Value,e = .returned (v0_)∧Kd.R (Kd.int .i64) 3 w' w.heap.size (fun _=>True) v0_ r∧Below w.heap.size w w':=by
 have HR0:=zA hr0
 have HC0:=zA hc0
 clear hr0 hc0
 have HB:=zA (Below.refl w.heap.size w)
 have H:(if 0≤(l0.length:Int) then (if ((l0.length:Int):Int).toNat≤35184372088832 then (spec_l1Back.l0 k l0 (List.replicate ((l0.length:Int):Int).toNat 0) 0) else (none)) else (none)) = some r:=h
 clear h
 by_cases c2:0≤(l0.length:Int)
 ·rw [if_pos c2] at H
  have c2b0:=eq_true c2
  have c2b1:decide (0≤(l0.length:Int)) = true:=zO c2
  clear c2
  by_cases c3:((l0.length:Int):Int).toNat≤35184372088832
  ·rw [if_pos c3] at H
   have c3b0:=eq_true c3
   have c3b1:decide (((l0.length:Int):Int).toNat≤35184372088832) = true:=zO c3
   clear c3
   obtain ⟨y485,hy485⟩:∃ y_:List Int,y_ = (List.replicate ((l0.length:Int):Int).toNat 0):=⟨_,rfl⟩
   replace H:(spec_l1Back.l0 k l0 y485 0) = some r:=by (try rw [hy485]);first|with_reducible exact H|with_reducible exact zS_ H|exact H
   have Ny485:=zA hy485
   clear hy485
   have H':=zA H
   clear H
   go_enter Try.func119,Try.ntmps119
   go_wp2_with (first|((with_reducible refine gate_dst (N:=7) rfl ?_);refine Kd.R_make (Kd.int .i64) _ 3 rfl (N:=7) rfl 31 _ _ rfl (l0.length:Int) rfl rfl Try.underlying31 (.int .i64 0) 8 info3 rfl (by decide) (by omega) 0 (ok:=fun _=>True) (okp:=fun _=>True) rfl (fun _ hk=>hk) trivial (zE (by with_reducible assumption)) (Nat.le_trans (Nat.mul_le_mul_right _ (zE (by with_reducible assumption):(l0.length:Int).toNat≤35184372088832)) (by omega)) (Below.refl _ _) (Nat.le_refl _) ?_;intro v486 w4 ho5 hb hg_ hnew_;clear hg_ hnew_;(first|rw [← Ny485.out] at ho5|(simp only [Int.reduceToNat] at ho5;rw [← Ny485.out] at ho5));have n0_:=zA (ze ho5 (zQ (by exact zB_ HB.out)));have n1_:=zA (zR (by exact zB_ HB.out) hb);clear HB;have HO487:=n0_;have HB:=n1_;clear n0_ n1_;clear hb ho5))
   go_loopg [4] k (fun kq v4 w' => ∃ (x3_1:List Int) (x4_1:Int),v4 = .int .i64 x4_1∧Aside0 (spec_l1Back.l0 kq l0 x3_1 x4_1 = some r)∧Aside0 (kq≤k)∧Aside0 (Kd.R (Kd.int .i64) 3 w' w.heap.size (fun _=>True) v486 x3_1)∧Aside0 (Below w.heap.size w w'))
   case atStart=>exact ⟨(y485),(0),(by first|rfl|(simp;done)|(simp [*];done)),H',⟨Nat.le_refl _⟩,⟨by apply zR_;exact HO487.out⟩,⟨by exact zB_ HB.out⟩⟩
   case round =>
    clear H'
    (try clear c1);(try clear c2);(try clear c2b0);(try clear c2b1);(try clear p2);(try clear c3);(try clear c3b0);(try clear c3b1)
    obtain ⟨x3_1,x4_1,rfl,HA,HK1,HO_3,HB⟩:=hrel
    cases gk with
    | zero=>exact absurd HA.out (by simp [spec_l1Back.l0])
    | succ k1 =>
     have H:=HA.out
     clear HA
     simp only [spec_l1Back.l0] at H
     by_cases c6:x4_1 < (l0.length:Int)
     ·rw [if_pos c6] at H
      have c6b0:decide (x4_1 < (l0.length:Int)) = true:=zO c6
      clear c6
      by_cases c7:0≤x4_1
      ·rw [if_pos c7] at H
       have c7b0:decide (0≤x4_1) = true:=zO c7
       clear c7
       by_cases c8:0≤(rd l0 x4_1)
       ·rw [if_pos c8] at H
        have c8b0:decide (0≤(rd l0 x4_1)) = true:=zO c8
        clear c8
        by_cases c9:(rd l0 x4_1) < (x3_1.length:Int)
        ·rw [if_pos c9] at H
         have c9b0:decide ((rd l0 x4_1) < (x3_1.length:Int)) = true:=zO c9
         clear c9
         obtain ⟨y489,hy489⟩:∃ y_:List Int,y_ = (x3_1.set ((rd l0 x4_1):Int).toNat x4_1):=⟨_,rfl⟩
         replace H:(spec_l1Back.l0 k1 l0 y489 (wrap64 (x4_1+1))) = some r:=by (try rw [hy489]);first|with_reducible exact H|with_reducible exact zS_ H|exact H
         have Ny489:=zA hy489
         clear hy489
         have H':=zA H
         clear H
         have p488:0≤(x4_1:Int):=zE (by with_reducible assumption)
         have q488:x4_1 < (l0.length:Int):=zE (by with_reducible assumption)
         obtain ⟨ad488,e488,hx488_0⟩:=Kd.at_int HR0.out x4_1 p488 q488
         cases e488
         replace hx488_0:=(HB.out.cell (zY w _ hx488_0)).trans hx488_0
         replace p488:=eq_true p488
         replace q488:=eq_true q488
         have p10:0≤((rd l0 x4_1):Int):=zE (by with_reducible assumption)
         have q10:((rd l0 x4_1):Int) < ((x3_1.length:Int):Int):=zE (by with_reducible assumption)
         obtain ⟨go10,co10,eo10,gb10,gl10,cl10,HG10⟩:=Kd.R_form HO_3.out (by omega)
         (first|cases eo10|(injection eo10 with ea_ en_ ec_;(first|subst ea_|(injection ea_ with ea_;subst ea_));subst ec_;clear en_))
         have GB10:=zA gb10
         have GG10:=zA HG10
         clear gb10 gl10 HG10
         obtain ⟨hx10_0,hf10_0⟩:=Kd.R_celln 0 HO_3.out ((rd l0 x4_1):Int) p10 q10
         replace p10:=eq_true p10
         replace q10:=eq_true q10
         have HP11:=Kd.R_putg HO_3.out ((rd l0 x4_1):Int) x4_1
         go_wp2_with (first|((with_reducible refine gate_store (t:=3) (p:=20) rfl ?_);refine store_event (t:=3) (p:=20) (v:=?vo_w12) (w1:=(wr.setCell ⟨go10,((rd l0 x4_1):Int).toNat,none⟩ (.int .i64 x4_1))) ?hg ?ho ?hn ?hr ?_;(case ho=>rfl);(case hg=>rfl);(case hn=>rfl);(case hr=>first|(go_simp;done)|(go_simp;rfl));intro w12 hw;have hg:wr.grownBy w12 (some go10):=(by rw [hw];exact HP11.2);have hp_:Kd.R (Kd.int .i64) 3 w12 w.heap.size (fun _=>True) (.slice (some ⟨go10,0,none⟩) x3_1.length co10) y489:=(by rw [hw,Ny489.out];exact HP11.1);clear HP11;have n0_:=zA (hp_);have n1_:=zA ((by rw [hw];exact zF (HB.out) GB10.out:Below w.heap.size w w12));clear HO_3;clear HB;have HO_3:=n0_;have HB:=n1_;clear n0_ n1_;clear hg hw hp_))
         go_roundg k1
         case measure=>have:=HK1.out;omega
         case rel=>exact ⟨(y489),(wrap64 (x4_1+1)),(by first|rfl|(simp;done)|(simp [*];done)),H',⟨by have:=HK1.out;omega⟩,⟨by apply zR_;exact HO_3.out⟩,⟨by exact zB_ HB.out⟩⟩
        ·rw [if_neg c9] at H
         exact absurd H (by simp)
       ·rw [if_neg c8] at H
        exact absurd H (by simp)
      ·rw [if_neg c7] at H
       exact absurd H (by simp)
     ·rw [if_neg c6] at H
      have c6b0:decide (x4_1 < (l0.length:Int)) = false:=zP c6
      clear c6
      obtain rfl:=zS H
      go_wp2
      go_ret
      exact ⟨_,by first|rfl|(simp [errW_none,errW_some] <;> rfl)|(simp [*,errW_none,errW_some] <;> rfl),by apply zR_;exact HO_3.out,by exact zB_ HB.out⟩
  ·rw [if_neg c3] at H
   exact absurd H (by simp)
 ·rw [if_neg c2] at H
  exact absurd H (by simp)

/-! ### spec_PermConj: function 112 -/
def spec_PermConj.f (k:Nat) (l0:List Int) (l1:List Int):Option (List Int × Bool):=(spec_l1Both.f k l0 l1).bind fun t490=>(if t490 = true then ((spec_l1Back.f k l1).bind fun t491=>((spec_l1Mul.f k t491 l0).bind fun t494=>((spec_l1Mul.f k t494 l1).bind fun t497=>(some (t497,true))))) else (some ((([]:List Int)),false)))
theorem spec_PermConj.mono:∀ a0 a1 k,LeO (spec_PermConj.f k a0 a1) (spec_PermConj.f (k+1) a0 a1):=by
 intro a0 a1 k
 unfold spec_PermConj.f
 repeat' first
   | (with_reducible exact spec_l1Back.mono _ _)
   | (with_reducible exact spec_l1Both.mono _ _ _)
   | (with_reducible exact spec_l1Mul.mono _ _ _)
   | (with_reducible exact LeO.refl _)
   | (with_reducible exact za _)
   | (with_reducible refine zc ?_ ?_)
   | (with_reducible refine zb ?_ (fun _=>?_))
set_option maxHeartbeats 8000000 in
set_option maxRecDepth 100000 in
theorem spec_PermConj.calls (k:Nat) (A0:Option Addr) (c0:Nat) (l0:List Int) (A1:Option Addr) (c1:Nat) (l1:List Int) (r1:List Int) (r2:Bool) (w:World) (hr0:Kd.C (Kd.int .i64) w A0 l0.length l0) (hc0:l0.length≤c0) (hr1:Kd.C (Kd.int .i64) w A1 l1.length l1) (hc1:l1.length≤c1) (h:spec_PermConj.f k l0 l1 = some (r1,r2)) :
  Calls Try.prog 112 #[.slice A0 l0.length c0,.slice A1 l1.length c1] w fun e w' => ∃ v0_:Value,e = .returned (.tuple #[v0_,.bool r2])∧Kd.R (Kd.int .i64) 3 w' w.heap.size (fun _=>True) v0_ r1∧Below w.heap.size w w':=by
 have HR0:=zA hr0
 have HC0:=zA hc0
 clear hr0 hc0
 have HR1:=zA hr1
 have HC1:=zA hc1
 clear hr1 hc1
 have HB:=zA (Below.refl w.heap.size w)
 have H:((spec_l1Both.f k l0 l1).bind fun t490=>(if t490 = true then ((spec_l1Back.f k l1).bind fun t491=>((spec_l1Mul.f k t491 l0).bind fun t494=>((spec_l1Mul.f k t494 l1).bind fun t497=>(some (t497,true))))) else (some ((([]:List Int)),false)))) = some (r1,r2):=h
 clear h
 replace H:=zz0 H
 obtain ⟨t490,A30,H⟩:=H
 try dsimp only at H
 have A3:=zA A30
 clear A30
 by_cases c4:t490 = true
 ·subst c4
  rw [if_pos rfl] at H;try dsimp only at H
  replace H:=zz0 H
  obtain ⟨t491,A50,H⟩:=H
  try dsimp only at H
  have A5:=zA A50
  clear A50
  replace H:=zz0 H
  obtain ⟨t494,A60,H⟩:=H
  try dsimp only at H
  have A6:=zA A60
  clear A60
  replace H:=zz0 H
  obtain ⟨t497,A70,H⟩:=H
  try dsimp only at H
  have A7:=zA A70
  clear A70
  simp only [Option.some.injEq,Prod.mk.injEq] at H
  obtain ⟨rfl,rfl⟩:=H
  go_enter Try.func112,Try.ntmps112
  go_wp2_with (first|((with_reducible refine gate_callee (f:=94) rfl ?_);refine goesL_ (some 8) rfl rfl Try.func94 (by kernel_rfl) rfl #[.slice A0 l0.length c0,.slice A1 l1.length c1] rfl (by (try simp only [zJ,zM,zN]);first|done|rfl|(simp only [zL,zK];rfl)) ?_;(with_reducible refine (spec_l1Both.calls k _ _ l0 _ _ l1 true _ ?side1 ?side2 ?side3 ?side4 A3.out).mono ?_);(case side1=>repeat (first|exact HR0.out|apply zC_));(case side2=>exact HC0.out);(case side3=>repeat (first|exact HR1.out|apply zC_));(case side4=>exact HC1.out);rintro e w' ⟨rfl,⟨nd,rfl⟩⟩;refine ⟨_,rfl,?_⟩)|((with_reducible refine gate_callee (f:=119) rfl ?_);refine goesL_ (some 12) rfl rfl Try.func119 (by kernel_rfl) rfl #[.slice A1 l1.length c1] rfl (by (try simp only [zJ,zM,zN]);first|done|rfl|(simp only [zL,zK];rfl)) ?_;(with_reducible refine (spec_l1Back.calls k _ _ l1 t491 _ ?side1 ?side2 A5.out).mono ?_);(case side1=>repeat (first|exact HR1.out|apply zC_));(case side2=>exact HC1.out);rintro e w8 ⟨v492,rfl,ho0,hb⟩;refine ⟨_,rfl,?_⟩;have n0_:=zA (ze ho0 (zQ (by exact zB_ HB.out)));have n1_:=zA (zR (by exact zB_ HB.out) hb);clear HB;have HO493:=n0_;have HB:=n1_;clear n0_ n1_;(try clear hb);(try clear hb2);(try clear hk);(try clear hi);(try clear ho0);obtain ⟨Ao9,co9,eo9⟩:=zg HO493.out;subst eo9)|((with_reducible refine gate_callee (f:=99) rfl ?_);refine goesL_ (some 14) rfl rfl Try.func99 (by kernel_rfl) rfl #[.slice Ao9 t491.length co9,.slice A0 l0.length c0] rfl (by (try simp only [zJ,zM,zN]);first|done|rfl|(simp only [zL,zK];rfl)) ?_;(with_reducible refine (spec_l1Mul.calls k _ _ t491 _ _ l0 t494 _ ?side1 ?side2 ?side3 ?side4 A6.out).mono ?_);(case side1=>repeat (first|exact (zU HO493.out).2.2|apply zC_));(case side2=>exact (zU HO493.out).2.1);(case side3=>repeat (first|exact (zW HR0.out HB.out)|(with_reducible exact HR0.out)|apply zC_));(case side4=>exact HC0.out);rintro e w10 ⟨v495,rfl,ho0,hb⟩;refine ⟨_,rfl,?_⟩;have n0_:=zA (Kd.R_elder' (by apply zR_;exact HO493.out) (zd ho0) hb);have n1_:=zA (ze (zh ho0 (Kd.R_lt (by apply zR_;exact HO493.out))) (zQ (by exact zB_ HB.out)));have n2_:=zA (zR (by exact zB_ HB.out) hb);clear HO493;clear HB;have HO493:=n0_;have HO496:=n1_;have HB:=n2_;clear n0_ n1_ n2_;(try clear hb);(try clear hb2);(try clear hk);(try clear hi);(try clear ho0);obtain ⟨Ao11,co11,eo11⟩:=zg HO496.out;subst eo11)|((with_reducible refine gate_callee (f:=99) rfl ?_);refine goesL_ (some 16) rfl rfl Try.func99 (by kernel_rfl) rfl #[.slice Ao11 t494.length co11,.slice A1 l1.length c1] rfl (by (try simp only [zJ,zM,zN]);first|done|rfl|(simp only [zL,zK];rfl)) ?_;(with_reducible refine (spec_l1Mul.calls k _ _ t494 _ _ l1 t497 _ ?side1 ?side2 ?side3 ?side4 A7.out).mono ?_);(case side1=>repeat (first|exact (zU HO496.out).2.2|apply zC_));(case side2=>exact (zU HO496.out).2.1);(case side3=>repeat (first|exact (zW HR1.out HB.out)|(with_reducible exact HR1.out)|apply zC_));(case side4=>exact HC1.out);rintro e w12 ⟨v498,rfl,ho0,hb⟩;refine ⟨_,rfl,?_⟩;have n0_:=zA (Kd.R_elder' (by apply zR_;exact HO493.out) (zd ho0) hb);have n1_:=zA (Kd.R_elder' (by apply zR_;exact HO496.out) (zd ho0) hb);have n2_:=zA (ze (zh (zh ho0 (Kd.R_lt (by apply zR_;exact HO493.out))) (Kd.R_lt (by apply zR_;exact HO496.out))) (zQ (by exact zB_ HB.out)));have n3_:=zA (zR (by exact zB_ HB.out) hb);clear HO493;clear HO496;clear HB;have HO493:=n0_;have HO496:=n1_;have HO499:=n2_;have HB:=n3_;clear n0_ n1_ n2_ n3_;(try clear hb);(try clear hb2);(try clear hk);(try clear hi);(try clear ho0)))
  go_ret2
  exact ⟨_,by first|rfl|(simp [errW_none,errW_some] <;> rfl)|(simp [*,errW_none,errW_some] <;> rfl),by apply zR_;exact zV HO499.out (fun _ hk=>trivial),by exact zB_ HB.out⟩
 ·replace c4:=Bool.eq_false_iff.mpr c4
  subst c4
  have H1:(some ((([]:List Int)),false)) = some (r1,r2):=by rw [if_neg (show ¬ (false = true) by decide)] at H;exact H
  clear H
  have H:=H1
  clear H1
  obtain ⟨y500,hy500⟩:∃ y_:List Int,y_ = (([]:List Int)):=⟨_,rfl⟩
  replace H:(some (y500,false)) = some (r1,r2):=by (try rw [hy500]);first|with_reducible exact H|with_reducible exact zS_ H|exact H
  have Ny500:=zA hy500
  clear hy500
  simp only [Option.some.injEq,Prod.mk.injEq] at H
  obtain ⟨rfl,rfl⟩:=H
  go_enter Try.func112,Try.ntmps112
  go_wp2_with (first|((with_reducible refine gate_callee (f:=94) rfl ?_);refine goesL_ (some 8) rfl rfl Try.func94 (by kernel_rfl) rfl #[.slice A0 l0.length c0,.slice A1 l1.length c1] rfl (by (try simp only [zJ,zM,zN]);first|done|rfl|(simp only [zL,zK];rfl)) ?_;(with_reducible refine (spec_l1Both.calls k _ _ l0 _ _ l1 false _ ?side1 ?side2 ?side3 ?side4 A3.out).mono ?_);(case side1=>repeat (first|exact HR0.out|apply zC_));(case side2=>exact HC0.out);(case side3=>repeat (first|exact HR1.out|apply zC_));(case side4=>exact HC1.out);rintro e w' ⟨rfl,⟨nd,rfl⟩⟩;refine ⟨_,rfl,?_⟩)|((with_reducible refine gate_dst (N:=10) rfl ?_);refine Kd.R_lit (Kd.int .i64) _ 3 ?hg (N:=10) ?hd (xs:=([]:List Int)) (inner:=[]) (ok:=fun _=>True) (okp:=fun _=>True) ?hr ?hp (fun _ hk=>hk) trivial (Below.refl _ _) (Nat.le_refl _) (by simp) ?_;(case hd=>rfl);(case hg=>rfl);(case hr=>first|(go_simp;done)|(go_simp;rfl));(case hp=>exact (Reps.none _ _));intro v501 w13 ho14 hb hg_ hnew_;clear hg_ hnew_;(first|rw [← Ny500.out] at ho14|(simp only [Int.reduceToNat] at ho14;rw [← Ny500.out] at ho14));have n0_:=zA (ze ho14 (zQ (by exact zB_ HB.out)));have n1_:=zA (zR (by exact zB_ HB.out) hb);clear HB;have HO502:=n0_;have HB:=n1_;clear n0_ n1_;clear hb ho14))
  go_ret2
  exact ⟨_,by first|rfl|(simp [errW_none,errW_some] <;> rfl)|(simp [*,errW_none,errW_some] <;> rfl),by apply zR_;exact HO502.out,by exact zB_ HB.out⟩

/-! ### spec_l2Rename: function 96 -/
def spec_l2Rename.f (k:Nat) (l0_0:List Int) (l0_1:List Int) (l1:List Int):Option (List Int × List Int):=(spec_PermConj.f k l0_0 l1).bind fun bt505=>((spec_PermConj.f k l0_1 l1).bind fun bt509=>(some (bt505.1,bt509.1)))
theorem spec_l2Rename.mono:∀ a0 a1 a2 k,LeO (spec_l2Rename.f k a0 a1 a2) (spec_l2Rename.f (k+1) a0 a1 a2):=by
 intro a0 a1 a2 k
 unfold spec_l2Rename.f
 repeat' first
   | (with_reducible exact spec_PermConj.mono _ _ _)
   | (with_reducible exact LeO.refl _)
   | (with_reducible exact za _)
   | (with_reducible refine zc ?_ ?_)
   | (with_reducible refine zb ?_ (fun _=>?_))
set_option maxHeartbeats 8000000 in
set_option maxRecDepth 100000 in
theorem spec_l2Rename.calls (k:Nat) (A0_0:Option Addr) (c0_0:Nat) (l0_0:List Int) (A0_1:Option Addr) (c0_1:Nat) (l0_1:List Int) (A1:Option Addr) (c1:Nat) (l1:List Int) (r1:List Int) (r2:List Int) (w:World) (hr0_0:Kd.C (Kd.int .i64) w A0_0 l0_0.length l0_0) (hc0_0:l0_0.length≤c0_0) (hr0_1:Kd.C (Kd.int .i64) w A0_1 l0_1.length l0_1) (hc0_1:l0_1.length≤c0_1) (hr1:Kd.C (Kd.int .i64) w A1 l1.length l1) (hc1:l1.length≤c1) (h:spec_l2Rename.f k l0_0 l0_1 l1 = some (r1,r2)) :
  Calls Try.prog 96 #[.agg #[.slice A0_0 l0_0.length c0_0,.slice A0_1 l0_1.length c0_1],.slice A1 l1.length c1] w fun e w' => ∃ v0_ v1_:Value,e = .returned (.agg #[v0_,v1_])∧Kd.R (Kd.int .i64) 3 w' w.heap.size (fun k_=>some k_≠(v1_:Value).ownBlock) v0_ r1∧Kd.R (Kd.int .i64) 3 w' w.heap.size (fun k_=>some k_≠(v0_:Value).ownBlock) v1_ r2∧Below w.heap.size w w':=by
 have hu33:=Try.underlying33
 have HR0_0:=zA hr0_0
 have HC0_0:=zA hc0_0
 clear hr0_0 hc0_0
 have HR0_1:=zA hr0_1
 have HC0_1:=zA hc0_1
 clear hr0_1 hc0_1
 have HR1:=zA hr1
 have HC1:=zA hc1
 clear hr1 hc1
 have HB:=zA (Below.refl w.heap.size w)
 have H:((spec_PermConj.f k l0_0 l1).bind fun bt505=>((spec_PermConj.f k l0_1 l1).bind fun bt509=>(some (bt505.1,bt509.1)))) = some (r1,r2):=h
 clear h
 replace H:=zz0 H
 obtain ⟨⟨t505,t506⟩,A30,H⟩:=H
 try dsimp only at H
 have A3:=zA A30
 clear A30
 replace H:=zz0 H
 obtain ⟨⟨t509,t510⟩,A40,H⟩:=H
 try dsimp only at H
 have A4:=zA A40
 clear A40
 simp only [Option.some.injEq,Prod.mk.injEq] at H
 obtain ⟨rfl,rfl⟩:=H
 go_enter Try.func96,Try.ntmps96
 go_wp2_with (first|((with_reducible refine gate_dst (N:=2) rfl ?_);refine box_event ?hg (N:=2) ?hd (cs:=#[.slice A0_0 l0_0.length c0_0,.slice A0_1 l0_1.length c0_1]) (t:=33) ?hr ?_;(case hd=>rfl);(case hg=>rfl);(case hr=>first|(go_simp;done)|(go_simp;rfl));intro gb503 hg w5 hbox hb;have n0_:=zA (zR (by exact zB_ HB.out) hb);have n1_:=zA (hbox);have n2_:=zA ((by rw [hg];exact (zQ (by exact zB_ HB.out)):w.heap.size≤gb503));have n3_:=zA ((by rw [hg];exact (zQ (by exact zB_ HB.out)):w.heap.size≤gb503));clear HB;have HB:=n0_;have BK503:=n1_;have GW503:=n2_;have GE503:=n3_;clear n0_ n1_ n2_ n3_;clear hb hbox hg)|((with_reducible refine gate_dst (N:=4) rfl ?_);refine box_event ?hg (N:=4) ?hd (cs:=#[.slice none 0 0,.slice none 0 0]) (t:=33) ?hr ?_;(case hd=>rfl);(case hg=>rfl);(case hr=>first|(go_simp;done)|(go_simp;rfl));intro gb504 hg w6 hbox hb;have n0_:=zA (zX (g:=gb503) (o:=.cells #[.slice A0_0 l0_0.length c0_0,.slice A0_1 l0_1.length c0_1] 33 (0,0)) (by (with_reducible repeat (first|refine zG ?_ _|refine zI ?_|refine zH ?_ _));exact BK503.out) hb);have n1_:=zA (zR (by repeat (first|(with_reducible first|exact HB.out|apply zD|apply zB|apply zC|refine zF ?_ GE503.out)|exact HB.out)) hb);have n2_:=zA (hbox);have n3_:=zA ((by rw [hg];exact (zQ (by repeat (first|(with_reducible first|exact HB.out|apply zD|apply zB|apply zC|refine zF ?_ GE503.out)|exact HB.out))):w.heap.size≤gb504));have n4_:=zA ((by rw [hg];exact (zQ (by repeat (first|(with_reducible first|exact HB.out|apply zD|apply zB|apply zC|refine zF ?_ GE503.out)|exact HB.out))):w.heap.size≤gb504));have n5_:=zA ((by rw [hg];exact Nat.ne_of_lt (blk_lt (g:=gb503) (o:=.cells #[.slice A0_0 l0_0.length c0_0,.slice A0_1 l0_1.length c0_1] 33 (0,0)) (by (with_reducible repeat (first|refine zG ?_ _|refine zI ?_|refine zH ?_ _));exact BK503.out)):gb503≠gb504));have n6_:=zA ((by rw [hg];exact Nat.ne_of_gt (blk_lt (g:=gb503) (o:=.cells #[.slice A0_0 l0_0.length c0_0,.slice A0_1 l0_1.length c0_1] 33 (0,0)) (by (with_reducible repeat (first|refine zG ?_ _|refine zI ?_|refine zH ?_ _));exact BK503.out)):gb504≠gb503));clear BK503;clear HB;have BK503:=n0_;have HB:=n1_;have BK504:=n2_;have GW504:=n3_;have GE504:=n4_;have NB503_504:=n5_;have NB504_503:=n6_;clear n0_ n1_ n2_ n3_ n4_ n5_ n6_;clear hb hbox hg;have hnb7:=NB503_504.out;have hnc7:=NB504_503.out;have hcz8_0:w6.cell? ⟨gb503,0,none⟩ = some (.slice A0_0 l0_0.length c0_0):=(zT BK503.out 0).trans rfl;have hcz8_1:w6.cell? ⟨gb503,1,none⟩ = some (.slice A0_1 l0_1.length c0_1):=(zT BK503.out 1).trans rfl;have hfz8_0:=zZ BK503.out 0;have hfz8_1:=zZ BK503.out 1)|((with_reducible refine gate_callee (f:=112) rfl ?_);refine goesL_ (some 13) rfl rfl Try.func112 (by kernel_rfl) rfl #[.slice A0_0 l0_0.length c0_0,.slice A1 l1.length c1] rfl (by (try simp only [zJ,zM,zN]);first|done|rfl|(simp only [zL,zK];rfl)) ?_;(with_reducible refine (spec_PermConj.calls k _ _ l0_0 _ _ l1 t505 t506 _ ?side1 ?side2 ?side3 ?side4 A3.out).mono ?_);(case side1=>repeat (first|exact (zW HR0_0.out HB.out)|(with_reducible exact HR0_0.out)|apply zC_));(case side2=>exact HC0_0.out);(case side3=>repeat (first|exact (zW HR1.out HB.out)|(with_reducible exact HR1.out)|apply zC_));(case side4=>exact HC1.out);rintro e w9 ⟨v507,rfl,ho0,hb⟩;refine ⟨_,rfl,?_⟩;have n0_:=zA (ze ho0 (zQ (by repeat (first|(with_reducible first|exact HB.out|apply zD|apply zB|apply zC|refine zF ?_ GE503.out|refine zF ?_ GE504.out)|exact HB.out))));have n1_:=zA (zX (g:=gb503) (o:=.cells #[.slice A0_0 l0_0.length c0_0,.slice A0_1 l0_1.length c0_1] 33 (0,0)) (by (with_reducible repeat (first|refine zG ?_ _|refine zI ?_|refine zH ?_ _));exact BK503.out) hb);have n2_:=zA (zX (g:=gb504) (o:=.cells #[.slice none 0 0,.slice none 0 0] 33 (0,0)) (by (with_reducible repeat (first|refine zG ?_ _|refine zI ?_|refine zH ?_ _));exact BK504.out) hb);have n3_:=zA (zR (by repeat (first|(with_reducible first|exact HB.out|apply zD|apply zB|apply zC|refine zF ?_ GE503.out|refine zF ?_ GE504.out)|exact HB.out)) hb);clear BK503;clear BK504;clear HB;have HO508:=n0_;have BK503:=n1_;have BK504:=n2_;have HB:=n3_;clear n0_ n1_ n2_ n3_;(try clear hb);(try clear hb2);(try clear hk);(try clear hi);(try clear ho0);have hcz10_0:w9.cell? ⟨gb503,0,none⟩ = some (.slice A0_0 l0_0.length c0_0):=(zT BK503.out 0).trans rfl;have hcz10_1:w9.cell? ⟨gb503,1,none⟩ = some (.slice A0_1 l0_1.length c0_1):=(zT BK503.out 1).trans rfl;have hfz10_0:=zZ BK503.out 0;have hfz10_1:=zZ BK503.out 1)|((with_reducible refine gate_callee (f:=112) rfl ?_);refine goesL_ (some 20) rfl rfl Try.func112 (by kernel_rfl) rfl #[.slice A0_1 l0_1.length c0_1,.slice A1 l1.length c1] rfl (by (try simp only [zJ,zM,zN]);first|done|rfl|(simp only [zL,zK];rfl)) ?_;(with_reducible refine (spec_PermConj.calls k _ _ l0_1 _ _ l1 t509 t510 _ ?side1 ?side2 ?side3 ?side4 A4.out).mono ?_);(case side1=>repeat (first|exact (zW HR0_1.out HB.out)|(with_reducible exact HR0_1.out)|apply zC_));(case side2=>exact HC0_1.out);(case side3=>repeat (first|exact (zW HR1.out HB.out)|(with_reducible exact HR1.out)|apply zC_));(case side4=>exact HC1.out);rintro e w11 ⟨v511,rfl,ho0,hb⟩;refine ⟨_,rfl,?_⟩;have n0_:=zA (Kd.R_elder' (by apply zR_;exact HO508.out) (zd ho0) hb);have n1_:=zA (ze (zh ho0 (Kd.R_lt (by apply zR_;exact HO508.out))) (zQ (by repeat (first|(with_reducible first|exact HB.out|apply zD|apply zB|apply zC|refine zF ?_ GE503.out|refine zF ?_ GE504.out)|exact HB.out))));have n2_:=zA (zX (g:=gb503) (o:=.cells #[.slice A0_0 l0_0.length c0_0,.slice A0_1 l0_1.length c0_1] 33 (0,0)) (by (with_reducible repeat (first|refine zG ?_ _|refine zI ?_|refine zH ?_ _));exact BK503.out) hb);have n3_:=zA (zX (g:=gb504) (o:=.cells #[.slice none 0 0,.slice none 0 0] 33 (0,0)) (by (with_reducible repeat (first|refine zG ?_ _|refine zI ?_|refine zH ?_ _));exact BK504.out) hb);have n4_:=zA (zR (by repeat (first|(with_reducible first|exact HB.out|apply zD|apply zB|apply zC|refine zF ?_ GE503.out|refine zF ?_ GE504.out)|exact HB.out)) hb);clear HO508;clear BK503;clear BK504;clear HB;have HO508:=n0_;have HO512:=n1_;have BK503:=n2_;have BK504:=n3_;have HB:=n4_;clear n0_ n1_ n2_ n3_ n4_;(try clear hb);(try clear hb2);(try clear hk);(try clear hi);(try clear ho0);obtain ⟨Ao12,co12,eo12⟩:=zg HO512.out;subst eo12;obtain ⟨Ao13,co13,eo13⟩:=zg HO508.out;subst eo13;have hcz14_0:w11.cell? ⟨gb504,0,none⟩ = some (.slice none 0 0):=(zT BK504.out 0).trans rfl;have hcz14_1:w11.cell? ⟨gb504,1,none⟩ = some (.slice none 0 0):=(zT BK504.out 1).trans rfl;have hfz14_0:=zZ BK504.out 0;have hfz14_1:=zZ BK504.out 1))
 refine bodyPost_ret (results_cell_row rfl _ _ gb504 33 #[.slice Ao13 t505.length co13,.slice Ao12 t509.length co12] (0,0) _ rfl (by (with_reducible repeat (first|refine zG ?_ _|refine zI ?_|refine zH ?_ _));refine blk_put (cs:=#[.slice Ao13 t505.length co13,.slice none 0 0]) ?_ 1 _ rfl;(with_reducible repeat (first|refine zG ?_ _|refine zI ?_|refine zH ?_ _));refine blk_put (cs:=#[.slice none 0 0,.slice none 0 0]) ?_ 0 _ rfl;(with_reducible repeat (first|refine zG ?_ _|refine zI ?_|refine zH ?_ _));exact BK504.out) Try.underlying33 rfl (by kernel_rfl)) rfl ?_
 exact ⟨_,_,by first|rfl|(simp [errW_none,errW_some] <;> rfl)|(simp [*,errW_none,errW_some] <;> rfl),by apply zR_;exact zV (zi (p:=⟨gb504,1,none⟩) (zi (p:=⟨gb504,0,none⟩) (Kd.R_types HO508.out BK504.out (by decide)) (fun _ hk=>hk.2) (.slice Ao13 t505.length co13)) (fun _ hk=>hk.2) (.slice Ao12 t509.length co12)) (fun _ hk=>hk.1.2),by apply zR_;exact zV (zi (p:=⟨gb504,1,none⟩) (zi (p:=⟨gb504,0,none⟩) (Kd.R_types HO512.out BK504.out (by decide)) (fun _ hk=>hk.2) (.slice Ao13 t505.length co13)) (fun _ hk=>hk.2) (.slice Ao12 t509.length co12)) (fun _ hk=>hk.1.2),by repeat (first|(with_reducible first|exact HB.out|apply zD|apply zB|apply zC|refine zF ?_ GE503.out|refine zF ?_ GE504.out)|exact HB.out)⟩

end Go.Proofs.Ytdaiohcgdpclnaa.Q
