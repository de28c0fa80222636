import Derived.Test.YtdaiohcgdpclnaaQ0
import Derived.Test.YtdaiohcgdpclnaaQ10
import Derived.Test.YtdaiohcgdpclnaaQ11
import Derived.Test.YtdaiohcgdpclnaaQ12
import Derived.Test.YtdaiohcgdpclnaaQ13
import Derived.Test.YtdaiohcgdpclnaaQ8
import Derived.Test.YtdaiohcgdpclnaaQ9
import Derived.Test.YtdaiohcgdpclnaaZ
namespace Go.Proofs.Ytdaiohcgdpclnaa.Q
open Go.RowKit Go.Proofs.YtdaiohcgdpclnaaW.PrintWords Go.Proofs.YtdaiohcgdpclnaaW.PrintLast Go.Proofs.YtdaiohcgdpclnaaW.PrintMore
attribute [local go_sem] max2_int min2_int max_two min_two max_three min_three max_four min_four   -- for this text's walks alone
set_option linter.unusedVariables false
set_option linter.unusedSimpArgs false

/-! ### spec_l3All: function 45 -/
mutual
def spec_l3All.l0:Nat→Int→List (S33)→List Int→List Int→Option ((List (S33)))
 | 0,_,_,_,_=>none
 | k+1,x1,x5,x6,x7=>if (x7.length:Int) > 0 then ((spec_MapValid.f k x7 x6).bind fun t558=>(if t558 = true then ((spec_l2Genus.f k x7 x6).bind fun t559=>(spec_l3All.j1 k x1 x5 x6 x7 (t559 == x1) x7 x6)) else (spec_l3All.j1 k x1 x5 x6 x7 false x7 x6))) else (some x5)
def spec_l3All.j1:Nat→Int→List (S33)→List Int→List Int→Bool→List Int→List Int→Option ((List (S33)))
 | 0,_,_,_,_,_,_,_=>none
 | k+1,x1,x5,x6,x7,x30,x558000,x558001=>if x30 = true then ((spec_l2Form.f k x558000 x558001 0).bind fun bt560=>((spec_l3Put.f k x5 bt560.1 bt560.2).bind fun t566=>((spec_l3Next.f k x7).bind fun t569=>(spec_l3All.l0 k x1 t566 x6 t569)))) else ((spec_l3Next.f k x7).bind fun t572=>(spec_l3All.l0 k x1 x5 x6 t572))
end
def spec_l3All.f (k:Nat) (a0:Int) (a1:Int):Option ((List (S33))):=(spec_l3Flip.f k a0).bind fun t551=>((spec_l1Same.f k (wrap64 (2 * a0))).bind fun t554=>(spec_l3All.l0 k a1 (([]:List (S33))) t551 t554))
theorem spec_l3All.mono_l:∀ k,(∀ y0 y1 y2 y3,LeO (spec_l3All.l0 k y0 y1 y2 y3) (spec_l3All.l0 (k+1) y0 y1 y2 y3))∧(∀ y0 y1 y2 y3 y4 y5 y6,LeO (spec_l3All.j1 k y0 y1 y2 y3 y4 y5 y6) (spec_l3All.j1 (k+1) y0 y1 y2 y3 y4 y5 y6))
 | 0=>⟨fun _ _ _ _ r h=>by simp [spec_l3All.l0] at h,fun _ _ _ _ _ _ _ r h=>by simp [spec_l3All.j1] at h⟩
 | k+1=>by
  obtain ⟨ih0,ih1⟩:=spec_l3All.mono_l k
  refine ⟨?_,?_⟩
  ·intro y0 y1 y2 y3
   unfold spec_l3All.l0
   repeat' first
   | (with_reducible exact ih0 _ _ _ _)
   | (with_reducible exact ih1 _ _ _ _ _ _ _)
   | (with_reducible exact spec_MapValid.mono _ _ _)
   | (with_reducible exact spec_l1Same.mono _ _)
   | (with_reducible exact spec_l2Form.mono _ _ _ _)
   | (with_reducible exact spec_l2Genus.mono _ _ _)
   | (with_reducible exact spec_l3Flip.mono _ _)
   | (with_reducible exact spec_l3Next.mono _ _)
   | (with_reducible exact spec_l3Put.mono _ _ _ _)
   | (with_reducible exact LeO.refl _)
   | (with_reducible exact za _)
   | (with_reducible refine zc ?_ ?_)
   | (with_reducible refine zb ?_ (fun _=>?_))
  ·intro y0 y1 y2 y3 y4 y5 y6
   unfold spec_l3All.j1
   repeat' first
   | (with_reducible exact ih0 _ _ _ _)
   | (with_reducible exact ih1 _ _ _ _ _ _ _)
   | (with_reducible exact spec_MapValid.mono _ _ _)
   | (with_reducible exact spec_l1Same.mono _ _)
   | (with_reducible exact spec_l2Form.mono _ _ _ _)
   | (with_reducible exact spec_l2Genus.mono _ _ _)
   | (with_reducible exact spec_l3Flip.mono _ _)
   | (with_reducible exact spec_l3Next.mono _ _)
   | (with_reducible exact spec_l3Put.mono _ _ _ _)
   | (with_reducible exact LeO.refl _)
   | (with_reducible exact za _)
   | (with_reducible refine zc ?_ ?_)
   | (with_reducible refine zb ?_ (fun _=>?_))
theorem spec_l3All.mono:∀ a0 a1 k,LeO (spec_l3All.f k a0 a1) (spec_l3All.f (k+1) a0 a1):=by
 intro a0 a1 k
 obtain ⟨ih0,ih1⟩:=spec_l3All.mono_l k
 unfold spec_l3All.f
 repeat' first
   | (with_reducible exact ih0 _ _ _ _)
   | (with_reducible exact ih1 _ _ _ _ _ _ _)
   | (with_reducible exact spec_MapValid.mono _ _ _)
   | (with_reducible exact spec_l1Same.mono _ _)
   | (with_reducible exact spec_l2Form.mono _ _ _ _)
   | (with_reducible exact spec_l2Genus.mono _ _ _)
   | (with_reducible exact spec_l3Flip.mono _ _)
   | (with_reducible exact spec_l3Next.mono _ _)
   | (with_reducible exact spec_l3Put.mono _ _ _ _)
   | (with_reducible exact LeO.refl _)
   | (with_reducible exact za _)
   | (with_reducible refine zc ?_ ?_)
   | (with_reducible refine zb ?_ (fun _=>?_))
set_option maxHeartbeats 8000000 in
set_option maxRecDepth 100000 in
theorem spec_l3All.calls (k:Nat) (a0:Int) (a1:Int) (r:List (S33)) (w:World) (h:spec_l3All.f k a0 a1 = some r) :
  Calls Try.prog 45 #[.int .i64 a0,.int .i64 a1] w fun e w' => ∃ v0_:Value,e = .returned (v0_)∧Kd.V k33 33 w' w.heap.size (fun k_=>(w.heap.size≤k_)) v0_ r∧Below w.heap.size w w':=by
 have hu33:=Try.underlying33
 have HB:=zA (Below.refl w.heap.size w)
 have H:((spec_l3Flip.f k a0).bind fun t551=>((spec_l1Same.f k (wrap64 (2 * a0))).bind fun t554=>(spec_l3All.l0 k a1 (([]:List (S33))) t551 t554))) = some r:=h
 clear h
 obtain ⟨y548,hy548⟩:∃ y_:List (S33),y_ = (([]:List (S33))):=⟨_,rfl⟩
 replace H:((spec_l3Flip.f k a0).bind fun t551=>((spec_l1Same.f k (wrap64 (2 * a0))).bind fun t554=>(spec_l3All.l0 k a1 y548 t551 t554))) = some r:=by (try rw [hy548]);first|with_reducible exact H|with_reducible exact zS_ H|exact H
 have Ny548:=zA hy548
 clear hy548
 replace H:=zz0 H
 obtain ⟨t551,A30,H⟩:=H
 try dsimp only at H
 have A3:=zA A30
 clear A30
 replace H:=zz0 H
 obtain ⟨t554,A40,H⟩:=H
 try dsimp only at H
 have A4:=zA A40
 clear A40
 have H':=zA H
 clear H
 go_enter Try.func45,Try.ntmps45
 go_wp2_with (first|((with_reducible refine gate_dst (N:=9) rfl ?_);refine Kd.S_lit k33 _ 33 ?hg (N:=9) ?hd (xs:=([]:List (S33))) (inner:=[]) (ok:=fun _=>True) (okp:=fun _=>True) ?hr ?hp (fun _ hk=>hk) trivial (Below.refl _ _) (Nat.le_refl _) (by simp) ?_;(case hd=>rfl);(case hg=>rfl);(case hr=>first|(go_simp;done)|(go_simp;rfl));(case hp=>exact (Reps.none _ _));intro v549 w5 ho6 hb hg_ hnew_;clear hg_ hnew_;(first|rw [← Ny548.out] at ho6|(simp only [Int.reduceToNat] at ho6;rw [← Ny548.out] at ho6));have n0_:=zA (Kd.S_lower (Kd.S_newM (M:=fun k_=>(w.heap.size≤k_)) ho6 (zQ (by exact zB_ HB.out)) (fun k_ h_=>h_)) (zQ (by exact zB_ HB.out)));have n1_:=zA (zR (by exact zB_ HB.out) hb);clear HB;have HO550:=n0_;have HB:=n1_;clear n0_ n1_;clear hb ho6)|((with_reducible refine gate_callee (f:=73) rfl ?_);refine goesL_ (some 11) rfl rfl Try.func73 (by kernel_rfl) rfl #[.int .i64 a0] rfl (by (try simp only [zJ,zM,zN]);first|done|rfl|(simp only [zL,zK];rfl)) ?_;(with_reducible refine (spec_l3Flip.calls k a0 t551 _ A3.out).mono ?_);rintro e w7 ⟨v552,rfl,ho0,hb⟩;refine ⟨_,rfl,?_⟩;have n0_:=zA (Kd.S_elder' (by (with_reducible repeat (first|apply Kd.S_alloc|apply Kd.S_drewN|apply Kd.S_drew));exact HO550.out) (zd ho0) hb);have n1_:=zA (ze (Kd.R_newM (M:=fun k_=>(w.heap.size≤k_)) ho0 (zQ (by exact zB_ HB.out)) (fun k_ h_=>h_)) (zQ (by exact zB_ HB.out)));have n2_:=zA (zR (by exact zB_ HB.out) hb);clear HO550;clear HB;have HO550:=n0_;have HO553:=n1_;have HB:=n2_;clear n0_ n1_ n2_;(try clear hb);(try clear hb2);(try clear hk);(try clear hi);(try clear ho0))|((with_reducible refine gate_callee (f:=74) rfl ?_);refine goesL_ (some 14) rfl rfl Try.func74 (by kernel_rfl) rfl #[.int .i64 (wrap64 (2 * a0))] rfl (by (try simp only [zJ,zM,zN]);first|done|rfl|(simp only [zL,zK];rfl)) ?_;(with_reducible refine (spec_l1Same.calls k (wrap64 (2 * a0)) t554 _ A4.out).mono ?_);rintro e w8 ⟨v555,rfl,ho0,hb⟩;refine ⟨_,rfl,?_⟩;have n0_:=zA (Kd.S_elder' (by (with_reducible repeat (first|apply Kd.S_alloc|apply Kd.S_drewN|apply Kd.S_drew));exact HO550.out) (zd ho0) hb);have n1_:=zA (Kd.R_elder' (by apply zR_;exact HO553.out) (zd ho0) hb);have n2_:=zA (ze (zh (Kd.R_newM (M:=fun k_=>(w.heap.size≤k_)) ho0 (zQ (by exact zB_ HB.out)) (fun k_ h_=>h_)) (Kd.R_lt (by apply zR_;exact HO553.out))) (zQ (by exact zB_ HB.out)));have n3_:=zA (zR (by exact zB_ HB.out) hb);clear HO550;clear HO553;clear HB;have HO550:=n0_;have HO553:=n1_;have HO556:=n2_;have HB:=n3_;clear n0_ n1_ n2_ n3_;(try clear hb);(try clear hb2);(try clear hk);(try clear hi);(try clear ho0)))
 go_loopg [5,7] k (fun kq v5 v7 w' => ∃ (x5_1:List (S33)) (x7_1:List Int),Aside0 (spec_l3All.l0 kq a1 x5_1 t551 x7_1 = some r)∧Aside0 (kq≤k)∧Aside0 (Kd.V k33 33 w' w.heap.size (fun k_=>(w.heap.size≤k_)∧some k_≠(v552:Value).ownBlock∧some k_≠(v7:Value).ownBlock) v5 x5_1)∧Aside0 (Kd.R (Kd.int .i64) 3 w' w.heap.size (fun k_=>(w.heap.size≤k_)∧some k_≠(v7:Value).ownBlock) v552 t551)∧Aside0 (Kd.R (Kd.int .i64) 3 w' w.heap.size (fun k_=>(w.heap.size≤k_)∧some k_≠(v552:Value).ownBlock) v7 x7_1)∧Aside0 (Below w.heap.size w w'))
 case atStart=>exact ⟨(y548),(t554),H',⟨Nat.le_refl _⟩,⟨Kd.S_V (by (with_reducible repeat (first|apply Kd.S_alloc|apply Kd.S_drewN|apply Kd.S_drew));exact Kd.S_mono HO550.out (fun _ hk=>⟨hk.1.1.1,⟨hk.1.2,hk.2⟩⟩))⟩,⟨by apply zR_;exact zV HO553.out (fun _ hk=>⟨hk.1.1,hk.2⟩)⟩,⟨by apply zR_;exact zV HO556.out (fun _ hk=>⟨hk.1.1,hk.2⟩)⟩,⟨by exact zB_ HB.out⟩⟩
 case round =>
  clear H'
  (try clear p2);(try clear c4);(try clear p6);(try clear c7)
  obtain ⟨x5_1,x7_1,HA,HK1,HO_5,HO_6,HO_7,HB⟩:=hrel
  cases gk with
  | zero=>exact absurd HA.out (by simp [spec_l3All.l0])
  | succ k1 =>
   have H:=HA.out
   clear HA
   simp only [spec_l3All.l0] at H
   by_cases c9:(x7_1.length:Int) > 0
   ·rw [if_pos c9] at H
    have c9b0:decide (0 < (x7_1.length:Int)) = true:=zO c9
    have c9b1:decide (0 < x7_1.length) = true:=zO (by omega)
    clear c9
    have HC10:=zA H
    clear H
    obtain ⟨Ao11,co11,eo11⟩:=zg HO_7.out
    subst eo11
    obtain ⟨Ao12,co12,eo12⟩:=zg HO_6.out
    subst eo12
    go_upto_region 7 with (first|((with_reducible refine gate_dst (N:=8) rfl ?_);refine box_event ?hg (N:=8) ?hd (cs:=#[.slice none 0 0,.slice none 0 0]) (t:=33) ?hr ?_;(case hd=>rfl);(case hg=>rfl);(case hr=>first|(go_simp;done)|(go_simp;rfl));intro gb557 hg w13 hbox hb;have n0_:=zA (Kd.V_below (Kd.V_elderB (by apply zV_;exact HO_5.out) gb557 (Nat.le_of_eq hg.symm)) hb);have n1_:=zA (zj (by apply zR_;exact HO_6.out) hb);have n2_:=zA (zj (by apply zR_;exact HO_7.out) hb);have n3_:=zA (zR (by exact zB_ HB.out) hb);have n4_:=zA (hbox);have n5_:=zA ((by rw [hg];exact (zQ (by exact zB_ HB.out)):w.heap.size≤gb557));have n6_:=zA ((by rw [hg];exact (zQ (by exact zB_ HB.out)):w.heap.size≤gb557));clear HO_5;clear HO_6;clear HO_7;clear HB;have HO_5:=n0_;have HO_6:=n1_;have HO_7:=n2_;have HB:=n3_;have BK557:=n4_;have GW557:=n5_;have GE557:=n6_;clear n0_ n1_ n2_ n3_ n4_ n5_ n6_;clear hb hbox hg;have hcz14_0:w13.cell? ⟨gb557,0,none⟩ = some (.slice none 0 0):=(zT BK557.out 0).trans rfl;have hcz14_1:w13.cell? ⟨gb557,1,none⟩ = some (.slice none 0 0):=(zT BK557.out 1).trans rfl;have hfz14_0:=zZ BK557.out 0;have hfz14_1:=zZ BK557.out 1))
    (try simp only [Act.put,zP_])
    go_cut [30] (fun v30 wc => ∃ (kq:Nat) (x30_9:Bool),v30 = .bool x30_9∧Aside0 (spec_l3All.j1 kq a1 x5_1 t551 x7_1 x30_9 x7_1 t551 = some r)∧Aside0 (kq≤k1)∧Aside0 (Kd.V k33 33 wc w.heap.size (fun k_=>(w.heap.size≤k_)∧some k_≠((.slice Ao12 t551.length co12):Value).ownBlock∧some k_≠((.slice Ao11 x7_1.length co11):Value).ownBlock∧some k_≠((.slice Ao11 x7_1.length co11):Value).ownBlock∧some k_≠((.slice Ao12 t551.length co12):Value).ownBlock∧k_≠gb557) u5 x5_1)∧Aside0 (Kd.R (Kd.int .i64) 3 wc w.heap.size (fun k_=>(w.heap.size≤k_)∧some k_≠((.slice Ao11 x7_1.length co11):Value).ownBlock∧some k_≠((.slice Ao11 x7_1.length co11):Value).ownBlock) (.slice Ao12 t551.length co12) t551)∧Aside0 (Kd.R (Kd.int .i64) 3 wc w.heap.size (fun k_=>(w.heap.size≤k_)∧some k_≠((.slice Ao12 t551.length co12):Value).ownBlock∧some k_≠((.slice Ao12 t551.length co12):Value).ownBlock) (.slice Ao11 x7_1.length co11) x7_1)∧Aside0 (Kd.R (Kd.int .i64) 3 wc w.heap.size (fun k_=>(w.heap.size≤k_)∧some k_≠((.slice Ao12 t551.length co12):Value).ownBlock∧some k_≠((.slice Ao12 t551.length co12):Value).ownBlock) (.slice Ao11 x7_1.length co11) x7_1)∧Aside0 (Kd.R (Kd.int .i64) 3 wc w.heap.size (fun k_=>(w.heap.size≤k_)∧some k_≠((.slice Ao11 x7_1.length co11):Value).ownBlock∧some k_≠((.slice Ao11 x7_1.length co11):Value).ownBlock) (.slice Ao12 t551.length co12) t551)∧Aside0 (wc.heap[gb557]? = some (.cells #[(.slice Ao11 x7_1.length co11),(.slice Ao12 t551.length co12)] 33 (0,0)))∧Aside0 (Below w.heap.size w wc))
    case first =>
     have H:=HC10.out
     clear HC10
     replace H:=zz0 H
     obtain ⟨t558,A150,H⟩:=H
     try dsimp only at H
     have A15:=zA A150
     clear A150
     by_cases c16:t558 = true
     ·subst c16
      rw [if_pos rfl] at H;try dsimp only at H
      replace H:=zz0 H
      obtain ⟨t559,A170,H⟩:=H
      try dsimp only at H
      have A17:=zA A170
      clear A170
      have H':=zA H
      clear H
      have hcz18_0:w13.cell? ⟨gb557,0,none⟩ = some (.slice none 0 0):=(zT BK557.out 0).trans rfl
      have hcz18_1:w13.cell? ⟨gb557,1,none⟩ = some (.slice none 0 0):=(zT BK557.out 1).trans rfl
      have hfz18_0:=zZ BK557.out 0
      have hfz18_1:=zZ BK557.out 1
      go_wp2_with (first|((with_reducible refine gate_callee (f:=76) rfl ?_);refine goesL_ (some 24) rfl rfl Try.func76 (by kernel_rfl) rfl #[.agg #[.slice Ao11 x7_1.length co11,.slice Ao12 t551.length co12]] rfl (by (try simp only [zJ,zM,zN]);first|done|rfl|(simp only [zL,zK];rfl)) ?_;(with_reducible refine (spec_MapValid.calls k1 _ _ x7_1 _ _ t551 true _ ?side1 ?side2 ?side3 ?side4 A15.out).mono ?_);(case side1=>refine (zU (e:=3) (base:=w.heap.size) (ok:=fun k_=>((w.heap.size≤k_)∧some k_≠(.slice Ao12 t551.length co12:Value).ownBlock)) (n:=x7_1.length) (c:=co11) ?_).2.2;exact (by apply zR_;exact (zV (zi (p:=⟨gb557,1,none⟩) (zi (p:=⟨gb557,0,none⟩) (Kd.R_types HO_7.out BK557.out (by decide)) (fun _ hk=>hk.2) (.slice Ao11 x7_1.length co11)) (fun _ hk=>hk.2) (.slice Ao12 t551.length co12)) (fun _ h_=>h_.1))));(case side2=>exact (zU HO_7.out).2.1);(case side3=>refine (zU (e:=3) (base:=w.heap.size) (ok:=fun k_=>((w.heap.size≤k_)∧some k_≠(.slice Ao11 x7_1.length co11:Value).ownBlock)) (n:=t551.length) (c:=co12) ?_).2.2;exact (by apply zR_;exact (zV (zi (p:=⟨gb557,1,none⟩) (zi (p:=⟨gb557,0,none⟩) (Kd.R_types HO_6.out BK557.out (by decide)) (fun _ hk=>hk.2) (.slice Ao11 x7_1.length co11)) (fun _ hk=>hk.2) (.slice Ao12 t551.length co12)) (fun _ h_=>h_.1))));(case side4=>exact (zU HO_6.out).2.1);rintro e w19 ⟨rfl,hb⟩;refine ⟨_,rfl,?_⟩;have n0_:=zA (Kd.V_below (by apply zV_;exact (Kd.V_mono (Kd.V_far (p:=⟨gb557,1,none⟩) (Kd.V_far (p:=⟨gb557,0,none⟩) (Kd.V_mono HO_5.out (fun k_ hk=>(⟨hk,hk.2⟩:_∧k_≠gb557))) (fun _ hk=>hk.2) (.slice Ao11 x7_1.length co11)) (fun _ hk=>hk.2) (.slice Ao12 t551.length co12)) (fun _ h_=>h_.1))) hb);have n1_:=zA (zj (by apply zR_;exact (zV (zi (p:=⟨gb557,1,none⟩) (zi (p:=⟨gb557,0,none⟩) (Kd.R_types HO_6.out BK557.out (by decide)) (fun _ hk=>hk.2) (.slice Ao11 x7_1.length co11)) (fun _ hk=>hk.2) (.slice Ao12 t551.length co12)) (fun _ h_=>h_.1))) hb);have n2_:=zA (zj (by apply zR_;exact (zV (zi (p:=⟨gb557,1,none⟩) (zi (p:=⟨gb557,0,none⟩) (Kd.R_types HO_7.out BK557.out (by decide)) (fun _ hk=>hk.2) (.slice Ao11 x7_1.length co11)) (fun _ hk=>hk.2) (.slice Ao12 t551.length co12)) (fun _ h_=>h_.1))) hb);have n3_:=zA (zX (g:=gb557) (o:=.cells #[.slice Ao11 x7_1.length co11,.slice Ao12 t551.length co12] 33 (0,0)) (by (with_reducible repeat (first|refine zG ?_ _|refine zI ?_|refine zH ?_ _));refine blk_put (cs:=#[.slice Ao11 x7_1.length co11,.slice none 0 0]) ?_ 1 _ rfl;(with_reducible repeat (first|refine zG ?_ _|refine zI ?_|refine zH ?_ _));refine blk_put (cs:=#[.slice none 0 0,.slice none 0 0]) ?_ 0 _ rfl;(with_reducible repeat (first|refine zG ?_ _|refine zI ?_|refine zH ?_ _));exact BK557.out) hb);have n4_:=zA (zR (by repeat (first|(with_reducible first|exact HB.out|apply zD|apply zB|apply zC|refine zF ?_ GE557.out)|exact HB.out)) hb);clear HO_5;clear HO_6;clear HO_7;clear BK557;clear HB;have HO_5:=n0_;have HO_6:=n1_;have HO_7:=n2_;have BK557:=n3_;have HB:=n4_;clear n0_ n1_ n2_ n3_ n4_;(try clear hb);(try clear hb2);(try clear hk);(try clear hi);have hcz20_0:w19.cell? ⟨gb557,0,none⟩ = some (.slice Ao11 x7_1.length co11):=(zT BK557.out 0).trans rfl;have hcz20_1:w19.cell? ⟨gb557,1,none⟩ = some (.slice Ao12 t551.length co12):=(zT BK557.out 1).trans rfl;have hfz20_0:=zZ BK557.out 0;have hfz20_1:=zZ BK557.out 1)|(go_at_call 77;(with_reducible refine (spec_l2Genus.calls k1 _ _ x7_1 _ _ t551 t559 _ ?side1 ?side2 ?side3 ?side4 A17.out).mono ?_);(case side1=>repeat (first|exact (zU HO_7.out).2.2|apply zC_));(case side2=>exact (zU HO_7.out).2.1);(case side3=>repeat (first|exact (zU HO_6.out).2.2|apply zC_));(case side4=>exact (zU HO_6.out).2.1);rintro e w21 ⟨rfl,hb⟩;have n0_:=zA (Kd.V_below (by apply zV_;exact HO_5.out) hb);have n1_:=zA (zj (by apply zR_;exact HO_6.out) hb);have n2_:=zA (zj (by apply zR_;exact HO_7.out) hb);have n3_:=zA (zX (g:=gb557) (o:=.cells #[.slice Ao11 x7_1.length co11,.slice Ao12 t551.length co12] 33 (0,0)) (by (with_reducible repeat (first|refine zG ?_ _|refine zI ?_|refine zH ?_ _));exact BK557.out) hb);have n4_:=zA (zR (by repeat (first|(with_reducible first|exact HB.out|apply zD|apply zB|apply zC|refine zF ?_ GE557.out)|exact HB.out)) hb);clear HO_5;clear HO_6;clear HO_7;clear BK557;clear HB;have HO_5:=n0_;have HO_6:=n1_;have HO_7:=n2_;have BK557:=n3_;have HB:=n4_;clear n0_ n1_ n2_ n3_ n4_;(try clear hb);(try clear hb2);(try clear hk);(try clear hi)))
      go_meet
      case rel=>exact ⟨_,((t559 == a1)),(by first|rfl|(simp;done)|(simp [*];done)),H',⟨by have:=HK1.out;first|omega|exact Nat.le_refl _⟩,⟨by apply zV_;exact Kd.V_mono HO_5.out (fun _ hk=>⟨hk.1.1,⟨hk.1.2.1,⟨hk.1.2.2,⟨hk.1.2.2,⟨hk.1.2.1,hk.2⟩⟩⟩⟩⟩)⟩,⟨by apply zR_;exact zV HO_6.out (fun _ hk=>⟨hk.1,⟨hk.2,hk.2⟩⟩)⟩,⟨by apply zR_;exact zV HO_7.out (fun _ hk=>⟨hk.1,⟨hk.2,hk.2⟩⟩)⟩,⟨by apply zR_;exact zV HO_7.out (fun _ hk=>⟨hk.1,⟨hk.2,hk.2⟩⟩)⟩,⟨by apply zR_;exact zV HO_6.out (fun _ hk=>⟨hk.1,⟨hk.2,hk.2⟩⟩)⟩,⟨by (with_reducible repeat (first|refine zG ?_ _|refine zI ?_|refine zH ?_ _));exact BK557.out⟩,⟨by repeat (first|(with_reducible first|exact HB.out|apply zD|apply zB|apply zC|refine zF ?_ GE557.out)|exact HB.out)⟩⟩
     ·replace c16:=Bool.eq_false_iff.mpr c16
      subst c16
      have H1:(spec_l3All.j1 k1 a1 x5_1 t551 x7_1 false x7_1 t551) = some r:=by rw [if_neg (show ¬ (false = true) by decide)] at H;exact H
      clear H
      have H:=H1
      clear H1
      have H':=zA H
      clear H
      have hcz22_0:w13.cell? ⟨gb557,0,none⟩ = some (.slice none 0 0):=(zT BK557.out 0).trans rfl
      have hcz22_1:w13.cell? ⟨gb557,1,none⟩ = some (.slice none 0 0):=(zT BK557.out 1).trans rfl
      have hfz22_0:=zZ BK557.out 0
      have hfz22_1:=zZ BK557.out 1
      go_wp2_with (first|((with_reducible refine gate_callee (f:=76) rfl ?_);refine goesL_ (some 24) rfl rfl Try.func76 (by kernel_rfl) rfl #[.agg #[.slice Ao11 x7_1.length co11,.slice Ao12 t551.length co12]] rfl (by (try simp only [zJ,zM,zN]);first|done|rfl|(simp only [zL,zK];rfl)) ?_;(with_reducible refine (spec_MapValid.calls k1 _ _ x7_1 _ _ t551 false _ ?side1 ?side2 ?side3 ?side4 A15.out).mono ?_);(case side1=>refine (zU (e:=3) (base:=w.heap.size) (ok:=fun k_=>((w.heap.size≤k_)∧some k_≠(.slice Ao12 t551.length co12:Value).ownBlock)) (n:=x7_1.length) (c:=co11) ?_).2.2;exact (by apply zR_;exact (zV (zi (p:=⟨gb557,1,none⟩) (zi (p:=⟨gb557,0,none⟩) (Kd.R_types HO_7.out BK557.out (by decide)) (fun _ hk=>hk.2) (.slice Ao11 x7_1.length co11)) (fun _ hk=>hk.2) (.slice Ao12 t551.length co12)) (fun _ h_=>h_.1))));(case side2=>exact (zU HO_7.out).2.1);(case side3=>refine (zU (e:=3) (base:=w.heap.size) (ok:=fun k_=>((w.heap.size≤k_)∧some k_≠(.slice Ao11 x7_1.length co11:Value).ownBlock)) (n:=t551.length) (c:=co12) ?_).2.2;exact (by apply zR_;exact (zV (zi (p:=⟨gb557,1,none⟩) (zi (p:=⟨gb557,0,none⟩) (Kd.R_types HO_6.out BK557.out (by decide)) (fun _ hk=>hk.2) (.slice Ao11 x7_1.length co11)) (fun _ hk=>hk.2) (.slice Ao12 t551.length co12)) (fun _ h_=>h_.1))));(case side4=>exact (zU HO_6.out).2.1);rintro e w23 ⟨rfl,hb⟩;refine ⟨_,rfl,?_⟩;have n0_:=zA (Kd.V_below (by apply zV_;exact (Kd.V_mono (Kd.V_far (p:=⟨gb557,1,none⟩) (Kd.V_far (p:=⟨gb557,0,none⟩) (Kd.V_mono HO_5.out (fun k_ hk=>(⟨hk,hk.2⟩:_∧k_≠gb557))) (fun _ hk=>hk.2) (.slice Ao11 x7_1.length co11)) (fun _ hk=>hk.2) (.slice Ao12 t551.length co12)) (fun _ h_=>h_.1))) hb);have n1_:=zA (zj (by apply zR_;exact (zV (zi (p:=⟨gb557,1,none⟩) (zi (p:=⟨gb557,0,none⟩) (Kd.R_types HO_6.out BK557.out (by decide)) (fun _ hk=>hk.2) (.slice Ao11 x7_1.length co11)) (fun _ hk=>hk.2) (.slice Ao12 t551.length co12)) (fun _ h_=>h_.1))) hb);have n2_:=zA (zj (by apply zR_;exact (zV (zi (p:=⟨gb557,1,none⟩) (zi (p:=⟨gb557,0,none⟩) (Kd.R_types HO_7.out BK557.out (by decide)) (fun _ hk=>hk.2) (.slice Ao11 x7_1.length co11)) (fun _ hk=>hk.2) (.slice Ao12 t551.length co12)) (fun _ h_=>h_.1))) hb);have n3_:=zA (zX (g:=gb557) (o:=.cells #[.slice Ao11 x7_1.length co11,.slice Ao12 t551.length co12] 33 (0,0)) (by (with_reducible repeat (first|refine zG ?_ _|refine zI ?_|refine zH ?_ _));refine blk_put (cs:=#[.slice Ao11 x7_1.length co11,.slice none 0 0]) ?_ 1 _ rfl;(with_reducible repeat (first|refine zG ?_ _|refine zI ?_|refine zH ?_ _));refine blk_put (cs:=#[.slice none 0 0,.slice none 0 0]) ?_ 0 _ rfl;(with_reducible repeat (first|refine zG ?_ _|refine zI ?_|refine zH ?_ _));exact BK557.out) hb);have n4_:=zA (zR (by repeat (first|(with_reducible first|exact HB.out|apply zD|apply zB|apply zC|refine zF ?_ GE557.out)|exact HB.out)) hb);clear HO_5;clear HO_6;clear HO_7;clear BK557;clear HB;have HO_5:=n0_;have HO_6:=n1_;have HO_7:=n2_;have BK557:=n3_;have HB:=n4_;clear n0_ n1_ n2_ n3_ n4_;(try clear hb);(try clear hb2);(try clear hk);(try clear hi)))
      go_meet
      case rel=>exact ⟨_,(false),(by first|rfl|(simp;done)|(simp [*];done)),H',⟨by have:=HK1.out;first|omega|exact Nat.le_refl _⟩,⟨by apply zV_;exact Kd.V_mono HO_5.out (fun _ hk=>⟨hk.1.1,⟨hk.1.2.1,⟨hk.1.2.2,⟨hk.1.2.2,⟨hk.1.2.1,hk.2⟩⟩⟩⟩⟩)⟩,⟨by apply zR_;exact zV HO_6.out (fun _ hk=>⟨hk.1,⟨hk.2,hk.2⟩⟩)⟩,⟨by apply zR_;exact zV HO_7.out (fun _ hk=>⟨hk.1,⟨hk.2,hk.2⟩⟩)⟩,⟨by apply zR_;exact zV HO_7.out (fun _ hk=>⟨hk.1,⟨hk.2,hk.2⟩⟩)⟩,⟨by apply zR_;exact zV HO_6.out (fun _ hk=>⟨hk.1,⟨hk.2,hk.2⟩⟩)⟩,⟨by (with_reducible repeat (first|refine zG ?_ _|refine zI ?_|refine zH ?_ _));exact BK557.out⟩,⟨by repeat (first|(with_reducible first|exact HB.out|apply zD|apply zB|apply zC|refine zF ?_ GE557.out)|exact HB.out)⟩⟩
    case rest =>
     clear HC10
     (try clear c1);(try clear p2);(try clear c4);(try clear p6);(try clear c7);(try clear c9);(try clear c9b0);(try clear c9b1);(try clear c16);(try clear hcz14_0);(try clear hcz14_1);(try clear hcz18_0);(try clear hcz18_1);(try clear hcz20_0);(try clear hcz20_1);(try clear hcz22_0);(try clear hcz22_1);(try clear hfz14_0);(try clear hfz14_1);(try clear hfz18_0);(try clear hfz18_1);(try clear hfz20_0);(try clear hfz20_1);(try clear hfz22_0);(try clear hfz22_1);(try clear p2);(try clear p6)
     obtain ⟨kq,x30_9,rfl,HA,HJ9,HO_5,HO_6,HO_7,HO_558000,HO_558001,BK557,HB⟩:=hcut
     cases kq with
     | zero=>exact absurd HA.out (by simp [spec_l3All.j1])
     | succ kj9 =>
      have H:=HA.out
      clear HA
      simp only [spec_l3All.j1] at H
      by_cases c24:x30_9 = true
      ·subst c24
       rw [if_pos rfl] at H;try dsimp only at H
       replace H:=zz0 H
       obtain ⟨⟨t560,t563⟩,A250,H⟩:=H
       try dsimp only at H
       have A25:=zA A250
       clear A250
       replace H:=zz0 H
       obtain ⟨t566,A260,H⟩:=H
       try dsimp only at H
       have A26:=zA A260
       clear A260
       replace H:=zz0 H
       obtain ⟨t569,A270,H⟩:=H
       try dsimp only at H
       have A27:=zA A270
       clear A270
       have H':=zA H
       clear H
       have hcz28_0:wc.cell? ⟨gb557,0,none⟩ = some (.slice Ao11 x7_1.length co11):=(zT BK557.out 0).trans rfl
       have hcz28_1:wc.cell? ⟨gb557,1,none⟩ = some (.slice Ao12 t551.length co12):=(zT BK557.out 1).trans rfl
       have hfz28_0:=zZ BK557.out 0
       have hfz28_1:=zZ BK557.out 1
       go_wp2_with (first|((with_reducible refine gate_callee (f:=78) rfl ?_);refine goesL_ (some 33) rfl rfl Try.func78 (by kernel_rfl) rfl #[.agg #[.slice Ao11 x7_1.length co11,.slice Ao12 t551.length co12],.int .i64 0] rfl (by (try simp only [zJ,zM,zN]);first|done|rfl|(simp only [zL,zK];rfl)) ?_;(with_reducible refine (spec_l2Form.calls kj9 _ _ x7_1 _ _ t551 0 t560 t563 _ ?side1 ?side2 ?side3 ?side4 A25.out).mono ?_);(case side1=>repeat (first|exact (zU HO_558000.out).2.2|apply zC_));(case side2=>exact (zU HO_558000.out).2.1);(case side3=>repeat (first|exact (zU HO_558001.out).2.2|apply zC_));(case side4=>exact (zU HO_558001.out).2.1);rintro e w29 ⟨v561,v564,rfl,ho0,ho1,hb⟩;refine ⟨_,rfl,?_⟩;have n0_:=zA (Kd.V_mono (Kd.V_told (Kd.V_told (Kd.V_old (by apply zV_;exact HO_5.out) hb) (zd ho0)) (zd ho1)) (fun _ h_=>h_.1));have n1_:=zA (zV (Kd.R_told (Kd.R_told (Kd.R_old (by apply zR_;exact HO_6.out) hb) (zd ho0)) (zd ho1)) (fun _ h_=>h_.1));have n2_:=zA (zV (Kd.R_told (Kd.R_told (Kd.R_old (by apply zR_;exact HO_7.out) hb) (zd ho0)) (zd ho1)) (fun _ h_=>h_.1));have n3_:=zA (zV (Kd.R_told (Kd.R_told (Kd.R_old (by apply zR_;exact HO_558000.out) hb) (zd ho0)) (zd ho1)) (fun _ h_=>h_.1));have n4_:=zA (zV (Kd.R_told (Kd.R_told (Kd.R_old (by apply zR_;exact HO_558001.out) hb) (zd ho0)) (zd ho1)) (fun _ h_=>h_.1));have n5_:=zA (ze (zh (zh (zh (zh (Kd.R_newM (M:=fun k_=>(w.heap.size≤k_)) ho0 (zQ (by repeat (first|(with_reducible first|exact HB.out|apply zD|apply zB|apply zC|refine zF ?_ GE557.out)|exact HB.out))) (fun k_ h_=>h_)) (Kd.R_lt (by apply zR_;exact HO_6.out))) (Kd.R_lt (by apply zR_;exact HO_7.out))) (Kd.R_lt (by apply zR_;exact HO_558000.out))) (Kd.R_lt (by apply zR_;exact HO_558001.out))) (zQ (by repeat (first|(with_reducible first|exact HB.out|apply zD|apply zB|apply zC|refine zF ?_ GE557.out)|exact HB.out))));have n6_:=zA (ze (zh (zh (zh (zh (Kd.R_newM (M:=fun k_=>(w.heap.size≤k_)) ho1 (zQ (by repeat (first|(with_reducible first|exact HB.out|apply zD|apply zB|apply zC|refine zF ?_ GE557.out)|exact HB.out))) (fun k_ h_=>h_)) (Kd.R_lt (by apply zR_;exact HO_6.out))) (Kd.R_lt (by apply zR_;exact HO_7.out))) (Kd.R_lt (by apply zR_;exact HO_558000.out))) (Kd.R_lt (by apply zR_;exact HO_558001.out))) (zQ (by repeat (first|(with_reducible first|exact HB.out|apply zD|apply zB|apply zC|refine zF ?_ GE557.out)|exact HB.out))));have n7_:=zA (zX (g:=gb557) (o:=.cells #[.slice Ao11 x7_1.length co11,.slice Ao12 t551.length co12] 33 (0,0)) (by (with_reducible repeat (first|refine zG ?_ _|refine zI ?_|refine zH ?_ _));exact BK557.out) hb);have n8_:=zA (zR (by repeat (first|(with_reducible first|exact HB.out|apply zD|apply zB|apply zC|refine zF ?_ GE557.out)|exact HB.out)) hb);clear HO_5;clear HO_6;clear HO_7;clear HO_558000;clear HO_558001;clear BK557;clear HB;have HO_5:=n0_;have HO_6:=n1_;have HO_7:=n2_;have HO_558000:=n3_;have HO_558001:=n4_;have HO562:=n5_;have HO565:=n6_;have BK557:=n7_;have HB:=n8_;clear n0_ n1_ n2_ n3_ n4_ n5_ n6_ n7_ n8_;(try clear hb);(try clear hb2);(try clear hk);(try clear hi);(try clear ho0);(try clear ho1);obtain ⟨Ao30,co30,eo30⟩:=Kd.V_slice HO_5.out;subst eo30;obtain ⟨Ao31,co31,eo31⟩:=zg HO562.out;subst eo31;obtain ⟨Ao32,co32,eo32⟩:=zg HO565.out;subst eo32)|((with_reducible refine gate_callee (f:=64) rfl ?_);refine goesL_ (some 34) rfl rfl Try.func64 (by kernel_rfl) rfl #[.slice Ao30 x5_1.length co30,.agg #[.slice Ao31 t560.length co31,.slice Ao32 t563.length co32]] rfl (by (try simp only [zJ,zM,zN]);first|done|rfl|(simp only [zL,zK];rfl)) ?_;(with_reducible refine (spec_l3Put.calls kj9 (fun k_=>((((w.heap.size≤k_)∧(some k_≠(.slice Ao12 t551.length co12:Value).ownBlock∧(some k_≠(.slice Ao11 x7_1.length co11:Value).ownBlock∧(some k_≠(.slice Ao11 x7_1.length co11:Value).ownBlock∧(some k_≠(.slice Ao12 t551.length co12:Value).ownBlock∧k_≠gb557)))))∧some k_≠(.slice Ao31 t560.length co31:Value).ownBlock)∧some k_≠(.slice Ao32 t563.length co32:Value).ownBlock)) _ _ x5_1 (fun k_=>some k_ = (.slice Ao31 t560.length co31:Value).ownBlock) _ _ t560 (fun k_=>some k_ = (.slice Ao32 t563.length co32:Value).ownBlock) _ _ t563 t566 _ ?side1 ?side2 ?side3 A26.out).mono ?_);(case side1=>exact HO_5.out);(case side2=>exact Kd.R_V (Kd.R_tight rfl (Kd.R_types (HO562.out) BK557.out (by decide))));(case side3=>exact Kd.R_V (Kd.R_tight rfl (Kd.R_types (HO565.out) BK557.out (by decide))));rintro e w33 ⟨v567,rfl,ho0,hb⟩;refine ⟨_,rfl,?_⟩;have n0_:=zA (Kd.V_below (by apply zV_;exact HO_5.out) hb);have n1_:=zA (zj (by apply zR_;exact HO_6.out) hb);have n2_:=zA (zj (by apply zR_;exact HO_7.out) hb);have n3_:=zA (zj (by apply zR_;exact HO_558000.out) hb);have n4_:=zA (zj (by apply zR_;exact HO_558001.out) hb);have n5_:=zA (zj (by apply zR_;exact HO562.out) hb);have n6_:=zA (zj (by apply zR_;exact HO565.out) hb);have n7_:=zA (Kd.V_lower (Kd.V_mono (ok':=fun k_=>(w.heap.size≤k_)∧some k_≠(.slice Ao12 t551.length co12:Value).ownBlock∧some k_≠(.slice Ao11 x7_1.length co11:Value).ownBlock∧some k_≠(.slice Ao11 x7_1.length co11:Value).ownBlock∧some k_≠(.slice Ao12 t551.length co12:Value).ownBlock∧k_≠gb557) ho0 (fun k_ hk_=>⟨Or.elim hk_ (fun hs_=>Or.elim hs_ (fun hs_=>hs_.1.1.1) (fun hs_=>Or.elim hs_ (fun hs_=>((Kd.R_types (HO562.out) BK557.out (by decide)).1 k_ hs_.symm).1.1.1.1.1.1) (fun hs_=>((Kd.R_types (HO565.out) BK557.out (by decide)).1 k_ hs_.symm).1.1.1.1.1.1))) (fun hn_=>(Nat.le_trans (zQ (by repeat (first|(with_reducible first|exact HB.out|apply zD|apply zB|apply zC|refine zF ?_ GE557.out)|exact HB.out))) hn_)),Or.elim hk_ (fun hs_=>Or.elim hs_ (fun hs_=>hs_.1.1.2.1) (fun hs_=>Or.elim hs_ (fun hs_=>((Kd.R_types (HO562.out) BK557.out (by decide)).1 k_ hs_.symm).1.1.1.1.2) (fun hs_=>((Kd.R_types (HO565.out) BK557.out (by decide)).1 k_ hs_.symm).1.1.1.1.2))) (fun hn_=>(Kd.fresh' (Kd.R_lt (by apply zR_;exact HO_6.out)) k_ hn_)),Or.elim hk_ (fun hs_=>Or.elim hs_ (fun hs_=>hs_.1.1.2.2.1) (fun hs_=>Or.elim hs_ (fun hs_=>((Kd.R_types (HO562.out) BK557.out (by decide)).1 k_ hs_.symm).1.1.1.2) (fun hs_=>((Kd.R_types (HO565.out) BK557.out (by decide)).1 k_ hs_.symm).1.1.1.2))) (fun hn_=>(Kd.fresh' (Kd.R_lt (by apply zR_;exact HO_7.out)) k_ hn_)),Or.elim hk_ (fun hs_=>Or.elim hs_ (fun hs_=>hs_.1.1.2.2.2.1) (fun hs_=>Or.elim hs_ (fun hs_=>((Kd.R_types (HO562.out) BK557.out (by decide)).1 k_ hs_.symm).1.1.2) (fun hs_=>((Kd.R_types (HO565.out) BK557.out (by decide)).1 k_ hs_.symm).1.1.2))) (fun hn_=>(Kd.fresh' (Kd.R_lt (by apply zR_;exact HO_558000.out)) k_ hn_)),Or.elim hk_ (fun hs_=>Or.elim hs_ (fun hs_=>hs_.1.1.2.2.2.2.1) (fun hs_=>Or.elim hs_ (fun hs_=>((Kd.R_types (HO562.out) BK557.out (by decide)).1 k_ hs_.symm).1.2) (fun hs_=>((Kd.R_types (HO565.out) BK557.out (by decide)).1 k_ hs_.symm).1.2))) (fun hn_=>(Kd.fresh' (Kd.R_lt (by apply zR_;exact HO_558001.out)) k_ hn_)),Or.elim hk_ (fun hs_=>Or.elim hs_ (fun hs_=>hs_.1.1.2.2.2.2.2) (fun hs_=>Or.elim hs_ (fun hs_=>((Kd.R_types (HO562.out) BK557.out (by decide)).1 k_ hs_.symm).2) (fun hs_=>((Kd.R_types (HO565.out) BK557.out (by decide)).1 k_ hs_.symm).2))) (fun hn_=>(Kd.freshB (g:=gb557) (o:=.cells #[.slice Ao11 x7_1.length co11,.slice Ao12 t551.length co12] 33 (0,0)) (by (with_reducible repeat (first|refine zG ?_ _|refine zI ?_|refine zH ?_ _));exact BK557.out) k_ hn_))⟩)) (zQ (by repeat (first|(with_reducible first|exact HB.out|apply zD|apply zB|apply zC|refine zF ?_ GE557.out)|exact HB.out))));have n8_:=zA (zX (g:=gb557) (o:=.cells #[.slice Ao11 x7_1.length co11,.slice Ao12 t551.length co12] 33 (0,0)) (by (with_reducible repeat (first|refine zG ?_ _|refine zI ?_|refine zH ?_ _));exact BK557.out) hb);have n9_:=zA (zR (by repeat (first|(with_reducible first|exact HB.out|apply zD|apply zB|apply zC|refine zF ?_ GE557.out)|exact HB.out)) hb);clear HO_5;clear HO_6;clear HO_7;clear HO_558000;clear HO_558001;clear HO562;clear HO565;clear BK557;clear HB;have HO_5:=n0_;have HO_6:=n1_;have HO_7:=n2_;have HO_558000:=n3_;have HO_558001:=n4_;have HO562:=n5_;have HO565:=n6_;have HO568:=n7_;have BK557:=n8_;have HB:=n9_;clear n0_ n1_ n2_ n3_ n4_ n5_ n6_ n7_ n8_ n9_;(try clear hb);(try clear hb2);(try clear hk);(try clear hi);(try clear ho0))|((with_reducible refine gate_callee (f:=75) rfl ?_);refine goesL_ (some 19) rfl rfl Try.func75 (by kernel_rfl) rfl #[.slice Ao11 x7_1.length co11] rfl (by (try simp only [zJ,zM,zN]);first|done|rfl|(simp only [zL,zK];rfl)) ?_;(with_reducible refine (spec_l3Next.calls kj9 _ _ x7_1 t569 _ ?side1 ?side2 A27.out).mono ?_);(case side1=>repeat (first|exact (zU HO_7.out).2.2|apply zC_));(case side2=>exact (zU HO_7.out).2.1);rintro e w34 ⟨v570,rfl,ho0,hb⟩;refine ⟨_,rfl,?_⟩;have n0_:=zA (Kd.V_elder' (by apply zV_;exact HO_5.out) (zd ho0) hb);have n1_:=zA (Kd.R_elder' (by apply zR_;exact HO_6.out) (zd ho0) hb);have n2_:=zA (Kd.R_elder' (by apply zR_;exact HO_7.out) (zd ho0) hb);have n3_:=zA (Kd.R_elder' (by apply zR_;exact HO_558000.out) (zd ho0) hb);have n4_:=zA (Kd.R_elder' (by apply zR_;exact HO_558001.out) (zd ho0) hb);have n5_:=zA (Kd.R_elder' (by apply zR_;exact HO562.out) (zd ho0) hb);have n6_:=zA (Kd.R_elder' (by apply zR_;exact HO565.out) (zd ho0) hb);have n7_:=zA (Kd.V_elder' (by apply zV_;exact HO568.out) (zd ho0) hb);have n8_:=zA (ze (zh (zh (zh (zh (zh (zh (Kd.R_newM (M:=fun k_=>(w.heap.size≤k_)) ho0 (zQ (by repeat (first|(with_reducible first|exact HB.out|apply zD|apply zB|apply zC|refine zF ?_ GE557.out)|exact HB.out))) (fun k_ h_=>h_)) (Kd.R_lt (by apply zR_;exact HO_6.out))) (Kd.R_lt (by apply zR_;exact HO_7.out))) (Kd.R_lt (by apply zR_;exact HO_558000.out))) (Kd.R_lt (by apply zR_;exact HO_558001.out))) (Kd.R_lt (by apply zR_;exact HO562.out))) (Kd.R_lt (by apply zR_;exact HO565.out))) (zQ (by repeat (first|(with_reducible first|exact HB.out|apply zD|apply zB|apply zC|refine zF ?_ GE557.out)|exact HB.out))));have n9_:=zA (zX (g:=gb557) (o:=.cells #[.slice Ao11 x7_1.length co11,.slice Ao12 t551.length co12] 33 (0,0)) (by (with_reducible repeat (first|refine zG ?_ _|refine zI ?_|refine zH ?_ _));exact BK557.out) hb);have n10_:=zA (zR (by repeat (first|(with_reducible first|exact HB.out|apply zD|apply zB|apply zC|refine zF ?_ GE557.out)|exact HB.out)) hb);clear HO_5;clear HO_6;clear HO_7;clear HO_558000;clear HO_558001;clear HO562;clear HO565;clear HO568;clear BK557;clear HB;have HO_5:=n0_;have HO_6:=n1_;have HO_7:=n2_;have HO_558000:=n3_;have HO_558001:=n4_;have HO562:=n5_;have HO565:=n6_;have HO568:=n7_;have HO571:=n8_;have BK557:=n9_;have HB:=n10_;clear n0_ n1_ n2_ n3_ n4_ n5_ n6_ n7_ n8_ n9_ n10_;(try clear hb);(try clear hb2);(try clear hk);(try clear hi);(try clear ho0)))
       go_roundg kj9
       case measure=>have:=HK1.out;have:=HJ9.out;omega
       case rel=>exact ⟨(t566),(t569),H',⟨by have:=HK1.out;have:=HJ9.out;omega⟩,⟨by apply zV_;exact Kd.V_mono HO568.out (fun _ hk=>⟨hk.1.1,⟨hk.1.2.1,hk.2⟩⟩)⟩,⟨by apply zR_;exact zV HO_6.out (fun _ hk=>⟨hk.1.1.1.1,hk.2⟩)⟩,⟨by apply zR_;exact zV HO571.out (fun _ hk=>⟨hk.1.1.1.1.1.1.1,hk.1.1.1.1.1.2⟩)⟩,⟨by repeat (first|(with_reducible first|exact HB.out|apply zD|apply zB|apply zC|refine zF ?_ GE557.out)|exact HB.out)⟩⟩
      ·replace c24:=Bool.eq_false_iff.mpr c24
       subst c24
       have H1:((spec_l3Next.f kj9 x7_1).bind fun t572=>(spec_l3All.l0 kj9 a1 x5_1 t551 t572)) = some r:=by rw [if_neg (show ¬ (false = true) by decide)] at H;exact H
       clear H
       have H:=H1
       clear H1
       replace H:=zz0 H
       obtain ⟨t572,A350,H⟩:=H
       try dsimp only at H
       have A35:=zA A350
       clear A350
       have H':=zA H
       clear H
       go_wp2_with (first|((with_reducible refine gate_callee (f:=75) rfl ?_);refine goesL_ (some 19) rfl rfl Try.func75 (by kernel_rfl) rfl #[.slice Ao11 x7_1.length co11] rfl (by (try simp only [zJ,zM,zN]);first|done|rfl|(simp only [zL,zK];rfl)) ?_;(with_reducible refine (spec_l3Next.calls kj9 _ _ x7_1 t572 _ ?side1 ?side2 A35.out).mono ?_);(case side1=>repeat (first|exact (zU HO_7.out).2.2|apply zC_));(case side2=>exact (zU HO_7.out).2.1);rintro e w36 ⟨v573,rfl,ho0,hb⟩;refine ⟨_,rfl,?_⟩;have n0_:=zA (Kd.V_elder' (by apply zV_;exact HO_5.out) (zd ho0) hb);have n1_:=zA (Kd.R_elder' (by apply zR_;exact HO_6.out) (zd ho0) hb);have n2_:=zA (Kd.R_elder' (by apply zR_;exact HO_7.out) (zd ho0) hb);have n3_:=zA (Kd.R_elder' (by apply zR_;exact HO_558000.out) (zd ho0) hb);have n4_:=zA (Kd.R_elder' (by apply zR_;exact HO_558001.out) (zd ho0) hb);have n5_:=zA (ze (zh (zh (zh (zh (Kd.R_newM (M:=fun k_=>(w.heap.size≤k_)) ho0 (zQ (by repeat (first|(with_reducible first|exact HB.out|apply zD|apply zB|apply zC|refine zF ?_ GE557.out)|exact HB.out))) (fun k_ h_=>h_)) (Kd.R_lt (by apply zR_;exact HO_6.out))) (Kd.R_lt (by apply zR_;exact HO_7.out))) (Kd.R_lt (by apply zR_;exact HO_558000.out))) (Kd.R_lt (by apply zR_;exact HO_558001.out))) (zQ (by repeat (first|(with_reducible first|exact HB.out|apply zD|apply zB|apply zC|refine zF ?_ GE557.out)|exact HB.out))));have n6_:=zA (zX (g:=gb557) (o:=.cells #[.slice Ao11 x7_1.length co11,.slice Ao12 t551.length co12] 33 (0,0)) (by (with_reducible repeat (first|refine zG ?_ _|refine zI ?_|refine zH ?_ _));exact BK557.out) hb);have n7_:=zA (zR (by repeat (first|(with_reducible first|exact HB.out|apply zD|apply zB|apply zC|refine zF ?_ GE557.out)|exact HB.out)) hb);clear HO_5;clear HO_6;clear HO_7;clear HO_558000;clear HO_558001;clear BK557;clear HB;have HO_5:=n0_;have HO_6:=n1_;have HO_7:=n2_;have HO_558000:=n3_;have HO_558001:=n4_;have HO574:=n5_;have BK557:=n6_;have HB:=n7_;clear n0_ n1_ n2_ n3_ n4_ n5_ n6_ n7_;(try clear hb);(try clear hb2);(try clear hk);(try clear hi);(try clear ho0)))
       go_roundg kj9
       case measure=>have:=HK1.out;have:=HJ9.out;omega
       case rel=>exact ⟨(x5_1),(t572),H',⟨by have:=HK1.out;have:=HJ9.out;omega⟩,⟨by apply zV_;exact Kd.V_mono HO_5.out (fun _ hk=>⟨hk.1.1,⟨hk.1.2.1,hk.2⟩⟩)⟩,⟨by apply zR_;exact zV HO_6.out (fun _ hk=>⟨hk.1.1,hk.2⟩)⟩,⟨by apply zR_;exact zV HO574.out (fun _ hk=>⟨hk.1.1.1.1.1,hk.1.1.1.2⟩)⟩,⟨by repeat (first|(with_reducible first|exact HB.out|apply zD|apply zB|apply zC|refine zF ?_ GE557.out)|exact HB.out)⟩⟩
   ·rw [if_neg c9] at H
    have c9b0:decide (0 < (x7_1.length:Int)) = false:=zP c9
    have c9b1:decide (0 < x7_1.length) = false:=zP (by omega)
    clear c9
    obtain rfl:=zS H
    obtain ⟨Ao37,co37,eo37⟩:=zg HO_7.out
    subst eo37
    go_wp2
    go_ret
    exact ⟨_,by first|rfl|(simp [errW_none,errW_some] <;> rfl)|(simp [*,errW_none,errW_some] <;> rfl),by apply zV_;exact Kd.V_mono HO_5.out (fun _ hk=>hk.1),by exact zB_ HB.out⟩

/-! ### spec_l2Least: function 65 -/
def spec_l2Least.l0:Nat→Int→List Int→List Int→List Int→List Int→Option (List Int × List Int)
 | 0,_,_,_,_,_=>none
 | k+1,x4,x576000,x576001,x584000,x584001=>if x4 < (x576000.length:Int) then ((spec_l2Form.f k x576000 x576001 x4).bind fun bt584=>((spec_l2Before.f k bt584.1 bt584.2 x584000 x584001).bind fun t591=>(if t591 < 0 then (spec_l2Least.l0 k (wrap64 (x4+1)) x576000 x576001 bt584.1 bt584.2) else (spec_l2Least.l0 k (wrap64 (x4+1)) x576000 x576001 x584000 x584001)))) else (some (x584000,x584001))
def spec_l2Least.f (k:Nat) (l0_0:List Int) (l0_1:List Int):Option (List Int × List Int):=(spec_l2Form.f k l0_0 l0_1 0).bind fun bt577=>(spec_l2Least.l0 k 1 l0_0 l0_1 bt577.1 bt577.2)
theorem spec_l2Least.mono_l:∀ k,(∀ y0 y1 y2 y3 y4,LeO (spec_l2Least.l0 k y0 y1 y2 y3 y4) (spec_l2Least.l0 (k+1) y0 y1 y2 y3 y4))
 | 0=>fun _ _ _ _ _ r h=>by simp [spec_l2Least.l0] at h
 | k+1=>by
  have ih0:=spec_l2Least.mono_l k
  ·intro y0 y1 y2 y3 y4
   unfold spec_l2Least.l0
   repeat' first
   | (with_reducible exact ih0 _ _ _ _ _)
   | (with_reducible exact spec_l2Before.mono _ _ _ _ _)
   | (with_reducible exact spec_l2Form.mono _ _ _ _)
   | (with_reducible exact LeO.refl _)
   | (with_reducible exact za _)
   | (with_reducible refine zc ?_ ?_)
   | (with_reducible refine zb ?_ (fun _=>?_))
theorem spec_l2Least.mono:∀ a0 a1 k,LeO (spec_l2Least.f k a0 a1) (spec_l2Least.f (k+1) a0 a1):=by
 intro a0 a1 k
 have ih0:=spec_l2Least.mono_l k
 unfold spec_l2Least.f
 repeat' first
   | (with_reducible exact ih0 _ _ _ _ _)
   | (with_reducible exact spec_l2Before.mono _ _ _ _ _)
   | (with_reducible exact spec_l2Form.mono _ _ _ _)
   | (with_reducible exact LeO.refl _)
   | (with_reducible exact za _)
   | (with_reducible refine zc ?_ ?_)
   | (with_reducible refine zb ?_ (fun _=>?_))
set_option maxHeartbeats 8000000 in
set_option maxRecDepth 100000 in
theorem spec_l2Least.calls (k:Nat) (A0_0:Option Addr) (c0_0:Nat) (l0_0:List Int) (A0_1:Option Addr) (c0_1:Nat) (l0_1:List Int) (r1:List Int) (r2:List Int) (w:World) (hr0_0:Kd.C (Kd.int .i64) w A0_0 l0_0.length l0_0) (hc0_0:l0_0.length≤c0_0) (hr0_1:Kd.C (Kd.int .i64) w A0_1 l0_1.length l0_1) (hc0_1:l0_1.length≤c0_1) (h:spec_l2Least.f k l0_0 l0_1 = some (r1,r2)) :
  Calls Try.prog 65 #[.agg #[.slice A0_0 l0_0.length c0_0,.slice A0_1 l0_1.length c0_1]] w fun e w' => ∃ v0_ v1_:Value,e = .returned (.agg #[v0_,v1_])∧Kd.R (Kd.int .i64) 3 w' w.heap.size (fun k_=>some k_≠(v1_:Value).ownBlock) v0_ r1∧Kd.R (Kd.int .i64) 3 w' w.heap.size (fun k_=>some k_≠(v0_:Value).ownBlock) v1_ r2∧Below w.heap.size w w':=by
 have hu33:=Try.underlying33
 have HR0_0:=zA hr0_0
 have HC0_0:=zA hc0_0
 clear hr0_0 hc0_0
 have HR0_1:=zA hr0_1
 have HC0_1:=zA hc0_1
 clear hr0_1 hc0_1
 have HB:=zA (Below.refl w.heap.size w)
 have H:((spec_l2Form.f k l0_0 l0_1 0).bind fun bt577=>(spec_l2Least.l0 k 1 l0_0 l0_1 bt577.1 bt577.2)) = some (r1,r2):=h
 clear h
 replace H:=zz0 H
 obtain ⟨⟨t577,t580⟩,A20,H⟩:=H
 try dsimp only at H
 have A2:=zA A20
 clear A20
 have H':=zA H
 clear H
 go_enter Try.func65,Try.ntmps65
 go_wp2_with (first|((with_reducible refine gate_dst (N:=1) rfl ?_);refine box_event ?hg (N:=1) ?hd (cs:=#[.slice A0_0 l0_0.length c0_0,.slice A0_1 l0_1.length c0_1]) (t:=33) ?hr ?_;(case hd=>rfl);(case hg=>rfl);(case hr=>first|(go_simp;done)|(go_simp;rfl));intro gb575 hg w3 hbox hb;have n0_:=zA (zR (by exact zB_ HB.out) hb);have n1_:=zA (hbox);have n2_:=zA ((by rw [hg];exact (zQ (by exact zB_ HB.out)):w.heap.size≤gb575));have n3_:=zA ((by rw [hg];exact (zQ (by exact zB_ HB.out)):w.heap.size≤gb575));clear HB;have HB:=n0_;have BK575:=n1_;have GW575:=n2_;have GE575:=n3_;clear n0_ n1_ n2_ n3_;clear hb hbox hg)|((with_reducible refine gate_dst (N:=2) rfl ?_);refine box_event ?hg (N:=2) ?hd (cs:=#[.slice none 0 0,.slice none 0 0]) (t:=33) ?hr ?_;(case hd=>rfl);(case hg=>rfl);(case hr=>first|(go_simp;done)|(go_simp;rfl));intro gb576 hg w4 hbox hb;have n0_:=zA (zX (g:=gb575) (o:=.cells #[.slice A0_0 l0_0.length c0_0,.slice A0_1 l0_1.length c0_1] 33 (0,0)) (by (with_reducible repeat (first|refine zG ?_ _|refine zI ?_|refine zH ?_ _));exact BK575.out) hb);have n1_:=zA (zR (by repeat (first|(with_reducible first|exact HB.out|apply zD|apply zB|apply zC|refine zF ?_ GE575.out)|exact HB.out)) hb);have n2_:=zA (hbox);have n3_:=zA ((by rw [hg];exact (zQ (by repeat (first|(with_reducible first|exact HB.out|apply zD|apply zB|apply zC|refine zF ?_ GE575.out)|exact HB.out))):w.heap.size≤gb576));have n4_:=zA ((by rw [hg];exact (zQ (by repeat (first|(with_reducible first|exact HB.out|apply zD|apply zB|apply zC|refine zF ?_ GE575.out)|exact HB.out))):w.heap.size≤gb576));have n5_:=zA ((by rw [hg];exact Nat.ne_of_lt (blk_lt (g:=gb575) (o:=.cells #[.slice A0_0 l0_0.length c0_0,.slice A0_1 l0_1.length c0_1] 33 (0,0)) (by (with_reducible repeat (first|refine zG ?_ _|refine zI ?_|refine zH ?_ _));exact BK575.out)):gb575≠gb576));have n6_:=zA ((by rw [hg];exact Nat.ne_of_gt (blk_lt (g:=gb575) (o:=.cells #[.slice A0_0 l0_0.length c0_0,.slice A0_1 l0_1.length c0_1] 33 (0,0)) (by (with_reducible repeat (first|refine zG ?_ _|refine zI ?_|refine zH ?_ _));exact BK575.out)):gb576≠gb575));clear BK575;clear HB;have BK575:=n0_;have HB:=n1_;have BK576:=n2_;have GW576:=n3_;have GE576:=n4_;have NB575_576:=n5_;have NB576_575:=n6_;clear n0_ n1_ n2_ n3_ n4_ n5_ n6_;clear hb hbox hg;have hnb5:=NB575_576.out;have hnc5:=NB576_575.out;have hcz6_0:w4.cell? ⟨gb575,0,none⟩ = some (.slice A0_0 l0_0.length c0_0):=(zT BK575.out 0).trans rfl;have hcz6_1:w4.cell? ⟨gb575,1,none⟩ = some (.slice A0_1 l0_1.length c0_1):=(zT BK575.out 1).trans rfl;have hfz6_0:=zZ BK575.out 0;have hfz6_1:=zZ BK575.out 1)|((with_reducible refine gate_callee (f:=78) rfl ?_);refine goesL_ (some 7) rfl rfl Try.func78 (by kernel_rfl) rfl #[.agg #[.slice A0_0 l0_0.length c0_0,.slice A0_1 l0_1.length c0_1],.int .i64 0] rfl (by (try simp only [zJ,zM,zN]);first|done|rfl|(simp only [zL,zK];rfl)) ?_;(with_reducible refine (spec_l2Form.calls k _ _ l0_0 _ _ l0_1 0 t577 t580 _ ?side1 ?side2 ?side3 ?side4 A2.out).mono ?_);(case side1=>repeat (first|exact (zW HR0_0.out HB.out)|(with_reducible exact HR0_0.out)|apply zC_));(case side2=>exact HC0_0.out);(case side3=>repeat (first|exact (zW HR0_1.out HB.out)|(with_reducible exact HR0_1.out)|apply zC_));(case side4=>exact HC0_1.out);rintro e w7 ⟨v578,v581,rfl,ho0,ho1,hb⟩;refine ⟨_,rfl,?_⟩;have n0_:=zA (ze ho0 (zQ (by repeat (first|(with_reducible first|exact HB.out|apply zD|apply zB|apply zC|refine zF ?_ GE575.out|refine zF ?_ GE576.out)|exact HB.out))));have n1_:=zA (ze ho1 (zQ (by repeat (first|(with_reducible first|exact HB.out|apply zD|apply zB|apply zC|refine zF ?_ GE575.out|refine zF ?_ GE576.out)|exact HB.out))));have n2_:=zA (zX (g:=gb575) (o:=.cells #[.slice A0_0 l0_0.length c0_0,.slice A0_1 l0_1.length c0_1] 33 (0,0)) (by (with_reducible repeat (first|refine zG ?_ _|refine zI ?_|refine zH ?_ _));exact BK575.out) hb);have n3_:=zA (zX (g:=gb576) (o:=.cells #[.slice none 0 0,.slice none 0 0] 33 (0,0)) (by (with_reducible repeat (first|refine zG ?_ _|refine zI ?_|refine zH ?_ _));exact BK576.out) hb);have n4_:=zA (zR (by repeat (first|(with_reducible first|exact HB.out|apply zD|apply zB|apply zC|refine zF ?_ GE575.out|refine zF ?_ GE576.out)|exact HB.out)) hb);clear BK575;clear BK576;clear HB;have HO579:=n0_;have HO582:=n1_;have BK575:=n2_;have BK576:=n3_;have HB:=n4_;clear n0_ n1_ n2_ n3_ n4_;(try clear hb);(try clear hb2);(try clear hk);(try clear hi);(try clear ho0);(try clear ho1))|((with_reducible refine gate_dst (N:=3) rfl ?_);refine box_event ?hg (N:=3) ?hd (cs:=#[.slice none 0 0,.slice none 0 0]) (t:=33) ?hr ?_;(case hd=>rfl);(case hg=>rfl);(case hr=>first|(go_simp;done)|(go_simp;rfl));intro gb583 hg w8 hbox hb;have n0_:=zA (zj (by apply zR_;exact HO579.out) hb);have n1_:=zA (zj (by apply zR_;exact HO582.out) hb);have n2_:=zA (zX (g:=gb575) (o:=.cells #[.slice A0_0 l0_0.length c0_0,.slice A0_1 l0_1.length c0_1] 33 (0,0)) (by (with_reducible repeat (first|refine zG ?_ _|refine zI ?_|refine zH ?_ _));exact BK575.out) hb);have n3_:=zA (zX (g:=gb576) (o:=.cells #[.slice none 0 0,.slice none 0 0] 33 (0,0)) (by (with_reducible repeat (first|refine zG ?_ _|refine zI ?_|refine zH ?_ _));exact BK576.out) hb);have n4_:=zA (zR (by repeat (first|(with_reducible first|exact HB.out|apply zD|apply zB|apply zC|refine zF ?_ GE575.out|refine zF ?_ GE576.out)|exact HB.out)) hb);have n5_:=zA (hbox);have n6_:=zA ((by rw [hg];exact (zQ (by repeat (first|(with_reducible first|exact HB.out|apply zD|apply zB|apply zC|refine zF ?_ GE575.out|refine zF ?_ GE576.out)|exact HB.out))):w.heap.size≤gb583));have n7_:=zA ((by rw [hg];exact (zQ (by repeat (first|(with_reducible first|exact HB.out|apply zD|apply zB|apply zC|refine zF ?_ GE575.out|refine zF ?_ GE576.out)|exact HB.out))):w.heap.size≤gb583));have n8_:=zA ((by rw [hg];exact Nat.ne_of_lt (blk_lt (g:=gb575) (o:=.cells #[.slice A0_0 l0_0.length c0_0,.slice A0_1 l0_1.length c0_1] 33 (0,0)) (by (with_reducible repeat (first|refine zG ?_ _|refine zI ?_|refine zH ?_ _));exact BK575.out)):gb575≠gb583));have n9_:=zA ((by rw [hg];exact Nat.ne_of_gt (blk_lt (g:=gb575) (o:=.cells #[.slice A0_0 l0_0.length c0_0,.slice A0_1 l0_1.length c0_1] 33 (0,0)) (by (with_reducible repeat (first|refine zG ?_ _|refine zI ?_|refine zH ?_ _));exact BK575.out)):gb583≠gb575));have n10_:=zA ((by rw [hg];exact Nat.ne_of_lt (blk_lt (g:=gb576) (o:=.cells #[.slice none 0 0,.slice none 0 0] 33 (0,0)) (by (with_reducible repeat (first|refine zG ?_ _|refine zI ?_|refine zH ?_ _));exact BK576.out)):gb576≠gb583));have n11_:=zA ((by rw [hg];exact Nat.ne_of_gt (blk_lt (g:=gb576) (o:=.cells #[.slice none 0 0,.slice none 0 0] 33 (0,0)) (by (with_reducible repeat (first|refine zG ?_ _|refine zI ?_|refine zH ?_ _));exact BK576.out)):gb583≠gb576));clear HO579;clear HO582;clear BK575;clear BK576;clear HB;have HO579:=n0_;have HO582:=n1_;have BK575:=n2_;have BK576:=n3_;have HB:=n4_;have BK583:=n5_;have GW583:=n6_;have GE583:=n7_;have NB575_583:=n8_;have NB583_575:=n9_;have NB576_583:=n10_;have NB583_576:=n11_;clear n0_ n1_ n2_ n3_ n4_ n5_ n6_ n7_ n8_ n9_ n10_ n11_;clear hb hbox hg;obtain ⟨Ao9,co9,eo9⟩:=zg HO579.out;subst eo9;have hnb10:=NB583_575.out;have hnc10:=NB575_583.out;have hnb11:=NB583_576.out;have hnc11:=NB576_583.out;have hcz12_0:w8.cell? ⟨gb583,0,none⟩ = some (.slice none 0 0):=(zT BK583.out 0).trans rfl;have hcz12_1:w8.cell? ⟨gb583,1,none⟩ = some (.slice none 0 0):=(zT BK583.out 1).trans rfl;have hfz12_0:=zZ BK583.out 0;have hfz12_1:=zZ BK583.out 1;obtain ⟨Ao13,co13,eo13⟩:=zg HO582.out;subst eo13))
 go_loopg [4] k (fun kq v4 w' => ∃ (x4_1:Int) (x584000_1:List Int) (x584001_1:List Int) (u584000:Value) (u584001:Value),v4 = .int .i64 x4_1∧Aside0 (spec_l2Least.l0 kq x4_1 l0_0 l0_1 x584000_1 x584001_1 = some (r1,r2))∧Aside0 (kq≤k)∧Aside0 (Kd.R (Kd.int .i64) 3 w' w.heap.size (fun k_=>some k_≠(u584001:Value).ownBlock) u584000 x584000_1)∧Aside0 (Kd.R (Kd.int .i64) 3 w' w.heap.size (fun k_=>some k_≠(u584000:Value).ownBlock) u584001 x584001_1)∧Aside0 (w'.heap[gb575]? = some (.cells #[(.slice A0_0 l0_0.length c0_0),(.slice A0_1 l0_1.length c0_1)] 33 (0,0)))∧Aside0 (w'.heap[gb576]? = some (.cells #[(.slice none 0 0),(.slice none 0 0)] 33 (0,0)))∧Aside0 (w'.heap[gb583]? = some (.cells #[u584000,u584001] 33 (0,0)))∧Aside0 (Below w.heap.size w w'))
 case atStart=>exact ⟨(1),(t577),(t580),(.slice Ao9 t577.length co9),(.slice Ao13 t580.length co13),(by first|rfl|(simp;done)|(simp [*];done)),H',⟨Nat.le_refl _⟩,⟨by apply zR_;exact zV (zi (p:=⟨gb583,1,none⟩) (zi (p:=⟨gb583,0,none⟩) (Kd.R_types HO579.out BK583.out (by decide)) (fun _ hk=>hk.2) (.slice Ao9 t577.length co9)) (fun _ hk=>hk.2) (.slice Ao13 t580.length co13)) (fun _ hk=>hk.1)⟩,⟨by apply zR_;exact zV (zi (p:=⟨gb583,1,none⟩) (zi (p:=⟨gb583,0,none⟩) (Kd.R_types HO582.out BK583.out (by decide)) (fun _ hk=>hk.2) (.slice Ao9 t577.length co9)) (fun _ hk=>hk.2) (.slice Ao13 t580.length co13)) (fun _ hk=>hk.1)⟩,⟨by (with_reducible repeat (first|refine zG ?_ _|refine zI ?_|refine zH ?_ _));refine blk_far ?_ NB575_583.out _;(with_reducible repeat (first|refine zG ?_ _|refine zI ?_|refine zH ?_ _));refine blk_far ?_ NB575_583.out _;(with_reducible repeat (first|refine zG ?_ _|refine zI ?_|refine zH ?_ _));exact BK575.out⟩,⟨by (with_reducible repeat (first|refine zG ?_ _|refine zI ?_|refine zH ?_ _));refine blk_far ?_ NB576_583.out _;(with_reducible repeat (first|refine zG ?_ _|refine zI ?_|refine zH ?_ _));refine blk_far ?_ NB576_583.out _;(with_reducible repeat (first|refine zG ?_ _|refine zI ?_|refine zH ?_ _));exact BK576.out⟩,⟨by (with_reducible repeat (first|refine zG ?_ _|refine zI ?_|refine zH ?_ _));refine blk_put (cs:=#[.slice Ao9 t577.length co9,.slice none 0 0]) ?_ 1 _ rfl;(with_reducible repeat (first|refine zG ?_ _|refine zI ?_|refine zH ?_ _));refine blk_put (cs:=#[.slice none 0 0,.slice none 0 0]) ?_ 0 _ rfl;(with_reducible repeat (first|refine zG ?_ _|refine zI ?_|refine zH ?_ _));exact BK583.out⟩,⟨by repeat (first|(with_reducible first|exact HB.out|apply zD|apply zB|apply zC|refine zF ?_ GE575.out|refine zF ?_ GE576.out|refine zF ?_ GE583.out)|exact HB.out)⟩⟩
 case round =>
  clear H'
  (try clear c1);(try clear p2);(try clear c5);(try clear c6);(try clear c7);(try clear c10);(try clear c11);(try clear hcz12_0);(try clear hcz12_1);(try clear hcz6_0);(try clear hcz6_1);(try clear hfz12_0);(try clear hfz12_1);(try clear hfz6_0);(try clear hfz6_1)
  obtain ⟨x4_1,x584000_1,x584001_1,u584000,u584001,rfl,HA,HK1,HO_584000,HO_584001,BK575,BK576,BK583,HB⟩:=hrel
  cases gk with
  | zero=>exact absurd HA.out (by simp [spec_l2Least.l0])
  | succ k1 =>
   have H:=HA.out
   clear HA
   simp only [spec_l2Least.l0] at H
   by_cases c14:x4_1 < (l0_0.length:Int)
   ·rw [if_pos c14] at H
    have c14b0:decide (x4_1 < (l0_0.length:Int)) = true:=zO c14
    clear c14
    replace H:=zz0 H
    obtain ⟨⟨t584,t587⟩,A150,H⟩:=H
    try dsimp only at H
    have A15:=zA A150
    clear A150
    replace H:=zz0 H
    obtain ⟨t591,A160,H⟩:=H
    try dsimp only at H
    have A16:=zA A160
    clear A160
    by_cases c17:t591 < 0
    ·rw [if_pos c17] at H
     have c17b0:decide (t591 < 0) = true:=zO c17
     clear c17
     have H':=zA H
     clear H
     have hnb18:=NB575_576.out
     have hnc18:=NB576_575.out
     have hnb19:=NB575_583.out
     have hnc19:=NB583_575.out
     have hcz20_0:wr.cell? ⟨gb575,0,none⟩ = some (.slice A0_0 l0_0.length c0_0):=(zT BK575.out 0).trans rfl
     have hcz20_1:wr.cell? ⟨gb575,1,none⟩ = some (.slice A0_1 l0_1.length c0_1):=(zT BK575.out 1).trans rfl
     have hfz20_0:=zZ BK575.out 0
     have hfz20_1:=zZ BK575.out 1
     go_wp2_with (first|((with_reducible refine gate_callee (f:=78) rfl ?_);refine goesL_ (some 17) rfl rfl Try.func78 (by kernel_rfl) rfl #[.agg #[.slice A0_0 l0_0.length c0_0,.slice A0_1 l0_1.length c0_1],.int .i64 x4_1] rfl (by (try simp only [zJ,zM,zN]);first|done|rfl|(simp only [zL,zK];rfl)) ?_;(with_reducible refine (spec_l2Form.calls k1 _ _ l0_0 _ _ l0_1 x4_1 t584 t587 _ ?side1 ?side2 ?side3 ?side4 A15.out).mono ?_);(case side1=>repeat (first|exact (zW HR0_0.out HB.out)|(with_reducible exact HR0_0.out)|apply zC_));(case side2=>exact HC0_0.out);(case side3=>repeat (first|exact (zW HR0_1.out HB.out)|(with_reducible exact HR0_1.out)|apply zC_));(case side4=>exact HC0_1.out);rintro e w21 ⟨v585,v588,rfl,ho0,ho1,hb⟩;refine ⟨_,rfl,?_⟩;have n0_:=zA (zV (Kd.R_told (Kd.R_told (Kd.R_old (by apply zR_;exact HO_584000.out) hb) (zd ho0)) (zd ho1)) (fun _ h_=>h_.1));have n1_:=zA (zV (Kd.R_told (Kd.R_told (Kd.R_old (by apply zR_;exact HO_584001.out) hb) (zd ho0)) (zd ho1)) (fun _ h_=>h_.1));have n2_:=zA (ze (zh (zh ho0 (Kd.R_lt (by apply zR_;exact HO_584000.out))) (Kd.R_lt (by apply zR_;exact HO_584001.out))) (zQ (by repeat (first|(with_reducible first|exact HB.out|apply zD|apply zB|apply zC|refine zF ?_ GE575.out|refine zF ?_ GE576.out|refine zF ?_ GE583.out)|exact HB.out))));have n3_:=zA (ze (zh (zh ho1 (Kd.R_lt (by apply zR_;exact HO_584000.out))) (Kd.R_lt (by apply zR_;exact HO_584001.out))) (zQ (by repeat (first|(with_reducible first|exact HB.out|apply zD|apply zB|apply zC|refine zF ?_ GE575.out|refine zF ?_ GE576.out|refine zF ?_ GE583.out)|exact HB.out))));have n4_:=zA (zX (g:=gb575) (o:=.cells #[.slice A0_0 l0_0.length c0_0,.slice A0_1 l0_1.length c0_1] 33 (0,0)) (by (with_reducible repeat (first|refine zG ?_ _|refine zI ?_|refine zH ?_ _));exact BK575.out) hb);have n5_:=zA (zX (g:=gb576) (o:=.cells #[.slice none 0 0,.slice none 0 0] 33 (0,0)) (by (with_reducible repeat (first|refine zG ?_ _|refine zI ?_|refine zH ?_ _));exact BK576.out) hb);have n6_:=zA (zX (g:=gb583) (o:=.cells #[u584000,u584001] 33 (0,0)) (by (with_reducible repeat (first|refine zG ?_ _|refine zI ?_|refine zH ?_ _));exact BK583.out) hb);have n7_:=zA (zR (by repeat (first|(with_reducible first|exact HB.out|apply zD|apply zB|apply zC|refine zF ?_ GE575.out|refine zF ?_ GE576.out|refine zF ?_ GE583.out)|exact HB.out)) hb);clear HO_584000;clear HO_584001;clear BK575;clear BK576;clear BK583;clear HB;have HO_584000:=n0_;have HO_584001:=n1_;have HO586:=n2_;have HO589:=n3_;have BK575:=n4_;have BK576:=n5_;have BK583:=n6_;have HB:=n7_;clear n0_ n1_ n2_ n3_ n4_ n5_ n6_ n7_;(try clear hb);(try clear hb2);(try clear hk);(try clear hi);(try clear ho0);(try clear ho1))|((with_reducible refine gate_dst (N:=5) rfl ?_);refine box_event ?hg (N:=5) ?hd (cs:=#[.slice none 0 0,.slice none 0 0]) (t:=33) ?hr ?_;(case hd=>rfl);(case hg=>rfl);(case hr=>first|(go_simp;done)|(go_simp;rfl));intro gb590 hg w22 hbox hb;have n0_:=zA (zj (by apply zR_;exact HO_584000.out) hb);have n1_:=zA (zj (by apply zR_;exact HO_584001.out) hb);have n2_:=zA (zj (by apply zR_;exact HO586.out) hb);have n3_:=zA (zj (by apply zR_;exact HO589.out) hb);have n4_:=zA (zX (g:=gb575) (o:=.cells #[.slice A0_0 l0_0.length c0_0,.slice A0_1 l0_1.length c0_1] 33 (0,0)) (by (with_reducible repeat (first|refine zG ?_ _|refine zI ?_|refine zH ?_ _));exact BK575.out) hb);have n5_:=zA (zX (g:=gb576) (o:=.cells #[.slice none 0 0,.slice none 0 0] 33 (0,0)) (by (with_reducible repeat (first|refine zG ?_ _|refine zI ?_|refine zH ?_ _));exact BK576.out) hb);have n6_:=zA (zX (g:=gb583) (o:=.cells #[u584000,u584001] 33 (0,0)) (by (with_reducible repeat (first|refine zG ?_ _|refine zI ?_|refine zH ?_ _));exact BK583.out) hb);have n7_:=zA (zR (by repeat (first|(with_reducible first|exact HB.out|apply zD|apply zB|apply zC|refine zF ?_ GE575.out|refine zF ?_ GE576.out|refine zF ?_ GE583.out)|exact HB.out)) hb);have n8_:=zA (hbox);have n9_:=zA ((by rw [hg];exact (zQ (by repeat (first|(with_reducible first|exact HB.out|apply zD|apply zB|apply zC|refine zF ?_ GE575.out|refine zF ?_ GE576.out|refine zF ?_ GE583.out)|exact HB.out))):w.heap.size≤gb590));have n10_:=zA ((by rw [hg];exact (zQ (by repeat (first|(with_reducible first|exact HB.out|apply zD|apply zB|apply zC|refine zF ?_ GE575.out|refine zF ?_ GE576.out|refine zF ?_ GE583.out)|exact HB.out))):w.heap.size≤gb590));have n11_:=zA ((by rw [hg];exact Nat.ne_of_lt (blk_lt (g:=gb575) (o:=.cells #[.slice A0_0 l0_0.length c0_0,.slice A0_1 l0_1.length c0_1] 33 (0,0)) (by (with_reducible repeat (first|refine zG ?_ _|refine zI ?_|refine zH ?_ _));exact BK575.out)):gb575≠gb590));have n12_:=zA ((by rw [hg];exact Nat.ne_of_gt (blk_lt (g:=gb575) (o:=.cells #[.slice A0_0 l0_0.length c0_0,.slice A0_1 l0_1.length c0_1] 33 (0,0)) (by (with_reducible repeat (first|refine zG ?_ _|refine zI ?_|refine zH ?_ _));exact BK575.out)):gb590≠gb575));have n13_:=zA ((by rw [hg];exact Nat.ne_of_lt (blk_lt (g:=gb576) (o:=.cells #[.slice none 0 0,.slice none 0 0] 33 (0,0)) (by (with_reducible repeat (first|refine zG ?_ _|refine zI ?_|refine zH ?_ _));exact BK576.out)):gb576≠gb590));have n14_:=zA ((by rw [hg];exact Nat.ne_of_gt (blk_lt (g:=gb576) (o:=.cells #[.slice none 0 0,.slice none 0 0] 33 (0,0)) (by (with_reducible repeat (first|refine zG ?_ _|refine zI ?_|refine zH ?_ _));exact BK576.out)):gb590≠gb576));have n15_:=zA ((by rw [hg];exact Nat.ne_of_lt (blk_lt (g:=gb583) (o:=.cells #[u584000,u584001] 33 (0,0)) (by (with_reducible repeat (first|refine zG ?_ _|refine zI ?_|refine zH ?_ _));exact BK583.out)):gb583≠gb590));have n16_:=zA ((by rw [hg];exact Nat.ne_of_gt (blk_lt (g:=gb583) (o:=.cells #[u584000,u584001] 33 (0,0)) (by (with_reducible repeat (first|refine zG ?_ _|refine zI ?_|refine zH ?_ _));exact BK583.out)):gb590≠gb583));clear HO_584000;clear HO_584001;clear HO586;clear HO589;clear BK575;clear BK576;clear BK583;clear HB;have HO_584000:=n0_;have HO_584001:=n1_;have HO586:=n2_;have HO589:=n3_;have BK575:=n4_;have BK576:=n5_;have BK583:=n6_;have HB:=n7_;have BK590:=n8_;have GW590:=n9_;have GE590:=n10_;have NB575_590:=n11_;have NB590_575:=n12_;have NB576_590:=n13_;have NB590_576:=n14_;have NB583_590:=n15_;have NB590_583:=n16_;clear n0_ n1_ n2_ n3_ n4_ n5_ n6_ n7_ n8_ n9_ n10_ n11_ n12_ n13_ n14_ n15_ n16_;clear hb hbox hg;obtain ⟨Ao23,co23,eo23⟩:=zg HO586.out;subst eo23;have hnb24:=NB590_575.out;have hnc24:=NB575_590.out;have hnb25:=NB590_576.out;have hnc25:=NB576_590.out;have hnb26:=NB590_583.out;have hnc26:=NB583_590.out;have hcz27_0:w22.cell? ⟨gb590,0,none⟩ = some (.slice none 0 0):=(zT BK590.out 0).trans rfl;have hcz27_1:w22.cell? ⟨gb590,1,none⟩ = some (.slice none 0 0):=(zT BK590.out 1).trans rfl;have hfz27_0:=zZ BK590.out 0;have hfz27_1:=zZ BK590.out 1;obtain ⟨Ao28,co28,eo28⟩:=zg HO589.out;subst eo28;have hnb29:=NB583_576.out;have hnc29:=NB576_583.out;have hcz30_0:w22.cell? ⟨gb583,0,none⟩ = some (u584000):=(zT BK583.out 0).trans rfl;have hcz30_1:w22.cell? ⟨gb583,1,none⟩ = some (u584001):=(zT BK583.out 1).trans rfl;have hfz30_0:=zZ BK583.out 0;have hfz30_1:=zZ BK583.out 1;obtain ⟨Ao31,co31,eo31⟩:=zg HO_584000.out;subst eo31;obtain ⟨Ao32,co32,eo32⟩:=zg HO_584001.out;subst eo32)|((with_reducible refine gate_callee (f:=83) rfl ?_);refine goesL_ (some 20) rfl rfl Try.func83 (by kernel_rfl) rfl #[.agg #[.slice Ao23 t584.length co23,.slice Ao28 t587.length co28],.agg #[.slice Ao31 x584000_1.length co31,.slice Ao32 x584001_1.length co32]] rfl (by (try simp only [zJ,zM,zN]);first|done|rfl|(simp only [zL,zK];rfl)) ?_;(with_reducible refine (spec_l2Before.calls k1 _ _ t584 _ _ t587 _ _ x584000_1 _ _ x584001_1 t591 _ ?side1 ?side2 ?side3 ?side4 ?side5 ?side6 ?side7 ?side8 A16.out).mono ?_);(case side1=>refine (zU (e:=3) (base:=w.heap.size) (ok:=fun k_=>((some k_≠(.slice Ao28 t587.length co28:Value).ownBlock∧some k_≠(.slice Ao31 x584000_1.length co31:Value).ownBlock)∧some k_≠(.slice Ao32 x584001_1.length co32:Value).ownBlock)) (n:=t584.length) (c:=co23) ?_).2.2;exact (by apply zR_;exact (zV (zi (p:=⟨gb590,1,none⟩) (zi (p:=⟨gb590,0,none⟩) (Kd.R_types HO586.out BK590.out (by decide)) (fun _ hk=>hk.2) (.slice Ao23 t584.length co23)) (fun _ hk=>hk.2) (.slice Ao28 t587.length co28)) (fun _ h_=>h_.1))));(case side2=>exact (zU HO586.out).2.1);(case side3=>refine (zU (e:=3) (base:=w.heap.size) (ok:=fun k_=>((some k_≠(.slice Ao23 t584.length co23:Value).ownBlock∧some k_≠(.slice Ao31 x584000_1.length co31:Value).ownBlock)∧some k_≠(.slice Ao32 x584001_1.length co32:Value).ownBlock)) (n:=t587.length) (c:=co28) ?_).2.2;exact (by apply zR_;exact (zV (zi (p:=⟨gb590,1,none⟩) (zi (p:=⟨gb590,0,none⟩) (Kd.R_types HO589.out BK590.out (by decide)) (fun _ hk=>hk.2) (.slice Ao23 t584.length co23)) (fun _ hk=>hk.2) (.slice Ao28 t587.length co28)) (fun _ h_=>h_.1))));(case side4=>exact (zU HO589.out).2.1);(case side5=>refine (zU (e:=3) (base:=w.heap.size) (ok:=fun k_=>((some k_≠(.slice Ao32 x584001_1.length co32:Value).ownBlock∧some k_≠(.slice Ao23 t584.length co23:Value).ownBlock)∧some k_≠(.slice Ao28 t587.length co28:Value).ownBlock)) (n:=x584000_1.length) (c:=co31) ?_).2.2;exact (by apply zR_;exact (zV (zi (p:=⟨gb590,1,none⟩) (zi (p:=⟨gb590,0,none⟩) (Kd.R_types HO_584000.out BK590.out (by decide)) (fun _ hk=>hk.2) (.slice Ao23 t584.length co23)) (fun _ hk=>hk.2) (.slice Ao28 t587.length co28)) (fun _ h_=>h_.1))));(case side6=>exact (zU HO_584000.out).2.1);(case side7=>refine (zU (e:=3) (base:=w.heap.size) (ok:=fun k_=>((some k_≠(.slice Ao31 x584000_1.length co31:Value).ownBlock∧some k_≠(.slice Ao23 t584.length co23:Value).ownBlock)∧some k_≠(.slice Ao28 t587.length co28:Value).ownBlock)) (n:=x584001_1.length) (c:=co32) ?_).2.2;exact (by apply zR_;exact (zV (zi (p:=⟨gb590,1,none⟩) (zi (p:=⟨gb590,0,none⟩) (Kd.R_types HO_584001.out BK590.out (by decide)) (fun _ hk=>hk.2) (.slice Ao23 t584.length co23)) (fun _ hk=>hk.2) (.slice Ao28 t587.length co28)) (fun _ h_=>h_.1))));(case side8=>exact (zU HO_584001.out).2.1);rintro e w33 ⟨rfl,hb⟩;refine ⟨_,rfl,?_⟩;have n0_:=zA (zj (by apply zR_;exact (zV (zi (p:=⟨gb590,1,none⟩) (zi (p:=⟨gb590,0,none⟩) (Kd.R_types HO_584000.out BK590.out (by decide)) (fun _ hk=>hk.2) (.slice Ao23 t584.length co23)) (fun _ hk=>hk.2) (.slice Ao28 t587.length co28)) (fun _ h_=>h_.1))) hb);have n1_:=zA (zj (by apply zR_;exact (zV (zi (p:=⟨gb590,1,none⟩) (zi (p:=⟨gb590,0,none⟩) (Kd.R_types HO_584001.out BK590.out (by decide)) (fun _ hk=>hk.2) (.slice Ao23 t584.length co23)) (fun _ hk=>hk.2) (.slice Ao28 t587.length co28)) (fun _ h_=>h_.1))) hb);have n2_:=zA (zj (by apply zR_;exact (zV (zi (p:=⟨gb590,1,none⟩) (zi (p:=⟨gb590,0,none⟩) (Kd.R_types HO586.out BK590.out (by decide)) (fun _ hk=>hk.2) (.slice Ao23 t584.length co23)) (fun _ hk=>hk.2) (.slice Ao28 t587.length co28)) (fun _ h_=>h_.1))) hb);have n3_:=zA (zj (by apply zR_;exact (zV (zi (p:=⟨gb590,1,none⟩) (zi (p:=⟨gb590,0,none⟩) (Kd.R_types HO589.out BK590.out (by decide)) (fun _ hk=>hk.2) (.slice Ao23 t584.length co23)) (fun _ hk=>hk.2) (.slice Ao28 t587.length co28)) (fun _ h_=>h_.1))) hb);have n4_:=zA (zX (g:=gb575) (o:=.cells #[.slice A0_0 l0_0.length c0_0,.slice A0_1 l0_1.length c0_1] 33 (0,0)) (by (with_reducible repeat (first|refine zG ?_ _|refine zI ?_|refine zH ?_ _));refine blk_far ?_ NB575_590.out _;(with_reducible repeat (first|refine zG ?_ _|refine zI ?_|refine zH ?_ _));refine blk_far ?_ NB575_590.out _;(with_reducible repeat (first|refine zG ?_ _|refine zI ?_|refine zH ?_ _));exact BK575.out) hb);have n5_:=zA (zX (g:=gb576) (o:=.cells #[.slice none 0 0,.slice none 0 0] 33 (0,0)) (by (with_reducible repeat (first|refine zG ?_ _|refine zI ?_|refine zH ?_ _));refine blk_far ?_ NB576_590.out _;(with_reducible repeat (first|refine zG ?_ _|refine zI ?_|refine zH ?_ _));refine blk_far ?_ NB576_590.out _;(with_reducible repeat (first|refine zG ?_ _|refine zI ?_|refine zH ?_ _));exact BK576.out) hb);have n6_:=zA (zX (g:=gb583) (o:=.cells #[.slice Ao31 x584000_1.length co31,.slice Ao32 x584001_1.length co32] 33 (0,0)) (by (with_reducible repeat (first|refine zG ?_ _|refine zI ?_|refine zH ?_ _));refine blk_far ?_ NB583_590.out _;(with_reducible repeat (first|refine zG ?_ _|refine zI ?_|refine zH ?_ _));refine blk_far ?_ NB583_590.out _;(with_reducible repeat (first|refine zG ?_ _|refine zI ?_|refine zH ?_ _));exact BK583.out) hb);have n7_:=zA (zX (g:=gb590) (o:=.cells #[.slice Ao23 t584.length co23,.slice Ao28 t587.length co28] 33 (0,0)) (by (with_reducible repeat (first|refine zG ?_ _|refine zI ?_|refine zH ?_ _));refine blk_put (cs:=#[.slice Ao23 t584.length co23,.slice none 0 0]) ?_ 1 _ rfl;(with_reducible repeat (first|refine zG ?_ _|refine zI ?_|refine zH ?_ _));refine blk_put (cs:=#[.slice none 0 0,.slice none 0 0]) ?_ 0 _ rfl;(with_reducible repeat (first|refine zG ?_ _|refine zI ?_|refine zH ?_ _));exact BK590.out) hb);have n8_:=zA (zR (by repeat (first|(with_reducible first|exact HB.out|apply zD|apply zB|apply zC|refine zF ?_ GE575.out|refine zF ?_ GE576.out|refine zF ?_ GE583.out|refine zF ?_ GE590.out)|exact HB.out)) hb);clear HO_584000;clear HO_584001;clear HO586;clear HO589;clear BK575;clear BK576;clear BK583;clear BK590;clear HB;have HO_584000:=n0_;have HO_584001:=n1_;have HO586:=n2_;have HO589:=n3_;have BK575:=n4_;have BK576:=n5_;have BK583:=n6_;have BK590:=n7_;have HB:=n8_;clear n0_ n1_ n2_ n3_ n4_ n5_ n6_ n7_ n8_;(try clear hb);(try clear hb2);(try clear hk);(try clear hi);have hcz34_0:w33.cell? ⟨gb590,0,none⟩ = some (.slice Ao23 t584.length co23):=(zT BK590.out 0).trans rfl;have hcz34_1:w33.cell? ⟨gb590,1,none⟩ = some (.slice Ao28 t587.length co28):=(zT BK590.out 1).trans rfl;have hfz34_0:=zZ BK590.out 0;have hfz34_1:=zZ BK590.out 1;have hcz35_0:w33.cell? ⟨gb583,0,none⟩ = some (.slice Ao31 x584000_1.length co31):=(zT BK583.out 0).trans rfl;have hcz35_1:w33.cell? ⟨gb583,1,none⟩ = some (.slice Ao32 x584001_1.length co32):=(zT BK583.out 1).trans rfl;have hfz35_0:=zZ BK583.out 0;have hfz35_1:=zZ BK583.out 1))
     go_roundg k1
     case measure=>have:=HK1.out;omega
     case rel=>exact ⟨(wrap64 (x4_1+1)),(t584),(t587),(.slice Ao23 t584.length co23),(.slice Ao28 t587.length co28),(by first|rfl|(simp;done)|(simp [*];done)),H',⟨by have:=HK1.out;omega⟩,⟨by apply zR_;exact zV (zi (p:=⟨gb583,1,none⟩) (zi (p:=⟨gb583,0,none⟩) (Kd.R_types HO586.out BK583.out (by decide)) (fun _ hk=>hk.2) (.slice Ao23 t584.length co23)) (fun _ hk=>hk.2) (.slice Ao28 t587.length co28)) (fun _ hk=>hk.1.1.1)⟩,⟨by apply zR_;exact zV (zi (p:=⟨gb583,1,none⟩) (zi (p:=⟨gb583,0,none⟩) (Kd.R_types HO589.out BK583.out (by decide)) (fun _ hk=>hk.2) (.slice Ao23 t584.length co23)) (fun _ hk=>hk.2) (.slice Ao28 t587.length co28)) (fun _ hk=>hk.1.1.1)⟩,⟨by (with_reducible repeat (first|refine zG ?_ _|refine zI ?_|refine zH ?_ _));refine blk_far ?_ NB575_583.out _;(with_reducible repeat (first|refine zG ?_ _|refine zI ?_|refine zH ?_ _));refine blk_far ?_ NB575_583.out _;(with_reducible repeat (first|refine zG ?_ _|refine zI ?_|refine zH ?_ _));exact BK575.out⟩,⟨by (with_reducible repeat (first|refine zG ?_ _|refine zI ?_|refine zH ?_ _));refine blk_far ?_ NB576_583.out _;(with_reducible repeat (first|refine zG ?_ _|refine zI ?_|refine zH ?_ _));refine blk_far ?_ NB576_583.out _;(with_reducible repeat (first|refine zG ?_ _|refine zI ?_|refine zH ?_ _));exact BK576.out⟩,⟨by (with_reducible repeat (first|refine zG ?_ _|refine zI ?_|refine zH ?_ _));refine blk_put (cs:=#[.slice Ao23 t584.length co23,.slice Ao32 x584001_1.length co32]) ?_ 1 _ rfl;(with_reducible repeat (first|refine zG ?_ _|refine zI ?_|refine zH ?_ _));refine blk_put (cs:=#[.slice Ao31 x584000_1.length co31,.slice Ao32 x584001_1.length co32]) ?_ 0 _ rfl;(with_reducible repeat (first|refine zG ?_ _|refine zI ?_|refine zH ?_ _));exact BK583.out⟩,⟨by repeat (first|(with_reducible first|exact HB.out|apply zD|apply zB|apply zC|refine zF ?_ GE575.out|refine zF ?_ GE576.out|refine zF ?_ GE583.out|refine zF ?_ GE590.out)|exact HB.out)⟩⟩
    ·rw [if_neg c17] at H
     have c17b0:decide (t591 < 0) = false:=zP c17
     clear c17
     have H':=zA H
     clear H
     have hnb36:=NB575_576.out
     have hnc36:=NB576_575.out
     have hnb37:=NB575_583.out
     have hnc37:=NB583_575.out
     have hcz38_0:wr.cell? ⟨gb575,0,none⟩ = some (.slice A0_0 l0_0.length c0_0):=(zT BK575.out 0).trans rfl
     have hcz38_1:wr.cell? ⟨gb575,1,none⟩ = some (.slice A0_1 l0_1.length c0_1):=(zT BK575.out 1).trans rfl
     have hfz38_0:=zZ BK575.out 0
     have hfz38_1:=zZ BK575.out 1
     go_wp2_with (first|((with_reducible refine gate_callee (f:=78) rfl ?_);refine goesL_ (some 17) rfl rfl Try.func78 (by kernel_rfl) rfl #[.agg #[.slice A0_0 l0_0.length c0_0,.slice A0_1 l0_1.length c0_1],.int .i64 x4_1] rfl (by (try simp only [zJ,zM,zN]);first|done|rfl|(simp only [zL,zK];rfl)) ?_;(with_reducible refine (spec_l2Form.calls k1 _ _ l0_0 _ _ l0_1 x4_1 t584 t587 _ ?side1 ?side2 ?side3 ?side4 A15.out).mono ?_);(case side1=>repeat (first|exact (zW HR0_0.out HB.out)|(with_reducible exact HR0_0.out)|apply zC_));(case side2=>exact HC0_0.out);(case side3=>repeat (first|exact (zW HR0_1.out HB.out)|(with_reducible exact HR0_1.out)|apply zC_));(case side4=>exact HC0_1.out);rintro e w39 ⟨v585,v588,rfl,ho0,ho1,hb⟩;refine ⟨_,rfl,?_⟩;have n0_:=zA (zV (Kd.R_told (Kd.R_told (Kd.R_old (by apply zR_;exact HO_584000.out) hb) (zd ho0)) (zd ho1)) (fun _ h_=>h_.1));have n1_:=zA (zV (Kd.R_told (Kd.R_told (Kd.R_old (by apply zR_;exact HO_584001.out) hb) (zd ho0)) (zd ho1)) (fun _ h_=>h_.1));have n2_:=zA (ze (zh (zh ho0 (Kd.R_lt (by apply zR_;exact HO_584000.out))) (Kd.R_lt (by apply zR_;exact HO_584001.out))) (zQ (by repeat (first|(with_reducible first|exact HB.out|apply zD|apply zB|apply zC|refine zF ?_ GE575.out|refine zF ?_ GE576.out|refine zF ?_ GE583.out)|exact HB.out))));have n3_:=zA (ze (zh (zh ho1 (Kd.R_lt (by apply zR_;exact HO_584000.out))) (Kd.R_lt (by apply zR_;exact HO_584001.out))) (zQ (by repeat (first|(with_reducible first|exact HB.out|apply zD|apply zB|apply zC|refine zF ?_ GE575.out|refine zF ?_ GE576.out|refine zF ?_ GE583.out)|exact HB.out))));have n4_:=zA (zX (g:=gb575) (o:=.cells #[.slice A0_0 l0_0.length c0_0,.slice A0_1 l0_1.length c0_1] 33 (0,0)) (by (with_reducible repeat (first|refine zG ?_ _|refine zI ?_|refine zH ?_ _));exact BK575.out) hb);have n5_:=zA (zX (g:=gb576) (o:=.cells #[.slice none 0 0,.slice none 0 0] 33 (0,0)) (by (with_reducible repeat (first|refine zG ?_ _|refine zI ?_|refine zH ?_ _));exact BK576.out) hb);have n6_:=zA (zX (g:=gb583) (o:=.cells #[u584000,u584001] 33 (0,0)) (by (with_reducible repeat (first|refine zG ?_ _|refine zI ?_|refine zH ?_ _));exact BK583.out) hb);have n7_:=zA (zR (by repeat (first|(with_reducible first|exact HB.out|apply zD|apply zB|apply zC|refine zF ?_ GE575.out|refine zF ?_ GE576.out|refine zF ?_ GE583.out)|exact HB.out)) hb);clear HO_584000;clear HO_584001;clear BK575;clear BK576;clear BK583;clear HB;have HO_584000:=n0_;have HO_584001:=n1_;have HO586:=n2_;have HO589:=n3_;have BK575:=n4_;have BK576:=n5_;have BK583:=n6_;have HB:=n7_;clear n0_ n1_ n2_ n3_ n4_ n5_ n6_ n7_;(try clear hb);(try clear hb2);(try clear hk);(try clear hi);(try clear ho0);(try clear ho1))|((with_reducible refine gate_dst (N:=5) rfl ?_);refine box_event ?hg (N:=5) ?hd (cs:=#[.slice none 0 0,.slice none 0 0]) (t:=33) ?hr ?_;(case hd=>rfl);(case hg=>rfl);(case hr=>first|(go_simp;done)|(go_simp;rfl));intro gb590 hg w40 hbox hb;have n0_:=zA (zj (by apply zR_;exact HO_584000.out) hb);have n1_:=zA (zj (by apply zR_;exact HO_584001.out) hb);have n2_:=zA (zj (by apply zR_;exact HO586.out) hb);have n3_:=zA (zj (by apply zR_;exact HO589.out) hb);have n4_:=zA (zX (g:=gb575) (o:=.cells #[.slice A0_0 l0_0.length c0_0,.slice A0_1 l0_1.length c0_1] 33 (0,0)) (by (with_reducible repeat (first|refine zG ?_ _|refine zI ?_|refine zH ?_ _));exact BK575.out) hb);have n5_:=zA (zX (g:=gb576) (o:=.cells #[.slice none 0 0,.slice none 0 0] 33 (0,0)) (by (with_reducible repeat (first|refine zG ?_ _|refine zI ?_|refine zH ?_ _));exact BK576.out) hb);have n6_:=zA (zX (g:=gb583) (o:=.cells #[u584000,u584001] 33 (0,0)) (by (with_reducible repeat (first|refine zG ?_ _|refine zI ?_|refine zH ?_ _));exact BK583.out) hb);have n7_:=zA (zR (by repeat (first|(with_reducible first|exact HB.out|apply zD|apply zB|apply zC|refine zF ?_ GE575.out|refine zF ?_ GE576.out|refine zF ?_ GE583.out)|exact HB.out)) hb);have n8_:=zA (hbox);have n9_:=zA ((by rw [hg];exact (zQ (by repeat (first|(with_reducible first|exact HB.out|apply zD|apply zB|apply zC|refine zF ?_ GE575.out|refine zF ?_ GE576.out|refine zF ?_ GE583.out)|exact HB.out))):w.heap.size≤gb590));have n10_:=zA ((by rw [hg];exact (zQ (by repeat (first|(with_reducible first|exact HB.out|apply zD|apply zB|apply zC|refine zF ?_ GE575.out|refine zF ?_ GE576.out|refine zF ?_ GE583.out)|exact HB.out))):w.heap.size≤gb590));have n11_:=zA ((by rw [hg];exact Nat.ne_of_lt (blk_lt (g:=gb575) (o:=.cells #[.slice A0_0 l0_0.length c0_0,.slice A0_1 l0_1.length c0_1] 33 (0,0)) (by (with_reducible repeat (first|refine zG ?_ _|refine zI ?_|refine zH ?_ _));exact BK575.out)):gb575≠gb590));have n12_:=zA ((by rw [hg];exact Nat.ne_of_gt (blk_lt (g:=gb575) (o:=.cells #[.slice A0_0 l0_0.length c0_0,.slice A0_1 l0_1.length c0_1] 33 (0,0)) (by (with_reducible repeat (first|refine zG ?_ _|refine zI ?_|refine zH ?_ _));exact BK575.out)):gb590≠gb575));have n13_:=zA ((by rw [hg];exact Nat.ne_of_lt (blk_lt (g:=gb576) (o:=.cells #[.slice none 0 0,.slice none 0 0] 33 (0,0)) (by (with_reducible repeat (first|refine zG ?_ _|refine zI ?_|refine zH ?_ _));exact BK576.out)):gb576≠gb590));have n14_:=zA ((by rw [hg];exact Nat.ne_of_gt (blk_lt (g:=gb576) (o:=.cells #[.slice none 0 0,.slice none 0 0] 33 (0,0)) (by (with_reducible repeat (first|refine zG ?_ _|refine zI ?_|refine zH ?_ _));exact BK576.out)):gb590≠gb576));have n15_:=zA ((by rw [hg];exact Nat.ne_of_lt (blk_lt (g:=gb583) (o:=.cells #[u584000,u584001] 33 (0,0)) (by (with_reducible repeat (first|refine zG ?_ _|refine zI ?_|refine zH ?_ _));exact BK583.out)):gb583≠gb590));have n16_:=zA ((by rw [hg];exact Nat.ne_of_gt (blk_lt (g:=gb583) (o:=.cells #[u584000,u584001] 33 (0,0)) (by (with_reducible repeat (first|refine zG ?_ _|refine zI ?_|refine zH ?_ _));exact BK583.out)):gb590≠gb583));clear HO_584000;clear HO_584001;clear HO586;clear HO589;clear BK575;clear BK576;clear BK583;clear HB;have HO_584000:=n0_;have HO_584001:=n1_;have HO586:=n2_;have HO589:=n3_;have BK575:=n4_;have BK576:=n5_;have BK583:=n6_;have HB:=n7_;have BK590:=n8_;have GW590:=n9_;have GE590:=n10_;have NB575_590:=n11_;have NB590_575:=n12_;have NB576_590:=n13_;have NB590_576:=n14_;have NB583_590:=n15_;have NB590_583:=n16_;clear n0_ n1_ n2_ n3_ n4_ n5_ n6_ n7_ n8_ n9_ n10_ n11_ n12_ n13_ n14_ n15_ n16_;clear hb hbox hg;obtain ⟨Ao41,co41,eo41⟩:=zg HO586.out;subst eo41;have hnb42:=NB590_575.out;have hnc42:=NB575_590.out;have hnb43:=NB590_576.out;have hnc43:=NB576_590.out;have hnb44:=NB590_583.out;have hnc44:=NB583_590.out;have hcz45_0:w40.cell? ⟨gb590,0,none⟩ = some (.slice none 0 0):=(zT BK590.out 0).trans rfl;have hcz45_1:w40.cell? ⟨gb590,1,none⟩ = some (.slice none 0 0):=(zT BK590.out 1).trans rfl;have hfz45_0:=zZ BK590.out 0;have hfz45_1:=zZ BK590.out 1;obtain ⟨Ao46,co46,eo46⟩:=zg HO589.out;subst eo46;have hnb47:=NB583_576.out;have hnc47:=NB576_583.out;have hcz48_0:w40.cell? ⟨gb583,0,none⟩ = some (u584000):=(zT BK583.out 0).trans rfl;have hcz48_1:w40.cell? ⟨gb583,1,none⟩ = some (u584001):=(zT BK583.out 1).trans rfl;have hfz48_0:=zZ BK583.out 0;have hfz48_1:=zZ BK583.out 1;obtain ⟨Ao49,co49,eo49⟩:=zg HO_584000.out;subst eo49;obtain ⟨Ao50,co50,eo50⟩:=zg HO_584001.out;subst eo50)|((with_reducible refine gate_callee (f:=83) rfl ?_);refine goesL_ (some 20) rfl rfl Try.func83 (by kernel_rfl) rfl #[.agg #[.slice Ao41 t584.length co41,.slice Ao46 t587.length co46],.agg #[.slice Ao49 x584000_1.length co49,.slice Ao50 x584001_1.length co50]] rfl (by (try simp only [zJ,zM,zN]);first|done|rfl|(simp only [zL,zK];rfl)) ?_;(with_reducible refine (spec_l2Before.calls k1 _ _ t584 _ _ t587 _ _ x584000_1 _ _ x584001_1 t591 _ ?side1 ?side2 ?side3 ?side4 ?side5 ?side6 ?side7 ?side8 A16.out).mono ?_);(case side1=>refine (zU (e:=3) (base:=w.heap.size) (ok:=fun k_=>((some k_≠(.slice Ao46 t587.length co46:Value).ownBlock∧some k_≠(.slice Ao49 x584000_1.length co49:Value).ownBlock)∧some k_≠(.slice Ao50 x584001_1.length co50:Value).ownBlock)) (n:=t584.length) (c:=co41) ?_).2.2;exact (by apply zR_;exact (zV (zi (p:=⟨gb590,1,none⟩) (zi (p:=⟨gb590,0,none⟩) (Kd.R_types HO586.out BK590.out (by decide)) (fun _ hk=>hk.2) (.slice Ao41 t584.length co41)) (fun _ hk=>hk.2) (.slice Ao46 t587.length co46)) (fun _ h_=>h_.1))));(case side2=>exact (zU HO586.out).2.1);(case side3=>refine (zU (e:=3) (base:=w.heap.size) (ok:=fun k_=>((some k_≠(.slice Ao41 t584.length co41:Value).ownBlock∧some k_≠(.slice Ao49 x584000_1.length co49:Value).ownBlock)∧some k_≠(.slice Ao50 x584001_1.length co50:Value).ownBlock)) (n:=t587.length) (c:=co46) ?_).2.2;exact (by apply zR_;exact (zV (zi (p:=⟨gb590,1,none⟩) (zi (p:=⟨gb590,0,none⟩) (Kd.R_types HO589.out BK590.out (by decide)) (fun _ hk=>hk.2) (.slice Ao41 t584.length co41)) (fun _ hk=>hk.2) (.slice Ao46 t587.length co46)) (fun _ h_=>h_.1))));(case side4=>exact (zU HO589.out).2.1);(case side5=>refine (zU (e:=3) (base:=w.heap.size) (ok:=fun k_=>((some k_≠(.slice Ao50 x584001_1.length co50:Value).ownBlock∧some k_≠(.slice Ao41 t584.length co41:Value).ownBlock)∧some k_≠(.slice Ao46 t587.length co46:Value).ownBlock)) (n:=x584000_1.length) (c:=co49) ?_).2.2;exact (by apply zR_;exact (zV (zi (p:=⟨gb590,1,none⟩) (zi (p:=⟨gb590,0,none⟩) (Kd.R_types HO_584000.out BK590.out (by decide)) (fun _ hk=>hk.2) (.slice Ao41 t584.length co41)) (fun _ hk=>hk.2) (.slice Ao46 t587.length co46)) (fun _ h_=>h_.1))));(case side6=>exact (zU HO_584000.out).2.1);(case side7=>refine (zU (e:=3) (base:=w.heap.size) (ok:=fun k_=>((some k_≠(.slice Ao49 x584000_1.length co49:Value).ownBlock∧some k_≠(.slice Ao41 t584.length co41:Value).ownBlock)∧some k_≠(.slice Ao46 t587.length co46:Value).ownBlock)) (n:=x584001_1.length) (c:=co50) ?_).2.2;exact (by apply zR_;exact (zV (zi (p:=⟨gb590,1,none⟩) (zi (p:=⟨gb590,0,none⟩) (Kd.R_types HO_584001.out BK590.out (by decide)) (fun _ hk=>hk.2) (.slice Ao41 t584.length co41)) (fun _ hk=>hk.2) (.slice Ao46 t587.length co46)) (fun _ h_=>h_.1))));(case side8=>exact (zU HO_584001.out).2.1);rintro e w51 ⟨rfl,hb⟩;refine ⟨_,rfl,?_⟩;have n0_:=zA (zj (by apply zR_;exact (zV (zi (p:=⟨gb590,1,none⟩) (zi (p:=⟨gb590,0,none⟩) (Kd.R_types HO_584000.out BK590.out (by decide)) (fun _ hk=>hk.2) (.slice Ao41 t584.length co41)) (fun _ hk=>hk.2) (.slice Ao46 t587.length co46)) (fun _ h_=>h_.1))) hb);have n1_:=zA (zj (by apply zR_;exact (zV (zi (p:=⟨gb590,1,none⟩) (zi (p:=⟨gb590,0,none⟩) (Kd.R_types HO_584001.out BK590.out (by decide)) (fun _ hk=>hk.2) (.slice Ao41 t584.length co41)) (fun _ hk=>hk.2) (.slice Ao46 t587.length co46)) (fun _ h_=>h_.1))) hb);have n2_:=zA (zj (by apply zR_;exact (zV (zi (p:=⟨gb590,1,none⟩) (zi (p:=⟨gb590,0,none⟩) (Kd.R_types HO586.out BK590.out (by decide)) (fun _ hk=>hk.2) (.slice Ao41 t584.length co41)) (fun _ hk=>hk.2) (.slice Ao46 t587.length co46)) (fun _ h_=>h_.1))) hb);have n3_:=zA (zj (by apply zR_;exact (zV (zi (p:=⟨gb590,1,none⟩) (zi (p:=⟨gb590,0,none⟩) (Kd.R_types HO589.out BK590.out (by decide)) (fun _ hk=>hk.2) (.slice Ao41 t584.length co41)) (fun _ hk=>hk.2) (.slice Ao46 t587.length co46)) (fun _ h_=>h_.1))) hb);have n4_:=zA (zX (g:=gb575) (o:=.cells #[.slice A0_0 l0_0.length c0_0,.slice A0_1 l0_1.length c0_1] 33 (0,0)) (by (with_reducible repeat (first|refine zG ?_ _|refine zI ?_|refine zH ?_ _));refine blk_far ?_ NB575_590.out _;(with_reducible repeat (first|refine zG ?_ _|refine zI ?_|refine zH ?_ _));refine blk_far ?_ NB575_590.out _;(with_reducible repeat (first|refine zG ?_ _|refine zI ?_|refine zH ?_ _));exact BK575.out) hb);have n5_:=zA (zX (g:=gb576) (o:=.cells #[.slice none 0 0,.slice none 0 0] 33 (0,0)) (by (with_reducible repeat (first|refine zG ?_ _|refine zI ?_|refine zH ?_ _));refine blk_far ?_ NB576_590.out _;(with_reducible repeat (first|refine zG ?_ _|refine zI ?_|refine zH ?_ _));refine blk_far ?_ NB576_590.out _;(with_reducible repeat (first|refine zG ?_ _|refine zI ?_|refine zH ?_ _));exact BK576.out) hb);have n6_:=zA (zX (g:=gb583) (o:=.cells #[.slice Ao49 x584000_1.length co49,.slice Ao50 x584001_1.length co50] 33 (0,0)) (by (with_reducible repeat (first|refine zG ?_ _|refine zI ?_|refine zH ?_ _));refine blk_far ?_ NB583_590.out _;(with_reducible repeat (first|refine zG ?_ _|refine zI ?_|refine zH ?_ _));refine blk_far ?_ NB583_590.out _;(with_reducible repeat (first|refine zG ?_ _|refine zI ?_|refine zH ?_ _));exact BK583.out) hb);have n7_:=zA (zX (g:=gb590) (o:=.cells #[.slice Ao41 t584.length co41,.slice Ao46 t587.length co46] 33 (0,0)) (by (with_reducible repeat (first|refine zG ?_ _|refine zI ?_|refine zH ?_ _));refine blk_put (cs:=#[.slice Ao41 t584.length co41,.slice none 0 0]) ?_ 1 _ rfl;(with_reducible repeat (first|refine zG ?_ _|refine zI ?_|refine zH ?_ _));refine blk_put (cs:=#[.slice none 0 0,.slice none 0 0]) ?_ 0 _ rfl;(with_reducible repeat (first|refine zG ?_ _|refine zI ?_|refine zH ?_ _));exact BK590.out) hb);have n8_:=zA (zR (by repeat (first|(with_reducible first|exact HB.out|apply zD|apply zB|apply zC|refine zF ?_ GE575.out|refine zF ?_ GE576.out|refine zF ?_ GE583.out|refine zF ?_ GE590.out)|exact HB.out)) hb);clear HO_584000;clear HO_584001;clear HO586;clear HO589;clear BK575;clear BK576;clear BK583;clear BK590;clear HB;have HO_584000:=n0_;have HO_584001:=n1_;have HO586:=n2_;have HO589:=n3_;have BK575:=n4_;have BK576:=n5_;have BK583:=n6_;have BK590:=n7_;have HB:=n8_;clear n0_ n1_ n2_ n3_ n4_ n5_ n6_ n7_ n8_;(try clear hb);(try clear hb2);(try clear hk);(try clear hi)))
     go_roundg k1
     case measure=>have:=HK1.out;omega
     case rel=>exact ⟨(wrap64 (x4_1+1)),(x584000_1),(x584001_1),(.slice Ao49 x584000_1.length co49),(.slice Ao50 x584001_1.length co50),(by first|rfl|(simp;done)|(simp [*];done)),H',⟨by have:=HK1.out;omega⟩,⟨by apply zR_;exact zV HO_584000.out (fun _ hk=>hk.1.1)⟩,⟨by apply zR_;exact zV HO_584001.out (fun _ hk=>hk.1.1)⟩,⟨by (with_reducible repeat (first|refine zG ?_ _|refine zI ?_|refine zH ?_ _));exact BK575.out⟩,⟨by (with_reducible repeat (first|refine zG ?_ _|refine zI ?_|refine zH ?_ _));exact BK576.out⟩,⟨by (with_reducible repeat (first|refine zG ?_ _|refine zI ?_|refine zH ?_ _));exact BK583.out⟩,⟨by repeat (first|(with_reducible first|exact HB.out|apply zD|apply zB|apply zC|refine zF ?_ GE575.out|refine zF ?_ GE576.out|refine zF ?_ GE583.out|refine zF ?_ GE590.out)|exact HB.out)⟩⟩
   ·rw [if_neg c14] at H
    have c14b0:decide (x4_1 < (l0_0.length:Int)) = false:=zP c14
    clear c14
    simp only [Option.some.injEq,Prod.mk.injEq] at H
    obtain ⟨rfl,rfl⟩:=H
    have hnb52:=NB575_576.out
    have hnc52:=NB576_575.out
    have hnb53:=NB575_583.out
    have hnc53:=NB583_575.out
    have hcz54_0:wr.cell? ⟨gb575,0,none⟩ = some (.slice A0_0 l0_0.length c0_0):=(zT BK575.out 0).trans rfl
    have hcz54_1:wr.cell? ⟨gb575,1,none⟩ = some (.slice A0_1 l0_1.length c0_1):=(zT BK575.out 1).trans rfl
    have hfz54_0:=zZ BK575.out 0
    have hfz54_1:=zZ BK575.out 1
    have hnb55:=NB583_576.out
    have hnc55:=NB576_583.out
    have hcz56_0:wr.cell? ⟨gb583,0,none⟩ = some (u584000):=(zT BK583.out 0).trans rfl
    have hcz56_1:wr.cell? ⟨gb583,1,none⟩ = some (u584001):=(zT BK583.out 1).trans rfl
    have hfz56_0:=zZ BK583.out 0
    have hfz56_1:=zZ BK583.out 1
    obtain ⟨Ao57,co57,eo57⟩:=zg HO_584000.out
    subst eo57
    have hcz58_0:wr.cell? ⟨gb576,0,none⟩ = some (.slice none 0 0):=(zT BK576.out 0).trans rfl
    have hcz58_1:wr.cell? ⟨gb576,1,none⟩ = some (.slice none 0 0):=(zT BK576.out 1).trans rfl
    have hfz58_0:=zZ BK576.out 0
    have hfz58_1:=zZ BK576.out 1
    obtain ⟨Ao59,co59,eo59⟩:=zg HO_584001.out
    subst eo59
    go_wp2
    refine bodyPost_ret (results_cell_row rfl _ _ gb576 33 #[.slice Ao57 x584000_1.length co57,.slice Ao59 x584001_1.length co59] (0,0) _ rfl (by (with_reducible repeat (first|refine zG ?_ _|refine zI ?_|refine zH ?_ _));refine blk_put (cs:=#[.slice Ao57 x584000_1.length co57,.slice none 0 0]) ?_ 1 _ rfl;(with_reducible repeat (first|refine zG ?_ _|refine zI ?_|refine zH ?_ _));refine blk_put (cs:=#[.slice none 0 0,.slice none 0 0]) ?_ 0 _ rfl;(with_reducible repeat (first|refine zG ?_ _|refine zI ?_|refine zH ?_ _));exact BK576.out) Try.underlying33 rfl (by kernel_rfl)) rfl ?_
    exact ⟨_,_,by first|rfl|(simp [errW_none,errW_some] <;> rfl)|(simp [*,errW_none,errW_some] <;> rfl),by apply zR_;exact zV (zi (p:=⟨gb576,1,none⟩) (zi (p:=⟨gb576,0,none⟩) (Kd.R_types HO_584000.out BK576.out (by decide)) (fun _ hk=>hk.2) (.slice Ao57 x584000_1.length co57)) (fun _ hk=>hk.2) (.slice Ao59 x584001_1.length co59)) (fun _ hk=>hk.1),by apply zR_;exact zV (zi (p:=⟨gb576,1,none⟩) (zi (p:=⟨gb576,0,none⟩) (Kd.R_types HO_584001.out BK576.out (by decide)) (fun _ hk=>hk.2) (.slice Ao57 x584000_1.length co57)) (fun _ hk=>hk.2) (.slice Ao59 x584001_1.length co59)) (fun _ hk=>hk.1),by repeat (first|(with_reducible first|exact HB.out|apply zD|apply zB|apply zC|refine zF ?_ GE575.out|refine zF ?_ GE576.out|refine zF ?_ GE583.out)|exact HB.out)⟩

/-! ### spec_l3Different: function 41 -/
def spec_l3Different.l0:Nat→List (S33)→List (S33)→Int→Option ((List (S33)))
 | 0,_,_,_=>none
 | k+1,x5,x6,x7=>if x7 < (x6.length:Int) then (if 0≤x7 then ((spec_l2Least.f k ((rd_T33 x6 x7).f0) ((rd_T33 x6 x7).f1)).bind fun bt599=>((spec_l3Put.f k x5 bt599.1 bt599.2).bind fun t605=>(spec_l3Different.l0 k t605 x6 (wrap64 (x7+1))))) else (none)) else (some x5)
def spec_l3Different.f (k:Nat) (a0:Int) (a1:Int):Option ((List (S33))):=(spec_l3All.f k a0 a1).bind fun t595=>(spec_l3Different.l0 k (([]:List (S33))) t595 0)
theorem spec_l3Different.mono_l:∀ k,(∀ y0 y1 y2,LeO (spec_l3Different.l0 k y0 y1 y2) (spec_l3Different.l0 (k+1) y0 y1 y2))
 | 0=>fun _ _ _ r h=>by simp [spec_l3Different.l0] at h
 | k+1=>by
  have ih0:=spec_l3Different.mono_l k
  ·intro y0 y1 y2
   unfold spec_l3Different.l0
   repeat' first
   | (with_reducible exact ih0 _ _ _)
   | (with_reducible exact spec_l2Least.mono _ _ _)
   | (with_reducible exact spec_l3All.mono _ _ _)
   | (with_reducible exact spec_l3Put.mono _ _ _ _)
   | (with_reducible exact LeO.refl _)
   | (with_reducible exact za _)
   | (with_reducible refine zc ?_ ?_)
   | (with_reducible refine zb ?_ (fun _=>?_))
theorem spec_l3Different.mono:∀ a0 a1 k,LeO (spec_l3Different.f k a0 a1) (spec_l3Different.f (k+1) a0 a1):=by
 intro a0 a1 k
 have ih0:=spec_l3Different.mono_l k
 unfold spec_l3Different.f
 repeat' first
   | (with_reducible exact ih0 _ _ _)
   | (with_reducible exact spec_l2Least.mono _ _ _)
   | (with_reducible exact spec_l3All.mono _ _ _)
   | (with_reducible exact spec_l3Put.mono _ _ _ _)
   | (with_reducible exact LeO.refl _)
   | (with_reducible exact za _)
   | (with_reducible refine zc ?_ ?_)
   | (with_reducible refine zb ?_ (fun _=>?_))
set_option maxHeartbeats 8000000 in
set_option maxRecDepth 100000 in
theorem spec_l3Different.calls (k:Nat) (a0:Int) (a1:Int) (r:List (S33)) (w:World) (h:spec_l3Different.f k a0 a1 = some r) :
  Calls Try.prog 41 #[.int .i64 a0,.int .i64 a1] w fun e w' => ∃ v0_:Value,e = .returned (v0_)∧Kd.V k33 33 w' w.heap.size (fun k_=>(w.heap.size≤k_)) v0_ r∧Below w.heap.size w w':=by
 have hu33:=Try.underlying33
 have HB:=zA (Below.refl w.heap.size w)
 have H:((spec_l3All.f k a0 a1).bind fun t595=>(spec_l3Different.l0 k (([]:List (S33))) t595 0)) = some r:=h
 clear h
 obtain ⟨y592,hy592⟩:∃ y_:List (S33),y_ = (([]:List (S33))):=⟨_,rfl⟩
 replace H:((spec_l3All.f k a0 a1).bind fun t595=>(spec_l3Different.l0 k y592 t595 0)) = some r:=by (try rw [hy592]);first|with_reducible exact H|with_reducible exact zS_ H|exact H
 have Ny592:=zA hy592
 clear hy592
 replace H:=zz0 H
 obtain ⟨t595,A30,H⟩:=H
 try dsimp only at H
 have A3:=zA A30
 clear A30
 have H':=zA H
 clear H
 go_enter Try.func41,Try.ntmps41
 go_wp2_with (first|((with_reducible refine gate_dst (N:=8) rfl ?_);refine Kd.S_lit k33 _ 33 ?hg (N:=8) ?hd (xs:=([]:List (S33))) (inner:=[]) (ok:=fun _=>True) (okp:=fun _=>True) ?hr ?hp (fun _ hk=>hk) trivial (Below.refl _ _) (Nat.le_refl _) (by simp) ?_;(case hd=>rfl);(case hg=>rfl);(case hr=>first|(go_simp;done)|(go_simp;rfl));(case hp=>exact (Reps.none _ _));intro v593 w4 ho5 hb hg_ hnew_;clear hg_ hnew_;(first|rw [← Ny592.out] at ho5|(simp only [Int.reduceToNat] at ho5;rw [← Ny592.out] at ho5));have n0_:=zA (Kd.S_lower (Kd.S_newM (M:=fun k_=>(w.heap.size≤k_)) ho5 (zQ (by exact zB_ HB.out)) (fun k_ h_=>h_)) (zQ (by exact zB_ HB.out)));have n1_:=zA (zR (by exact zB_ HB.out) hb);clear HB;have HO594:=n0_;have HB:=n1_;clear n0_ n1_;clear hb ho5)|((with_reducible refine gate_callee (f:=45) rfl ?_);refine goesL_ (some 11) rfl rfl Try.func45 (by kernel_rfl) rfl #[.int .i64 a0,.int .i64 a1] rfl (by (try simp only [zJ,zM,zN]);first|done|rfl|(simp only [zL,zK];rfl)) ?_;(with_reducible refine (spec_l3All.calls k a0 a1 t595 _ A3.out).mono ?_);rintro e w6 ⟨v596,rfl,ho0,hb⟩;refine ⟨_,rfl,?_⟩;have n0_:=zA (Kd.S_below (by (with_reducible repeat (first|apply Kd.S_alloc|apply Kd.S_drewN|apply Kd.S_drew));exact HO594.out) hb);have n1_:=zA (Kd.V_lower (Kd.V_mono (ok':=fun k_=>(w.heap.size≤k_)∧some k_≠(v593:Value).ownBlock) ho0 (fun k_ hk_=>⟨(Nat.le_trans (zQ (by exact zB_ HB.out)) hk_),(Kd.fresh' (Kd.S_lt (by (with_reducible repeat (first|apply Kd.S_alloc|apply Kd.S_drewN|apply Kd.S_drew));exact HO594.out)) k_ hk_)⟩)) (zQ (by exact zB_ HB.out)));have n2_:=zA (zR (by exact zB_ HB.out) hb);clear HO594;clear HB;have HO594:=n0_;have HO597:=n1_;have HB:=n2_;clear n0_ n1_ n2_;(try clear hb);(try clear hb2);(try clear hk);(try clear hi);(try clear ho0)))
 go_loopg [5,7] k (fun kq v5 v7 w' => ∃ (x5_1:List (S33)) (x7_1:Int),v7 = .int .i64 x7_1∧Aside0 (spec_l3Different.l0 kq x5_1 t595 x7_1 = some r)∧Aside0 (kq≤k)∧Aside0 (Kd.V k33 33 w' w.heap.size (fun k_=>(w.heap.size≤k_)) v5 x5_1)∧Aside0 (Kd.V k33 33 w' w.heap.size (fun k_=>(w.heap.size≤k_)) v596 t595)∧Aside0 (Below w.heap.size w w'))
 case atStart=>exact ⟨(y592),(0),(by first|rfl|(simp;done)|(simp [*];done)),H',⟨Nat.le_refl _⟩,⟨Kd.S_V (by (with_reducible repeat (first|apply Kd.S_alloc|apply Kd.S_drewN|apply Kd.S_drew));exact Kd.S_mono HO594.out (fun _ hk=>hk.1))⟩,⟨by apply zV_;exact Kd.V_mono HO597.out (fun _ hk=>hk.1)⟩,⟨by exact zB_ HB.out⟩⟩
 case round =>
  clear H'
  (try clear p2);(try clear c4)
  obtain ⟨x5_1,x7_1,rfl,HA,HK1,HO_5,HO_6,HB⟩:=hrel
  cases gk with
  | zero=>exact absurd HA.out (by simp [spec_l3Different.l0])
  | succ k1 =>
   have H:=HA.out
   clear HA
   simp only [spec_l3Different.l0] at H
   by_cases c7:x7_1 < (t595.length:Int)
   ·rw [if_pos c7] at H
    have c7b0:decide (x7_1 < (t595.length:Int)) = true:=zO c7
    clear c7
    by_cases c8:0≤x7_1
    ·rw [if_pos c8] at H
     have c8b0:decide (0≤x7_1) = true:=zO c8
     clear c8
     replace H:=zz0 H
     obtain ⟨⟨t599,t602⟩,A90,H⟩:=H
     try dsimp only at H
     have A9:=zA A90
     clear A90
     replace H:=zz0 H
     obtain ⟨t605,A100,H⟩:=H
     try dsimp only at H
     have A10:=zA A100
     clear A100
     have H':=zA H
     clear H
     obtain ⟨Ao11,co11,eo11⟩:=Kd.V_slice HO_6.out
     subst eo11
     have p598:0≤(x7_1:Int):=zE (by with_reducible assumption)
     have q598:x7_1 < (t595.length:Int):=zE (by with_reducible assumption)
     obtain ⟨ad598,A598_0,c598_0,A598_1,c598_1,e598,hx598_0,hx598_1,hl598_0,hi598_0,hl598_1,hi598_1⟩:=at_T33 (zk HO_6.out).2.2 x7_1 p598 q598
     cases e598
     obtain ⟨ce598,hce598,hMe598,hcc598⟩:=Kd.V_get HO_6.out z33 x7_1 p598 (by first|exact q598|exact zE (by with_reducible assumption)|(have e_:=(zk HO_6.out).1;omega))
     obtain ⟨ua598_0,uc598_0,ua598_1,uc598_1,rfl,ul598_0,ge598_0,ul598_1,ge598_1⟩:=k33_openF hMe598
     have hv598_0:=hcc598 0 _ rfl
     rw [Nat.add_zero] at hv598_0
     replace hv598_0:=zS (hv598_0.symm.trans hx598_0)
     injection hv598_0 with hva_ hvn_ hvc_
     rw [hva_] at ge598_0
     rw [hvc_] at ul598_0
     have HL598_0:=zA (show Kd.V (Kd.int .i64) 3 _ w.heap.size _ _ ((rd_T33 t595 x7_1).f0) from Kd.V_mk ul598_0 ge598_0)
     clear hva_ hvn_ hvc_ ge598_0 ul598_0
     have hv598_1:=hcc598 1 _ rfl
     rw [add_field _ _ 1 (by omega)] at hv598_1
     replace hv598_1:=zS (hv598_1.symm.trans hx598_1)
     injection hv598_1 with hva_ hvn_ hvc_
     rw [hva_] at ge598_1
     rw [hvc_] at ul598_1
     have HL598_1:=zA (show Kd.V (Kd.int .i64) 3 _ w.heap.size _ _ ((rd_T33 t595 x7_1).f1) from Kd.V_mk ul598_1 ge598_1)
     clear hva_ hvn_ hvc_ ge598_1 ul598_1 hcc598 hce598
     have HR598_0:=zA hi598_0
     have HC598_0:=zA hl598_0
     clear hi598_0 hl598_0
     have HR598_1:=zA hi598_1
     have HC598_1:=zA hl598_1
     clear hi598_1 hl598_1
     replace p598:=eq_true p598
     replace q598:=eq_true q598
     go_wp2_with (first|((with_reducible refine gate_callee (f:=65) rfl ?_);refine goesL_ (some 23) rfl rfl Try.func65 (by kernel_rfl) rfl #[.agg #[.slice A598_0 ((rd_T33 t595 x7_1).f0).length c598_0,.slice A598_1 ((rd_T33 t595 x7_1).f1).length c598_1]] rfl (by (try simp only [zJ,zM,zN]);first|done|rfl|(simp only [zL,zK];rfl)) ?_;(with_reducible refine (spec_l2Least.calls k1 _ _ ((rd_T33 t595 x7_1).f0) _ _ ((rd_T33 t595 x7_1).f1) t599 t602 _ ?side1 ?side2 ?side3 ?side4 A9.out).mono ?_);(case side1=>repeat (first|exact (by repeat (first|(with_reducible exact HR598_0.out)|apply zC_|exact HR598_0.out))|apply zC_));(case side2=>exact HC598_0.out);(case side3=>repeat (first|exact (by repeat (first|(with_reducible exact HR598_1.out)|apply zC_|exact HR598_1.out))|apply zC_));(case side4=>exact HC598_1.out);rintro e w12 ⟨v600,v603,rfl,ho0,ho1,hb⟩;refine ⟨_,rfl,?_⟩;have n0_:=zA (Kd.V_mono (Kd.V_told (Kd.V_told (Kd.V_old (by apply zV_;exact HO_5.out) hb) (zd ho0)) (zd ho1)) (fun _ h_=>h_.1));have n1_:=zA (Kd.V_mono (Kd.V_told (Kd.V_told (Kd.V_old (by apply zV_;exact HO_6.out) hb) (zd ho0)) (zd ho1)) (fun _ h_=>h_.1));have n2_:=zA (Kd.V_mono (Kd.V_told (Kd.V_told (Kd.V_old (by apply zV_;exact HL598_0.out) hb) (zd ho0)) (zd ho1)) (fun _ h_=>h_.1));have n3_:=zA (Kd.V_mono (Kd.V_told (Kd.V_told (Kd.V_old (by apply zV_;exact HL598_1.out) hb) (zd ho0)) (zd ho1)) (fun _ h_=>h_.1));have n4_:=zA (ze (Kd.R_newM (M:=fun k_=>(w.heap.size≤k_)) ho0 (zQ (by exact zB_ HB.out)) (fun k_ h_=>h_)) (zQ (by exact zB_ HB.out)));have n5_:=zA (ze (Kd.R_newM (M:=fun k_=>(w.heap.size≤k_)) ho1 (zQ (by exact zB_ HB.out)) (fun k_ h_=>h_)) (zQ (by exact zB_ HB.out)));have n6_:=zA (zW (by repeat (first|(with_reducible exact HR598_0.out)|apply zC_|exact HR598_0.out)) hb);have n7_:=zA (zW (by repeat (first|(with_reducible exact HR598_1.out)|apply zC_|exact HR598_1.out)) hb);have n8_:=zA (zR (by exact zB_ HB.out) hb);clear HO_5;clear HO_6;clear HL598_0;clear HL598_1;clear HR598_0;clear HR598_1;clear HB;have HO_5:=n0_;have HO_6:=n1_;have HL598_0:=n2_;have HL598_1:=n3_;have HO601:=n4_;have HO604:=n5_;have HR598_0:=n6_;have HR598_1:=n7_;have HB:=n8_;clear n0_ n1_ n2_ n3_ n4_ n5_ n6_ n7_ n8_;(try clear hb);(try clear hb2);(try clear hk);(try clear hi);(try clear ho0);(try clear ho1);obtain ⟨Ao13,co13,eo13⟩:=Kd.V_slice HO_5.out;subst eo13;obtain ⟨Ao14,co14,eo14⟩:=zg HO601.out;subst eo14;obtain ⟨Ao15,co15,eo15⟩:=zg HO604.out;subst eo15)|((with_reducible refine gate_callee (f:=64) rfl ?_);refine goesL_ (some 24) rfl rfl Try.func64 (by kernel_rfl) rfl #[.slice Ao13 x5_1.length co13,.agg #[.slice Ao14 t599.length co14,.slice Ao15 t602.length co15]] rfl (by (try simp only [zJ,zM,zN]);first|done|rfl|(simp only [zL,zK];rfl)) ?_;(with_reducible refine (spec_l3Put.calls k1 (fun k_=>(((w.heap.size≤k_)∧some k_≠(.slice Ao14 t599.length co14:Value).ownBlock)∧some k_≠(.slice Ao15 t602.length co15:Value).ownBlock)) _ _ x5_1 (fun k_=>some k_ = (.slice Ao14 t599.length co14:Value).ownBlock) _ _ t599 (fun k_=>some k_ = (.slice Ao15 t602.length co15:Value).ownBlock) _ _ t602 t605 _ ?side1 ?side2 ?side3 A10.out).mono ?_);(case side1=>exact HO_5.out);(case side2=>exact Kd.R_V (Kd.R_tight rfl (HO601.out)));(case side3=>exact Kd.R_V (Kd.R_tight rfl (HO604.out)));rintro e w16 ⟨v606,rfl,ho0,hb⟩;refine ⟨_,rfl,?_⟩;have n0_:=zA (Kd.V_below (by apply zV_;exact HO_5.out) hb);have n1_:=zA (Kd.V_below (by apply zV_;exact HO_6.out) hb);have n2_:=zA (Kd.V_below (by apply zV_;exact HL598_0.out) hb);have n3_:=zA (Kd.V_below (by apply zV_;exact HL598_1.out) hb);have n4_:=zA (zj (by apply zR_;exact HO601.out) hb);have n5_:=zA (zj (by apply zR_;exact HO604.out) hb);have n6_:=zA (Kd.V_lower (Kd.V_mono (ok':=fun k_=>(w.heap.size≤k_)) ho0 (fun k_ hk_=>Or.elim hk_ (fun hs_=>Or.elim hs_ (fun hs_=>hs_.1.1) (fun hs_=>Or.elim hs_ (fun hs_=>((HO601.out).1 k_ hs_.symm).1) (fun hs_=>((HO604.out).1 k_ hs_.symm).1))) (fun hn_=>(Nat.le_trans (zQ (by exact zB_ HB.out)) hn_)))) (zQ (by exact zB_ HB.out)));have n7_:=zA (zW (by repeat (first|(with_reducible exact HR598_0.out)|apply zC_|exact HR598_0.out)) hb);have n8_:=zA (zW (by repeat (first|(with_reducible exact HR598_1.out)|apply zC_|exact HR598_1.out)) hb);have n9_:=zA (zR (by exact zB_ HB.out) hb);clear HO_5;clear HO_6;clear HL598_0;clear HL598_1;clear HO601;clear HO604;clear HR598_0;clear HR598_1;clear HB;have HO_5:=n0_;have HO_6:=n1_;have HL598_0:=n2_;have HL598_1:=n3_;have HO601:=n4_;have HO604:=n5_;have HO607:=n6_;have HR598_0:=n7_;have HR598_1:=n8_;have HB:=n9_;clear n0_ n1_ n2_ n3_ n4_ n5_ n6_ n7_ n8_ n9_;(try clear hb);(try clear hb2);(try clear hk);(try clear hi);(try clear ho0)))
     go_roundg k1
     case measure=>have:=HK1.out;omega
     case rel=>exact ⟨(t605),(wrap64 (x7_1+1)),(by first|rfl|(simp;done)|(simp [*];done)),H',⟨by have:=HK1.out;omega⟩,⟨by apply zV_;exact HO607.out⟩,⟨by apply zV_;exact Kd.V_mono HO_6.out (fun _ hk=>hk.1.1)⟩,⟨by exact zB_ HB.out⟩⟩
    ·rw [if_neg c8] at H
     exact absurd H (by simp)
   ·rw [if_neg c7] at H
    have c7b0:decide (x7_1 < (t595.length:Int)) = false:=zP c7
    clear c7
    obtain rfl:=zS H
    obtain ⟨Ao17,co17,eo17⟩:=Kd.V_slice HO_6.out
    subst eo17
    go_wp2
    go_ret
    exact ⟨_,by first|rfl|(simp [errW_none,errW_some] <;> rfl)|(simp [*,errW_none,errW_some] <;> rfl),by apply zV_;exact HO_5.out,by exact zB_ HB.out⟩

/-! ### spec_MapTurns: function 54 -/
def spec_MapTurns.l0:Nat→Int→Int→List Int→List Int→Option (Int)
 | 0,_,_,_,_=>none
 | k+1,x3,x4,x609000,x609001=>if x4 < (x609000.length:Int) then ((spec_l2Form.f k x609000 x609001 x4).bind fun bt610=>((spec_l2Form.f k x609000 x609001 0).bind fun bt616=>((spec_l2Before.f k bt610.1 bt610.2 bt616.1 bt616.2).bind fun t622=>(if t622 = 0 then (spec_MapTurns.l0 k (wrap64 (x3+1)) (wrap64 (x4+1)) x609000 x609001) else (spec_MapTurns.l0 k x3 (wrap64 (x4+1)) x609000 x609001))))) else (some x3)
def spec_MapTurns.f (k:Nat) (l0_0:List Int) (l0_1:List Int):Option (Int):=(spec_MapValid.f k l0_0 l0_1).bind fun t609=>(if t609 = true then (spec_MapTurns.l0 k 0 0 l0_0 l0_1) else (some (-1)))
theorem spec_MapTurns.mono_l:∀ k,(∀ y0 y1 y2 y3,LeO (spec_MapTurns.l0 k y0 y1 y2 y3) (spec_MapTurns.l0 (k+1) y0 y1 y2 y3))
 | 0=>fun _ _ _ _ r h=>by simp [spec_MapTurns.l0] at h
 | k+1=>by
  have ih0:=spec_MapTurns.mono_l k
  ·intro y0 y1 y2 y3
   unfold spec_MapTurns.l0
   repeat' first
   | (with_reducible exact ih0 _ _ _ _)
   | (with_reducible exact spec_MapValid.mono _ _ _)
   | (with_reducible exact spec_l2Before.mono _ _ _ _ _)
   | (with_reducible exact spec_l2Form.mono _ _ _ _)
   | (with_reducible exact LeO.refl _)
   | (with_reducible exact za _)
   | (with_reducible refine zc ?_ ?_)
   | (with_reducible refine zb ?_ (fun _=>?_))
theorem spec_MapTurns.mono:∀ a0 a1 k,LeO (spec_MapTurns.f k a0 a1) (spec_MapTurns.f (k+1) a0 a1):=by
 intro a0 a1 k
 have ih0:=spec_MapTurns.mono_l k
 unfold spec_MapTurns.f
 repeat' first
   | (with_reducible exact ih0 _ _ _ _)
   | (with_reducible exact spec_MapValid.mono _ _ _)
   | (with_reducible exact spec_l2Before.mono _ _ _ _ _)
   | (with_reducible exact spec_l2Form.mono _ _ _ _)
   | (with_reducible exact LeO.refl _)
   | (with_reducible exact za _)
   | (with_reducible refine zc ?_ ?_)
   | (with_reducible refine zb ?_ (fun _=>?_))
set_option maxHeartbeats 8000000 in
set_option maxRecDepth 100000 in
theorem spec_MapTurns.calls (k:Nat) (A0_0:Option Addr) (c0_0:Nat) (l0_0:List Int) (A0_1:Option Addr) (c0_1:Nat) (l0_1:List Int) (r:Int) (w:World) (hr0_0:Kd.C (Kd.int .i64) w A0_0 l0_0.length l0_0) (hc0_0:l0_0.length≤c0_0) (hr0_1:Kd.C (Kd.int .i64) w A0_1 l0_1.length l0_1) (hc0_1:l0_1.length≤c0_1) (h:spec_MapTurns.f k l0_0 l0_1 = some r) :
  Calls Try.prog 54 #[.agg #[.slice A0_0 l0_0.length c0_0,.slice A0_1 l0_1.length c0_1]] w fun e w'=>e = .returned (.int .i64 r)∧Below w.heap.size w w':=by
 have hu33:=Try.underlying33
 have HR0_0:=zA hr0_0
 have HC0_0:=zA hc0_0
 clear hr0_0 hc0_0
 have HR0_1:=zA hr0_1
 have HC0_1:=zA hc0_1
 clear hr0_1 hc0_1
 have HB:=zA (Below.refl w.heap.size w)
 have H:((spec_MapValid.f k l0_0 l0_1).bind fun t609=>(if t609 = true then (spec_MapTurns.l0 k 0 0 l0_0 l0_1) else (some (-1)))) = some r:=h
 clear h
 replace H:=zz0 H
 obtain ⟨t609,A20,H⟩:=H
 try dsimp only at H
 have A2:=zA A20
 clear A20
 by_cases c3:t609 = true
 ·subst c3
  rw [if_pos rfl] at H;try dsimp only at H
  have H':=zA H
  clear H
  go_enter Try.func54,Try.ntmps54
  go_wp2_with (first|((with_reducible refine gate_dst (N:=1) rfl ?_);refine box_event ?hg (N:=1) ?hd (cs:=#[.slice A0_0 l0_0.length c0_0,.slice A0_1 l0_1.length c0_1]) (t:=33) ?hr ?_;(case hd=>rfl);(case hg=>rfl);(case hr=>first|(go_simp;done)|(go_simp;rfl));intro gb608 hg w4 hbox hb;have n0_:=zA (zR (by exact zB_ HB.out) hb);have n1_:=zA (hbox);have n2_:=zA ((by rw [hg];exact (zQ (by exact zB_ HB.out)):w.heap.size≤gb608));have n3_:=zA ((by rw [hg];exact (zQ (by exact zB_ HB.out)):w.heap.size≤gb608));clear HB;have HB:=n0_;have BK608:=n1_;have GW608:=n2_;have GE608:=n3_;clear n0_ n1_ n2_ n3_;clear hb hbox hg;have hcz5_0:w4.cell? ⟨gb608,0,none⟩ = some (.slice A0_0 l0_0.length c0_0):=(zT BK608.out 0).trans rfl;have hcz5_1:w4.cell? ⟨gb608,1,none⟩ = some (.slice A0_1 l0_1.length c0_1):=(zT BK608.out 1).trans rfl;have hfz5_0:=zZ BK608.out 0;have hfz5_1:=zZ BK608.out 1)|((with_reducible refine gate_callee (f:=76) rfl ?_);refine goesL_ (some 6) rfl rfl Try.func76 (by kernel_rfl) rfl #[.agg #[.slice A0_0 l0_0.length c0_0,.slice A0_1 l0_1.length c0_1]] rfl (by (try simp only [zJ,zM,zN]);first|done|rfl|(simp only [zL,zK];rfl)) ?_;(with_reducible refine (spec_MapValid.calls k _ _ l0_0 _ _ l0_1 true _ ?side1 ?side2 ?side3 ?side4 A2.out).mono ?_);(case side1=>repeat (first|exact (zW HR0_0.out HB.out)|(with_reducible exact HR0_0.out)|apply zC_));(case side2=>exact HC0_0.out);(case side3=>repeat (first|exact (zW HR0_1.out HB.out)|(with_reducible exact HR0_1.out)|apply zC_));(case side4=>exact HC0_1.out);rintro e w6 ⟨rfl,hb⟩;refine ⟨_,rfl,?_⟩;have n0_:=zA (zX (g:=gb608) (o:=.cells #[.slice A0_0 l0_0.length c0_0,.slice A0_1 l0_1.length c0_1] 33 (0,0)) (by (with_reducible repeat (first|refine zG ?_ _|refine zI ?_|refine zH ?_ _));exact BK608.out) hb);have n1_:=zA (zR (by repeat (first|(with_reducible first|exact HB.out|apply zD|apply zB|apply zC|refine zF ?_ GE608.out)|exact HB.out)) hb);clear BK608;clear HB;have BK608:=n0_;have HB:=n1_;clear n0_ n1_;(try clear hb);(try clear hb2);(try clear hk);(try clear hi)))
  go_loopg [3,4] k (fun kq v3 v4 w' => ∃ (x3_1:Int) (x4_1:Int),v3 = .int .i64 x3_1∧v4 = .int .i64 x4_1∧Aside0 (spec_MapTurns.l0 kq x3_1 x4_1 l0_0 l0_1 = some r)∧Aside0 (kq≤k)∧Aside0 (w'.heap[gb608]? = some (.cells #[(.slice A0_0 l0_0.length c0_0),(.slice A0_1 l0_1.length c0_1)] 33 (0,0)))∧Aside0 (Below w.heap.size w w'))
  case atStart=>exact ⟨(0),(0),(by first|rfl|(simp;done)|(simp [*];done)),(by first|rfl|(simp;done)|(simp [*];done)),H',⟨Nat.le_refl _⟩,⟨by (with_reducible repeat (first|refine zG ?_ _|refine zI ?_|refine zH ?_ _));exact BK608.out⟩,⟨by repeat (first|(with_reducible first|exact HB.out|apply zD|apply zB|apply zC|refine zF ?_ GE608.out)|exact HB.out)⟩⟩
  case round =>
   clear H'
   (try clear p2);(try clear c3);(try clear c5);(try clear hcz5_0);(try clear hcz5_1);(try clear hfz5_0);(try clear hfz5_1)
   obtain ⟨x3_1,x4_1,rfl,rfl,HA,HK1,BK608,HB⟩:=hrel
   cases gk with
   | zero=>exact absurd HA.out (by simp [spec_MapTurns.l0])
   | succ k1 =>
    have H:=HA.out
    clear HA
    simp only [spec_MapTurns.l0] at H
    by_cases c7:x4_1 < (l0_0.length:Int)
    ·rw [if_pos c7] at H
     have c7b0:decide (x4_1 < (l0_0.length:Int)) = true:=zO c7
     clear c7
     replace H:=zz0 H
     obtain ⟨⟨t610,t613⟩,A80,H⟩:=H
     try dsimp only at H
     have A8:=zA A80
     clear A80
     replace H:=zz0 H
     obtain ⟨⟨t616,t619⟩,A90,H⟩:=H
     try dsimp only at H
     have A9:=zA A90
     clear A90
     replace H:=zz0 H
     obtain ⟨t622,A100,H⟩:=H
     try dsimp only at H
     have A10:=zA A100
     clear A100
     have H9_:=zA H
     clear H
     have hcz12_0:wr.cell? ⟨gb608,0,none⟩ = some (.slice A0_0 l0_0.length c0_0):=(zT BK608.out 0).trans rfl
     have hcz12_1:wr.cell? ⟨gb608,1,none⟩ = some (.slice A0_1 l0_1.length c0_1):=(zT BK608.out 1).trans rfl
     have hfz12_0:=zZ BK608.out 0
     have hfz12_1:=zZ BK608.out 1
     try go_wp2
     have n0_:=zA (zI BK608.out)
     have n1_:=zA (zC HB.out)
     clear BK608 HB
     have BK608:=n0_
     have HB:=n1_
     clear n0_ n1_
     refine start_ (n:=7) (S:=fun w'=>w'.cell? ⟨gb608,0,none⟩ = some (.slice A0_0 l0_0.length c0_0)∧w'.cell? ⟨gb608,1,none⟩ = some (.slice A0_1 l0_1.length c0_1)) (ds:=[]) #[zf,zf,zf,zf,zf,zf,zf] (by kernel_rfl) rfl rfl ⟨(zT BK608.out 0).trans rfl,(zT BK608.out 1).trans rfl⟩ (fun hHeld=>?_)
     generalize wr.drew = w13 at BK608 HB hHeld ⊢
     refine pure_ (i:=1) (N:=some 16) (v:=?_) (a':=?_) #[zf,zt,zf,zf,zf,zf,zf] rfl rfl (by kernel_rfl) (fun _ _ _ h=>h) (Or.inl ⟨by rfl,?_⟩) ?_ ?_
     rotate_left
     ·intro w'
      go_simp
      with_reducible rfl
     rotate_left
     ·simp only [Act.put,zP_,i64_w]
      rfl
     refine take_ (i:=0) (N:=some 15) (v:=?_) (a':=?_) #[zt,zt,zf,zf,zf,zf,zf] rfl rfl (by kernel_rfl) (fun _ _ _ h=>h) (Or.inl ⟨by rfl,?_⟩) hHeld ?_ ?_
     rotate_left
     ·rintro w' ⟨s0,s1⟩
      go_simp
      with_reducible rfl
     rotate_left
     ·simp only [Act.put,zP_,i64_w]
      rfl
     refine take_ (i:=3) (N:=some 18) (v:=?_) (a':=?_) #[zt,zt,zf,zt,zf,zf,zf] rfl rfl (by kernel_rfl) (fun _ _ _ h=>h) (Or.inl ⟨by rfl,?_⟩) hHeld ?_ ?_
     rotate_left
     ·rintro w' ⟨s0,s1⟩
      go_simp
      with_reducible rfl
     rotate_left
     ·simp only [Act.put,zP_,i64_w]
      rfl
     refine one_ (i:=2) (N:=some 17) #[zt,zt,zt,zt,zf,zf,zf] rfl rfl (by kernel_rfl) (by decide) (fun K hK=>?_)
     refine goes_ Try.func78 (by kernel_rfl) rfl #[.agg #[.slice A0_0 l0_0.length c0_0,.slice A0_1 l0_1.length c0_1],.int .i64 x4_1] (by rfl) rfl rfl (by (try simp only [zJ,zM,zN]);first|done|rfl|(simp only [zL,zK];rfl)) ?_
     with_reducible refine (spec_l2Form.calls k1 _ _ l0_0 _ _ l0_1 x4_1 t610 t613 _ ?side1 ?side2 ?side3 ?side4 A8.out).mono ?_
     (case side1=>repeat (first|exact (zW HR0_0.out HB.out)|(with_reducible exact HR0_0.out)|apply zC_))
     (case side2=>exact HC0_0.out)
     (case side3=>repeat (first|exact (zW HR0_1.out HB.out)|(with_reducible exact HR0_1.out)|apply zC_))
     (case side4=>exact HC0_1.out)
     rintro e w14 ⟨v611,v614,rfl,ho0,ho1,hb⟩
     refine ⟨_,rfl,?_⟩
     have n0_:=zA (ze ho0 (zQ (by repeat (first|(with_reducible first|exact HB.out|apply zD|apply zB|apply zC|refine zF ?_ GE608.out)|exact HB.out))))
     have n1_:=zA (ze ho1 (zQ (by repeat (first|(with_reducible first|exact HB.out|apply zD|apply zB|apply zC|refine zF ?_ GE608.out)|exact HB.out))))
     have n2_:=zA (zX (g:=gb608) (o:=.cells #[.slice A0_0 l0_0.length c0_0,.slice A0_1 l0_1.length c0_1] 33 (0,0)) (by (with_reducible repeat (first|refine zG ?_ _|refine zI ?_|refine zH ?_ _));exact BK608.out) hb)
     have n3_:=zA (zR (by repeat (first|(with_reducible first|exact HB.out|apply zD|apply zB|apply zC|refine zF ?_ GE608.out)|exact HB.out)) hb)
     clear BK608 HB
     have HO612:=n0_
     have HO615:=n1_
     have BK608:=n2_
     have HB:=n3_
     clear n0_ n1_ n2_ n3_
     (try clear hb);(try clear hb2);(try clear hk);(try clear hi);(try clear ho0);(try clear ho1)
     refine hK.out _ _ ⟨(zT BK608.out 0).trans rfl,(zT BK608.out 1).trans rfl⟩ (fun hHeld=>?_)
     clear hK K
     refine norm_ (a':=?_) ?_ ?_
     rotate_left
     ·show Act.put _ (some 17) _ = _
      simp only [Act.put,zP_,i64_w]
      rfl
     refine one_ (i:=4) (N:=some 19) #[zt,zt,zt,zt,zt,zf,zf] rfl rfl (by kernel_rfl) (by decide) (fun K hK=>?_)
     refine goes_ Try.func78 (by kernel_rfl) rfl #[.agg #[.slice A0_0 l0_0.length c0_0,.slice A0_1 l0_1.length c0_1],.int .i64 0] (by rfl) rfl rfl (by (try simp only [zJ,zM,zN]);first|done|rfl|(simp only [zL,zK];rfl)) ?_
     with_reducible refine (spec_l2Form.calls k1 _ _ l0_0 _ _ l0_1 0 t616 t619 _ ?side1 ?side2 ?side3 ?side4 A9.out).mono ?_
     (case side1=>repeat (first|exact (zW HR0_0.out HB.out)|(with_reducible exact HR0_0.out)|apply zC_))
     (case side2=>exact HC0_0.out)
     (case side3=>repeat (first|exact (zW HR0_1.out HB.out)|(with_reducible exact HR0_1.out)|apply zC_))
     (case side4=>exact HC0_1.out)
     rintro e w15 ⟨v617,v620,rfl,ho0,ho1,hb⟩
     refine ⟨_,rfl,?_⟩
     have n0_:=zA (zV (Kd.R_told (Kd.R_told (Kd.R_old (by apply zR_;exact HO612.out) hb) (zd ho0)) (zd ho1)) (fun _ h_=>h_.1))
     have n1_:=zA (zV (Kd.R_told (Kd.R_told (Kd.R_old (by apply zR_;exact HO615.out) hb) (zd ho0)) (zd ho1)) (fun _ h_=>h_.1))
     have n2_:=zA (ze (zh (zh ho0 (Kd.R_lt (by apply zR_;exact HO612.out))) (Kd.R_lt (by apply zR_;exact HO615.out))) (zQ (by repeat (first|(with_reducible first|exact HB.out|apply zD|apply zB|apply zC|refine zF ?_ GE608.out)|exact HB.out))))
     have n3_:=zA (ze (zh (zh ho1 (Kd.R_lt (by apply zR_;exact HO612.out))) (Kd.R_lt (by apply zR_;exact HO615.out))) (zQ (by repeat (first|(with_reducible first|exact HB.out|apply zD|apply zB|apply zC|refine zF ?_ GE608.out)|exact HB.out))))
     have n4_:=zA (zX (g:=gb608) (o:=.cells #[.slice A0_0 l0_0.length c0_0,.slice A0_1 l0_1.length c0_1] 33 (0,0)) (by (with_reducible repeat (first|refine zG ?_ _|refine zI ?_|refine zH ?_ _));exact BK608.out) hb)
     have n5_:=zA (zR (by repeat (first|(with_reducible first|exact HB.out|apply zD|apply zB|apply zC|refine zF ?_ GE608.out)|exact HB.out)) hb)
     clear HO612 HO615 BK608 HB
     have HO612:=n0_
     have HO615:=n1_
     have HO618:=n2_
     have HO621:=n3_
     have BK608:=n4_
     have HB:=n5_
     clear n0_ n1_ n2_ n3_ n4_ n5_
     (try clear hb);(try clear hb2);(try clear hk);(try clear hi);(try clear ho0);(try clear ho1)
     obtain ⟨Ao16,co16,eo16⟩:=zg HO612.out
     (first|subst eo16|(injection eo16 with f1_ f2_ f3_;have f4_:=f1_.symm;have f5_:=f3_.symm;clear f1_ f2_ f3_;subst f4_;subst f5_))
     obtain ⟨Ao17,co17,eo17⟩:=zg HO615.out
     (first|subst eo17|(injection eo17 with f1_ f2_ f3_;have f4_:=f1_.symm;have f5_:=f3_.symm;clear f1_ f2_ f3_;subst f4_;subst f5_))
     obtain ⟨Ao18,co18,eo18⟩:=zg HO618.out
     (first|subst eo18|(injection eo18 with f1_ f2_ f3_;have f4_:=f1_.symm;have f5_:=f3_.symm;clear f1_ f2_ f3_;subst f4_;subst f5_))
     obtain ⟨Ao19,co19,eo19⟩:=zg HO621.out
     (first|subst eo19|(injection eo19 with f1_ f2_ f3_;have f4_:=f1_.symm;have f5_:=f3_.symm;clear f1_ f2_ f3_;subst f4_;subst f5_))
     refine hK.out _ _ ⟨(zT BK608.out 0).trans rfl,(zT BK608.out 1).trans rfl⟩ (fun hHeld=>?_)
     clear hK K
     refine norm_ (a':=?_) ?_ ?_
     rotate_left
     ·show Act.put _ (some 19) _ = _
      simp only [Act.put,zP_,i64_w]
      rfl
     refine one_ (i:=5) (N:=some 20) #[zt,zt,zt,zt,zt,zt,zf] rfl rfl (by kernel_rfl) (by decide) (fun K hK=>?_)
     refine goes_ Try.func83 (by kernel_rfl) rfl #[.agg #[.slice Ao16 t610.length co16,.slice Ao17 t613.length co17],.agg #[.slice Ao18 t616.length co18,.slice Ao19 t619.length co19]] (by rfl) rfl rfl (by (try simp only [zJ,zM,zN]);first|done|rfl|(simp only [zL,zK];rfl)) ?_
     with_reducible refine (spec_l2Before.calls k1 _ _ t610 _ _ t613 _ _ t616 _ _ t619 t622 _ ?side1 ?side2 ?side3 ?side4 ?side5 ?side6 ?side7 ?side8 A10.out).mono ?_
     (case side1=>repeat (first|exact (zU HO612.out).2.2|apply zC_))
     (case side2=>exact (zU HO612.out).2.1)
     (case side3=>repeat (first|exact (zU HO615.out).2.2|apply zC_))
     (case side4=>exact (zU HO615.out).2.1)
     (case side5=>repeat (first|exact (zU HO618.out).2.2|apply zC_))
     (case side6=>exact (zU HO618.out).2.1)
     (case side7=>repeat (first|exact (zU HO621.out).2.2|apply zC_))
     (case side8=>exact (zU HO621.out).2.1)
     rintro e w20 ⟨rfl,hb⟩
     refine ⟨_,rfl,?_⟩
     have n0_:=zA (zj (by apply zR_;exact HO612.out) hb)
     have n1_:=zA (zj (by apply zR_;exact HO615.out) hb)
     have n2_:=zA (zj (by apply zR_;exact HO618.out) hb)
     have n3_:=zA (zj (by apply zR_;exact HO621.out) hb)
     have n4_:=zA (zX (g:=gb608) (o:=.cells #[.slice A0_0 l0_0.length c0_0,.slice A0_1 l0_1.length c0_1] 33 (0,0)) (by (with_reducible repeat (first|refine zG ?_ _|refine zI ?_|refine zH ?_ _));exact BK608.out) hb)
     have n5_:=zA (zR (by repeat (first|(with_reducible first|exact HB.out|apply zD|apply zB|apply zC|refine zF ?_ GE608.out)|exact HB.out)) hb)
     clear HO612 HO615 HO618 HO621 BK608 HB
     have HO612:=n0_
     have HO615:=n1_
     have HO618:=n2_
     have HO621:=n3_
     have BK608:=n4_
     have HB:=n5_
     clear n0_ n1_ n2_ n3_ n4_ n5_
     (try clear hb);(try clear hb2);(try clear hk);(try clear hi)
     refine hK.out _ _ ⟨(zT BK608.out 0).trans rfl,(zT BK608.out 1).trans rfl⟩ (fun hHeld=>?_)
     clear hK K
     refine norm_ (a':=?_) ?_ ?_
     rotate_left
     ·show Act.put _ (some 20) _ = _
      simp only [Act.put,zP_,i64_w]
      rfl
     refine pure_ (i:=6) (N:=some 21) (v:=?_) (a':=?_) #[zt,zt,zt,zt,zt,zt,zt] rfl rfl (by kernel_rfl) (fun _ _ _ h=>h) (Or.inl ⟨by rfl,?_⟩) ?_ ?_
     rotate_left
     ·intro w'
      go_simp
      with_reducible rfl
     rotate_left
     ·simp only [Act.put,zP_,i64_w]
      rfl
     refine done_ (by kernel_rfl) ?_
     have H:=H9_.out
     clear H9_
     by_cases c11:t622 = 0
     ·rw [if_pos c11] at H
      have c11b0:(t622 == 0) = true:=beq_iff_eq.mpr c11
      have c11b1:(t622 != 0) = false:=bne_eq_false_iff_eq.mpr c11
      clear c11
      try rw [c11b0]
      have H':=zA H
      clear H
      try go_wp2
      go_roundg k1
      case measure=>have:=HK1.out;omega
      case rel=>exact ⟨(wrap64 (x3_1+1)),(wrap64 (x4_1+1)),(by first|rfl|(simp;done)|(simp [*];done)),(by first|rfl|(simp;done)|(simp [*];done)),H',⟨by have:=HK1.out;omega⟩,⟨by (with_reducible repeat (first|refine zG ?_ _|refine zI ?_|refine zH ?_ _));exact BK608.out⟩,⟨by repeat (first|(with_reducible first|exact HB.out|apply zD|apply zB|apply zC|refine zF ?_ GE608.out)|exact HB.out)⟩⟩
     ·rw [if_neg c11] at H
      have c11b0:(t622 == 0) = false:=beq_eq_false_iff_ne.mpr c11
      have c11b1:(t622 != 0) = true:=bne_iff_ne.mpr c11
      have H':=zA H
      clear H
      try go_wp2
      go_roundg k1
      case measure=>have:=HK1.out;omega
      case rel=>exact ⟨(x3_1),(wrap64 (x4_1+1)),(by first|rfl|(simp;done)|(simp [*];done)),(by first|rfl|(simp;done)|(simp [*];done)),H',⟨by have:=HK1.out;omega⟩,⟨by (with_reducible repeat (first|refine zG ?_ _|refine zI ?_|refine zH ?_ _));exact BK608.out⟩,⟨by repeat (first|(with_reducible first|exact HB.out|apply zD|apply zB|apply zC|refine zF ?_ GE608.out)|exact HB.out)⟩⟩
    ·rw [if_neg c7] at H
     have c7b0:decide (x4_1 < (l0_0.length:Int)) = false:=zP c7
     clear c7
     obtain rfl:=zS H
     have hcz30_0:wr.cell? ⟨gb608,0,none⟩ = some (.slice A0_0 l0_0.length c0_0):=(zT BK608.out 0).trans rfl
     have hcz30_1:wr.cell? ⟨gb608,1,none⟩ = some (.slice A0_1 l0_1.length c0_1):=(zT BK608.out 1).trans rfl
     have hfz30_0:=zZ BK608.out 0
     have hfz30_1:=zZ BK608.out 1
     go_wp2
     go_ret
     exact ⟨by first|rfl|(simp [errW_none,errW_some] <;> rfl)|(simp [*,errW_none,errW_some] <;> rfl),by repeat (first|(with_reducible first|exact HB.out|apply zD|apply zB|apply zC|refine zF ?_ GE608.out)|exact HB.out)⟩
 ·replace c3:=Bool.eq_false_iff.mpr c3
  subst c3
  have H1:(some (-1)) = some r:=by rw [if_neg (show ¬ (false = true) by decide)] at H;exact H
  clear H
  have H:=H1
  clear H1
  obtain rfl:=zS H
  go_enter Try.func54,Try.ntmps54
  go_wp2_with (first|((with_reducible refine gate_dst (N:=1) rfl ?_);refine box_event ?hg (N:=1) ?hd (cs:=#[.slice A0_0 l0_0.length c0_0,.slice A0_1 l0_1.length c0_1]) (t:=33) ?hr ?_;(case hd=>rfl);(case hg=>rfl);(case hr=>first|(go_simp;done)|(go_simp;rfl));intro gb608 hg w31 hbox hb;have n0_:=zA (zR (by exact zB_ HB.out) hb);have n1_:=zA (hbox);have n2_:=zA ((by rw [hg];exact (zQ (by exact zB_ HB.out)):w.heap.size≤gb608));have n3_:=zA ((by rw [hg];exact (zQ (by exact zB_ HB.out)):w.heap.size≤gb608));clear HB;have HB:=n0_;have BK608:=n1_;have GW608:=n2_;have GE608:=n3_;clear n0_ n1_ n2_ n3_;clear hb hbox hg;have hcz32_0:w31.cell? ⟨gb608,0,none⟩ = some (.slice A0_0 l0_0.length c0_0):=(zT BK608.out 0).trans rfl;have hcz32_1:w31.cell? ⟨gb608,1,none⟩ = some (.slice A0_1 l0_1.length c0_1):=(zT BK608.out 1).trans rfl;have hfz32_0:=zZ BK608.out 0;have hfz32_1:=zZ BK608.out 1)|((with_reducible refine gate_callee (f:=76) rfl ?_);refine goesL_ (some 6) rfl rfl Try.func76 (by kernel_rfl) rfl #[.agg #[.slice A0_0 l0_0.length c0_0,.slice A0_1 l0_1.length c0_1]] rfl (by (try simp only [zJ,zM,zN]);first|done|rfl|(simp only [zL,zK];rfl)) ?_;(with_reducible refine (spec_MapValid.calls k _ _ l0_0 _ _ l0_1 false _ ?side1 ?side2 ?side3 ?side4 A2.out).mono ?_);(case side1=>repeat (first|exact (zW HR0_0.out HB.out)|(with_reducible exact HR0_0.out)|apply zC_));(case side2=>exact HC0_0.out);(case side3=>repeat (first|exact (zW HR0_1.out HB.out)|(with_reducible exact HR0_1.out)|apply zC_));(case side4=>exact HC0_1.out);rintro e w33 ⟨rfl,hb⟩;refine ⟨_,rfl,?_⟩;have n0_:=zA (zX (g:=gb608) (o:=.cells #[.slice A0_0 l0_0.length c0_0,.slice A0_1 l0_1.length c0_1] 33 (0,0)) (by (with_reducible repeat (first|refine zG ?_ _|refine zI ?_|refine zH ?_ _));exact BK608.out) hb);have n1_:=zA (zR (by repeat (first|(with_reducible first|exact HB.out|apply zD|apply zB|apply zC|refine zF ?_ GE608.out)|exact HB.out)) hb);clear BK608;clear HB;have BK608:=n0_;have HB:=n1_;clear n0_ n1_;(try clear hb);(try clear hb2);(try clear hk);(try clear hi)))
  go_ret
  exact ⟨by first|rfl|(simp [errW_none,errW_some] <;> rfl)|(simp [*,errW_none,errW_some] <;> rfl),by repeat (first|(with_reducible first|exact HB.out|apply zD|apply zB|apply zC|refine zF ?_ GE608.out)|exact HB.out)⟩

end Go.Proofs.Ytdaiohcgdpclnaa.Q
