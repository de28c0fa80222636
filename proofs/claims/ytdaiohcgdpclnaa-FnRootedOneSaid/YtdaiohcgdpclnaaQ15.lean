import Derived.Test.YtdaiohcgdpclnaaQ0
import Derived.Test.YtdaiohcgdpclnaaQ11
import Derived.Test.YtdaiohcgdpclnaaQ14
import Derived.Test.YtdaiohcgdpclnaaQ3
import Derived.Test.YtdaiohcgdpclnaaZ
namespace Go.Proofs.Ytdaiohcgdpclnaa.Q
open Go.RowKit Go.Proofs.YtdaiohcgdpclnaaW.PrintWords Go.Proofs.YtdaiohcgdpclnaaW.PrintLast Go.Proofs.YtdaiohcgdpclnaaW.PrintMore
attribute [local go_sem] max2_int min2_int max_two min_two max_three min_three max_four min_four   -- for this text's walks alone
set_option linter.unusedVariables false
set_option linter.unusedSimpArgs false

/-! ### impl_RootedOne: function 30 -/
def impl_RootedOne.l0:Nat→Int→List (S33)→Int→Int→Option (Int)
 | 0,_,_,_,_=>none
 | k+1,x5,x14,x15,x16=>if x16 < x15 then (if 0≤x16 then (if x16 < (x14.length:Int) then ((impl_mul.f k ((rd_T33 x14 x16).f1) ((rd_T33 x14 x16).f0)).bind fun t491=>((impl_cyclesOf.f k t491).bind fun t494=>(if (t494.length:Int) = 1 then (impl_RootedOne.l0 k (wrap64 (x5+1)) x14 x15 (wrap64 (x16+1))) else (impl_RootedOne.l0 k x5 x14 x15 (wrap64 (x16+1)))))) else (none)) else (none)) else (some x5)
def impl_RootedOne.f (k:Nat) (a0:Int) (a1:Int):Option (Int):=(impl_RootedCount.f a0 a1).bind fun t485=>(if t485 < 0 then (some (-1)) else ((impl_rooted.f a0 a1).bind fun t486=>(impl_RootedOne.l0 k 0 t486 (t486.length:Int) 0)))
theorem impl_RootedOne.mono_l:∀ k,(∀ y0 y1 y2 y3,LeO (impl_RootedOne.l0 k y0 y1 y2 y3) (impl_RootedOne.l0 (k+1) y0 y1 y2 y3))
 | 0=>fun _ _ _ _ r h=>by simp [impl_RootedOne.l0] at h
 | k+1=>by
  have ih0:=impl_RootedOne.mono_l k
  ·intro y0 y1 y2 y3
   unfold impl_RootedOne.l0
   repeat' first
   | (with_reducible exact ih0 _ _ _ _)
   | (with_reducible exact impl_cyclesOf.mono _ _)
   | (with_reducible exact impl_mul.mono _ _ _)
   | (with_reducible exact LeO.refl _)
   | (with_reducible exact zm _)
   | (with_reducible refine zo ?_ ?_)
   | (with_reducible refine zn ?_ (fun _=>?_))
   | exact ih0 _ _ _ _
   | exact impl_cyclesOf.mono _ _
   | exact impl_mul.mono _ _ _
   | exact zm _
   | refine zo ?_ ?_
   | refine zn ?_ (fun _=>?_)
theorem impl_RootedOne.mono:∀ a0 a1 k,LeO (impl_RootedOne.f k a0 a1) (impl_RootedOne.f (k+1) a0 a1):=by
 intro a0 a1 k
 have ih0:=impl_RootedOne.mono_l k
 unfold impl_RootedOne.f
 repeat' first
   | (with_reducible exact ih0 _ _ _ _)
   | (with_reducible exact impl_cyclesOf.mono _ _)
   | (with_reducible exact impl_mul.mono _ _ _)
   | (with_reducible exact LeO.refl _)
   | (with_reducible exact zm _)
   | (with_reducible refine zo ?_ ?_)
   | (with_reducible refine zn ?_ (fun _=>?_))
   | exact ih0 _ _ _ _
   | exact impl_cyclesOf.mono _ _
   | exact impl_mul.mono _ _ _
   | exact zm _
   | refine zo ?_ ?_
   | refine zn ?_ (fun _=>?_)
set_option maxHeartbeats 8000000 in
set_option maxRecDepth 100000 in
theorem impl_RootedOne.calls (k:Nat) (a0:Int) (a1:Int) (r:Int) (w:World) (h:impl_RootedOne.f k a0 a1 = some r) :
  Calls Try.prog 30 #[.int .i64 a0,.int .i64 a1] w fun e w'=>e = .returned (.int .i64 r)∧Below w.heap.size w w':=by
 have hu33:=Try.underlying33
 have HB:=zA (Below.refl w.heap.size w)
 have H:((impl_RootedCount.f a0 a1).bind fun t485=>(if t485 < 0 then (some (-1)) else ((impl_rooted.f a0 a1).bind fun t486=>(impl_RootedOne.l0 k 0 t486 (t486.length:Int) 0)))) = some r:=h
 clear h
 replace H:=zz0 H
 obtain ⟨t485,A30,H⟩:=H
 replace H:(if t485 < 0 then (some (-1)) else ((impl_rooted.f a0 a1).bind fun t486=>(impl_RootedOne.l0 k 0 t486 (t486.length:Int) 0))) = some r:=H
 have A3:=zA A30
 clear A30
 by_cases c4:t485 < 0
 ·rw [if_pos c4] at H
  have c4b0:decide (t485 < 0) = true:=zU c4
  clear c4
  obtain rfl:=zb H
  go_enter Try.func30,Try.ntmps30
  go_wp2_with (first|((with_reducible refine gate_callee (f:=16) rfl ?_);refine goesL_ (some 10) rfl rfl Try.func16 (by kernel_rfl) rfl #[.int .i64 a0,.int .i64 a1] rfl (by (try simp only [zP,zS,zT]);first|done|rfl|(simp only [zR,zQ];rfl)) ?_;(with_reducible refine (impl_RootedCount.calls a0 a1 t485 _ A3.out).mono ?_);rintro e w5 ⟨rfl,hb⟩;refine ⟨_,rfl,?_⟩;have n0_:=zA (za (by repeat (first|(with_reducible first|exact HB.out|apply zD|apply zB|apply zC)|exact HB.out)) hb);clear HB;have HB:=n0_;clear n0_;(try clear hb);(try clear hb2);(try clear hk);(try clear hi)))
  go_ret
  exact ⟨by first|rfl|(simp [errW_none,errW_some] <;> rfl)|(simp [*,errW_none,errW_some] <;> rfl),by repeat (first|(with_reducible first|exact HB.out|apply zD|apply zB|apply zC)|exact HB.out)⟩
 ·rw [if_neg c4] at H
  have c4b0:decide (t485 < 0) = false:=zV c4
  clear c4
  replace H:=zz0 H
  obtain ⟨t486,A60,H⟩:=H
  replace H:(impl_RootedOne.l0 k 0 t486 (t486.length:Int) 0) = some r:=H
  have A6:=zA A60
  clear A60
  have H':=zA H
  clear H
  go_enter Try.func30,Try.ntmps30
  go_wp2_with (first|((with_reducible refine gate_callee (f:=16) rfl ?_);refine goesL_ (some 10) rfl rfl Try.func16 (by kernel_rfl) rfl #[.int .i64 a0,.int .i64 a1] rfl (by (try simp only [zP,zS,zT]);first|done|rfl|(simp only [zR,zQ];rfl)) ?_;(with_reducible refine (impl_RootedCount.calls a0 a1 t485 _ A3.out).mono ?_);rintro e w7 ⟨rfl,hb⟩;refine ⟨_,rfl,?_⟩;have n0_:=zA (za (by repeat (first|(with_reducible first|exact HB.out|apply zD|apply zB|apply zC)|exact HB.out)) hb);clear HB;have HB:=n0_;clear n0_;(try clear hb);(try clear hb2);(try clear hk);(try clear hi))|((with_reducible refine gate_callee (f:=42) rfl ?_);refine goesL_ (some 14) rfl rfl Try.func42 (by kernel_rfl) rfl #[.int .i64 a0,.int .i64 a1] rfl (by (try simp only [zP,zS,zT]);first|done|rfl|(simp only [zR,zQ];rfl)) ?_;(with_reducible refine (impl_rooted.calls a0 a1 t486 _ A6.out).mono ?_);rintro e w8 ⟨v487,rfl,ho0,hb⟩;refine ⟨_,rfl,?_⟩;have n0_:=zA (Kd.S_lower ho0 (zZ (by repeat (first|(with_reducible first|exact HB.out|apply zD|apply zB|apply zC)|exact HB.out))));have n1_:=zA (za (by repeat (first|(with_reducible first|exact HB.out|apply zD|apply zB|apply zC)|exact HB.out)) hb);clear HB;have HO488:=n0_;have HB:=n1_;clear n0_ n1_;(try clear hb);(try clear hb2);(try clear hk);(try clear hi);(try clear ho0);obtain ⟨Ao9,co9,eo9⟩:=Kd.S_slice HO488.out;subst eo9))
  go_loopg [5,16] k (fun kq v5 v16 w' => ∃ (x5_1:Int) (x16_1:Int),v5 = .int .i64 x5_1∧v16 = .int .i64 x16_1∧Aside0 (impl_RootedOne.l0 kq x5_1 t486 (t486.length:Int) x16_1 = some r)∧Aside0 (kq≤k)∧Aside0 (Kd.S k33 33 w' w.heap.size (fun _=>True) (.slice Ao9 t486.length co9) t486)∧Aside0 (Below w.heap.size w w'))
  case atStart=>exact ⟨(0),(0),(by first|rfl|(simp;done)|(simp [*];done)),(by first|rfl|(simp;done)|(simp [*];done)),H',⟨Nat.le_refl _⟩,⟨by (with_reducible repeat (first|apply Kd.S_alloc|apply Kd.S_drewN|apply Kd.S_drew));exact HO488.out⟩,⟨by repeat (first|(with_reducible first|exact HB.out|apply zD|apply zB|apply zC)|exact HB.out)⟩⟩
  case round =>
   clear H'
   try clear c1
   try clear p2
   try clear c3
   try clear c4
   try clear c4b0
   obtain ⟨x5_1,x16_1,rfl,rfl,HA,HK1,HO_14,HB⟩:=hrel
   cases gk with
   | zero=>exact absurd HA.out (by simp [impl_RootedOne.l0])
   | succ k1 =>
    have H:=HA.out
    clear HA
    simp only [impl_RootedOne.l0] at H
    by_cases c10:x16_1 < (t486.length:Int)
    ·rw [if_pos c10] at H
     have c10b0:decide (x16_1 < (t486.length:Int)) = true:=zU c10
     clear c10
     by_cases c11:0≤x16_1
     ·rw [if_pos c11] at H
      have c11b0:decide (0≤x16_1) = true:=zU c11
      clear c11
      by_cases c12:x16_1 < (t486.length:Int)
      ·rw [if_pos c12] at H
       have c12b0:decide (x16_1 < (t486.length:Int)) = true:=zU c12
       clear c12
       replace H:=zz0 H
       obtain ⟨t491,A130,H⟩:=H
       replace H:((impl_cyclesOf.f k1 t491).bind fun t494=>(if (t494.length:Int) = 1 then (impl_RootedOne.l0 k1 (wrap64 (x5_1+1)) t486 (t486.length:Int) (wrap64 (x16_1+1))) else (impl_RootedOne.l0 k1 x5_1 t486 (t486.length:Int) (wrap64 (x16_1+1))))) = some r:=H
       have A13:=zA A130
       clear A130
       replace H:=zz0 H
       obtain ⟨t494,A140,H⟩:=H
       replace H:(if (t494.length:Int) = 1 then (impl_RootedOne.l0 k1 (wrap64 (x5_1+1)) t486 (t486.length:Int) (wrap64 (x16_1+1))) else (impl_RootedOne.l0 k1 x5_1 t486 (t486.length:Int) (wrap64 (x16_1+1)))) = some r:=H
       have A14:=zA A140
       clear A140
       by_cases c15:(t494.length:Int) = 1
       ·rw [if_pos c15] at H
        have c15b0:((t494.length:Int) == 1) = true:=beq_iff_eq.mpr c15
        have c15b1:((t494.length:Int) != 1) = false:=bne_eq_false_iff_eq.mpr c15
        clear c15
        have H':=zA H
        clear H
        have p489:0≤(x16_1:Int):=zF (by first|(with_reducible assumption)|assumption)
        have q489:x16_1 < (t486.length:Int):=zF (by first|(with_reducible assumption)|assumption)
        obtain ⟨ad489,A489_0,c489_0,A489_1,c489_1,e489,hx489_0,hx489_1,hl489_0,hi489_0,hl489_1,hi489_1⟩:=at_T33 (Kd.S_reads' HO_14.out).2.2 x16_1 p489 q489
        cases e489
        obtain ⟨ce489,hce489,hMe489,hcc489⟩:=Kd.S_get HO_14.out z33 x16_1 p489 (by first|exact q489|exact zF (by first|(with_reducible assumption)|assumption)|(have e_:=(Kd.S_reads' HO_14.out).1;omega))
        obtain ⟨ve489_0,ve489_1,rfl,ge489_0,ge489_1⟩:=k33_openM hMe489
        have hv489_0:=hcc489 0 _ rfl
        rw [Nat.add_zero] at hv489_0
        replace hv489_0:=zb (hv489_0.symm.trans hx489_0)
        rw [hv489_0] at ge489_0
        have HL489_0:=zA (show Kd.R (Kd.int .i64) 3 _ _ _ _ ((rd_T33 t486 x16_1).f0) from ge489_0)
        clear hv489_0 ge489_0
        have hv489_1:=hcc489 1 _ rfl
        rw [add_field _ _ 1 (by omega)] at hv489_1
        replace hv489_1:=zb (hv489_1.symm.trans hx489_1)
        rw [hv489_1] at ge489_1
        have HL489_1:=zA (show Kd.R (Kd.int .i64) 3 _ _ _ _ ((rd_T33 t486 x16_1).f1) from ge489_1)
        clear hv489_1 ge489_1
        clear hcc489 hce489
        have HR489_0:=zA hi489_0
        have HC489_0:=zA hl489_0
        clear hi489_0 hl489_0
        have HR489_1:=zA hi489_1
        have HC489_1:=zA hl489_1
        clear hi489_1 hl489_1
        replace p489:=eq_true p489
        replace q489:=eq_true q489
        go_wp2_with (first|((with_reducible refine gate_dst (N:=7) rfl ?_);refine box_event ?hg (N:=7) ?hd (cs:=#[.slice none 0 0,.slice none 0 0]) (t:=33) ?hr ?_;(case hd=>rfl);(case hg=>rfl);(case hr=>first|(go_simp;done)|(go_simp;rfl));intro gb490 hg w16 hbox hb;have n0_:=zA (Kd.S_below (Kd.S_elderB (by (with_reducible repeat (first|apply Kd.S_alloc|apply Kd.S_drewN|apply Kd.S_drew));exact HO_14.out) gb490 (Nat.le_of_eq hg.symm)) hb);have n1_:=zA (Kd.R_below (by (with_reducible repeat (first|apply zK|apply zJ|apply zL));exact HL489_0.out) hb);have n2_:=zA (Kd.R_below (by (with_reducible repeat (first|apply zK|apply zJ|apply zL));exact HL489_1.out) hb);have n3_:=zA (zf (by repeat (first|(with_reducible exact HR489_0.out)|(with_reducible refine zW ?_ _)|(with_reducible refine zX ?_ _)|(with_reducible refine zY ?_)|exact HR489_0.out)) hb);have n4_:=zA (zf (by repeat (first|(with_reducible exact HR489_1.out)|(with_reducible refine zW ?_ _)|(with_reducible refine zX ?_ _)|(with_reducible refine zY ?_)|exact HR489_1.out)) hb);have n5_:=zA (za (by repeat (first|(with_reducible first|exact HB.out|apply zD|apply zB|apply zC)|exact HB.out)) hb);have n6_:=zA (hbox);have n7_:=zA ((by rw [hg];exact (zZ (by repeat (first|(with_reducible first|exact HB.out|apply zD|apply zB|apply zC)|exact HB.out))):w.heap.size≤gb490));have n8_:=zA ((by rw [hg];exact (zZ (by repeat (first|(with_reducible first|exact HB.out|apply zD|apply zB|apply zC)|exact HB.out))):w.heap.size≤gb490));clear HO_14;clear HL489_0;clear HL489_1;clear HR489_0;clear HR489_1;clear HB;have HO_14:=n0_;have HL489_0:=n1_;have HL489_1:=n2_;have HR489_0:=n3_;have HR489_1:=n4_;have HB:=n5_;have BK490:=n6_;have GW490:=n7_;have GE490:=n8_;clear n0_ n1_ n2_ n3_ n4_ n5_ n6_ n7_ n8_;clear hb hbox hg;have hcz17_0:w16.cell? ⟨gb490,0,none⟩ = some (.slice none 0 0):=(zc BK490.out 0).trans rfl;have hcz17_1:w16.cell? ⟨gb490,1,none⟩ = some (.slice none 0 0):=(zc BK490.out 1).trans rfl;have hfz17_0:=zl BK490.out 0;have hfz17_1:=zl BK490.out 1)|((with_reducible refine gate_callee (f:=49) rfl ?_);refine goesL_ (some 24) rfl rfl Try.func49 (by kernel_rfl) rfl #[.slice A489_1 ((rd_T33 t486 x16_1).f1).length c489_1,.slice A489_0 ((rd_T33 t486 x16_1).f0).length c489_0] rfl (by (try simp only [zP,zS,zT]);first|done|rfl|(simp only [zR,zQ];rfl)) ?_;(with_reducible refine (impl_mul.calls k1 _ _ ((rd_T33 t486 x16_1).f1) _ _ ((rd_T33 t486 x16_1).f0) t491 _ ?side1 ?side2 ?side3 ?side4 A13.out).mono ?_);(case side1=>repeat (first|exact ((zd (by (with_reducible repeat (first|apply zK|apply zJ|apply zL));exact (ze (Kd.R_far (p:=⟨gb490,1,none⟩) (Kd.R_far (p:=⟨gb490,0,none⟩) (Kd.R_types HL489_1.out BK490.out (by decide)) (fun _ hk=>hk.2) (.slice A489_0 ((rd_T33 t486 x16_1).f0).length c489_0)) (fun _ hk=>hk.2) (.slice A489_1 ((rd_T33 t486 x16_1).f1).length c489_1)) (fun _ h_=>h_.1)))).2.2)|(with_reducible refine zW ?_ _)|(with_reducible refine zX ?_ _)|(with_reducible refine zY ?_)));(case side2=>exact HC489_1.out);(case side3=>repeat (first|exact ((zd (by (with_reducible repeat (first|apply zK|apply zJ|apply zL));exact (ze (Kd.R_far (p:=⟨gb490,1,none⟩) (Kd.R_far (p:=⟨gb490,0,none⟩) (Kd.R_types HL489_0.out BK490.out (by decide)) (fun _ hk=>hk.2) (.slice A489_0 ((rd_T33 t486 x16_1).f0).length c489_0)) (fun _ hk=>hk.2) (.slice A489_1 ((rd_T33 t486 x16_1).f1).length c489_1)) (fun _ h_=>h_.1)))).2.2)|(with_reducible refine zW ?_ _)|(with_reducible refine zX ?_ _)|(with_reducible refine zY ?_)));(case side4=>exact HC489_0.out);rintro e w18 ⟨v492,rfl,ho0,hb⟩;refine ⟨_,rfl,?_⟩;have n0_:=zA (Kd.S_elder' (by (with_reducible repeat (first|apply Kd.S_alloc|apply Kd.S_drewN|apply Kd.S_drew));exact (Kd.S_mono (Kd.S_far (p:=⟨gb490,1,none⟩) (Kd.S_far (p:=⟨gb490,0,none⟩) (Kd.S_mono HO_14.out (fun k_ hk=>(⟨hk,hk.2⟩:_∧k_≠gb490))) (fun _ hk=>hk.2) (.slice A489_0 ((rd_T33 t486 x16_1).f0).length c489_0)) (fun _ hk=>hk.2) (.slice A489_1 ((rd_T33 t486 x16_1).f1).length c489_1)) (fun _ h_=>h_.1))) (zp ho0) hb);have n1_:=zA (Kd.R_elder' (by (with_reducible repeat (first|apply zK|apply zJ|apply zL));exact (ze (Kd.R_far (p:=⟨gb490,1,none⟩) (Kd.R_far (p:=⟨gb490,0,none⟩) (Kd.R_types HL489_0.out BK490.out (by decide)) (fun _ hk=>hk.2) (.slice A489_0 ((rd_T33 t486 x16_1).f0).length c489_0)) (fun _ hk=>hk.2) (.slice A489_1 ((rd_T33 t486 x16_1).f1).length c489_1)) (fun _ h_=>h_.1))) (zp ho0) hb);have n2_:=zA (Kd.R_elder' (by (with_reducible repeat (first|apply zK|apply zJ|apply zL));exact (ze (Kd.R_far (p:=⟨gb490,1,none⟩) (Kd.R_far (p:=⟨gb490,0,none⟩) (Kd.R_types HL489_1.out BK490.out (by decide)) (fun _ hk=>hk.2) (.slice A489_0 ((rd_T33 t486 x16_1).f0).length c489_0)) (fun _ hk=>hk.2) (.slice A489_1 ((rd_T33 t486 x16_1).f1).length c489_1)) (fun _ h_=>h_.1))) (zp ho0) hb);have n3_:=zA (zq (Kd.R_new' (Kd.R_new' ho0 (Kd.R_lt (by (with_reducible repeat (first|apply zK|apply zJ|apply zL));exact (ze (Kd.R_far (p:=⟨gb490,1,none⟩) (Kd.R_far (p:=⟨gb490,0,none⟩) (Kd.R_types HL489_0.out BK490.out (by decide)) (fun _ hk=>hk.2) (.slice A489_0 ((rd_T33 t486 x16_1).f0).length c489_0)) (fun _ hk=>hk.2) (.slice A489_1 ((rd_T33 t486 x16_1).f1).length c489_1)) (fun _ h_=>h_.1))))) (Kd.R_lt (by (with_reducible repeat (first|apply zK|apply zJ|apply zL));exact (ze (Kd.R_far (p:=⟨gb490,1,none⟩) (Kd.R_far (p:=⟨gb490,0,none⟩) (Kd.R_types HL489_1.out BK490.out (by decide)) (fun _ hk=>hk.2) (.slice A489_0 ((rd_T33 t486 x16_1).f0).length c489_0)) (fun _ hk=>hk.2) (.slice A489_1 ((rd_T33 t486 x16_1).f1).length c489_1)) (fun _ h_=>h_.1))))) (zZ (by repeat (first|(with_reducible first|exact HB.out|apply zD|apply zB|apply zC|refine zI ?_ GE490.out)|exact HB.out))));have n4_:=zA (zf ((zd (by (with_reducible repeat (first|apply zK|apply zJ|apply zL));exact (ze (Kd.R_far (p:=⟨gb490,1,none⟩) (Kd.R_far (p:=⟨gb490,0,none⟩) (Kd.R_types HL489_0.out BK490.out (by decide)) (fun _ hk=>hk.2) (.slice A489_0 ((rd_T33 t486 x16_1).f0).length c489_0)) (fun _ hk=>hk.2) (.slice A489_1 ((rd_T33 t486 x16_1).f1).length c489_1)) (fun _ h_=>h_.1)))).2.2) hb);have n5_:=zA (zf ((zd (by (with_reducible repeat (first|apply zK|apply zJ|apply zL));exact (ze (Kd.R_far (p:=⟨gb490,1,none⟩) (Kd.R_far (p:=⟨gb490,0,none⟩) (Kd.R_types HL489_1.out BK490.out (by decide)) (fun _ hk=>hk.2) (.slice A489_0 ((rd_T33 t486 x16_1).f0).length c489_0)) (fun _ hk=>hk.2) (.slice A489_1 ((rd_T33 t486 x16_1).f1).length c489_1)) (fun _ h_=>h_.1)))).2.2) hb);have n6_:=zA (zg (g:=gb490) (o:=.cells #[.slice A489_0 ((rd_T33 t486 x16_1).f0).length c489_0,.slice A489_1 ((rd_T33 t486 x16_1).f1).length c489_1] 33 (0,0)) (by (with_reducible repeat (first|refine zM ?_ _|refine zO ?_|refine zN ?_ _));refine blk_put (cs:=#[.slice A489_0 ((rd_T33 t486 x16_1).f0).length c489_0,.slice none 0 0]) ?_ 1 _ rfl;(with_reducible repeat (first|refine zM ?_ _|refine zO ?_|refine zN ?_ _));refine blk_put (cs:=#[.slice none 0 0,.slice none 0 0]) ?_ 0 _ rfl;(with_reducible repeat (first|refine zM ?_ _|refine zO ?_|refine zN ?_ _));exact BK490.out) hb);have n7_:=zA (za (by repeat (first|(with_reducible first|exact HB.out|apply zD|apply zB|apply zC|refine zI ?_ GE490.out)|exact HB.out)) hb);clear HO_14;clear HL489_0;clear HL489_1;clear HR489_0;clear HR489_1;clear BK490;clear HB;have HO_14:=n0_;have HL489_0:=n1_;have HL489_1:=n2_;have HO493:=n3_;have HR489_0:=n4_;have HR489_1:=n5_;have BK490:=n6_;have HB:=n7_;clear n0_ n1_ n2_ n3_ n4_ n5_ n6_ n7_;(try clear hb);(try clear hb2);(try clear hk);(try clear hi);(try clear ho0);obtain ⟨Ao19,co19,eo19⟩:=zr HO493.out;subst eo19)|((with_reducible refine gate_callee (f:=56) rfl ?_);refine goesL_ (some 25) rfl rfl Try.func56 (by kernel_rfl) rfl #[.slice Ao19 t491.length co19] rfl (by (try simp only [zP,zS,zT]);first|done|rfl|(simp only [zR,zQ];rfl)) ?_;(with_reducible refine (impl_cyclesOf.calls k1 _ _ t491 t494 _ ?side1 ?side2 A14.out).mono ?_);(case side1=>repeat (first|exact (zd HO493.out).2.2|(with_reducible refine zW ?_ _)|(with_reducible refine zX ?_ _)|(with_reducible refine zY ?_)));(case side2=>exact (zd HO493.out).2.1);rintro e w20 ⟨v495,rfl,ho0,hb⟩;refine ⟨_,rfl,?_⟩;have n0_:=zA (Kd.S_below (by (with_reducible repeat (first|apply Kd.S_alloc|apply Kd.S_drewN|apply Kd.S_drew));exact HO_14.out) hb);have n1_:=zA (Kd.R_below (by (with_reducible repeat (first|apply zK|apply zJ|apply zL));exact HL489_0.out) hb);have n2_:=zA (Kd.R_below (by (with_reducible repeat (first|apply zK|apply zJ|apply zL));exact HL489_1.out) hb);have n3_:=zA (Kd.R_below (by (with_reducible repeat (first|apply zK|apply zJ|apply zL));exact HO493.out) hb);have n4_:=zA (Kd.S_lower (Kd.S_new' (Kd.S_new' (Kd.S_new' ho0 (Kd.R_lt (by (with_reducible repeat (first|apply zK|apply zJ|apply zL));exact HL489_0.out))) (Kd.R_lt (by (with_reducible repeat (first|apply zK|apply zJ|apply zL));exact HL489_1.out))) (Kd.R_lt (by (with_reducible repeat (first|apply zK|apply zJ|apply zL));exact HO493.out))) (zZ (by repeat (first|(with_reducible first|exact HB.out|apply zD|apply zB|apply zC|refine zI ?_ GE490.out)|exact HB.out))));have n5_:=zA (zf (by repeat (first|(with_reducible exact HR489_0.out)|(with_reducible refine zW ?_ _)|(with_reducible refine zX ?_ _)|(with_reducible refine zY ?_)|exact HR489_0.out)) hb);have n6_:=zA (zf (by repeat (first|(with_reducible exact HR489_1.out)|(with_reducible refine zW ?_ _)|(with_reducible refine zX ?_ _)|(with_reducible refine zY ?_)|exact HR489_1.out)) hb);have n7_:=zA (zg (g:=gb490) (o:=.cells #[.slice A489_0 ((rd_T33 t486 x16_1).f0).length c489_0,.slice A489_1 ((rd_T33 t486 x16_1).f1).length c489_1] 33 (0,0)) (by (with_reducible repeat (first|refine zM ?_ _|refine zO ?_|refine zN ?_ _));exact BK490.out) hb);have n8_:=zA (za (by repeat (first|(with_reducible first|exact HB.out|apply zD|apply zB|apply zC|refine zI ?_ GE490.out)|exact HB.out)) hb);clear HO_14;clear HL489_0;clear HL489_1;clear HO493;clear HR489_0;clear HR489_1;clear BK490;clear HB;have HO_14:=n0_;have HL489_0:=n1_;have HL489_1:=n2_;have HO493:=n3_;have HO496:=n4_;have HR489_0:=n5_;have HR489_1:=n6_;have BK490:=n7_;have HB:=n8_;clear n0_ n1_ n2_ n3_ n4_ n5_ n6_ n7_ n8_;(try clear hb);(try clear hb2);(try clear hk);(try clear hi);(try clear ho0);obtain ⟨Ao21,co21,eo21⟩:=Kd.S_slice HO496.out;subst eo21))
        go_roundg k1
        case measure=>have:=HK1.out;omega
        case rel=>exact ⟨(wrap64 (x5_1+1)),(wrap64 (x16_1+1)),(by first|rfl|(simp;done)|(simp [*];done)),(by first|rfl|(simp;done)|(simp [*];done)),H',⟨by have:=HK1.out;omega⟩,⟨by (with_reducible repeat (first|apply Kd.S_alloc|apply Kd.S_drewN|apply Kd.S_drew));exact Kd.S_mono HO_14.out (fun _ hk=>trivial)⟩,⟨by repeat (first|(with_reducible first|exact HB.out|apply zD|apply zB|apply zC|refine zI ?_ GE490.out)|exact HB.out)⟩⟩
       ·rw [if_neg c15] at H
        have c15b0:((t494.length:Int) == 1) = false:=beq_eq_false_iff_ne.mpr c15
        have c15b1:((t494.length:Int) != 1) = true:=bne_iff_ne.mpr c15
        have H':=zA H
        clear H
        have p489:0≤(x16_1:Int):=zF (by first|(with_reducible assumption)|assumption)
        have q489:x16_1 < (t486.length:Int):=zF (by first|(with_reducible assumption)|assumption)
        obtain ⟨ad489,A489_0,c489_0,A489_1,c489_1,e489,hx489_0,hx489_1,hl489_0,hi489_0,hl489_1,hi489_1⟩:=at_T33 (Kd.S_reads' HO_14.out).2.2 x16_1 p489 q489
        cases e489
        obtain ⟨ce489,hce489,hMe489,hcc489⟩:=Kd.S_get HO_14.out z33 x16_1 p489 (by first|exact q489|exact zF (by first|(with_reducible assumption)|assumption)|(have e_:=(Kd.S_reads' HO_14.out).1;omega))
        obtain ⟨ve489_0,ve489_1,rfl,ge489_0,ge489_1⟩:=k33_openM hMe489
        have hv489_0:=hcc489 0 _ rfl
        rw [Nat.add_zero] at hv489_0
        replace hv489_0:=zb (hv489_0.symm.trans hx489_0)
        rw [hv489_0] at ge489_0
        have HL489_0:=zA (show Kd.R (Kd.int .i64) 3 _ _ _ _ ((rd_T33 t486 x16_1).f0) from ge489_0)
        clear hv489_0 ge489_0
        have hv489_1:=hcc489 1 _ rfl
        rw [add_field _ _ 1 (by omega)] at hv489_1
        replace hv489_1:=zb (hv489_1.symm.trans hx489_1)
        rw [hv489_1] at ge489_1
        have HL489_1:=zA (show Kd.R (Kd.int .i64) 3 _ _ _ _ ((rd_T33 t486 x16_1).f1) from ge489_1)
        clear hv489_1 ge489_1
        clear hcc489 hce489
        have HR489_0:=zA hi489_0
        have HC489_0:=zA hl489_0
        clear hi489_0 hl489_0
        have HR489_1:=zA hi489_1
        have HC489_1:=zA hl489_1
        clear hi489_1 hl489_1
        replace p489:=eq_true p489
        replace q489:=eq_true q489
        go_wp2_with (first|((with_reducible refine gate_dst (N:=7) rfl ?_);refine box_event ?hg (N:=7) ?hd (cs:=#[.slice none 0 0,.slice none 0 0]) (t:=33) ?hr ?_;(case hd=>rfl);(case hg=>rfl);(case hr=>first|(go_simp;done)|(go_simp;rfl));intro gb490 hg w22 hbox hb;have n0_:=zA (Kd.S_below (Kd.S_elderB (by (with_reducible repeat (first|apply Kd.S_alloc|apply Kd.S_drewN|apply Kd.S_drew));exact HO_14.out) gb490 (Nat.le_of_eq hg.symm)) hb);have n1_:=zA (Kd.R_below (by (with_reducible repeat (first|apply zK|apply zJ|apply zL));exact HL489_0.out) hb);have n2_:=zA (Kd.R_below (by (with_reducible repeat (first|apply zK|apply zJ|apply zL));exact HL489_1.out) hb);have n3_:=zA (zf (by repeat (first|(with_reducible exact HR489_0.out)|(with_reducible refine zW ?_ _)|(with_reducible refine zX ?_ _)|(with_reducible refine zY ?_)|exact HR489_0.out)) hb);have n4_:=zA (zf (by repeat (first|(with_reducible exact HR489_1.out)|(with_reducible refine zW ?_ _)|(with_reducible refine zX ?_ _)|(with_reducible refine zY ?_)|exact HR489_1.out)) hb);have n5_:=zA (za (by repeat (first|(with_reducible first|exact HB.out|apply zD|apply zB|apply zC)|exact HB.out)) hb);have n6_:=zA (hbox);have n7_:=zA ((by rw [hg];exact (zZ (by repeat (first|(with_reducible first|exact HB.out|apply zD|apply zB|apply zC)|exact HB.out))):w.heap.size≤gb490));have n8_:=zA ((by rw [hg];exact (zZ (by repeat (first|(with_reducible first|exact HB.out|apply zD|apply zB|apply zC)|exact HB.out))):w.heap.size≤gb490));clear HO_14;clear HL489_0;clear HL489_1;clear HR489_0;clear HR489_1;clear HB;have HO_14:=n0_;have HL489_0:=n1_;have HL489_1:=n2_;have HR489_0:=n3_;have HR489_1:=n4_;have HB:=n5_;have BK490:=n6_;have GW490:=n7_;have GE490:=n8_;clear n0_ n1_ n2_ n3_ n4_ n5_ n6_ n7_ n8_;clear hb hbox hg;have hcz23_0:w22.cell? ⟨gb490,0,none⟩ = some (.slice none 0 0):=(zc BK490.out 0).trans rfl;have hcz23_1:w22.cell? ⟨gb490,1,none⟩ = some (.slice none 0 0):=(zc BK490.out 1).trans rfl;have hfz23_0:=zl BK490.out 0;have hfz23_1:=zl BK490.out 1)|((with_reducible refine gate_callee (f:=49) rfl ?_);refine goesL_ (some 24) rfl rfl Try.func49 (by kernel_rfl) rfl #[.slice A489_1 ((rd_T33 t486 x16_1).f1).length c489_1,.slice A489_0 ((rd_T33 t486 x16_1).f0).length c489_0] rfl (by (try simp only [zP,zS,zT]);first|done|rfl|(simp only [zR,zQ];rfl)) ?_;(with_reducible refine (impl_mul.calls k1 _ _ ((rd_T33 t486 x16_1).f1) _ _ ((rd_T33 t486 x16_1).f0) t491 _ ?side1 ?side2 ?side3 ?side4 A13.out).mono ?_);(case side1=>repeat (first|exact ((zd (by (with_reducible repeat (first|apply zK|apply zJ|apply zL));exact (ze (Kd.R_far (p:=⟨gb490,1,none⟩) (Kd.R_far (p:=⟨gb490,0,none⟩) (Kd.R_types HL489_1.out BK490.out (by decide)) (fun _ hk=>hk.2) (.slice A489_0 ((rd_T33 t486 x16_1).f0).length c489_0)) (fun _ hk=>hk.2) (.slice A489_1 ((rd_T33 t486 x16_1).f1).length c489_1)) (fun _ h_=>h_.1)))).2.2)|(with_reducible refine zW ?_ _)|(with_reducible refine zX ?_ _)|(with_reducible refine zY ?_)));(case side2=>exact HC489_1.out);(case side3=>repeat (first|exact ((zd (by (with_reducible repeat (first|apply zK|apply zJ|apply zL));exact (ze (Kd.R_far (p:=⟨gb490,1,none⟩) (Kd.R_far (p:=⟨gb490,0,none⟩) (Kd.R_types HL489_0.out BK490.out (by decide)) (fun _ hk=>hk.2) (.slice A489_0 ((rd_T33 t486 x16_1).f0).length c489_0)) (fun _ hk=>hk.2) (.slice A489_1 ((rd_T33 t486 x16_1).f1).length c489_1)) (fun _ h_=>h_.1)))).2.2)|(with_reducible refine zW ?_ _)|(with_reducible refine zX ?_ _)|(with_reducible refine zY ?_)));(case side4=>exact HC489_0.out);rintro e w24 ⟨v492,rfl,ho0,hb⟩;refine ⟨_,rfl,?_⟩;have n0_:=zA (Kd.S_elder' (by (with_reducible repeat (first|apply Kd.S_alloc|apply Kd.S_drewN|apply Kd.S_drew));exact (Kd.S_mono (Kd.S_far (p:=⟨gb490,1,none⟩) (Kd.S_far (p:=⟨gb490,0,none⟩) (Kd.S_mono HO_14.out (fun k_ hk=>(⟨hk,hk.2⟩:_∧k_≠gb490))) (fun _ hk=>hk.2) (.slice A489_0 ((rd_T33 t486 x16_1).f0).length c489_0)) (fun _ hk=>hk.2) (.slice A489_1 ((rd_T33 t486 x16_1).f1).length c489_1)) (fun _ h_=>h_.1))) (zp ho0) hb);have n1_:=zA (Kd.R_elder' (by (with_reducible repeat (first|apply zK|apply zJ|apply zL));exact (ze (Kd.R_far (p:=⟨gb490,1,none⟩) (Kd.R_far (p:=⟨gb490,0,none⟩) (Kd.R_types HL489_0.out BK490.out (by decide)) (fun _ hk=>hk.2) (.slice A489_0 ((rd_T33 t486 x16_1).f0).length c489_0)) (fun _ hk=>hk.2) (.slice A489_1 ((rd_T33 t486 x16_1).f1).length c489_1)) (fun _ h_=>h_.1))) (zp ho0) hb);have n2_:=zA (Kd.R_elder' (by (with_reducible repeat (first|apply zK|apply zJ|apply zL));exact (ze (Kd.R_far (p:=⟨gb490,1,none⟩) (Kd.R_far (p:=⟨gb490,0,none⟩) (Kd.R_types HL489_1.out BK490.out (by decide)) (fun _ hk=>hk.2) (.slice A489_0 ((rd_T33 t486 x16_1).f0).length c489_0)) (fun _ hk=>hk.2) (.slice A489_1 ((rd_T33 t486 x16_1).f1).length c489_1)) (fun _ h_=>h_.1))) (zp ho0) hb);have n3_:=zA (zq (Kd.R_new' (Kd.R_new' ho0 (Kd.R_lt (by (with_reducible repeat (first|apply zK|apply zJ|apply zL));exact (ze (Kd.R_far (p:=⟨gb490,1,none⟩) (Kd.R_far (p:=⟨gb490,0,none⟩) (Kd.R_types HL489_0.out BK490.out (by decide)) (fun _ hk=>hk.2) (.slice A489_0 ((rd_T33 t486 x16_1).f0).length c489_0)) (fun _ hk=>hk.2) (.slice A489_1 ((rd_T33 t486 x16_1).f1).length c489_1)) (fun _ h_=>h_.1))))) (Kd.R_lt (by (with_reducible repeat (first|apply zK|apply zJ|apply zL));exact (ze (Kd.R_far (p:=⟨gb490,1,none⟩) (Kd.R_far (p:=⟨gb490,0,none⟩) (Kd.R_types HL489_1.out BK490.out (by decide)) (fun _ hk=>hk.2) (.slice A489_0 ((rd_T33 t486 x16_1).f0).length c489_0)) (fun _ hk=>hk.2) (.slice A489_1 ((rd_T33 t486 x16_1).f1).length c489_1)) (fun _ h_=>h_.1))))) (zZ (by repeat (first|(with_reducible first|exact HB.out|apply zD|apply zB|apply zC|refine zI ?_ GE490.out)|exact HB.out))));have n4_:=zA (zf ((zd (by (with_reducible repeat (first|apply zK|apply zJ|apply zL));exact (ze (Kd.R_far (p:=⟨gb490,1,none⟩) (Kd.R_far (p:=⟨gb490,0,none⟩) (Kd.R_types HL489_0.out BK490.out (by decide)) (fun _ hk=>hk.2) (.slice A489_0 ((rd_T33 t486 x16_1).f0).length c489_0)) (fun _ hk=>hk.2) (.slice A489_1 ((rd_T33 t486 x16_1).f1).length c489_1)) (fun _ h_=>h_.1)))).2.2) hb);have n5_:=zA (zf ((zd (by (with_reducible repeat (first|apply zK|apply zJ|apply zL));exact (ze (Kd.R_far (p:=⟨gb490,1,none⟩) (Kd.R_far (p:=⟨gb490,0,none⟩) (Kd.R_types HL489_1.out BK490.out (by decide)) (fun _ hk=>hk.2) (.slice A489_0 ((rd_T33 t486 x16_1).f0).length c489_0)) (fun _ hk=>hk.2) (.slice A489_1 ((rd_T33 t486 x16_1).f1).length c489_1)) (fun _ h_=>h_.1)))).2.2) hb);have n6_:=zA (zg (g:=gb490) (o:=.cells #[.slice A489_0 ((rd_T33 t486 x16_1).f0).length c489_0,.slice A489_1 ((rd_T33 t486 x16_1).f1).length c489_1] 33 (0,0)) (by (with_reducible repeat (first|refine zM ?_ _|refine zO ?_|refine zN ?_ _));refine blk_put (cs:=#[.slice A489_0 ((rd_T33 t486 x16_1).f0).length c489_0,.slice none 0 0]) ?_ 1 _ rfl;(with_reducible repeat (first|refine zM ?_ _|refine zO ?_|refine zN ?_ _));refine blk_put (cs:=#[.slice none 0 0,.slice none 0 0]) ?_ 0 _ rfl;(with_reducible repeat (first|refine zM ?_ _|refine zO ?_|refine zN ?_ _));exact BK490.out) hb);have n7_:=zA (za (by repeat (first|(with_reducible first|exact HB.out|apply zD|apply zB|apply zC|refine zI ?_ GE490.out)|exact HB.out)) hb);clear HO_14;clear HL489_0;clear HL489_1;clear HR489_0;clear HR489_1;clear BK490;clear HB;have HO_14:=n0_;have HL489_0:=n1_;have HL489_1:=n2_;have HO493:=n3_;have HR489_0:=n4_;have HR489_1:=n5_;have BK490:=n6_;have HB:=n7_;clear n0_ n1_ n2_ n3_ n4_ n5_ n6_ n7_;(try clear hb);(try clear hb2);(try clear hk);(try clear hi);(try clear ho0);obtain ⟨Ao25,co25,eo25⟩:=zr HO493.out;subst eo25)|((with_reducible refine gate_callee (f:=56) rfl ?_);refine goesL_ (some 25) rfl rfl Try.func56 (by kernel_rfl) rfl #[.slice Ao25 t491.length co25] rfl (by (try simp only [zP,zS,zT]);first|done|rfl|(simp only [zR,zQ];rfl)) ?_;(with_reducible refine (impl_cyclesOf.calls k1 _ _ t491 t494 _ ?side1 ?side2 A14.out).mono ?_);(case side1=>repeat (first|exact (zd HO493.out).2.2|(with_reducible refine zW ?_ _)|(with_reducible refine zX ?_ _)|(with_reducible refine zY ?_)));(case side2=>exact (zd HO493.out).2.1);rintro e w26 ⟨v495,rfl,ho0,hb⟩;refine ⟨_,rfl,?_⟩;have n0_:=zA (Kd.S_below (by (with_reducible repeat (first|apply Kd.S_alloc|apply Kd.S_drewN|apply Kd.S_drew));exact HO_14.out) hb);have n1_:=zA (Kd.R_below (by (with_reducible repeat (first|apply zK|apply zJ|apply zL));exact HL489_0.out) hb);have n2_:=zA (Kd.R_below (by (with_reducible repeat (first|apply zK|apply zJ|apply zL));exact HL489_1.out) hb);have n3_:=zA (Kd.R_below (by (with_reducible repeat (first|apply zK|apply zJ|apply zL));exact HO493.out) hb);have n4_:=zA (Kd.S_lower (Kd.S_new' (Kd.S_new' (Kd.S_new' ho0 (Kd.R_lt (by (with_reducible repeat (first|apply zK|apply zJ|apply zL));exact HL489_0.out))) (Kd.R_lt (by (with_reducible repeat (first|apply zK|apply zJ|apply zL));exact HL489_1.out))) (Kd.R_lt (by (with_reducible repeat (first|apply zK|apply zJ|apply zL));exact HO493.out))) (zZ (by repeat (first|(with_reducible first|exact HB.out|apply zD|apply zB|apply zC|refine zI ?_ GE490.out)|exact HB.out))));have n5_:=zA (zf (by repeat (first|(with_reducible exact HR489_0.out)|(with_reducible refine zW ?_ _)|(with_reducible refine zX ?_ _)|(with_reducible refine zY ?_)|exact HR489_0.out)) hb);have n6_:=zA (zf (by repeat (first|(with_reducible exact HR489_1.out)|(with_reducible refine zW ?_ _)|(with_reducible refine zX ?_ _)|(with_reducible refine zY ?_)|exact HR489_1.out)) hb);have n7_:=zA (zg (g:=gb490) (o:=.cells #[.slice A489_0 ((rd_T33 t486 x16_1).f0).length c489_0,.slice A489_1 ((rd_T33 t486 x16_1).f1).length c489_1] 33 (0,0)) (by (with_reducible repeat (first|refine zM ?_ _|refine zO ?_|refine zN ?_ _));exact BK490.out) hb);have n8_:=zA (za (by repeat (first|(with_reducible first|exact HB.out|apply zD|apply zB|apply zC|refine zI ?_ GE490.out)|exact HB.out)) hb);clear HO_14;clear HL489_0;clear HL489_1;clear HO493;clear HR489_0;clear HR489_1;clear BK490;clear HB;have HO_14:=n0_;have HL489_0:=n1_;have HL489_1:=n2_;have HO493:=n3_;have HO496:=n4_;have HR489_0:=n5_;have HR489_1:=n6_;have BK490:=n7_;have HB:=n8_;clear n0_ n1_ n2_ n3_ n4_ n5_ n6_ n7_ n8_;(try clear hb);(try clear hb2);(try clear hk);(try clear hi);(try clear ho0);obtain ⟨Ao27,co27,eo27⟩:=Kd.S_slice HO496.out;subst eo27))
        go_roundg k1
        case measure=>have:=HK1.out;omega
        case rel=>exact ⟨(x5_1),(wrap64 (x16_1+1)),(by first|rfl|(simp;done)|(simp [*];done)),(by first|rfl|(simp;done)|(simp [*];done)),H',⟨by have:=HK1.out;omega⟩,⟨by (with_reducible repeat (first|apply Kd.S_alloc|apply Kd.S_drewN|apply Kd.S_drew));exact Kd.S_mono HO_14.out (fun _ hk=>trivial)⟩,⟨by repeat (first|(with_reducible first|exact HB.out|apply zD|apply zB|apply zC|refine zI ?_ GE490.out)|exact HB.out)⟩⟩
      ·rw [if_neg c12] at H
       exact absurd H (by simp)
     ·rw [if_neg c11] at H
      exact absurd H (by simp)
    ·rw [if_neg c10] at H
     have c10b0:decide (x16_1 < (t486.length:Int)) = false:=zV c10
     clear c10
     obtain rfl:=zb H
     go_wp2
     go_ret
     exact ⟨by first|rfl|(simp [errW_none,errW_some] <;> rfl)|(simp [*,errW_none,errW_some] <;> rfl),by repeat (first|(with_reducible first|exact HB.out|apply zD|apply zB|apply zC)|exact HB.out)⟩

/-! ### laws_FnExactRootedOne: function 7 -/
def laws_FnExactRootedOne.f (k:Nat) (a0:Int) (a1:Int):Option (Bool):=(spec_RootedOne.f k a0 a1).bind fun t497=>((impl_RootedOne.f k a0 a1).bind fun t498=>(if t498 = t497 then (some true) else (some false)))
theorem laws_FnExactRootedOne.mono:∀ a0 a1 k,LeO (laws_FnExactRootedOne.f k a0 a1) (laws_FnExactRootedOne.f (k+1) a0 a1):=by
 intro a0 a1 k
 unfold laws_FnExactRootedOne.f
 repeat' first
   | (with_reducible exact impl_RootedOne.mono _ _ _)
   | (with_reducible exact spec_RootedOne.mono _ _ _)
   | (with_reducible exact LeO.refl _)
   | (with_reducible exact zm _)
   | (with_reducible refine zo ?_ ?_)
   | (with_reducible refine zn ?_ (fun _=>?_))
   | exact impl_RootedOne.mono _ _ _
   | exact spec_RootedOne.mono _ _ _
   | exact zm _
   | refine zo ?_ ?_
   | refine zn ?_ (fun _=>?_)
set_option maxHeartbeats 8000000 in
set_option maxRecDepth 100000 in
theorem laws_FnExactRootedOne.calls (k:Nat) (a0:Int) (a1:Int) (r:Bool) (w:World) (h:laws_FnExactRootedOne.f k a0 a1 = some r) :
  Calls Try.prog 7 #[.int .i64 a0,.int .i64 a1] w fun e w'=>e = .returned (.bool r)∧Below w.heap.size w w':=by
 have HB:=zA (Below.refl w.heap.size w)
 have H:((spec_RootedOne.f k a0 a1).bind fun t497=>((impl_RootedOne.f k a0 a1).bind fun t498=>(if t498 = t497 then (some true) else (some false)))) = some r:=h
 clear h
 replace H:=zz0 H
 obtain ⟨t497,A30,H⟩:=H
 replace H:((impl_RootedOne.f k a0 a1).bind fun t498=>(if t498 = t497 then (some true) else (some false))) = some r:=H
 have A3:=zA A30
 clear A30
 replace H:=zz0 H
 obtain ⟨t498,A40,H⟩:=H
 replace H:(if t498 = t497 then (some true) else (some false)) = some r:=H
 have A4:=zA A40
 clear A40
 by_cases c5:t498 = t497
 ·rw [if_pos c5] at H
  have c5b0:(t498 == t497) = true:=beq_iff_eq.mpr c5
  have c5b1:(t498 != t497) = false:=bne_eq_false_iff_eq.mpr c5
  clear c5
  obtain rfl:=zb H
  go_enter Try.func7,Try.ntmps7
  go_wp2_with (first|((with_reducible refine gate_callee (f:=29) rfl ?_);refine goesL_ (some 9) rfl rfl Try.func29 (by kernel_rfl) rfl #[.int .i64 a0,.int .i64 a1] rfl (by (try simp only [zP,zS,zT]);first|done|rfl|(simp only [zR,zQ];rfl)) ?_;(with_reducible refine (spec_RootedOne.calls k a0 a1 t497 _ A3.out).mono ?_);rintro e w6 ⟨rfl,hb⟩;refine ⟨_,rfl,?_⟩;have n0_:=zA (za (by repeat (first|(with_reducible first|exact HB.out|apply zD|apply zB|apply zC)|exact HB.out)) hb);clear HB;have HB:=n0_;clear n0_;(try clear hb);(try clear hb2);(try clear hk);(try clear hi))|((with_reducible refine gate_callee (f:=30) rfl ?_);refine goesL_ (some 12) rfl rfl Try.func30 (by kernel_rfl) rfl #[.int .i64 a0,.int .i64 a1] rfl (by (try simp only [zP,zS,zT]);first|done|rfl|(simp only [zR,zQ];rfl)) ?_;(with_reducible refine (impl_RootedOne.calls k a0 a1 t498 _ A4.out).mono ?_);rintro e w7 ⟨rfl,hb⟩;refine ⟨_,rfl,?_⟩;have n0_:=zA (za (by repeat (first|(with_reducible first|exact HB.out|apply zD|apply zB|apply zC)|exact HB.out)) hb);clear HB;have HB:=n0_;clear n0_;(try clear hb);(try clear hb2);(try clear hk);(try clear hi)))
  go_ret
  exact ⟨by first|rfl|(simp [errW_none,errW_some] <;> rfl)|(simp [*,errW_none,errW_some] <;> rfl),by repeat (first|(with_reducible first|exact HB.out|apply zD|apply zB|apply zC)|exact HB.out)⟩
 ·rw [if_neg c5] at H
  have c5b0:(t498 == t497) = false:=beq_eq_false_iff_ne.mpr c5
  have c5b1:(t498 != t497) = true:=bne_iff_ne.mpr c5
  obtain rfl:=zb H
  go_enter Try.func7,Try.ntmps7
  go_wp2_with (first|((with_reducible refine gate_callee (f:=29) rfl ?_);refine goesL_ (some 9) rfl rfl Try.func29 (by kernel_rfl) rfl #[.int .i64 a0,.int .i64 a1] rfl (by (try simp only [zP,zS,zT]);first|done|rfl|(simp only [zR,zQ];rfl)) ?_;(with_reducible refine (spec_RootedOne.calls k a0 a1 t497 _ A3.out).mono ?_);rintro e w8 ⟨rfl,hb⟩;refine ⟨_,rfl,?_⟩;have n0_:=zA (za (by repeat (first|(with_reducible first|exact HB.out|apply zD|apply zB|apply zC)|exact HB.out)) hb);clear HB;have HB:=n0_;clear n0_;(try clear hb);(try clear hb2);(try clear hk);(try clear hi))|((with_reducible refine gate_callee (f:=30) rfl ?_);refine goesL_ (some 12) rfl rfl Try.func30 (by kernel_rfl) rfl #[.int .i64 a0,.int .i64 a1] rfl (by (try simp only [zP,zS,zT]);first|done|rfl|(simp only [zR,zQ];rfl)) ?_;(with_reducible refine (impl_RootedOne.calls k a0 a1 t498 _ A4.out).mono ?_);rintro e w9 ⟨rfl,hb⟩;refine ⟨_,rfl,?_⟩;have n0_:=zA (za (by repeat (first|(with_reducible first|exact HB.out|apply zD|apply zB|apply zC)|exact HB.out)) hb);clear HB;have HB:=n0_;clear n0_;(try clear hb);(try clear hb2);(try clear hk);(try clear hi)))
  go_ret
  exact ⟨by first|rfl|(simp [errW_none,errW_some] <;> rfl)|(simp [*,errW_none,errW_some] <;> rfl),by repeat (first|(with_reducible first|exact HB.out|apply zD|apply zB|apply zC)|exact HB.out)⟩

/-- THE ONE PURE STATEMENT of laws_FnExactRootedOne: yours. -/
def laws_FnExactRootedOne.Pure:Prop := ∀ (a0:Int) (a1:Int),(Lit.int .i64 a0).wf = true→(Lit.int .i64 a1).wf = true → ∃ k,laws_FnExactRootedOne.f k a0 a1 = some true
theorem laws_FnExactRootedOne.walk (P:laws_FnExactRootedOne.Pure) (a0:Int) (a1:Int) (w:World) (w0:(Lit.int .i64 a0).wf = true) (w1:(Lit.int .i64 a1).wf = true) :
  Calls Try.prog 7 #[.int .i64 a0,.int .i64 a1] w fun e w'=>e = .returned (.bool true)∧Below w.heap.size w w':=by
 obtain ⟨k,h⟩:=P a0 a1 w0 w1
 refine (laws_FnExactRootedOne.calls k a0 a1 true w h).mono ?_
 rintro e w' ⟨rfl,hd⟩
 exact ⟨rfl,hd⟩

/-- A state of type 68 at block g of W; what its slices lead to came in by w0. -/
def IsS68 (w0 W:World) (g:Nat) (f0:List Int) (f1:Int):Prop := ∃ A0 c0,W.heap[g]? = some (.cells #[.slice A0 f0.length c0,.int .i64 f1] 68 (0,0))∧w0.heap.size≤g∧Kd.C (Kd.int .u8) w0 A0 f0.length f0
theorem IsS68.grown {w0 W:World} {g:Nat} {f0:List Int} {f1:Int} {W1:World} {row:Option Nat} (h:IsS68 w0 W g f0 f1) (hw:W.grownBy W1 row) (hne:some g≠row):IsS68 w0 W1 g f0 f1:=by
 obtain ⟨A0,c0,hb,hg,hr0⟩:=h
 exact ⟨A0,c0,blk_grown hb hw hne,hg,hr0⟩
theorem IsS68.own_neN {w0 W:World} {g:Nat} {f0:List Int} {f1:Int} {α:Type} {d:Kd α} {e:Nat} {base:Nat} {ok:Nat→Prop} {v:Value} {xs:List α} (h:IsS68 w0 W g f0 f1) (ho:Kd.N d e W base ok v xs) (ht:e≠68):some g≠v.ownBlock:=by
 obtain ⟨A0,c0,hb,hg,hr0⟩:=h
 exact Kd.N_ne ho hb ht
theorem IsS68.fresh {w0 W:World} {g:Nat} {f0:List Int} {f1:Int} (h:IsS68 w0 W g f0 f1):∀ k,W.heap.size≤k→k≠g:=by
 obtain ⟨A0,c0,hb,hg,hr0⟩:=h
 exact Kd.freshB hb
theorem IsS68.kept {w0 W:World} {g:Nat} {f0:List Int} {f1:Int} {W1:World} {S:Nat→Prop} (h:IsS68 w0 W g f0 f1) (hk:Kept W W1 S) (hne:¬ S g):IsS68 w0 W1 g f0 f1:=by
 obtain ⟨A0,c0,hb,hg,hr0⟩:=h
 exact ⟨A0,c0,blk_kept hb hk hne,hg,hr0⟩
theorem IsS68.below {w0 W:World} {g:Nat} {f0:List Int} {f1:Int} {W1:World} (h:IsS68 w0 W g f0 f1) (hw:Below W.heap.size W W1):IsS68 w0 W1 g f0 f1:=h.grown (grown_of_below hw none) (by simp)
theorem IsS68.alloc {w0 W:World} {g:Nat} {f0:List Int} {f1:Int} (h:IsS68 w0 W g f0 f1) (o:Obj):IsS68 w0 (W.alloc o) g f0 f1:=h.below (zD (Below.refl _ _) o)
theorem IsS68.drewN {w0 W:World} {g:Nat} {f0:List Int} {f1:Int} (h:IsS68 w0 W g f0 f1) (m:Nat):IsS68 w0 (W.drewN m) g f0 f1:=h
theorem IsS68.drew {w0 W:World} {g:Nat} {f0:List Int} {f1:Int} (h:IsS68 w0 W g f0 f1):IsS68 w0 W.drew g f0 f1:=h
theorem IsS68.at_ {w0 W:World} {g:Nat} {f0:List Int} {f1:Int} {w':World} {m:Nat} (hq:W.drewN m = w') (h:IsS68 w0 W g f0 f1):IsS68 w0 w' g f0 f1:=by subst hq;exact IsS68.drewN h m
theorem IsS68.apart {w0 W:World} {g:Nat} {f0:List Int} {f1:Int} {α:Type} {d:Kd α} {e:Nat} {base:Nat} {ok:Nat→Prop} {v:Value} {xs:List α} (h:IsS68 w0 W g f0 f1) (ho:d.R e W base ok v xs) (ht:∀ q,q ∈ e :: d.E→q≠68):d.R e W base (fun k=>ok k∧k≠g) v xs:=by
 obtain ⟨A0,c0,hb,hg,hr0⟩:=h
 exact Kd.R_types ho hb ht
theorem IsS68.own_ne {w0 W:World} {g:Nat} {f0:List Int} {f1:Int} {α:Type} {d:Kd α} {e:Nat} {base:Nat} {ok:Nat→Prop} {v:Value} {xs:List α} (h:IsS68 w0 W g f0 f1) (ho:d.R e W base ok v xs) (ht:e≠68):some g≠v.ownBlock:=by
 obtain ⟨A0,c0,hb,hg,hr0⟩:=h
 exact Kd.R_ne ho hb ht
theorem IsS68.apartQ {w0 W:World} {g:Nat} {f0:List Int} {f1:Int} {α:Type} {d:Kd α} {e:Nat} {base:Nat} {ok:Nat→Prop} {v:Value} {xs:List α} (h:IsS68 w0 W g f0 f1) (ho:d.Q e W base ok v xs) (ht:∀ q,q ∈ e :: d.E→q≠68):d.Q e W base (fun k=>ok k∧k≠g) v xs:=by
 obtain ⟨A0,c0,hb,hg,hr0⟩:=h
 exact Kd.Q_types ho hb ht
theorem IsS68.own_neQ {w0 W:World} {g:Nat} {f0:List Int} {f1:Int} {α:Type} {d:Kd α} {e:Nat} {base:Nat} {ok:Nat→Prop} {v:Value} {xs:List α} (h:IsS68 w0 W g f0 f1) (ho:d.Q e W base ok v xs) (ht:e≠68):some g≠v.ownBlock:=by
 obtain ⟨A0,c0,hb,hg,hr0⟩:=h
 exact Kd.Q_ne ho hb ht
theorem IsS68.apartS {w0 W:World} {g:Nat} {f0:List Int} {f1:Int} {α:Type} {d:Kd α} {e:Nat} {base:Nat} {ok:Nat→Prop} {v:Value} {xs:List α} (h:IsS68 w0 W g f0 f1) (ho:d.S e W base ok v xs) (ht:∀ q,q ∈ e :: d.E→q≠68):d.S e W base (fun k=>ok k∧k≠g) v xs:=by
 obtain ⟨A0,c0,hb,hg,hr0⟩:=h
 exact Kd.S_types ho hb ht
theorem IsS68.own_neS {w0 W:World} {g:Nat} {f0:List Int} {f1:Int} {α:Type} {d:Kd α} {e:Nat} {base:Nat} {ok:Nat→Prop} {v:Value} {xs:List α} (h:IsS68 w0 W g f0 f1) (ho:d.S e W base ok v xs) (ht:e≠68):some g≠v.ownBlock:=by
 obtain ⟨A0,c0,hb,hg,hr0⟩:=h
 exact Kd.S_ne ho hb ht
theorem IsS68.lt {w0 W:World} {g:Nat} {f0:List Int} {f1:Int} (h:IsS68 w0 W g f0 f1):g < W.heap.size:=by
 obtain ⟨A0,c0,hb,hg,hr0⟩:=h
 exact blk_lt hb
theorem IsS68.ge {w0 W:World} {g:Nat} {f0:List Int} {f1:Int} (h:IsS68 w0 W g f0 f1):w0.heap.size≤g:=by
 obtain ⟨A0,c0,hb,hg,hr0⟩:=h
 exact hg
theorem IsS68.ne_blk {w0 W:World} {g:Nat} {f0:List Int} {f1:Int} {a:Nat} {cs:Array Value} {t:TypeId} {fr:Nat × Nat} (h:IsS68 w0 W g f0 f1) (hb2:W.heap[a]? = some (.cells cs t fr)) (ht:t≠68):g≠a:=by
 obtain ⟨A0,c0,hb,hg,hr0⟩:=h
 rintro rfl
 rw [hb] at hb2
 injection hb2 with hb2
 injection hb2 with _ ht2
 exact ht ht2.symm
theorem IsS68.far {w0 W:World} {g:Nat} {f0:List Int} {f1:Int} {p:Addr} (h:IsS68 w0 W g f0 f1) (hne:g≠p.block) (u:Value):IsS68 w0 (W.setCell p u) g f0 f1:=by
 obtain ⟨A0,c0,hb,hg,hr0⟩:=h
 exact ⟨A0,c0,blk_far hb hne u,hg,hr0⟩
theorem cellS68_0 {W:World} {g:Nat} {A0:Option Addr} {c0:Nat} {f0:List Int} {f1:Int} (h:W.heap[g]? = some (.cells #[.slice A0 f0.length c0,.int .i64 f1] 68 (0,0))):W.cell? ⟨g,0,none⟩ = some (.slice A0 f0.length c0):=(zc h 0).trans rfl
theorem cellS68_1 {W:World} {g:Nat} {A0:Option Addr} {c0:Nat} {f0:List Int} {f1:Int} (h:W.heap[g]? = some (.cells #[.slice A0 f0.length c0,.int .i64 f1] 68 (0,0))):W.cell? ⟨g,1,none⟩ = some (.int .i64 f1):=(zc h 1).trans rfl
theorem IsS68.set_1 {w0 W:World} {g:Nat} {f0:List Int} {f1:Int} (h:IsS68 w0 W g f0 f1) (x:Int):IsS68 w0 (W.setCell ⟨g,1,none⟩ (.int .i64 x)) g f0 x:=by
 obtain ⟨A0,c0,hb,hg,hr0⟩:=h
 exact ⟨A0,c0,by simpa using blk_set hb 1 (.int .i64 x),hg,hr0⟩
theorem IsS68.new (w0 W:World) (A0:Option Addr) (c0:Nat) (f0:List Int) (f1:Int) (hB:Below w0.heap.size w0 W) (hr0:Kd.C (Kd.int .u8) w0 A0 f0.length f0):IsS68 w0 (W.alloc (.cells #[.slice A0 f0.length c0,.int .i64 f1] 68)) W.heap.size f0 f1:=⟨A0,c0,by simpa using heap_alloc_new W _,hB.size,hr0⟩

end Go.Proofs.Ytdaiohcgdpclnaa.Q
