import Derived.Test.YtdaiohcgdpclnaaQ0
import Derived.Test.YtdaiohcgdpclnaaQ13
import Derived.Test.YtdaiohcgdpclnaaQ3
import Derived.Test.YtdaiohcgdpclnaaQ5
import Derived.Test.YtdaiohcgdpclnaaZ
namespace Go.Proofs.Ytdaiohcgdpclnaa.Q
open Go.RowKit Go.Proofs.YtdaiohcgdpclnaaW.PrintWords Go.Proofs.YtdaiohcgdpclnaaW.PrintLast Go.Proofs.YtdaiohcgdpclnaaW.PrintMore
attribute [local go_sem] max2_int min2_int max_two min_two max_three min_three max_four min_four   -- for this text's walks alone
set_option linter.unusedVariables false
set_option linter.unusedSimpArgs false

/-! ### impl_rootless: function 39 -/
def impl_rootless.l0:Nat→List (S33)→List (S33)→Int→Int→Option ((List (S33)))
 | 0,_,_,_,_=>none
 | k+1,x5,x11,x12,x13=>if x13 < x12 then (if 0≤x13 then (if x13 < (x11.length:Int) then ((impl_leastForm.f k ((rd_T33 x11 x13).f0) ((rd_T33 x11 x13).f1)).bind fun bt301=>((impl_compareMaps.f k ((rd_T33 x11 x13).f0) ((rd_T33 x11 x13).f1) bt301.1 bt301.2).bind fun t307=>(if t307 = 0 then (if x5.length < 2932031007402 then (impl_rootless.l0 k (x5 ++ [(⟨(rd_T33 x11 x13).f0,(rd_T33 x11 x13).f1⟩:S33)]) x11 x12 (wrap64 (x13+1))) else (none)) else (impl_rootless.l0 k x5 x11 x12 (wrap64 (x13+1)))))) else (none)) else (none)) else (some x5)
def impl_rootless.f (k:Nat) (a0:Int) (a1:Int):Option ((List (S33))):=(impl_rooted.f a0 a1).bind fun t296=>(impl_rootless.l0 k (([]:List (S33))) t296 (t296.length:Int) 0)
theorem impl_rootless.mono_l:∀ k,(∀ y0 y1 y2 y3,LeO (impl_rootless.l0 k y0 y1 y2 y3) (impl_rootless.l0 (k+1) y0 y1 y2 y3))
 | 0=>fun _ _ _ _ r h=>by simp [impl_rootless.l0] at h
 | k+1=>by
  have ih0:=impl_rootless.mono_l k
  ·intro y0 y1 y2 y3
   unfold impl_rootless.l0
   repeat' first
   | (with_reducible exact ih0 _ _ _ _)
   | (with_reducible exact impl_compareMaps.mono _ _ _ _ _)
   | (with_reducible exact impl_leastForm.mono _ _ _)
   | (with_reducible exact LeO.refl _)
   | (with_reducible exact za _)
   | (with_reducible refine zc ?_ ?_)
   | (with_reducible refine zb ?_ (fun _=>?_))
theorem impl_rootless.mono:∀ a0 a1 k,LeO (impl_rootless.f k a0 a1) (impl_rootless.f (k+1) a0 a1):=by
 intro a0 a1 k
 have ih0:=impl_rootless.mono_l k
 unfold impl_rootless.f
 repeat' first
   | (with_reducible exact ih0 _ _ _ _)
   | (with_reducible exact impl_compareMaps.mono _ _ _ _ _)
   | (with_reducible exact impl_leastForm.mono _ _ _)
   | (with_reducible exact LeO.refl _)
   | (with_reducible exact za _)
   | (with_reducible refine zc ?_ ?_)
   | (with_reducible refine zb ?_ (fun _=>?_))
set_option maxHeartbeats 8000000 in
set_option maxRecDepth 100000 in
theorem impl_rootless.calls (k:Nat) (a0:Int) (a1:Int) (r:List (S33)) (w:World) (h:impl_rootless.f k a0 a1 = some r) :
  Calls Try.prog 39 #[.int .i64 a0,.int .i64 a1] w fun e w' => ∃ v0_:Value,e = .returned (v0_)∧Kd.N k33 33 w' w.heap.size (fun k_=>(w.heap.size≤k_)) v0_ r∧Below w.heap.size w w':=by
 have hu33:=Try.underlying33
 have HB:=zA (Below.refl w.heap.size w)
 have H:((impl_rooted.f a0 a1).bind fun t296=>(impl_rootless.l0 k (([]:List (S33))) t296 (t296.length:Int) 0)) = some r:=h
 clear h
 obtain ⟨y293,hy293⟩:∃ y_:List (S33),y_ = (([]:List (S33))):=⟨_,rfl⟩
 replace H:((impl_rooted.f a0 a1).bind fun t296=>(impl_rootless.l0 k y293 t296 (t296.length:Int) 0)) = some r:=by (try rw [hy293]);first|with_reducible exact H|with_reducible exact zS_ H|exact H
 have Ny293:=zA hy293
 clear hy293
 replace H:=zz0 H
 obtain ⟨t296,A30,H⟩:=H
 try dsimp only at H
 have A3:=zA A30
 clear A30
 have H':=zA H
 clear H
 go_enter Try.func39,Try.ntmps39
 go_wp2_with (first|((with_reducible refine gate_dst (N:=8) rfl ?_);refine Kd.N_lit k33 _ 33 ?hg (N':=8) ?hd (xs:=([]:List (S33))) (inner:=[]) (ok:=(fun k_=>(w.heap.size≤k_))) (okp:=(fun k_=>(w.heap.size≤k_))) ?hr ?hp (fun _ hk=>hk) ((show ∀ k_,w.heap.size≤k_→(fun k_=>(w.heap.size≤k_)) k_ from fun k_ hk=>(Nat.le_trans (zQ (by exact zB_ HB.out)) hk)) _ (Nat.le_refl _)) (Below.refl _ _) (Nat.le_refl _) (by simp) ?_;(case hd=>rfl);(case hg=>rfl);(case hr=>first|(go_simp;done)|(go_simp;rfl));(case hp=>exact (Reps.none _ _));intro v294 w4 ho5 hb hg_ hnew_;clear hg_ hnew_;(first|rw [← Ny293.out] at ho5|(simp only [Int.reduceToNat] at ho5;rw [← Ny293.out] at ho5));have n0_:=zA (Kd.N_lower ho5 (zQ (by exact zB_ HB.out)));have n1_:=zA (zR (by exact zB_ HB.out) hb);clear HB;have HO295:=n0_;have HB:=n1_;clear n0_ n1_;clear hb ho5)|((with_reducible refine gate_callee (f:=42) rfl ?_);refine goesL_ (some 11) rfl rfl Try.func42 (by kernel_rfl) rfl #[.int .i64 a0,.int .i64 a1] rfl (by (try simp only [zJ,zM,zN]);first|done|rfl|(simp only [zL,zK];rfl)) ?_;(with_reducible refine (impl_rooted.calls a0 a1 t296 _ A3.out).mono ?_);rintro e w6 ⟨v297,rfl,ho0,hb⟩;refine ⟨_,rfl,?_⟩;have n0_:=zA (Kd.N_elder' (by apply zN_;exact HO295.out) (Kd.N_base (Kd.S_N (Kd.S_bound ho0))) hb);have n1_:=zA (Kd.N_lower (Kd.N_mono (ok':=fun k_=>(w.heap.size≤k_)∧some k_≠(v294:Value).ownBlock) (Kd.S_N (Kd.S_bound ho0)) (fun k_ hk_=>⟨(Nat.le_trans (zQ (by exact zB_ HB.out)) hk_.2.1),(Kd.fresh' (Kd.N_lt (by apply zN_;exact HO295.out)) k_ hk_.2.1)⟩)) (zQ (by exact zB_ HB.out)));have n2_:=zA (zR (by exact zB_ HB.out) hb);clear HO295;clear HB;have HO295:=n0_;have HO298:=n1_;have HB:=n2_;clear n0_ n1_ n2_;(try clear hb);(try clear hb2);(try clear hk);(try clear hi);(try clear ho0);obtain ⟨Ao7,co7,eo7⟩:=Kd.N_slice HO298.out;subst eo7))
 go_loopg [5,13] k (fun kq v5 v13 w' => ∃ (x5_1:List (S33)) (x13_1:Int),v13 = .int .i64 x13_1∧Aside0 (impl_rootless.l0 kq x5_1 t296 (t296.length:Int) x13_1 = some r)∧Aside0 (kq≤k)∧Aside0 (Kd.N k33 33 w' w.heap.size (fun k_=>(w.heap.size≤k_)∧some k_≠((.slice Ao7 t296.length co7):Value).ownBlock) v5 x5_1)∧Aside0 (Kd.N k33 33 w' w.heap.size (fun k_=>(w.heap.size≤k_)∧some k_≠(v5:Value).ownBlock) (.slice Ao7 t296.length co7) t296)∧Aside0 (Below w.heap.size w w'))
 case atStart=>exact ⟨(y293),(0),(by first|rfl|(simp;done)|(simp [*];done)),H',⟨Nat.le_refl _⟩,⟨by apply zN_;exact HO295.out⟩,⟨by apply zN_;exact HO298.out⟩,⟨by exact zB_ HB.out⟩⟩
 case round =>
  clear H'
  (try clear p2);(try clear c3);(try clear c4)
  obtain ⟨x5_1,x13_1,rfl,HA,HK1,HO_5,HO_11,HB⟩:=hrel
  cases gk with
  | zero=>exact absurd HA.out (by simp [impl_rootless.l0])
  | succ k1 =>
   have H:=HA.out
   clear HA
   simp only [impl_rootless.l0] at H
   by_cases c8:x13_1 < (t296.length:Int)
   ·rw [if_pos c8] at H
    have c8b0:decide (x13_1 < (t296.length:Int)) = true:=zO c8
    clear c8
    by_cases c9:0≤x13_1
    ·rw [if_pos c9] at H
     have c9b0:decide (0≤x13_1) = true:=zO c9
     clear c9
     by_cases c10:x13_1 < (t296.length:Int)
     ·rw [if_pos c10] at H
      have c10b0:decide (x13_1 < (t296.length:Int)) = true:=zO c10
      clear c10
      replace H:=zz0 H
      obtain ⟨⟨t301,t304⟩,A110,H⟩:=H
      try dsimp only at H
      have A11:=zA A110
      clear A110
      replace H:=zz0 H
      obtain ⟨t307,A120,H⟩:=H
      try dsimp only at H
      have A12:=zA A120
      clear A120
      have H9_:=zA H
      clear H
      have p299:0≤(x13_1:Int):=zE (by with_reducible assumption)
      have q299:x13_1 < (t296.length:Int):=zE (by with_reducible assumption)
      obtain ⟨ad299,A299_0,c299_0,A299_1,c299_1,e299,hx299_0,hx299_1,hl299_0,hi299_0,hl299_1,hi299_1⟩:=at_T33 (Kd.N_reads' HO_11.out).2.2 x13_1 p299 q299
      cases e299
      obtain ⟨ce299,hce299,hMe299,hcc299⟩:=Kd.N_get HO_11.out z33 x13_1 p299 (by first|exact q299|exact zE (by with_reducible assumption)|(have e_:=(Kd.N_reads' HO_11.out).1;omega))
      obtain ⟨ua299_0,uc299_0,ua299_1,uc299_1,rfl,ul299_0,ge299_0,ul299_1,ge299_1⟩:=k33_openF hMe299
      have hv299_0:=hcc299 0 _ rfl
      rw [Nat.add_zero] at hv299_0
      replace hv299_0:=zS (hv299_0.symm.trans hx299_0)
      injection hv299_0 with hva_ hvn_ hvc_
      rw [hva_] at ge299_0
      rw [hvc_] at ul299_0
      have HL299_0:=zA (show Kd.V (Kd.int .i64) 3 _ w.heap.size _ _ ((rd_T33 t296 x13_1).f0) from Kd.V_mk ul299_0 ge299_0)
      clear hva_ hvn_ hvc_ ge299_0 ul299_0
      have hv299_1:=hcc299 1 _ rfl
      rw [add_field _ _ 1 (by omega)] at hv299_1
      replace hv299_1:=zS (hv299_1.symm.trans hx299_1)
      injection hv299_1 with hva_ hvn_ hvc_
      rw [hva_] at ge299_1
      rw [hvc_] at ul299_1
      have HL299_1:=zA (show Kd.V (Kd.int .i64) 3 _ w.heap.size _ _ ((rd_T33 t296 x13_1).f1) from Kd.V_mk ul299_1 ge299_1)
      clear hva_ hvn_ hvc_ ge299_1 ul299_1 hcc299 hce299
      have HR299_0:=zA hi299_0
      have HC299_0:=zA hl299_0
      clear hi299_0 hl299_0
      have HR299_1:=zA hi299_1
      have HC299_1:=zA hl299_1
      clear hi299_1 hl299_1
      replace p299:=eq_true p299
      replace q299:=eq_true q299
      try go_wp2_with (first|((with_reducible refine gate_dst (N:=7) rfl ?_);refine box_event ?hg (N:=7) ?hd (cs:=#[.slice none 0 0,.slice none 0 0]) (t:=33) ?hr ?_;(case hd=>rfl);(case hg=>rfl);(case hr=>first|(go_simp;done)|(go_simp;rfl));intro gb300 hg w15 hbox hb;have n0_:=zA (Kd.N_below (Kd.N_elderB (by apply zN_;exact HO_5.out) gb300 (Nat.le_of_eq hg.symm)) hb);have n1_:=zA (Kd.N_below (Kd.N_elderB (by apply zN_;exact HO_11.out) gb300 (Nat.le_of_eq hg.symm)) hb);have n2_:=zA (Kd.V_below (Kd.V_elderB (by apply zV_;exact HL299_0.out) gb300 (Nat.le_of_eq hg.symm)) hb);have n3_:=zA (Kd.V_below (Kd.V_elderB (by apply zV_;exact HL299_1.out) gb300 (Nat.le_of_eq hg.symm)) hb);have n4_:=zA (zW (by repeat (first|(with_reducible exact HR299_0.out)|apply zC_|exact HR299_0.out)) hb);have n5_:=zA (zW (by repeat (first|(with_reducible exact HR299_1.out)|apply zC_|exact HR299_1.out)) hb);have n6_:=zA (zR (by exact zB_ HB.out) hb);have n7_:=zA (hbox);have n8_:=zA ((by rw [hg];exact (zQ (by exact zB_ HB.out)):w.heap.size≤gb300));have n9_:=zA ((by rw [hg];exact (zQ (by exact zB_ HB.out)):w.heap.size≤gb300));clear HO_5;clear HO_11;clear HL299_0;clear HL299_1;clear HR299_0;clear HR299_1;clear HB;have HO_5:=n0_;have HO_11:=n1_;have HL299_0:=n2_;have HL299_1:=n3_;have HR299_0:=n4_;have HR299_1:=n5_;have HB:=n6_;have BK300:=n7_;have GW300:=n8_;have GE300:=n9_;clear n0_ n1_ n2_ n3_ n4_ n5_ n6_ n7_ n8_ n9_;clear hb hbox hg;have hcz16_0:w15.cell? ⟨gb300,0,none⟩ = some (.slice none 0 0):=(zT BK300.out 0).trans rfl;have hcz16_1:w15.cell? ⟨gb300,1,none⟩ = some (.slice none 0 0):=(zT BK300.out 1).trans rfl;have hfz16_0:=zZ BK300.out 0;have hfz16_1:=zZ BK300.out 1))
      have n0_:Aside0 (Kd.N k33 33 ((w15.setCell ⟨gb300,0,none⟩ (.slice A299_0 ((rd_T33 t296 x13_1).f0).length c299_0)).setCell ⟨gb300,1,none⟩ (.slice A299_1 ((rd_T33 t296 x13_1).f1).length c299_1)) w.heap.size (fun k_=>(w.heap.size≤k_)∧some k_≠(.slice (some ad299) t296.length co7:Value).ownBlock∧k_≠gb300) u5 x5_1):=⟨by apply zN_;exact Kd.N_mono (Kd.N_far (p:=⟨gb300,1,none⟩) (Kd.N_far (p:=⟨gb300,0,none⟩) (Kd.N_mono HO_5.out (fun k_ hk=>(⟨hk,hk.2⟩:_∧k_≠gb300))) (fun _ hk=>hk.2) (.slice A299_0 ((rd_T33 t296 x13_1).f0).length c299_0)) (fun _ hk=>hk.2) (.slice A299_1 ((rd_T33 t296 x13_1).f1).length c299_1)) (fun _ hk=>⟨hk.1.1.1,⟨hk.1.1.2,hk.1.2⟩⟩)⟩
      have n1_:Aside0 (Kd.N k33 33 ((w15.setCell ⟨gb300,0,none⟩ (.slice A299_0 ((rd_T33 t296 x13_1).f0).length c299_0)).setCell ⟨gb300,1,none⟩ (.slice A299_1 ((rd_T33 t296 x13_1).f1).length c299_1)) w.heap.size (fun k_=>(w.heap.size≤k_)∧some k_≠(u5:Value).ownBlock∧k_≠gb300) (.slice (some ad299) t296.length co7) t296):=⟨by apply zN_;exact Kd.N_mono (Kd.N_far (p:=⟨gb300,1,none⟩) (Kd.N_far (p:=⟨gb300,0,none⟩) (Kd.N_mono HO_11.out (fun k_ hk=>(⟨hk,hk.2⟩:_∧k_≠gb300))) (fun _ hk=>hk.2) (.slice A299_0 ((rd_T33 t296 x13_1).f0).length c299_0)) (fun _ hk=>hk.2) (.slice A299_1 ((rd_T33 t296 x13_1).f1).length c299_1)) (fun _ hk=>⟨hk.1.1.1,⟨hk.1.1.2,hk.1.2⟩⟩)⟩
      have n2_:Aside0 (Kd.V (Kd.int .i64) 3 ((w15.setCell ⟨gb300,0,none⟩ (.slice A299_0 ((rd_T33 t296 x13_1).f0).length c299_0)).setCell ⟨gb300,1,none⟩ (.slice A299_1 ((rd_T33 t296 x13_1).f1).length c299_1)) w.heap.size (fun k_=>(w.heap.size≤k_)∧some k_≠(u5:Value).ownBlock∧some k_≠(.slice (some ad299) t296.length co7:Value).ownBlock∧k_≠gb300) (.slice A299_0 ((rd_T33 t296 x13_1).f0).length c299_0) ((rd_T33 t296 x13_1).f0)):=⟨by apply zV_;exact Kd.V_mono (Kd.V_far (p:=⟨gb300,1,none⟩) (Kd.V_far (p:=⟨gb300,0,none⟩) (Kd.V_mono HL299_0.out (fun k_ hk=>(⟨hk,hk.2⟩:_∧k_≠gb300))) (fun _ hk=>hk.2) (.slice A299_0 ((rd_T33 t296 x13_1).f0).length c299_0)) (fun _ hk=>hk.2) (.slice A299_1 ((rd_T33 t296 x13_1).f1).length c299_1)) (fun _ hk=>⟨hk.1.1.1.1,⟨hk.1.1.1.2,⟨hk.1.1.2,hk.1.2⟩⟩⟩)⟩
      have n3_:Aside0 (Kd.V (Kd.int .i64) 3 ((w15.setCell ⟨gb300,0,none⟩ (.slice A299_0 ((rd_T33 t296 x13_1).f0).length c299_0)).setCell ⟨gb300,1,none⟩ (.slice A299_1 ((rd_T33 t296 x13_1).f1).length c299_1)) w.heap.size (fun k_=>(w.heap.size≤k_)∧some k_≠(u5:Value).ownBlock∧some k_≠(.slice (some ad299) t296.length co7:Value).ownBlock∧k_≠gb300) (.slice A299_1 ((rd_T33 t296 x13_1).f1).length c299_1) ((rd_T33 t296 x13_1).f1)):=⟨by apply zV_;exact Kd.V_mono (Kd.V_far (p:=⟨gb300,1,none⟩) (Kd.V_far (p:=⟨gb300,0,none⟩) (Kd.V_mono HL299_1.out (fun k_ hk=>(⟨hk,hk.2⟩:_∧k_≠gb300))) (fun _ hk=>hk.2) (.slice A299_0 ((rd_T33 t296 x13_1).f0).length c299_0)) (fun _ hk=>hk.2) (.slice A299_1 ((rd_T33 t296 x13_1).f1).length c299_1)) (fun _ hk=>⟨hk.1.1.1.1,⟨hk.1.1.1.2,⟨hk.1.1.2,hk.1.2⟩⟩⟩)⟩
      have n4_:Aside0 (((w15.setCell ⟨gb300,0,none⟩ (.slice A299_0 ((rd_T33 t296 x13_1).f0).length c299_0)).setCell ⟨gb300,1,none⟩ (.slice A299_1 ((rd_T33 t296 x13_1).f1).length c299_1)).heap[gb300]? = some (.cells #[.slice A299_0 ((rd_T33 t296 x13_1).f0).length c299_0,.slice A299_1 ((rd_T33 t296 x13_1).f1).length c299_1] 33 (0,0))):=⟨by (with_reducible repeat (first|refine zG ?_ _|refine zI ?_|refine zH ?_ _));refine blk_put (cs:=#[.slice A299_0 ((rd_T33 t296 x13_1).f0).length c299_0,.slice none 0 0]) ?_ 1 _ rfl;(with_reducible repeat (first|refine zG ?_ _|refine zI ?_|refine zH ?_ _));refine blk_put (cs:=#[.slice none 0 0,.slice none 0 0]) ?_ 0 _ rfl;(with_reducible repeat (first|refine zG ?_ _|refine zI ?_|refine zH ?_ _));exact BK300.out⟩
      have n5_:Aside0 (Below w.heap.size w ((w15.setCell ⟨gb300,0,none⟩ (.slice A299_0 ((rd_T33 t296 x13_1).f0).length c299_0)).setCell ⟨gb300,1,none⟩ (.slice A299_1 ((rd_T33 t296 x13_1).f1).length c299_1))):=⟨by repeat (first|(with_reducible first|exact HB.out|apply zD|apply zB|apply zC|refine zF ?_ GE300.out)|exact HB.out)⟩
      (try clear HO_5);(try clear HO_11);(try clear HL299_0);(try clear HL299_1);(try clear BK300);(try clear HB)
      generalize ((w15.setCell ⟨gb300,0,none⟩ (.slice A299_0 ((rd_T33 t296 x13_1).f0).length c299_0)).setCell ⟨gb300,1,none⟩ (.slice A299_1 ((rd_T33 t296 x13_1).f1).length c299_1)) = w17 at n0_ n1_ n2_ n3_ n4_ n5_ ⊢
      have HO_5:=n0_
      have HO_11:=n1_
      have HL299_0:=n2_
      have HL299_1:=n3_
      have BK300:=n4_
      have HB:=n5_
      clear n0_ n1_ n2_ n3_ n4_ n5_
      have n0_:=zA (Kd.N_drew HO_5.out)
      have n1_:=zA (Kd.N_drew HO_11.out)
      have n2_:=zA (Kd.V_drew HL299_0.out)
      have n3_:=zA (Kd.V_drew HL299_1.out)
      have n4_:=zA (zI BK300.out)
      have n5_:=zA (zC HB.out)
      clear HO_5 HO_11 HL299_0 HL299_1 BK300 HB
      have HO_5:=n0_
      have HO_11:=n1_
      have HL299_0:=n2_
      have HL299_1:=n3_
      have BK300:=n4_
      have HB:=n5_
      clear n0_ n1_ n2_ n3_ n4_ n5_
      refine start_ (n:=5) (S:=fun w'=>w'.cell? ⟨gb300,0,none⟩ = some (.slice A299_0 ((rd_T33 t296 x13_1).f0).length c299_0)∧w'.cell? ⟨gb300,1,none⟩ = some (.slice A299_1 ((rd_T33 t296 x13_1).f1).length c299_1)) (ds:=[]) #[zf,zf,zf,zf,zf] (by kernel_rfl) rfl rfl ⟨(zT BK300.out 0).trans rfl,(zT BK300.out 1).trans rfl⟩ (fun hHeld=>?_)
      generalize w17.drew = w18 at HO_5 HO_11 HL299_0 HL299_1 BK300 HB hHeld ⊢
      refine take_ (i:=0) (N:=some 17) (v:=?_) (a':=?_) #[zt,zf,zf,zf,zf] rfl rfl (by kernel_rfl) (fun _ _ _ h=>h) (Or.inl ⟨by rfl,?_⟩) hHeld ?_ ?_
      rotate_left
      ·rintro w' ⟨s0,s1⟩
       go_simp
       with_reducible rfl
      rotate_left
      ·simp only [Act.put,zP_,i64_w]
       rfl
      refine take_ (i:=1) (N:=some 18) (v:=?_) (a':=?_) #[zt,zt,zf,zf,zf] rfl rfl (by kernel_rfl) (fun _ _ _ h=>h) (Or.inl ⟨by rfl,?_⟩) hHeld ?_ ?_
      rotate_left
      ·rintro w' ⟨s0,s1⟩
       go_simp
       with_reducible rfl
      rotate_left
      ·simp only [Act.put,zP_,i64_w]
       rfl
      refine one_ (i:=2) (N:=some 19) #[zt,zt,zt,zf,zf] rfl rfl (by kernel_rfl) (by decide) (fun K hK=>?_)
      refine goes_ Try.func63 (by kernel_rfl) rfl #[.agg #[.slice A299_0 ((rd_T33 t296 x13_1).f0).length c299_0,.slice A299_1 ((rd_T33 t296 x13_1).f1).length c299_1]] (by rfl) rfl rfl (by (try simp only [zJ,zM,zN]);first|done|rfl|(simp only [zL,zK];rfl)) ?_
      with_reducible refine (impl_leastForm.calls k1 _ _ ((rd_T33 t296 x13_1).f0) _ _ ((rd_T33 t296 x13_1).f1) t301 t304 _ ?side1 ?side2 ?side3 ?side4 A11.out).mono ?_
      (case side1=>repeat (first|exact ((zk (by apply zV_;exact HL299_0.out)).2.2)|apply zC_))
      (case side2=>exact HC299_0.out)
      (case side3=>repeat (first|exact ((zk (by apply zV_;exact HL299_1.out)).2.2)|apply zC_))
      (case side4=>exact HC299_1.out)
      rintro e w19 ⟨v302,v305,rfl,ho0,ho1,hb⟩
      refine ⟨_,rfl,?_⟩
      have n0_:=zA (Kd.N_mono (Kd.N_told (Kd.N_told (Kd.N_old (by apply zN_;exact HO_5.out) hb) (zd ho0)) (zd ho1)) (fun _ h_=>h_.1))
      have n1_:=zA (Kd.N_mono (Kd.N_told (Kd.N_told (Kd.N_old (by apply zN_;exact HO_11.out) hb) (zd ho0)) (zd ho1)) (fun _ h_=>h_.1))
      have n2_:=zA (Kd.V_mono (Kd.V_told (Kd.V_told (Kd.V_old (by apply zV_;exact HL299_0.out) hb) (zd ho0)) (zd ho1)) (fun _ h_=>h_.1))
      have n3_:=zA (Kd.V_mono (Kd.V_told (Kd.V_told (Kd.V_old (by apply zV_;exact HL299_1.out) hb) (zd ho0)) (zd ho1)) (fun _ h_=>h_.1))
      have n4_:=zA (ze (Kd.R_newM (M:=fun k_=>(w.heap.size≤k_)) ho0 (zQ (by repeat (first|(with_reducible first|exact HB.out|apply zD|apply zB|apply zC|refine zF ?_ GE300.out)|exact HB.out))) (fun k_ h_=>h_)) (zQ (by repeat (first|(with_reducible first|exact HB.out|apply zD|apply zB|apply zC|refine zF ?_ GE300.out)|exact HB.out))))
      have n5_:=zA (ze (Kd.R_newM (M:=fun k_=>(w.heap.size≤k_)) ho1 (zQ (by repeat (first|(with_reducible first|exact HB.out|apply zD|apply zB|apply zC|refine zF ?_ GE300.out)|exact HB.out))) (fun k_ h_=>h_)) (zQ (by repeat (first|(with_reducible first|exact HB.out|apply zD|apply zB|apply zC|refine zF ?_ GE300.out)|exact HB.out))))
      have n6_:=zA (zX (g:=gb300) (o:=.cells #[.slice A299_0 ((rd_T33 t296 x13_1).f0).length c299_0,.slice A299_1 ((rd_T33 t296 x13_1).f1).length c299_1] 33 (0,0)) (by (with_reducible repeat (first|refine zG ?_ _|refine zI ?_|refine zH ?_ _));exact BK300.out) hb)
      have n7_:=zA (zR (by repeat (first|(with_reducible first|exact HB.out|apply zD|apply zB|apply zC|refine zF ?_ GE300.out)|exact HB.out)) hb)
      clear HO_5 HO_11 HL299_0 HL299_1 BK300 HB
      have HO_5:=n0_
      have HO_11:=n1_
      have HL299_0:=n2_
      have HL299_1:=n3_
      have HO303:=n4_
      have HO306:=n5_
      have BK300:=n6_
      have HB:=n7_
      clear n0_ n1_ n2_ n3_ n4_ n5_ n6_ n7_
      (try clear hb);(try clear hb2);(try clear hk);(try clear hi);(try clear ho0);(try clear ho1)
      obtain ⟨Ao20,co20,eo20⟩:=zg HO303.out
      (first|subst eo20|(injection eo20 with f1_ f2_ f3_;have f4_:=f1_.symm;have f5_:=f3_.symm;clear f1_ f2_ f3_;subst f4_;subst f5_))
      obtain ⟨Ao21,co21,eo21⟩:=zg HO306.out
      (first|subst eo21|(injection eo21 with f1_ f2_ f3_;have f4_:=f1_.symm;have f5_:=f3_.symm;clear f1_ f2_ f3_;subst f4_;subst f5_))
      refine hK.out _ _ ⟨(zT BK300.out 0).trans rfl,(zT BK300.out 1).trans rfl⟩ (fun hHeld=>?_)
      clear hK K
      refine norm_ (a':=?_) ?_ ?_
      rotate_left
      ·show Act.put _ (some 19) _ = _
       simp only [Act.put,zP_,i64_w]
       rfl
      refine one_ (i:=3) (N:=some 20) #[zt,zt,zt,zt,zf] rfl rfl (by kernel_rfl) (by decide) (fun K hK=>?_)
      refine goes_ Try.func62 (by kernel_rfl) rfl #[.agg #[.slice A299_0 ((rd_T33 t296 x13_1).f0).length c299_0,.slice A299_1 ((rd_T33 t296 x13_1).f1).length c299_1],.agg #[.slice Ao20 t301.length co20,.slice Ao21 t304.length co21]] (by rfl) rfl rfl (by (try simp only [zJ,zM,zN]);first|done|rfl|(simp only [zL,zK];rfl)) ?_
      with_reducible refine (impl_compareMaps.calls k1 _ _ ((rd_T33 t296 x13_1).f0) _ _ ((rd_T33 t296 x13_1).f1) _ _ t301 _ _ t304 t307 _ ?side1 ?side2 ?side3 ?side4 ?side5 ?side6 ?side7 ?side8 A12.out).mono ?_
      (case side1=>repeat (first|exact ((zk (by apply zV_;exact HL299_0.out)).2.2)|apply zC_))
      (case side2=>exact HC299_0.out)
      (case side3=>repeat (first|exact ((zk (by apply zV_;exact HL299_1.out)).2.2)|apply zC_))
      (case side4=>exact HC299_1.out)
      (case side5=>repeat (first|exact (zU HO303.out).2.2|apply zC_))
      (case side6=>exact (zU HO303.out).2.1)
      (case side7=>repeat (first|exact (zU HO306.out).2.2|apply zC_))
      (case side8=>exact (zU HO306.out).2.1)
      rintro e w22 ⟨rfl,hb⟩
      refine ⟨_,rfl,?_⟩
      have n0_:=zA (Kd.N_below (by apply zN_;exact HO_5.out) hb)
      have n1_:=zA (Kd.N_below (by apply zN_;exact HO_11.out) hb)
      have n2_:=zA (Kd.V_below (by apply zV_;exact HL299_0.out) hb)
      have n3_:=zA (Kd.V_below (by apply zV_;exact HL299_1.out) hb)
      have n4_:=zA (zj (by apply zR_;exact HO303.out) hb)
      have n5_:=zA (zj (by apply zR_;exact HO306.out) hb)
      have n6_:=zA (zX (g:=gb300) (o:=.cells #[.slice A299_0 ((rd_T33 t296 x13_1).f0).length c299_0,.slice A299_1 ((rd_T33 t296 x13_1).f1).length c299_1] 33 (0,0)) (by (with_reducible repeat (first|refine zG ?_ _|refine zI ?_|refine zH ?_ _));exact BK300.out) hb)
      have n7_:=zA (zR (by repeat (first|(with_reducible first|exact HB.out|apply zD|apply zB|apply zC|refine zF ?_ GE300.out)|exact HB.out)) hb)
      clear HO_5 HO_11 HL299_0 HL299_1 HO303 HO306 BK300 HB
      have HO_5:=n0_
      have HO_11:=n1_
      have HL299_0:=n2_
      have HL299_1:=n3_
      have HO303:=n4_
      have HO306:=n5_
      have BK300:=n6_
      have HB:=n7_
      clear n0_ n1_ n2_ n3_ n4_ n5_ n6_ n7_
      (try clear hb);(try clear hb2);(try clear hk);(try clear hi)
      refine hK.out _ _ ⟨(zT BK300.out 0).trans rfl,(zT BK300.out 1).trans rfl⟩ (fun hHeld=>?_)
      clear hK K
      refine norm_ (a':=?_) ?_ ?_
      rotate_left
      ·show Act.put _ (some 20) _ = _
       simp only [Act.put,zP_,i64_w]
       rfl
      refine pure_ (i:=4) (N:=some 21) (v:=?_) (a':=?_) #[zt,zt,zt,zt,zt] rfl rfl (by kernel_rfl) (fun _ _ _ h=>h) (Or.inl ⟨by rfl,?_⟩) ?_ ?_
      rotate_left
      ·intro w'
       go_simp
       with_reducible rfl
      rotate_left
      ·simp only [Act.put,zP_,i64_w]
       rfl
      refine done_ (by kernel_rfl) ?_
      have H:=H9_.out
      clear H9_
      by_cases c13:t307 = 0
      ·rw [if_pos c13] at H
       have c13b0:(t307 == 0) = true:=beq_iff_eq.mpr c13
       have c13b1:(t307 != 0) = false:=bne_eq_false_iff_eq.mpr c13
       clear c13
       try rw [c13b0]
       by_cases c14:x5_1.length < 2932031007402
       ·rw [if_pos c14] at H
        have LMc14:=zA c14
        clear c14
        obtain ⟨y308,hy308⟩:∃ y_:List (S33),y_ = (x5_1 ++ [(⟨(rd_T33 t296 x13_1).f0,(rd_T33 t296 x13_1).f1⟩:S33)]):=⟨_,rfl⟩
        replace H:(impl_rootless.l0 k1 y308 t296 (t296.length:Int) (wrap64 (x13_1+1))) = some r:=by (try rw [hy308]);first|with_reducible exact H|with_reducible exact zS_ H|exact H
        have Ny308:=zA hy308
        clear hy308
        have H':=zA H
        clear H
        have hcz23_0:w22.cell? ⟨gb300,0,none⟩ = some (.slice A299_0 ((rd_T33 t296 x13_1).f0).length c299_0):=(zT BK300.out 0).trans rfl
        have hcz23_1:w22.cell? ⟨gb300,1,none⟩ = some (.slice A299_1 ((rd_T33 t296 x13_1).f1).length c299_1):=(zT BK300.out 1).trans rfl
        have hfz23_0:=zZ BK300.out 0
        have hfz23_1:=zZ BK300.out 1
        try go_wp2_with (first|((with_reducible refine gate_builtin (b:=.append) (xs:=#[.tmp 22,.tmp 24]) rfl ?_);at_builtin;refine Kd.N_append k33 (w0:=w) w.heap.size rfl (.tmp 22) (.tmp 24) 27 33 (.agg #[(.slice none 0 0),(.slice none 0 0)]) 48 rfl Try.underlying27 info33 rfl (by decide) (by omega) u5 x5_1 (⟨(rd_T33 t296 x13_1).f0,(rd_T33 t296 x13_1).f1⟩:S33) [.slice A299_0 ((rd_T33 t296 x13_1).f0).length c299_0,.slice A299_1 ((rd_T33 t296 x13_1).f1).length c299_1] (fun k_=>(w.heap.size≤k_)∧some k_≠(.slice (some ad299) t296.length co7:Value).ownBlock∧some k_≠(.slice Ao20 t301.length co20:Value).ownBlock∧some k_≠(.slice Ao21 t304.length co21:Value).ownBlock∧k_≠gb300) (fun k_=>((fun k_=>(w.heap.size≤k_)∧some k_≠(.slice (some ad299) t296.length co7:Value).ownBlock∧some k_≠(.slice Ao20 t301.length co20:Value).ownBlock∧some k_≠(.slice Ao21 t304.length co21:Value).ownBlock∧k_≠gb300)) k_∧some k_≠(u5:Value).ownBlock) rfl rfl ?aP (fun _ hk=>hk) ?aF ?aO ?aB ?aS ?aL ?_;(case aP=>exact (k33_mkF _ _ (⟨(rd_T33 t296 x13_1).f0,(rd_T33 t296 x13_1).f1⟩:S33) (zk (Kd.V_mono (ok':=(fun k_=>((fun k_=>(w.heap.size≤k_)∧some k_≠(.slice (some ad299) t296.length co7:Value).ownBlock∧some k_≠(.slice Ao20 t301.length co20:Value).ownBlock∧some k_≠(.slice Ao21 t304.length co21:Value).ownBlock∧k_≠gb300)) k_∧some k_≠(u5:Value).ownBlock)) (HL299_0.out) (fun k_ hk=>⟨⟨hk.1.1.1,⟨hk.1.1.2.2.1,⟨hk.1.2,⟨hk.2,hk.1.1.2.2.2⟩⟩⟩⟩,hk.1.1.2.1⟩))).2.1 (Kd.V_F (Kd.V_mono (ok':=(fun k_=>((fun k_=>(w.heap.size≤k_)∧some k_≠(.slice (some ad299) t296.length co7:Value).ownBlock∧some k_≠(.slice Ao20 t301.length co20:Value).ownBlock∧some k_≠(.slice Ao21 t304.length co21:Value).ownBlock∧k_≠gb300)) k_∧some k_≠(u5:Value).ownBlock)) (HL299_0.out) (fun k_ hk=>⟨⟨hk.1.1.1,⟨hk.1.1.2.2.1,⟨hk.1.2,⟨hk.2,hk.1.1.2.2.2⟩⟩⟩⟩,hk.1.1.2.1⟩))) (zk (Kd.V_mono (ok':=(fun k_=>((fun k_=>(w.heap.size≤k_)∧some k_≠(.slice (some ad299) t296.length co7:Value).ownBlock∧some k_≠(.slice Ao20 t301.length co20:Value).ownBlock∧some k_≠(.slice Ao21 t304.length co21:Value).ownBlock∧k_≠gb300)) k_∧some k_≠(u5:Value).ownBlock)) (HL299_1.out) (fun k_ hk=>⟨⟨hk.1.1.1,⟨hk.1.1.2.2.1,⟨hk.1.2,⟨hk.2,hk.1.1.2.2.2⟩⟩⟩⟩,hk.1.1.2.1⟩))).2.1 (Kd.V_F (Kd.V_mono (ok':=(fun k_=>((fun k_=>(w.heap.size≤k_)∧some k_≠(.slice (some ad299) t296.length co7:Value).ownBlock∧some k_≠(.slice Ao20 t301.length co20:Value).ownBlock∧some k_≠(.slice Ao21 t304.length co21:Value).ownBlock∧k_≠gb300)) k_∧some k_≠(u5:Value).ownBlock)) (HL299_1.out) (fun k_ hk=>⟨⟨hk.1.1.1,⟨hk.1.1.2.2.1,⟨hk.1.2,⟨hk.2,hk.1.1.2.2.2⟩⟩⟩⟩,hk.1.1.2.1⟩)))));(case aB=>exact (by repeat (first|(with_reducible first|exact HB.out|apply zD|apply zB|apply zC|refine zF ?_ GE300.out)|exact HB.out)));(case aF=>exact (fun k_ hk=>⟨(Nat.le_trans (zQ (by repeat (first|(with_reducible first|exact HB.out|apply zD|apply zB|apply zC|refine zF ?_ GE300.out)|exact HB.out))) hk),Kd.fresh' (Kd.N_lt (by apply zN_;exact HO_11.out)) k_ hk,Kd.fresh' (Kd.R_lt (by apply zR_;exact HO303.out)) k_ hk,Kd.fresh' (Kd.R_lt (by apply zR_;exact HO306.out)) k_ hk,Kd.freshB (g:=gb300) (o:=.cells #[.slice A299_0 ((rd_T33 t296 x13_1).f0).length c299_0,.slice A299_1 ((rd_T33 t296 x13_1).f1).length c299_1] 33 (0,0)) (by (with_reducible repeat (first|refine zG ?_ _|refine zI ?_|refine zH ?_ _));exact BK300.out) k_ hk⟩));(case aO=>exact (by apply zN_;exact Kd.N_mono HO_5.out (fun _ hk=>⟨hk.1.1.1,⟨hk.1.1.2.1,⟨hk.1.2,⟨hk.2,hk.1.1.2.2⟩⟩⟩⟩)));(case aS=>exact (zQ (by repeat (first|(with_reducible first|exact HB.out|apply zD|apply zB|apply zC|refine zF ?_ GE300.out)|exact HB.out))));(case aL=>have:=LMc14.out;omega);intro v309 w24 ho hb hg hat;rw [← Ny308.out] at ho;have n0_:=zA (Kd.N_afterv (ok:=(fun k_=>(w.heap.size≤k_)∧some k_≠(.slice Ao20 t301.length co20:Value).ownBlock∧some k_≠(.slice Ao21 t304.length co21:Value).ownBlock∧k_≠gb300)) (by apply zN_;exact Kd.N_mono HO_11.out (fun _ hk=>⟨⟨hk.1.1.1,⟨hk.1.2,⟨hk.2,hk.1.1.2.2⟩⟩⟩,hk.1.1.2.1⟩)) hg hat);have n1_:=zA (Kd.V_afterv (ok:=(fun k_=>(w.heap.size≤k_)∧some k_≠(.slice (some ad299) t296.length co7:Value).ownBlock∧some k_≠(.slice Ao20 t301.length co20:Value).ownBlock∧some k_≠(.slice Ao21 t304.length co21:Value).ownBlock∧k_≠gb300)) (by apply zV_;exact Kd.V_mono HL299_0.out (fun _ hk=>⟨⟨hk.1.1.1,⟨hk.1.1.2.2.1,⟨hk.1.2,⟨hk.2,hk.1.1.2.2.2⟩⟩⟩⟩,hk.1.1.2.1⟩)) hg hat);have n2_:=zA (Kd.V_afterv (ok:=(fun k_=>(w.heap.size≤k_)∧some k_≠(.slice (some ad299) t296.length co7:Value).ownBlock∧some k_≠(.slice Ao20 t301.length co20:Value).ownBlock∧some k_≠(.slice Ao21 t304.length co21:Value).ownBlock∧k_≠gb300)) (by apply zV_;exact Kd.V_mono HL299_1.out (fun _ hk=>⟨⟨hk.1.1.1,⟨hk.1.1.2.2.1,⟨hk.1.2,⟨hk.2,hk.1.1.2.2.2⟩⟩⟩⟩,hk.1.1.2.1⟩)) hg hat);have n3_:=zA (blk_grown (g:=gb300) (o:=.cells #[.slice A299_0 ((rd_T33 t296 x13_1).f0).length c299_0,.slice A299_1 ((rd_T33 t296 x13_1).f1).length c299_1] 33 (0,0)) (by (with_reducible repeat (first|refine zG ?_ _|refine zI ?_|refine zH ?_ _));exact BK300.out) hg (Kd.N_away HO_5.out (fun _ hk=>hk.1.1.2.2)));have n4_:=zA (Kd.R_over' (by apply zR_;exact HO303.out) (Kd.N_typed (by apply zN_;exact HO_5.out)) (by decide) hg);have n5_:=zA (Kd.R_over' (by apply zR_;exact HO306.out) (Kd.N_typed (by apply zN_;exact HO_5.out)) (by decide) hg);have n6_:=zA (hb);have n7_:=zA (ho);clear HO_11;clear HL299_0;clear HL299_1;clear BK300;clear HO303;clear HO306;clear HB;clear HO_5;have HO_11:=n0_;have HL299_0:=n1_;have HL299_1:=n2_;have BK300:=n3_;have HO303:=n4_;have HO306:=n5_;have HB:=n6_;have HO310:=n7_;clear n0_ n1_ n2_ n3_ n4_ n5_ n6_ n7_;clear ho hb hg hat))
        go_roundg k1
        case measure=>have:=HK1.out;omega
        case rel=>exact ⟨(y308),(wrap64 (x13_1+1)),(by first|rfl|(simp;done)|(simp [*];done)),H',⟨by have:=HK1.out;omega⟩,⟨by apply zN_;exact Kd.N_mono HO310.out (fun _ hk=>⟨hk.1,hk.2.1⟩)⟩,⟨by apply zN_;exact Kd.N_mono HO_11.out (fun _ hk=>⟨hk.1.1,hk.2⟩)⟩,⟨by repeat (first|(with_reducible first|exact HB.out|apply zD|apply zB|apply zC|refine zF ?_ GE300.out)|exact HB.out)⟩⟩
       ·rw [if_neg c14] at H
        exact absurd H (by simp)
      ·rw [if_neg c13] at H
       have c13b0:(t307 == 0) = false:=beq_eq_false_iff_ne.mpr c13
       have c13b1:(t307 != 0) = true:=bne_iff_ne.mpr c13
       have H':=zA H
       clear H
       try go_wp2
       go_roundg k1
       case measure=>have:=HK1.out;omega
       case rel=>exact ⟨(x5_1),(wrap64 (x13_1+1)),(by first|rfl|(simp;done)|(simp [*];done)),H',⟨by have:=HK1.out;omega⟩,⟨by apply zN_;exact Kd.N_mono HO_5.out (fun _ hk=>⟨hk.1.1.1,hk.1.1.2.1⟩)⟩,⟨by apply zN_;exact Kd.N_mono HO_11.out (fun _ hk=>⟨hk.1.1.1,hk.1.1.2.1⟩)⟩,⟨by repeat (first|(with_reducible first|exact HB.out|apply zD|apply zB|apply zC|refine zF ?_ GE300.out)|exact HB.out)⟩⟩
     ·rw [if_neg c10] at H
      exact absurd H (by simp)
    ·rw [if_neg c9] at H
     exact absurd H (by simp)
   ·rw [if_neg c8] at H
    have c8b0:decide (x13_1 < (t296.length:Int)) = false:=zP c8
    clear c8
    obtain rfl:=zS H
    go_wp2
    go_ret
    exact ⟨_,by first|rfl|(simp [errW_none,errW_some] <;> rfl)|(simp [*,errW_none,errW_some] <;> rfl),by apply zN_;exact Kd.N_mono HO_5.out (fun _ hk=>hk.1),by exact zB_ HB.out⟩

end Go.Proofs.Ytdaiohcgdpclnaa.Q
