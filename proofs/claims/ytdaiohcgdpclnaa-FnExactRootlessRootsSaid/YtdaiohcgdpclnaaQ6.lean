import Derived.Test.YtdaiohcgdpclnaaQ0
import Derived.Test.YtdaiohcgdpclnaaQ16
import Derived.Test.YtdaiohcgdpclnaaQ3
import Derived.Test.YtdaiohcgdpclnaaQ5
import Derived.Test.YtdaiohcgdpclnaaZ
namespace Go.Proofs.Ytdaiohcgdpclnaa.Q
open Go.RowKit Go.Proofs.YtdaiohcgdpclnaaW.PrintWords Go.Proofs.YtdaiohcgdpclnaaW.PrintLast Go.Proofs.YtdaiohcgdpclnaaW.PrintMore
attribute [local go_sem] max2_int min2_int max_two min_two max_three min_three max_four min_four   -- for this text's walks alone
set_option linter.unusedVariables false
set_option linter.unusedSimpArgs false

/-! ### impl_rootless: function 39 -/
def impl_rootless.l0:Nat→List (S33)→List (S33)→Int→Int→Option ((List (S33)))
 | 0,_,_,_,_=>none
 | k+1,x5,x11,x12,x13=>if x13 < x12 then (if 0≤x13 then (if x13 < (x11.length:Int) then ((impl_leastForm.f k ((rd_T33 x11 x13).f0) ((rd_T33 x11 x13).f1)).bind fun bt268=>((impl_compareMaps.f k ((rd_T33 x11 x13).f0) ((rd_T33 x11 x13).f1) bt268.1 bt268.2).bind fun t274=>(if t274 = 0 then (if x5.length < 2932031007402 then (impl_rootless.l0 k (x5 ++ [(⟨(rd_T33 x11 x13).f0,(rd_T33 x11 x13).f1⟩:S33)]) x11 x12 (wrap64 (x13+1))) else (none)) else (impl_rootless.l0 k x5 x11 x12 (wrap64 (x13+1)))))) else (none)) else (none)) else (some x5)
def impl_rootless.f (k:Nat) (a0:Int) (a1:Int):Option ((List (S33))):=(impl_rooted.f a0 a1).bind fun t263=>(impl_rootless.l0 k (([]:List (S33))) t263 (t263.length:Int) 0)
theorem impl_rootless.mono_l:∀ k,(∀ y0 y1 y2 y3,LeO (impl_rootless.l0 k y0 y1 y2 y3) (impl_rootless.l0 (k+1) y0 y1 y2 y3))
 | 0=>fun _ _ _ _ r h=>by simp [impl_rootless.l0] at h
 | k+1=>by
  have ih0:=impl_rootless.mono_l k
  ·intro y0 y1 y2 y3
   unfold impl_rootless.l0
   repeat' first
   | (with_reducible exact ih0 _ _ _ _)
   | (with_reducible exact impl_compareMaps.mono _ _ _ _ _)
   | (with_reducible exact impl_leastForm.mono _ _ _)
   | (with_reducible exact LeO.refl _)
   | (with_reducible exact za _)
   | (with_reducible refine zc ?_ ?_)
   | (with_reducible refine zb ?_ (fun _=>?_))
theorem impl_rootless.mono:∀ a0 a1 k,LeO (impl_rootless.f k a0 a1) (impl_rootless.f (k+1) a0 a1):=by
 intro a0 a1 k
 have ih0:=impl_rootless.mono_l k
 unfold impl_rootless.f
 repeat' first
   | (with_reducible exact ih0 _ _ _ _)
   | (with_reducible exact impl_compareMaps.mono _ _ _ _ _)
   | (with_reducible exact impl_leastForm.mono _ _ _)
   | (with_reducible exact LeO.refl _)
   | (with_reducible exact za _)
   | (with_reducible refine zc ?_ ?_)
   | (with_reducible refine zb ?_ (fun _=>?_))
set_option maxHeartbeats 8000000 in
set_option maxRecDepth 100000 in
theorem impl_rootless.calls (k:Nat) (a0:Int) (a1:Int) (r:List (S33)) (w:World) (h:impl_rootless.f k a0 a1 = some r) :
  Calls Try.prog 39 #[.int .i64 a0,.int .i64 a1] w fun e w' => ∃ v0_:Value,e = .returned (v0_)∧Kd.N k33 33 w' w.heap.size (fun k_=>(w.heap.size≤k_)) v0_ r∧Below w.heap.size w w':=by
 have hu33:=Try.underlying33
 have HB:=zA (Below.refl w.heap.size w)
 have H:((impl_rooted.f a0 a1).bind fun t263=>(impl_rootless.l0 k (([]:List (S33))) t263 (t263.length:Int) 0)) = some r:=h
 clear h
 obtain ⟨y260,hy260⟩:∃ y_:List (S33),y_ = (([]:List (S33))):=⟨_,rfl⟩
 replace H:((impl_rooted.f a0 a1).bind fun t263=>(impl_rootless.l0 k y260 t263 (t263.length:Int) 0)) = some r:=by (try rw [hy260]);first|with_reducible exact H|with_reducible exact zS_ H|exact H
 have Ny260:=zA hy260
 clear hy260
 replace H:=zz0 H
 obtain ⟨t263,A30,H⟩:=H
 try dsimp only at H
 have A3:=zA A30
 clear A30
 have H':=zA H
 clear H
 go_enter Try.func39,Try.ntmps39
 go_wp2_with (first|((with_reducible refine gate_dst (N:=8) rfl ?_);refine Kd.N_lit k33 _ 33 ?hg (N':=8) ?hd (xs:=([]:List (S33))) (inner:=[]) (ok:=(fun k_=>(w.heap.size≤k_))) (okp:=(fun k_=>(w.heap.size≤k_))) ?hr ?hp (fun _ hk=>hk) ((show ∀ k_,w.heap.size≤k_→(fun k_=>(w.heap.size≤k_)) k_ from fun k_ hk=>(Nat.le_trans (zQ (by exact zB_ HB.out)) hk)) _ (Nat.le_refl _)) (Below.refl _ _) (Nat.le_refl _) (by simp) ?_;(case hd=>rfl);(case hg=>rfl);(case hr=>first|(go_simp;done)|(go_simp;rfl));(case hp=>exact (Reps.none _ _));intro v261 w4 ho5 hb hg_ hnew_;clear hg_ hnew_;(first|rw [← Ny260.out] at ho5|(simp only [Int.reduceToNat] at ho5;rw [← Ny260.out] at ho5));have n0_:=zA (Kd.N_lower ho5 (zQ (by exact zB_ HB.out)));have n1_:=zA (zR (by exact zB_ HB.out) hb);clear HB;have HO262:=n0_;have HB:=n1_;clear n0_ n1_;clear hb ho5)|((with_reducible refine gate_callee (f:=42) rfl ?_);refine goesL_ (some 11) rfl rfl Try.func42 (by kernel_rfl) rfl #[.int .i64 a0,.int .i64 a1] rfl (by (try simp only [zJ,zM,zN]);first|done|rfl|(simp only [zL,zK];rfl)) ?_;(with_reducible refine (impl_rooted.calls a0 a1 t263 _ A3.out).mono ?_);rintro e w6 ⟨v264,rfl,ho0,hb⟩;refine ⟨_,rfl,?_⟩;have n0_:=zA (Kd.N_elder' (by apply zN_;exact HO262.out) (Kd.N_base (Kd.S_N (Kd.S_bound ho0))) hb);have n1_:=zA (Kd.N_lower (Kd.N_mono (ok':=fun k_=>(w.heap.size≤k_)∧some k_≠(v261:Value).ownBlock) (Kd.S_N (Kd.S_bound ho0)) (fun k_ hk_=>⟨(Nat.le_trans (zQ (by exact zB_ HB.out)) hk_.2.1),(Kd.fresh' (Kd.N_lt (by apply zN_;exact HO262.out)) k_ hk_.2.1)⟩)) (zQ (by exact zB_ HB.out)));have n2_:=zA (zR (by exact zB_ HB.out) hb);clear HO262;clear HB;have HO262:=n0_;have HO265:=n1_;have HB:=n2_;clear n0_ n1_ n2_;(try clear hb);(try clear hb2);(try clear hk);(try clear hi);(try clear ho0);obtain ⟨Ao7,co7,eo7⟩:=Kd.N_slice HO265.out;subst eo7))
 go_loopg [5,13] k (fun kq v5 v13 w' => ∃ (x5_1:List (S33)) (x13_1:Int),v13 = .int .i64 x13_1∧Aside0 (impl_rootless.l0 kq x5_1 t263 (t263.length:Int) x13_1 = some r)∧Aside0 (kq≤k)∧Aside0 (Kd.N k33 33 w' w.heap.size (fun k_=>(w.heap.size≤k_)∧some k_≠((.slice Ao7 t263.length co7):Value).ownBlock) v5 x5_1)∧Aside0 (Kd.N k33 33 w' w.heap.size (fun k_=>(w.heap.size≤k_)∧some k_≠(v5:Value).ownBlock) (.slice Ao7 t263.length co7) t263)∧Aside0 (Below w.heap.size w w'))
 case atStart=>exact ⟨(y260),(0),(by first|rfl|(simp;done)|(simp [*];done)),H',⟨Nat.le_refl _⟩,⟨by apply zN_;exact HO262.out⟩,⟨by apply zN_;exact HO265.out⟩,⟨by exact zB_ HB.out⟩⟩
 case round =>
  clear H'
  (try clear p2);(try clear c3);(try clear c4)
  obtain ⟨x5_1,x13_1,rfl,HA,HK1,HO_5,HO_11,HB⟩:=hrel
  cases gk with
  | zero=>exact absurd HA.out (by simp [impl_rootless.l0])
  | succ k1 =>
   have H:=HA.out
   clear HA
   simp only [impl_rootless.l0] at H
   by_cases c8:x13_1 < (t263.length:Int)
   ·rw [if_pos c8] at H
    have c8b0:decide (x13_1 < (t263.length:Int)) = true:=zO c8
    clear c8
    by_cases c9:0≤x13_1
    ·rw [if_pos c9] at H
     have c9b0:decide (0≤x13_1) = true:=zO c9
     clear c9
     by_cases c10:x13_1 < (t263.length:Int)
     ·rw [if_pos c10] at H
      have c10b0:decide (x13_1 < (t263.length:Int)) = true:=zO c10
      clear c10
      replace H:=zz0 H
      obtain ⟨⟨t268,t271⟩,A110,H⟩:=H
      try dsimp only at H
      have A11:=zA A110
      clear A110
      replace H:=zz0 H
      obtain ⟨t274,A120,H⟩:=H
      try dsimp only at H
      have A12:=zA A120
      clear A120
      have H9_:=zA H
      clear H
      have p266:0≤(x13_1:Int):=zE (by with_reducible assumption)
      have q266:x13_1 < (t263.length:Int):=zE (by with_reducible assumption)
      obtain ⟨ad266,A266_0,c266_0,A266_1,c266_1,e266,hx266_0,hx266_1,hl266_0,hi266_0,hl266_1,hi266_1⟩:=at_T33 (Kd.N_reads' HO_11.out).2.2 x13_1 p266 q266
      cases e266
      obtain ⟨ce266,hce266,hMe266,hcc266⟩:=Kd.N_get HO_11.out z33 x13_1 p266 (by first|exact q266|exact zE (by with_reducible assumption)|(have e_:=(Kd.N_reads' HO_11.out).1;omega))
      obtain ⟨ua266_0,uc266_0,ua266_1,uc266_1,rfl,ul266_0,ge266_0,ul266_1,ge266_1⟩:=k33_openF hMe266
      have hv266_0:=hcc266 0 _ rfl
      rw [Nat.add_zero] at hv266_0
      replace hv266_0:=zS (hv266_0.symm.trans hx266_0)
      injection hv266_0 with hva_ hvn_ hvc_
      rw [hva_] at ge266_0
      rw [hvc_] at ul266_0
      have HL266_0:=zA (show Kd.V (Kd.int .i64) 3 _ w.heap.size _ _ ((rd_T33 t263 x13_1).f0) from Kd.V_mk ul266_0 ge266_0)
      clear hva_ hvn_ hvc_ ge266_0 ul266_0
      have hv266_1:=hcc266 1 _ rfl
      rw [add_field _ _ 1 (by omega)] at hv266_1
      replace hv266_1:=zS (hv266_1.symm.trans hx266_1)
      injection hv266_1 with hva_ hvn_ hvc_
      rw [hva_] at ge266_1
      rw [hvc_] at ul266_1
      have HL266_1:=zA (show Kd.V (Kd.int .i64) 3 _ w.heap.size _ _ ((rd_T33 t263 x13_1).f1) from Kd.V_mk ul266_1 ge266_1)
      clear hva_ hvn_ hvc_ ge266_1 ul266_1 hcc266 hce266
      have HR266_0:=zA hi266_0
      have HC266_0:=zA hl266_0
      clear hi266_0 hl266_0
      have HR266_1:=zA hi266_1
      have HC266_1:=zA hl266_1
      clear hi266_1 hl266_1
      replace p266:=eq_true p266
      replace q266:=eq_true q266
      try go_wp2_with (first|((with_reducible refine gate_dst (N:=7) rfl ?_);refine box_event ?hg (N:=7) ?hd (cs:=#[.slice none 0 0,.slice none 0 0]) (t:=33) ?hr ?_;(case hd=>rfl);(case hg=>rfl);(case hr=>first|(go_simp;done)|(go_simp;rfl));intro gb267 hg w15 hbox hb;have n0_:=zA (Kd.N_below (Kd.N_elderB (by apply zN_;exact HO_5.out) gb267 (Nat.le_of_eq hg.symm)) hb);have n1_:=zA (Kd.N_below (Kd.N_elderB (by apply zN_;exact HO_11.out) gb267 (Nat.le_of_eq hg.symm)) hb);have n2_:=zA (Kd.V_below (Kd.V_elderB (by apply zV_;exact HL266_0.out) gb267 (Nat.le_of_eq hg.symm)) hb);have n3_:=zA (Kd.V_below (Kd.V_elderB (by apply zV_;exact HL266_1.out) gb267 (Nat.le_of_eq hg.symm)) hb);have n4_:=zA (zW (by repeat (first|(with_reducible exact HR266_0.out)|apply zC_|exact HR266_0.out)) hb);have n5_:=zA (zW (by repeat (first|(with_reducible exact HR266_1.out)|apply zC_|exact HR266_1.out)) hb);have n6_:=zA (zR (by exact zB_ HB.out) hb);have n7_:=zA (hbox);have n8_:=zA ((by rw [hg];exact (zQ (by exact zB_ HB.out)):w.heap.size≤gb267));have n9_:=zA ((by rw [hg];exact (zQ (by exact zB_ HB.out)):w.heap.size≤gb267));clear HO_5;clear HO_11;clear HL266_0;clear HL266_1;clear HR266_0;clear HR266_1;clear HB;have HO_5:=n0_;have HO_11:=n1_;have HL266_0:=n2_;have HL266_1:=n3_;have HR266_0:=n4_;have HR266_1:=n5_;have HB:=n6_;have BK267:=n7_;have GW267:=n8_;have GE267:=n9_;clear n0_ n1_ n2_ n3_ n4_ n5_ n6_ n7_ n8_ n9_;clear hb hbox hg;have hcz16_0:w15.cell? ⟨gb267,0,none⟩ = some (.slice none 0 0):=(zT BK267.out 0).trans rfl;have hcz16_1:w15.cell? ⟨gb267,1,none⟩ = some (.slice none 0 0):=(zT BK267.out 1).trans rfl;have hfz16_0:=zZ BK267.out 0;have hfz16_1:=zZ BK267.out 1))
      have n0_:Aside0 (Kd.N k33 33 ((w15.setCell ⟨gb267,0,none⟩ (.slice A266_0 ((rd_T33 t263 x13_1).f0).length c266_0)).setCell ⟨gb267,1,none⟩ (.slice A266_1 ((rd_T33 t263 x13_1).f1).length c266_1)) w.heap.size (fun k_=>(w.heap.size≤k_)∧some k_≠(.slice (some ad266) t263.length co7:Value).ownBlock∧k_≠gb267) u5 x5_1):=⟨by apply zN_;exact Kd.N_mono (Kd.N_far (p:=⟨gb267,1,none⟩) (Kd.N_far (p:=⟨gb267,0,none⟩) (Kd.N_mono HO_5.out (fun k_ hk=>(⟨hk,hk.2⟩:_∧k_≠gb267))) (fun _ hk=>hk.2) (.slice A266_0 ((rd_T33 t263 x13_1).f0).length c266_0)) (fun _ hk=>hk.2) (.slice A266_1 ((rd_T33 t263 x13_1).f1).length c266_1)) (fun _ hk=>⟨hk.1.1.1,⟨hk.1.1.2,hk.1.2⟩⟩)⟩
      have n1_:Aside0 (Kd.N k33 33 ((w15.setCell ⟨gb267,0,none⟩ (.slice A266_0 ((rd_T33 t263 x13_1).f0).length c266_0)).setCell ⟨gb267,1,none⟩ (.slice A266_1 ((rd_T33 t263 x13_1).f1).length c266_1)) w.heap.size (fun k_=>(w.heap.size≤k_)∧some k_≠(u5:Value).ownBlock∧k_≠gb267) (.slice (some ad266) t263.length co7) t263):=⟨by apply zN_;exact Kd.N_mono (Kd.N_far (p:=⟨gb267,1,none⟩) (Kd.N_far (p:=⟨gb267,0,none⟩) (Kd.N_mono HO_11.out (fun k_ hk=>(⟨hk,hk.2⟩:_∧k_≠gb267))) (fun _ hk=>hk.2) (.slice A266_0 ((rd_T33 t263 x13_1).f0).length c266_0)) (fun _ hk=>hk.2) (.slice A266_1 ((rd_T33 t263 x13_1).f1).length c266_1)) (fun _ hk=>⟨hk.1.1.1,⟨hk.1.1.2,hk.1.2⟩⟩)⟩
      have n2_:Aside0 (Kd.V (Kd.int .i64) 3 ((w15.setCell ⟨gb267,0,none⟩ (.slice A266_0 ((rd_T33 t263 x13_1).f0).length c266_0)).setCell ⟨gb267,1,none⟩ (.slice A266_1 ((rd_T33 t263 x13_1).f1).length c266_1)) w.heap.size (fun k_=>(w.heap.size≤k_)∧some k_≠(u5:Value).ownBlock∧some k_≠(.slice (some ad266) t263.length co7:Value).ownBlock∧k_≠gb267) (.slice A266_0 ((rd_T33 t263 x13_1).f0).length c266_0) ((rd_T33 t263 x13_1).f0)):=⟨by apply zV_;exact Kd.V_mono (Kd.V_far (p:=⟨gb267,1,none⟩) (Kd.V_far (p:=⟨gb267,0,none⟩) (Kd.V_mono HL266_0.out (fun k_ hk=>(⟨hk,hk.2⟩:_∧k_≠gb267))) (fun _ hk=>hk.2) (.slice A266_0 ((rd_T33 t263 x13_1).f0).length c266_0)) (fun _ hk=>hk.2) (.slice A266_1 ((rd_T33 t263 x13_1).f1).length c266_1)) (fun _ hk=>⟨hk.1.1.1.1,⟨hk.1.1.1.2,⟨hk.1.1.2,hk.1.2⟩⟩⟩)⟩
      have n3_:Aside0 (Kd.V (Kd.int .i64) 3 ((w15.setCell ⟨gb267,0,none⟩ (.slice A266_0 ((rd_T33 t263 x13_1).f0).length c266_0)).setCell ⟨gb267,1,none⟩ (.slice A266_1 ((rd_T33 t263 x13_1).f1).length c266_1)) w.heap.size (fun k_=>(w.heap.size≤k_)∧some k_≠(u5:Value).ownBlock∧some k_≠(.slice (some ad266) t263.length co7:Value).ownBlock∧k_≠gb267) (.slice A266_1 ((rd_T33 t263 x13_1).f1).length c266_1) ((rd_T33 t263 x13_1).f1)):=⟨by apply zV_;exact Kd.V_mono (Kd.V_far (p:=⟨gb267,1,none⟩) (Kd.V_far (p:=⟨gb267,0,none⟩) (Kd.V_mono HL266_1.out (fun k_ hk=>(⟨hk,hk.2⟩:_∧k_≠gb267))) (fun _ hk=>hk.2) (.slice A266_0 ((rd_T33 t263 x13_1).f0).length c266_0)) (fun _ hk=>hk.2) (.slice A266_1 ((rd_T33 t263 x13_1).f1).length c266_1)) (fun _ hk=>⟨hk.1.1.1.1,⟨hk.1.1.1.2,⟨hk.1.1.2,hk.1.2⟩⟩⟩)⟩
      have n4_:Aside0 (((w15.setCell ⟨gb267,0,none⟩ (.slice A266_0 ((rd_T33 t263 x13_1).f0).length c266_0)).setCell ⟨gb267,1,none⟩ (.slice A266_1 ((rd_T33 t263 x13_1).f1).length c266_1)).heap[gb267]? = some (.cells #[.slice A266_0 ((rd_T33 t263 x13_1).f0).length c266_0,.slice A266_1 ((rd_T33 t263 x13_1).f1).length c266_1] 33 (0,0))):=⟨by (with_reducible repeat (first|refine zG ?_ _|refine zI ?_|refine zH ?_ _));refine blk_put (cs:=#[.slice A266_0 ((rd_T33 t263 x13_1).f0).length c266_0,.slice none 0 0]) ?_ 1 _ rfl;(with_reducible repeat (first|refine zG ?_ _|refine zI ?_|refine zH ?_ _));refine blk_put (cs:=#[.slice none 0 0,.slice none 0 0]) ?_ 0 _ rfl;(with_reducible repeat (first|refine zG ?_ _|refine zI ?_|refine zH ?_ _));exact BK267.out⟩
      have n5_:Aside0 (Below w.heap.size w ((w15.setCell ⟨gb267,0,none⟩ (.slice A266_0 ((rd_T33 t263 x13_1).f0).length c266_0)).setCell ⟨gb267,1,none⟩ (.slice A266_1 ((rd_T33 t263 x13_1).f1).length c266_1))):=⟨by repeat (first|(with_reducible first|exact HB.out|apply zD|apply zB|apply zC|refine zF ?_ GE267.out)|exact HB.out)⟩
      (try clear HO_5);(try clear HO_11);(try clear HL266_0);(try clear HL266_1);(try clear BK267);(try clear HB)
      generalize ((w15.setCell ⟨gb267,0,none⟩ (.slice A266_0 ((rd_T33 t263 x13_1).f0).length c266_0)).setCell ⟨gb267,1,none⟩ (.slice A266_1 ((rd_T33 t263 x13_1).f1).length c266_1)) = w17 at n0_ n1_ n2_ n3_ n4_ n5_ ⊢
      have HO_5:=n0_
      have HO_11:=n1_
      have HL266_0:=n2_
      have HL266_1:=n3_
      have BK267:=n4_
      have HB:=n5_
      clear n0_ n1_ n2_ n3_ n4_ n5_
      have n0_:=zA (Kd.N_drew HO_5.out)
      have n1_:=zA (Kd.N_drew HO_11.out)
      have n2_:=zA (Kd.V_drew HL266_0.out)
      have n3_:=zA (Kd.V_drew HL266_1.out)
      have n4_:=zA (zI BK267.out)
      have n5_:=zA (zC HB.out)
      clear HO_5 HO_11 HL266_0 HL266_1 BK267 HB
      have HO_5:=n0_
      have HO_11:=n1_
      have HL266_0:=n2_
      have HL266_1:=n3_
      have BK267:=n4_
      have HB:=n5_
      clear n0_ n1_ n2_ n3_ n4_ n5_
      refine start_ (n:=5) (S:=fun w'=>w'.cell? ⟨gb267,0,none⟩ = some (.slice A266_0 ((rd_T33 t263 x13_1).f0).length c266_0)∧w'.cell? ⟨gb267,1,none⟩ = some (.slice A266_1 ((rd_T33 t263 x13_1).f1).length c266_1)) (ds:=[]) #[zf,zf,zf,zf,zf] (by kernel_rfl) rfl rfl ⟨(zT BK267.out 0).trans rfl,(zT BK267.out 1).trans rfl⟩ (fun hHeld=>?_)
      generalize w17.drew = w18 at HO_5 HO_11 HL266_0 HL266_1 BK267 HB hHeld ⊢
      refine take_ (i:=0) (N:=some 17) (v:=?_) (a':=?_) #[zt,zf,zf,zf,zf] rfl rfl (by kernel_rfl) (fun _ _ _ h=>h) (Or.inl ⟨by rfl,?_⟩) hHeld ?_ ?_
      rotate_left
      ·rintro w' ⟨s0,s1⟩
       go_simp
       with_reducible rfl
      rotate_left
      ·simp only [Act.put,zP_,i64_w]
       rfl
      refine take_ (i:=1) (N:=some 18) (v:=?_) (a':=?_) #[zt,zt,zf,zf,zf] rfl rfl (by kernel_rfl) (fun _ _ _ h=>h) (Or.inl ⟨by rfl,?_⟩) hHeld ?_ ?_
      rotate_left
      ·rintro w' ⟨s0,s1⟩
       go_simp
       with_reducible rfl
      rotate_left
      ·simp only [Act.put,zP_,i64_w]
       rfl
      refine one_ (i:=2) (N:=some 19) #[zt,zt,zt,zf,zf] rfl rfl (by kernel_rfl) (by decide) (fun K hK=>?_)
      refine goes_ Try.func63 (by kernel_rfl) rfl #[.agg #[.slice A266_0 ((rd_T33 t263 x13_1).f0).length c266_0,.slice A266_1 ((rd_T33 t263 x13_1).f1).length c266_1]] (by rfl) rfl rfl (by (try simp only [zJ,zM,zN]);first|done|rfl|(simp only [zL,zK];rfl)) ?_
      with_reducible refine (impl_leastForm.calls k1 _ _ ((rd_T33 t263 x13_1).f0) _ _ ((rd_T33 t263 x13_1).f1) t268 t271 _ ?side1 ?side2 ?side3 ?side4 A11.out).mono ?_
      (case side1=>repeat (first|exact ((zk (by apply zV_;exact HL266_0.out)).2.2)|apply zC_))
      (case side2=>exact HC266_0.out)
      (case side3=>repeat (first|exact ((zk (by apply zV_;exact HL266_1.out)).2.2)|apply zC_))
      (case side4=>exact HC266_1.out)
      rintro e w19 ⟨v269,v272,rfl,ho0,ho1,hb⟩
      refine ⟨_,rfl,?_⟩
      have n0_:=zA (Kd.N_mono (Kd.N_told (Kd.N_told (Kd.N_old (by apply zN_;exact HO_5.out) hb) (zd ho0)) (zd ho1)) (fun _ h_=>h_.1))
      have n1_:=zA (Kd.N_mono (Kd.N_told (Kd.N_told (Kd.N_old (by apply zN_;exact HO_11.out) hb) (zd ho0)) (zd ho1)) (fun _ h_=>h_.1))
      have n2_:=zA (Kd.V_mono (Kd.V_told (Kd.V_told (Kd.V_old (by apply zV_;exact HL266_0.out) hb) (zd ho0)) (zd ho1)) (fun _ h_=>h_.1))
      have n3_:=zA (Kd.V_mono (Kd.V_told (Kd.V_told (Kd.V_old (by apply zV_;exact HL266_1.out) hb) (zd ho0)) (zd ho1)) (fun _ h_=>h_.1))
      have n4_:=zA (ze (Kd.R_newM (M:=fun k_=>(w.heap.size≤k_)) ho0 (zQ (by repeat (first|(with_reducible first|exact HB.out|apply zD|apply zB|apply zC|refine zF ?_ GE267.out)|exact HB.out))) (fun k_ h_=>h_)) (zQ (by repeat (first|(with_reducible first|exact HB.out|apply zD|apply zB|apply zC|refine zF ?_ GE267.out)|exact HB.out))))
      have n5_:=zA (ze (Kd.R_newM (M:=fun k_=>(w.heap.size≤k_)) ho1 (zQ (by repeat (first|(with_reducible first|exact HB.out|apply zD|apply zB|apply zC|refine zF ?_ GE267.out)|exact HB.out))) (fun k_ h_=>h_)) (zQ (by repeat (first|(with_reducible first|exact HB.out|apply zD|apply zB|apply zC|refine zF ?_ GE267.out)|exact HB.out))))
      have n6_:=zA (zX (g:=gb267) (o:=.cells #[.slice A266_0 ((rd_T33 t263 x13_1).f0).length c266_0,.slice A266_1 ((rd_T33 t263 x13_1).f1).length c266_1] 33 (0,0)) (by (with_reducible repeat (first|refine zG ?_ _|refine zI ?_|refine zH ?_ _));exact BK267.out) hb)
      have n7_:=zA (zR (by repeat (first|(with_reducible first|exact HB.out|apply zD|apply zB|apply zC|refine zF ?_ GE267.out)|exact HB.out)) hb)
      clear HO_5 HO_11 HL266_0 HL266_1 BK267 HB
      have HO_5:=n0_
      have HO_11:=n1_
      have HL266_0:=n2_
      have HL266_1:=n3_
      have HO270:=n4_
      have HO273:=n5_
      have BK267:=n6_
      have HB:=n7_
      clear n0_ n1_ n2_ n3_ n4_ n5_ n6_ n7_
      (try clear hb);(try clear hb2);(try clear hk);(try clear hi);(try clear ho0);(try clear ho1)
      obtain ⟨Ao20,co20,eo20⟩:=zg HO270.out
      (first|subst eo20|(injection eo20 with f1_ f2_ f3_;have f4_:=f1_.symm;have f5_:=f3_.symm;clear f1_ f2_ f3_;subst f4_;subst f5_))
      obtain ⟨Ao21,co21,eo21⟩:=zg HO273.out
      (first|subst eo21|(injection eo21 with f1_ f2_ f3_;have f4_:=f1_.symm;have f5_:=f3_.symm;clear f1_ f2_ f3_;subst f4_;subst f5_))
      refine hK.out _ _ ⟨(zT BK267.out 0).trans rfl,(zT BK267.out 1).trans rfl⟩ (fun hHeld=>?_)
      clear hK K
      refine norm_ (a':=?_) ?_ ?_
      rotate_left
      ·show Act.put _ (some 19) _ = _
       simp only [Act.put,zP_,i64_w]
       rfl
      refine one_ (i:=3) (N:=some 20) #[zt,zt,zt,zt,zf] rfl rfl (by kernel_rfl) (by decide) (fun K hK=>?_)
      refine goes_ Try.func62 (by kernel_rfl) rfl #[.agg #[.slice A266_0 ((rd_T33 t263 x13_1).f0).length c266_0,.slice A266_1 ((rd_T33 t263 x13_1).f1).length c266_1],.agg #[.slice Ao20 t268.length co20,.slice Ao21 t271.length co21]] (by rfl) rfl rfl (by (try simp only [zJ,zM,zN]);first|done|rfl|(simp only [zL,zK];rfl)) ?_
      with_reducible refine (impl_compareMaps.calls k1 _ _ ((rd_T33 t263 x13_1).f0) _ _ ((rd_T33 t263 x13_1).f1) _ _ t268 _ _ t271 t274 _ ?side1 ?side2 ?side3 ?side4 ?side5 ?side6 ?side7 ?side8 A12.out).mono ?_
      (case side1=>repeat (first|exact ((zk (by apply zV_;exact HL266_0.out)).2.2)|apply zC_))
      (case side2=>exact HC266_0.out)
      (case side3=>repeat (first|exact ((zk (by apply zV_;exact HL266_1.out)).2.2)|apply zC_))
      (case side4=>exact HC266_1.out)
      (case side5=>repeat (first|exact (zU HO270.out).2.2|apply zC_))
      (case side6=>exact (zU HO270.out).2.1)
      (case side7=>repeat (first|exact (zU HO273.out).2.2|apply zC_))
      (case side8=>exact (zU HO273.out).2.1)
      rintro e w22 ⟨rfl,hb⟩
      refine ⟨_,rfl,?_⟩
      have n0_:=zA (Kd.N_below (by apply zN_;exact HO_5.out) hb)
      have n1_:=zA (Kd.N_below (by apply zN_;exact HO_11.out) hb)
      have n2_:=zA (Kd.V_below (by apply zV_;exact HL266_0.out) hb)
      have n3_:=zA (Kd.V_below (by apply zV_;exact HL266_1.out) hb)
      have n4_:=zA (zj (by apply zR_;exact HO270.out) hb)
      have n5_:=zA (zj (by apply zR_;exact HO273.out) hb)
      have n6_:=zA (zX (g:=gb267) (o:=.cells #[.slice A266_0 ((rd_T33 t263 x13_1).f0).length c266_0,.slice A266_1 ((rd_T33 t263 x13_1).f1).length c266_1] 33 (0,0)) (by (with_reducible repeat (first|refine zG ?_ _|refine zI ?_|refine zH ?_ _));exact BK267.out) hb)
      have n7_:=zA (zR (by repeat (first|(with_reducible first|exact HB.out|apply zD|apply zB|apply zC|refine zF ?_ GE267.out)|exact HB.out)) hb)
      clear HO_5 HO_11 HL266_0 HL266_1 HO270 HO273 BK267 HB
      have HO_5:=n0_
      have HO_11:=n1_
      have HL266_0:=n2_
      have HL266_1:=n3_
      have HO270:=n4_
      have HO273:=n5_
      have BK267:=n6_
      have HB:=n7_
      clear n0_ n1_ n2_ n3_ n4_ n5_ n6_ n7_
      (try clear hb);(try clear hb2);(try clear hk);(try clear hi)
      refine hK.out _ _ ⟨(zT BK267.out 0).trans rfl,(zT BK267.out 1).trans rfl⟩ (fun hHeld=>?_)
      clear hK K
      refine norm_ (a':=?_) ?_ ?_
      rotate_left
      ·show Act.put _ (some 20) _ = _
       simp only [Act.put,zP_,i64_w]
       rfl
      refine pure_ (i:=4) (N:=some 21) (v:=?_) (a':=?_) #[zt,zt,zt,zt,zt] rfl rfl (by kernel_rfl) (fun _ _ _ h=>h) (Or.inl ⟨by rfl,?_⟩) ?_ ?_
      rotate_left
      ·intro w'
       go_simp
       with_reducible rfl
      rotate_left
      ·simp only [Act.put,zP_,i64_w]
       rfl
      refine done_ (by kernel_rfl) ?_
      have H:=H9_.out
      clear H9_
      by_cases c13:t274 = 0
      ·rw [if_pos c13] at H
       have c13b0:(t274 == 0) = true:=beq_iff_eq.mpr c13
       have c13b1:(t274 != 0) = false:=bne_eq_false_iff_eq.mpr c13
       clear c13
       try rw [c13b0]
       by_cases c14:x5_1.length < 2932031007402
       ·rw [if_pos c14] at H
        have LMc14:=zA c14
        clear c14
        obtain ⟨y275,hy275⟩:∃ y_:List (S33),y_ = (x5_1 ++ [(⟨(rd_T33 t263 x13_1).f0,(rd_T33 t263 x13_1).f1⟩:S33)]):=⟨_,rfl⟩
        replace H:(impl_rootless.l0 k1 y275 t263 (t263.length:Int) (wrap64 (x13_1+1))) = some r:=by (try rw [hy275]);first|with_reducible exact H|with_reducible exact zS_ H|exact H
        have Ny275:=zA hy275
        clear hy275
        have H':=zA H
        clear H
        have hcz23_0:w22.cell? ⟨gb267,0,none⟩ = some (.slice A266_0 ((rd_T33 t263 x13_1).f0).length c266_0):=(zT BK267.out 0).trans rfl
        have hcz23_1:w22.cell? ⟨gb267,1,none⟩ = some (.slice A266_1 ((rd_T33 t263 x13_1).f1).length c266_1):=(zT BK267.out 1).trans rfl
        have hfz23_0:=zZ BK267.out 0
        have hfz23_1:=zZ BK267.out 1
        try go_wp2_with (first|((with_reducible refine gate_builtin (b:=.append) (xs:=#[.tmp 22,.tmp 24]) rfl ?_);at_builtin;refine Kd.N_append k33 (w0:=w) w.heap.size rfl (.tmp 22) (.tmp 24) 27 33 (.agg #[(.slice none 0 0),(.slice none 0 0)]) 48 rfl Try.underlying27 info33 rfl (by decide) (by omega) u5 x5_1 (⟨(rd_T33 t263 x13_1).f0,(rd_T33 t263 x13_1).f1⟩:S33) [.slice A266_0 ((rd_T33 t263 x13_1).f0).length c266_0,.slice A266_1 ((rd_T33 t263 x13_1).f1).length c266_1] (fun k_=>(w.heap.size≤k_)∧some k_≠(.slice (some ad266) t263.length co7:Value).ownBlock∧some k_≠(.slice Ao20 t268.length co20:Value).ownBlock∧some k_≠(.slice Ao21 t271.length co21:Value).ownBlock∧k_≠gb267) (fun k_=>((fun k_=>(w.heap.size≤k_)∧some k_≠(.slice (some ad266) t263.length co7:Value).ownBlock∧some k_≠(.slice Ao20 t268.length co20:Value).ownBlock∧some k_≠(.slice Ao21 t271.length co21:Value).ownBlock∧k_≠gb267)) k_∧some k_≠(u5:Value).ownBlock) rfl rfl ?aP (fun _ hk=>hk) ?aF ?aO ?aB ?aS ?aL ?_;(case aP=>exact (k33_mkF _ _ (⟨(rd_T33 t263 x13_1).f0,(rd_T33 t263 x13_1).f1⟩:S33) (zk (Kd.V_mono (ok':=(fun k_=>((fun k_=>(w.heap.size≤k_)∧some k_≠(.slice (some ad266) t263.length co7:Value).ownBlock∧some k_≠(.slice Ao20 t268.length co20:Value).ownBlock∧some k_≠(.slice Ao21 t271.length co21:Value).ownBlock∧k_≠gb267)) k_∧some k_≠(u5:Value).ownBlock)) (HL266_0.out) (fun k_ hk=>⟨⟨hk.1.1.1,⟨hk.1.1.2.2.1,⟨hk.1.2,⟨hk.2,hk.1.1.2.2.2⟩⟩⟩⟩,hk.1.1.2.1⟩))).2.1 (Kd.V_F (Kd.V_mono (ok':=(fun k_=>((fun k_=>(w.heap.size≤k_)∧some k_≠(.slice (some ad266) t263.length co7:Value).ownBlock∧some k_≠(.slice Ao20 t268.length co20:Value).ownBlock∧some k_≠(.slice Ao21 t271.length co21:Value).ownBlock∧k_≠gb267)) k_∧some k_≠(u5:Value).ownBlock)) (HL266_0.out) (fun k_ hk=>⟨⟨hk.1.1.1,⟨hk.1.1.2.2.1,⟨hk.1.2,⟨hk.2,hk.1.1.2.2.2⟩⟩⟩⟩,hk.1.1.2.1⟩))) (zk (Kd.V_mono (ok':=(fun k_=>((fun k_=>(w.heap.size≤k_)∧some k_≠(.slice (some ad266) t263.length co7:Value).ownBlock∧some k_≠(.slice Ao20 t268.length co20:Value).ownBlock∧some k_≠(.slice Ao21 t271.length co21:Value).ownBlock∧k_≠gb267)) k_∧some k_≠(u5:Value).ownBlock)) (HL266_1.out) (fun k_ hk=>⟨⟨hk.1.1.1,⟨hk.1.1.2.2.1,⟨hk.1.2,⟨hk.2,hk.1.1.2.2.2⟩⟩⟩⟩,hk.1.1.2.1⟩))).2.1 (Kd.V_F (Kd.V_mono (ok':=(fun k_=>((fun k_=>(w.heap.size≤k_)∧some k_≠(.slice (some ad266) t263.length co7:Value).ownBlock∧some k_≠(.slice Ao20 t268.length co20:Value).ownBlock∧some k_≠(.slice Ao21 t271.length co21:Value).ownBlock∧k_≠gb267)) k_∧some k_≠(u5:Value).ownBlock)) (HL266_1.out) (fun k_ hk=>⟨⟨hk.1.1.1,⟨hk.1.1.2.2.1,⟨hk.1.2,⟨hk.2,hk.1.1.2.2.2⟩⟩⟩⟩,hk.1.1.2.1⟩)))));(case aB=>exact (by repeat (first|(with_reducible first|exact HB.out|apply zD|apply zB|apply zC|refine zF ?_ GE267.out)|exact HB.out)));(case aF=>exact (fun k_ hk=>⟨(Nat.le_trans (zQ (by repeat (first|(with_reducible first|exact HB.out|apply zD|apply zB|apply zC|refine zF ?_ GE267.out)|exact HB.out))) hk),Kd.fresh' (Kd.N_lt (by apply zN_;exact HO_11.out)) k_ hk,Kd.fresh' (Kd.R_lt (by apply zR_;exact HO270.out)) k_ hk,Kd.fresh' (Kd.R_lt (by apply zR_;exact HO273.out)) k_ hk,Kd.freshB (g:=gb267) (o:=.cells #[.slice A266_0 ((rd_T33 t263 x13_1).f0).length c266_0,.slice A266_1 ((rd_T33 t263 x13_1).f1).length c266_1] 33 (0,0)) (by (with_reducible repeat (first|refine zG ?_ _|refine zI ?_|refine zH ?_ _));exact BK267.out) k_ hk⟩));(case aO=>exact (by apply zN_;exact Kd.N_mono HO_5.out (fun _ hk=>⟨hk.1.1.1,⟨hk.1.1.2.1,⟨hk.1.2,⟨hk.2,hk.1.1.2.2⟩⟩⟩⟩)));(case aS=>exact (zQ (by repeat (first|(with_reducible first|exact HB.out|apply zD|apply zB|apply zC|refine zF ?_ GE267.out)|exact HB.out))));(case aL=>have:=LMc14.out;omega);intro v276 w24 ho hb hg hat;rw [← Ny275.out] at ho;have n0_:=zA (Kd.N_afterv (ok:=(fun k_=>(w.heap.size≤k_)∧some k_≠(.slice Ao20 t268.length co20:Value).ownBlock∧some k_≠(.slice Ao21 t271.length co21:Value).ownBlock∧k_≠gb267)) (by apply zN_;exact Kd.N_mono HO_11.out (fun _ hk=>⟨⟨hk.1.1.1,⟨hk.1.2,⟨hk.2,hk.1.1.2.2⟩⟩⟩,hk.1.1.2.1⟩)) hg hat);have n1_:=zA (Kd.V_afterv (ok:=(fun k_=>(w.heap.size≤k_)∧some k_≠(.slice (some ad266) t263.length co7:Value).ownBlock∧some k_≠(.slice Ao20 t268.length co20:Value).ownBlock∧some k_≠(.slice Ao21 t271.length co21:Value).ownBlock∧k_≠gb267)) (by apply zV_;exact Kd.V_mono HL266_0.out (fun _ hk=>⟨⟨hk.1.1.1,⟨hk.1.1.2.2.1,⟨hk.1.2,⟨hk.2,hk.1.1.2.2.2⟩⟩⟩⟩,hk.1.1.2.1⟩)) hg hat);have n2_:=zA (Kd.V_afterv (ok:=(fun k_=>(w.heap.size≤k_)∧some k_≠(.slice (some ad266) t263.length co7:Value).ownBlock∧some k_≠(.slice Ao20 t268.length co20:Value).ownBlock∧some k_≠(.slice Ao21 t271.length co21:Value).ownBlock∧k_≠gb267)) (by apply zV_;exact Kd.V_mono HL266_1.out (fun _ hk=>⟨⟨hk.1.1.1,⟨hk.1.1.2.2.1,⟨hk.1.2,⟨hk.2,hk.1.1.2.2.2⟩⟩⟩⟩,hk.1.1.2.1⟩)) hg hat);have n3_:=zA (blk_grown (g:=gb267) (o:=.cells #[.slice A266_0 ((rd_T33 t263 x13_1).f0).length c266_0,.slice A266_1 ((rd_T33 t263 x13_1).f1).length c266_1] 33 (0,0)) (by (with_reducible repeat (first|refine zG ?_ _|refine zI ?_|refine zH ?_ _));exact BK267.out) hg (Kd.N_away HO_5.out (fun _ hk=>hk.1.1.2.2)));have n4_:=zA (Kd.R_over' (by apply zR_;exact HO270.out) (Kd.N_typed (by apply zN_;exact HO_5.out)) (by decide) hg);have n5_:=zA (Kd.R_over' (by apply zR_;exact HO273.out) (Kd.N_typed (by apply zN_;exact HO_5.out)) (by decide) hg);have n6_:=zA (hb);have n7_:=zA (ho);clear HO_11;clear HL266_0;clear HL266_1;clear BK267;clear HO270;clear HO273;clear HB;clear HO_5;have HO_11:=n0_;have HL266_0:=n1_;have HL266_1:=n2_;have BK267:=n3_;have HO270:=n4_;have HO273:=n5_;have HB:=n6_;have HO277:=n7_;clear n0_ n1_ n2_ n3_ n4_ n5_ n6_ n7_;clear ho hb hg hat))
        go_roundg k1
        case measure=>have:=HK1.out;omega
        case rel=>exact ⟨(y275),(wrap64 (x13_1+1)),(by first|rfl|(simp;done)|(simp [*];done)),H',⟨by have:=HK1.out;omega⟩,⟨by apply zN_;exact Kd.N_mono HO277.out (fun _ hk=>⟨hk.1,hk.2.1⟩)⟩,⟨by apply zN_;exact Kd.N_mono HO_11.out (fun _ hk=>⟨hk.1.1,hk.2⟩)⟩,⟨by repeat (first|(with_reducible first|exact HB.out|apply zD|apply zB|apply zC|refine zF ?_ GE267.out)|exact HB.out)⟩⟩
       ·rw [if_neg c14] at H
        exact absurd H (by simp)
      ·rw [if_neg c13] at H
       have c13b0:(t274 == 0) = false:=beq_eq_false_iff_ne.mpr c13
       have c13b1:(t274 != 0) = true:=bne_iff_ne.mpr c13
       have H':=zA H
       clear H
       try go_wp2
       go_roundg k1
       case measure=>have:=HK1.out;omega
       case rel=>exact ⟨(x5_1),(wrap64 (x13_1+1)),(by first|rfl|(simp;done)|(simp [*];done)),H',⟨by have:=HK1.out;omega⟩,⟨by apply zN_;exact Kd.N_mono HO_5.out (fun _ hk=>⟨hk.1.1.1,hk.1.1.2.1⟩)⟩,⟨by apply zN_;exact Kd.N_mono HO_11.out (fun _ hk=>⟨hk.1.1.1,hk.1.1.2.1⟩)⟩,⟨by repeat (first|(with_reducible first|exact HB.out|apply zD|apply zB|apply zC|refine zF ?_ GE267.out)|exact HB.out)⟩⟩
     ·rw [if_neg c10] at H
      exact absurd H (by simp)
    ·rw [if_neg c9] at H
     exact absurd H (by simp)
   ·rw [if_neg c8] at H
    have c8b0:decide (x13_1 < (t263.length:Int)) = false:=zP c8
    clear c8
    obtain rfl:=zS H
    go_wp2
    go_ret
    exact ⟨_,by first|rfl|(simp [errW_none,errW_some] <;> rfl)|(simp [*,errW_none,errW_some] <;> rfl),by apply zN_;exact Kd.N_mono HO_5.out (fun _ hk=>hk.1),by exact zB_ HB.out⟩

end Go.Proofs.Ytdaiohcgdpclnaa.Q
