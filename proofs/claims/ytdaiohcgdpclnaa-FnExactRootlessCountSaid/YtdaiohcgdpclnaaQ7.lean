import Derived.Test.YtdaiohcgdpclnaaQ0
import Derived.Test.YtdaiohcgdpclnaaQ14
import Derived.Test.YtdaiohcgdpclnaaQ5
import Derived.Test.YtdaiohcgdpclnaaQ6
import Derived.Test.YtdaiohcgdpclnaaZ
namespace Go.Proofs.Ytdaiohcgdpclnaa.Q
open Go.RowKit Go.Proofs.YtdaiohcgdpclnaaW.PrintWords Go.Proofs.YtdaiohcgdpclnaaW.PrintLast Go.Proofs.YtdaiohcgdpclnaaW.PrintMore
attribute [local go_sem] max2_int min2_int max_two min_two max_three min_three max_four min_four   -- for this text's walks alone
set_option linter.unusedVariables false
set_option linter.unusedSimpArgs false

/-! ### impl_rootless: function 39 -/
def impl_rootless.l0:Nat→List (S33)→List (S33)→Int→Int→Option ((List (S33)))
 | 0,_,_,_,_=>none
 | k+1,x5,x11,x12,x13=>if x13 < x12 then (if 0≤x13 then (if x13 < (x11.length:Int) then ((impl_leastForm.f k ((rd_T33 x11 x13).f0) ((rd_T33 x11 x13).f1)).bind fun bt268=>((impl_compareMaps.f k ((rd_T33 x11 x13).f0) ((rd_T33 x11 x13).f1) bt268.1 bt268.2).bind fun t274=>(if t274 = 0 then (if x5.length < 2932031007402 then (impl_rootless.l0 k (x5 ++ [(⟨(rd_T33 x11 x13).f0,(rd_T33 x11 x13).f1⟩:S33)]) x11 x12 (wrap64 (x13+1))) else (none)) else (impl_rootless.l0 k x5 x11 x12 (wrap64 (x13+1)))))) else (none)) else (none)) else (some x5)
def impl_rootless.f (k:Nat) (a0:Int) (a1:Int):Option ((List (S33))):=(impl_rooted.f a0 a1).bind fun t263=>(impl_rootless.l0 k (([]:List (S33))) t263 (t263.length:Int) 0)
theorem impl_rootless.mono_l:∀ k,(∀ y0 y1 y2 y3,LeO (impl_rootless.l0 k y0 y1 y2 y3) (impl_rootless.l0 (k+1) y0 y1 y2 y3))
 | 0=>fun _ _ _ _ r h=>by simp [impl_rootless.l0] at h
 | k+1=>by
  have ih0:=impl_rootless.mono_l k
  ·intro y0 y1 y2 y3
   unfold impl_rootless.l0
   repeat' first
   | (with_reducible exact ih0 _ _ _ _)
   | (with_reducible exact impl_compareMaps.mono _ _ _ _ _)
   | (with_reducible exact impl_leastForm.mono _ _ _)
   | (with_reducible exact LeO.refl _)
   | (with_reducible exact zm _)
   | (with_reducible refine zo ?_ ?_)
   | (with_reducible refine zn ?_ (fun _=>?_))
   | exact ih0 _ _ _ _
   | exact impl_compareMaps.mono _ _ _ _ _
   | exact impl_leastForm.mono _ _ _
   | exact zm _
   | refine zo ?_ ?_
   | refine zn ?_ (fun _=>?_)
theorem impl_rootless.mono:∀ a0 a1 k,LeO (impl_rootless.f k a0 a1) (impl_rootless.f (k+1) a0 a1):=by
 intro a0 a1 k
 have ih0:=impl_rootless.mono_l k
 unfold impl_rootless.f
 repeat' first
   | (with_reducible exact ih0 _ _ _ _)
   | (with_reducible exact impl_compareMaps.mono _ _ _ _ _)
   | (with_reducible exact impl_leastForm.mono _ _ _)
   | (with_reducible exact LeO.refl _)
   | (with_reducible exact zm _)
   | (with_reducible refine zo ?_ ?_)
   | (with_reducible refine zn ?_ (fun _=>?_))
   | exact ih0 _ _ _ _
   | exact impl_compareMaps.mono _ _ _ _ _
   | exact impl_leastForm.mono _ _ _
   | exact zm _
   | refine zo ?_ ?_
   | refine zn ?_ (fun _=>?_)
set_option maxHeartbeats 8000000 in
set_option maxRecDepth 100000 in
theorem impl_rootless.calls (k:Nat) (a0:Int) (a1:Int) (r:List (S33)) (w:World) (h:impl_rootless.f k a0 a1 = some r) :
  Calls Try.prog 39 #[.int .i64 a0,.int .i64 a1] w fun e w' => ∃ v0_:Value,e = .returned (v0_)∧Kd.N k33 33 w' w.heap.size (fun k_=>(w.heap.size≤k_)) v0_ r∧Below w.heap.size w w':=by
 have hu33:=Try.underlying33
 have HB:=zA (Below.refl w.heap.size w)
 have H:((impl_rooted.f a0 a1).bind fun t263=>(impl_rootless.l0 k (([]:List (S33))) t263 (t263.length:Int) 0)) = some r:=h
 clear h
 obtain ⟨y260,hy260⟩:∃ y_:List (S33),y_ = (([]:List (S33))):=⟨_,rfl⟩
 replace H:((impl_rooted.f a0 a1).bind fun t263=>(impl_rootless.l0 k y260 t263 (t263.length:Int) 0)) = some r:=by first|(rw [hy260];with_reducible exact H)|(have H2_:=(Option.bind_some _ _).symm.trans H;rw [hy260];with_reducible exact H2_)|(have H2_:=(Option.bind_some _ _).symm.trans H;with_reducible exact H2_)|with_reducible exact H|(rw [hy260];exact H)|exact H
 have Ny260:=zA hy260
 clear hy260
 replace H:=zz0 H
 obtain ⟨t263,A30,H⟩:=H
 replace H:(impl_rootless.l0 k y260 t263 (t263.length:Int) 0) = some r:=H
 have A3:=zA A30
 clear A30
 have H':=zA H
 clear H
 go_enter Try.func39,Try.ntmps39
 go_wp2_with (first|((with_reducible refine gate_dst (N:=8) rfl ?_);refine Kd.N_lit k33 _ 33 ?hg (N':=8) ?hd (xs:=([]:List (S33))) (inner:=[]) (ok:=(fun k_=>(w.heap.size≤k_))) (okp:=(fun k_=>(w.heap.size≤k_))) ?hr ?hp (fun _ hk=>hk) ((show ∀ k_,w.heap.size≤k_→(fun k_=>(w.heap.size≤k_)) k_ from fun k_ hk=>(Nat.le_trans (zZ (by repeat (first|(with_reducible first|exact HB.out|apply zD|apply zB|apply zC)|exact HB.out))) hk)) _ (Nat.le_refl _)) (Below.refl _ _) (Nat.le_refl _) (by simp) ?_;(case hd=>rfl);(case hg=>rfl);(case hr=>first|(go_simp;done)|(go_simp;rfl));(case hp=>exact (Reps.none _ _));intro v261 w4 ho5 hb hg_ hnew_;clear hg_ hnew_;(first|rw [← Ny260.out] at ho5|(simp only [Int.reduceToNat] at ho5;rw [← Ny260.out] at ho5));have n0_:=zA (Kd.N_lower ho5 (zZ (by repeat (first|(with_reducible first|exact HB.out|apply zD|apply zB|apply zC)|exact HB.out))));have n1_:=zA (za (by repeat (first|(with_reducible first|exact HB.out|apply zD|apply zB|apply zC)|exact HB.out)) hb);clear HB;have HO262:=n0_;have HB:=n1_;clear n0_ n1_;clear hb ho5)|((with_reducible refine gate_callee (f:=42) rfl ?_);refine goesL_ (some 11) rfl rfl Try.func42 (by kernel_rfl) rfl #[.int .i64 a0,.int .i64 a1] rfl (by (try simp only [zP,zS,zT]);first|done|rfl|(simp only [zR,zQ];rfl)) ?_;(with_reducible refine (impl_rooted.calls a0 a1 t263 _ A3.out).mono ?_);rintro e w6 ⟨v264,rfl,ho0,hb⟩;refine ⟨_,rfl,?_⟩;have n0_:=zA (Kd.N_elder' (by (with_reducible repeat (first|apply Kd.N_alloc|apply Kd.N_drewN|apply Kd.N_drew));exact HO262.out) (Kd.N_base (Kd.S_N (Kd.S_bound ho0))) hb);have n1_:=zA (Kd.N_lower (Kd.N_mono (ok':=fun k_=>(w.heap.size≤k_)∧some k_≠(v261:Value).ownBlock) (Kd.S_N (Kd.S_bound ho0)) (fun k_ hk_=>⟨(Nat.le_trans (zZ (by repeat (first|(with_reducible first|exact HB.out|apply zD|apply zB|apply zC)|exact HB.out))) hk_.2.1),(Kd.fresh' (Kd.N_lt (by (with_reducible repeat (first|apply Kd.N_alloc|apply Kd.N_drewN|apply Kd.N_drew));exact HO262.out)) k_ hk_.2.1)⟩)) (zZ (by repeat (first|(with_reducible first|exact HB.out|apply zD|apply zB|apply zC)|exact HB.out))));have n2_:=zA (za (by repeat (first|(with_reducible first|exact HB.out|apply zD|apply zB|apply zC)|exact HB.out)) hb);clear HO262;clear HB;have HO262:=n0_;have HO265:=n1_;have HB:=n2_;clear n0_ n1_ n2_;(try clear hb);(try clear hb2);(try clear hk);(try clear hi);(try clear ho0);obtain ⟨Ao7,co7,eo7⟩:=Kd.N_slice HO265.out;subst eo7))
 go_loopg [5,13] k (fun kq v5 v13 w' => ∃ (x5_1:List (S33)) (x13_1:Int),v13 = .int .i64 x13_1∧Aside0 (impl_rootless.l0 kq x5_1 t263 (t263.length:Int) x13_1 = some r)∧Aside0 (kq≤k)∧Aside0 (Kd.N k33 33 w' w.heap.size (fun k_=>(w.heap.size≤k_)∧some k_≠((.slice Ao7 t263.length co7):Value).ownBlock) v5 x5_1)∧Aside0 (Kd.N k33 33 w' w.heap.size (fun k_=>(w.heap.size≤k_)∧some k_≠(v5:Value).ownBlock) (.slice Ao7 t263.length co7) t263)∧Aside0 (Below w.heap.size w w'))
 case atStart=>exact ⟨(y260),(0),(by first|rfl|(simp;done)|(simp [*];done)),H',⟨Nat.le_refl _⟩,⟨by (with_reducible repeat (first|apply Kd.N_alloc|apply Kd.N_drewN|apply Kd.N_drew));exact HO262.out⟩,⟨by (with_reducible repeat (first|apply Kd.N_alloc|apply Kd.N_drewN|apply Kd.N_drew));exact HO265.out⟩,⟨by repeat (first|(with_reducible first|exact HB.out|apply zD|apply zB|apply zC)|exact HB.out)⟩⟩
 case round =>
  clear H'
  try clear p2
  try clear c3
  try clear c4
  obtain ⟨x5_1,x13_1,rfl,HA,HK1,HO_5,HO_11,HB⟩:=hrel
  cases gk with
  | zero=>exact absurd HA.out (by simp [impl_rootless.l0])
  | succ k1 =>
   have H:=HA.out
   clear HA
   simp only [impl_rootless.l0] at H
   by_cases c8:x13_1 < (t263.length:Int)
   ·rw [if_pos c8] at H
    have c8b0:decide (x13_1 < (t263.length:Int)) = true:=zU c8
    clear c8
    by_cases c9:0≤x13_1
    ·rw [if_pos c9] at H
     have c9b0:decide (0≤x13_1) = true:=zU c9
     clear c9
     by_cases c10:x13_1 < (t263.length:Int)
     ·rw [if_pos c10] at H
      have c10b0:decide (x13_1 < (t263.length:Int)) = true:=zU c10
      clear c10
      replace H:=zz0 H
      obtain ⟨⟨t268,t271⟩,A110,H⟩:=H
      replace H:((impl_compareMaps.f k1 ((rd_T33 t263 x13_1).f0) ((rd_T33 t263 x13_1).f1) t268 t271).bind fun t274=>(if t274 = 0 then (if x5_1.length < 2932031007402 then (impl_rootless.l0 k1 (x5_1 ++ [(⟨(rd_T33 t263 x13_1).f0,(rd_T33 t263 x13_1).f1⟩:S33)]) t263 (t263.length:Int) (wrap64 (x13_1+1))) else (none)) else (impl_rootless.l0 k1 x5_1 t263 (t263.length:Int) (wrap64 (x13_1+1))))) = some r:=H
      have A11:=zA A110
      clear A110
      replace H:=zz0 H
      obtain ⟨t274,A120,H⟩:=H
      replace H:(if t274 = 0 then (if x5_1.length < 2932031007402 then (impl_rootless.l0 k1 (x5_1 ++ [(⟨(rd_T33 t263 x13_1).f0,(rd_T33 t263 x13_1).f1⟩:S33)]) t263 (t263.length:Int) (wrap64 (x13_1+1))) else (none)) else (impl_rootless.l0 k1 x5_1 t263 (t263.length:Int) (wrap64 (x13_1+1)))) = some r:=H
      have A12:=zA A120
      clear A120
      have H9_:=zA H
      clear H
      have p266:0≤(x13_1:Int):=zF (by first|(with_reducible assumption)|assumption)
      have q266:x13_1 < (t263.length:Int):=zF (by first|(with_reducible assumption)|assumption)
      obtain ⟨ad266,A266_0,c266_0,A266_1,c266_1,e266,hx266_0,hx266_1,hl266_0,hi266_0,hl266_1,hi266_1⟩:=at_T33 (Kd.N_reads' HO_11.out).2.2 x13_1 p266 q266
      cases e266
      obtain ⟨ce266,hce266,hMe266,hcc266⟩:=Kd.N_get HO_11.out z33 x13_1 p266 (by first|exact q266|exact zF (by first|(with_reducible assumption)|assumption)|(have e_:=(Kd.N_reads' HO_11.out).1;omega))
      obtain ⟨ua266_0,uc266_0,ua266_1,uc266_1,rfl,ul266_0,ge266_0,ul266_1,ge266_1⟩:=k33_openF hMe266
      have hv266_0:=hcc266 0 _ rfl
      rw [Nat.add_zero] at hv266_0
      replace hv266_0:=zb (hv266_0.symm.trans hx266_0)
      injection hv266_0 with hva_ hvn_ hvc_
      rw [hva_] at ge266_0
      rw [hvc_] at ul266_0
      have HL266_0:=zA (show Kd.V (Kd.int .i64) 3 _ w.heap.size _ _ ((rd_T33 t263 x13_1).f0) from Kd.V_mk ul266_0 ge266_0)
      clear hva_ hvn_ hvc_ ge266_0 ul266_0
      have hv266_1:=hcc266 1 _ rfl
      rw [add_field _ _ 1 (by omega)] at hv266_1
      replace hv266_1:=zb (hv266_1.symm.trans hx266_1)
      injection hv266_1 with hva_ hvn_ hvc_
      rw [hva_] at ge266_1
      rw [hvc_] at ul266_1
      have HL266_1:=zA (show Kd.V (Kd.int .i64) 3 _ w.heap.size _ _ ((rd_T33 t263 x13_1).f1) from Kd.V_mk ul266_1 ge266_1)
      clear hva_ hvn_ hvc_ ge266_1 ul266_1
      clear hcc266 hce266
      have HR266_0:=zA hi266_0
      have HC266_0:=zA hl266_0
      clear hi266_0 hl266_0
      have HR266_1:=zA hi266_1
      have HC266_1:=zA hl266_1
      clear hi266_1 hl266_1
      replace p266:=eq_true p266
      replace q266:=eq_true q266
      try go_wp2_with (first|((with_reducible refine gate_dst (N:=7) rfl ?_);refine box_event ?hg (N:=7) ?hd (cs:=#[.slice none 0 0,.slice none 0 0]) (t:=33) ?hr ?_;(case hd=>rfl);(case hg=>rfl);(case hr=>first|(go_simp;done)|(go_simp;rfl));intro gb267 hg w15 hbox hb;have n0_:=zA (Kd.N_below (Kd.N_elderB (by (with_reducible repeat (first|apply Kd.N_alloc|apply Kd.N_drewN|apply Kd.N_drew));exact HO_5.out) gb267 (Nat.le_of_eq hg.symm)) hb);have n1_:=zA (Kd.N_below (Kd.N_elderB (by (with_reducible repeat (first|apply Kd.N_alloc|apply Kd.N_drewN|apply Kd.N_drew));exact HO_11.out) gb267 (Nat.le_of_eq hg.symm)) hb);have n2_:=zA (Kd.V_below (Kd.V_elderB (by (with_reducible repeat (first|apply zi|apply zj|apply zh));exact HL266_0.out) gb267 (Nat.le_of_eq hg.symm)) hb);have n3_:=zA (Kd.V_below (Kd.V_elderB (by (with_reducible repeat (first|apply zi|apply zj|apply zh));exact HL266_1.out) gb267 (Nat.le_of_eq hg.symm)) hb);have n4_:=zA (zf (by repeat (first|(with_reducible exact HR266_0.out)|(with_reducible refine zW ?_ _)|(with_reducible refine zX ?_ _)|(with_reducible refine zY ?_)|exact HR266_0.out)) hb);have n5_:=zA (zf (by repeat (first|(with_reducible exact HR266_1.out)|(with_reducible refine zW ?_ _)|(with_reducible refine zX ?_ _)|(with_reducible refine zY ?_)|exact HR266_1.out)) hb);have n6_:=zA (za (by repeat (first|(with_reducible first|exact HB.out|apply zD|apply zB|apply zC)|exact HB.out)) hb);have n7_:=zA (hbox);have n8_:=zA ((by rw [hg];exact (zZ (by repeat (first|(with_reducible first|exact HB.out|apply zD|apply zB|apply zC)|exact HB.out))):w.heap.size≤gb267));have n9_:=zA ((by rw [hg];exact (zZ (by repeat (first|(with_reducible first|exact HB.out|apply zD|apply zB|apply zC)|exact HB.out))):w.heap.size≤gb267));clear HO_5;clear HO_11;clear HL266_0;clear HL266_1;clear HR266_0;clear HR266_1;clear HB;have HO_5:=n0_;have HO_11:=n1_;have HL266_0:=n2_;have HL266_1:=n3_;have HR266_0:=n4_;have HR266_1:=n5_;have HB:=n6_;have BK267:=n7_;have GW267:=n8_;have GE267:=n9_;clear n0_ n1_ n2_ n3_ n4_ n5_ n6_ n7_ n8_ n9_;clear hb hbox hg;have hcz16_0:w15.cell? ⟨gb267,0,none⟩ = some (.slice none 0 0):=(zc BK267.out 0).trans rfl;have hcz16_1:w15.cell? ⟨gb267,1,none⟩ = some (.slice none 0 0):=(zc BK267.out 1).trans rfl;have hfz16_0:=zl BK267.out 0;have hfz16_1:=zl BK267.out 1))
      have n0_:Aside0 (Kd.N k33 33 ((w15.setCell ⟨gb267,0,none⟩ (.slice A266_0 ((rd_T33 t263 x13_1).f0).length c266_0)).setCell ⟨gb267,1,none⟩ (.slice A266_1 ((rd_T33 t263 x13_1).f1).length c266_1)) w.heap.size (fun k_=>(w.heap.size≤k_)∧some k_≠(.slice (some ad266) t263.length co7:Value).ownBlock∧k_≠gb267) u5 x5_1):=⟨by (with_reducible repeat (first|apply Kd.N_alloc|apply Kd.N_drewN|apply Kd.N_drew));exact Kd.N_mono (Kd.N_far (p:=⟨gb267,1,none⟩) (Kd.N_far (p:=⟨gb267,0,none⟩) (Kd.N_mono HO_5.out (fun k_ hk=>(⟨hk,hk.2⟩:_∧k_≠gb267))) (fun _ hk=>hk.2) (.slice A266_0 ((rd_T33 t263 x13_1).f0).length c266_0)) (fun _ hk=>hk.2) (.slice A266_1 ((rd_T33 t263 x13_1).f1).length c266_1)) (fun _ hk=>⟨hk.1.1.1,⟨hk.1.1.2,hk.1.2⟩⟩)⟩
      have n1_:Aside0 (Kd.N k33 33 ((w15.setCell ⟨gb267,0,none⟩ (.slice A266_0 ((rd_T33 t263 x13_1).f0).length c266_0)).setCell ⟨gb267,1,none⟩ (.slice A266_1 ((rd_T33 t263 x13_1).f1).length c266_1)) w.heap.size (fun k_=>(w.heap.size≤k_)∧some k_≠(u5:Value).ownBlock∧k_≠gb267) (.slice (some ad266) t263.length co7) t263):=⟨by (with_reducible repeat (first|apply Kd.N_alloc|apply Kd.N_drewN|apply Kd.N_drew));exact Kd.N_mono (Kd.N_far (p:=⟨gb267,1,none⟩) (Kd.N_far (p:=⟨gb267,0,none⟩) (Kd.N_mono HO_11.out (fun k_ hk=>(⟨hk,hk.2⟩:_∧k_≠gb267))) (fun _ hk=>hk.2) (.slice A266_0 ((rd_T33 t263 x13_1).f0).length c266_0)) (fun _ hk=>hk.2) (.slice A266_1 ((rd_T33 t263 x13_1).f1).length c266_1)) (fun _ hk=>⟨hk.1.1.1,⟨hk.1.1.2,hk.1.2⟩⟩)⟩
      have n2_:Aside0 (Kd.V (Kd.int .i64) 3 ((w15.setCell ⟨gb267,0,none⟩ (.slice A266_0 ((rd_T33 t263 x13_1).f0).length c266_0)).setCell ⟨gb267,1,none⟩ (.slice A266_1 ((rd_T33 t263 x13_1).f1).length c266_1)) w.heap.size (fun k_=>(w.heap.size≤k_)∧some k_≠(u5:Value).ownBlock∧some k_≠(.slice (some ad266) t263.length co7:Value).ownBlock∧k_≠gb267) (.slice A266_0 ((rd_T33 t263 x13_1).f0).length c266_0) ((rd_T33 t263 x13_1).f0)):=⟨by (with_reducible repeat (first|apply zi|apply zj|apply zh));exact Kd.V_mono (Kd.V_far (p:=⟨gb267,1,none⟩) (Kd.V_far (p:=⟨gb267,0,none⟩) (Kd.V_mono HL266_0.out (fun k_ hk=>(⟨hk,hk.2⟩:_∧k_≠gb267))) (fun _ hk=>hk.2) (.slice A266_0 ((rd_T33 t263 x13_1).f0).length c266_0)) (fun _ hk=>hk.2) (.slice A266_1 ((rd_T33 t263 x13_1).f1).length c266_1)) (fun _ hk=>⟨hk.1.1.1.1,⟨hk.1.1.1.2,⟨hk.1.1.2,hk.1.2⟩⟩⟩)⟩
      have n3_:Aside0 (Kd.V (Kd.int .i64) 3 ((w15.setCell ⟨gb267,0,none⟩ (.slice A266_0 ((rd_T33 t263 x13_1).f0).length c266_0)).setCell ⟨gb267,1,none⟩ (.slice A266_1 ((rd_T33 t263 x13_1).f1).length c266_1)) w.heap.size (fun k_=>(w.heap.size≤k_)∧some k_≠(u5:Value).ownBlock∧some k_≠(.slice (some ad266) t263.length co7:Value).ownBlock∧k_≠gb267) (.slice A266_1 ((rd_T33 t263 x13_1).f1).length c266_1) ((rd_T33 t263 x13_1).f1)):=⟨by (with_reducible repeat (first|apply zi|apply zj|apply zh));exact Kd.V_mono (Kd.V_far (p:=⟨gb267,1,none⟩) (Kd.V_far (p:=⟨gb267,0,none⟩) (Kd.V_mono HL266_1.out (fun k_ hk=>(⟨hk,hk.2⟩:_∧k_≠gb267))) (fun _ hk=>hk.2) (.slice A266_0 ((rd_T33 t263 x13_1).f0).length c266_0)) (fun _ hk=>hk.2) (.slice A266_1 ((rd_T33 t263 x13_1).f1).length c266_1)) (fun _ hk=>⟨hk.1.1.1.1,⟨hk.1.1.1.2,⟨hk.1.1.2,hk.1.2⟩⟩⟩)⟩
      have n4_:Aside0 (((w15.setCell ⟨gb267,0,none⟩ (.slice A266_0 ((rd_T33 t263 x13_1).f0).length c266_0)).setCell ⟨gb267,1,none⟩ (.slice A266_1 ((rd_T33 t263 x13_1).f1).length c266_1)).heap[gb267]? = some (.cells #[.slice A266_0 ((rd_T33 t263 x13_1).f0).length c266_0,.slice A266_1 ((rd_T33 t263 x13_1).f1).length c266_1] 33 (0,0))):=⟨by (with_reducible repeat (first|refine zM ?_ _|refine zO ?_|refine zN ?_ _));refine blk_put (cs:=#[.slice A266_0 ((rd_T33 t263 x13_1).f0).length c266_0,.slice none 0 0]) ?_ 1 _ rfl;(with_reducible repeat (first|refine zM ?_ _|refine zO ?_|refine zN ?_ _));refine blk_put (cs:=#[.slice none 0 0,.slice none 0 0]) ?_ 0 _ rfl;(with_reducible repeat (first|refine zM ?_ _|refine zO ?_|refine zN ?_ _));exact BK267.out⟩
      have n5_:Aside0 (Below w.heap.size w ((w15.setCell ⟨gb267,0,none⟩ (.slice A266_0 ((rd_T33 t263 x13_1).f0).length c266_0)).setCell ⟨gb267,1,none⟩ (.slice A266_1 ((rd_T33 t263 x13_1).f1).length c266_1))):=⟨by repeat (first|(with_reducible first|exact HB.out|apply zD|apply zB|apply zC|refine zI ?_ GE267.out)|exact HB.out)⟩
      (try clear HO_5)
      (try clear HO_11)
      (try clear HL266_0)
      (try clear HL266_1)
      (try clear BK267)
      (try clear HB)
      generalize ((w15.setCell ⟨gb267,0,none⟩ (.slice A266_0 ((rd_T33 t263 x13_1).f0).length c266_0)).setCell ⟨gb267,1,none⟩ (.slice A266_1 ((rd_T33 t263 x13_1).f1).length c266_1)) = w17 at n0_ n1_ n2_ n3_ n4_ n5_ ⊢
      have HO_5:=n0_
      have HO_11:=n1_
      have HL266_0:=n2_
      have HL266_1:=n3_
      have BK267:=n4_
      have HB:=n5_
      clear n0_ n1_ n2_ n3_ n4_ n5_
      have n0_:=zA (Kd.N_drew HO_5.out)
      have n1_:=zA (Kd.N_drew HO_11.out)
      have n2_:=zA (zh HL266_0.out)
      have n3_:=zA (zh HL266_1.out)
      have n4_:=zA (zO BK267.out)
      have n5_:=zA (zC HB.out)
      clear HO_5
      clear HO_11
      clear HL266_0
      clear HL266_1
      clear BK267
      clear HB
      have HO_5:=n0_
      have HO_11:=n1_
      have HL266_0:=n2_
      have HL266_1:=n3_
      have BK267:=n4_
      have HB:=n5_
      clear n0_ n1_ n2_ n3_ n4_ n5_
      refine start_ (n:=5) (S:=fun w'=>w'.cell? ⟨gb267,0,none⟩ = some (.slice A266_0 ((rd_T33 t263 x13_1).f0).length c266_0)∧w'.cell? ⟨gb267,1,none⟩ = some (.slice A266_1 ((rd_T33 t263 x13_1).f1).length c266_1)) (ds:=[]) #[false,false,false,false,false] (by kernel_rfl) rfl rfl ⟨(zc BK267.out 0).trans rfl,(zc BK267.out 1).trans rfl⟩ (fun hHeld=>?_)
      generalize w17.drew = w18 at HO_5 HO_11 HL266_0 HL266_1 BK267 HB hHeld ⊢
      refine take_ (i:=0) (N:=some 17) (v:=?_) (a':=?_) #[true,false,false,false,false] rfl rfl (by kernel_rfl) (fun _ _ _ h=>h) (Or.inl ⟨by rfl,?_⟩) hHeld ?_ ?_
      rotate_left
      ·rintro w' ⟨s0,s1⟩
       go_simp
       with_reducible rfl
      rotate_left
      ·simp only [Act.put,zE,zG,zH,i64_w,i32_w]
       rfl
      refine take_ (i:=1) (N:=some 18) (v:=?_) (a':=?_) #[true,true,false,false,false] rfl rfl (by kernel_rfl) (fun _ _ _ h=>h) (Or.inl ⟨by rfl,?_⟩) hHeld ?_ ?_
      rotate_left
      ·rintro w' ⟨s0,s1⟩
       go_simp
       with_reducible rfl
      rotate_left
      ·simp only [Act.put,zE,zG,zH,i64_w,i32_w]
       rfl
      refine one_ (i:=2) (N:=some 19) #[true,true,true,false,false] rfl rfl (by kernel_rfl) (by decide) (fun K hK=>?_)
      refine goes_ Try.func63 (by kernel_rfl) rfl #[.agg #[.slice A266_0 ((rd_T33 t263 x13_1).f0).length c266_0,.slice A266_1 ((rd_T33 t263 x13_1).f1).length c266_1]] (by rfl) rfl rfl (by (try simp only [zP,zS,zT]);first|done|rfl|(simp only [zR,zQ];rfl)) ?_
      with_reducible refine (impl_leastForm.calls k1 _ _ ((rd_T33 t263 x13_1).f0) _ _ ((rd_T33 t263 x13_1).f1) t268 t271 _ ?side1 ?side2 ?side3 ?side4 A11.out).mono ?_
      (case side1=>repeat (first|exact ((zv (by (with_reducible repeat (first|apply zi|apply zj|apply zh));exact HL266_0.out)).2.2)|(with_reducible refine zW ?_ _)|(with_reducible refine zX ?_ _)|(with_reducible refine zY ?_)))
      (case side2=>exact HC266_0.out)
      (case side3=>repeat (first|exact ((zv (by (with_reducible repeat (first|apply zi|apply zj|apply zh));exact HL266_1.out)).2.2)|(with_reducible refine zW ?_ _)|(with_reducible refine zX ?_ _)|(with_reducible refine zY ?_)))
      (case side4=>exact HC266_1.out)
      rintro e w19 ⟨v269,v272,rfl,ho0,ho1,hb⟩
      refine ⟨_,rfl,?_⟩
      have n0_:=zA (Kd.N_mono (Kd.N_told (Kd.N_told (Kd.N_old (by (with_reducible repeat (first|apply Kd.N_alloc|apply Kd.N_drewN|apply Kd.N_drew));exact HO_5.out) hb) (zp ho0)) (zp ho1)) (fun _ h_=>h_.1))
      have n1_:=zA (Kd.N_mono (Kd.N_told (Kd.N_told (Kd.N_old (by (with_reducible repeat (first|apply Kd.N_alloc|apply Kd.N_drewN|apply Kd.N_drew));exact HO_11.out) hb) (zp ho0)) (zp ho1)) (fun _ h_=>h_.1))
      have n2_:=zA (Kd.V_mono (Kd.V_told (Kd.V_told (Kd.V_old (by (with_reducible repeat (first|apply zi|apply zj|apply zh));exact HL266_0.out) hb) (zp ho0)) (zp ho1)) (fun _ h_=>h_.1))
      have n3_:=zA (Kd.V_mono (Kd.V_told (Kd.V_told (Kd.V_old (by (with_reducible repeat (first|apply zi|apply zj|apply zh));exact HL266_1.out) hb) (zp ho0)) (zp ho1)) (fun _ h_=>h_.1))
      have n4_:=zA (zq (Kd.R_newM (M:=fun k_=>(w.heap.size≤k_)) ho0 (zZ (by repeat (first|(with_reducible first|exact HB.out|apply zD|apply zB|apply zC|refine zI ?_ GE267.out)|exact HB.out))) (fun k_ h_=>h_)) (zZ (by repeat (first|(with_reducible first|exact HB.out|apply zD|apply zB|apply zC|refine zI ?_ GE267.out)|exact HB.out))))
      have n5_:=zA (zq (Kd.R_newM (M:=fun k_=>(w.heap.size≤k_)) ho1 (zZ (by repeat (first|(with_reducible first|exact HB.out|apply zD|apply zB|apply zC|refine zI ?_ GE267.out)|exact HB.out))) (fun k_ h_=>h_)) (zZ (by repeat (first|(with_reducible first|exact HB.out|apply zD|apply zB|apply zC|refine zI ?_ GE267.out)|exact HB.out))))
      have n6_:=zA (zg (g:=gb267) (o:=.cells #[.slice A266_0 ((rd_T33 t263 x13_1).f0).length c266_0,.slice A266_1 ((rd_T33 t263 x13_1).f1).length c266_1] 33 (0,0)) (by (with_reducible repeat (first|refine zM ?_ _|refine zO ?_|refine zN ?_ _));exact BK267.out) hb)
      have n7_:=zA (za (by repeat (first|(with_reducible first|exact HB.out|apply zD|apply zB|apply zC|refine zI ?_ GE267.out)|exact HB.out)) hb)
      clear HO_5
      clear HO_11
      clear HL266_0
      clear HL266_1
      clear BK267
      clear HB
      have HO_5:=n0_
      have HO_11:=n1_
      have HL266_0:=n2_
      have HL266_1:=n3_
      have HO270:=n4_
      have HO273:=n5_
      have BK267:=n6_
      have HB:=n7_
      clear n0_ n1_ n2_ n3_ n4_ n5_ n6_ n7_
      (try clear hb)
      (try clear hb2)
      (try clear hk)
      (try clear hi)
      (try clear ho0)
      (try clear ho1)
      obtain ⟨Ao20,co20,eo20⟩:=zr HO270.out
      (first|subst eo20|(injection eo20 with f1_ f2_ f3_;have f4_:=f1_.symm;have f5_:=f3_.symm;clear f1_ f2_ f3_;subst f4_;subst f5_))
      obtain ⟨Ao21,co21,eo21⟩:=zr HO273.out
      (first|subst eo21|(injection eo21 with f1_ f2_ f3_;have f4_:=f1_.symm;have f5_:=f3_.symm;clear f1_ f2_ f3_;subst f4_;subst f5_))
      refine hK.out _ _ ⟨(zc BK267.out 0).trans rfl,(zc BK267.out 1).trans rfl⟩ (fun hHeld=>?_)
      clear hK K
      refine norm_ (a':=?_) ?_ ?_
      rotate_left
      ·show Act.put _ (some 19) _ = _
       simp only [Act.put,zE,zG,zH,i64_w,i32_w]
       rfl
      refine one_ (i:=3) (N:=some 20) #[true,true,true,true,false] rfl rfl (by kernel_rfl) (by decide) (fun K hK=>?_)
      refine goes_ Try.func62 (by kernel_rfl) rfl #[.agg #[.slice A266_0 ((rd_T33 t263 x13_1).f0).length c266_0,.slice A266_1 ((rd_T33 t263 x13_1).f1).length c266_1],.agg #[.slice Ao20 t268.length co20,.slice Ao21 t271.length co21]] (by rfl) rfl rfl (by (try simp only [zP,zS,zT]);first|done|rfl|(simp only [zR,zQ];rfl)) ?_
      with_reducible refine (impl_compareMaps.calls k1 _ _ ((rd_T33 t263 x13_1).f0) _ _ ((rd_T33 t263 x13_1).f1) _ _ t268 _ _ t271 t274 _ ?side1 ?side2 ?side3 ?side4 ?side5 ?side6 ?side7 ?side8 A12.out).mono ?_
      (case side1=>repeat (first|exact ((zv (by (with_reducible repeat (first|apply zi|apply zj|apply zh));exact HL266_0.out)).2.2)|(with_reducible refine zW ?_ _)|(with_reducible refine zX ?_ _)|(with_reducible refine zY ?_)))
      (case side2=>exact HC266_0.out)
      (case side3=>repeat (first|exact ((zv (by (with_reducible repeat (first|apply zi|apply zj|apply zh));exact HL266_1.out)).2.2)|(with_reducible refine zW ?_ _)|(with_reducible refine zX ?_ _)|(with_reducible refine zY ?_)))
      (case side4=>exact HC266_1.out)
      (case side5=>repeat (first|exact (zd HO270.out).2.2|(with_reducible refine zW ?_ _)|(with_reducible refine zX ?_ _)|(with_reducible refine zY ?_)))
      (case side6=>exact (zd HO270.out).2.1)
      (case side7=>repeat (first|exact (zd HO273.out).2.2|(with_reducible refine zW ?_ _)|(with_reducible refine zX ?_ _)|(with_reducible refine zY ?_)))
      (case side8=>exact (zd HO273.out).2.1)
      rintro e w22 ⟨rfl,hb⟩
      refine ⟨_,rfl,?_⟩
      have n0_:=zA (Kd.N_below (by (with_reducible repeat (first|apply Kd.N_alloc|apply Kd.N_drewN|apply Kd.N_drew));exact HO_5.out) hb)
      have n1_:=zA (Kd.N_below (by (with_reducible repeat (first|apply Kd.N_alloc|apply Kd.N_drewN|apply Kd.N_drew));exact HO_11.out) hb)
      have n2_:=zA (Kd.V_below (by (with_reducible repeat (first|apply zi|apply zj|apply zh));exact HL266_0.out) hb)
      have n3_:=zA (Kd.V_below (by (with_reducible repeat (first|apply zi|apply zj|apply zh));exact HL266_1.out) hb)
      have n4_:=zA (zu (by (with_reducible repeat (first|apply zK|apply zJ|apply zL));exact HO270.out) hb)
      have n5_:=zA (zu (by (with_reducible repeat (first|apply zK|apply zJ|apply zL));exact HO273.out) hb)
      have n6_:=zA (zg (g:=gb267) (o:=.cells #[.slice A266_0 ((rd_T33 t263 x13_1).f0).length c266_0,.slice A266_1 ((rd_T33 t263 x13_1).f1).length c266_1] 33 (0,0)) (by (with_reducible repeat (first|refine zM ?_ _|refine zO ?_|refine zN ?_ _));exact BK267.out) hb)
      have n7_:=zA (za (by repeat (first|(with_reducible first|exact HB.out|apply zD|apply zB|apply zC|refine zI ?_ GE267.out)|exact HB.out)) hb)
      clear HO_5
      clear HO_11
      clear HL266_0
      clear HL266_1
      clear HO270
      clear HO273
      clear BK267
      clear HB
      have HO_5:=n0_
      have HO_11:=n1_
      have HL266_0:=n2_
      have HL266_1:=n3_
      have HO270:=n4_
      have HO273:=n5_
      have BK267:=n6_
      have HB:=n7_
      clear n0_ n1_ n2_ n3_ n4_ n5_ n6_ n7_
      (try clear hb)
      (try clear hb2)
      (try clear hk)
      (try clear hi)
      refine hK.out _ _ ⟨(zc BK267.out 0).trans rfl,(zc BK267.out 1).trans rfl⟩ (fun hHeld=>?_)
      clear hK K
      refine norm_ (a':=?_) ?_ ?_
      rotate_left
      ·show Act.put _ (some 20) _ = _
       simp only [Act.put,zE,zG,zH,i64_w,i32_w]
       rfl
      refine pure_ (i:=4) (N:=some 21) (v:=?_) (a':=?_) #[true,true,true,true,true] rfl rfl (by kernel_rfl) (fun _ _ _ h=>h) (Or.inl ⟨by rfl,?_⟩) ?_ ?_
      rotate_left
      ·intro w'
       go_simp
       with_reducible rfl
      rotate_left
      ·simp only [Act.put,zE,zG,zH,i64_w,i32_w]
       rfl
      refine done_ (by kernel_rfl) ?_
      have H:=H9_.out
      clear H9_
      by_cases c13:t274 = 0
      ·rw [if_pos c13] at H
       have c13b0:(t274 == 0) = true:=beq_iff_eq.mpr c13
       have c13b1:(t274 != 0) = false:=bne_eq_false_iff_eq.mpr c13
       clear c13
       try rw [c13b0]
       by_cases c14:x5_1.length < 2932031007402
       ·rw [if_pos c14] at H
        have LMc14:=zA c14
        clear c14
        obtain ⟨y275,hy275⟩:∃ y_:List (S33),y_ = (x5_1 ++ [(⟨(rd_T33 t263 x13_1).f0,(rd_T33 t263 x13_1).f1⟩:S33)]):=⟨_,rfl⟩
        replace H:(impl_rootless.l0 k1 y275 t263 (t263.length:Int) (wrap64 (x13_1+1))) = some r:=by first|(rw [hy275];with_reducible exact H)|(have H2_:=(Option.bind_some _ _).symm.trans H;rw [hy275];with_reducible exact H2_)|(have H2_:=(Option.bind_some _ _).symm.trans H;with_reducible exact H2_)|with_reducible exact H|(rw [hy275];exact H)|exact H
        have Ny275:=zA hy275
        clear hy275
        have H':=zA H
        clear H
        have hcz23_0:w22.cell? ⟨gb267,0,none⟩ = some (.slice A266_0 ((rd_T33 t263 x13_1).f0).length c266_0):=(zc BK267.out 0).trans rfl
        have hcz23_1:w22.cell? ⟨gb267,1,none⟩ = some (.slice A266_1 ((rd_T33 t263 x13_1).f1).length c266_1):=(zc BK267.out 1).trans rfl
        have hfz23_0:=zl BK267.out 0
        have hfz23_1:=zl BK267.out 1
        try go_wp2_with (first|((with_reducible refine gate_builtin (b:=.append) (xs:=#[.tmp 22,.tmp 24]) rfl ?_);at_builtin;refine Kd.N_append k33 (w0:=w) w.heap.size rfl (.tmp 22) (.tmp 24) 27 33 (.agg #[(.slice none 0 0),(.slice none 0 0)]) 48 rfl Try.underlying27 info33 rfl (by decide) (by omega) u5 x5_1 (⟨(rd_T33 t263 x13_1).f0,(rd_T33 t263 x13_1).f1⟩:S33) [.slice A266_0 ((rd_T33 t263 x13_1).f0).length c266_0,.slice A266_1 ((rd_T33 t263 x13_1).f1).length c266_1] (fun k_=>(w.heap.size≤k_)∧some k_≠(.slice (some ad266) t263.length co7:Value).ownBlock∧some k_≠(.slice Ao20 t268.length co20:Value).ownBlock∧some k_≠(.slice Ao21 t271.length co21:Value).ownBlock∧k_≠gb267) (fun k_=>((fun k_=>(w.heap.size≤k_)∧some k_≠(.slice (some ad266) t263.length co7:Value).ownBlock∧some k_≠(.slice Ao20 t268.length co20:Value).ownBlock∧some k_≠(.slice Ao21 t271.length co21:Value).ownBlock∧k_≠gb267)) k_∧some k_≠(u5:Value).ownBlock) rfl rfl ?aP (fun _ hk=>hk) ?aF ?aO ?aB ?aS ?aL ?_;(case aP=>exact (k33_mkF _ _ (⟨(rd_T33 t263 x13_1).f0,(rd_T33 t263 x13_1).f1⟩:S33) (zv (Kd.V_mono (ok':=(fun k_=>((fun k_=>(w.heap.size≤k_)∧some k_≠(.slice (some ad266) t263.length co7:Value).ownBlock∧some k_≠(.slice Ao20 t268.length co20:Value).ownBlock∧some k_≠(.slice Ao21 t271.length co21:Value).ownBlock∧k_≠gb267)) k_∧some k_≠(u5:Value).ownBlock)) (HL266_0.out) (fun k_ hk=>⟨⟨hk.1.1.1,⟨hk.1.1.2.2.1,⟨hk.1.2,⟨hk.2,hk.1.1.2.2.2⟩⟩⟩⟩,hk.1.1.2.1⟩))).2.1 (Kd.V_F (Kd.V_mono (ok':=(fun k_=>((fun k_=>(w.heap.size≤k_)∧some k_≠(.slice (some ad266) t263.length co7:Value).ownBlock∧some k_≠(.slice Ao20 t268.length co20:Value).ownBlock∧some k_≠(.slice Ao21 t271.length co21:Value).ownBlock∧k_≠gb267)) k_∧some k_≠(u5:Value).ownBlock)) (HL266_0.out) (fun k_ hk=>⟨⟨hk.1.1.1,⟨hk.1.1.2.2.1,⟨hk.1.2,⟨hk.2,hk.1.1.2.2.2⟩⟩⟩⟩,hk.1.1.2.1⟩))) (zv (Kd.V_mono (ok':=(fun k_=>((fun k_=>(w.heap.size≤k_)∧some k_≠(.slice (some ad266) t263.length co7:Value).ownBlock∧some k_≠(.slice Ao20 t268.length co20:Value).ownBlock∧some k_≠(.slice Ao21 t271.length co21:Value).ownBlock∧k_≠gb267)) k_∧some k_≠(u5:Value).ownBlock)) (HL266_1.out) (fun k_ hk=>⟨⟨hk.1.1.1,⟨hk.1.1.2.2.1,⟨hk.1.2,⟨hk.2,hk.1.1.2.2.2⟩⟩⟩⟩,hk.1.1.2.1⟩))).2.1 (Kd.V_F (Kd.V_mono (ok':=(fun k_=>((fun k_=>(w.heap.size≤k_)∧some k_≠(.slice (some ad266) t263.length co7:Value).ownBlock∧some k_≠(.slice Ao20 t268.length co20:Value).ownBlock∧some k_≠(.slice Ao21 t271.length co21:Value).ownBlock∧k_≠gb267)) k_∧some k_≠(u5:Value).ownBlock)) (HL266_1.out) (fun k_ hk=>⟨⟨hk.1.1.1,⟨hk.1.1.2.2.1,⟨hk.1.2,⟨hk.2,hk.1.1.2.2.2⟩⟩⟩⟩,hk.1.1.2.1⟩)))));(case aB=>exact (by repeat (first|(with_reducible first|exact HB.out|apply zD|apply zB|apply zC|refine zI ?_ GE267.out)|exact HB.out)));(case aF=>exact (fun k_ hk=>⟨(Nat.le_trans (zZ (by repeat (first|(with_reducible first|exact HB.out|apply zD|apply zB|apply zC|refine zI ?_ GE267.out)|exact HB.out))) hk),Kd.fresh' (Kd.N_lt (by (with_reducible repeat (first|apply Kd.N_alloc|apply Kd.N_drewN|apply Kd.N_drew));exact HO_11.out)) k_ hk,Kd.fresh' (Kd.R_lt (by (with_reducible repeat (first|apply zK|apply zJ|apply zL));exact HO270.out)) k_ hk,Kd.fresh' (Kd.R_lt (by (with_reducible repeat (first|apply zK|apply zJ|apply zL));exact HO273.out)) k_ hk,Kd.freshB (g:=gb267) (o:=.cells #[.slice A266_0 ((rd_T33 t263 x13_1).f0).length c266_0,.slice A266_1 ((rd_T33 t263 x13_1).f1).length c266_1] 33 (0,0)) (by (with_reducible repeat (first|refine zM ?_ _|refine zO ?_|refine zN ?_ _));exact BK267.out) k_ hk⟩));(case aO=>exact (by (with_reducible repeat (first|apply Kd.N_alloc|apply Kd.N_drewN|apply Kd.N_drew));exact Kd.N_mono HO_5.out (fun _ hk=>⟨hk.1.1.1,⟨hk.1.1.2.1,⟨hk.1.2,⟨hk.2,hk.1.1.2.2⟩⟩⟩⟩)));(case aS=>exact (zZ (by repeat (first|(with_reducible first|exact HB.out|apply zD|apply zB|apply zC|refine zI ?_ GE267.out)|exact HB.out))));(case aL=>have:=LMc14.out;omega);intro v276 w24 ho hb hg hat;rw [← Ny275.out] at ho;have n0_:=zA (Kd.N_afterv (ok:=(fun k_=>(w.heap.size≤k_)∧some k_≠(.slice Ao20 t268.length co20:Value).ownBlock∧some k_≠(.slice Ao21 t271.length co21:Value).ownBlock∧k_≠gb267)) (by (with_reducible repeat (first|apply Kd.N_alloc|apply Kd.N_drewN|apply Kd.N_drew));exact Kd.N_mono HO_11.out (fun _ hk=>⟨⟨hk.1.1.1,⟨hk.1.2,⟨hk.2,hk.1.1.2.2⟩⟩⟩,hk.1.1.2.1⟩)) hg hat);have n1_:=zA (Kd.V_afterv (ok:=(fun k_=>(w.heap.size≤k_)∧some k_≠(.slice (some ad266) t263.length co7:Value).ownBlock∧some k_≠(.slice Ao20 t268.length co20:Value).ownBlock∧some k_≠(.slice Ao21 t271.length co21:Value).ownBlock∧k_≠gb267)) (by (with_reducible repeat (first|apply zi|apply zj|apply zh));exact Kd.V_mono HL266_0.out (fun _ hk=>⟨⟨hk.1.1.1,⟨hk.1.1.2.2.1,⟨hk.1.2,⟨hk.2,hk.1.1.2.2.2⟩⟩⟩⟩,hk.1.1.2.1⟩)) hg hat);have n2_:=zA (Kd.V_afterv (ok:=(fun k_=>(w.heap.size≤k_)∧some k_≠(.slice (some ad266) t263.length co7:Value).ownBlock∧some k_≠(.slice Ao20 t268.length co20:Value).ownBlock∧some k_≠(.slice Ao21 t271.length co21:Value).ownBlock∧k_≠gb267)) (by (with_reducible repeat (first|apply zi|apply zj|apply zh));exact Kd.V_mono HL266_1.out (fun _ hk=>⟨⟨hk.1.1.1,⟨hk.1.1.2.2.1,⟨hk.1.2,⟨hk.2,hk.1.1.2.2.2⟩⟩⟩⟩,hk.1.1.2.1⟩)) hg hat);have n3_:=zA (blk_grown (g:=gb267) (o:=.cells #[.slice A266_0 ((rd_T33 t263 x13_1).f0).length c266_0,.slice A266_1 ((rd_T33 t263 x13_1).f1).length c266_1] 33 (0,0)) (by (with_reducible repeat (first|refine zM ?_ _|refine zO ?_|refine zN ?_ _));exact BK267.out) hg (Kd.N_away HO_5.out (fun _ hk=>hk.1.1.2.2)));have n4_:=zA (Kd.R_over' (by (with_reducible repeat (first|apply zK|apply zJ|apply zL));exact HO270.out) (Kd.N_typed (by (with_reducible repeat (first|apply Kd.N_alloc|apply Kd.N_drewN|apply Kd.N_drew));exact HO_5.out)) (by decide) hg);have n5_:=zA (Kd.R_over' (by (with_reducible repeat (first|apply zK|apply zJ|apply zL));exact HO273.out) (Kd.N_typed (by (with_reducible repeat (first|apply Kd.N_alloc|apply Kd.N_drewN|apply Kd.N_drew));exact HO_5.out)) (by decide) hg);have n6_:=zA (hb);have n7_:=zA (ho);clear HO_11;clear HL266_0;clear HL266_1;clear BK267;clear HO270;clear HO273;clear HB;clear HO_5;have HO_11:=n0_;have HL266_0:=n1_;have HL266_1:=n2_;have BK267:=n3_;have HO270:=n4_;have HO273:=n5_;have HB:=n6_;have HO277:=n7_;clear n0_ n1_ n2_ n3_ n4_ n5_ n6_ n7_;clear ho hb hg hat))
        go_roundg k1
        case measure=>have:=HK1.out;omega
        case rel=>exact ⟨(y275),(wrap64 (x13_1+1)),(by first|rfl|(simp;done)|(simp [*];done)),H',⟨by have:=HK1.out;omega⟩,⟨by (with_reducible repeat (first|apply Kd.N_alloc|apply Kd.N_drewN|apply Kd.N_drew));exact Kd.N_mono HO277.out (fun _ hk=>⟨hk.1,hk.2.1⟩)⟩,⟨by (with_reducible repeat (first|apply Kd.N_alloc|apply Kd.N_drewN|apply Kd.N_drew));exact Kd.N_mono HO_11.out (fun _ hk=>⟨hk.1.1,hk.2⟩)⟩,⟨by repeat (first|(with_reducible first|exact HB.out|apply zD|apply zB|apply zC|refine zI ?_ GE267.out)|exact HB.out)⟩⟩
       ·rw [if_neg c14] at H
        exact absurd H (by simp)
      ·rw [if_neg c13] at H
       have c13b0:(t274 == 0) = false:=beq_eq_false_iff_ne.mpr c13
       have c13b1:(t274 != 0) = true:=bne_iff_ne.mpr c13
       have H':=zA H
       clear H
       try go_wp2
       go_roundg k1
       case measure=>have:=HK1.out;omega
       case rel=>exact ⟨(x5_1),(wrap64 (x13_1+1)),(by first|rfl|(simp;done)|(simp [*];done)),H',⟨by have:=HK1.out;omega⟩,⟨by (with_reducible repeat (first|apply Kd.N_alloc|apply Kd.N_drewN|apply Kd.N_drew));exact Kd.N_mono HO_5.out (fun _ hk=>⟨hk.1.1.1,hk.1.1.2.1⟩)⟩,⟨by (with_reducible repeat (first|apply Kd.N_alloc|apply Kd.N_drewN|apply Kd.N_drew));exact Kd.N_mono HO_11.out (fun _ hk=>⟨hk.1.1.1,hk.1.1.2.1⟩)⟩,⟨by repeat (first|(with_reducible first|exact HB.out|apply zD|apply zB|apply zC|refine zI ?_ GE267.out)|exact HB.out)⟩⟩
     ·rw [if_neg c10] at H
      exact absurd H (by simp)
    ·rw [if_neg c9] at H
     exact absurd H (by simp)
   ·rw [if_neg c8] at H
    have c8b0:decide (x13_1 < (t263.length:Int)) = false:=zV c8
    clear c8
    obtain rfl:=zb H
    go_wp2
    go_ret
    exact ⟨_,by first|rfl|(simp [errW_none,errW_some] <;> rfl)|(simp [*,errW_none,errW_some] <;> rfl),by (with_reducible repeat (first|apply Kd.N_alloc|apply Kd.N_drewN|apply Kd.N_drew));exact Kd.N_mono HO_5.out (fun _ hk=>hk.1),by repeat (first|(with_reducible first|exact HB.out|apply zD|apply zB|apply zC)|exact HB.out)⟩

/-! ### impl_RootlessCount: function 14 -/
def impl_RootlessCount.f (k:Nat) (a0:Int) (a1:Int):Option (Int):=(impl_RootedCount.f a0 a1).bind fun t278=>(if t278 < 0 then (some (-1)) else ((impl_rootless.f k a0 a1).bind fun t279=>(some (t279.length:Int))))
theorem impl_RootlessCount.mono:∀ a0 a1 k,LeO (impl_RootlessCount.f k a0 a1) (impl_RootlessCount.f (k+1) a0 a1):=by
 intro a0 a1 k
 unfold impl_RootlessCount.f
 repeat' first
   | (with_reducible exact impl_rootless.mono _ _ _)
   | (with_reducible exact LeO.refl _)
   | (with_reducible exact zm _)
   | (with_reducible refine zo ?_ ?_)
   | (with_reducible refine zn ?_ (fun _=>?_))
   | exact impl_rootless.mono _ _ _
   | exact zm _
   | refine zo ?_ ?_
   | refine zn ?_ (fun _=>?_)
set_option maxHeartbeats 8000000 in
set_option maxRecDepth 100000 in
theorem impl_RootlessCount.calls (k:Nat) (a0:Int) (a1:Int) (r:Int) (w:World) (h:impl_RootlessCount.f k a0 a1 = some r) :
  Calls Try.prog 14 #[.int .i64 a0,.int .i64 a1] w fun e w'=>e = .returned (.int .i64 r)∧Below w.heap.size w w':=by
 have HB:=zA (Below.refl w.heap.size w)
 have H:((impl_RootedCount.f a0 a1).bind fun t278=>(if t278 < 0 then (some (-1)) else ((impl_rootless.f k a0 a1).bind fun t279=>(some (t279.length:Int))))) = some r:=h
 clear h
 replace H:=zz0 H
 obtain ⟨t278,A30,H⟩:=H
 replace H:(if t278 < 0 then (some (-1)) else ((impl_rootless.f k a0 a1).bind fun t279=>(some (t279.length:Int)))) = some r:=H
 have A3:=zA A30
 clear A30
 by_cases c4:t278 < 0
 ·rw [if_pos c4] at H
  have c4b0:decide (t278 < 0) = true:=zU c4
  clear c4
  obtain rfl:=zb H
  go_enter Try.func14,Try.ntmps14
  go_wp2_with (first|((with_reducible refine gate_callee (f:=16) rfl ?_);refine goesL_ (some 7) rfl rfl Try.func16 (by kernel_rfl) rfl #[.int .i64 a0,.int .i64 a1] rfl (by (try simp only [zP,zS,zT]);first|done|rfl|(simp only [zR,zQ];rfl)) ?_;(with_reducible refine (impl_RootedCount.calls a0 a1 t278 _ A3.out).mono ?_);rintro e w5 ⟨rfl,hb⟩;refine ⟨_,rfl,?_⟩;have n0_:=zA (za (by repeat (first|(with_reducible first|exact HB.out|apply zD|apply zB|apply zC)|exact HB.out)) hb);clear HB;have HB:=n0_;clear n0_;(try clear hb);(try clear hb2);(try clear hk);(try clear hi)))
  go_ret
  exact ⟨by first|rfl|(simp [errW_none,errW_some] <;> rfl)|(simp [*,errW_none,errW_some] <;> rfl),by repeat (first|(with_reducible first|exact HB.out|apply zD|apply zB|apply zC)|exact HB.out)⟩
 ·rw [if_neg c4] at H
  have c4b0:decide (t278 < 0) = false:=zV c4
  clear c4
  replace H:=zz0 H
  obtain ⟨t279,A60,H⟩:=H
  replace H:(some (t279.length:Int)) = some r:=H
  have A6:=zA A60
  clear A60
  obtain rfl:=zb H
  go_enter Try.func14,Try.ntmps14
  go_wp2_with (first|((with_reducible refine gate_callee (f:=16) rfl ?_);refine goesL_ (some 7) rfl rfl Try.func16 (by kernel_rfl) rfl #[.int .i64 a0,.int .i64 a1] rfl (by (try simp only [zP,zS,zT]);first|done|rfl|(simp only [zR,zQ];rfl)) ?_;(with_reducible refine (impl_RootedCount.calls a0 a1 t278 _ A3.out).mono ?_);rintro e w7 ⟨rfl,hb⟩;refine ⟨_,rfl,?_⟩;have n0_:=zA (za (by repeat (first|(with_reducible first|exact HB.out|apply zD|apply zB|apply zC)|exact HB.out)) hb);clear HB;have HB:=n0_;clear n0_;(try clear hb);(try clear hb2);(try clear hk);(try clear hi))|((with_reducible refine gate_callee (f:=39) rfl ?_);refine goesL_ (some 11) rfl rfl Try.func39 (by kernel_rfl) rfl #[.int .i64 a0,.int .i64 a1] rfl (by (try simp only [zP,zS,zT]);first|done|rfl|(simp only [zR,zQ];rfl)) ?_;(with_reducible refine (impl_rootless.calls k a0 a1 t279 _ A6.out).mono ?_);rintro e w8 ⟨v280,rfl,ho0,hb⟩;refine ⟨_,rfl,?_⟩;have n0_:=zA (Kd.N_lower (Kd.N_mono (ok':=fun k_=>True) ho0 (fun k_ hk_=>trivial)) (zZ (by repeat (first|(with_reducible first|exact HB.out|apply zD|apply zB|apply zC)|exact HB.out))));have n1_:=zA (za (by repeat (first|(with_reducible first|exact HB.out|apply zD|apply zB|apply zC)|exact HB.out)) hb);clear HB;have HO281:=n0_;have HB:=n1_;clear n0_ n1_;(try clear hb);(try clear hb2);(try clear hk);(try clear hi);(try clear ho0);obtain ⟨Ao9,co9,eo9⟩:=Kd.N_slice HO281.out;subst eo9))
  go_ret
  exact ⟨by first|rfl|(simp [errW_none,errW_some] <;> rfl)|(simp [*,errW_none,errW_some] <;> rfl),by repeat (first|(with_reducible first|exact HB.out|apply zD|apply zB|apply zC)|exact HB.out)⟩

/-! ### spec_l6In: function 40 -/
def spec_l6In.f (a0:Int) (a1:Int) (a2:Int):Option (Bool):=if a0 ≥ a1 then (some (decide (a0≤a2))) else (some false)
set_option maxHeartbeats 8000000 in
set_option maxRecDepth 100000 in
theorem spec_l6In.calls (a0:Int) (a1:Int) (a2:Int) (r:Bool) (w:World) (h:spec_l6In.f a0 a1 a2 = some r) :
  Calls Try.prog 40 #[.int .i64 a0,.int .i64 a1,.int .i64 a2] w fun e w'=>e = .returned (.bool r)∧Drawn0 w w':=by
 have H:(if a0 ≥ a1 then (some (decide (a0≤a2))) else (some false)) = some r:=h
 clear h
 by_cases c4:a0 ≥ a1
 ·rw [if_pos c4] at H
  have c4b0:decide (a1≤a0) = true:=zU c4
  clear c4
  obtain rfl:=zb H
  go_enter Try.func40,Try.ntmps40
  go_wp2
  go_ret
  exact ⟨by first|rfl|(simp;done)|(simp [*];done),by repeat (first|exact Drawn0.refl _|apply Drawn0.step)⟩
 ·rw [if_neg c4] at H
  have c4b0:decide (a1≤a0) = false:=zV c4
  clear c4
  obtain rfl:=zb H
  go_enter Try.func40,Try.ntmps40
  go_wp2
  go_ret
  exact ⟨by first|rfl|(simp;done)|(simp [*];done),by repeat (first|exact Drawn0.refl _|apply Drawn0.step)⟩

/-! ### spec_l2Order: function 98 -/
def spec_l2Order.l0:Nat→List Int→List Int→Int→Option (Int)
 | 0,_,_,_=>none
 | k+1,x0,x1,x5=>if x5 < (x0.length:Int) then (if 0≤x5 then (if x5 < (x1.length:Int) then (if (rd x0 x5) < (rd x1 x5) then (some (-1)) else (if (rd x0 x5) > (rd x1 x5) then (some 1) else (spec_l2Order.l0 k x0 x1 (wrap64 (x5+1))))) else (none)) else (none)) else (some 0)
def spec_l2Order.f (k:Nat) (l0:List Int) (l1:List Int):Option (Int):=spec_l2Order.l0 k l0 l1 0
theorem spec_l2Order.mono_l:∀ k,(∀ y0 y1 y2,LeO (spec_l2Order.l0 k y0 y1 y2) (spec_l2Order.l0 (k+1) y0 y1 y2))
 | 0=>fun _ _ _ r h=>by simp [spec_l2Order.l0] at h
 | k+1=>by
  have ih0:=spec_l2Order.mono_l k
  ·intro y0 y1 y2
   unfold spec_l2Order.l0
   repeat' first
   | (with_reducible exact ih0 _ _ _)
   | (with_reducible exact LeO.refl _)
   | (with_reducible exact zm _)
   | (with_reducible refine zo ?_ ?_)
   | (with_reducible refine zn ?_ (fun _=>?_))
   | exact ih0 _ _ _
   | exact zm _
   | refine zo ?_ ?_
   | refine zn ?_ (fun _=>?_)
theorem spec_l2Order.mono:∀ a0 a1 k,LeO (spec_l2Order.f k a0 a1) (spec_l2Order.f (k+1) a0 a1):=by
 intro a0 a1 k
 have ih0:=spec_l2Order.mono_l k
 unfold spec_l2Order.f
 repeat' first
   | (with_reducible exact ih0 _ _ _)
   | (with_reducible exact LeO.refl _)
   | (with_reducible exact zm _)
   | (with_reducible refine zo ?_ ?_)
   | (with_reducible refine zn ?_ (fun _=>?_))
   | exact ih0 _ _ _
   | exact zm _
   | refine zo ?_ ?_
   | refine zn ?_ (fun _=>?_)
set_option maxHeartbeats 8000000 in
set_option maxRecDepth 100000 in
theorem spec_l2Order.calls (k:Nat) (A0:Option Addr) (c0:Nat) (l0:List Int) (A1:Option Addr) (c1:Nat) (l1:List Int) (r:Int) (w:World) (hr0:Kd.C (Kd.int .i64) w A0 l0.length l0) (hc0:l0.length≤c0) (hr1:Kd.C (Kd.int .i64) w A1 l1.length l1) (hc1:l1.length≤c1) (h:spec_l2Order.f k l0 l1 = some r) :
  Calls Try.prog 98 #[.slice A0 l0.length c0,.slice A1 l1.length c1] w fun e w'=>e = .returned (.int .i64 r)∧Drawn0 w w':=by
 have HR0:=zA hr0
 have HC0:=zA hc0
 clear hr0 hc0
 have HR1:=zA hr1
 have HC1:=zA hc1
 clear hr1 hc1
 have H:(spec_l2Order.l0 k l0 l1 0) = some r:=h
 clear h
 have H':=zA H
 clear H
 go_enter Try.func98,Try.ntmps98
 go_wp2
 repeat (go_quiet (fail);try go_wp2)
 go_loopg [5] k (fun kq v5 w' => ∃ (x5_1:Int),v5 = .int .i64 x5_1∧Aside0 (spec_l2Order.l0 kq l0 l1 x5_1 = some r)∧Aside0 (kq≤k)∧Drawn0 w w')
 case atStart=>exact ⟨(0),(by first|rfl|(simp;done)|(simp [*];done)),H',⟨Nat.le_refl _⟩,by repeat (first|exact Drawn0.refl _|apply Drawn0.step)⟩
 case round =>
  clear H'
  try clear c1
  try clear p2
  obtain ⟨x5_1,rfl,HA,HK1,⟨m1,rfl⟩⟩:=hrel
  cases gk with
  | zero=>exact absurd HA.out (by simp [spec_l2Order.l0])
  | succ k1 =>
   have H:=HA.out
   clear HA
   simp only [spec_l2Order.l0] at H
   by_cases c3:x5_1 < (l0.length:Int)
   ·rw [if_pos c3] at H
    have c3b0:decide (x5_1 < (l0.length:Int)) = true:=zU c3
    clear c3
    by_cases c4:0≤x5_1
    ·rw [if_pos c4] at H
     have c4b0:decide (0≤x5_1) = true:=zU c4
     clear c4
     by_cases c5:x5_1 < (l1.length:Int)
     ·rw [if_pos c5] at H
      have c5b0:decide (x5_1 < (l1.length:Int)) = true:=zU c5
      clear c5
      by_cases c6:(rd l0 x5_1) < (rd l1 x5_1)
      ·rw [if_pos c6] at H
       have c6b0:decide ((rd l0 x5_1) < (rd l1 x5_1)) = true:=zU c6
       clear c6
       obtain rfl:=zb H
       have p282:0≤(x5_1:Int):=zF (by first|(with_reducible assumption)|assumption)
       have q282:x5_1 < (l0.length:Int):=zF (by first|(with_reducible assumption)|assumption)
       obtain ⟨ad282,e282,hx282_0⟩:=Kd.at_int HR0.out x5_1 p282 q282
       cases e282
       replace p282:=eq_true p282
       replace q282:=eq_true q282
       have p283:0≤(x5_1:Int):=zF (by first|(with_reducible assumption)|assumption)
       have q283:x5_1 < (l1.length:Int):=zF (by first|(with_reducible assumption)|assumption)
       obtain ⟨ad283,e283,hx283_0⟩:=Kd.at_int HR1.out x5_1 p283 q283
       cases e283
       replace p283:=eq_true p283
       replace q283:=eq_true q283
       go_wp2
       repeat (go_quiet (fail);try go_wp2)
       go_ret
       exact ⟨by first|rfl|(simp;done)|(simp [*];done),by repeat (first|exact Drawn0.refl _|apply Drawn0.step)⟩
      ·rw [if_neg c6] at H
       have c6b0:decide ((rd l0 x5_1) < (rd l1 x5_1)) = false:=zV c6
       clear c6
       by_cases c7:(rd l0 x5_1) > (rd l1 x5_1)
       ·rw [if_pos c7] at H
        have c7b0:decide ((rd l1 x5_1) < (rd l0 x5_1)) = true:=zU c7
        clear c7
        obtain rfl:=zb H
        have p282:0≤(x5_1:Int):=zF (by first|(with_reducible assumption)|assumption)
        have q282:x5_1 < (l0.length:Int):=zF (by first|(with_reducible assumption)|assumption)
        obtain ⟨ad282,e282,hx282_0⟩:=Kd.at_int HR0.out x5_1 p282 q282
        cases e282
        replace p282:=eq_true p282
        replace q282:=eq_true q282
        have p283:0≤(x5_1:Int):=zF (by first|(with_reducible assumption)|assumption)
        have q283:x5_1 < (l1.length:Int):=zF (by first|(with_reducible assumption)|assumption)
        obtain ⟨ad283,e283,hx283_0⟩:=Kd.at_int HR1.out x5_1 p283 q283
        cases e283
        replace p283:=eq_true p283
        replace q283:=eq_true q283
        have p284:0≤(x5_1:Int):=zF (by first|(with_reducible assumption)|assumption)
        have q284:x5_1 < (l0.length:Int):=zF (by first|(with_reducible assumption)|assumption)
        obtain ⟨ad284,e284,hx284_0⟩:=Kd.at_int HR0.out x5_1 p284 q284
        obtain rfl:ad282 = ad284:=(by injection e284)
        replace p284:=eq_true p284
        replace q284:=eq_true q284
        have p285:0≤(x5_1:Int):=zF (by first|(with_reducible assumption)|assumption)
        have q285:x5_1 < (l1.length:Int):=zF (by first|(with_reducible assumption)|assumption)
        obtain ⟨ad285,e285,hx285_0⟩:=Kd.at_int HR1.out x5_1 p285 q285
        obtain rfl:ad283 = ad285:=(by injection e285)
        replace p285:=eq_true p285
        replace q285:=eq_true q285
        go_wp2
        repeat (go_quiet (fail);try go_wp2)
        go_ret
        exact ⟨by first|rfl|(simp;done)|(simp [*];done),by repeat (first|exact Drawn0.refl _|apply Drawn0.step)⟩
       ·rw [if_neg c7] at H
        have c7b0:decide ((rd l1 x5_1) < (rd l0 x5_1)) = false:=zV c7
        clear c7
        have H':=zA H
        clear H
        have p282:0≤(x5_1:Int):=zF (by first|(with_reducible assumption)|assumption)
        have q282:x5_1 < (l0.length:Int):=zF (by first|(with_reducible assumption)|assumption)
        obtain ⟨ad282,e282,hx282_0⟩:=Kd.at_int HR0.out x5_1 p282 q282
        cases e282
        replace p282:=eq_true p282
        replace q282:=eq_true q282
        have p283:0≤(x5_1:Int):=zF (by first|(with_reducible assumption)|assumption)
        have q283:x5_1 < (l1.length:Int):=zF (by first|(with_reducible assumption)|assumption)
        obtain ⟨ad283,e283,hx283_0⟩:=Kd.at_int HR1.out x5_1 p283 q283
        cases e283
        replace p283:=eq_true p283
        replace q283:=eq_true q283
        have p284:0≤(x5_1:Int):=zF (by first|(with_reducible assumption)|assumption)
        have q284:x5_1 < (l0.length:Int):=zF (by first|(with_reducible assumption)|assumption)
        obtain ⟨ad284,e284,hx284_0⟩:=Kd.at_int HR0.out x5_1 p284 q284
        obtain rfl:ad282 = ad284:=(by injection e284)
        replace p284:=eq_true p284
        replace q284:=eq_true q284
        have p285:0≤(x5_1:Int):=zF (by first|(with_reducible assumption)|assumption)
        have q285:x5_1 < (l1.length:Int):=zF (by first|(with_reducible assumption)|assumption)
        obtain ⟨ad285,e285,hx285_0⟩:=Kd.at_int HR1.out x5_1 p285 q285
        obtain rfl:ad283 = ad285:=(by injection e285)
        replace p285:=eq_true p285
        replace q285:=eq_true q285
        go_wp2
        repeat (go_quiet (fail);try go_wp2)
        go_roundg k1
        case measure=>have:=HK1.out;omega
        case rel=>exact ⟨(wrap64 (x5_1+1)),(by first|rfl|(simp;done)|(simp [*];done)),H',⟨by have:=HK1.out;omega⟩,by repeat (first|exact Drawn0.refl _|apply Drawn0.step)⟩
     ·rw [if_neg c5] at H
      exact absurd H (by simp)
    ·rw [if_neg c4] at H
     exact absurd H (by simp)
   ·rw [if_neg c3] at H
    have c3b0:decide (x5_1 < (l0.length:Int)) = false:=zV c3
    clear c3
    obtain rfl:=zb H
    go_wp2
    repeat (go_quiet (fail);try go_wp2)
    go_ret
    exact ⟨by first|rfl|(simp;done)|(simp [*];done),by repeat (first|exact Drawn0.refl _|apply Drawn0.step)⟩

/-! ### spec_l2Before: function 83 -/
def spec_l2Before.f (k:Nat) (l0_0:List Int) (l0_1:List Int) (l1_0:List Int) (l1_1:List Int):Option (Int):=(spec_l2Order.f k l0_0 l1_0).bind fun t288=>(if t288 = 0 then ((spec_l2Order.f k l0_1 l1_1).bind fun t289=>(some t289)) else (some t288))
theorem spec_l2Before.mono:∀ a0 a1 a2 a3 k,LeO (spec_l2Before.f k a0 a1 a2 a3) (spec_l2Before.f (k+1) a0 a1 a2 a3):=by
 intro a0 a1 a2 a3 k
 unfold spec_l2Before.f
 repeat' first
   | (with_reducible exact spec_l2Order.mono _ _ _)
   | (with_reducible exact LeO.refl _)
   | (with_reducible exact zm _)
   | (with_reducible refine zo ?_ ?_)
   | (with_reducible refine zn ?_ (fun _=>?_))
   | exact spec_l2Order.mono _ _ _
   | exact zm _
   | refine zo ?_ ?_
   | refine zn ?_ (fun _=>?_)
set_option maxHeartbeats 8000000 in
set_option maxRecDepth 100000 in
theorem spec_l2Before.calls (k:Nat) (A0_0:Option Addr) (c0_0:Nat) (l0_0:List Int) (A0_1:Option Addr) (c0_1:Nat) (l0_1:List Int) (A1_0:Option Addr) (c1_0:Nat) (l1_0:List Int) (A1_1:Option Addr) (c1_1:Nat) (l1_1:List Int) (r:Int) (w:World) (hr0_0:Kd.C (Kd.int .i64) w A0_0 l0_0.length l0_0) (hc0_0:l0_0.length≤c0_0) (hr0_1:Kd.C (Kd.int .i64) w A0_1 l0_1.length l0_1) (hc0_1:l0_1.length≤c0_1) (hr1_0:Kd.C (Kd.int .i64) w A1_0 l1_0.length l1_0) (hc1_0:l1_0.length≤c1_0) (hr1_1:Kd.C (Kd.int .i64) w A1_1 l1_1.length l1_1) (hc1_1:l1_1.length≤c1_1) (h:spec_l2Before.f k l0_0 l0_1 l1_0 l1_1 = some r) :
  Calls Try.prog 83 #[.agg #[.slice A0_0 l0_0.length c0_0,.slice A0_1 l0_1.length c0_1],.agg #[.slice A1_0 l1_0.length c1_0,.slice A1_1 l1_1.length c1_1]] w fun e w'=>e = .returned (.int .i64 r)∧Below w.heap.size w w':=by
 have hu33:=Try.underlying33
 have HR0_0:=zA hr0_0
 have HC0_0:=zA hc0_0
 clear hr0_0 hc0_0
 have HR0_1:=zA hr0_1
 have HC0_1:=zA hc0_1
 clear hr0_1 hc0_1
 have HR1_0:=zA hr1_0
 have HC1_0:=zA hc1_0
 clear hr1_0 hc1_0
 have HR1_1:=zA hr1_1
 have HC1_1:=zA hc1_1
 clear hr1_1 hc1_1
 have HB:=zA (Below.refl w.heap.size w)
 have H:((spec_l2Order.f k l0_0 l1_0).bind fun t288=>(if t288 = 0 then ((spec_l2Order.f k l0_1 l1_1).bind fun t289=>(some t289)) else (some t288))) = some r:=h
 clear h
 replace H:=zz0 H
 obtain ⟨t288,A30,H⟩:=H
 replace H:(if t288 = 0 then ((spec_l2Order.f k l0_1 l1_1).bind fun t289=>(some t289)) else (some t288)) = some r:=H
 have A3:=zA A30
 clear A30
 by_cases c4:t288 = 0
 ·rw [if_pos c4] at H
  have c4b0:(t288 == 0) = true:=beq_iff_eq.mpr c4
  have c4b1:(t288 != 0) = false:=bne_eq_false_iff_eq.mpr c4
  clear c4
  replace H:=zz0 H
  obtain ⟨t289,A50,H⟩:=H
  replace H:(some t289) = some r:=H
  have A5:=zA A50
  clear A50
  obtain rfl:=zb H
  go_enter Try.func83,Try.ntmps83
  go_wp2_with (first|((with_reducible refine gate_dst (N:=2) rfl ?_);refine box_event ?hg (N:=2) ?hd (cs:=#[.slice A0_0 l0_0.length c0_0,.slice A0_1 l0_1.length c0_1]) (t:=33) ?hr ?_;(case hd=>rfl);(case hg=>rfl);(case hr=>first|(go_simp;done)|(go_simp;rfl));intro gb286 hg w6 hbox hb;have n0_:=zA (za (by repeat (first|(with_reducible first|exact HB.out|apply zD|apply zB|apply zC)|exact HB.out)) hb);have n1_:=zA (hbox);have n2_:=zA ((by rw [hg];exact (zZ (by repeat (first|(with_reducible first|exact HB.out|apply zD|apply zB|apply zC)|exact HB.out))):w.heap.size≤gb286));have n3_:=zA ((by rw [hg];exact (zZ (by repeat (first|(with_reducible first|exact HB.out|apply zD|apply zB|apply zC)|exact HB.out))):w.heap.size≤gb286));clear HB;have HB:=n0_;have BK286:=n1_;have GW286:=n2_;have GE286:=n3_;clear n0_ n1_ n2_ n3_;clear hb hbox hg)|((with_reducible refine gate_dst (N:=3) rfl ?_);refine box_event ?hg (N:=3) ?hd (cs:=#[.slice A1_0 l1_0.length c1_0,.slice A1_1 l1_1.length c1_1]) (t:=33) ?hr ?_;(case hd=>rfl);(case hg=>rfl);(case hr=>first|(go_simp;done)|(go_simp;rfl));intro gb287 hg w7 hbox hb;have n0_:=zA (zg (g:=gb286) (o:=.cells #[.slice A0_0 l0_0.length c0_0,.slice A0_1 l0_1.length c0_1] 33 (0,0)) (by (with_reducible repeat (first|refine zM ?_ _|refine zO ?_|refine zN ?_ _));exact BK286.out) hb);have n1_:=zA (za (by repeat (first|(with_reducible first|exact HB.out|apply zD|apply zB|apply zC|refine zI ?_ GE286.out)|exact HB.out)) hb);have n2_:=zA (hbox);have n3_:=zA ((by rw [hg];exact (zZ (by repeat (first|(with_reducible first|exact HB.out|apply zD|apply zB|apply zC|refine zI ?_ GE286.out)|exact HB.out))):w.heap.size≤gb287));have n4_:=zA ((by rw [hg];exact (zZ (by repeat (first|(with_reducible first|exact HB.out|apply zD|apply zB|apply zC|refine zI ?_ GE286.out)|exact HB.out))):w.heap.size≤gb287));have n5_:=zA ((by rw [hg];exact Nat.ne_of_lt (blk_lt (g:=gb286) (o:=.cells #[.slice A0_0 l0_0.length c0_0,.slice A0_1 l0_1.length c0_1] 33 (0,0)) (by (with_reducible repeat (first|refine zM ?_ _|refine zO ?_|refine zN ?_ _));exact BK286.out)):gb286≠gb287));have n6_:=zA ((by rw [hg];exact Nat.ne_of_gt (blk_lt (g:=gb286) (o:=.cells #[.slice A0_0 l0_0.length c0_0,.slice A0_1 l0_1.length c0_1] 33 (0,0)) (by (with_reducible repeat (first|refine zM ?_ _|refine zO ?_|refine zN ?_ _));exact BK286.out)):gb287≠gb286));clear BK286;clear HB;have BK286:=n0_;have HB:=n1_;have BK287:=n2_;have GW287:=n3_;have GE287:=n4_;have NB286_287:=n5_;have NB287_286:=n6_;clear n0_ n1_ n2_ n3_ n4_ n5_ n6_;clear hb hbox hg;have hnb8:=NB286_287.out;have hnc8:=NB287_286.out;have hcz9_0:w7.cell? ⟨gb286,0,none⟩ = some (.slice A0_0 l0_0.length c0_0):=(zc BK286.out 0).trans rfl;have hcz9_1:w7.cell? ⟨gb286,1,none⟩ = some (.slice A0_1 l0_1.length c0_1):=(zc BK286.out 1).trans rfl;have hfz9_0:=zl BK286.out 0;have hfz9_1:=zl BK286.out 1;have hcz10_0:w7.cell? ⟨gb287,0,none⟩ = some (.slice A1_0 l1_0.length c1_0):=(zc BK287.out 0).trans rfl;have hcz10_1:w7.cell? ⟨gb287,1,none⟩ = some (.slice A1_1 l1_1.length c1_1):=(zc BK287.out 1).trans rfl;have hfz10_0:=zl BK287.out 0;have hfz10_1:=zl BK287.out 1)|((with_reducible refine gate_callee (f:=98) rfl ?_);refine goesL_ (some 10) rfl rfl Try.func98 (by kernel_rfl) rfl #[.slice A0_0 l0_0.length c0_0,.slice A1_0 l1_0.length c1_0] rfl (by (try simp only [zP,zS,zT]);first|done|rfl|(simp only [zR,zQ];rfl)) ?_;(with_reducible refine (spec_l2Order.calls k _ _ l0_0 _ _ l1_0 t288 _ ?side1 ?side2 ?side3 ?side4 A3.out).mono ?_);(case side1=>repeat (first|exact (zf HR0_0.out HB.out)|(with_reducible exact HR0_0.out)|(with_reducible refine zW ?_ _)|(with_reducible refine zX ?_ _)|(with_reducible refine zY ?_)));(case side2=>exact HC0_0.out);(case side3=>repeat (first|exact (zf HR1_0.out HB.out)|(with_reducible exact HR1_0.out)|(with_reducible refine zW ?_ _)|(with_reducible refine zX ?_ _)|(with_reducible refine zY ?_)));(case side4=>exact HC1_0.out);rintro e w' ⟨rfl,⟨nd,rfl⟩⟩;refine ⟨_,rfl,?_⟩)|((with_reducible refine gate_callee (f:=98) rfl ?_);refine goesL_ (some 18) rfl rfl Try.func98 (by kernel_rfl) rfl #[.slice A0_1 l0_1.length c0_1,.slice A1_1 l1_1.length c1_1] rfl (by (try simp only [zP,zS,zT]);first|done|rfl|(simp only [zR,zQ];rfl)) ?_;(with_reducible refine (spec_l2Order.calls k _ _ l0_1 _ _ l1_1 t289 _ ?side1 ?side2 ?side3 ?side4 A5.out).mono ?_);(case side1=>repeat (first|exact (zf HR0_1.out (by repeat (first|(with_reducible first|exact HB.out|apply zD|apply zB|apply zC|refine zI ?_ GE286.out|refine zI ?_ GE287.out)|exact HB.out)))|(with_reducible refine zW ?_ _)|(with_reducible refine zX ?_ _)|(with_reducible refine zY ?_)));(case side2=>exact HC0_1.out);(case side3=>repeat (first|exact (zf HR1_1.out (by repeat (first|(with_reducible first|exact HB.out|apply zD|apply zB|apply zC|refine zI ?_ GE286.out|refine zI ?_ GE287.out)|exact HB.out)))|(with_reducible refine zW ?_ _)|(with_reducible refine zX ?_ _)|(with_reducible refine zY ?_)));(case side4=>exact HC1_1.out);rintro e w' ⟨rfl,⟨nd,rfl⟩⟩;refine ⟨_,rfl,?_⟩))
  go_ret
  exact ⟨by first|rfl|(simp [errW_none,errW_some] <;> rfl)|(simp [*,errW_none,errW_some] <;> rfl),by repeat (first|(with_reducible first|exact HB.out|apply zD|apply zB|apply zC|refine zI ?_ GE286.out|refine zI ?_ GE287.out)|exact HB.out)⟩
 ·rw [if_neg c4] at H
  have c4b0:(t288 == 0) = false:=beq_eq_false_iff_ne.mpr c4
  have c4b1:(t288 != 0) = true:=bne_iff_ne.mpr c4
  obtain rfl:=zb H
  go_enter Try.func83,Try.ntmps83
  go_wp2_with (first|((with_reducible refine gate_dst (N:=2) rfl ?_);refine box_event ?hg (N:=2) ?hd (cs:=#[.slice A0_0 l0_0.length c0_0,.slice A0_1 l0_1.length c0_1]) (t:=33) ?hr ?_;(case hd=>rfl);(case hg=>rfl);(case hr=>first|(go_simp;done)|(go_simp;rfl));intro gb286 hg w11 hbox hb;have n0_:=zA (za (by repeat (first|(with_reducible first|exact HB.out|apply zD|apply zB|apply zC)|exact HB.out)) hb);have n1_:=zA (hbox);have n2_:=zA ((by rw [hg];exact (zZ (by repeat (first|(with_reducible first|exact HB.out|apply zD|apply zB|apply zC)|exact HB.out))):w.heap.size≤gb286));have n3_:=zA ((by rw [hg];exact (zZ (by repeat (first|(with_reducible first|exact HB.out|apply zD|apply zB|apply zC)|exact HB.out))):w.heap.size≤gb286));clear HB;have HB:=n0_;have BK286:=n1_;have GW286:=n2_;have GE286:=n3_;clear n0_ n1_ n2_ n3_;clear hb hbox hg)|((with_reducible refine gate_dst (N:=3) rfl ?_);refine box_event ?hg (N:=3) ?hd (cs:=#[.slice A1_0 l1_0.length c1_0,.slice A1_1 l1_1.length c1_1]) (t:=33) ?hr ?_;(case hd=>rfl);(case hg=>rfl);(case hr=>first|(go_simp;done)|(go_simp;rfl));intro gb287 hg w12 hbox hb;have n0_:=zA (zg (g:=gb286) (o:=.cells #[.slice A0_0 l0_0.length c0_0,.slice A0_1 l0_1.length c0_1] 33 (0,0)) (by (with_reducible repeat (first|refine zM ?_ _|refine zO ?_|refine zN ?_ _));exact BK286.out) hb);have n1_:=zA (za (by repeat (first|(with_reducible first|exact HB.out|apply zD|apply zB|apply zC|refine zI ?_ GE286.out)|exact HB.out)) hb);have n2_:=zA (hbox);have n3_:=zA ((by rw [hg];exact (zZ (by repeat (first|(with_reducible first|exact HB.out|apply zD|apply zB|apply zC|refine zI ?_ GE286.out)|exact HB.out))):w.heap.size≤gb287));have n4_:=zA ((by rw [hg];exact (zZ (by repeat (first|(with_reducible first|exact HB.out|apply zD|apply zB|apply zC|refine zI ?_ GE286.out)|exact HB.out))):w.heap.size≤gb287));have n5_:=zA ((by rw [hg];exact Nat.ne_of_lt (blk_lt (g:=gb286) (o:=.cells #[.slice A0_0 l0_0.length c0_0,.slice A0_1 l0_1.length c0_1] 33 (0,0)) (by (with_reducible repeat (first|refine zM ?_ _|refine zO ?_|refine zN ?_ _));exact BK286.out)):gb286≠gb287));have n6_:=zA ((by rw [hg];exact Nat.ne_of_gt (blk_lt (g:=gb286) (o:=.cells #[.slice A0_0 l0_0.length c0_0,.slice A0_1 l0_1.length c0_1] 33 (0,0)) (by (with_reducible repeat (first|refine zM ?_ _|refine zO ?_|refine zN ?_ _));exact BK286.out)):gb287≠gb286));clear BK286;clear HB;have BK286:=n0_;have HB:=n1_;have BK287:=n2_;have GW287:=n3_;have GE287:=n4_;have NB286_287:=n5_;have NB287_286:=n6_;clear n0_ n1_ n2_ n3_ n4_ n5_ n6_;clear hb hbox hg;have hnb13:=NB286_287.out;have hnc13:=NB287_286.out;have hcz14_0:w12.cell? ⟨gb286,0,none⟩ = some (.slice A0_0 l0_0.length c0_0):=(zc BK286.out 0).trans rfl;have hcz14_1:w12.cell? ⟨gb286,1,none⟩ = some (.slice A0_1 l0_1.length c0_1):=(zc BK286.out 1).trans rfl;have hfz14_0:=zl BK286.out 0;have hfz14_1:=zl BK286.out 1;have hcz15_0:w12.cell? ⟨gb287,0,none⟩ = some (.slice A1_0 l1_0.length c1_0):=(zc BK287.out 0).trans rfl;have hcz15_1:w12.cell? ⟨gb287,1,none⟩ = some (.slice A1_1 l1_1.length c1_1):=(zc BK287.out 1).trans rfl;have hfz15_0:=zl BK287.out 0;have hfz15_1:=zl BK287.out 1)|((with_reducible refine gate_callee (f:=98) rfl ?_);refine goesL_ (some 10) rfl rfl Try.func98 (by kernel_rfl) rfl #[.slice A0_0 l0_0.length c0_0,.slice A1_0 l1_0.length c1_0] rfl (by (try simp only [zP,zS,zT]);first|done|rfl|(simp only [zR,zQ];rfl)) ?_;(with_reducible refine (spec_l2Order.calls k _ _ l0_0 _ _ l1_0 t288 _ ?side1 ?side2 ?side3 ?side4 A3.out).mono ?_);(case side1=>repeat (first|exact (zf HR0_0.out HB.out)|(with_reducible exact HR0_0.out)|(with_reducible refine zW ?_ _)|(with_reducible refine zX ?_ _)|(with_reducible refine zY ?_)));(case side2=>exact HC0_0.out);(case side3=>repeat (first|exact (zf HR1_0.out HB.out)|(with_reducible exact HR1_0.out)|(with_reducible refine zW ?_ _)|(with_reducible refine zX ?_ _)|(with_reducible refine zY ?_)));(case side4=>exact HC1_0.out);rintro e w' ⟨rfl,⟨nd,rfl⟩⟩;refine ⟨_,rfl,?_⟩))
  go_ret
  exact ⟨by first|rfl|(simp [errW_none,errW_some] <;> rfl)|(simp [*,errW_none,errW_some] <;> rfl),by repeat (first|(with_reducible first|exact HB.out|apply zD|apply zB|apply zC|refine zI ?_ GE286.out|refine zI ?_ GE287.out)|exact HB.out)⟩

end Go.Proofs.Ytdaiohcgdpclnaa.Q
