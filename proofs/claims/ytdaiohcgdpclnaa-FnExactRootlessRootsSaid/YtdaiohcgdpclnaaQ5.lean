import Derived.Test.YtdaiohcgdpclnaaQ0
import Derived.Test.YtdaiohcgdpclnaaQ3
import Derived.Test.YtdaiohcgdpclnaaQ4
import Derived.Test.YtdaiohcgdpclnaaZ
namespace Go.Proofs.Ytdaiohcgdpclnaa.Q
open Go.RowKit Go.Proofs.YtdaiohcgdpclnaaW.PrintWords Go.Proofs.YtdaiohcgdpclnaaW.PrintLast Go.Proofs.YtdaiohcgdpclnaaW.PrintMore
attribute [local go_sem] max2_int min2_int max_two min_two max_three min_three max_four min_four   -- for this text's walks alone
set_option linter.unusedVariables false
set_option linter.unusedSimpArgs false

/-! ### impl_leastForm: function 63 -/
def impl_leastForm.l0:Nat→Int→Int→List Int→List Int→List Int→List Int→Option (List Int × List Int)
 | 0,_,_,_,_,_,_=>none
 | k+1,x12,x13,x238000,x238001,x249000,x249001=>if x13 < x12 then ((impl_namesFrom.f k x238000 x238001 x13).bind fun t249=>((impl_renamed.f k x238000 x238001 t249).bind fun bt252=>((impl_compareMaps.f k bt252.1 bt252.2 x249000 x249001).bind fun t259=>(if t259 < 0 then (impl_leastForm.l0 k x12 (wrap64 (x13+1)) x238000 x238001 bt252.1 bt252.2) else (impl_leastForm.l0 k x12 (wrap64 (x13+1)) x238000 x238001 x249000 x249001))))) else (some (x249000,x249001))
def impl_leastForm.f (k:Nat) (l0_0:List Int) (l0_1:List Int):Option (List Int × List Int):=(impl_namesFrom.f k l0_0 l0_1 0).bind fun t239=>((impl_renamed.f k l0_0 l0_1 t239).bind fun bt242=>(impl_leastForm.l0 k (l0_0.length:Int) 0 l0_0 l0_1 bt242.1 bt242.2))
theorem impl_leastForm.mono_l:∀ k,(∀ y0 y1 y2 y3 y4 y5,LeO (impl_leastForm.l0 k y0 y1 y2 y3 y4 y5) (impl_leastForm.l0 (k+1) y0 y1 y2 y3 y4 y5))
 | 0=>fun _ _ _ _ _ _ r h=>by simp [impl_leastForm.l0] at h
 | k+1=>by
  have ih0:=impl_leastForm.mono_l k
  ·intro y0 y1 y2 y3 y4 y5
   unfold impl_leastForm.l0
   repeat' first
   | (with_reducible exact ih0 _ _ _ _ _ _)
   | (with_reducible exact impl_compareMaps.mono _ _ _ _ _)
   | (with_reducible exact impl_namesFrom.mono _ _ _ _)
   | (with_reducible exact impl_renamed.mono _ _ _ _)
   | (with_reducible exact LeO.refl _)
   | (with_reducible exact za _)
   | (with_reducible refine zc ?_ ?_)
   | (with_reducible refine zb ?_ (fun _=>?_))
theorem impl_leastForm.mono:∀ a0 a1 k,LeO (impl_leastForm.f k a0 a1) (impl_leastForm.f (k+1) a0 a1):=by
 intro a0 a1 k
 have ih0:=impl_leastForm.mono_l k
 unfold impl_leastForm.f
 repeat' first
   | (with_reducible exact ih0 _ _ _ _ _ _)
   | (with_reducible exact impl_compareMaps.mono _ _ _ _ _)
   | (with_reducible exact impl_namesFrom.mono _ _ _ _)
   | (with_reducible exact impl_renamed.mono _ _ _ _)
   | (with_reducible exact LeO.refl _)
   | (with_reducible exact za _)
   | (with_reducible refine zc ?_ ?_)
   | (with_reducible refine zb ?_ (fun _=>?_))
set_option maxHeartbeats 8000000 in
set_option maxRecDepth 100000 in
theorem impl_leastForm.calls (k:Nat) (A0_0:Option Addr) (c0_0:Nat) (l0_0:List Int) (A0_1:Option Addr) (c0_1:Nat) (l0_1:List Int) (r1:List Int) (r2:List Int) (w:World) (hr0_0:Kd.C (Kd.int .i64) w A0_0 l0_0.length l0_0) (hc0_0:l0_0.length≤c0_0) (hr0_1:Kd.C (Kd.int .i64) w A0_1 l0_1.length l0_1) (hc0_1:l0_1.length≤c0_1) (h:impl_leastForm.f k l0_0 l0_1 = some (r1,r2)) :
  Calls Try.prog 63 #[.agg #[.slice A0_0 l0_0.length c0_0,.slice A0_1 l0_1.length c0_1]] w fun e w' => ∃ v0_ v1_:Value,e = .returned (.agg #[v0_,v1_])∧Kd.R (Kd.int .i64) 3 w' w.heap.size (fun k_=>some k_≠(v1_:Value).ownBlock) v0_ r1∧Kd.R (Kd.int .i64) 3 w' w.heap.size (fun k_=>some k_≠(v0_:Value).ownBlock) v1_ r2∧Below w.heap.size w w':=by
 have hu33:=Try.underlying33
 have HR0_0:=zA hr0_0
 have HC0_0:=zA hc0_0
 clear hr0_0 hc0_0
 have HR0_1:=zA hr0_1
 have HC0_1:=zA hc0_1
 clear hr0_1 hc0_1
 have HB:=zA (Below.refl w.heap.size w)
 have H:((impl_namesFrom.f k l0_0 l0_1 0).bind fun t239=>((impl_renamed.f k l0_0 l0_1 t239).bind fun bt242=>(impl_leastForm.l0 k (l0_0.length:Int) 0 l0_0 l0_1 bt242.1 bt242.2))) = some (r1,r2):=h
 clear h
 replace H:=zz0 H
 obtain ⟨t239,A20,H⟩:=H
 try dsimp only at H
 have A2:=zA A20
 clear A20
 replace H:=zz0 H
 obtain ⟨⟨t242,t245⟩,A30,H⟩:=H
 try dsimp only at H
 have A3:=zA A30
 clear A30
 have H':=zA H
 clear H
 go_enter Try.func63,Try.ntmps63
 try go_wp2_with (first|((with_reducible refine gate_dst (N:=1) rfl ?_);refine box_event ?hg (N:=1) ?hd (cs:=#[.slice A0_0 l0_0.length c0_0,.slice A0_1 l0_1.length c0_1]) (t:=33) ?hr ?_;(case hd=>rfl);(case hg=>rfl);(case hr=>first|(go_simp;done)|(go_simp;rfl));intro gb237 hg w4 hbox hb;have n0_:=zA (zR (by exact zB_ HB.out) hb);have n1_:=zA (hbox);have n2_:=zA ((by rw [hg];exact (zQ (by exact zB_ HB.out)):w.heap.size≤gb237));have n3_:=zA ((by rw [hg];exact (zQ (by exact zB_ HB.out)):w.heap.size≤gb237));clear HB;have HB:=n0_;have BK237:=n1_;have GW237:=n2_;have GE237:=n3_;clear n0_ n1_ n2_ n3_;clear hb hbox hg)|((with_reducible refine gate_dst (N:=2) rfl ?_);refine box_event ?hg (N:=2) ?hd (cs:=#[.slice none 0 0,.slice none 0 0]) (t:=33) ?hr ?_;(case hd=>rfl);(case hg=>rfl);(case hr=>first|(go_simp;done)|(go_simp;rfl));intro gb238 hg w5 hbox hb;have n0_:=zA (zX (g:=gb237) (o:=.cells #[.slice A0_0 l0_0.length c0_0,.slice A0_1 l0_1.length c0_1] 33 (0,0)) (by (with_reducible repeat (first|refine zG ?_ _|refine zI ?_|refine zH ?_ _));exact BK237.out) hb);have n1_:=zA (zR (by repeat (first|(with_reducible first|exact HB.out|apply zD|apply zB|apply zC|refine zF ?_ GE237.out)|exact HB.out)) hb);have n2_:=zA (hbox);have n3_:=zA ((by rw [hg];exact (zQ (by repeat (first|(with_reducible first|exact HB.out|apply zD|apply zB|apply zC|refine zF ?_ GE237.out)|exact HB.out))):w.heap.size≤gb238));have n4_:=zA ((by rw [hg];exact (zQ (by repeat (first|(with_reducible first|exact HB.out|apply zD|apply zB|apply zC|refine zF ?_ GE237.out)|exact HB.out))):w.heap.size≤gb238));have n5_:=zA ((by rw [hg];exact Nat.ne_of_lt (blk_lt (g:=gb237) (o:=.cells #[.slice A0_0 l0_0.length c0_0,.slice A0_1 l0_1.length c0_1] 33 (0,0)) (by (with_reducible repeat (first|refine zG ?_ _|refine zI ?_|refine zH ?_ _));exact BK237.out)):gb237≠gb238));have n6_:=zA ((by rw [hg];exact Nat.ne_of_gt (blk_lt (g:=gb237) (o:=.cells #[.slice A0_0 l0_0.length c0_0,.slice A0_1 l0_1.length c0_1] 33 (0,0)) (by (with_reducible repeat (first|refine zG ?_ _|refine zI ?_|refine zH ?_ _));exact BK237.out)):gb238≠gb237));clear BK237;clear HB;have BK237:=n0_;have HB:=n1_;have BK238:=n2_;have GW238:=n3_;have GE238:=n4_;have NB237_238:=n5_;have NB238_237:=n6_;clear n0_ n1_ n2_ n3_ n4_ n5_ n6_;clear hb hbox hg))
 have n0_:=zA (zI BK237.out)
 have n1_:=zA (zI BK238.out)
 have n2_:=zA (zC HB.out)
 clear BK237 BK238 HB
 have BK237:=n0_
 have BK238:=n1_
 have HB:=n2_
 clear n0_ n1_ n2_
 refine start_ (n:=6) (S:=fun w'=>w'.cell? ⟨gb237,0,none⟩ = some (.slice A0_0 l0_0.length c0_0)∧w'.cell? ⟨gb237,1,none⟩ = some (.slice A0_1 l0_1.length c0_1)) (ds:=[]) #[zf,zf,zf,zf,zf,zf] (by kernel_rfl) rfl rfl ⟨(zT BK237.out 0).trans rfl,(zT BK237.out 1).trans rfl⟩ (fun hHeld=>?_)
 generalize w5.drew = w6 at BK237 BK238 HB hHeld ⊢
 refine take_ (i:=0) (N:=some 6) (v:=?_) (a':=?_) #[zt,zf,zf,zf,zf,zf] rfl rfl (by kernel_rfl) (fun _ _ _ h=>h) (Or.inl ⟨by rfl,?_⟩) hHeld ?_ ?_
 rotate_left
 ·rintro w' ⟨s0,s1⟩
  go_simp
  with_reducible rfl
 rotate_left
 ·simp only [Act.put,zP_,i64_w]
  rfl
 refine take_ (i:=1) (N:=some 7) (v:=?_) (a':=?_) #[zt,zt,zf,zf,zf,zf] rfl rfl (by kernel_rfl) (fun _ _ _ h=>h) (Or.inl ⟨by rfl,?_⟩) hHeld ?_ ?_
 rotate_left
 ·rintro w' ⟨s0,s1⟩
  go_simp
  with_reducible rfl
 rotate_left
 ·simp only [Act.put,zP_,i64_w]
  rfl
 refine join_ (σ:=Value × Value × Value × Nat) 1 #[zt,zt,zt,zt,zt,zf] (fun s_=>[(8,s_.1),(9,.agg #[s_.2.1,s_.2.2.1]),(3,.pointer (some ⟨s_.2.2.2,0,none⟩))]) (fun s_ w'=>(w'.cell? ⟨gb237,0,none⟩ = some (.slice A0_0 l0_0.length c0_0)∧w'.cell? ⟨gb237,1,none⟩ = some (.slice A0_1 l0_1.length c0_1))∧(Kd.R (Kd.int .i64) 3 w' w.heap.size (fun k_=>some k_≠(s_.2.1:Value).ownBlock∧some k_≠(s_.2.2.1:Value).ownBlock) s_.1 t239)∧(Kd.R (Kd.int .i64) 3 w' w.heap.size (fun k_=>some k_≠(s_.1:Value).ownBlock∧some k_≠(s_.2.2.1:Value).ownBlock) s_.2.1 t242)∧(Kd.R (Kd.int .i64) 3 w' w.heap.size (fun k_=>some k_≠(s_.1:Value).ownBlock∧some k_≠(s_.2.1:Value).ownBlock) s_.2.2.1 t245)∧(w'.heap[gb237]? = some (.cells #[.slice A0_0 l0_0.length c0_0,.slice A0_1 l0_1.length c0_1] 33 (0,0)))∧(w'.heap[gb238]? = some (.cells #[.slice none 0 0,.slice none 0 0] 33 (0,0)))∧(w'.heap[s_.2.2.2]? = some (.cells #[.slice none 0 0,.slice none 0 0] 33 (0,0)))∧(w.heap.size≤s_.2.2.2)∧(w.heap.size≤s_.2.2.2)∧(gb237≠s_.2.2.2)∧(s_.2.2.2≠gb237)∧(gb238≠s_.2.2.2)∧(s_.2.2.2≠gb238)∧(Below w.heap.size w w')) ?_ ?_
 rotate_left
 ·intro hCont
  refine two_ (i:=2) (j:=4) (Ni:=some 8) (Nj:=some 3) #[zt,zt,zt,zf,zf,zf] #[zt,zt,zf,zf,zt,zf] rfl rfl rfl rfl (by kernel_rfl) (by decide) (by decide) (fun K hK=>?_) (fun K hK=>?_)
  ·skip
   refine goes_ Try.func48 (by kernel_rfl) rfl #[.agg #[.slice A0_0 l0_0.length c0_0,.slice A0_1 l0_1.length c0_1],.int .i64 0] (by rfl) rfl rfl (by (try simp only [zJ,zM,zN]);first|done|rfl|(simp only [zL,zK];rfl)) ?_
   with_reducible refine (impl_namesFrom.calls k _ _ l0_0 _ _ l0_1 0 t239 _ ?side1 ?side2 ?side3 ?side4 A2.out).mono ?_
   (case side1=>repeat (first|exact (zW HR0_0.out HB.out)|(with_reducible exact HR0_0.out)|apply zC_))
   (case side2=>exact HC0_0.out)
   (case side3=>repeat (first|exact (zW HR0_1.out HB.out)|(with_reducible exact HR0_1.out)|apply zC_))
   (case side4=>exact HC0_1.out)
   rintro e w7 ⟨v240,rfl,ho0,hb⟩
   refine ⟨_,rfl,?_⟩
   have n0_:=zA (ze ho0 (zQ (by repeat (first|(with_reducible first|exact HB.out|apply zD|apply zB|apply zC|refine zF ?_ GE237.out|refine zF ?_ GE238.out)|exact HB.out))))
   have n1_:=zA (zX (g:=gb237) (o:=.cells #[.slice A0_0 l0_0.length c0_0,.slice A0_1 l0_1.length c0_1] 33 (0,0)) (by (with_reducible repeat (first|refine zG ?_ _|refine zI ?_|refine zH ?_ _));exact BK237.out) hb)
   have n2_:=zA (zX (g:=gb238) (o:=.cells #[.slice none 0 0,.slice none 0 0] 33 (0,0)) (by (with_reducible repeat (first|refine zG ?_ _|refine zI ?_|refine zH ?_ _));exact BK238.out) hb)
   have n3_:=zA (zR (by repeat (first|(with_reducible first|exact HB.out|apply zD|apply zB|apply zC|refine zF ?_ GE237.out|refine zF ?_ GE238.out)|exact HB.out)) hb)
   clear BK237 BK238 HB
   have HO241:=n0_
   have BK237:=n1_
   have BK238:=n2_
   have HB:=n3_
   clear n0_ n1_ n2_ n3_
   (try clear hb);(try clear hb2);(try clear hk);(try clear hi);(try clear ho0)
   obtain ⟨Ao8,co8,eo8⟩:=zg HO241.out
   (first|subst eo8|(injection eo8 with f1_ f2_ f3_;have f4_:=f1_.symm;have f5_:=f3_.symm;clear f1_ f2_ f3_;subst f4_;subst f5_))
   refine hK.out _ _ ⟨(zT BK237.out 0).trans rfl,(zT BK237.out 1).trans rfl⟩ (fun hHeld=>?_)
   clear hK K
   refine norm_ (a':=?_) ?_ ?_
   rotate_left
   ·show Act.put _ (some 8) _ = _
    simp only [Act.put,zP_,i64_w]
    rfl
   refine two_ (i:=3) (j:=4) (Ni:=some 9) (Nj:=some 3) #[zt,zt,zt,zt,zf,zf] #[zt,zt,zt,zf,zt,zf] rfl rfl rfl rfl (by kernel_rfl) (by decide) (by decide) (fun K hK=>?_) (fun K hK=>?_)
   ·skip
    refine goes_ Try.func47 (by kernel_rfl) rfl #[.agg #[.slice A0_0 l0_0.length c0_0,.slice A0_1 l0_1.length c0_1],.slice Ao8 t239.length co8] (by rfl) rfl rfl (by (try simp only [zJ,zM,zN]);first|done|rfl|(simp only [zL,zK];rfl)) ?_
    with_reducible refine (impl_renamed.calls k _ _ l0_0 _ _ l0_1 _ _ t239 t242 t245 _ ?side1 ?side2 ?side3 ?side4 ?side5 ?side6 A3.out).mono ?_
    (case side1=>repeat (first|exact (zW HR0_0.out HB.out)|(with_reducible exact HR0_0.out)|apply zC_))
    (case side2=>exact HC0_0.out)
    (case side3=>repeat (first|exact (zW HR0_1.out HB.out)|(with_reducible exact HR0_1.out)|apply zC_))
    (case side4=>exact HC0_1.out)
    (case side5=>repeat (first|exact (zU HO241.out).2.2|apply zC_))
    (case side6=>exact (zU HO241.out).2.1)
    rintro e w9 ⟨v243,v246,rfl,ho0,ho1,hb⟩
    refine ⟨_,rfl,?_⟩
    have n0_:=zA (zV (Kd.R_told (Kd.R_told (Kd.R_old (by apply zR_;exact HO241.out) hb) (zd ho0)) (zd ho1)) (fun _ h_=>h_.1))
    have n1_:=zA (ze (zh ho0 (Kd.R_lt (by apply zR_;exact HO241.out))) (zQ (by repeat (first|(with_reducible first|exact HB.out|apply zD|apply zB|apply zC|refine zF ?_ GE237.out|refine zF ?_ GE238.out)|exact HB.out))))
    have n2_:=zA (ze (zh ho1 (Kd.R_lt (by apply zR_;exact HO241.out))) (zQ (by repeat (first|(with_reducible first|exact HB.out|apply zD|apply zB|apply zC|refine zF ?_ GE237.out|refine zF ?_ GE238.out)|exact HB.out))))
    have n3_:=zA (zX (g:=gb237) (o:=.cells #[.slice A0_0 l0_0.length c0_0,.slice A0_1 l0_1.length c0_1] 33 (0,0)) (by (with_reducible repeat (first|refine zG ?_ _|refine zI ?_|refine zH ?_ _));exact BK237.out) hb)
    have n4_:=zA (zX (g:=gb238) (o:=.cells #[.slice none 0 0,.slice none 0 0] 33 (0,0)) (by (with_reducible repeat (first|refine zG ?_ _|refine zI ?_|refine zH ?_ _));exact BK238.out) hb)
    have n5_:=zA (zR (by repeat (first|(with_reducible first|exact HB.out|apply zD|apply zB|apply zC|refine zF ?_ GE237.out|refine zF ?_ GE238.out)|exact HB.out)) hb)
    clear HO241 BK237 BK238 HB
    have HO241:=n0_
    have HO244:=n1_
    have HO247:=n2_
    have BK237:=n3_
    have BK238:=n4_
    have HB:=n5_
    clear n0_ n1_ n2_ n3_ n4_ n5_
    (try clear hb);(try clear hb2);(try clear hk);(try clear hi);(try clear ho0);(try clear ho1)
    refine hK.out _ _ ⟨(zT BK237.out 0).trans rfl,(zT BK237.out 1).trans rfl⟩ (fun hHeld=>?_)
    clear hK K
    refine norm_ (a':=?_) ?_ ?_
    rotate_left
    ·show Act.put _ (some 9) _ = _
     simp only [Act.put,zP_,i64_w]
     rfl
    refine one_ (i:=4) (N:=some 3) #[zt,zt,zt,zt,zt,zf] rfl rfl (by kernel_rfl) (by decide) (fun K hK=>?_)
    refine box_step ?hg (N:=3) ?hd (cs:=#[.slice none 0 0,.slice none 0 0]) (t:=33) ?hr ?_;(case hd=>rfl);(case hg=>rfl);(case hr=>first|(go_simp;done)|(go_simp;rfl))
    intro gb248 hg w10 hbox hb
    have n0_:=zA (zj (by apply zR_;exact HO241.out) hb)
    have n1_:=zA (zj (by apply zR_;exact HO244.out) hb)
    have n2_:=zA (zj (by apply zR_;exact HO247.out) hb)
    have n3_:=zA (zX (g:=gb237) (o:=.cells #[.slice A0_0 l0_0.length c0_0,.slice A0_1 l0_1.length c0_1] 33 (0,0)) (by (with_reducible repeat (first|refine zG ?_ _|refine zI ?_|refine zH ?_ _));exact BK237.out) hb)
    have n4_:=zA (zX (g:=gb238) (o:=.cells #[.slice none 0 0,.slice none 0 0] 33 (0,0)) (by (with_reducible repeat (first|refine zG ?_ _|refine zI ?_|refine zH ?_ _));exact BK238.out) hb)
    have n5_:=zA (zR (by repeat (first|(with_reducible first|exact HB.out|apply zD|apply zB|apply zC|refine zF ?_ GE237.out|refine zF ?_ GE238.out)|exact HB.out)) hb)
    have n6_:=zA (hbox)
    have n7_:=zA ((by rw [hg];exact (zQ (by repeat (first|(with_reducible first|exact HB.out|apply zD|apply zB|apply zC|refine zF ?_ GE237.out|refine zF ?_ GE238.out)|exact HB.out))):w.heap.size≤gb248))
    have n8_:=zA ((by rw [hg];exact (zQ (by repeat (first|(with_reducible first|exact HB.out|apply zD|apply zB|apply zC|refine zF ?_ GE237.out|refine zF ?_ GE238.out)|exact HB.out))):w.heap.size≤gb248))
    have n9_:=zA ((by rw [hg];exact Nat.ne_of_lt (blk_lt (g:=gb237) (o:=.cells #[.slice A0_0 l0_0.length c0_0,.slice A0_1 l0_1.length c0_1] 33 (0,0)) (by (with_reducible repeat (first|refine zG ?_ _|refine zI ?_|refine zH ?_ _));exact BK237.out)):gb237≠gb248))
    have n10_:=zA ((by rw [hg];exact Nat.ne_of_gt (blk_lt (g:=gb237) (o:=.cells #[.slice A0_0 l0_0.length c0_0,.slice A0_1 l0_1.length c0_1] 33 (0,0)) (by (with_reducible repeat (first|refine zG ?_ _|refine zI ?_|refine zH ?_ _));exact BK237.out)):gb248≠gb237))
    have n11_:=zA ((by rw [hg];exact Nat.ne_of_lt (blk_lt (g:=gb238) (o:=.cells #[.slice none 0 0,.slice none 0 0] 33 (0,0)) (by (with_reducible repeat (first|refine zG ?_ _|refine zI ?_|refine zH ?_ _));exact BK238.out)):gb238≠gb248))
    have n12_:=zA ((by rw [hg];exact Nat.ne_of_gt (blk_lt (g:=gb238) (o:=.cells #[.slice none 0 0,.slice none 0 0] 33 (0,0)) (by (with_reducible repeat (first|refine zG ?_ _|refine zI ?_|refine zH ?_ _));exact BK238.out)):gb248≠gb238))
    clear HO241 HO244 HO247 BK237 BK238 HB
    have HO241:=n0_
    have HO244:=n1_
    have HO247:=n2_
    have BK237:=n3_
    have BK238:=n4_
    have HB:=n5_
    have BK248:=n6_
    have GW248:=n7_
    have GE248:=n8_
    have NB237_248:=n9_
    have NB248_237:=n10_
    have NB238_248:=n11_
    have NB248_238:=n12_
    clear n0_ n1_ n2_ n3_ n4_ n5_ n6_ n7_ n8_ n9_ n10_ n11_ n12_ hb hbox hg
    refine hK.out _ _ ⟨(zT BK237.out 0).trans rfl,(zT BK237.out 1).trans rfl⟩ (fun hHeld=>?_)
    clear hK K
    refine norm_ (a':=?_) ?_ ?_
    rotate_left
    ·show Act.put _ (some 3) _ = _
     simp only [Act.put,zP_,i64_w]
     rfl
    exact norm_ (by simp only [putAll,Act.put,List.setIfInBounds_toArray,List.set_cons_zero,List.set_cons_succ]) (hCont (.slice Ao8 t239.length co8,v243,v246,gb248) _ ⟨hHeld,(by apply zR_;exact zV HO241.out (fun _ hk=>⟨hk.1.2,hk.2⟩)),(by apply zR_;exact zV HO244.out (fun _ hk=>⟨hk.2,hk.1⟩)),(by apply zR_;exact zV HO247.out (fun _ hk=>⟨hk.2,hk.1⟩)),(by (with_reducible repeat (first|refine zG ?_ _|refine zI ?_|refine zH ?_ _));exact BK237.out),(by (with_reducible repeat (first|refine zG ?_ _|refine zI ?_|refine zH ?_ _));exact BK238.out),(by (with_reducible repeat (first|refine zG ?_ _|refine zI ?_|refine zH ?_ _));exact BK248.out),GW248.out,GE248.out,NB237_248.out,NB248_237.out,NB238_248.out,NB248_238.out,(by repeat (first|(with_reducible first|exact HB.out|apply zD|apply zB|apply zC|refine zF ?_ GE237.out|refine zF ?_ GE238.out|refine zF ?_ GE248.out)|exact HB.out))⟩)
   ·skip
    refine box_step ?hg (N:=3) ?hd (cs:=#[.slice none 0 0,.slice none 0 0]) (t:=33) ?hr ?_;(case hd=>rfl);(case hg=>rfl);(case hr=>first|(go_simp;done)|(go_simp;rfl))
    intro gb248 hg w8 hbox hb
    have n0_:=zA (zj (by apply zR_;exact HO241.out) hb)
    have n1_:=zA (zX (g:=gb237) (o:=.cells #[.slice A0_0 l0_0.length c0_0,.slice A0_1 l0_1.length c0_1] 33 (0,0)) (by (with_reducible repeat (first|refine zG ?_ _|refine zI ?_|refine zH ?_ _));exact BK237.out) hb)
    have n2_:=zA (zX (g:=gb238) (o:=.cells #[.slice none 0 0,.slice none 0 0] 33 (0,0)) (by (with_reducible repeat (first|refine zG ?_ _|refine zI ?_|refine zH ?_ _));exact BK238.out) hb)
    have n3_:=zA (zR (by repeat (first|(with_reducible first|exact HB.out|apply zD|apply zB|apply zC|refine zF ?_ GE237.out|refine zF ?_ GE238.out)|exact HB.out)) hb)
    have n4_:=zA (hbox)
    have n5_:=zA ((by rw [hg];exact (zQ (by repeat (first|(with_reducible first|exact HB.out|apply zD|apply zB|apply zC|refine zF ?_ GE237.out|refine zF ?_ GE238.out)|exact HB.out))):w.heap.size≤gb248))
    have n6_:=zA ((by rw [hg];exact (zQ (by repeat (first|(with_reducible first|exact HB.out|apply zD|apply zB|apply zC|refine zF ?_ GE237.out|refine zF ?_ GE238.out)|exact HB.out))):w.heap.size≤gb248))
    have n7_:=zA ((by rw [hg];exact Nat.ne_of_lt (blk_lt (g:=gb237) (o:=.cells #[.slice A0_0 l0_0.length c0_0,.slice A0_1 l0_1.length c0_1] 33 (0,0)) (by (with_reducible repeat (first|refine zG ?_ _|refine zI ?_|refine zH ?_ _));exact BK237.out)):gb237≠gb248))
    have n8_:=zA ((by rw [hg];exact Nat.ne_of_gt (blk_lt (g:=gb237) (o:=.cells #[.slice A0_0 l0_0.length c0_0,.slice A0_1 l0_1.length c0_1] 33 (0,0)) (by (with_reducible repeat (first|refine zG ?_ _|refine zI ?_|refine zH ?_ _));exact BK237.out)):gb248≠gb237))
    have n9_:=zA ((by rw [hg];exact Nat.ne_of_lt (blk_lt (g:=gb238) (o:=.cells #[.slice none 0 0,.slice none 0 0] 33 (0,0)) (by (with_reducible repeat (first|refine zG ?_ _|refine zI ?_|refine zH ?_ _));exact BK238.out)):gb238≠gb248))
    have n10_:=zA ((by rw [hg];exact Nat.ne_of_gt (blk_lt (g:=gb238) (o:=.cells #[.slice none 0 0,.slice none 0 0] 33 (0,0)) (by (with_reducible repeat (first|refine zG ?_ _|refine zI ?_|refine zH ?_ _));exact BK238.out)):gb248≠gb238))
    clear HO241 BK237 BK238 HB
    have HO241:=n0_
    have BK237:=n1_
    have BK238:=n2_
    have HB:=n3_
    have BK248:=n4_
    have GW248:=n5_
    have GE248:=n6_
    have NB237_248:=n7_
    have NB248_237:=n8_
    have NB238_248:=n9_
    have NB248_238:=n10_
    clear n0_ n1_ n2_ n3_ n4_ n5_ n6_ n7_ n8_ n9_ n10_ hb hbox hg
    obtain ⟨Ao9,co9,eo9⟩:=zg HO241.out
    (first|subst eo9|(injection eo9 with f1_ f2_ f3_;have f4_:=f1_.symm;have f5_:=f3_.symm;clear f1_ f2_ f3_;subst f4_;subst f5_))
    refine hK.out _ _ ⟨(zT BK237.out 0).trans rfl,(zT BK237.out 1).trans rfl⟩ (fun hHeld=>?_)
    clear hK K
    refine norm_ (a':=?_) ?_ ?_
    rotate_left
    ·show Act.put _ (some 3) _ = _
     simp only [Act.put,zP_,i64_w]
     rfl
    refine one_ (i:=3) (N:=some 9) #[zt,zt,zt,zt,zt,zf] rfl rfl (by kernel_rfl) (by decide) (fun K hK=>?_)
    refine goes_ Try.func47 (by kernel_rfl) rfl #[.agg #[.slice A0_0 l0_0.length c0_0,.slice A0_1 l0_1.length c0_1],.slice Ao9 t239.length co9] (by rfl) rfl rfl (by (try simp only [zJ,zM,zN]);first|done|rfl|(simp only [zL,zK];rfl)) ?_
    with_reducible refine (impl_renamed.calls k _ _ l0_0 _ _ l0_1 _ _ t239 t242 t245 _ ?side1 ?side2 ?side3 ?side4 ?side5 ?side6 A3.out).mono ?_
    (case side1=>repeat (first|exact (zW HR0_0.out HB.out)|(with_reducible exact HR0_0.out)|apply zC_))
    (case side2=>exact HC0_0.out)
    (case side3=>repeat (first|exact (zW HR0_1.out HB.out)|(with_reducible exact HR0_1.out)|apply zC_))
    (case side4=>exact HC0_1.out)
    (case side5=>repeat (first|exact (zU HO241.out).2.2|apply zC_))
    (case side6=>exact (zU HO241.out).2.1)
    rintro e w10 ⟨v243,v246,rfl,ho0,ho1,hb⟩
    refine ⟨_,rfl,?_⟩
    have n0_:=zA (zV (Kd.R_told (Kd.R_told (Kd.R_old (by apply zR_;exact HO241.out) hb) (zd ho0)) (zd ho1)) (fun _ h_=>h_.1))
    have n1_:=zA (ze (zh ho0 (Kd.R_lt (by apply zR_;exact HO241.out))) (zQ (by repeat (first|(with_reducible first|exact HB.out|apply zD|apply zB|apply zC|refine zF ?_ GE237.out|refine zF ?_ GE238.out|refine zF ?_ GE248.out)|exact HB.out))))
    have n2_:=zA (ze (zh ho1 (Kd.R_lt (by apply zR_;exact HO241.out))) (zQ (by repeat (first|(with_reducible first|exact HB.out|apply zD|apply zB|apply zC|refine zF ?_ GE237.out|refine zF ?_ GE238.out|refine zF ?_ GE248.out)|exact HB.out))))
    have n3_:=zA (zX (g:=gb237) (o:=.cells #[.slice A0_0 l0_0.length c0_0,.slice A0_1 l0_1.length c0_1] 33 (0,0)) (by (with_reducible repeat (first|refine zG ?_ _|refine zI ?_|refine zH ?_ _));exact BK237.out) hb)
    have n4_:=zA (zX (g:=gb238) (o:=.cells #[.slice none 0 0,.slice none 0 0] 33 (0,0)) (by (with_reducible repeat (first|refine zG ?_ _|refine zI ?_|refine zH ?_ _));exact BK238.out) hb)
    have n5_:=zA (zX (g:=gb248) (o:=.cells #[.slice none 0 0,.slice none 0 0] 33 (0,0)) (by (with_reducible repeat (first|refine zG ?_ _|refine zI ?_|refine zH ?_ _));exact BK248.out) hb)
    have n6_:=zA (zR (by repeat (first|(with_reducible first|exact HB.out|apply zD|apply zB|apply zC|refine zF ?_ GE237.out|refine zF ?_ GE238.out|refine zF ?_ GE248.out)|exact HB.out)) hb)
    clear HO241 BK237 BK238 BK248 HB
    have HO241:=n0_
    have HO244:=n1_
    have HO247:=n2_
    have BK237:=n3_
    have BK238:=n4_
    have BK248:=n5_
    have HB:=n6_
    clear n0_ n1_ n2_ n3_ n4_ n5_ n6_
    (try clear hb);(try clear hb2);(try clear hk);(try clear hi);(try clear ho0);(try clear ho1)
    refine hK.out _ _ ⟨(zT BK237.out 0).trans rfl,(zT BK237.out 1).trans rfl⟩ (fun hHeld=>?_)
    clear hK K
    refine norm_ (a':=?_) ?_ ?_
    rotate_left
    ·show Act.put _ (some 9) _ = _
     simp only [Act.put,zP_,i64_w]
     rfl
    exact norm_ (by simp only [putAll,Act.put,List.setIfInBounds_toArray,List.set_cons_zero,List.set_cons_succ]) (hCont (.slice Ao9 t239.length co9,v243,v246,gb248) _ ⟨hHeld,(by apply zR_;exact zV HO241.out (fun _ hk=>⟨hk.1.2,hk.2⟩)),(by apply zR_;exact zV HO244.out (fun _ hk=>⟨hk.2,hk.1⟩)),(by apply zR_;exact zV HO247.out (fun _ hk=>⟨hk.2,hk.1⟩)),(by (with_reducible repeat (first|refine zG ?_ _|refine zI ?_|refine zH ?_ _));exact BK237.out),(by (with_reducible repeat (first|refine zG ?_ _|refine zI ?_|refine zH ?_ _));exact BK238.out),(by (with_reducible repeat (first|refine zG ?_ _|refine zI ?_|refine zH ?_ _));exact BK248.out),GW248.out,GE248.out,NB237_248.out,NB248_237.out,NB238_248.out,NB248_238.out,(by repeat (first|(with_reducible first|exact HB.out|apply zD|apply zB|apply zC|refine zF ?_ GE237.out|refine zF ?_ GE238.out|refine zF ?_ GE248.out)|exact HB.out))⟩)
  ·skip
   refine box_step ?hg (N:=3) ?hd (cs:=#[.slice none 0 0,.slice none 0 0]) (t:=33) ?hr ?_;(case hd=>rfl);(case hg=>rfl);(case hr=>first|(go_simp;done)|(go_simp;rfl))
   intro gb248 hg w7 hbox hb
   have n0_:=zA (zX (g:=gb237) (o:=.cells #[.slice A0_0 l0_0.length c0_0,.slice A0_1 l0_1.length c0_1] 33 (0,0)) (by (with_reducible repeat (first|refine zG ?_ _|refine zI ?_|refine zH ?_ _));exact BK237.out) hb)
   have n1_:=zA (zX (g:=gb238) (o:=.cells #[.slice none 0 0,.slice none 0 0] 33 (0,0)) (by (with_reducible repeat (first|refine zG ?_ _|refine zI ?_|refine zH ?_ _));exact BK238.out) hb)
   have n2_:=zA (zR (by repeat (first|(with_reducible first|exact HB.out|apply zD|apply zB|apply zC|refine zF ?_ GE237.out|refine zF ?_ GE238.out)|exact HB.out)) hb)
   have n3_:=zA (hbox)
   have n4_:=zA ((by rw [hg];exact (zQ (by repeat (first|(with_reducible first|exact HB.out|apply zD|apply zB|apply zC|refine zF ?_ GE237.out|refine zF ?_ GE238.out)|exact HB.out))):w.heap.size≤gb248))
   have n5_:=zA ((by rw [hg];exact (zQ (by repeat (first|(with_reducible first|exact HB.out|apply zD|apply zB|apply zC|refine zF ?_ GE237.out|refine zF ?_ GE238.out)|exact HB.out))):w.heap.size≤gb248))
   have n6_:=zA ((by rw [hg];exact Nat.ne_of_lt (blk_lt (g:=gb237) (o:=.cells #[.slice A0_0 l0_0.length c0_0,.slice A0_1 l0_1.length c0_1] 33 (0,0)) (by (with_reducible repeat (first|refine zG ?_ _|refine zI ?_|refine zH ?_ _));exact BK237.out)):gb237≠gb248))
   have n7_:=zA ((by rw [hg];exact Nat.ne_of_gt (blk_lt (g:=gb237) (o:=.cells #[.slice A0_0 l0_0.length c0_0,.slice A0_1 l0_1.length c0_1] 33 (0,0)) (by (with_reducible repeat (first|refine zG ?_ _|refine zI ?_|refine zH ?_ _));exact BK237.out)):gb248≠gb237))
   have n8_:=zA ((by rw [hg];exact Nat.ne_of_lt (blk_lt (g:=gb238) (o:=.cells #[.slice none 0 0,.slice none 0 0] 33 (0,0)) (by (with_reducible repeat (first|refine zG ?_ _|refine zI ?_|refine zH ?_ _));exact BK238.out)):gb238≠gb248))
   have n9_:=zA ((by rw [hg];exact Nat.ne_of_gt (blk_lt (g:=gb238) (o:=.cells #[.slice none 0 0,.slice none 0 0] 33 (0,0)) (by (with_reducible repeat (first|refine zG ?_ _|refine zI ?_|refine zH ?_ _));exact BK238.out)):gb248≠gb238))
   clear BK237 BK238 HB
   have BK237:=n0_
   have BK238:=n1_
   have HB:=n2_
   have BK248:=n3_
   have GW248:=n4_
   have GE248:=n5_
   have NB237_248:=n6_
   have NB248_237:=n7_
   have NB238_248:=n8_
   have NB248_238:=n9_
   clear n0_ n1_ n2_ n3_ n4_ n5_ n6_ n7_ n8_ n9_ hb hbox hg
   refine hK.out _ _ ⟨(zT BK237.out 0).trans rfl,(zT BK237.out 1).trans rfl⟩ (fun hHeld=>?_)
   clear hK K
   refine norm_ (a':=?_) ?_ ?_
   rotate_left
   ·show Act.put _ (some 3) _ = _
    simp only [Act.put,zP_,i64_w]
    rfl
   refine one_ (i:=2) (N:=some 8) #[zt,zt,zt,zf,zt,zf] rfl rfl (by kernel_rfl) (by decide) (fun K hK=>?_)
   refine goes_ Try.func48 (by kernel_rfl) rfl #[.agg #[.slice A0_0 l0_0.length c0_0,.slice A0_1 l0_1.length c0_1],.int .i64 0] (by rfl) rfl rfl (by (try simp only [zJ,zM,zN]);first|done|rfl|(simp only [zL,zK];rfl)) ?_
   with_reducible refine (impl_namesFrom.calls k _ _ l0_0 _ _ l0_1 0 t239 _ ?side1 ?side2 ?side3 ?side4 A2.out).mono ?_
   (case side1=>repeat (first|exact (zW HR0_0.out HB.out)|(with_reducible exact HR0_0.out)|apply zC_))
   (case side2=>exact HC0_0.out)
   (case side3=>repeat (first|exact (zW HR0_1.out HB.out)|(with_reducible exact HR0_1.out)|apply zC_))
   (case side4=>exact HC0_1.out)
   rintro e w8 ⟨v240,rfl,ho0,hb⟩
   refine ⟨_,rfl,?_⟩
   have n0_:=zA (ze ho0 (zQ (by repeat (first|(with_reducible first|exact HB.out|apply zD|apply zB|apply zC|refine zF ?_ GE237.out|refine zF ?_ GE238.out|refine zF ?_ GE248.out)|exact HB.out))))
   have n1_:=zA (zX (g:=gb237) (o:=.cells #[.slice A0_0 l0_0.length c0_0,.slice A0_1 l0_1.length c0_1] 33 (0,0)) (by (with_reducible repeat (first|refine zG ?_ _|refine zI ?_|refine zH ?_ _));exact BK237.out) hb)
   have n2_:=zA (zX (g:=gb238) (o:=.cells #[.slice none 0 0,.slice none 0 0] 33 (0,0)) (by (with_reducible repeat (first|refine zG ?_ _|refine zI ?_|refine zH ?_ _));exact BK238.out) hb)
   have n3_:=zA (zX (g:=gb248) (o:=.cells #[.slice none 0 0,.slice none 0 0] 33 (0,0)) (by (with_reducible repeat (first|refine zG ?_ _|refine zI ?_|refine zH ?_ _));exact BK248.out) hb)
   have n4_:=zA (zR (by repeat (first|(with_reducible first|exact HB.out|apply zD|apply zB|apply zC|refine zF ?_ GE237.out|refine zF ?_ GE238.out|refine zF ?_ GE248.out)|exact HB.out)) hb)
   clear BK237 BK238 BK248 HB
   have HO241:=n0_
   have BK237:=n1_
   have BK238:=n2_
   have BK248:=n3_
   have HB:=n4_
   clear n0_ n1_ n2_ n3_ n4_
   (try clear hb);(try clear hb2);(try clear hk);(try clear hi);(try clear ho0)
   obtain ⟨Ao9,co9,eo9⟩:=zg HO241.out
   (first|subst eo9|(injection eo9 with f1_ f2_ f3_;have f4_:=f1_.symm;have f5_:=f3_.symm;clear f1_ f2_ f3_;subst f4_;subst f5_))
   refine hK.out _ _ ⟨(zT BK237.out 0).trans rfl,(zT BK237.out 1).trans rfl⟩ (fun hHeld=>?_)
   clear hK K
   refine norm_ (a':=?_) ?_ ?_
   rotate_left
   ·show Act.put _ (some 8) _ = _
    simp only [Act.put,zP_,i64_w]
    rfl
   refine one_ (i:=3) (N:=some 9) #[zt,zt,zt,zt,zt,zf] rfl rfl (by kernel_rfl) (by decide) (fun K hK=>?_)
   refine goes_ Try.func47 (by kernel_rfl) rfl #[.agg #[.slice A0_0 l0_0.length c0_0,.slice A0_1 l0_1.length c0_1],.slice Ao9 t239.length co9] (by rfl) rfl rfl (by (try simp only [zJ,zM,zN]);first|done|rfl|(simp only [zL,zK];rfl)) ?_
   with_reducible refine (impl_renamed.calls k _ _ l0_0 _ _ l0_1 _ _ t239 t242 t245 _ ?side1 ?side2 ?side3 ?side4 ?side5 ?side6 A3.out).mono ?_
   (case side1=>repeat (first|exact (zW HR0_0.out HB.out)|(with_reducible exact HR0_0.out)|apply zC_))
   (case side2=>exact HC0_0.out)
   (case side3=>repeat (first|exact (zW HR0_1.out HB.out)|(with_reducible exact HR0_1.out)|apply zC_))
   (case side4=>exact HC0_1.out)
   (case side5=>repeat (first|exact (zU HO241.out).2.2|apply zC_))
   (case side6=>exact (zU HO241.out).2.1)
   rintro e w10 ⟨v243,v246,rfl,ho0,ho1,hb⟩
   refine ⟨_,rfl,?_⟩
   have n0_:=zA (zV (Kd.R_told (Kd.R_told (Kd.R_old (by apply zR_;exact HO241.out) hb) (zd ho0)) (zd ho1)) (fun _ h_=>h_.1))
   have n1_:=zA (ze (zh ho0 (Kd.R_lt (by apply zR_;exact HO241.out))) (zQ (by repeat (first|(with_reducible first|exact HB.out|apply zD|apply zB|apply zC|refine zF ?_ GE237.out|refine zF ?_ GE238.out|refine zF ?_ GE248.out)|exact HB.out))))
   have n2_:=zA (ze (zh ho1 (Kd.R_lt (by apply zR_;exact HO241.out))) (zQ (by repeat (first|(with_reducible first|exact HB.out|apply zD|apply zB|apply zC|refine zF ?_ GE237.out|refine zF ?_ GE238.out|refine zF ?_ GE248.out)|exact HB.out))))
   have n3_:=zA (zX (g:=gb237) (o:=.cells #[.slice A0_0 l0_0.length c0_0,.slice A0_1 l0_1.length c0_1] 33 (0,0)) (by (with_reducible repeat (first|refine zG ?_ _|refine zI ?_|refine zH ?_ _));exact BK237.out) hb)
   have n4_:=zA (zX (g:=gb238) (o:=.cells #[.slice none 0 0,.slice none 0 0] 33 (0,0)) (by (with_reducible repeat (first|refine zG ?_ _|refine zI ?_|refine zH ?_ _));exact BK238.out) hb)
   have n5_:=zA (zX (g:=gb248) (o:=.cells #[.slice none 0 0,.slice none 0 0] 33 (0,0)) (by (with_reducible repeat (first|refine zG ?_ _|refine zI ?_|refine zH ?_ _));exact BK248.out) hb)
   have n6_:=zA (zR (by repeat (first|(with_reducible first|exact HB.out|apply zD|apply zB|apply zC|refine zF ?_ GE237.out|refine zF ?_ GE238.out|refine zF ?_ GE248.out)|exact HB.out)) hb)
   clear HO241 BK237 BK238 BK248 HB
   have HO241:=n0_
   have HO244:=n1_
   have HO247:=n2_
   have BK237:=n3_
   have BK238:=n4_
   have BK248:=n5_
   have HB:=n6_
   clear n0_ n1_ n2_ n3_ n4_ n5_ n6_
   (try clear hb);(try clear hb2);(try clear hk);(try clear hi);(try clear ho0);(try clear ho1)
   refine hK.out _ _ ⟨(zT BK237.out 0).trans rfl,(zT BK237.out 1).trans rfl⟩ (fun hHeld=>?_)
   clear hK K
   refine norm_ (a':=?_) ?_ ?_
   rotate_left
   ·show Act.put _ (some 9) _ = _
    simp only [Act.put,zP_,i64_w]
    rfl
   exact norm_ (by simp only [putAll,Act.put,List.setIfInBounds_toArray,List.set_cons_zero,List.set_cons_succ]) (hCont (.slice Ao9 t239.length co9,v243,v246,gb248) _ ⟨hHeld,(by apply zR_;exact zV HO241.out (fun _ hk=>⟨hk.1.2,hk.2⟩)),(by apply zR_;exact zV HO244.out (fun _ hk=>⟨hk.2,hk.1⟩)),(by apply zR_;exact zV HO247.out (fun _ hk=>⟨hk.2,hk.1⟩)),(by (with_reducible repeat (first|refine zG ?_ _|refine zI ?_|refine zH ?_ _));exact BK237.out),(by (with_reducible repeat (first|refine zG ?_ _|refine zI ?_|refine zH ?_ _));exact BK238.out),(by (with_reducible repeat (first|refine zG ?_ _|refine zI ?_|refine zH ?_ _));exact BK248.out),GW248.out,GE248.out,NB237_248.out,NB248_237.out,NB238_248.out,NB248_238.out,(by repeat (first|(with_reducible first|exact HB.out|apply zD|apply zB|apply zC|refine zF ?_ GE237.out|refine zF ?_ GE238.out|refine zF ?_ GE248.out)|exact HB.out))⟩)
 rintro ⟨v240,v243,v246,gb248⟩ w11 ⟨hS_,h0_,h1_,h2_,h3_,h4_,h5_,h6_,h7_,h8_,h9_,h10_,h11_,h12_⟩
 have n0_:Aside0 (Kd.R (Kd.int .i64) 3 w11 w.heap.size (fun k_=>some k_≠(v243:Value).ownBlock∧some k_≠(v246:Value).ownBlock) v240 t239):=⟨h0_⟩
 have n1_:Aside0 (Kd.R (Kd.int .i64) 3 w11 w.heap.size (fun k_=>some k_≠(v240:Value).ownBlock∧some k_≠(v246:Value).ownBlock) v243 t242):=⟨h1_⟩
 have n2_:Aside0 (Kd.R (Kd.int .i64) 3 w11 w.heap.size (fun k_=>some k_≠(v240:Value).ownBlock∧some k_≠(v243:Value).ownBlock) v246 t245):=⟨h2_⟩
 have n3_:Aside0 (w11.heap[gb237]? = some (.cells #[.slice A0_0 l0_0.length c0_0,.slice A0_1 l0_1.length c0_1] 33 (0,0))):=⟨h3_⟩
 have n4_:Aside0 (w11.heap[gb238]? = some (.cells #[.slice none 0 0,.slice none 0 0] 33 (0,0))):=⟨h4_⟩
 have n5_:Aside0 (w11.heap[gb248]? = some (.cells #[.slice none 0 0,.slice none 0 0] 33 (0,0))):=⟨h5_⟩
 have n6_:Aside0 (w.heap.size≤gb248):=⟨h6_⟩
 have n7_:Aside0 (w.heap.size≤gb248):=⟨h7_⟩
 have n8_:Aside0 (gb237≠gb248):=⟨h8_⟩
 have n9_:Aside0 (gb248≠gb237):=⟨h9_⟩
 have n10_:Aside0 (gb238≠gb248):=⟨h10_⟩
 have n11_:Aside0 (gb248≠gb238):=⟨h11_⟩
 have n12_:Aside0 (Below w.heap.size w w11):=⟨h12_⟩
 clear BK237 BK238 HB h0_ h1_ h2_ h3_ h4_ h5_ h6_ h7_ h8_ h9_ h10_ h11_ h12_
 have HO241:=n0_
 have HO244:=n1_
 have HO247:=n2_
 have BK237:=n3_
 have BK238:=n4_
 have BK248:=n5_
 have GW248:=n6_
 have GE248:=n7_
 have NB237_248:=n8_
 have NB248_237:=n9_
 have NB238_248:=n10_
 have NB248_238:=n11_
 have HB:=n12_
 clear n0_ n1_ n2_ n3_ n4_ n5_ n6_ n7_ n8_ n9_ n10_ n11_ n12_
 have hHeld:w11.cell? ⟨gb237,0,none⟩ = some (.slice A0_0 l0_0.length c0_0)∧w11.cell? ⟨gb237,1,none⟩ = some (.slice A0_1 l0_1.length c0_1):=hS_
 obtain ⟨Ao12,co12,eo12⟩:=zg HO244.out
 (first|subst eo12|(injection eo12 with f1_ f2_ f3_;have f4_:=f1_.symm;have f5_:=f3_.symm;clear f1_ f2_ f3_;subst f4_;subst f5_))
 obtain ⟨Ao14,co14,eo14⟩:=zg HO247.out
 (first|subst eo14|(injection eo14 with f1_ f2_ f3_;have f4_:=f1_.symm;have f5_:=f3_.symm;clear f1_ f2_ f3_;subst f4_;subst f5_))
 refine norm_ (a':=?_) ?_ ?_
 rotate_left
 ·simp only [putAll,Act.put,List.setIfInBounds_toArray,List.set_cons_zero,List.set_cons_succ]
  rfl
 refine one_ (i:=5) (N:=none) #[zt,zt,zt,zt,zt,zt] rfl rfl (by kernel_rfl) (by decide) (fun K hK=>?_)
 have hs13:w11.cell? ⟨gb248,0,none⟩ = some (.slice none 0 0):=(zT BK248.out 0).trans rfl
 have hfs13:=zZ BK248.out 0
 have hns13_0:=NB237_248.out
 have hns13_1:=NB238_248.out
 have hms13_0:=NB248_237.out
 have hms13_1:=NB248_238.out
 have hs15:w11.cell? ⟨gb248,1,none⟩ = some (.slice none 0 0):=(zT BK248.out 1).trans rfl
 have hfs15:=zZ BK248.out 1
 have hns15_0:=NB237_248.out
 have hns15_1:=NB238_248.out
 have hms15_0:=NB248_237.out
 have hms15_1:=NB248_238.out
 refine skip_ (w1:=?_) (by rfl) rfl ?_ ?_
 rotate_left
 ·go_simp
  rfl
 refine hK.out _ _ ⟨((cell_far (p:=⟨gb248,_,none⟩) NB237_248.out _).trans (((cell_far (p:=⟨gb248,_,none⟩) NB237_248.out _).trans (hHeld.1)))),((cell_far (p:=⟨gb248,_,none⟩) NB237_248.out _).trans (((cell_far (p:=⟨gb248,_,none⟩) NB237_248.out _).trans (hHeld.2))))⟩ (fun hHeld=>?_)
 clear hK K
 refine done_ (by kernel_rfl) ?_
 have hnb16:=NB237_238.out
 have hnc16:=NB238_237.out
 have hnb17:=NB237_248.out
 have hnc17:=NB248_237.out
 have hcz18_0:w11.cell? ⟨gb237,0,none⟩ = some (.slice A0_0 l0_0.length c0_0):=(zT BK237.out 0).trans rfl
 have hcz18_1:w11.cell? ⟨gb237,1,none⟩ = some (.slice A0_1 l0_1.length c0_1):=(zT BK237.out 1).trans rfl
 have hfz18_0:=zZ BK237.out 0
 have hfz18_1:=zZ BK237.out 1
 try go_wp2
 go_loopg [13] k (fun kq v13 w' => ∃ (x13_1:Int) (x249000_1:List Int) (x249001_1:List Int) (u249000:Value) (u249001:Value),v13 = .int .i64 x13_1∧Aside0 (impl_leastForm.l0 kq (l0_0.length:Int) x13_1 l0_0 l0_1 x249000_1 x249001_1 = some (r1,r2))∧Aside0 (kq≤k)∧Aside0 (Kd.R (Kd.int .i64) 3 w' w.heap.size (fun k_=>some k_≠(u249001:Value).ownBlock) u249000 x249000_1)∧Aside0 (Kd.R (Kd.int .i64) 3 w' w.heap.size (fun k_=>some k_≠(u249000:Value).ownBlock) u249001 x249001_1)∧Aside0 (w'.heap[gb237]? = some (.cells #[(.slice A0_0 l0_0.length c0_0),(.slice A0_1 l0_1.length c0_1)] 33 (0,0)))∧Aside0 (w'.heap[gb238]? = some (.cells #[(.slice none 0 0),(.slice none 0 0)] 33 (0,0)))∧Aside0 (w'.heap[gb248]? = some (.cells #[u249000,u249001] 33 (0,0)))∧Aside0 (Below w.heap.size w w'))
 case atStart=>exact ⟨(0),(t242),(t245),(.slice Ao12 t242.length co12),(.slice Ao14 t245.length co14),(by first|rfl|(simp;done)|(simp [*];done)),H',⟨Nat.le_refl _⟩,⟨by apply zR_;exact zV (zi (p:=⟨gb248,1,none⟩) (zi (p:=⟨gb248,0,none⟩) (Kd.R_types HO244.out BK248.out (by decide)) (fun _ hk=>hk.2) (.slice Ao12 t242.length co12)) (fun _ hk=>hk.2) (.slice Ao14 t245.length co14)) (fun _ hk=>hk.1.2)⟩,⟨by apply zR_;exact zV (zi (p:=⟨gb248,1,none⟩) (zi (p:=⟨gb248,0,none⟩) (Kd.R_types HO247.out BK248.out (by decide)) (fun _ hk=>hk.2) (.slice Ao12 t242.length co12)) (fun _ hk=>hk.2) (.slice Ao14 t245.length co14)) (fun _ hk=>hk.1.2)⟩,⟨by (with_reducible repeat (first|refine zG ?_ _|refine zI ?_|refine zH ?_ _));refine blk_far ?_ NB237_248.out _;(with_reducible repeat (first|refine zG ?_ _|refine zI ?_|refine zH ?_ _));refine blk_far ?_ NB237_248.out _;(with_reducible repeat (first|refine zG ?_ _|refine zI ?_|refine zH ?_ _));exact BK237.out⟩,⟨by (with_reducible repeat (first|refine zG ?_ _|refine zI ?_|refine zH ?_ _));refine blk_far ?_ NB238_248.out _;(with_reducible repeat (first|refine zG ?_ _|refine zI ?_|refine zH ?_ _));refine blk_far ?_ NB238_248.out _;(with_reducible repeat (first|refine zG ?_ _|refine zI ?_|refine zH ?_ _));exact BK238.out⟩,⟨by (with_reducible repeat (first|refine zG ?_ _|refine zI ?_|refine zH ?_ _));refine blk_put (cs:=#[.slice Ao12 t242.length co12,.slice none 0 0]) ?_ 1 _ rfl;(with_reducible repeat (first|refine zG ?_ _|refine zI ?_|refine zH ?_ _));refine blk_put (cs:=#[.slice none 0 0,.slice none 0 0]) ?_ 0 _ rfl;(with_reducible repeat (first|refine zG ?_ _|refine zI ?_|refine zH ?_ _));exact BK248.out⟩,⟨by repeat (first|(with_reducible first|exact HB.out|apply zD|apply zB|apply zC|refine zF ?_ GE237.out|refine zF ?_ GE238.out|refine zF ?_ GE248.out)|exact HB.out)⟩⟩
 case round =>
  clear H'
  (try clear c1);(try clear p2);(try clear c4);(try clear c6);(try clear c16);(try clear c17);(try clear hcz18_0);(try clear hcz18_1);(try clear hfz18_0);(try clear hfz18_1)
  obtain ⟨x13_1,x249000_1,x249001_1,u249000,u249001,rfl,HA,HK1,HO_249000,HO_249001,BK237,BK238,BK248,HB⟩:=hrel
  cases gk with
  | zero=>exact absurd HA.out (by simp [impl_leastForm.l0])
  | succ k1 =>
   have H:=HA.out
   clear HA
   simp only [impl_leastForm.l0] at H
   by_cases c19:x13_1 < (l0_0.length:Int)
   ·rw [if_pos c19] at H
    have c19b0:decide (x13_1 < (l0_0.length:Int)) = true:=zO c19
    clear c19
    replace H:=zz0 H
    obtain ⟨t249,A200,H⟩:=H
    try dsimp only at H
    have A20:=zA A200
    clear A200
    replace H:=zz0 H
    obtain ⟨⟨t252,t255⟩,A210,H⟩:=H
    try dsimp only at H
    have A21:=zA A210
    clear A210
    replace H:=zz0 H
    obtain ⟨t259,A220,H⟩:=H
    try dsimp only at H
    have A22:=zA A220
    clear A220
    have H9_:=zA H
    clear H
    try go_wp2
    have n0_:=zA (Kd.R_drew HO_249000.out)
    have n1_:=zA (Kd.R_drew HO_249001.out)
    have n2_:=zA (zI BK237.out)
    have n3_:=zA (zI BK238.out)
    have n4_:=zA (zI BK248.out)
    have n5_:=zA (zC HB.out)
    clear HO_249000 HO_249001 BK237 BK238 BK248 HB
    have HO_249000:=n0_
    have HO_249001:=n1_
    have BK237:=n2_
    have BK238:=n3_
    have BK248:=n4_
    have HB:=n5_
    clear n0_ n1_ n2_ n3_ n4_ n5_
    refine start_ (n:=7) (S:=fun w'=>w'.cell? ⟨gb237,0,none⟩ = some (.slice A0_0 l0_0.length c0_0)∧w'.cell? ⟨gb237,1,none⟩ = some (.slice A0_1 l0_1.length c0_1)) (ds:=[]) #[zf,zf,zf,zf,zf,zf,zf] (by kernel_rfl) rfl rfl ⟨(zT BK237.out 0).trans rfl,(zT BK237.out 1).trans rfl⟩ (fun hHeld=>?_)
    generalize wr.drew = w24 at HO_249000 HO_249001 BK237 BK238 BK248 HB hHeld ⊢
    refine pure_ (i:=2) (N:=some 18) (v:=?_) (a':=?_) #[zf,zf,zt,zf,zf,zf,zf] rfl rfl (by kernel_rfl) (fun _ _ _ h=>h) (Or.inl ⟨by rfl,?_⟩) ?_ ?_
    rotate_left
    ·intro w'
     go_simp
     with_reducible rfl
    rotate_left
    ·simp only [Act.put,zP_,i64_w]
     rfl
    refine take_ (i:=0) (N:=some 16) (v:=?_) (a':=?_) #[zt,zf,zt,zf,zf,zf,zf] rfl rfl (by kernel_rfl) (fun _ _ _ h=>h) (Or.inl ⟨by rfl,?_⟩) hHeld ?_ ?_
    rotate_left
    ·rintro w' ⟨s0,s1⟩
     go_simp
     with_reducible rfl
    rotate_left
    ·simp only [Act.put,zP_,i64_w]
     rfl
    refine take_ (i:=1) (N:=some 17) (v:=?_) (a':=?_) #[zt,zt,zt,zf,zf,zf,zf] rfl rfl (by kernel_rfl) (fun _ _ _ h=>h) (Or.inl ⟨by rfl,?_⟩) hHeld ?_ ?_
    rotate_left
    ·rintro w' ⟨s0,s1⟩
     go_simp
     with_reducible rfl
    rotate_left
    ·simp only [Act.put,zP_,i64_w]
     rfl
    refine join_ (σ:=Value × Value × Value × Nat) 1 #[zt,zt,zt,zt,zt,zt,zf] (fun s_=>[(19,s_.1),(20,.agg #[s_.2.1,s_.2.2.1]),(5,.pointer (some ⟨s_.2.2.2,0,none⟩))]) (fun s_ w'=>(w'.cell? ⟨gb237,0,none⟩ = some (.slice A0_0 l0_0.length c0_0)∧w'.cell? ⟨gb237,1,none⟩ = some (.slice A0_1 l0_1.length c0_1))∧(Kd.R (Kd.int .i64) 3 w' w.heap.size (fun k_=>some k_≠(s_.2.1:Value).ownBlock∧some k_≠(s_.2.2.1:Value).ownBlock∧some k_≠(u249000:Value).ownBlock∧some k_≠(u249001:Value).ownBlock) s_.1 t249)∧(Kd.R (Kd.int .i64) 3 w' w.heap.size (fun k_=>some k_≠(s_.1:Value).ownBlock∧some k_≠(s_.2.2.1:Value).ownBlock∧some k_≠(u249000:Value).ownBlock∧some k_≠(u249001:Value).ownBlock) s_.2.1 t252)∧(Kd.R (Kd.int .i64) 3 w' w.heap.size (fun k_=>some k_≠(s_.1:Value).ownBlock∧some k_≠(s_.2.1:Value).ownBlock∧some k_≠(u249000:Value).ownBlock∧some k_≠(u249001:Value).ownBlock) s_.2.2.1 t255)∧(Kd.R (Kd.int .i64) 3 w' w.heap.size (fun k_=>some k_≠(s_.1:Value).ownBlock∧some k_≠(s_.2.1:Value).ownBlock∧some k_≠(s_.2.2.1:Value).ownBlock∧some k_≠(u249001:Value).ownBlock) u249000 x249000_1)∧(Kd.R (Kd.int .i64) 3 w' w.heap.size (fun k_=>some k_≠(s_.1:Value).ownBlock∧some k_≠(s_.2.1:Value).ownBlock∧some k_≠(s_.2.2.1:Value).ownBlock∧some k_≠(u249000:Value).ownBlock) u249001 x249001_1)∧(w'.heap[gb237]? = some (.cells #[.slice A0_0 l0_0.length c0_0,.slice A0_1 l0_1.length c0_1] 33 (0,0)))∧(w'.heap[gb238]? = some (.cells #[.slice none 0 0,.slice none 0 0] 33 (0,0)))∧(w'.heap[gb248]? = some (.cells #[u249000,u249001] 33 (0,0)))∧(w'.heap[s_.2.2.2]? = some (.cells #[.slice none 0 0,.slice none 0 0] 33 (0,0)))∧(w.heap.size≤s_.2.2.2)∧(w.heap.size≤s_.2.2.2)∧(gb237≠s_.2.2.2)∧(s_.2.2.2≠gb237)∧(gb238≠s_.2.2.2)∧(s_.2.2.2≠gb238)∧(gb248≠s_.2.2.2)∧(s_.2.2.2≠gb248)∧(Below w.heap.size w w')) ?_ ?_
    rotate_left
    ·intro hCont
     refine two_ (i:=3) (j:=5) (Ni:=some 19) (Nj:=some 5) #[zt,zt,zt,zt,zf,zf,zf] #[zt,zt,zt,zf,zf,zt,zf] rfl rfl rfl rfl (by kernel_rfl) (by decide) (by decide) (fun K hK=>?_) (fun K hK=>?_)
     ·skip
      refine goes_ Try.func48 (by kernel_rfl) rfl #[.agg #[.slice A0_0 l0_0.length c0_0,.slice A0_1 l0_1.length c0_1],.int .i64 x13_1] (by rfl) rfl rfl (by (try simp only [zJ,zM,zN]);first|done|rfl|(simp only [zL,zK];rfl)) ?_
      with_reducible refine (impl_namesFrom.calls k1 _ _ l0_0 _ _ l0_1 x13_1 t249 _ ?side1 ?side2 ?side3 ?side4 A20.out).mono ?_
      (case side1=>repeat (first|exact (zW HR0_0.out HB.out)|(with_reducible exact HR0_0.out)|apply zC_))
      (case side2=>exact HC0_0.out)
      (case side3=>repeat (first|exact (zW HR0_1.out HB.out)|(with_reducible exact HR0_1.out)|apply zC_))
      (case side4=>exact HC0_1.out)
      rintro e w25 ⟨v250,rfl,ho0,hb⟩
      refine ⟨_,rfl,?_⟩
      have n0_:=zA (Kd.R_elder' (by apply zR_;exact HO_249000.out) (zd ho0) hb)
      have n1_:=zA (Kd.R_elder' (by apply zR_;exact HO_249001.out) (zd ho0) hb)
      have n2_:=zA (ze (zh (zh ho0 (Kd.R_lt (by apply zR_;exact HO_249000.out))) (Kd.R_lt (by apply zR_;exact HO_249001.out))) (zQ (by repeat (first|(with_reducible first|exact HB.out|apply zD|apply zB|apply zC|refine zF ?_ GE237.out|refine zF ?_ GE238.out|refine zF ?_ GE248.out)|exact HB.out))))
      have n3_:=zA (zX (g:=gb237) (o:=.cells #[.slice A0_0 l0_0.length c0_0,.slice A0_1 l0_1.length c0_1] 33 (0,0)) (by (with_reducible repeat (first|refine zG ?_ _|refine zI ?_|refine zH ?_ _));exact BK237.out) hb)
      have n4_:=zA (zX (g:=gb238) (o:=.cells #[.slice none 0 0,.slice none 0 0] 33 (0,0)) (by (with_reducible repeat (first|refine zG ?_ _|refine zI ?_|refine zH ?_ _));exact BK238.out) hb)
      have n5_:=zA (zX (g:=gb248) (o:=.cells #[u249000,u249001] 33 (0,0)) (by (with_reducible repeat (first|refine zG ?_ _|refine zI ?_|refine zH ?_ _));exact BK248.out) hb)
      have n6_:=zA (zR (by repeat (first|(with_reducible first|exact HB.out|apply zD|apply zB|apply zC|refine zF ?_ GE237.out|refine zF ?_ GE238.out|refine zF ?_ GE248.out)|exact HB.out)) hb)
      clear HO_249000 HO_249001 BK237 BK238 BK248 HB
      have HO_249000:=n0_
      have HO_249001:=n1_
      have HO251:=n2_
      have BK237:=n3_
      have BK238:=n4_
      have BK248:=n5_
      have HB:=n6_
      clear n0_ n1_ n2_ n3_ n4_ n5_ n6_
      (try clear hb);(try clear hb2);(try clear hk);(try clear hi);(try clear ho0)
      obtain ⟨Ao26,co26,eo26⟩:=zg HO251.out
      (first|subst eo26|(injection eo26 with f1_ f2_ f3_;have f4_:=f1_.symm;have f5_:=f3_.symm;clear f1_ f2_ f3_;subst f4_;subst f5_))
      refine hK.out _ _ ⟨(zT BK237.out 0).trans rfl,(zT BK237.out 1).trans rfl⟩ (fun hHeld=>?_)
      clear hK K
      refine norm_ (a':=?_) ?_ ?_
      rotate_left
      ·show Act.put _ (some 19) _ = _
       simp only [Act.put,zP_,i64_w]
       rfl
      refine two_ (i:=4) (j:=5) (Ni:=some 20) (Nj:=some 5) #[zt,zt,zt,zt,zt,zf,zf] #[zt,zt,zt,zt,zf,zt,zf] rfl rfl rfl rfl (by kernel_rfl) (by decide) (by decide) (fun K hK=>?_) (fun K hK=>?_)
      ·skip
       refine goes_ Try.func47 (by kernel_rfl) rfl #[.agg #[.slice A0_0 l0_0.length c0_0,.slice A0_1 l0_1.length c0_1],.slice Ao26 t249.length co26] (by rfl) rfl rfl (by (try simp only [zJ,zM,zN]);first|done|rfl|(simp only [zL,zK];rfl)) ?_
       with_reducible refine (impl_renamed.calls k1 _ _ l0_0 _ _ l0_1 _ _ t249 t252 t255 _ ?side1 ?side2 ?side3 ?side4 ?side5 ?side6 A21.out).mono ?_
       (case side1=>repeat (first|exact (zW HR0_0.out HB.out)|(with_reducible exact HR0_0.out)|apply zC_))
       (case side2=>exact HC0_0.out)
       (case side3=>repeat (first|exact (zW HR0_1.out HB.out)|(with_reducible exact HR0_1.out)|apply zC_))
       (case side4=>exact HC0_1.out)
       (case side5=>repeat (first|exact (zU HO251.out).2.2|apply zC_))
       (case side6=>exact (zU HO251.out).2.1)
       rintro e w27 ⟨v253,v256,rfl,ho0,ho1,hb⟩
       refine ⟨_,rfl,?_⟩
       have n0_:=zA (zV (Kd.R_told (Kd.R_told (Kd.R_old (by apply zR_;exact HO_249000.out) hb) (zd ho0)) (zd ho1)) (fun _ h_=>h_.1))
       have n1_:=zA (zV (Kd.R_told (Kd.R_told (Kd.R_old (by apply zR_;exact HO_249001.out) hb) (zd ho0)) (zd ho1)) (fun _ h_=>h_.1))
       have n2_:=zA (zV (Kd.R_told (Kd.R_told (Kd.R_old (by apply zR_;exact HO251.out) hb) (zd ho0)) (zd ho1)) (fun _ h_=>h_.1))
       have n3_:=zA (ze (zh (zh (zh ho0 (Kd.R_lt (by apply zR_;exact HO_249000.out))) (Kd.R_lt (by apply zR_;exact HO_249001.out))) (Kd.R_lt (by apply zR_;exact HO251.out))) (zQ (by repeat (first|(with_reducible first|exact HB.out|apply zD|apply zB|apply zC|refine zF ?_ GE237.out|refine zF ?_ GE238.out|refine zF ?_ GE248.out)|exact HB.out))))
       have n4_:=zA (ze (zh (zh (zh ho1 (Kd.R_lt (by apply zR_;exact HO_249000.out))) (Kd.R_lt (by apply zR_;exact HO_249001.out))) (Kd.R_lt (by apply zR_;exact HO251.out))) (zQ (by repeat (first|(with_reducible first|exact HB.out|apply zD|apply zB|apply zC|refine zF ?_ GE237.out|refine zF ?_ GE238.out|refine zF ?_ GE248.out)|exact HB.out))))
       have n5_:=zA (zX (g:=gb237) (o:=.cells #[.slice A0_0 l0_0.length c0_0,.slice A0_1 l0_1.length c0_1] 33 (0,0)) (by (with_reducible repeat (first|refine zG ?_ _|refine zI ?_|refine zH ?_ _));exact BK237.out) hb)
       have n6_:=zA (zX (g:=gb238) (o:=.cells #[.slice none 0 0,.slice none 0 0] 33 (0,0)) (by (with_reducible repeat (first|refine zG ?_ _|refine zI ?_|refine zH ?_ _));exact BK238.out) hb)
       have n7_:=zA (zX (g:=gb248) (o:=.cells #[u249000,u249001] 33 (0,0)) (by (with_reducible repeat (first|refine zG ?_ _|refine zI ?_|refine zH ?_ _));exact BK248.out) hb)
       have n8_:=zA (zR (by repeat (first|(with_reducible first|exact HB.out|apply zD|apply zB|apply zC|refine zF ?_ GE237.out|refine zF ?_ GE238.out|refine zF ?_ GE248.out)|exact HB.out)) hb)
       clear HO_249000 HO_249001 HO251 BK237 BK238 BK248 HB
       have HO_249000:=n0_
       have HO_249001:=n1_
       have HO251:=n2_
       have HO254:=n3_
       have HO257:=n4_
       have BK237:=n5_
       have BK238:=n6_
       have BK248:=n7_
       have HB:=n8_
       clear n0_ n1_ n2_ n3_ n4_ n5_ n6_ n7_ n8_
       (try clear hb);(try clear hb2);(try clear hk);(try clear hi);(try clear ho0);(try clear ho1)
       refine hK.out _ _ ⟨(zT BK237.out 0).trans rfl,(zT BK237.out 1).trans rfl⟩ (fun hHeld=>?_)
       clear hK K
       refine norm_ (a':=?_) ?_ ?_
       rotate_left
       ·show Act.put _ (some 20) _ = _
        simp only [Act.put,zP_,i64_w]
        rfl
       refine one_ (i:=5) (N:=some 5) #[zt,zt,zt,zt,zt,zt,zf] rfl rfl (by kernel_rfl) (by decide) (fun K hK=>?_)
       refine box_step ?hg (N:=5) ?hd (cs:=#[.slice none 0 0,.slice none 0 0]) (t:=33) ?hr ?_;(case hd=>rfl);(case hg=>rfl);(case hr=>first|(go_simp;done)|(go_simp;rfl))
       intro gb258 hg w28 hbox hb
       have n0_:=zA (zj (by apply zR_;exact HO_249000.out) hb)
       have n1_:=zA (zj (by apply zR_;exact HO_249001.out) hb)
       have n2_:=zA (zj (by apply zR_;exact HO251.out) hb)
       have n3_:=zA (zj (by apply zR_;exact HO254.out) hb)
       have n4_:=zA (zj (by apply zR_;exact HO257.out) hb)
       have n5_:=zA (zX (g:=gb237) (o:=.cells #[.slice A0_0 l0_0.length c0_0,.slice A0_1 l0_1.length c0_1] 33 (0,0)) (by (with_reducible repeat (first|refine zG ?_ _|refine zI ?_|refine zH ?_ _));exact BK237.out) hb)
       have n6_:=zA (zX (g:=gb238) (o:=.cells #[.slice none 0 0,.slice none 0 0] 33 (0,0)) (by (with_reducible repeat (first|refine zG ?_ _|refine zI ?_|refine zH ?_ _));exact BK238.out) hb)
       have n7_:=zA (zX (g:=gb248) (o:=.cells #[u249000,u249001] 33 (0,0)) (by (with_reducible repeat (first|refine zG ?_ _|refine zI ?_|refine zH ?_ _));exact BK248.out) hb)
       have n8_:=zA (zR (by repeat (first|(with_reducible first|exact HB.out|apply zD|apply zB|apply zC|refine zF ?_ GE237.out|refine zF ?_ GE238.out|refine zF ?_ GE248.out)|exact HB.out)) hb)
       have n9_:=zA (hbox)
       have n10_:=zA ((by rw [hg];exact (zQ (by repeat (first|(with_reducible first|exact HB.out|apply zD|apply zB|apply zC|refine zF ?_ GE237.out|refine zF ?_ GE238.out|refine zF ?_ GE248.out)|exact HB.out))):w.heap.size≤gb258))
       have n11_:=zA ((by rw [hg];exact (zQ (by repeat (first|(with_reducible first|exact HB.out|apply zD|apply zB|apply zC|refine zF ?_ GE237.out|refine zF ?_ GE238.out|refine zF ?_ GE248.out)|exact HB.out))):w.heap.size≤gb258))
       have n12_:=zA ((by rw [hg];exact Nat.ne_of_lt (blk_lt (g:=gb237) (o:=.cells #[.slice A0_0 l0_0.length c0_0,.slice A0_1 l0_1.length c0_1] 33 (0,0)) (by (with_reducible repeat (first|refine zG ?_ _|refine zI ?_|refine zH ?_ _));exact BK237.out)):gb237≠gb258))
       have n13_:=zA ((by rw [hg];exact Nat.ne_of_gt (blk_lt (g:=gb237) (o:=.cells #[.slice A0_0 l0_0.length c0_0,.slice A0_1 l0_1.length c0_1] 33 (0,0)) (by (with_reducible repeat (first|refine zG ?_ _|refine zI ?_|refine zH ?_ _));exact BK237.out)):gb258≠gb237))
       have n14_:=zA ((by rw [hg];exact Nat.ne_of_lt (blk_lt (g:=gb238) (o:=.cells #[.slice none 0 0,.slice none 0 0] 33 (0,0)) (by (with_reducible repeat (first|refine zG ?_ _|refine zI ?_|refine zH ?_ _));exact BK238.out)):gb238≠gb258))
       have n15_:=zA ((by rw [hg];exact Nat.ne_of_gt (blk_lt (g:=gb238) (o:=.cells #[.slice none 0 0,.slice none 0 0] 33 (0,0)) (by (with_reducible repeat (first|refine zG ?_ _|refine zI ?_|refine zH ?_ _));exact BK238.out)):gb258≠gb238))
       have n16_:=zA ((by rw [hg];exact Nat.ne_of_lt (blk_lt (g:=gb248) (o:=.cells #[u249000,u249001] 33 (0,0)) (by (with_reducible repeat (first|refine zG ?_ _|refine zI ?_|refine zH ?_ _));exact BK248.out)):gb248≠gb258))
       have n17_:=zA ((by rw [hg];exact Nat.ne_of_gt (blk_lt (g:=gb248) (o:=.cells #[u249000,u249001] 33 (0,0)) (by (with_reducible repeat (first|refine zG ?_ _|refine zI ?_|refine zH ?_ _));exact BK248.out)):gb258≠gb248))
       clear HO_249000 HO_249001 HO251 HO254 HO257 BK237 BK238 BK248 HB
       have HO_249000:=n0_
       have HO_249001:=n1_
       have HO251:=n2_
       have HO254:=n3_
       have HO257:=n4_
       have BK237:=n5_
       have BK238:=n6_
       have BK248:=n7_
       have HB:=n8_
       have BK258:=n9_
       have GW258:=n10_
       have GE258:=n11_
       have NB237_258:=n12_
       have NB258_237:=n13_
       have NB238_258:=n14_
       have NB258_238:=n15_
       have NB248_258:=n16_
       have NB258_248:=n17_
       clear n0_ n1_ n2_ n3_ n4_ n5_ n6_ n7_ n8_ n9_ n10_ n11_ n12_ n13_ n14_ n15_ n16_ n17_ hb hbox hg
       refine hK.out _ _ ⟨(zT BK237.out 0).trans rfl,(zT BK237.out 1).trans rfl⟩ (fun hHeld=>?_)
       clear hK K
       refine norm_ (a':=?_) ?_ ?_
       rotate_left
       ·show Act.put _ (some 5) _ = _
        simp only [Act.put,zP_,i64_w]
        rfl
       exact norm_ (by simp only [putAll,Act.put,List.setIfInBounds_toArray,List.set_cons_zero,List.set_cons_succ]) (hCont (.slice Ao26 t249.length co26,v253,v256,gb258) _ ⟨hHeld,(by apply zR_;exact zV HO251.out (fun _ hk=>⟨hk.1.2,⟨hk.2,⟨hk.1.1.1.2,hk.1.1.2⟩⟩⟩)),(by apply zR_;exact zV HO254.out (fun _ hk=>⟨hk.2,⟨hk.1.1.1,⟨hk.1.1.2,hk.1.2⟩⟩⟩)),(by apply zR_;exact zV HO257.out (fun _ hk=>⟨hk.2,⟨hk.1.1.1,⟨hk.1.1.2,hk.1.2⟩⟩⟩)),(by apply zR_;exact zV HO_249000.out (fun _ hk=>⟨hk.1.1.2,⟨hk.1.2,⟨hk.2,hk.1.1.1⟩⟩⟩)),(by apply zR_;exact zV HO_249001.out (fun _ hk=>⟨hk.1.1.2,⟨hk.1.2,⟨hk.2,hk.1.1.1⟩⟩⟩)),(by (with_reducible repeat (first|refine zG ?_ _|refine zI ?_|refine zH ?_ _));exact BK237.out),(by (with_reducible repeat (first|refine zG ?_ _|refine zI ?_|refine zH ?_ _));exact BK238.out),(by (with_reducible repeat (first|refine zG ?_ _|refine zI ?_|refine zH ?_ _));exact BK248.out),(by (with_reducible repeat (first|refine zG ?_ _|refine zI ?_|refine zH ?_ _));exact BK258.out),GW258.out,GE258.out,NB237_258.out,NB258_237.out,NB238_258.out,NB258_238.out,NB248_258.out,NB258_248.out,(by repeat (first|(with_reducible first|exact HB.out|apply zD|apply zB|apply zC|refine zF ?_ GE237.out|refine zF ?_ GE238.out|refine zF ?_ GE248.out|refine zF ?_ GE258.out)|exact HB.out))⟩)
      ·skip
       refine box_step ?hg (N:=5) ?hd (cs:=#[.slice none 0 0,.slice none 0 0]) (t:=33) ?hr ?_;(case hd=>rfl);(case hg=>rfl);(case hr=>first|(go_simp;done)|(go_simp;rfl))
       intro gb258 hg w26 hbox hb
       have n0_:=zA (zj (by apply zR_;exact HO_249000.out) hb)
       have n1_:=zA (zj (by apply zR_;exact HO_249001.out) hb)
       have n2_:=zA (zj (by apply zR_;exact HO251.out) hb)
       have n3_:=zA (zX (g:=gb237) (o:=.cells #[.slice A0_0 l0_0.length c0_0,.slice A0_1 l0_1.length c0_1] 33 (0,0)) (by (with_reducible repeat (first|refine zG ?_ _|refine zI ?_|refine zH ?_ _));exact BK237.out) hb)
       have n4_:=zA (zX (g:=gb238) (o:=.cells #[.slice none 0 0,.slice none 0 0] 33 (0,0)) (by (with_reducible repeat (first|refine zG ?_ _|refine zI ?_|refine zH ?_ _));exact BK238.out) hb)
       have n5_:=zA (zX (g:=gb248) (o:=.cells #[u249000,u249001] 33 (0,0)) (by (with_reducible repeat (first|refine zG ?_ _|refine zI ?_|refine zH ?_ _));exact BK248.out) hb)
       have n6_:=zA (zR (by repeat (first|(with_reducible first|exact HB.out|apply zD|apply zB|apply zC|refine zF ?_ GE237.out|refine zF ?_ GE238.out|refine zF ?_ GE248.out)|exact HB.out)) hb)
       have n7_:=zA (hbox)
       have n8_:=zA ((by rw [hg];exact (zQ (by repeat (first|(with_reducible first|exact HB.out|apply zD|apply zB|apply zC|refine zF ?_ GE237.out|refine zF ?_ GE238.out|refine zF ?_ GE248.out)|exact HB.out))):w.heap.size≤gb258))
       have n9_:=zA ((by rw [hg];exact (zQ (by repeat (first|(with_reducible first|exact HB.out|apply zD|apply zB|apply zC|refine zF ?_ GE237.out|refine zF ?_ GE238.out|refine zF ?_ GE248.out)|exact HB.out))):w.heap.size≤gb258))
       have n10_:=zA ((by rw [hg];exact Nat.ne_of_lt (blk_lt (g:=gb237) (o:=.cells #[.slice A0_0 l0_0.length c0_0,.slice A0_1 l0_1.length c0_1] 33 (0,0)) (by (with_reducible repeat (first|refine zG ?_ _|refine zI ?_|refine zH ?_ _));exact BK237.out)):gb237≠gb258))
       have n11_:=zA ((by rw [hg];exact Nat.ne_of_gt (blk_lt (g:=gb237) (o:=.cells #[.slice A0_0 l0_0.length c0_0,.slice A0_1 l0_1.length c0_1] 33 (0,0)) (by (with_reducible repeat (first|refine zG ?_ _|refine zI ?_|refine zH ?_ _));exact BK237.out)):gb258≠gb237))
       have n12_:=zA ((by rw [hg];exact Nat.ne_of_lt (blk_lt (g:=gb238) (o:=.cells #[.slice none 0 0,.slice none 0 0] 33 (0,0)) (by (with_reducible repeat (first|refine zG ?_ _|refine zI ?_|refine zH ?_ _));exact BK238.out)):gb238≠gb258))
       have n13_:=zA ((by rw [hg];exact Nat.ne_of_gt (blk_lt (g:=gb238) (o:=.cells #[.slice none 0 0,.slice none 0 0] 33 (0,0)) (by (with_reducible repeat (first|refine zG ?_ _|refine zI ?_|refine zH ?_ _));exact BK238.out)):gb258≠gb238))
       have n14_:=zA ((by rw [hg];exact Nat.ne_of_lt (blk_lt (g:=gb248) (o:=.cells #[u249000,u249001] 33 (0,0)) (by (with_reducible repeat (first|refine zG ?_ _|refine zI ?_|refine zH ?_ _));exact BK248.out)):gb248≠gb258))
       have n15_:=zA ((by rw [hg];exact Nat.ne_of_gt (blk_lt (g:=gb248) (o:=.cells #[u249000,u249001] 33 (0,0)) (by (with_reducible repeat (first|refine zG ?_ _|refine zI ?_|refine zH ?_ _));exact BK248.out)):gb258≠gb248))
       clear HO_249000 HO_249001 HO251 BK237 BK238 BK248 HB
       have HO_249000:=n0_
       have HO_249001:=n1_
       have HO251:=n2_
       have BK237:=n3_
       have BK238:=n4_
       have BK248:=n5_
       have HB:=n6_
       have BK258:=n7_
       have GW258:=n8_
       have GE258:=n9_
       have NB237_258:=n10_
       have NB258_237:=n11_
       have NB238_258:=n12_
       have NB258_238:=n13_
       have NB248_258:=n14_
       have NB258_248:=n15_
       clear n0_ n1_ n2_ n3_ n4_ n5_ n6_ n7_ n8_ n9_ n10_ n11_ n12_ n13_ n14_ n15_ hb hbox hg
       obtain ⟨Ao27,co27,eo27⟩:=zg HO251.out
       (first|subst eo27|(injection eo27 with f1_ f2_ f3_;have f4_:=f1_.symm;have f5_:=f3_.symm;clear f1_ f2_ f3_;subst f4_;subst f5_))
       refine hK.out _ _ ⟨(zT BK237.out 0).trans rfl,(zT BK237.out 1).trans rfl⟩ (fun hHeld=>?_)
       clear hK K
       refine norm_ (a':=?_) ?_ ?_
       rotate_left
       ·show Act.put _ (some 5) _ = _
        simp only [Act.put,zP_,i64_w]
        rfl
       refine one_ (i:=4) (N:=some 20) #[zt,zt,zt,zt,zt,zt,zf] rfl rfl (by kernel_rfl) (by decide) (fun K hK=>?_)
       refine goes_ Try.func47 (by kernel_rfl) rfl #[.agg #[.slice A0_0 l0_0.length c0_0,.slice A0_1 l0_1.length c0_1],.slice Ao27 t249.length co27] (by rfl) rfl rfl (by (try simp only [zJ,zM,zN]);first|done|rfl|(simp only [zL,zK];rfl)) ?_
       with_reducible refine (impl_renamed.calls k1 _ _ l0_0 _ _ l0_1 _ _ t249 t252 t255 _ ?side1 ?side2 ?side3 ?side4 ?side5 ?side6 A21.out).mono ?_
       (case side1=>repeat (first|exact (zW HR0_0.out HB.out)|(with_reducible exact HR0_0.out)|apply zC_))
       (case side2=>exact HC0_0.out)
       (case side3=>repeat (first|exact (zW HR0_1.out HB.out)|(with_reducible exact HR0_1.out)|apply zC_))
       (case side4=>exact HC0_1.out)
       (case side5=>repeat (first|exact (zU HO251.out).2.2|apply zC_))
       (case side6=>exact (zU HO251.out).2.1)
       rintro e w28 ⟨v253,v256,rfl,ho0,ho1,hb⟩
       refine ⟨_,rfl,?_⟩
       have n0_:=zA (zV (Kd.R_told (Kd.R_told (Kd.R_old (by apply zR_;exact HO_249000.out) hb) (zd ho0)) (zd ho1)) (fun _ h_=>h_.1))
       have n1_:=zA (zV (Kd.R_told (Kd.R_told (Kd.R_old (by apply zR_;exact HO_249001.out) hb) (zd ho0)) (zd ho1)) (fun _ h_=>h_.1))
       have n2_:=zA (zV (Kd.R_told (Kd.R_told (Kd.R_old (by apply zR_;exact HO251.out) hb) (zd ho0)) (zd ho1)) (fun _ h_=>h_.1))
       have n3_:=zA (ze (zh (zh (zh ho0 (Kd.R_lt (by apply zR_;exact HO_249000.out))) (Kd.R_lt (by apply zR_;exact HO_249001.out))) (Kd.R_lt (by apply zR_;exact HO251.out))) (zQ (by repeat (first|(with_reducible first|exact HB.out|apply zD|apply zB|apply zC|refine zF ?_ GE237.out|refine zF ?_ GE238.out|refine zF ?_ GE248.out|refine zF ?_ GE258.out)|exact HB.out))))
       have n4_:=zA (ze (zh (zh (zh ho1 (Kd.R_lt (by apply zR_;exact HO_249000.out))) (Kd.R_lt (by apply zR_;exact HO_249001.out))) (Kd.R_lt (by apply zR_;exact HO251.out))) (zQ (by repeat (first|(with_reducible first|exact HB.out|apply zD|apply zB|apply zC|refine zF ?_ GE237.out|refine zF ?_ GE238.out|refine zF ?_ GE248.out|refine zF ?_ GE258.out)|exact HB.out))))
       have n5_:=zA (zX (g:=gb237) (o:=.cells #[.slice A0_0 l0_0.length c0_0,.slice A0_1 l0_1.length c0_1] 33 (0,0)) (by (with_reducible repeat (first|refine zG ?_ _|refine zI ?_|refine zH ?_ _));exact BK237.out) hb)
       have n6_:=zA (zX (g:=gb238) (o:=.cells #[.slice none 0 0,.slice none 0 0] 33 (0,0)) (by (with_reducible repeat (first|refine zG ?_ _|refine zI ?_|refine zH ?_ _));exact BK238.out) hb)
       have n7_:=zA (zX (g:=gb248) (o:=.cells #[u249000,u249001] 33 (0,0)) (by (with_reducible repeat (first|refine zG ?_ _|refine zI ?_|refine zH ?_ _));exact BK248.out) hb)
       have n8_:=zA (zX (g:=gb258) (o:=.cells #[.slice none 0 0,.slice none 0 0] 33 (0,0)) (by (with_reducible repeat (first|refine zG ?_ _|refine zI ?_|refine zH ?_ _));exact BK258.out) hb)
       have n9_:=zA (zR (by repeat (first|(with_reducible first|exact HB.out|apply zD|apply zB|apply zC|refine zF ?_ GE237.out|refine zF ?_ GE238.out|refine zF ?_ GE248.out|refine zF ?_ GE258.out)|exact HB.out)) hb)
       clear HO_249000 HO_249001 HO251 BK237 BK238 BK248 BK258 HB
       have HO_249000:=n0_
       have HO_249001:=n1_
       have HO251:=n2_
       have HO254:=n3_
       have HO257:=n4_
       have BK237:=n5_
       have BK238:=n6_
       have BK248:=n7_
       have BK258:=n8_
       have HB:=n9_
       clear n0_ n1_ n2_ n3_ n4_ n5_ n6_ n7_ n8_ n9_
       (try clear hb);(try clear hb2);(try clear hk);(try clear hi);(try clear ho0);(try clear ho1)
       refine hK.out _ _ ⟨(zT BK237.out 0).trans rfl,(zT BK237.out 1).trans rfl⟩ (fun hHeld=>?_)
       clear hK K
       refine norm_ (a':=?_) ?_ ?_
       rotate_left
       ·show Act.put _ (some 20) _ = _
        simp only [Act.put,zP_,i64_w]
        rfl
       exact norm_ (by simp only [putAll,Act.put,List.setIfInBounds_toArray,List.set_cons_zero,List.set_cons_succ]) (hCont (.slice Ao27 t249.length co27,v253,v256,gb258) _ ⟨hHeld,(by apply zR_;exact zV HO251.out (fun _ hk=>⟨hk.1.2,⟨hk.2,⟨hk.1.1.1.2,hk.1.1.2⟩⟩⟩)),(by apply zR_;exact zV HO254.out (fun _ hk=>⟨hk.2,⟨hk.1.1.1,⟨hk.1.1.2,hk.1.2⟩⟩⟩)),(by apply zR_;exact zV HO257.out (fun _ hk=>⟨hk.2,⟨hk.1.1.1,⟨hk.1.1.2,hk.1.2⟩⟩⟩)),(by apply zR_;exact zV HO_249000.out (fun _ hk=>⟨hk.1.1.2,⟨hk.1.2,⟨hk.2,hk.1.1.1⟩⟩⟩)),(by apply zR_;exact zV HO_249001.out (fun _ hk=>⟨hk.1.1.2,⟨hk.1.2,⟨hk.2,hk.1.1.1⟩⟩⟩)),(by (with_reducible repeat (first|refine zG ?_ _|refine zI ?_|refine zH ?_ _));exact BK237.out),(by (with_reducible repeat (first|refine zG ?_ _|refine zI ?_|refine zH ?_ _));exact BK238.out),(by (with_reducible repeat (first|refine zG ?_ _|refine zI ?_|refine zH ?_ _));exact BK248.out),(by (with_reducible repeat (first|refine zG ?_ _|refine zI ?_|refine zH ?_ _));exact BK258.out),GW258.out,GE258.out,NB237_258.out,NB258_237.out,NB238_258.out,NB258_238.out,NB248_258.out,NB258_248.out,(by repeat (first|(with_reducible first|exact HB.out|apply zD|apply zB|apply zC|refine zF ?_ GE237.out|refine zF ?_ GE238.out|refine zF ?_ GE248.out|refine zF ?_ GE258.out)|exact HB.out))⟩)
     ·skip
      refine box_step ?hg (N:=5) ?hd (cs:=#[.slice none 0 0,.slice none 0 0]) (t:=33) ?hr ?_;(case hd=>rfl);(case hg=>rfl);(case hr=>first|(go_simp;done)|(go_simp;rfl))
      intro gb258 hg w25 hbox hb
      have n0_:=zA (zj (by apply zR_;exact HO_249000.out) hb)
      have n1_:=zA (zj (by apply zR_;exact HO_249001.out) hb)
      have n2_:=zA (zX (g:=gb237) (o:=.cells #[.slice A0_0 l0_0.length c0_0,.slice A0_1 l0_1.length c0_1] 33 (0,0)) (by (with_reducible repeat (first|refine zG ?_ _|refine zI ?_|refine zH ?_ _));exact BK237.out) hb)
      have n3_:=zA (zX (g:=gb238) (o:=.cells #[.slice none 0 0,.slice none 0 0] 33 (0,0)) (by (with_reducible repeat (first|refine zG ?_ _|refine zI ?_|refine zH ?_ _));exact BK238.out) hb)
      have n4_:=zA (zX (g:=gb248) (o:=.cells #[u249000,u249001] 33 (0,0)) (by (with_reducible repeat (first|refine zG ?_ _|refine zI ?_|refine zH ?_ _));exact BK248.out) hb)
      have n5_:=zA (zR (by repeat (first|(with_reducible first|exact HB.out|apply zD|apply zB|apply zC|refine zF ?_ GE237.out|refine zF ?_ GE238.out|refine zF ?_ GE248.out)|exact HB.out)) hb)
      have n6_:=zA (hbox)
      have n7_:=zA ((by rw [hg];exact (zQ (by repeat (first|(with_reducible first|exact HB.out|apply zD|apply zB|apply zC|refine zF ?_ GE237.out|refine zF ?_ GE238.out|refine zF ?_ GE248.out)|exact HB.out))):w.heap.size≤gb258))
      have n8_:=zA ((by rw [hg];exact (zQ (by repeat (first|(with_reducible first|exact HB.out|apply zD|apply zB|apply zC|refine zF ?_ GE237.out|refine zF ?_ GE238.out|refine zF ?_ GE248.out)|exact HB.out))):w.heap.size≤gb258))
      have n9_:=zA ((by rw [hg];exact Nat.ne_of_lt (blk_lt (g:=gb237) (o:=.cells #[.slice A0_0 l0_0.length c0_0,.slice A0_1 l0_1.length c0_1] 33 (0,0)) (by (with_reducible repeat (first|refine zG ?_ _|refine zI ?_|refine zH ?_ _));exact BK237.out)):gb237≠gb258))
      have n10_:=zA ((by rw [hg];exact Nat.ne_of_gt (blk_lt (g:=gb237) (o:=.cells #[.slice A0_0 l0_0.length c0_0,.slice A0_1 l0_1.length c0_1] 33 (0,0)) (by (with_reducible repeat (first|refine zG ?_ _|refine zI ?_|refine zH ?_ _));exact BK237.out)):gb258≠gb237))
      have n11_:=zA ((by rw [hg];exact Nat.ne_of_lt (blk_lt (g:=gb238) (o:=.cells #[.slice none 0 0,.slice none 0 0] 33 (0,0)) (by (with_reducible repeat (first|refine zG ?_ _|refine zI ?_|refine zH ?_ _));exact BK238.out)):gb238≠gb258))
      have n12_:=zA ((by rw [hg];exact Nat.ne_of_gt (blk_lt (g:=gb238) (o:=.cells #[.slice none 0 0,.slice none 0 0] 33 (0,0)) (by (with_reducible repeat (first|refine zG ?_ _|refine zI ?_|refine zH ?_ _));exact BK238.out)):gb258≠gb238))
      have n13_:=zA ((by rw [hg];exact Nat.ne_of_lt (blk_lt (g:=gb248) (o:=.cells #[u249000,u249001] 33 (0,0)) (by (with_reducible repeat (first|refine zG ?_ _|refine zI ?_|refine zH ?_ _));exact BK248.out)):gb248≠gb258))
      have n14_:=zA ((by rw [hg];exact Nat.ne_of_gt (blk_lt (g:=gb248) (o:=.cells #[u249000,u249001] 33 (0,0)) (by (with_reducible repeat (first|refine zG ?_ _|refine zI ?_|refine zH ?_ _));exact BK248.out)):gb258≠gb248))
      clear HO_249000 HO_249001 BK237 BK238 BK248 HB
      have HO_249000:=n0_
      have HO_249001:=n1_
      have BK237:=n2_
      have BK238:=n3_
      have BK248:=n4_
      have HB:=n5_
      have BK258:=n6_
      have GW258:=n7_
      have GE258:=n8_
      have NB237_258:=n9_
      have NB258_237:=n10_
      have NB238_258:=n11_
      have NB258_238:=n12_
      have NB248_258:=n13_
      have NB258_248:=n14_
      clear n0_ n1_ n2_ n3_ n4_ n5_ n6_ n7_ n8_ n9_ n10_ n11_ n12_ n13_ n14_ hb hbox hg
      refine hK.out _ _ ⟨(zT BK237.out 0).trans rfl,(zT BK237.out 1).trans rfl⟩ (fun hHeld=>?_)
      clear hK K
      refine norm_ (a':=?_) ?_ ?_
      rotate_left
      ·show Act.put _ (some 5) _ = _
       simp only [Act.put,zP_,i64_w]
       rfl
      refine one_ (i:=3) (N:=some 19) #[zt,zt,zt,zt,zf,zt,zf] rfl rfl (by kernel_rfl) (by decide) (fun K hK=>?_)
      refine goes_ Try.func48 (by kernel_rfl) rfl #[.agg #[.slice A0_0 l0_0.length c0_0,.slice A0_1 l0_1.length c0_1],.int .i64 x13_1] (by rfl) rfl rfl (by (try simp only [zJ,zM,zN]);first|done|rfl|(simp only [zL,zK];rfl)) ?_
      with_reducible refine (impl_namesFrom.calls k1 _ _ l0_0 _ _ l0_1 x13_1 t249 _ ?side1 ?side2 ?side3 ?side4 A20.out).mono ?_
      (case side1=>repeat (first|exact (zW HR0_0.out HB.out)|(with_reducible exact HR0_0.out)|apply zC_))
      (case side2=>exact HC0_0.out)
      (case side3=>repeat (first|exact (zW HR0_1.out HB.out)|(with_reducible exact HR0_1.out)|apply zC_))
      (case side4=>exact HC0_1.out)
      rintro e w26 ⟨v250,rfl,ho0,hb⟩
      refine ⟨_,rfl,?_⟩
      have n0_:=zA (Kd.R_elder' (by apply zR_;exact HO_249000.out) (zd ho0) hb)
      have n1_:=zA (Kd.R_elder' (by apply zR_;exact HO_249001.out) (zd ho0) hb)
      have n2_:=zA (ze (zh (zh ho0 (Kd.R_lt (by apply zR_;exact HO_249000.out))) (Kd.R_lt (by apply zR_;exact HO_249001.out))) (zQ (by repeat (first|(with_reducible first|exact HB.out|apply zD|apply zB|apply zC|refine zF ?_ GE237.out|refine zF ?_ GE238.out|refine zF ?_ GE248.out|refine zF ?_ GE258.out)|exact HB.out))))
      have n3_:=zA (zX (g:=gb237) (o:=.cells #[.slice A0_0 l0_0.length c0_0,.slice A0_1 l0_1.length c0_1] 33 (0,0)) (by (with_reducible repeat (first|refine zG ?_ _|refine zI ?_|refine zH ?_ _));exact BK237.out) hb)
      have n4_:=zA (zX (g:=gb238) (o:=.cells #[.slice none 0 0,.slice none 0 0] 33 (0,0)) (by (with_reducible repeat (first|refine zG ?_ _|refine zI ?_|refine zH ?_ _));exact BK238.out) hb)
      have n5_:=zA (zX (g:=gb248) (o:=.cells #[u249000,u249001] 33 (0,0)) (by (with_reducible repeat (first|refine zG ?_ _|refine zI ?_|refine zH ?_ _));exact BK248.out) hb)
      have n6_:=zA (zX (g:=gb258) (o:=.cells #[.slice none 0 0,.slice none 0 0] 33 (0,0)) (by (with_reducible repeat (first|refine zG ?_ _|refine zI ?_|refine zH ?_ _));exact BK258.out) hb)
      have n7_:=zA (zR (by repeat (first|(with_reducible first|exact HB.out|apply zD|apply zB|apply zC|refine zF ?_ GE237.out|refine zF ?_ GE238.out|refine zF ?_ GE248.out|refine zF ?_ GE258.out)|exact HB.out)) hb)
      clear HO_249000 HO_249001 BK237 BK238 BK248 BK258 HB
      have HO_249000:=n0_
      have HO_249001:=n1_
      have HO251:=n2_
      have BK237:=n3_
      have BK238:=n4_
      have BK248:=n5_
      have BK258:=n6_
      have HB:=n7_
      clear n0_ n1_ n2_ n3_ n4_ n5_ n6_ n7_
      (try clear hb);(try clear hb2);(try clear hk);(try clear hi);(try clear ho0)
      obtain ⟨Ao27,co27,eo27⟩:=zg HO251.out
      (first|subst eo27|(injection eo27 with f1_ f2_ f3_;have f4_:=f1_.symm;have f5_:=f3_.symm;clear f1_ f2_ f3_;subst f4_;subst f5_))
      refine hK.out _ _ ⟨(zT BK237.out 0).trans rfl,(zT BK237.out 1).trans rfl⟩ (fun hHeld=>?_)
      clear hK K
      refine norm_ (a':=?_) ?_ ?_
      rotate_left
      ·show Act.put _ (some 19) _ = _
       simp only [Act.put,zP_,i64_w]
       rfl
      refine one_ (i:=4) (N:=some 20) #[zt,zt,zt,zt,zt,zt,zf] rfl rfl (by kernel_rfl) (by decide) (fun K hK=>?_)
      refine goes_ Try.func47 (by kernel_rfl) rfl #[.agg #[.slice A0_0 l0_0.length c0_0,.slice A0_1 l0_1.length c0_1],.slice Ao27 t249.length co27] (by rfl) rfl rfl (by (try simp only [zJ,zM,zN]);first|done|rfl|(simp only [zL,zK];rfl)) ?_
      with_reducible refine (impl_renamed.calls k1 _ _ l0_0 _ _ l0_1 _ _ t249 t252 t255 _ ?side1 ?side2 ?side3 ?side4 ?side5 ?side6 A21.out).mono ?_
      (case side1=>repeat (first|exact (zW HR0_0.out HB.out)|(with_reducible exact HR0_0.out)|apply zC_))
      (case side2=>exact HC0_0.out)
      (case side3=>repeat (first|exact (zW HR0_1.out HB.out)|(with_reducible exact HR0_1.out)|apply zC_))
      (case side4=>exact HC0_1.out)
      (case side5=>repeat (first|exact (zU HO251.out).2.2|apply zC_))
      (case side6=>exact (zU HO251.out).2.1)
      rintro e w28 ⟨v253,v256,rfl,ho0,ho1,hb⟩
      refine ⟨_,rfl,?_⟩
      have n0_:=zA (zV (Kd.R_told (Kd.R_told (Kd.R_old (by apply zR_;exact HO_249000.out) hb) (zd ho0)) (zd ho1)) (fun _ h_=>h_.1))
      have n1_:=zA (zV (Kd.R_told (Kd.R_told (Kd.R_old (by apply zR_;exact HO_249001.out) hb) (zd ho0)) (zd ho1)) (fun _ h_=>h_.1))
      have n2_:=zA (zV (Kd.R_told (Kd.R_told (Kd.R_old (by apply zR_;exact HO251.out) hb) (zd ho0)) (zd ho1)) (fun _ h_=>h_.1))
      have n3_:=zA (ze (zh (zh (zh ho0 (Kd.R_lt (by apply zR_;exact HO_249000.out))) (Kd.R_lt (by apply zR_;exact HO_249001.out))) (Kd.R_lt (by apply zR_;exact HO251.out))) (zQ (by repeat (first|(with_reducible first|exact HB.out|apply zD|apply zB|apply zC|refine zF ?_ GE237.out|refine zF ?_ GE238.out|refine zF ?_ GE248.out|refine zF ?_ GE258.out)|exact HB.out))))
      have n4_:=zA (ze (zh (zh (zh ho1 (Kd.R_lt (by apply zR_;exact HO_249000.out))) (Kd.R_lt (by apply zR_;exact HO_249001.out))) (Kd.R_lt (by apply zR_;exact HO251.out))) (zQ (by repeat (first|(with_reducible first|exact HB.out|apply zD|apply zB|apply zC|refine zF ?_ GE237.out|refine zF ?_ GE238.out|refine zF ?_ GE248.out|refine zF ?_ GE258.out)|exact HB.out))))
      have n5_:=zA (zX (g:=gb237) (o:=.cells #[.slice A0_0 l0_0.length c0_0,.slice A0_1 l0_1.length c0_1] 33 (0,0)) (by (with_reducible repeat (first|refine zG ?_ _|refine zI ?_|refine zH ?_ _));exact BK237.out) hb)
      have n6_:=zA (zX (g:=gb238) (o:=.cells #[.slice none 0 0,.slice none 0 0] 33 (0,0)) (by (with_reducible repeat (first|refine zG ?_ _|refine zI ?_|refine zH ?_ _));exact BK238.out) hb)
      have n7_:=zA (zX (g:=gb248) (o:=.cells #[u249000,u249001] 33 (0,0)) (by (with_reducible repeat (first|refine zG ?_ _|refine zI ?_|refine zH ?_ _));exact BK248.out) hb)
      have n8_:=zA (zX (g:=gb258) (o:=.cells #[.slice none 0 0,.slice none 0 0] 33 (0,0)) (by (with_reducible repeat (first|refine zG ?_ _|refine zI ?_|refine zH ?_ _));exact BK258.out) hb)
      have n9_:=zA (zR (by repeat (first|(with_reducible first|exact HB.out|apply zD|apply zB|apply zC|refine zF ?_ GE237.out|refine zF ?_ GE238.out|refine zF ?_ GE248.out|refine zF ?_ GE258.out)|exact HB.out)) hb)
      clear HO_249000 HO_249001 HO251 BK237 BK238 BK248 BK258 HB
      have HO_249000:=n0_
      have HO_249001:=n1_
      have HO251:=n2_
      have HO254:=n3_
      have HO257:=n4_
      have BK237:=n5_
      have BK238:=n6_
      have BK248:=n7_
      have BK258:=n8_
      have HB:=n9_
      clear n0_ n1_ n2_ n3_ n4_ n5_ n6_ n7_ n8_ n9_
      (try clear hb);(try clear hb2);(try clear hk);(try clear hi);(try clear ho0);(try clear ho1)
      refine hK.out _ _ ⟨(zT BK237.out 0).trans rfl,(zT BK237.out 1).trans rfl⟩ (fun hHeld=>?_)
      clear hK K
      refine norm_ (a':=?_) ?_ ?_
      rotate_left
      ·show Act.put _ (some 20) _ = _
       simp only [Act.put,zP_,i64_w]
       rfl
      exact norm_ (by simp only [putAll,Act.put,List.setIfInBounds_toArray,List.set_cons_zero,List.set_cons_succ]) (hCont (.slice Ao27 t249.length co27,v253,v256,gb258) _ ⟨hHeld,(by apply zR_;exact zV HO251.out (fun _ hk=>⟨hk.1.2,⟨hk.2,⟨hk.1.1.1.2,hk.1.1.2⟩⟩⟩)),(by apply zR_;exact zV HO254.out (fun _ hk=>⟨hk.2,⟨hk.1.1.1,⟨hk.1.1.2,hk.1.2⟩⟩⟩)),(by apply zR_;exact zV HO257.out (fun _ hk=>⟨hk.2,⟨hk.1.1.1,⟨hk.1.1.2,hk.1.2⟩⟩⟩)),(by apply zR_;exact zV HO_249000.out (fun _ hk=>⟨hk.1.1.2,⟨hk.1.2,⟨hk.2,hk.1.1.1⟩⟩⟩)),(by apply zR_;exact zV HO_249001.out (fun _ hk=>⟨hk.1.1.2,⟨hk.1.2,⟨hk.2,hk.1.1.1⟩⟩⟩)),(by (with_reducible repeat (first|refine zG ?_ _|refine zI ?_|refine zH ?_ _));exact BK237.out),(by (with_reducible repeat (first|refine zG ?_ _|refine zI ?_|refine zH ?_ _));exact BK238.out),(by (with_reducible repeat (first|refine zG ?_ _|refine zI ?_|refine zH ?_ _));exact BK248.out),(by (with_reducible repeat (first|refine zG ?_ _|refine zI ?_|refine zH ?_ _));exact BK258.out),GW258.out,GE258.out,NB237_258.out,NB258_237.out,NB238_258.out,NB258_238.out,NB248_258.out,NB258_248.out,(by repeat (first|(with_reducible first|exact HB.out|apply zD|apply zB|apply zC|refine zF ?_ GE237.out|refine zF ?_ GE238.out|refine zF ?_ GE248.out|refine zF ?_ GE258.out)|exact HB.out))⟩)
    rintro ⟨v250,v253,v256,gb258⟩ w29 ⟨hS_,h0_,h1_,h2_,h3_,h4_,h5_,h6_,h7_,h8_,h9_,h10_,h11_,h12_,h13_,h14_,h15_,h16_,h17_⟩
    have n0_:Aside0 (Kd.R (Kd.int .i64) 3 w29 w.heap.size (fun k_=>some k_≠(v253:Value).ownBlock∧some k_≠(v256:Value).ownBlock∧some k_≠(u249000:Value).ownBlock∧some k_≠(u249001:Value).ownBlock) v250 t249):=⟨h0_⟩
    have n1_:Aside0 (Kd.R (Kd.int .i64) 3 w29 w.heap.size (fun k_=>some k_≠(v250:Value).ownBlock∧some k_≠(v256:Value).ownBlock∧some k_≠(u249000:Value).ownBlock∧some k_≠(u249001:Value).ownBlock) v253 t252):=⟨h1_⟩
    have n2_:Aside0 (Kd.R (Kd.int .i64) 3 w29 w.heap.size (fun k_=>some k_≠(v250:Value).ownBlock∧some k_≠(v253:Value).ownBlock∧some k_≠(u249000:Value).ownBlock∧some k_≠(u249001:Value).ownBlock) v256 t255):=⟨h2_⟩
    have n3_:Aside0 (Kd.R (Kd.int .i64) 3 w29 w.heap.size (fun k_=>some k_≠(v250:Value).ownBlock∧some k_≠(v253:Value).ownBlock∧some k_≠(v256:Value).ownBlock∧some k_≠(u249001:Value).ownBlock) u249000 x249000_1):=⟨h3_⟩
    have n4_:Aside0 (Kd.R (Kd.int .i64) 3 w29 w.heap.size (fun k_=>some k_≠(v250:Value).ownBlock∧some k_≠(v253:Value).ownBlock∧some k_≠(v256:Value).ownBlock∧some k_≠(u249000:Value).ownBlock) u249001 x249001_1):=⟨h4_⟩
    have n5_:Aside0 (w29.heap[gb237]? = some (.cells #[.slice A0_0 l0_0.length c0_0,.slice A0_1 l0_1.length c0_1] 33 (0,0))):=⟨h5_⟩
    have n6_:Aside0 (w29.heap[gb238]? = some (.cells #[.slice none 0 0,.slice none 0 0] 33 (0,0))):=⟨h6_⟩
    have n7_:Aside0 (w29.heap[gb248]? = some (.cells #[u249000,u249001] 33 (0,0))):=⟨h7_⟩
    have n8_:Aside0 (w29.heap[gb258]? = some (.cells #[.slice none 0 0,.slice none 0 0] 33 (0,0))):=⟨h8_⟩
    have n9_:Aside0 (w.heap.size≤gb258):=⟨h9_⟩
    have n10_:Aside0 (w.heap.size≤gb258):=⟨h10_⟩
    have n11_:Aside0 (gb237≠gb258):=⟨h11_⟩
    have n12_:Aside0 (gb258≠gb237):=⟨h12_⟩
    have n13_:Aside0 (gb238≠gb258):=⟨h13_⟩
    have n14_:Aside0 (gb258≠gb238):=⟨h14_⟩
    have n15_:Aside0 (gb248≠gb258):=⟨h15_⟩
    have n16_:Aside0 (gb258≠gb248):=⟨h16_⟩
    have n17_:Aside0 (Below w.heap.size w w29):=⟨h17_⟩
    clear HO_249000 HO_249001 BK237 BK238 BK248 HB h0_ h1_ h2_ h3_ h4_ h5_ h6_ h7_ h8_ h9_ h10_ h11_ h12_ h13_ h14_ h15_ h16_ h17_
    have HO251:=n0_
    have HO254:=n1_
    have HO257:=n2_
    have HO_249000:=n3_
    have HO_249001:=n4_
    have BK237:=n5_
    have BK238:=n6_
    have BK248:=n7_
    have BK258:=n8_
    have GW258:=n9_
    have GE258:=n10_
    have NB237_258:=n11_
    have NB258_237:=n12_
    have NB238_258:=n13_
    have NB258_238:=n14_
    have NB248_258:=n15_
    have NB258_248:=n16_
    have HB:=n17_
    clear n0_ n1_ n2_ n3_ n4_ n5_ n6_ n7_ n8_ n9_ n10_ n11_ n12_ n13_ n14_ n15_ n16_ n17_
    have hHeld:w29.cell? ⟨gb237,0,none⟩ = some (.slice A0_0 l0_0.length c0_0)∧w29.cell? ⟨gb237,1,none⟩ = some (.slice A0_1 l0_1.length c0_1):=hS_
    obtain ⟨Ao30,co30,eo30⟩:=zg HO254.out
    (first|subst eo30|(injection eo30 with f1_ f2_ f3_;have f4_:=f1_.symm;have f5_:=f3_.symm;clear f1_ f2_ f3_;subst f4_;subst f5_))
    obtain ⟨Ao32,co32,eo32⟩:=zg HO257.out
    (first|subst eo32|(injection eo32 with f1_ f2_ f3_;have f4_:=f1_.symm;have f5_:=f3_.symm;clear f1_ f2_ f3_;subst f4_;subst f5_))
    refine norm_ (a':=?_) ?_ ?_
    rotate_left
    ·simp only [putAll,Act.put,List.setIfInBounds_toArray,List.set_cons_zero,List.set_cons_succ]
     rfl
    refine one_ (i:=6) (N:=none) #[zt,zt,zt,zt,zt,zt,zt] rfl rfl (by kernel_rfl) (by decide) (fun K hK=>?_)
    have hs31:w29.cell? ⟨gb258,0,none⟩ = some (.slice none 0 0):=(zT BK258.out 0).trans rfl
    have hfs31:=zZ BK258.out 0
    have hns31_0:=NB237_258.out
    have hns31_1:=NB238_258.out
    have hns31_2:=NB248_258.out
    have hms31_0:=NB258_237.out
    have hms31_1:=NB258_238.out
    have hms31_2:=NB258_248.out
    have hs33:w29.cell? ⟨gb258,1,none⟩ = some (.slice none 0 0):=(zT BK258.out 1).trans rfl
    have hfs33:=zZ BK258.out 1
    have hns33_0:=NB237_258.out
    have hns33_1:=NB238_258.out
    have hns33_2:=NB248_258.out
    have hms33_0:=NB258_237.out
    have hms33_1:=NB258_238.out
    have hms33_2:=NB258_248.out
    refine skip_ (w1:=?_) (by rfl) rfl ?_ ?_
    rotate_left
    ·go_simp
     rfl
    refine hK.out _ _ ⟨((cell_far (p:=⟨gb258,_,none⟩) NB237_258.out _).trans (((cell_far (p:=⟨gb258,_,none⟩) NB237_258.out _).trans (hHeld.1)))),((cell_far (p:=⟨gb258,_,none⟩) NB237_258.out _).trans (((cell_far (p:=⟨gb258,_,none⟩) NB237_258.out _).trans (hHeld.2))))⟩ (fun hHeld=>?_)
    clear hK K
    refine done_ (by kernel_rfl) ?_
    have H:=H9_.out
    clear H9_
    by_cases c23:t259 < 0
    ·rw [if_pos c23] at H
     have c23b0:decide (t259 < 0) = true:=zO c23
     clear c23
     try rw [c23b0]
     have H':=zA H
     clear H
     have hnb34:=NB258_237.out
     have hnc34:=NB237_258.out
     have hnb35:=NB258_238.out
     have hnc35:=NB238_258.out
     have hnb36:=NB258_248.out
     have hnc36:=NB248_258.out
     have hcz37_0:w29.cell? ⟨gb258,0,none⟩ = some (.slice none 0 0):=(zT BK258.out 0).trans rfl
     have hcz37_1:w29.cell? ⟨gb258,1,none⟩ = some (.slice none 0 0):=(zT BK258.out 1).trans rfl
     have hfz37_0:=zZ BK258.out 0
     have hfz37_1:=zZ BK258.out 1
     have hnb38:=NB248_237.out
     have hnc38:=NB237_248.out
     have hnb39:=NB248_238.out
     have hnc39:=NB238_248.out
     have hcz40_0:w29.cell? ⟨gb248,0,none⟩ = some (u249000):=(zT BK248.out 0).trans rfl
     have hcz40_1:w29.cell? ⟨gb248,1,none⟩ = some (u249001):=(zT BK248.out 1).trans rfl
     have hfz40_0:=zZ BK248.out 0
     have hfz40_1:=zZ BK248.out 1
     obtain ⟨Ao41,co41,eo41⟩:=zg HO_249000.out
     subst eo41
     obtain ⟨Ao42,co42,eo42⟩:=zg HO_249001.out
     subst eo42
     try go_wp2_with (first|((with_reducible refine gate_callee (f:=62) rfl ?_);refine goesL_ (some 23) rfl rfl Try.func62 (by kernel_rfl) rfl #[.agg #[.slice Ao30 t252.length co30,.slice Ao32 t255.length co32],.agg #[.slice Ao41 x249000_1.length co41,.slice Ao42 x249001_1.length co42]] rfl (by (try simp only [zJ,zM,zN]);first|done|rfl|(simp only [zL,zK];rfl)) ?_;(with_reducible refine (impl_compareMaps.calls k1 _ _ t252 _ _ t255 _ _ x249000_1 _ _ x249001_1 t259 _ ?side1 ?side2 ?side3 ?side4 ?side5 ?side6 ?side7 ?side8 A22.out).mono ?_);(case side1=>refine (zU (e:=3) (base:=w.heap.size) (ok:=fun k_=>(some k_≠(v250:Value).ownBlock∧(some k_≠(.slice Ao32 t255.length co32:Value).ownBlock∧(some k_≠(.slice Ao41 x249000_1.length co41:Value).ownBlock∧some k_≠(.slice Ao42 x249001_1.length co42:Value).ownBlock)))) (n:=t252.length) (c:=co30) ?_).2.2;exact (by apply zR_;exact (zV (zi (p:=⟨gb258,1,none⟩) (zi (p:=⟨gb258,0,none⟩) (Kd.R_types HO254.out BK258.out (by decide)) (fun _ hk=>hk.2) (.slice Ao30 t252.length co30)) (fun _ hk=>hk.2) (.slice Ao32 t255.length co32)) (fun _ h_=>h_.1))));(case side2=>exact (zU HO254.out).2.1);(case side3=>refine (zU (e:=3) (base:=w.heap.size) (ok:=fun k_=>(some k_≠(v250:Value).ownBlock∧(some k_≠(.slice Ao30 t252.length co30:Value).ownBlock∧(some k_≠(.slice Ao41 x249000_1.length co41:Value).ownBlock∧some k_≠(.slice Ao42 x249001_1.length co42:Value).ownBlock)))) (n:=t255.length) (c:=co32) ?_).2.2;exact (by apply zR_;exact (zV (zi (p:=⟨gb258,1,none⟩) (zi (p:=⟨gb258,0,none⟩) (Kd.R_types HO257.out BK258.out (by decide)) (fun _ hk=>hk.2) (.slice Ao30 t252.length co30)) (fun _ hk=>hk.2) (.slice Ao32 t255.length co32)) (fun _ h_=>h_.1))));(case side4=>exact (zU HO257.out).2.1);(case side5=>refine (zU (e:=3) (base:=w.heap.size) (ok:=fun k_=>(some k_≠(v250:Value).ownBlock∧(some k_≠(.slice Ao30 t252.length co30:Value).ownBlock∧(some k_≠(.slice Ao32 t255.length co32:Value).ownBlock∧some k_≠(.slice Ao42 x249001_1.length co42:Value).ownBlock)))) (n:=x249000_1.length) (c:=co41) ?_).2.2;exact (by apply zR_;exact (zV (zi (p:=⟨gb258,1,none⟩) (zi (p:=⟨gb258,0,none⟩) (Kd.R_types HO_249000.out BK258.out (by decide)) (fun _ hk=>hk.2) (.slice Ao30 t252.length co30)) (fun _ hk=>hk.2) (.slice Ao32 t255.length co32)) (fun _ h_=>h_.1))));(case side6=>exact (zU HO_249000.out).2.1);(case side7=>refine (zU (e:=3) (base:=w.heap.size) (ok:=fun k_=>(some k_≠(v250:Value).ownBlock∧(some k_≠(.slice Ao30 t252.length co30:Value).ownBlock∧(some k_≠(.slice Ao32 t255.length co32:Value).ownBlock∧some k_≠(.slice Ao41 x249000_1.length co41:Value).ownBlock)))) (n:=x249001_1.length) (c:=co42) ?_).2.2;exact (by apply zR_;exact (zV (zi (p:=⟨gb258,1,none⟩) (zi (p:=⟨gb258,0,none⟩) (Kd.R_types HO_249001.out BK258.out (by decide)) (fun _ hk=>hk.2) (.slice Ao30 t252.length co30)) (fun _ hk=>hk.2) (.slice Ao32 t255.length co32)) (fun _ h_=>h_.1))));(case side8=>exact (zU HO_249001.out).2.1);rintro e w43 ⟨rfl,hb⟩;refine ⟨_,rfl,?_⟩;have n0_:=zA (zj (by apply zR_;exact (zV (zi (p:=⟨gb258,1,none⟩) (zi (p:=⟨gb258,0,none⟩) (Kd.R_types HO_249000.out BK258.out (by decide)) (fun _ hk=>hk.2) (.slice Ao30 t252.length co30)) (fun _ hk=>hk.2) (.slice Ao32 t255.length co32)) (fun _ h_=>h_.1))) hb);have n1_:=zA (zj (by apply zR_;exact (zV (zi (p:=⟨gb258,1,none⟩) (zi (p:=⟨gb258,0,none⟩) (Kd.R_types HO_249001.out BK258.out (by decide)) (fun _ hk=>hk.2) (.slice Ao30 t252.length co30)) (fun _ hk=>hk.2) (.slice Ao32 t255.length co32)) (fun _ h_=>h_.1))) hb);have n2_:=zA (zj (by apply zR_;exact (zV (zi (p:=⟨gb258,1,none⟩) (zi (p:=⟨gb258,0,none⟩) (Kd.R_types HO251.out BK258.out (by decide)) (fun _ hk=>hk.2) (.slice Ao30 t252.length co30)) (fun _ hk=>hk.2) (.slice Ao32 t255.length co32)) (fun _ h_=>h_.1))) hb);have n3_:=zA (zj (by apply zR_;exact (zV (zi (p:=⟨gb258,1,none⟩) (zi (p:=⟨gb258,0,none⟩) (Kd.R_types HO254.out BK258.out (by decide)) (fun _ hk=>hk.2) (.slice Ao30 t252.length co30)) (fun _ hk=>hk.2) (.slice Ao32 t255.length co32)) (fun _ h_=>h_.1))) hb);have n4_:=zA (zj (by apply zR_;exact (zV (zi (p:=⟨gb258,1,none⟩) (zi (p:=⟨gb258,0,none⟩) (Kd.R_types HO257.out BK258.out (by decide)) (fun _ hk=>hk.2) (.slice Ao30 t252.length co30)) (fun _ hk=>hk.2) (.slice Ao32 t255.length co32)) (fun _ h_=>h_.1))) hb);have n5_:=zA (zX (g:=gb237) (o:=.cells #[.slice A0_0 l0_0.length c0_0,.slice A0_1 l0_1.length c0_1] 33 (0,0)) (by (with_reducible repeat (first|refine zG ?_ _|refine zI ?_|refine zH ?_ _));refine blk_far ?_ NB237_258.out _;(with_reducible repeat (first|refine zG ?_ _|refine zI ?_|refine zH ?_ _));refine blk_far ?_ NB237_258.out _;(with_reducible repeat (first|refine zG ?_ _|refine zI ?_|refine zH ?_ _));exact BK237.out) hb);have n6_:=zA (zX (g:=gb238) (o:=.cells #[.slice none 0 0,.slice none 0 0] 33 (0,0)) (by (with_reducible repeat (first|refine zG ?_ _|refine zI ?_|refine zH ?_ _));refine blk_far ?_ NB238_258.out _;(with_reducible repeat (first|refine zG ?_ _|refine zI ?_|refine zH ?_ _));refine blk_far ?_ NB238_258.out _;(with_reducible repeat (first|refine zG ?_ _|refine zI ?_|refine zH ?_ _));exact BK238.out) hb);have n7_:=zA (zX (g:=gb248) (o:=.cells #[.slice Ao41 x249000_1.length co41,.slice Ao42 x249001_1.length co42] 33 (0,0)) (by (with_reducible repeat (first|refine zG ?_ _|refine zI ?_|refine zH ?_ _));refine blk_far ?_ NB248_258.out _;(with_reducible repeat (first|refine zG ?_ _|refine zI ?_|refine zH ?_ _));refine blk_far ?_ NB248_258.out _;(with_reducible repeat (first|refine zG ?_ _|refine zI ?_|refine zH ?_ _));exact BK248.out) hb);have n8_:=zA (zX (g:=gb258) (o:=.cells #[.slice Ao30 t252.length co30,.slice Ao32 t255.length co32] 33 (0,0)) (by (with_reducible repeat (first|refine zG ?_ _|refine zI ?_|refine zH ?_ _));refine blk_put (cs:=#[.slice Ao30 t252.length co30,.slice none 0 0]) ?_ 1 _ rfl;(with_reducible repeat (first|refine zG ?_ _|refine zI ?_|refine zH ?_ _));refine blk_put (cs:=#[.slice none 0 0,.slice none 0 0]) ?_ 0 _ rfl;(with_reducible repeat (first|refine zG ?_ _|refine zI ?_|refine zH ?_ _));exact BK258.out) hb);have n9_:=zA (zR (by repeat (first|(with_reducible first|exact HB.out|apply zD|apply zB|apply zC|refine zF ?_ GE237.out|refine zF ?_ GE238.out|refine zF ?_ GE248.out|refine zF ?_ GE258.out)|exact HB.out)) hb);clear HO_249000;clear HO_249001;clear HO251;clear HO254;clear HO257;clear BK237;clear BK238;clear BK248;clear BK258;clear HB;have HO_249000:=n0_;have HO_249001:=n1_;have HO251:=n2_;have HO254:=n3_;have HO257:=n4_;have BK237:=n5_;have BK238:=n6_;have BK248:=n7_;have BK258:=n8_;have HB:=n9_;clear n0_ n1_ n2_ n3_ n4_ n5_ n6_ n7_ n8_ n9_;(try clear hb);(try clear hb2);(try clear hk);(try clear hi);have hcz44_0:w43.cell? ⟨gb258,0,none⟩ = some (.slice Ao30 t252.length co30):=(zT BK258.out 0).trans rfl;have hcz44_1:w43.cell? ⟨gb258,1,none⟩ = some (.slice Ao32 t255.length co32):=(zT BK258.out 1).trans rfl;have hfz44_0:=zZ BK258.out 0;have hfz44_1:=zZ BK258.out 1;have hcz45_0:w43.cell? ⟨gb248,0,none⟩ = some (.slice Ao41 x249000_1.length co41):=(zT BK248.out 0).trans rfl;have hcz45_1:w43.cell? ⟨gb248,1,none⟩ = some (.slice Ao42 x249001_1.length co42):=(zT BK248.out 1).trans rfl;have hfz45_0:=zZ BK248.out 0;have hfz45_1:=zZ BK248.out 1))
     go_roundg k1
     case measure=>have:=HK1.out;omega
     case rel=>exact ⟨(wrap64 (x13_1+1)),(t252),(t255),(.slice Ao30 t252.length co30),(.slice Ao32 t255.length co32),(by first|rfl|(simp;done)|(simp [*];done)),H',⟨by have:=HK1.out;omega⟩,⟨by apply zR_;exact zV (zi (p:=⟨gb248,1,none⟩) (zi (p:=⟨gb248,0,none⟩) (Kd.R_types HO254.out BK248.out (by decide)) (fun _ hk=>hk.2) (.slice Ao30 t252.length co30)) (fun _ hk=>hk.2) (.slice Ao32 t255.length co32)) (fun _ hk=>hk.1.2.1)⟩,⟨by apply zR_;exact zV (zi (p:=⟨gb248,1,none⟩) (zi (p:=⟨gb248,0,none⟩) (Kd.R_types HO257.out BK248.out (by decide)) (fun _ hk=>hk.2) (.slice Ao30 t252.length co30)) (fun _ hk=>hk.2) (.slice Ao32 t255.length co32)) (fun _ hk=>hk.1.2.1)⟩,⟨by (with_reducible repeat (first|refine zG ?_ _|refine zI ?_|refine zH ?_ _));refine blk_far ?_ NB237_248.out _;(with_reducible repeat (first|refine zG ?_ _|refine zI ?_|refine zH ?_ _));refine blk_far ?_ NB237_248.out _;(with_reducible repeat (first|refine zG ?_ _|refine zI ?_|refine zH ?_ _));exact BK237.out⟩,⟨by (with_reducible repeat (first|refine zG ?_ _|refine zI ?_|refine zH ?_ _));refine blk_far ?_ NB238_248.out _;(with_reducible repeat (first|refine zG ?_ _|refine zI ?_|refine zH ?_ _));refine blk_far ?_ NB238_248.out _;(with_reducible repeat (first|refine zG ?_ _|refine zI ?_|refine zH ?_ _));exact BK238.out⟩,⟨by (with_reducible repeat (first|refine zG ?_ _|refine zI ?_|refine zH ?_ _));refine blk_put (cs:=#[.slice Ao30 t252.length co30,.slice Ao42 x249001_1.length co42]) ?_ 1 _ rfl;(with_reducible repeat (first|refine zG ?_ _|refine zI ?_|refine zH ?_ _));refine blk_put (cs:=#[.slice Ao41 x249000_1.length co41,.slice Ao42 x249001_1.length co42]) ?_ 0 _ rfl;(with_reducible repeat (first|refine zG ?_ _|refine zI ?_|refine zH ?_ _));exact BK248.out⟩,⟨by repeat (first|(with_reducible first|exact HB.out|apply zD|apply zB|apply zC|refine zF ?_ GE237.out|refine zF ?_ GE238.out|refine zF ?_ GE248.out|refine zF ?_ GE258.out)|exact HB.out)⟩⟩
    ·rw [if_neg c23] at H
     have c23b0:decide (t259 < 0) = false:=zP c23
     clear c23
     try rw [c23b0]
     have H':=zA H
     clear H
     have hnb56:=NB258_237.out
     have hnc56:=NB237_258.out
     have hnb57:=NB258_238.out
     have hnc57:=NB238_258.out
     have hnb58:=NB258_248.out
     have hnc58:=NB248_258.out
     have hcz59_0:w29.cell? ⟨gb258,0,none⟩ = some (.slice none 0 0):=(zT BK258.out 0).trans rfl
     have hcz59_1:w29.cell? ⟨gb258,1,none⟩ = some (.slice none 0 0):=(zT BK258.out 1).trans rfl
     have hfz59_0:=zZ BK258.out 0
     have hfz59_1:=zZ BK258.out 1
     have hnb60:=NB248_237.out
     have hnc60:=NB237_248.out
     have hnb61:=NB248_238.out
     have hnc61:=NB238_248.out
     have hcz62_0:w29.cell? ⟨gb248,0,none⟩ = some (u249000):=(zT BK248.out 0).trans rfl
     have hcz62_1:w29.cell? ⟨gb248,1,none⟩ = some (u249001):=(zT BK248.out 1).trans rfl
     have hfz62_0:=zZ BK248.out 0
     have hfz62_1:=zZ BK248.out 1
     obtain ⟨Ao63,co63,eo63⟩:=zg HO_249000.out
     subst eo63
     obtain ⟨Ao64,co64,eo64⟩:=zg HO_249001.out
     subst eo64
     try go_wp2_with (first|((with_reducible refine gate_callee (f:=62) rfl ?_);refine goesL_ (some 23) rfl rfl Try.func62 (by kernel_rfl) rfl #[.agg #[.slice Ao30 t252.length co30,.slice Ao32 t255.length co32],.agg #[.slice Ao63 x249000_1.length co63,.slice Ao64 x249001_1.length co64]] rfl (by (try simp only [zJ,zM,zN]);first|done|rfl|(simp only [zL,zK];rfl)) ?_;(with_reducible refine (impl_compareMaps.calls k1 _ _ t252 _ _ t255 _ _ x249000_1 _ _ x249001_1 t259 _ ?side1 ?side2 ?side3 ?side4 ?side5 ?side6 ?side7 ?side8 A22.out).mono ?_);(case side1=>refine (zU (e:=3) (base:=w.heap.size) (ok:=fun k_=>(some k_≠(v250:Value).ownBlock∧(some k_≠(.slice Ao32 t255.length co32:Value).ownBlock∧(some k_≠(.slice Ao63 x249000_1.length co63:Value).ownBlock∧some k_≠(.slice Ao64 x249001_1.length co64:Value).ownBlock)))) (n:=t252.length) (c:=co30) ?_).2.2;exact (by apply zR_;exact (zV (zi (p:=⟨gb258,1,none⟩) (zi (p:=⟨gb258,0,none⟩) (Kd.R_types HO254.out BK258.out (by decide)) (fun _ hk=>hk.2) (.slice Ao30 t252.length co30)) (fun _ hk=>hk.2) (.slice Ao32 t255.length co32)) (fun _ h_=>h_.1))));(case side2=>exact (zU HO254.out).2.1);(case side3=>refine (zU (e:=3) (base:=w.heap.size) (ok:=fun k_=>(some k_≠(v250:Value).ownBlock∧(some k_≠(.slice Ao30 t252.length co30:Value).ownBlock∧(some k_≠(.slice Ao63 x249000_1.length co63:Value).ownBlock∧some k_≠(.slice Ao64 x249001_1.length co64:Value).ownBlock)))) (n:=t255.length) (c:=co32) ?_).2.2;exact (by apply zR_;exact (zV (zi (p:=⟨gb258,1,none⟩) (zi (p:=⟨gb258,0,none⟩) (Kd.R_types HO257.out BK258.out (by decide)) (fun _ hk=>hk.2) (.slice Ao30 t252.length co30)) (fun _ hk=>hk.2) (.slice Ao32 t255.length co32)) (fun _ h_=>h_.1))));(case side4=>exact (zU HO257.out).2.1);(case side5=>refine (zU (e:=3) (base:=w.heap.size) (ok:=fun k_=>(some k_≠(v250:Value).ownBlock∧(some k_≠(.slice Ao30 t252.length co30:Value).ownBlock∧(some k_≠(.slice Ao32 t255.length co32:Value).ownBlock∧some k_≠(.slice Ao64 x249001_1.length co64:Value).ownBlock)))) (n:=x249000_1.length) (c:=co63) ?_).2.2;exact (by apply zR_;exact (zV (zi (p:=⟨gb258,1,none⟩) (zi (p:=⟨gb258,0,none⟩) (Kd.R_types HO_249000.out BK258.out (by decide)) (fun _ hk=>hk.2) (.slice Ao30 t252.length co30)) (fun _ hk=>hk.2) (.slice Ao32 t255.length co32)) (fun _ h_=>h_.1))));(case side6=>exact (zU HO_249000.out).2.1);(case side7=>refine (zU (e:=3) (base:=w.heap.size) (ok:=fun k_=>(some k_≠(v250:Value).ownBlock∧(some k_≠(.slice Ao30 t252.length co30:Value).ownBlock∧(some k_≠(.slice Ao32 t255.length co32:Value).ownBlock∧some k_≠(.slice Ao63 x249000_1.length co63:Value).ownBlock)))) (n:=x249001_1.length) (c:=co64) ?_).2.2;exact (by apply zR_;exact (zV (zi (p:=⟨gb258,1,none⟩) (zi (p:=⟨gb258,0,none⟩) (Kd.R_types HO_249001.out BK258.out (by decide)) (fun _ hk=>hk.2) (.slice Ao30 t252.length co30)) (fun _ hk=>hk.2) (.slice Ao32 t255.length co32)) (fun _ h_=>h_.1))));(case side8=>exact (zU HO_249001.out).2.1);rintro e w65 ⟨rfl,hb⟩;refine ⟨_,rfl,?_⟩;have n0_:=zA (zj (by apply zR_;exact (zV (zi (p:=⟨gb258,1,none⟩) (zi (p:=⟨gb258,0,none⟩) (Kd.R_types HO_249000.out BK258.out (by decide)) (fun _ hk=>hk.2) (.slice Ao30 t252.length co30)) (fun _ hk=>hk.2) (.slice Ao32 t255.length co32)) (fun _ h_=>h_.1))) hb);have n1_:=zA (zj (by apply zR_;exact (zV (zi (p:=⟨gb258,1,none⟩) (zi (p:=⟨gb258,0,none⟩) (Kd.R_types HO_249001.out BK258.out (by decide)) (fun _ hk=>hk.2) (.slice Ao30 t252.length co30)) (fun _ hk=>hk.2) (.slice Ao32 t255.length co32)) (fun _ h_=>h_.1))) hb);have n2_:=zA (zj (by apply zR_;exact (zV (zi (p:=⟨gb258,1,none⟩) (zi (p:=⟨gb258,0,none⟩) (Kd.R_types HO251.out BK258.out (by decide)) (fun _ hk=>hk.2) (.slice Ao30 t252.length co30)) (fun _ hk=>hk.2) (.slice Ao32 t255.length co32)) (fun _ h_=>h_.1))) hb);have n3_:=zA (zj (by apply zR_;exact (zV (zi (p:=⟨gb258,1,none⟩) (zi (p:=⟨gb258,0,none⟩) (Kd.R_types HO254.out BK258.out (by decide)) (fun _ hk=>hk.2) (.slice Ao30 t252.length co30)) (fun _ hk=>hk.2) (.slice Ao32 t255.length co32)) (fun _ h_=>h_.1))) hb);have n4_:=zA (zj (by apply zR_;exact (zV (zi (p:=⟨gb258,1,none⟩) (zi (p:=⟨gb258,0,none⟩) (Kd.R_types HO257.out BK258.out (by decide)) (fun _ hk=>hk.2) (.slice Ao30 t252.length co30)) (fun _ hk=>hk.2) (.slice Ao32 t255.length co32)) (fun _ h_=>h_.1))) hb);have n5_:=zA (zX (g:=gb237) (o:=.cells #[.slice A0_0 l0_0.length c0_0,.slice A0_1 l0_1.length c0_1] 33 (0,0)) (by (with_reducible repeat (first|refine zG ?_ _|refine zI ?_|refine zH ?_ _));refine blk_far ?_ NB237_258.out _;(with_reducible repeat (first|refine zG ?_ _|refine zI ?_|refine zH ?_ _));refine blk_far ?_ NB237_258.out _;(with_reducible repeat (first|refine zG ?_ _|refine zI ?_|refine zH ?_ _));exact BK237.out) hb);have n6_:=zA (zX (g:=gb238) (o:=.cells #[.slice none 0 0,.slice none 0 0] 33 (0,0)) (by (with_reducible repeat (first|refine zG ?_ _|refine zI ?_|refine zH ?_ _));refine blk_far ?_ NB238_258.out _;(with_reducible repeat (first|refine zG ?_ _|refine zI ?_|refine zH ?_ _));refine blk_far ?_ NB238_258.out _;(with_reducible repeat (first|refine zG ?_ _|refine zI ?_|refine zH ?_ _));exact BK238.out) hb);have n7_:=zA (zX (g:=gb248) (o:=.cells #[.slice Ao63 x249000_1.length co63,.slice Ao64 x249001_1.length co64] 33 (0,0)) (by (with_reducible repeat (first|refine zG ?_ _|refine zI ?_|refine zH ?_ _));refine blk_far ?_ NB248_258.out _;(with_reducible repeat (first|refine zG ?_ _|refine zI ?_|refine zH ?_ _));refine blk_far ?_ NB248_258.out _;(with_reducible repeat (first|refine zG ?_ _|refine zI ?_|refine zH ?_ _));exact BK248.out) hb);have n8_:=zA (zX (g:=gb258) (o:=.cells #[.slice Ao30 t252.length co30,.slice Ao32 t255.length co32] 33 (0,0)) (by (with_reducible repeat (first|refine zG ?_ _|refine zI ?_|refine zH ?_ _));refine blk_put (cs:=#[.slice Ao30 t252.length co30,.slice none 0 0]) ?_ 1 _ rfl;(with_reducible repeat (first|refine zG ?_ _|refine zI ?_|refine zH ?_ _));refine blk_put (cs:=#[.slice none 0 0,.slice none 0 0]) ?_ 0 _ rfl;(with_reducible repeat (first|refine zG ?_ _|refine zI ?_|refine zH ?_ _));exact BK258.out) hb);have n9_:=zA (zR (by repeat (first|(with_reducible first|exact HB.out|apply zD|apply zB|apply zC|refine zF ?_ GE237.out|refine zF ?_ GE238.out|refine zF ?_ GE248.out|refine zF ?_ GE258.out)|exact HB.out)) hb);clear HO_249000;clear HO_249001;clear HO251;clear HO254;clear HO257;clear BK237;clear BK238;clear BK248;clear BK258;clear HB;have HO_249000:=n0_;have HO_249001:=n1_;have HO251:=n2_;have HO254:=n3_;have HO257:=n4_;have BK237:=n5_;have BK238:=n6_;have BK248:=n7_;have BK258:=n8_;have HB:=n9_;clear n0_ n1_ n2_ n3_ n4_ n5_ n6_ n7_ n8_ n9_;(try clear hb);(try clear hb2);(try clear hk);(try clear hi)))
     go_roundg k1
     case measure=>have:=HK1.out;omega
     case rel=>exact ⟨(wrap64 (x13_1+1)),(x249000_1),(x249001_1),(.slice Ao63 x249000_1.length co63),(.slice Ao64 x249001_1.length co64),(by first|rfl|(simp;done)|(simp [*];done)),H',⟨by have:=HK1.out;omega⟩,⟨by apply zR_;exact zV HO_249000.out (fun _ hk=>hk.2.2.2)⟩,⟨by apply zR_;exact zV HO_249001.out (fun _ hk=>hk.2.2.2)⟩,⟨by (with_reducible repeat (first|refine zG ?_ _|refine zI ?_|refine zH ?_ _));exact BK237.out⟩,⟨by (with_reducible repeat (first|refine zG ?_ _|refine zI ?_|refine zH ?_ _));exact BK238.out⟩,⟨by (with_reducible repeat (first|refine zG ?_ _|refine zI ?_|refine zH ?_ _));exact BK248.out⟩,⟨by repeat (first|(with_reducible first|exact HB.out|apply zD|apply zB|apply zC|refine zF ?_ GE237.out|refine zF ?_ GE238.out|refine zF ?_ GE248.out|refine zF ?_ GE258.out)|exact HB.out)⟩⟩
   ·rw [if_neg c19] at H
    have c19b0:decide (x13_1 < (l0_0.length:Int)) = false:=zP c19
    clear c19
    simp only [Option.some.injEq,Prod.mk.injEq] at H
    obtain ⟨rfl,rfl⟩:=H
    have hnb66:=NB248_237.out
    have hnc66:=NB237_248.out
    have hnb67:=NB248_238.out
    have hnc67:=NB238_248.out
    have hcz68_0:wr.cell? ⟨gb248,0,none⟩ = some (u249000):=(zT BK248.out 0).trans rfl
    have hcz68_1:wr.cell? ⟨gb248,1,none⟩ = some (u249001):=(zT BK248.out 1).trans rfl
    have hfz68_0:=zZ BK248.out 0
    have hfz68_1:=zZ BK248.out 1
    obtain ⟨Ao69,co69,eo69⟩:=zg HO_249000.out
    subst eo69
    have hnb70:=NB238_237.out
    have hnc70:=NB237_238.out
    have hcz71_0:wr.cell? ⟨gb238,0,none⟩ = some (.slice none 0 0):=(zT BK238.out 0).trans rfl
    have hcz71_1:wr.cell? ⟨gb238,1,none⟩ = some (.slice none 0 0):=(zT BK238.out 1).trans rfl
    have hfz71_0:=zZ BK238.out 0
    have hfz71_1:=zZ BK238.out 1
    obtain ⟨Ao72,co72,eo72⟩:=zg HO_249001.out
    subst eo72
    go_wp2
    refine bodyPost_ret (results_cell_row rfl _ _ gb238 33 #[.slice Ao69 x249000_1.length co69,.slice Ao72 x249001_1.length co72] (0,0) _ rfl (by (with_reducible repeat (first|refine zG ?_ _|refine zI ?_|refine zH ?_ _));refine blk_put (cs:=#[.slice Ao69 x249000_1.length co69,.slice none 0 0]) ?_ 1 _ rfl;(with_reducible repeat (first|refine zG ?_ _|refine zI ?_|refine zH ?_ _));refine blk_put (cs:=#[.slice none 0 0,.slice none 0 0]) ?_ 0 _ rfl;(with_reducible repeat (first|refine zG ?_ _|refine zI ?_|refine zH ?_ _));exact BK238.out) Try.underlying33 rfl (by kernel_rfl)) rfl ?_
    exact ⟨_,_,by first|rfl|(simp [errW_none,errW_some] <;> rfl)|(simp [*,errW_none,errW_some] <;> rfl),by apply zR_;exact zV (zi (p:=⟨gb238,1,none⟩) (zi (p:=⟨gb238,0,none⟩) (Kd.R_types HO_249000.out BK238.out (by decide)) (fun _ hk=>hk.2) (.slice Ao69 x249000_1.length co69)) (fun _ hk=>hk.2) (.slice Ao72 x249001_1.length co72)) (fun _ hk=>hk.1),by apply zR_;exact zV (zi (p:=⟨gb238,1,none⟩) (zi (p:=⟨gb238,0,none⟩) (Kd.R_types HO_249001.out BK238.out (by decide)) (fun _ hk=>hk.2) (.slice Ao69 x249000_1.length co69)) (fun _ hk=>hk.2) (.slice Ao72 x249001_1.length co72)) (fun _ hk=>hk.1),by repeat (first|(with_reducible first|exact HB.out|apply zD|apply zB|apply zC|refine zF ?_ GE237.out|refine zF ?_ GE238.out|refine zF ?_ GE248.out)|exact HB.out)⟩

end Go.Proofs.Ytdaiohcgdpclnaa.Q
