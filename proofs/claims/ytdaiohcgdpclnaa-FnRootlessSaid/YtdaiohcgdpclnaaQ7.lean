import Derived.Test.YtdaiohcgdpclnaaQ0
import Derived.Test.YtdaiohcgdpclnaaQ4
import Derived.Test.YtdaiohcgdpclnaaQ6
import Derived.Test.YtdaiohcgdpclnaaZ
namespace Go.Proofs.Ytdaiohcgdpclnaa.Q
open Go.RowKit Go.Proofs.YtdaiohcgdpclnaaW.PrintWords Go.Proofs.YtdaiohcgdpclnaaW.PrintLast Go.Proofs.YtdaiohcgdpclnaaW.PrintMore
attribute [local go_sem] max2_int min2_int max_two min_two max_three min_three max_four min_four   -- for this text's walks alone
set_option linter.unusedVariables false
set_option linter.unusedSimpArgs false

/-! ### impl_leastForm: function 63 -/
def impl_leastForm.l0:Nat→Int→Int→List Int→List Int→List Int→List Int→Option (List Int × List Int)
 | 0,_,_,_,_,_,_=>none
 | k+1,x12,x13,x271000,x271001,x282000,x282001=>if x13 < x12 then ((impl_namesFrom.f k x271000 x271001 x13).bind fun t282=>((impl_renamed.f k x271000 x271001 t282).bind fun bt285=>((impl_compareMaps.f k bt285.1 bt285.2 x282000 x282001).bind fun t292=>(if t292 < 0 then (impl_leastForm.l0 k x12 (wrap64 (x13+1)) x271000 x271001 bt285.1 bt285.2) else (impl_leastForm.l0 k x12 (wrap64 (x13+1)) x271000 x271001 x282000 x282001))))) else (some (x282000,x282001))
def impl_leastForm.f (k:Nat) (l0_0:List Int) (l0_1:List Int):Option (List Int × List Int):=(impl_namesFrom.f k l0_0 l0_1 0).bind fun t272=>((impl_renamed.f k l0_0 l0_1 t272).bind fun bt275=>(impl_leastForm.l0 k (l0_0.length:Int) 0 l0_0 l0_1 bt275.1 bt275.2))
theorem impl_leastForm.mono_l:∀ k,(∀ y0 y1 y2 y3 y4 y5,LeO (impl_leastForm.l0 k y0 y1 y2 y3 y4 y5) (impl_leastForm.l0 (k+1) y0 y1 y2 y3 y4 y5))
 | 0=>fun _ _ _ _ _ _ r h=>by simp [impl_leastForm.l0] at h
 | k+1=>by
  have ih0:=impl_leastForm.mono_l k
  ·intro y0 y1 y2 y3 y4 y5
   unfold impl_leastForm.l0
   repeat' first
   | (with_reducible exact ih0 _ _ _ _ _ _)
   | (with_reducible exact impl_compareMaps.mono _ _ _ _ _)
   | (with_reducible exact impl_namesFrom.mono _ _ _ _)
   | (with_reducible exact impl_renamed.mono _ _ _ _)
   | (with_reducible exact LeO.refl _)
   | (with_reducible exact za _)
   | (with_reducible refine zc ?_ ?_)
   | (with_reducible refine zb ?_ (fun _=>?_))
theorem impl_leastForm.mono:∀ a0 a1 k,LeO (impl_leastForm.f k a0 a1) (impl_leastForm.f (k+1) a0 a1):=by
 intro a0 a1 k
 have ih0:=impl_leastForm.mono_l k
 unfold impl_leastForm.f
 repeat' first
   | (with_reducible exact ih0 _ _ _ _ _ _)
   | (with_reducible exact impl_compareMaps.mono _ _ _ _ _)
   | (with_reducible exact impl_namesFrom.mono _ _ _ _)
   | (with_reducible exact impl_renamed.mono _ _ _ _)
   | (with_reducible exact LeO.refl _)
   | (with_reducible exact za _)
   | (with_reducible refine zc ?_ ?_)
   | (with_reducible refine zb ?_ (fun _=>?_))
set_option maxHeartbeats 8000000 in
set_option maxRecDepth 100000 in
theorem impl_leastForm.calls (k:Nat) (A0_0:Option Addr) (c0_0:Nat) (l0_0:List Int) (A0_1:Option Addr) (c0_1:Nat) (l0_1:List Int) (r1:List Int) (r2:List Int) (w:World) (hr0_0:Kd.C (Kd.int .i64) w A0_0 l0_0.length l0_0) (hc0_0:l0_0.length≤c0_0) (hr0_1:Kd.C (Kd.int .i64) w A0_1 l0_1.length l0_1) (hc0_1:l0_1.length≤c0_1) (h:impl_leastForm.f k l0_0 l0_1 = some (r1,r2)) :
  Calls Try.prog 63 #[.agg #[.slice A0_0 l0_0.length c0_0,.slice A0_1 l0_1.length c0_1]] w fun e w' => ∃ v0_ v1_:Value,e = .returned (.agg #[v0_,v1_])∧Kd.R (Kd.int .i64) 3 w' w.heap.size (fun k_=>some k_≠(v1_:Value).ownBlock) v0_ r1∧Kd.R (Kd.int .i64) 3 w' w.heap.size (fun k_=>some k_≠(v0_:Value).ownBlock) v1_ r2∧Below w.heap.size w w':=by
 have hu33:=Try.underlying33
 have HR0_0:=zA hr0_0
 have HC0_0:=zA hc0_0
 clear hr0_0 hc0_0
 have HR0_1:=zA hr0_1
 have HC0_1:=zA hc0_1
 clear hr0_1 hc0_1
 have HB:=zA (Below.refl w.heap.size w)
 have H:((impl_namesFrom.f k l0_0 l0_1 0).bind fun t272=>((impl_renamed.f k l0_0 l0_1 t272).bind fun bt275=>(impl_leastForm.l0 k (l0_0.length:Int) 0 l0_0 l0_1 bt275.1 bt275.2))) = some (r1,r2):=h
 clear h
 replace H:=zz0 H
 obtain ⟨t272,A20,H⟩:=H
 try dsimp only at H
 have A2:=zA A20
 clear A20
 replace H:=zz0 H
 obtain ⟨⟨t275,t278⟩,A30,H⟩:=H
 try dsimp only at H
 have A3:=zA A30
 clear A30
 have H':=zA H
 clear H
 go_enter Try.func63,Try.ntmps63
 try go_wp2_with (first|((with_reducible refine gate_dst (N:=1) rfl ?_);refine box_event ?hg (N:=1) ?hd (cs:=#[.slice A0_0 l0_0.length c0_0,.slice A0_1 l0_1.length c0_1]) (t:=33) ?hr ?_;(case hd=>rfl);(case hg=>rfl);(case hr=>first|(go_simp;done)|(go_simp;rfl));intro gb270 hg w4 hbox hb;have n0_:=zA (zR (by exact zB_ HB.out) hb);have n1_:=zA (hbox);have n2_:=zA ((by rw [hg];exact (zQ (by exact zB_ HB.out)):w.heap.size≤gb270));have n3_:=zA ((by rw [hg];exact (zQ (by exact zB_ HB.out)):w.heap.size≤gb270));clear HB;have HB:=n0_;have BK270:=n1_;have GW270:=n2_;have GE270:=n3_;clear n0_ n1_ n2_ n3_;clear hb hbox hg)|((with_reducible refine gate_dst (N:=2) rfl ?_);refine box_event ?hg (N:=2) ?hd (cs:=#[.slice none 0 0,.slice none 0 0]) (t:=33) ?hr ?_;(case hd=>rfl);(case hg=>rfl);(case hr=>first|(go_simp;done)|(go_simp;rfl));intro gb271 hg w5 hbox hb;have n0_:=zA (zX (g:=gb270) (o:=.cells #[.slice A0_0 l0_0.length c0_0,.slice A0_1 l0_1.length c0_1] 33 (0,0)) (by (with_reducible repeat (first|refine zG ?_ _|refine zI ?_|refine zH ?_ _));exact BK270.out) hb);have n1_:=zA (zR (by repeat (first|(with_reducible first|exact HB.out|apply zD|apply zB|apply zC|refine zF ?_ GE270.out)|exact HB.out)) hb);have n2_:=zA (hbox);have n3_:=zA ((by rw [hg];exact (zQ (by repeat (first|(with_reducible first|exact HB.out|apply zD|apply zB|apply zC|refine zF ?_ GE270.out)|exact HB.out))):w.heap.size≤gb271));have n4_:=zA ((by rw [hg];exact (zQ (by repeat (first|(with_reducible first|exact HB.out|apply zD|apply zB|apply zC|refine zF ?_ GE270.out)|exact HB.out))):w.heap.size≤gb271));have n5_:=zA ((by rw [hg];exact Nat.ne_of_lt (blk_lt (g:=gb270) (o:=.cells #[.slice A0_0 l0_0.length c0_0,.slice A0_1 l0_1.length c0_1] 33 (0,0)) (by (with_reducible repeat (first|refine zG ?_ _|refine zI ?_|refine zH ?_ _));exact BK270.out)):gb270≠gb271));have n6_:=zA ((by rw [hg];exact Nat.ne_of_gt (blk_lt (g:=gb270) (o:=.cells #[.slice A0_0 l0_0.length c0_0,.slice A0_1 l0_1.length c0_1] 33 (0,0)) (by (with_reducible repeat (first|refine zG ?_ _|refine zI ?_|refine zH ?_ _));exact BK270.out)):gb271≠gb270));clear BK270;clear HB;have BK270:=n0_;have HB:=n1_;have BK271:=n2_;have GW271:=n3_;have GE271:=n4_;have NB270_271:=n5_;have NB271_270:=n6_;clear n0_ n1_ n2_ n3_ n4_ n5_ n6_;clear hb hbox hg))
 have n0_:=zA (zI BK270.out)
 have n1_:=zA (zI BK271.out)
 have n2_:=zA (zC HB.out)
 clear BK270 BK271 HB
 have BK270:=n0_
 have BK271:=n1_
 have HB:=n2_
 clear n0_ n1_ n2_
 refine start_ (n:=6) (S:=fun w'=>w'.cell? ⟨gb270,0,none⟩ = some (.slice A0_0 l0_0.length c0_0)∧w'.cell? ⟨gb270,1,none⟩ = some (.slice A0_1 l0_1.length c0_1)) (ds:=[]) #[zf,zf,zf,zf,zf,zf] (by kernel_rfl) rfl rfl ⟨(zT BK270.out 0).trans rfl,(zT BK270.out 1).trans rfl⟩ (fun hHeld=>?_)
 generalize w5.drew = w6 at BK270 BK271 HB hHeld ⊢
 refine take_ (i:=0) (N:=some 6) (v:=?_) (a':=?_) #[zt,zf,zf,zf,zf,zf] rfl rfl (by kernel_rfl) (fun _ _ _ h=>h) (Or.inl ⟨by rfl,?_⟩) hHeld ?_ ?_
 rotate_left
 ·rintro w' ⟨s0,s1⟩
  go_simp
  with_reducible rfl
 rotate_left
 ·simp only [Act.put,zP_,i64_w]
  rfl
 refine take_ (i:=1) (N:=some 7) (v:=?_) (a':=?_) #[zt,zt,zf,zf,zf,zf] rfl rfl (by kernel_rfl) (fun _ _ _ h=>h) (Or.inl ⟨by rfl,?_⟩) hHeld ?_ ?_
 rotate_left
 ·rintro w' ⟨s0,s1⟩
  go_simp
  with_reducible rfl
 rotate_left
 ·simp only [Act.put,zP_,i64_w]
  rfl
 refine join_ (σ:=Value × Value × Value × Nat) 1 #[zt,zt,zt,zt,zt,zf] (fun s_=>[(8,s_.1),(9,.agg #[s_.2.1,s_.2.2.1]),(3,.pointer (some ⟨s_.2.2.2,0,none⟩))]) (fun s_ w'=>(w'.cell? ⟨gb270,0,none⟩ = some (.slice A0_0 l0_0.length c0_0)∧w'.cell? ⟨gb270,1,none⟩ = some (.slice A0_1 l0_1.length c0_1))∧(Kd.R (Kd.int .i64) 3 w' w.heap.size (fun k_=>some k_≠(s_.2.1:Value).ownBlock∧some k_≠(s_.2.2.1:Value).ownBlock) s_.1 t272)∧(Kd.R (Kd.int .i64) 3 w' w.heap.size (fun k_=>some k_≠(s_.1:Value).ownBlock∧some k_≠(s_.2.2.1:Value).ownBlock) s_.2.1 t275)∧(Kd.R (Kd.int .i64) 3 w' w.heap.size (fun k_=>some k_≠(s_.1:Value).ownBlock∧some k_≠(s_.2.1:Value).ownBlock) s_.2.2.1 t278)∧(w'.heap[gb270]? = some (.cells #[.slice A0_0 l0_0.length c0_0,.slice A0_1 l0_1.length c0_1] 33 (0,0)))∧(w'.heap[gb271]? = some (.cells #[.slice none 0 0,.slice none 0 0] 33 (0,0)))∧(w'.heap[s_.2.2.2]? = some (.cells #[.slice none 0 0,.slice none 0 0] 33 (0,0)))∧(w.heap.size≤s_.2.2.2)∧(w.heap.size≤s_.2.2.2)∧(gb270≠s_.2.2.2)∧(s_.2.2.2≠gb270)∧(gb271≠s_.2.2.2)∧(s_.2.2.2≠gb271)∧(Below w.heap.size w w')) ?_ ?_
 rotate_left
 ·intro hCont
  refine two_ (i:=2) (j:=4) (Ni:=some 8) (Nj:=some 3) #[zt,zt,zt,zf,zf,zf] #[zt,zt,zf,zf,zt,zf] rfl rfl rfl rfl (by kernel_rfl) (by decide) (by decide) (fun K hK=>?_) (fun K hK=>?_)
  ·skip
   refine goes_ Try.func48 (by kernel_rfl) rfl #[.agg #[.slice A0_0 l0_0.length c0_0,.slice A0_1 l0_1.length c0_1],.int .i64 0] (by rfl) rfl rfl (by (try simp only [zJ,zM,zN]);first|done|rfl|(simp only [zL,zK];rfl)) ?_
   with_reducible refine (impl_namesFrom.calls k _ _ l0_0 _ _ l0_1 0 t272 _ ?side1 ?side2 ?side3 ?side4 A2.out).mono ?_
   (case side1=>repeat (first|exact (zW HR0_0.out HB.out)|(with_reducible exact HR0_0.out)|apply zC_))
   (case side2=>exact HC0_0.out)
   (case side3=>repeat (first|exact (zW HR0_1.out HB.out)|(with_reducible exact HR0_1.out)|apply zC_))
   (case side4=>exact HC0_1.out)
   rintro e w7 ⟨v273,rfl,ho0,hb⟩
   refine ⟨_,rfl,?_⟩
   have n0_:=zA (ze ho0 (zQ (by repeat (first|(with_reducible first|exact HB.out|apply zD|apply zB|apply zC|refine zF ?_ GE270.out|refine zF ?_ GE271.out)|exact HB.out))))
   have n1_:=zA (zX (g:=gb270) (o:=.cells #[.slice A0_0 l0_0.length c0_0,.slice A0_1 l0_1.length c0_1] 33 (0,0)) (by (with_reducible repeat (first|refine zG ?_ _|refine zI ?_|refine zH ?_ _));exact BK270.out) hb)
   have n2_:=zA (zX (g:=gb271) (o:=.cells #[.slice none 0 0,.slice none 0 0] 33 (0,0)) (by (with_reducible repeat (first|refine zG ?_ _|refine zI ?_|refine zH ?_ _));exact BK271.out) hb)
   have n3_:=zA (zR (by repeat (first|(with_reducible first|exact HB.out|apply zD|apply zB|apply zC|refine zF ?_ GE270.out|refine zF ?_ GE271.out)|exact HB.out)) hb)
   clear BK270 BK271 HB
   have HO274:=n0_
   have BK270:=n1_
   have BK271:=n2_
   have HB:=n3_
   clear n0_ n1_ n2_ n3_
   (try clear hb);(try clear hb2);(try clear hk);(try clear hi);(try clear ho0)
   obtain ⟨Ao8,co8,eo8⟩:=zg HO274.out
   (first|subst eo8|(injection eo8 with f1_ f2_ f3_;have f4_:=f1_.symm;have f5_:=f3_.symm;clear f1_ f2_ f3_;subst f4_;subst f5_))
   refine hK.out _ _ ⟨(zT BK270.out 0).trans rfl,(zT BK270.out 1).trans rfl⟩ (fun hHeld=>?_)
   clear hK K
   refine norm_ (a':=?_) ?_ ?_
   rotate_left
   ·show Act.put _ (some 8) _ = _
    simp only [Act.put,zP_,i64_w]
    rfl
   refine two_ (i:=3) (j:=4) (Ni:=some 9) (Nj:=some 3) #[zt,zt,zt,zt,zf,zf] #[zt,zt,zt,zf,zt,zf] rfl rfl rfl rfl (by kernel_rfl) (by decide) (by decide) (fun K hK=>?_) (fun K hK=>?_)
   ·skip
    refine goes_ Try.func47 (by kernel_rfl) rfl #[.agg #[.slice A0_0 l0_0.length c0_0,.slice A0_1 l0_1.length c0_1],.slice Ao8 t272.length co8] (by rfl) rfl rfl (by (try simp only [zJ,zM,zN]);first|done|rfl|(simp only [zL,zK];rfl)) ?_
    with_reducible refine (impl_renamed.calls k _ _ l0_0 _ _ l0_1 _ _ t272 t275 t278 _ ?side1 ?side2 ?side3 ?side4 ?side5 ?side6 A3.out).mono ?_
    (case side1=>repeat (first|exact (zW HR0_0.out HB.out)|(with_reducible exact HR0_0.out)|apply zC_))
    (case side2=>exact HC0_0.out)
    (case side3=>repeat (first|exact (zW HR0_1.out HB.out)|(with_reducible exact HR0_1.out)|apply zC_))
    (case side4=>exact HC0_1.out)
    (case side5=>repeat (first|exact (zU HO274.out).2.2|apply zC_))
    (case side6=>exact (zU HO274.out).2.1)
    rintro e w9 ⟨v276,v279,rfl,ho0,ho1,hb⟩
    refine ⟨_,rfl,?_⟩
    have n0_:=zA (zV (Kd.R_told (Kd.R_told (Kd.R_old (by apply zR_;exact HO274.out) hb) (zd ho0)) (zd ho1)) (fun _ h_=>h_.1))
    have n1_:=zA (ze (zh ho0 (Kd.R_lt (by apply zR_;exact HO274.out))) (zQ (by repeat (first|(with_reducible first|exact HB.out|apply zD|apply zB|apply zC|refine zF ?_ GE270.out|refine zF ?_ GE271.out)|exact HB.out))))
    have n2_:=zA (ze (zh ho1 (Kd.R_lt (by apply zR_;exact HO274.out))) (zQ (by repeat (first|(with_reducible first|exact HB.out|apply zD|apply zB|apply zC|refine zF ?_ GE270.out|refine zF ?_ GE271.out)|exact HB.out))))
    have n3_:=zA (zX (g:=gb270) (o:=.cells #[.slice A0_0 l0_0.length c0_0,.slice A0_1 l0_1.length c0_1] 33 (0,0)) (by (with_reducible repeat (first|refine zG ?_ _|refine zI ?_|refine zH ?_ _));exact BK270.out) hb)
    have n4_:=zA (zX (g:=gb271) (o:=.cells #[.slice none 0 0,.slice none 0 0] 33 (0,0)) (by (with_reducible repeat (first|refine zG ?_ _|refine zI ?_|refine zH ?_ _));exact BK271.out) hb)
    have n5_:=zA (zR (by repeat (first|(with_reducible first|exact HB.out|apply zD|apply zB|apply zC|refine zF ?_ GE270.out|refine zF ?_ GE271.out)|exact HB.out)) hb)
    clear HO274 BK270 BK271 HB
    have HO274:=n0_
    have HO277:=n1_
    have HO280:=n2_
    have BK270:=n3_
    have BK271:=n4_
    have HB:=n5_
    clear n0_ n1_ n2_ n3_ n4_ n5_
    (try clear hb);(try clear hb2);(try clear hk);(try clear hi);(try clear ho0);(try clear ho1)
    refine hK.out _ _ ⟨(zT BK270.out 0).trans rfl,(zT BK270.out 1).trans rfl⟩ (fun hHeld=>?_)
    clear hK K
    refine norm_ (a':=?_) ?_ ?_
    rotate_left
    ·show Act.put _ (some 9) _ = _
     simp only [Act.put,zP_,i64_w]
     rfl
    refine one_ (i:=4) (N:=some 3) #[zt,zt,zt,zt,zt,zf] rfl rfl (by kernel_rfl) (by decide) (fun K hK=>?_)
    refine box_step ?hg (N:=3) ?hd (cs:=#[.slice none 0 0,.slice none 0 0]) (t:=33) ?hr ?_;(case hd=>rfl);(case hg=>rfl);(case hr=>first|(go_simp;done)|(go_simp;rfl))
    intro gb281 hg w10 hbox hb
    have n0_:=zA (zj (by apply zR_;exact HO274.out) hb)
    have n1_:=zA (zj (by apply zR_;exact HO277.out) hb)
    have n2_:=zA (zj (by apply zR_;exact HO280.out) hb)
    have n3_:=zA (zX (g:=gb270) (o:=.cells #[.slice A0_0 l0_0.length c0_0,.slice A0_1 l0_1.length c0_1] 33 (0,0)) (by (with_reducible repeat (first|refine zG ?_ _|refine zI ?_|refine zH ?_ _));exact BK270.out) hb)
    have n4_:=zA (zX (g:=gb271) (o:=.cells #[.slice none 0 0,.slice none 0 0] 33 (0,0)) (by (with_reducible repeat (first|refine zG ?_ _|refine zI ?_|refine zH ?_ _));exact BK271.out) hb)
    have n5_:=zA (zR (by repeat (first|(with_reducible first|exact HB.out|apply zD|apply zB|apply zC|refine zF ?_ GE270.out|refine zF ?_ GE271.out)|exact HB.out)) hb)
    have n6_:=zA (hbox)
    have n7_:=zA ((by rw [hg];exact (zQ (by repeat (first|(with_reducible first|exact HB.out|apply zD|apply zB|apply zC|refine zF ?_ GE270.out|refine zF ?_ GE271.out)|exact HB.out))):w.heap.size≤gb281))
    have n8_:=zA ((by rw [hg];exact (zQ (by repeat (first|(with_reducible first|exact HB.out|apply zD|apply zB|apply zC|refine zF ?_ GE270.out|refine zF ?_ GE271.out)|exact HB.out))):w.heap.size≤gb281))
    have n9_:=zA ((by rw [hg];exact Nat.ne_of_lt (blk_lt (g:=gb270) (o:=.cells #[.slice A0_0 l0_0.length c0_0,.slice A0_1 l0_1.length c0_1] 33 (0,0)) (by (with_reducible repeat (first|refine zG ?_ _|refine zI ?_|refine zH ?_ _));exact BK270.out)):gb270≠gb281))
    have n10_:=zA ((by rw [hg];exact Nat.ne_of_gt (blk_lt (g:=gb270) (o:=.cells #[.slice A0_0 l0_0.length c0_0,.slice A0_1 l0_1.length c0_1] 33 (0,0)) (by (with_reducible repeat (first|refine zG ?_ _|refine zI ?_|refine zH ?_ _));exact BK270.out)):gb281≠gb270))
    have n11_:=zA ((by rw [hg];exact Nat.ne_of_lt (blk_lt (g:=gb271) (o:=.cells #[.slice none 0 0,.slice none 0 0] 33 (0,0)) (by (with_reducible repeat (first|refine zG ?_ _|refine zI ?_|refine zH ?_ _));exact BK271.out)):gb271≠gb281))
    have n12_:=zA ((by rw [hg];exact Nat.ne_of_gt (blk_lt (g:=gb271) (o:=.cells #[.slice none 0 0,.slice none 0 0] 33 (0,0)) (by (with_reducible repeat (first|refine zG ?_ _|refine zI ?_|refine zH ?_ _));exact BK271.out)):gb281≠gb271))
    clear HO274 HO277 HO280 BK270 BK271 HB
    have HO274:=n0_
    have HO277:=n1_
    have HO280:=n2_
    have BK270:=n3_
    have BK271:=n4_
    have HB:=n5_
    have BK281:=n6_
    have GW281:=n7_
    have GE281:=n8_
    have NB270_281:=n9_
    have NB281_270:=n10_
    have NB271_281:=n11_
    have NB281_271:=n12_
    clear n0_ n1_ n2_ n3_ n4_ n5_ n6_ n7_ n8_ n9_ n10_ n11_ n12_ hb hbox hg
    refine hK.out _ _ ⟨(zT BK270.out 0).trans rfl,(zT BK270.out 1).trans rfl⟩ (fun hHeld=>?_)
    clear hK K
    refine norm_ (a':=?_) ?_ ?_
    rotate_left
    ·show Act.put _ (some 3) _ = _
     simp only [Act.put,zP_,i64_w]
     rfl
    exact norm_ (by simp only [putAll,Act.put,List.setIfInBounds_toArray,List.set_cons_zero,List.set_cons_succ]) (hCont (.slice Ao8 t272.length co8,v276,v279,gb281) _ ⟨hHeld,(by apply zR_;exact zV HO274.out (fun _ hk=>⟨hk.1.2,hk.2⟩)),(by apply zR_;exact zV HO277.out (fun _ hk=>⟨hk.2,hk.1⟩)),(by apply zR_;exact zV HO280.out (fun _ hk=>⟨hk.2,hk.1⟩)),(by (with_reducible repeat (first|refine zG ?_ _|refine zI ?_|refine zH ?_ _));exact BK270.out),(by (with_reducible repeat (first|refine zG ?_ _|refine zI ?_|refine zH ?_ _));exact BK271.out),(by (with_reducible repeat (first|refine zG ?_ _|refine zI ?_|refine zH ?_ _));exact BK281.out),GW281.out,GE281.out,NB270_281.out,NB281_270.out,NB271_281.out,NB281_271.out,(by repeat (first|(with_reducible first|exact HB.out|apply zD|apply zB|apply zC|refine zF ?_ GE270.out|refine zF ?_ GE271.out|refine zF ?_ GE281.out)|exact HB.out))⟩)
   ·skip
    refine box_step ?hg (N:=3) ?hd (cs:=#[.slice none 0 0,.slice none 0 0]) (t:=33) ?hr ?_;(case hd=>rfl);(case hg=>rfl);(case hr=>first|(go_simp;done)|(go_simp;rfl))
    intro gb281 hg w8 hbox hb
    have n0_:=zA (zj (by apply zR_;exact HO274.out) hb)
    have n1_:=zA (zX (g:=gb270) (o:=.cells #[.slice A0_0 l0_0.length c0_0,.slice A0_1 l0_1.length c0_1] 33 (0,0)) (by (with_reducible repeat (first|refine zG ?_ _|refine zI ?_|refine zH ?_ _));exact BK270.out) hb)
    have n2_:=zA (zX (g:=gb271) (o:=.cells #[.slice none 0 0,.slice none 0 0] 33 (0,0)) (by (with_reducible repeat (first|refine zG ?_ _|refine zI ?_|refine zH ?_ _));exact BK271.out) hb)
    have n3_:=zA (zR (by repeat (first|(with_reducible first|exact HB.out|apply zD|apply zB|apply zC|refine zF ?_ GE270.out|refine zF ?_ GE271.out)|exact HB.out)) hb)
    have n4_:=zA (hbox)
    have n5_:=zA ((by rw [hg];exact (zQ (by repeat (first|(with_reducible first|exact HB.out|apply zD|apply zB|apply zC|refine zF ?_ GE270.out|refine zF ?_ GE271.out)|exact HB.out))):w.heap.size≤gb281))
    have n6_:=zA ((by rw [hg];exact (zQ (by repeat (first|(with_reducible first|exact HB.out|apply zD|apply zB|apply zC|refine zF ?_ GE270.out|refine zF ?_ GE271.out)|exact HB.out))):w.heap.size≤gb281))
    have n7_:=zA ((by rw [hg];exact Nat.ne_of_lt (blk_lt (g:=gb270) (o:=.cells #[.slice A0_0 l0_0.length c0_0,.slice A0_1 l0_1.length c0_1] 33 (0,0)) (by (with_reducible repeat (first|refine zG ?_ _|refine zI ?_|refine zH ?_ _));exact BK270.out)):gb270≠gb281))
    have n8_:=zA ((by rw [hg];exact Nat.ne_of_gt (blk_lt (g:=gb270) (o:=.cells #[.slice A0_0 l0_0.length c0_0,.slice A0_1 l0_1.length c0_1] 33 (0,0)) (by (with_reducible repeat (first|refine zG ?_ _|refine zI ?_|refine zH ?_ _));exact BK270.out)):gb281≠gb270))
    have n9_:=zA ((by rw [hg];exact Nat.ne_of_lt (blk_lt (g:=gb271) (o:=.cells #[.slice none 0 0,.slice none 0 0] 33 (0,0)) (by (with_reducible repeat (first|refine zG ?_ _|refine zI ?_|refine zH ?_ _));exact BK271.out)):gb271≠gb281))
    have n10_:=zA ((by rw [hg];exact Nat.ne_of_gt (blk_lt (g:=gb271) (o:=.cells #[.slice none 0 0,.slice none 0 0] 33 (0,0)) (by (with_reducible repeat (first|refine zG ?_ _|refine zI ?_|refine zH ?_ _));exact BK271.out)):gb281≠gb271))
    clear HO274 BK270 BK271 HB
    have HO274:=n0_
    have BK270:=n1_
    have BK271:=n2_
    have HB:=n3_
    have BK281:=n4_
    have GW281:=n5_
    have GE281:=n6_
    have NB270_281:=n7_
    have NB281_270:=n8_
    have NB271_281:=n9_
    have NB281_271:=n10_
    clear n0_ n1_ n2_ n3_ n4_ n5_ n6_ n7_ n8_ n9_ n10_ hb hbox hg
    obtain ⟨Ao9,co9,eo9⟩:=zg HO274.out
    (first|subst eo9|(injection eo9 with f1_ f2_ f3_;have f4_:=f1_.symm;have f5_:=f3_.symm;clear f1_ f2_ f3_;subst f4_;subst f5_))
    refine hK.out _ _ ⟨(zT BK270.out 0).trans rfl,(zT BK270.out 1).trans rfl⟩ (fun hHeld=>?_)
    clear hK K
    refine norm_ (a':=?_) ?_ ?_
    rotate_left
    ·show Act.put _ (some 3) _ = _
     simp only [Act.put,zP_,i64_w]
     rfl
    refine one_ (i:=3) (N:=some 9) #[zt,zt,zt,zt,zt,zf] rfl rfl (by kernel_rfl) (by decide) (fun K hK=>?_)
    refine goes_ Try.func47 (by kernel_rfl) rfl #[.agg #[.slice A0_0 l0_0.length c0_0,.slice A0_1 l0_1.length c0_1],.slice Ao9 t272.length co9] (by rfl) rfl rfl (by (try simp only [zJ,zM,zN]);first|done|rfl|(simp only [zL,zK];rfl)) ?_
    with_reducible refine (impl_renamed.calls k _ _ l0_0 _ _ l0_1 _ _ t272 t275 t278 _ ?side1 ?side2 ?side3 ?side4 ?side5 ?side6 A3.out).mono ?_
    (case side1=>repeat (first|exact (zW HR0_0.out HB.out)|(with_reducible exact HR0_0.out)|apply zC_))
    (case side2=>exact HC0_0.out)
    (case side3=>repeat (first|exact (zW HR0_1.out HB.out)|(with_reducible exact HR0_1.out)|apply zC_))
    (case side4=>exact HC0_1.out)
    (case side5=>repeat (first|exact (zU HO274.out).2.2|apply zC_))
    (case side6=>exact (zU HO274.out).2.1)
    rintro e w10 ⟨v276,v279,rfl,ho0,ho1,hb⟩
    refine ⟨_,rfl,?_⟩
    have n0_:=zA (zV (Kd.R_told (Kd.R_told (Kd.R_old (by apply zR_;exact HO274.out) hb) (zd ho0)) (zd ho1)) (fun _ h_=>h_.1))
    have n1_:=zA (ze (zh ho0 (Kd.R_lt (by apply zR_;exact HO274.out))) (zQ (by repeat (first|(with_reducible first|exact HB.out|apply zD|apply zB|apply zC|refine zF ?_ GE270.out|refine zF ?_ GE271.out|refine zF ?_ GE281.out)|exact HB.out))))
    have n2_:=zA (ze (zh ho1 (Kd.R_lt (by apply zR_;exact HO274.out))) (zQ (by repeat (first|(with_reducible first|exact HB.out|apply zD|apply zB|apply zC|refine zF ?_ GE270.out|refine zF ?_ GE271.out|refine zF ?_ GE281.out)|exact HB.out))))
    have n3_:=zA (zX (g:=gb270) (o:=.cells #[.slice A0_0 l0_0.length c0_0,.slice A0_1 l0_1.length c0_1] 33 (0,0)) (by (with_reducible repeat (first|refine zG ?_ _|refine zI ?_|refine zH ?_ _));exact BK270.out) hb)
    have n4_:=zA (zX (g:=gb271) (o:=.cells #[.slice none 0 0,.slice none 0 0] 33 (0,0)) (by (with_reducible repeat (first|refine zG ?_ _|refine zI ?_|refine zH ?_ _));exact BK271.out) hb)
    have n5_:=zA (zX (g:=gb281) (o:=.cells #[.slice none 0 0,.slice none 0 0] 33 (0,0)) (by (with_reducible repeat (first|refine zG ?_ _|refine zI ?_|refine zH ?_ _));exact BK281.out) hb)
    have n6_:=zA (zR (by repeat (first|(with_reducible first|exact HB.out|apply zD|apply zB|apply zC|refine zF ?_ GE270.out|refine zF ?_ GE271.out|refine zF ?_ GE281.out)|exact HB.out)) hb)
    clear HO274 BK270 BK271 BK281 HB
    have HO274:=n0_
    have HO277:=n1_
    have HO280:=n2_
    have BK270:=n3_
    have BK271:=n4_
    have BK281:=n5_
    have HB:=n6_
    clear n0_ n1_ n2_ n3_ n4_ n5_ n6_
    (try clear hb);(try clear hb2);(try clear hk);(try clear hi);(try clear ho0);(try clear ho1)
    refine hK.out _ _ ⟨(zT BK270.out 0).trans rfl,(zT BK270.out 1).trans rfl⟩ (fun hHeld=>?_)
    clear hK K
    refine norm_ (a':=?_) ?_ ?_
    rotate_left
    ·show Act.put _ (some 9) _ = _
     simp only [Act.put,zP_,i64_w]
     rfl
    exact norm_ (by simp only [putAll,Act.put,List.setIfInBounds_toArray,List.set_cons_zero,List.set_cons_succ]) (hCont (.slice Ao9 t272.length co9,v276,v279,gb281) _ ⟨hHeld,(by apply zR_;exact zV HO274.out (fun _ hk=>⟨hk.1.2,hk.2⟩)),(by apply zR_;exact zV HO277.out (fun _ hk=>⟨hk.2,hk.1⟩)),(by apply zR_;exact zV HO280.out (fun _ hk=>⟨hk.2,hk.1⟩)),(by (with_reducible repeat (first|refine zG ?_ _|refine zI ?_|refine zH ?_ _));exact BK270.out),(by (with_reducible repeat (first|refine zG ?_ _|refine zI ?_|refine zH ?_ _));exact BK271.out),(by (with_reducible repeat (first|refine zG ?_ _|refine zI ?_|refine zH ?_ _));exact BK281.out),GW281.out,GE281.out,NB270_281.out,NB281_270.out,NB271_281.out,NB281_271.out,(by repeat (first|(with_reducible first|exact HB.out|apply zD|apply zB|apply zC|refine zF ?_ GE270.out|refine zF ?_ GE271.out|refine zF ?_ GE281.out)|exact HB.out))⟩)
  ·skip
   refine box_step ?hg (N:=3) ?hd (cs:=#[.slice none 0 0,.slice none 0 0]) (t:=33) ?hr ?_;(case hd=>rfl);(case hg=>rfl);(case hr=>first|(go_simp;done)|(go_simp;rfl))
   intro gb281 hg w7 hbox hb
   have n0_:=zA (zX (g:=gb270) (o:=.cells #[.slice A0_0 l0_0.length c0_0,.slice A0_1 l0_1.length c0_1] 33 (0,0)) (by (with_reducible repeat (first|refine zG ?_ _|refine zI ?_|refine zH ?_ _));exact BK270.out) hb)
   have n1_:=zA (zX (g:=gb271) (o:=.cells #[.slice none 0 0,.slice none 0 0] 33 (0,0)) (by (with_reducible repeat (first|refine zG ?_ _|refine zI ?_|refine zH ?_ _));exact BK271.out) hb)
   have n2_:=zA (zR (by repeat (first|(with_reducible first|exact HB.out|apply zD|apply zB|apply zC|refine zF ?_ GE270.out|refine zF ?_ GE271.out)|exact HB.out)) hb)
   have n3_:=zA (hbox)
   have n4_:=zA ((by rw [hg];exact (zQ (by repeat (first|(with_reducible first|exact HB.out|apply zD|apply zB|apply zC|refine zF ?_ GE270.out|refine zF ?_ GE271.out)|exact HB.out))):w.heap.size≤gb281))
   have n5_:=zA ((by rw [hg];exact (zQ (by repeat (first|(with_reducible first|exact HB.out|apply zD|apply zB|apply zC|refine zF ?_ GE270.out|refine zF ?_ GE271.out)|exact HB.out))):w.heap.size≤gb281))
   have n6_:=zA ((by rw [hg];exact Nat.ne_of_lt (blk_lt (g:=gb270) (o:=.cells #[.slice A0_0 l0_0.length c0_0,.slice A0_1 l0_1.length c0_1] 33 (0,0)) (by (with_reducible repeat (first|refine zG ?_ _|refine zI ?_|refine zH ?_ _));exact BK270.out)):gb270≠gb281))
   have n7_:=zA ((by rw [hg];exact Nat.ne_of_gt (blk_lt (g:=gb270) (o:=.cells #[.slice A0_0 l0_0.length c0_0,.slice A0_1 l0_1.length c0_1] 33 (0,0)) (by (with_reducible repeat (first|refine zG ?_ _|refine zI ?_|refine zH ?_ _));exact BK270.out)):gb281≠gb270))
   have n8_:=zA ((by rw [hg];exact Nat.ne_of_lt (blk_lt (g:=gb271) (o:=.cells #[.slice none 0 0,.slice none 0 0] 33 (0,0)) (by (with_reducible repeat (first|refine zG ?_ _|refine zI ?_|refine zH ?_ _));exact BK271.out)):gb271≠gb281))
   have n9_:=zA ((by rw [hg];exact Nat.ne_of_gt (blk_lt (g:=gb271) (o:=.cells #[.slice none 0 0,.slice none 0 0] 33 (0,0)) (by (with_reducible repeat (first|refine zG ?_ _|refine zI ?_|refine zH ?_ _));exact BK271.out)):gb281≠gb271))
   clear BK270 BK271 HB
   have BK270:=n0_
   have BK271:=n1_
   have HB:=n2_
   have BK281:=n3_
   have GW281:=n4_
   have GE281:=n5_
   have NB270_281:=n6_
   have NB281_270:=n7_
   have NB271_281:=n8_
   have NB281_271:=n9_
   clear n0_ n1_ n2_ n3_ n4_ n5_ n6_ n7_ n8_ n9_ hb hbox hg
   refine hK.out _ _ ⟨(zT BK270.out 0).trans rfl,(zT BK270.out 1).trans rfl⟩ (fun hHeld=>?_)
   clear hK K
   refine norm_ (a':=?_) ?_ ?_
   rotate_left
   ·show Act.put _ (some 3) _ = _
    simp only [Act.put,zP_,i64_w]
    rfl
   refine one_ (i:=2) (N:=some 8) #[zt,zt,zt,zf,zt,zf] rfl rfl (by kernel_rfl) (by decide) (fun K hK=>?_)
   refine goes_ Try.func48 (by kernel_rfl) rfl #[.agg #[.slice A0_0 l0_0.length c0_0,.slice A0_1 l0_1.length c0_1],.int .i64 0] (by rfl) rfl rfl (by (try simp only [zJ,zM,zN]);first|done|rfl|(simp only [zL,zK];rfl)) ?_
   with_reducible refine (impl_namesFrom.calls k _ _ l0_0 _ _ l0_1 0 t272 _ ?side1 ?side2 ?side3 ?side4 A2.out).mono ?_
   (case side1=>repeat (first|exact (zW HR0_0.out HB.out)|(with_reducible exact HR0_0.out)|apply zC_))
   (case side2=>exact HC0_0.out)
   (case side3=>repeat (first|exact (zW HR0_1.out HB.out)|(with_reducible exact HR0_1.out)|apply zC_))
   (case side4=>exact HC0_1.out)
   rintro e w8 ⟨v273,rfl,ho0,hb⟩
   refine ⟨_,rfl,?_⟩
   have n0_:=zA (ze ho0 (zQ (by repeat (first|(with_reducible first|exact HB.out|apply zD|apply zB|apply zC|refine zF ?_ GE270.out|refine zF ?_ GE271.out|refine zF ?_ GE281.out)|exact HB.out))))
   have n1_:=zA (zX (g:=gb270) (o:=.cells #[.slice A0_0 l0_0.length c0_0,.slice A0_1 l0_1.length c0_1] 33 (0,0)) (by (with_reducible repeat (first|refine zG ?_ _|refine zI ?_|refine zH ?_ _));exact BK270.out) hb)
   have n2_:=zA (zX (g:=gb271) (o:=.cells #[.slice none 0 0,.slice none 0 0] 33 (0,0)) (by (with_reducible repeat (first|refine zG ?_ _|refine zI ?_|refine zH ?_ _));exact BK271.out) hb)
   have n3_:=zA (zX (g:=gb281) (o:=.cells #[.slice none 0 0,.slice none 0 0] 33 (0,0)) (by (with_reducible repeat (first|refine zG ?_ _|refine zI ?_|refine zH ?_ _));exact BK281.out) hb)
   have n4_:=zA (zR (by repeat (first|(with_reducible first|exact HB.out|apply zD|apply zB|apply zC|refine zF ?_ GE270.out|refine zF ?_ GE271.out|refine zF ?_ GE281.out)|exact HB.out)) hb)
   clear BK270 BK271 BK281 HB
   have HO274:=n0_
   have BK270:=n1_
   have BK271:=n2_
   have BK281:=n3_
   have HB:=n4_
   clear n0_ n1_ n2_ n3_ n4_
   (try clear hb);(try clear hb2);(try clear hk);(try clear hi);(try clear ho0)
   obtain ⟨Ao9,co9,eo9⟩:=zg HO274.out
   (first|subst eo9|(injection eo9 with f1_ f2_ f3_;have f4_:=f1_.symm;have f5_:=f3_.symm;clear f1_ f2_ f3_;subst f4_;subst f5_))
   refine hK.out _ _ ⟨(zT BK270.out 0).trans rfl,(zT BK270.out 1).trans rfl⟩ (fun hHeld=>?_)
   clear hK K
   refine norm_ (a':=?_) ?_ ?_
   rotate_left
   ·show Act.put _ (some 8) _ = _
    simp only [Act.put,zP_,i64_w]
    rfl
   refine one_ (i:=3) (N:=some 9) #[zt,zt,zt,zt,zt,zf] rfl rfl (by kernel_rfl) (by decide) (fun K hK=>?_)
   refine goes_ Try.func47 (by kernel_rfl) rfl #[.agg #[.slice A0_0 l0_0.length c0_0,.slice A0_1 l0_1.length c0_1],.slice Ao9 t272.length co9] (by rfl) rfl rfl (by (try simp only [zJ,zM,zN]);first|done|rfl|(simp only [zL,zK];rfl)) ?_
   with_reducible refine (impl_renamed.calls k _ _ l0_0 _ _ l0_1 _ _ t272 t275 t278 _ ?side1 ?side2 ?side3 ?side4 ?side5 ?side6 A3.out).mono ?_
   (case side1=>repeat (first|exact (zW HR0_0.out HB.out)|(with_reducible exact HR0_0.out)|apply zC_))
   (case side2=>exact HC0_0.out)
   (case side3=>repeat (first|exact (zW HR0_1.out HB.out)|(with_reducible exact HR0_1.out)|apply zC_))
   (case side4=>exact HC0_1.out)
   (case side5=>repeat (first|exact (zU HO274.out).2.2|apply zC_))
   (case side6=>exact (zU HO274.out).2.1)
   rintro e w10 ⟨v276,v279,rfl,ho0,ho1,hb⟩
   refine ⟨_,rfl,?_⟩
   have n0_:=zA (zV (Kd.R_told (Kd.R_told (Kd.R_old (by apply zR_;exact HO274.out) hb) (zd ho0)) (zd ho1)) (fun _ h_=>h_.1))
   have n1_:=zA (ze (zh ho0 (Kd.R_lt (by apply zR_;exact HO274.out))) (zQ (by repeat (first|(with_reducible first|exact HB.out|apply zD|apply zB|apply zC|refine zF ?_ GE270.out|refine zF ?_ GE271.out|refine zF ?_ GE281.out)|exact HB.out))))
   have n2_:=zA (ze (zh ho1 (Kd.R_lt (by apply zR_;exact HO274.out))) (zQ (by repeat (first|(with_reducible first|exact HB.out|apply zD|apply zB|apply zC|refine zF ?_ GE270.out|refine zF ?_ GE271.out|refine zF ?_ GE281.out)|exact HB.out))))
   have n3_:=zA (zX (g:=gb270) (o:=.cells #[.slice A0_0 l0_0.length c0_0,.slice A0_1 l0_1.length c0_1] 33 (0,0)) (by (with_reducible repeat (first|refine zG ?_ _|refine zI ?_|refine zH ?_ _));exact BK270.out) hb)
   have n4_:=zA (zX (g:=gb271) (o:=.cells #[.slice none 0 0,.slice none 0 0] 33 (0,0)) (by (with_reducible repeat (first|refine zG ?_ _|refine zI ?_|refine zH ?_ _));exact BK271.out) hb)
   have n5_:=zA (zX (g:=gb281) (o:=.cells #[.slice none 0 0,.slice none 0 0] 33 (0,0)) (by (with_reducible repeat (first|refine zG ?_ _|refine zI ?_|refine zH ?_ _));exact BK281.out) hb)
   have n6_:=zA (zR (by repeat (first|(with_reducible first|exact HB.out|apply zD|apply zB|apply zC|refine zF ?_ GE270.out|refine zF ?_ GE271.out|refine zF ?_ GE281.out)|exact HB.out)) hb)
   clear HO274 BK270 BK271 BK281 HB
   have HO274:=n0_
   have HO277:=n1_
   have HO280:=n2_
   have BK270:=n3_
   have BK271:=n4_
   have BK281:=n5_
   have HB:=n6_
   clear n0_ n1_ n2_ n3_ n4_ n5_ n6_
   (try clear hb);(try clear hb2);(try clear hk);(try clear hi);(try clear ho0);(try clear ho1)
   refine hK.out _ _ ⟨(zT BK270.out 0).trans rfl,(zT BK270.out 1).trans rfl⟩ (fun hHeld=>?_)
   clear hK K
   refine norm_ (a':=?_) ?_ ?_
   rotate_left
   ·show Act.put _ (some 9) _ = _
    simp only [Act.put,zP_,i64_w]
    rfl
   exact norm_ (by simp only [putAll,Act.put,List.setIfInBounds_toArray,List.set_cons_zero,List.set_cons_succ]) (hCont (.slice Ao9 t272.length co9,v276,v279,gb281) _ ⟨hHeld,(by apply zR_;exact zV HO274.out (fun _ hk=>⟨hk.1.2,hk.2⟩)),(by apply zR_;exact zV HO277.out (fun _ hk=>⟨hk.2,hk.1⟩)),(by apply zR_;exact zV HO280.out (fun _ hk=>⟨hk.2,hk.1⟩)),(by (with_reducible repeat (first|refine zG ?_ _|refine zI ?_|refine zH ?_ _));exact BK270.out),(by (with_reducible repeat (first|refine zG ?_ _|refine zI ?_|refine zH ?_ _));exact BK271.out),(by (with_reducible repeat (first|refine zG ?_ _|refine zI ?_|refine zH ?_ _));exact BK281.out),GW281.out,GE281.out,NB270_281.out,NB281_270.out,NB271_281.out,NB281_271.out,(by repeat (first|(with_reducible first|exact HB.out|apply zD|apply zB|apply zC|refine zF ?_ GE270.out|refine zF ?_ GE271.out|refine zF ?_ GE281.out)|exact HB.out))⟩)
 rintro ⟨v273,v276,v279,gb281⟩ w11 ⟨hS_,h0_,h1_,h2_,h3_,h4_,h5_,h6_,h7_,h8_,h9_,h10_,h11_,h12_⟩
 have n0_:Aside0 (Kd.R (Kd.int .i64) 3 w11 w.heap.size (fun k_=>some k_≠(v276:Value).ownBlock∧some k_≠(v279:Value).ownBlock) v273 t272):=⟨h0_⟩
 have n1_:Aside0 (Kd.R (Kd.int .i64) 3 w11 w.heap.size (fun k_=>some k_≠(v273:Value).ownBlock∧some k_≠(v279:Value).ownBlock) v276 t275):=⟨h1_⟩
 have n2_:Aside0 (Kd.R (Kd.int .i64) 3 w11 w.heap.size (fun k_=>some k_≠(v273:Value).ownBlock∧some k_≠(v276:Value).ownBlock) v279 t278):=⟨h2_⟩
 have n3_:Aside0 (w11.heap[gb270]? = some (.cells #[.slice A0_0 l0_0.length c0_0,.slice A0_1 l0_1.length c0_1] 33 (0,0))):=⟨h3_⟩
 have n4_:Aside0 (w11.heap[gb271]? = some (.cells #[.slice none 0 0,.slice none 0 0] 33 (0,0))):=⟨h4_⟩
 have n5_:Aside0 (w11.heap[gb281]? = some (.cells #[.slice none 0 0,.slice none 0 0] 33 (0,0))):=⟨h5_⟩
 have n6_:Aside0 (w.heap.size≤gb281):=⟨h6_⟩
 have n7_:Aside0 (w.heap.size≤gb281):=⟨h7_⟩
 have n8_:Aside0 (gb270≠gb281):=⟨h8_⟩
 have n9_:Aside0 (gb281≠gb270):=⟨h9_⟩
 have n10_:Aside0 (gb271≠gb281):=⟨h10_⟩
 have n11_:Aside0 (gb281≠gb271):=⟨h11_⟩
 have n12_:Aside0 (Below w.heap.size w w11):=⟨h12_⟩
 clear BK270 BK271 HB h0_ h1_ h2_ h3_ h4_ h5_ h6_ h7_ h8_ h9_ h10_ h11_ h12_
 have HO274:=n0_
 have HO277:=n1_
 have HO280:=n2_
 have BK270:=n3_
 have BK271:=n4_
 have BK281:=n5_
 have GW281:=n6_
 have GE281:=n7_
 have NB270_281:=n8_
 have NB281_270:=n9_
 have NB271_281:=n10_
 have NB281_271:=n11_
 have HB:=n12_
 clear n0_ n1_ n2_ n3_ n4_ n5_ n6_ n7_ n8_ n9_ n10_ n11_ n12_
 have hHeld:w11.cell? ⟨gb270,0,none⟩ = some (.slice A0_0 l0_0.length c0_0)∧w11.cell? ⟨gb270,1,none⟩ = some (.slice A0_1 l0_1.length c0_1):=hS_
 obtain ⟨Ao12,co12,eo12⟩:=zg HO277.out
 (first|subst eo12|(injection eo12 with f1_ f2_ f3_;have f4_:=f1_.symm;have f5_:=f3_.symm;clear f1_ f2_ f3_;subst f4_;subst f5_))
 obtain ⟨Ao14,co14,eo14⟩:=zg HO280.out
 (first|subst eo14|(injection eo14 with f1_ f2_ f3_;have f4_:=f1_.symm;have f5_:=f3_.symm;clear f1_ f2_ f3_;subst f4_;subst f5_))
 refine norm_ (a':=?_) ?_ ?_
 rotate_left
 ·simp only [putAll,Act.put,List.setIfInBounds_toArray,List.set_cons_zero,List.set_cons_succ]
  rfl
 refine one_ (i:=5) (N:=none) #[zt,zt,zt,zt,zt,zt] rfl rfl (by kernel_rfl) (by decide) (fun K hK=>?_)
 have hs13:w11.cell? ⟨gb281,0,none⟩ = some (.slice none 0 0):=(zT BK281.out 0).trans rfl
 have hfs13:=zZ BK281.out 0
 have hns13_0:=NB270_281.out
 have hns13_1:=NB271_281.out
 have hms13_0:=NB281_270.out
 have hms13_1:=NB281_271.out
 have hs15:w11.cell? ⟨gb281,1,none⟩ = some (.slice none 0 0):=(zT BK281.out 1).trans rfl
 have hfs15:=zZ BK281.out 1
 have hns15_0:=NB270_281.out
 have hns15_1:=NB271_281.out
 have hms15_0:=NB281_270.out
 have hms15_1:=NB281_271.out
 refine skip_ (w1:=?_) (by rfl) rfl ?_ ?_
 rotate_left
 ·go_simp
  rfl
 refine hK.out _ _ ⟨((cell_far (p:=⟨gb281,_,none⟩) NB270_281.out _).trans (((cell_far (p:=⟨gb281,_,none⟩) NB270_281.out _).trans (hHeld.1)))),((cell_far (p:=⟨gb281,_,none⟩) NB270_281.out _).trans (((cell_far (p:=⟨gb281,_,none⟩) NB270_281.out _).trans (hHeld.2))))⟩ (fun hHeld=>?_)
 clear hK K
 refine done_ (by kernel_rfl) ?_
 have hnb16:=NB270_271.out
 have hnc16:=NB271_270.out
 have hnb17:=NB270_281.out
 have hnc17:=NB281_270.out
 have hcz18_0:w11.cell? ⟨gb270,0,none⟩ = some (.slice A0_0 l0_0.length c0_0):=(zT BK270.out 0).trans rfl
 have hcz18_1:w11.cell? ⟨gb270,1,none⟩ = some (.slice A0_1 l0_1.length c0_1):=(zT BK270.out 1).trans rfl
 have hfz18_0:=zZ BK270.out 0
 have hfz18_1:=zZ BK270.out 1
 try go_wp2
 go_loopg [13] k (fun kq v13 w' => ∃ (x13_1:Int) (x282000_1:List Int) (x282001_1:List Int) (u282000:Value) (u282001:Value),v13 = .int .i64 x13_1∧Aside0 (impl_leastForm.l0 kq (l0_0.length:Int) x13_1 l0_0 l0_1 x282000_1 x282001_1 = some (r1,r2))∧Aside0 (kq≤k)∧Aside0 (Kd.R (Kd.int .i64) 3 w' w.heap.size (fun k_=>some k_≠(u282001:Value).ownBlock) u282000 x282000_1)∧Aside0 (Kd.R (Kd.int .i64) 3 w' w.heap.size (fun k_=>some k_≠(u282000:Value).ownBlock) u282001 x282001_1)∧Aside0 (w'.heap[gb270]? = some (.cells #[(.slice A0_0 l0_0.length c0_0),(.slice A0_1 l0_1.length c0_1)] 33 (0,0)))∧Aside0 (w'.heap[gb271]? = some (.cells #[(.slice none 0 0),(.slice none 0 0)] 33 (0,0)))∧Aside0 (w'.heap[gb281]? = some (.cells #[u282000,u282001] 33 (0,0)))∧Aside0 (Below w.heap.size w w'))
 case atStart=>exact ⟨(0),(t275),(t278),(.slice Ao12 t275.length co12),(.slice Ao14 t278.length co14),(by first|rfl|(simp;done)|(simp [*];done)),H',⟨Nat.le_refl _⟩,⟨by apply zR_;exact zV (zi (p:=⟨gb281,1,none⟩) (zi (p:=⟨gb281,0,none⟩) (Kd.R_types HO277.out BK281.out (by decide)) (fun _ hk=>hk.2) (.slice Ao12 t275.length co12)) (fun _ hk=>hk.2) (.slice Ao14 t278.length co14)) (fun _ hk=>hk.1.2)⟩,⟨by apply zR_;exact zV (zi (p:=⟨gb281,1,none⟩) (zi (p:=⟨gb281,0,none⟩) (Kd.R_types HO280.out BK281.out (by decide)) (fun _ hk=>hk.2) (.slice Ao12 t275.length co12)) (fun _ hk=>hk.2) (.slice Ao14 t278.length co14)) (fun _ hk=>hk.1.2)⟩,⟨by (with_reducible repeat (first|refine zG ?_ _|refine zI ?_|refine zH ?_ _));refine blk_far ?_ NB270_281.out _;(with_reducible repeat (first|refine zG ?_ _|refine zI ?_|refine zH ?_ _));refine blk_far ?_ NB270_281.out _;(with_reducible repeat (first|refine zG ?_ _|refine zI ?_|refine zH ?_ _));exact BK270.out⟩,⟨by (with_reducible repeat (first|refine zG ?_ _|refine zI ?_|refine zH ?_ _));refine blk_far ?_ NB271_281.out _;(with_reducible repeat (first|refine zG ?_ _|refine zI ?_|refine zH ?_ _));refine blk_far ?_ NB271_281.out _;(with_reducible repeat (first|refine zG ?_ _|refine zI ?_|refine zH ?_ _));exact BK271.out⟩,⟨by (with_reducible repeat (first|refine zG ?_ _|refine zI ?_|refine zH ?_ _));refine blk_put (cs:=#[.slice Ao12 t275.length co12,.slice none 0 0]) ?_ 1 _ rfl;(with_reducible repeat (first|refine zG ?_ _|refine zI ?_|refine zH ?_ _));refine blk_put (cs:=#[.slice none 0 0,.slice none 0 0]) ?_ 0 _ rfl;(with_reducible repeat (first|refine zG ?_ _|refine zI ?_|refine zH ?_ _));exact BK281.out⟩,⟨by repeat (first|(with_reducible first|exact HB.out|apply zD|apply zB|apply zC|refine zF ?_ GE270.out|refine zF ?_ GE271.out|refine zF ?_ GE281.out)|exact HB.out)⟩⟩
 case round =>
  clear H'
  (try clear c1);(try clear p2);(try clear c4);(try clear c6);(try clear c16);(try clear c17);(try clear hcz18_0);(try clear hcz18_1);(try clear hfz18_0);(try clear hfz18_1)
  obtain ⟨x13_1,x282000_1,x282001_1,u282000,u282001,rfl,HA,HK1,HO_282000,HO_282001,BK270,BK271,BK281,HB⟩:=hrel
  cases gk with
  | zero=>exact absurd HA.out (by simp [impl_leastForm.l0])
  | succ k1 =>
   have H:=HA.out
   clear HA
   simp only [impl_leastForm.l0] at H
   by_cases c19:x13_1 < (l0_0.length:Int)
   ·rw [if_pos c19] at H
    have c19b0:decide (x13_1 < (l0_0.length:Int)) = true:=zO c19
    clear c19
    replace H:=zz0 H
    obtain ⟨t282,A200,H⟩:=H
    try dsimp only at H
    have A20:=zA A200
    clear A200
    replace H:=zz0 H
    obtain ⟨⟨t285,t288⟩,A210,H⟩:=H
    try dsimp only at H
    have A21:=zA A210
    clear A210
    replace H:=zz0 H
    obtain ⟨t292,A220,H⟩:=H
    try dsimp only at H
    have A22:=zA A220
    clear A220
    have H9_:=zA H
    clear H
    try go_wp2
    have n0_:=zA (Kd.R_drew HO_282000.out)
    have n1_:=zA (Kd.R_drew HO_282001.out)
    have n2_:=zA (zI BK270.out)
    have n3_:=zA (zI BK271.out)
    have n4_:=zA (zI BK281.out)
    have n5_:=zA (zC HB.out)
    clear HO_282000 HO_282001 BK270 BK271 BK281 HB
    have HO_282000:=n0_
    have HO_282001:=n1_
    have BK270:=n2_
    have BK271:=n3_
    have BK281:=n4_
    have HB:=n5_
    clear n0_ n1_ n2_ n3_ n4_ n5_
    refine start_ (n:=7) (S:=fun w'=>w'.cell? ⟨gb270,0,none⟩ = some (.slice A0_0 l0_0.length c0_0)∧w'.cell? ⟨gb270,1,none⟩ = some (.slice A0_1 l0_1.length c0_1)) (ds:=[]) #[zf,zf,zf,zf,zf,zf,zf] (by kernel_rfl) rfl rfl ⟨(zT BK270.out 0).trans rfl,(zT BK270.out 1).trans rfl⟩ (fun hHeld=>?_)
    generalize wr.drew = w24 at HO_282000 HO_282001 BK270 BK271 BK281 HB hHeld ⊢
    refine pure_ (i:=2) (N:=some 18) (v:=?_) (a':=?_) #[zf,zf,zt,zf,zf,zf,zf] rfl rfl (by kernel_rfl) (fun _ _ _ h=>h) (Or.inl ⟨by rfl,?_⟩) ?_ ?_
    rotate_left
    ·intro w'
     go_simp
     with_reducible rfl
    rotate_left
    ·simp only [Act.put,zP_,i64_w]
     rfl
    refine take_ (i:=0) (N:=some 16) (v:=?_) (a':=?_) #[zt,zf,zt,zf,zf,zf,zf] rfl rfl (by kernel_rfl) (fun _ _ _ h=>h) (Or.inl ⟨by rfl,?_⟩) hHeld ?_ ?_
    rotate_left
    ·rintro w' ⟨s0,s1⟩
     go_simp
     with_reducible rfl
    rotate_left
    ·simp only [Act.put,zP_,i64_w]
     rfl
    refine take_ (i:=1) (N:=some 17) (v:=?_) (a':=?_) #[zt,zt,zt,zf,zf,zf,zf] rfl rfl (by kernel_rfl) (fun _ _ _ h=>h) (Or.inl ⟨by rfl,?_⟩) hHeld ?_ ?_
    rotate_left
    ·rintro w' ⟨s0,s1⟩
     go_simp
     with_reducible rfl
    rotate_left
    ·simp only [Act.put,zP_,i64_w]
     rfl
    refine join_ (σ:=Value × Value × Value × Nat) 1 #[zt,zt,zt,zt,zt,zt,zf] (fun s_=>[(19,s_.1),(20,.agg #[s_.2.1,s_.2.2.1]),(5,.pointer (some ⟨s_.2.2.2,0,none⟩))]) (fun s_ w'=>(w'.cell? ⟨gb270,0,none⟩ = some (.slice A0_0 l0_0.length c0_0)∧w'.cell? ⟨gb270,1,none⟩ = some (.slice A0_1 l0_1.length c0_1))∧(Kd.R (Kd.int .i64) 3 w' w.heap.size (fun k_=>some k_≠(s_.2.1:Value).ownBlock∧some k_≠(s_.2.2.1:Value).ownBlock∧some k_≠(u282000:Value).ownBlock∧some k_≠(u282001:Value).ownBlock) s_.1 t282)∧(Kd.R (Kd.int .i64) 3 w' w.heap.size (fun k_=>some k_≠(s_.1:Value).ownBlock∧some k_≠(s_.2.2.1:Value).ownBlock∧some k_≠(u282000:Value).ownBlock∧some k_≠(u282001:Value).ownBlock) s_.2.1 t285)∧(Kd.R (Kd.int .i64) 3 w' w.heap.size (fun k_=>some k_≠(s_.1:Value).ownBlock∧some k_≠(s_.2.1:Value).ownBlock∧some k_≠(u282000:Value).ownBlock∧some k_≠(u282001:Value).ownBlock) s_.2.2.1 t288)∧(Kd.R (Kd.int .i64) 3 w' w.heap.size (fun k_=>some k_≠(s_.1:Value).ownBlock∧some k_≠(s_.2.1:Value).ownBlock∧some k_≠(s_.2.2.1:Value).ownBlock∧some k_≠(u282001:Value).ownBlock) u282000 x282000_1)∧(Kd.R (Kd.int .i64) 3 w' w.heap.size (fun k_=>some k_≠(s_.1:Value).ownBlock∧some k_≠(s_.2.1:Value).ownBlock∧some k_≠(s_.2.2.1:Value).ownBlock∧some k_≠(u282000:Value).ownBlock) u282001 x282001_1)∧(w'.heap[gb270]? = some (.cells #[.slice A0_0 l0_0.length c0_0,.slice A0_1 l0_1.length c0_1] 33 (0,0)))∧(w'.heap[gb271]? = some (.cells #[.slice none 0 0,.slice none 0 0] 33 (0,0)))∧(w'.heap[gb281]? = some (.cells #[u282000,u282001] 33 (0,0)))∧(w'.heap[s_.2.2.2]? = some (.cells #[.slice none 0 0,.slice none 0 0] 33 (0,0)))∧(w.heap.size≤s_.2.2.2)∧(w.heap.size≤s_.2.2.2)∧(gb270≠s_.2.2.2)∧(s_.2.2.2≠gb270)∧(gb271≠s_.2.2.2)∧(s_.2.2.2≠gb271)∧(gb281≠s_.2.2.2)∧(s_.2.2.2≠gb281)∧(Below w.heap.size w w')) ?_ ?_
    rotate_left
    ·intro hCont
     refine two_ (i:=3) (j:=5) (Ni:=some 19) (Nj:=some 5) #[zt,zt,zt,zt,zf,zf,zf] #[zt,zt,zt,zf,zf,zt,zf] rfl rfl rfl rfl (by kernel_rfl) (by decide) (by decide) (fun K hK=>?_) (fun K hK=>?_)
     ·skip
      refine goes_ Try.func48 (by kernel_rfl) rfl #[.agg #[.slice A0_0 l0_0.length c0_0,.slice A0_1 l0_1.length c0_1],.int .i64 x13_1] (by rfl) rfl rfl (by (try simp only [zJ,zM,zN]);first|done|rfl|(simp only [zL,zK];rfl)) ?_
      with_reducible refine (impl_namesFrom.calls k1 _ _ l0_0 _ _ l0_1 x13_1 t282 _ ?side1 ?side2 ?side3 ?side4 A20.out).mono ?_
      (case side1=>repeat (first|exact (zW HR0_0.out HB.out)|(with_reducible exact HR0_0.out)|apply zC_))
      (case side2=>exact HC0_0.out)
      (case side3=>repeat (first|exact (zW HR0_1.out HB.out)|(with_reducible exact HR0_1.out)|apply zC_))
      (case side4=>exact HC0_1.out)
      rintro e w25 ⟨v283,rfl,ho0,hb⟩
      refine ⟨_,rfl,?_⟩
      have n0_:=zA (Kd.R_elder' (by apply zR_;exact HO_282000.out) (zd ho0) hb)
      have n1_:=zA (Kd.R_elder' (by apply zR_;exact HO_282001.out) (zd ho0) hb)
      have n2_:=zA (ze (zh (zh ho0 (Kd.R_lt (by apply zR_;exact HO_282000.out))) (Kd.R_lt (by apply zR_;exact HO_282001.out))) (zQ (by repeat (first|(with_reducible first|exact HB.out|apply zD|apply zB|apply zC|refine zF ?_ GE270.out|refine zF ?_ GE271.out|refine zF ?_ GE281.out)|exact HB.out))))
      have n3_:=zA (zX (g:=gb270) (o:=.cells #[.slice A0_0 l0_0.length c0_0,.slice A0_1 l0_1.length c0_1] 33 (0,0)) (by (with_reducible repeat (first|refine zG ?_ _|refine zI ?_|refine zH ?_ _));exact BK270.out) hb)
      have n4_:=zA (zX (g:=gb271) (o:=.cells #[.slice none 0 0,.slice none 0 0] 33 (0,0)) (by (with_reducible repeat (first|refine zG ?_ _|refine zI ?_|refine zH ?_ _));exact BK271.out) hb)
      have n5_:=zA (zX (g:=gb281) (o:=.cells #[u282000,u282001] 33 (0,0)) (by (with_reducible repeat (first|refine zG ?_ _|refine zI ?_|refine zH ?_ _));exact BK281.out) hb)
      have n6_:=zA (zR (by repeat (first|(with_reducible first|exact HB.out|apply zD|apply zB|apply zC|refine zF ?_ GE270.out|refine zF ?_ GE271.out|refine zF ?_ GE281.out)|exact HB.out)) hb)
      clear HO_282000 HO_282001 BK270 BK271 BK281 HB
      have HO_282000:=n0_
      have HO_282001:=n1_
      have HO284:=n2_
      have BK270:=n3_
      have BK271:=n4_
      have BK281:=n5_
      have HB:=n6_
      clear n0_ n1_ n2_ n3_ n4_ n5_ n6_
      (try clear hb);(try clear hb2);(try clear hk);(try clear hi);(try clear ho0)
      obtain ⟨Ao26,co26,eo26⟩:=zg HO284.out
      (first|subst eo26|(injection eo26 with f1_ f2_ f3_;have f4_:=f1_.symm;have f5_:=f3_.symm;clear f1_ f2_ f3_;subst f4_;subst f5_))
      refine hK.out _ _ ⟨(zT BK270.out 0).trans rfl,(zT BK270.out 1).trans rfl⟩ (fun hHeld=>?_)
      clear hK K
      refine norm_ (a':=?_) ?_ ?_
      rotate_left
      ·show Act.put _ (some 19) _ = _
       simp only [Act.put,zP_,i64_w]
       rfl
      refine two_ (i:=4) (j:=5) (Ni:=some 20) (Nj:=some 5) #[zt,zt,zt,zt,zt,zf,zf] #[zt,zt,zt,zt,zf,zt,zf] rfl rfl rfl rfl (by kernel_rfl) (by decide) (by decide) (fun K hK=>?_) (fun K hK=>?_)
      ·skip
       refine goes_ Try.func47 (by kernel_rfl) rfl #[.agg #[.slice A0_0 l0_0.length c0_0,.slice A0_1 l0_1.length c0_1],.slice Ao26 t282.length co26] (by rfl) rfl rfl (by (try simp only [zJ,zM,zN]);first|done|rfl|(simp only [zL,zK];rfl)) ?_
       with_reducible refine (impl_renamed.calls k1 _ _ l0_0 _ _ l0_1 _ _ t282 t285 t288 _ ?side1 ?side2 ?side3 ?side4 ?side5 ?side6 A21.out).mono ?_
       (case side1=>repeat (first|exact (zW HR0_0.out HB.out)|(with_reducible exact HR0_0.out)|apply zC_))
       (case side2=>exact HC0_0.out)
       (case side3=>repeat (first|exact (zW HR0_1.out HB.out)|(with_reducible exact HR0_1.out)|apply zC_))
       (case side4=>exact HC0_1.out)
       (case side5=>repeat (first|exact (zU HO284.out).2.2|apply zC_))
       (case side6=>exact (zU HO284.out).2.1)
       rintro e w27 ⟨v286,v289,rfl,ho0,ho1,hb⟩
       refine ⟨_,rfl,?_⟩
       have n0_:=zA (zV (Kd.R_told (Kd.R_told (Kd.R_old (by apply zR_;exact HO_282000.out) hb) (zd ho0)) (zd ho1)) (fun _ h_=>h_.1))
       have n1_:=zA (zV (Kd.R_told (Kd.R_told (Kd.R_old (by apply zR_;exact HO_282001.out) hb) (zd ho0)) (zd ho1)) (fun _ h_=>h_.1))
       have n2_:=zA (zV (Kd.R_told (Kd.R_told (Kd.R_old (by apply zR_;exact HO284.out) hb) (zd ho0)) (zd ho1)) (fun _ h_=>h_.1))
       have n3_:=zA (ze (zh (zh (zh ho0 (Kd.R_lt (by apply zR_;exact HO_282000.out))) (Kd.R_lt (by apply zR_;exact HO_282001.out))) (Kd.R_lt (by apply zR_;exact HO284.out))) (zQ (by repeat (first|(with_reducible first|exact HB.out|apply zD|apply zB|apply zC|refine zF ?_ GE270.out|refine zF ?_ GE271.out|refine zF ?_ GE281.out)|exact HB.out))))
       have n4_:=zA (ze (zh (zh (zh ho1 (Kd.R_lt (by apply zR_;exact HO_282000.out))) (Kd.R_lt (by apply zR_;exact HO_282001.out))) (Kd.R_lt (by apply zR_;exact HO284.out))) (zQ (by repeat (first|(with_reducible first|exact HB.out|apply zD|apply zB|apply zC|refine zF ?_ GE270.out|refine zF ?_ GE271.out|refine zF ?_ GE281.out)|exact HB.out))))
       have n5_:=zA (zX (g:=gb270) (o:=.cells #[.slice A0_0 l0_0.length c0_0,.slice A0_1 l0_1.length c0_1] 33 (0,0)) (by (with_reducible repeat (first|refine zG ?_ _|refine zI ?_|refine zH ?_ _));exact BK270.out) hb)
       have n6_:=zA (zX (g:=gb271) (o:=.cells #[.slice none 0 0,.slice none 0 0] 33 (0,0)) (by (with_reducible repeat (first|refine zG ?_ _|refine zI ?_|refine zH ?_ _));exact BK271.out) hb)
       have n7_:=zA (zX (g:=gb281) (o:=.cells #[u282000,u282001] 33 (0,0)) (by (with_reducible repeat (first|refine zG ?_ _|refine zI ?_|refine zH ?_ _));exact BK281.out) hb)
       have n8_:=zA (zR (by repeat (first|(with_reducible first|exact HB.out|apply zD|apply zB|apply zC|refine zF ?_ GE270.out|refine zF ?_ GE271.out|refine zF ?_ GE281.out)|exact HB.out)) hb)
       clear HO_282000 HO_282001 HO284 BK270 BK271 BK281 HB
       have HO_282000:=n0_
       have HO_282001:=n1_
       have HO284:=n2_
       have HO287:=n3_
       have HO290:=n4_
       have BK270:=n5_
       have BK271:=n6_
       have BK281:=n7_
       have HB:=n8_
       clear n0_ n1_ n2_ n3_ n4_ n5_ n6_ n7_ n8_
       (try clear hb);(try clear hb2);(try clear hk);(try clear hi);(try clear ho0);(try clear ho1)
       refine hK.out _ _ ⟨(zT BK270.out 0).trans rfl,(zT BK270.out 1).trans rfl⟩ (fun hHeld=>?_)
       clear hK K
       refine norm_ (a':=?_) ?_ ?_
       rotate_left
       ·show Act.put _ (some 20) _ = _
        simp only [Act.put,zP_,i64_w]
        rfl
       refine one_ (i:=5) (N:=some 5) #[zt,zt,zt,zt,zt,zt,zf] rfl rfl (by kernel_rfl) (by decide) (fun K hK=>?_)
       refine box_step ?hg (N:=5) ?hd (cs:=#[.slice none 0 0,.slice none 0 0]) (t:=33) ?hr ?_;(case hd=>rfl);(case hg=>rfl);(case hr=>first|(go_simp;done)|(go_simp;rfl))
       intro gb291 hg w28 hbox hb
       have n0_:=zA (zj (by apply zR_;exact HO_282000.out) hb)
       have n1_:=zA (zj (by apply zR_;exact HO_282001.out) hb)
       have n2_:=zA (zj (by apply zR_;exact HO284.out) hb)
       have n3_:=zA (zj (by apply zR_;exact HO287.out) hb)
       have n4_:=zA (zj (by apply zR_;exact HO290.out) hb)
       have n5_:=zA (zX (g:=gb270) (o:=.cells #[.slice A0_0 l0_0.length c0_0,.slice A0_1 l0_1.length c0_1] 33 (0,0)) (by (with_reducible repeat (first|refine zG ?_ _|refine zI ?_|refine zH ?_ _));exact BK270.out) hb)
       have n6_:=zA (zX (g:=gb271) (o:=.cells #[.slice none 0 0,.slice none 0 0] 33 (0,0)) (by (with_reducible repeat (first|refine zG ?_ _|refine zI ?_|refine zH ?_ _));exact BK271.out) hb)
       have n7_:=zA (zX (g:=gb281) (o:=.cells #[u282000,u282001] 33 (0,0)) (by (with_reducible repeat (first|refine zG ?_ _|refine zI ?_|refine zH ?_ _));exact BK281.out) hb)
       have n8_:=zA (zR (by repeat (first|(with_reducible first|exact HB.out|apply zD|apply zB|apply zC|refine zF ?_ GE270.out|refine zF ?_ GE271.out|refine zF ?_ GE281.out)|exact HB.out)) hb)
       have n9_:=zA (hbox)
       have n10_:=zA ((by rw [hg];exact (zQ (by repeat (first|(with_reducible first|exact HB.out|apply zD|apply zB|apply zC|refine zF ?_ GE270.out|refine zF ?_ GE271.out|refine zF ?_ GE281.out)|exact HB.out))):w.heap.size≤gb291))
       have n11_:=zA ((by rw [hg];exact (zQ (by repeat (first|(with_reducible first|exact HB.out|apply zD|apply zB|apply zC|refine zF ?_ GE270.out|refine zF ?_ GE271.out|refine zF ?_ GE281.out)|exact HB.out))):w.heap.size≤gb291))
       have n12_:=zA ((by rw [hg];exact Nat.ne_of_lt (blk_lt (g:=gb270) (o:=.cells #[.slice A0_0 l0_0.length c0_0,.slice A0_1 l0_1.length c0_1] 33 (0,0)) (by (with_reducible repeat (first|refine zG ?_ _|refine zI ?_|refine zH ?_ _));exact BK270.out)):gb270≠gb291))
       have n13_:=zA ((by rw [hg];exact Nat.ne_of_gt (blk_lt (g:=gb270) (o:=.cells #[.slice A0_0 l0_0.length c0_0,.slice A0_1 l0_1.length c0_1] 33 (0,0)) (by (with_reducible repeat (first|refine zG ?_ _|refine zI ?_|refine zH ?_ _));exact BK270.out)):gb291≠gb270))
       have n14_:=zA ((by rw [hg];exact Nat.ne_of_lt (blk_lt (g:=gb271) (o:=.cells #[.slice none 0 0,.slice none 0 0] 33 (0,0)) (by (with_reducible repeat (first|refine zG ?_ _|refine zI ?_|refine zH ?_ _));exact BK271.out)):gb271≠gb291))
       have n15_:=zA ((by rw [hg];exact Nat.ne_of_gt (blk_lt (g:=gb271) (o:=.cells #[.slice none 0 0,.slice none 0 0] 33 (0,0)) (by (with_reducible repeat (first|refine zG ?_ _|refine zI ?_|refine zH ?_ _));exact BK271.out)):gb291≠gb271))
       have n16_:=zA ((by rw [hg];exact Nat.ne_of_lt (blk_lt (g:=gb281) (o:=.cells #[u282000,u282001] 33 (0,0)) (by (with_reducible repeat (first|refine zG ?_ _|refine zI ?_|refine zH ?_ _));exact BK281.out)):gb281≠gb291))
       have n17_:=zA ((by rw [hg];exact Nat.ne_of_gt (blk_lt (g:=gb281) (o:=.cells #[u282000,u282001] 33 (0,0)) (by (with_reducible repeat (first|refine zG ?_ _|refine zI ?_|refine zH ?_ _));exact BK281.out)):gb291≠gb281))
       clear HO_282000 HO_282001 HO284 HO287 HO290 BK270 BK271 BK281 HB
       have HO_282000:=n0_
       have HO_282001:=n1_
       have HO284:=n2_
       have HO287:=n3_
       have HO290:=n4_
       have BK270:=n5_
       have BK271:=n6_
       have BK281:=n7_
       have HB:=n8_
       have BK291:=n9_
       have GW291:=n10_
       have GE291:=n11_
       have NB270_291:=n12_
       have NB291_270:=n13_
       have NB271_291:=n14_
       have NB291_271:=n15_
       have NB281_291:=n16_
       have NB291_281:=n17_
       clear n0_ n1_ n2_ n3_ n4_ n5_ n6_ n7_ n8_ n9_ n10_ n11_ n12_ n13_ n14_ n15_ n16_ n17_ hb hbox hg
       refine hK.out _ _ ⟨(zT BK270.out 0).trans rfl,(zT BK270.out 1).trans rfl⟩ (fun hHeld=>?_)
       clear hK K
       refine norm_ (a':=?_) ?_ ?_
       rotate_left
       ·show Act.put _ (some 5) _ = _
        simp only [Act.put,zP_,i64_w]
        rfl
       exact norm_ (by simp only [putAll,Act.put,List.setIfInBounds_toArray,List.set_cons_zero,List.set_cons_succ]) (hCont (.slice Ao26 t282.length co26,v286,v289,gb291) _ ⟨hHeld,(by apply zR_;exact zV HO284.out (fun _ hk=>⟨hk.1.2,⟨hk.2,⟨hk.1.1.1.2,hk.1.1.2⟩⟩⟩)),(by apply zR_;exact zV HO287.out (fun _ hk=>⟨hk.2,⟨hk.1.1.1,⟨hk.1.1.2,hk.1.2⟩⟩⟩)),(by apply zR_;exact zV HO290.out (fun _ hk=>⟨hk.2,⟨hk.1.1.1,⟨hk.1.1.2,hk.1.2⟩⟩⟩)),(by apply zR_;exact zV HO_282000.out (fun _ hk=>⟨hk.1.1.2,⟨hk.1.2,⟨hk.2,hk.1.1.1⟩⟩⟩)),(by apply zR_;exact zV HO_282001.out (fun _ hk=>⟨hk.1.1.2,⟨hk.1.2,⟨hk.2,hk.1.1.1⟩⟩⟩)),(by (with_reducible repeat (first|refine zG ?_ _|refine zI ?_|refine zH ?_ _));exact BK270.out),(by (with_reducible repeat (first|refine zG ?_ _|refine zI ?_|refine zH ?_ _));exact BK271.out),(by (with_reducible repeat (first|refine zG ?_ _|refine zI ?_|refine zH ?_ _));exact BK281.out),(by (with_reducible repeat (first|refine zG ?_ _|refine zI ?_|refine zH ?_ _));exact BK291.out),GW291.out,GE291.out,NB270_291.out,NB291_270.out,NB271_291.out,NB291_271.out,NB281_291.out,NB291_281.out,(by repeat (first|(with_reducible first|exact HB.out|apply zD|apply zB|apply zC|refine zF ?_ GE270.out|refine zF ?_ GE271.out|refine zF ?_ GE281.out|refine zF ?_ GE291.out)|exact HB.out))⟩)
      ·skip
       refine box_step ?hg (N:=5) ?hd (cs:=#[.slice none 0 0,.slice none 0 0]) (t:=33) ?hr ?_;(case hd=>rfl);(case hg=>rfl);(case hr=>first|(go_simp;done)|(go_simp;rfl))
       intro gb291 hg w26 hbox hb
       have n0_:=zA (zj (by apply zR_;exact HO_282000.out) hb)
       have n1_:=zA (zj (by apply zR_;exact HO_282001.out) hb)
       have n2_:=zA (zj (by apply zR_;exact HO284.out) hb)
       have n3_:=zA (zX (g:=gb270) (o:=.cells #[.slice A0_0 l0_0.length c0_0,.slice A0_1 l0_1.length c0_1] 33 (0,0)) (by (with_reducible repeat (first|refine zG ?_ _|refine zI ?_|refine zH ?_ _));exact BK270.out) hb)
       have n4_:=zA (zX (g:=gb271) (o:=.cells #[.slice none 0 0,.slice none 0 0] 33 (0,0)) (by (with_reducible repeat (first|refine zG ?_ _|refine zI ?_|refine zH ?_ _));exact BK271.out) hb)
       have n5_:=zA (zX (g:=gb281) (o:=.cells #[u282000,u282001] 33 (0,0)) (by (with_reducible repeat (first|refine zG ?_ _|refine zI ?_|refine zH ?_ _));exact BK281.out) hb)
       have n6_:=zA (zR (by repeat (first|(with_reducible first|exact HB.out|apply zD|apply zB|apply zC|refine zF ?_ GE270.out|refine zF ?_ GE271.out|refine zF ?_ GE281.out)|exact HB.out)) hb)
       have n7_:=zA (hbox)
       have n8_:=zA ((by rw [hg];exact (zQ (by repeat (first|(with_reducible first|exact HB.out|apply zD|apply zB|apply zC|refine zF ?_ GE270.out|refine zF ?_ GE271.out|refine zF ?_ GE281.out)|exact HB.out))):w.heap.size≤gb291))
       have n9_:=zA ((by rw [hg];exact (zQ (by repeat (first|(with_reducible first|exact HB.out|apply zD|apply zB|apply zC|refine zF ?_ GE270.out|refine zF ?_ GE271.out|refine zF ?_ GE281.out)|exact HB.out))):w.heap.size≤gb291))
       have n10_:=zA ((by rw [hg];exact Nat.ne_of_lt (blk_lt (g:=gb270) (o:=.cells #[.slice A0_0 l0_0.length c0_0,.slice A0_1 l0_1.length c0_1] 33 (0,0)) (by (with_reducible repeat (first|refine zG ?_ _|refine zI ?_|refine zH ?_ _));exact BK270.out)):gb270≠gb291))
       have n11_:=zA ((by rw [hg];exact Nat.ne_of_gt (blk_lt (g:=gb270) (o:=.cells #[.slice A0_0 l0_0.length c0_0,.slice A0_1 l0_1.length c0_1] 33 (0,0)) (by (with_reducible repeat (first|refine zG ?_ _|refine zI ?_|refine zH ?_ _));exact BK270.out)):gb291≠gb270))
       have n12_:=zA ((by rw [hg];exact Nat.ne_of_lt (blk_lt (g:=gb271) (o:=.cells #[.slice none 0 0,.slice none 0 0] 33 (0,0)) (by (with_reducible repeat (first|refine zG ?_ _|refine zI ?_|refine zH ?_ _));exact BK271.out)):gb271≠gb291))
       have n13_:=zA ((by rw [hg];exact Nat.ne_of_gt (blk_lt (g:=gb271) (o:=.cells #[.slice none 0 0,.slice none 0 0] 33 (0,0)) (by (with_reducible repeat (first|refine zG ?_ _|refine zI ?_|refine zH ?_ _));exact BK271.out)):gb291≠gb271))
       have n14_:=zA ((by rw [hg];exact Nat.ne_of_lt (blk_lt (g:=gb281) (o:=.cells #[u282000,u282001] 33 (0,0)) (by (with_reducible repeat (first|refine zG ?_ _|refine zI ?_|refine zH ?_ _));exact BK281.out)):gb281≠gb291))
       have n15_:=zA ((by rw [hg];exact Nat.ne_of_gt (blk_lt (g:=gb281) (o:=.cells #[u282000,u282001] 33 (0,0)) (by (with_reducible repeat (first|refine zG ?_ _|refine zI ?_|refine zH ?_ _));exact BK281.out)):gb291≠gb281))
       clear HO_282000 HO_282001 HO284 BK270 BK271 BK281 HB
       have HO_282000:=n0_
       have HO_282001:=n1_
       have HO284:=n2_
       have BK270:=n3_
       have BK271:=n4_
       have BK281:=n5_
       have HB:=n6_
       have BK291:=n7_
       have GW291:=n8_
       have GE291:=n9_
       have NB270_291:=n10_
       have NB291_270:=n11_
       have NB271_291:=n12_
       have NB291_271:=n13_
       have NB281_291:=n14_
       have NB291_281:=n15_
       clear n0_ n1_ n2_ n3_ n4_ n5_ n6_ n7_ n8_ n9_ n10_ n11_ n12_ n13_ n14_ n15_ hb hbox hg
       obtain ⟨Ao27,co27,eo27⟩:=zg HO284.out
       (first|subst eo27|(injection eo27 with f1_ f2_ f3_;have f4_:=f1_.symm;have f5_:=f3_.symm;clear f1_ f2_ f3_;subst f4_;subst f5_))
       refine hK.out _ _ ⟨(zT BK270.out 0).trans rfl,(zT BK270.out 1).trans rfl⟩ (fun hHeld=>?_)
       clear hK K
       refine norm_ (a':=?_) ?_ ?_
       rotate_left
       ·show Act.put _ (some 5) _ = _
        simp only [Act.put,zP_,i64_w]
        rfl
       refine one_ (i:=4) (N:=some 20) #[zt,zt,zt,zt,zt,zt,zf] rfl rfl (by kernel_rfl) (by decide) (fun K hK=>?_)
       refine goes_ Try.func47 (by kernel_rfl) rfl #[.agg #[.slice A0_0 l0_0.length c0_0,.slice A0_1 l0_1.length c0_1],.slice Ao27 t282.length co27] (by rfl) rfl rfl (by (try simp only [zJ,zM,zN]);first|done|rfl|(simp only [zL,zK];rfl)) ?_
       with_reducible refine (impl_renamed.calls k1 _ _ l0_0 _ _ l0_1 _ _ t282 t285 t288 _ ?side1 ?side2 ?side3 ?side4 ?side5 ?side6 A21.out).mono ?_
       (case side1=>repeat (first|exact (zW HR0_0.out HB.out)|(with_reducible exact HR0_0.out)|apply zC_))
       (case side2=>exact HC0_0.out)
       (case side3=>repeat (first|exact (zW HR0_1.out HB.out)|(with_reducible exact HR0_1.out)|apply zC_))
       (case side4=>exact HC0_1.out)
       (case side5=>repeat (first|exact (zU HO284.out).2.2|apply zC_))
       (case side6=>exact (zU HO284.out).2.1)
       rintro e w28 ⟨v286,v289,rfl,ho0,ho1,hb⟩
       refine ⟨_,rfl,?_⟩
       have n0_:=zA (zV (Kd.R_told (Kd.R_told (Kd.R_old (by apply zR_;exact HO_282000.out) hb) (zd ho0)) (zd ho1)) (fun _ h_=>h_.1))
       have n1_:=zA (zV (Kd.R_told (Kd.R_told (Kd.R_old (by apply zR_;exact HO_282001.out) hb) (zd ho0)) (zd ho1)) (fun _ h_=>h_.1))
       have n2_:=zA (zV (Kd.R_told (Kd.R_told (Kd.R_old (by apply zR_;exact HO284.out) hb) (zd ho0)) (zd ho1)) (fun _ h_=>h_.1))
       have n3_:=zA (ze (zh (zh (zh ho0 (Kd.R_lt (by apply zR_;exact HO_282000.out))) (Kd.R_lt (by apply zR_;exact HO_282001.out))) (Kd.R_lt (by apply zR_;exact HO284.out))) (zQ (by repeat (first|(with_reducible first|exact HB.out|apply zD|apply zB|apply zC|refine zF ?_ GE270.out|refine zF ?_ GE271.out|refine zF ?_ GE281.out|refine zF ?_ GE291.out)|exact HB.out))))
       have n4_:=zA (ze (zh (zh (zh ho1 (Kd.R_lt (by apply zR_;exact HO_282000.out))) (Kd.R_lt (by apply zR_;exact HO_282001.out))) (Kd.R_lt (by apply zR_;exact HO284.out))) (zQ (by repeat (first|(with_reducible first|exact HB.out|apply zD|apply zB|apply zC|refine zF ?_ GE270.out|refine zF ?_ GE271.out|refine zF ?_ GE281.out|refine zF ?_ GE291.out)|exact HB.out))))
       have n5_:=zA (zX (g:=gb270) (o:=.cells #[.slice A0_0 l0_0.length c0_0,.slice A0_1 l0_1.length c0_1] 33 (0,0)) (by (with_reducible repeat (first|refine zG ?_ _|refine zI ?_|refine zH ?_ _));exact BK270.out) hb)
       have n6_:=zA (zX (g:=gb271) (o:=.cells #[.slice none 0 0,.slice none 0 0] 33 (0,0)) (by (with_reducible repeat (first|refine zG ?_ _|refine zI ?_|refine zH ?_ _));exact BK271.out) hb)
       have n7_:=zA (zX (g:=gb281) (o:=.cells #[u282000,u282001] 33 (0,0)) (by (with_reducible repeat (first|refine zG ?_ _|refine zI ?_|refine zH ?_ _));exact BK281.out) hb)
       have n8_:=zA (zX (g:=gb291) (o:=.cells #[.slice none 0 0,.slice none 0 0] 33 (0,0)) (by (with_reducible repeat (first|refine zG ?_ _|refine zI ?_|refine zH ?_ _));exact BK291.out) hb)
       have n9_:=zA (zR (by repeat (first|(with_reducible first|exact HB.out|apply zD|apply zB|apply zC|refine zF ?_ GE270.out|refine zF ?_ GE271.out|refine zF ?_ GE281.out|refine zF ?_ GE291.out)|exact HB.out)) hb)
       clear HO_282000 HO_282001 HO284 BK270 BK271 BK281 BK291 HB
       have HO_282000:=n0_
       have HO_282001:=n1_
       have HO284:=n2_
       have HO287:=n3_
       have HO290:=n4_
       have BK270:=n5_
       have BK271:=n6_
       have BK281:=n7_
       have BK291:=n8_
       have HB:=n9_
       clear n0_ n1_ n2_ n3_ n4_ n5_ n6_ n7_ n8_ n9_
       (try clear hb);(try clear hb2);(try clear hk);(try clear hi);(try clear ho0);(try clear ho1)
       refine hK.out _ _ ⟨(zT BK270.out 0).trans rfl,(zT BK270.out 1).trans rfl⟩ (fun hHeld=>?_)
       clear hK K
       refine norm_ (a':=?_) ?_ ?_
       rotate_left
       ·show Act.put _ (some 20) _ = _
        simp only [Act.put,zP_,i64_w]
        rfl
       exact norm_ (by simp only [putAll,Act.put,List.setIfInBounds_toArray,List.set_cons_zero,List.set_cons_succ]) (hCont (.slice Ao27 t282.length co27,v286,v289,gb291) _ ⟨hHeld,(by apply zR_;exact zV HO284.out (fun _ hk=>⟨hk.1.2,⟨hk.2,⟨hk.1.1.1.2,hk.1.1.2⟩⟩⟩)),(by apply zR_;exact zV HO287.out (fun _ hk=>⟨hk.2,⟨hk.1.1.1,⟨hk.1.1.2,hk.1.2⟩⟩⟩)),(by apply zR_;exact zV HO290.out (fun _ hk=>⟨hk.2,⟨hk.1.1.1,⟨hk.1.1.2,hk.1.2⟩⟩⟩)),(by apply zR_;exact zV HO_282000.out (fun _ hk=>⟨hk.1.1.2,⟨hk.1.2,⟨hk.2,hk.1.1.1⟩⟩⟩)),(by apply zR_;exact zV HO_282001.out (fun _ hk=>⟨hk.1.1.2,⟨hk.1.2,⟨hk.2,hk.1.1.1⟩⟩⟩)),(by (with_reducible repeat (first|refine zG ?_ _|refine zI ?_|refine zH ?_ _));exact BK270.out),(by (with_reducible repeat (first|refine zG ?_ _|refine zI ?_|refine zH ?_ _));exact BK271.out),(by (with_reducible repeat (first|refine zG ?_ _|refine zI ?_|refine zH ?_ _));exact BK281.out),(by (with_reducible repeat (first|refine zG ?_ _|refine zI ?_|refine zH ?_ _));exact BK291.out),GW291.out,GE291.out,NB270_291.out,NB291_270.out,NB271_291.out,NB291_271.out,NB281_291.out,NB291_281.out,(by repeat (first|(with_reducible first|exact HB.out|apply zD|apply zB|apply zC|refine zF ?_ GE270.out|refine zF ?_ GE271.out|refine zF ?_ GE281.out|refine zF ?_ GE291.out)|exact HB.out))⟩)
     ·skip
      refine box_step ?hg (N:=5) ?hd (cs:=#[.slice none 0 0,.slice none 0 0]) (t:=33) ?hr ?_;(case hd=>rfl);(case hg=>rfl);(case hr=>first|(go_simp;done)|(go_simp;rfl))
      intro gb291 hg w25 hbox hb
      have n0_:=zA (zj (by apply zR_;exact HO_282000.out) hb)
      have n1_:=zA (zj (by apply zR_;exact HO_282001.out) hb)
      have n2_:=zA (zX (g:=gb270) (o:=.cells #[.slice A0_0 l0_0.length c0_0,.slice A0_1 l0_1.length c0_1] 33 (0,0)) (by (with_reducible repeat (first|refine zG ?_ _|refine zI ?_|refine zH ?_ _));exact BK270.out) hb)
      have n3_:=zA (zX (g:=gb271) (o:=.cells #[.slice none 0 0,.slice none 0 0] 33 (0,0)) (by (with_reducible repeat (first|refine zG ?_ _|refine zI ?_|refine zH ?_ _));exact BK271.out) hb)
      have n4_:=zA (zX (g:=gb281) (o:=.cells #[u282000,u282001] 33 (0,0)) (by (with_reducible repeat (first|refine zG ?_ _|refine zI ?_|refine zH ?_ _));exact BK281.out) hb)
      have n5_:=zA (zR (by repeat (first|(with_reducible first|exact HB.out|apply zD|apply zB|apply zC|refine zF ?_ GE270.out|refine zF ?_ GE271.out|refine zF ?_ GE281.out)|exact HB.out)) hb)
      have n6_:=zA (hbox)
      have n7_:=zA ((by rw [hg];exact (zQ (by repeat (first|(with_reducible first|exact HB.out|apply zD|apply zB|apply zC|refine zF ?_ GE270.out|refine zF ?_ GE271.out|refine zF ?_ GE281.out)|exact HB.out))):w.heap.size≤gb291))
      have n8_:=zA ((by rw [hg];exact (zQ (by repeat (first|(with_reducible first|exact HB.out|apply zD|apply zB|apply zC|refine zF ?_ GE270.out|refine zF ?_ GE271.out|refine zF ?_ GE281.out)|exact HB.out))):w.heap.size≤gb291))
      have n9_:=zA ((by rw [hg];exact Nat.ne_of_lt (blk_lt (g:=gb270) (o:=.cells #[.slice A0_0 l0_0.length c0_0,.slice A0_1 l0_1.length c0_1] 33 (0,0)) (by (with_reducible repeat (first|refine zG ?_ _|refine zI ?_|refine zH ?_ _));exact BK270.out)):gb270≠gb291))
      have n10_:=zA ((by rw [hg];exact Nat.ne_of_gt (blk_lt (g:=gb270) (o:=.cells #[.slice A0_0 l0_0.length c0_0,.slice A0_1 l0_1.length c0_1] 33 (0,0)) (by (with_reducible repeat (first|refine zG ?_ _|refine zI ?_|refine zH ?_ _));exact BK270.out)):gb291≠gb270))
      have n11_:=zA ((by rw [hg];exact Nat.ne_of_lt (blk_lt (g:=gb271) (o:=.cells #[.slice none 0 0,.slice none 0 0] 33 (0,0)) (by (with_reducible repeat (first|refine zG ?_ _|refine zI ?_|refine zH ?_ _));exact BK271.out)):gb271≠gb291))
      have n12_:=zA ((by rw [hg];exact Nat.ne_of_gt (blk_lt (g:=gb271) (o:=.cells #[.slice none 0 0,.slice none 0 0] 33 (0,0)) (by (with_reducible repeat (first|refine zG ?_ _|refine zI ?_|refine zH ?_ _));exact BK271.out)):gb291≠gb271))
      have n13_:=zA ((by rw [hg];exact Nat.ne_of_lt (blk_lt (g:=gb281) (o:=.cells #[u282000,u282001] 33 (0,0)) (by (with_reducible repeat (first|refine zG ?_ _|refine zI ?_|refine zH ?_ _));exact BK281.out)):gb281≠gb291))
      have n14_:=zA ((by rw [hg];exact Nat.ne_of_gt (blk_lt (g:=gb281) (o:=.cells #[u282000,u282001] 33 (0,0)) (by (with_reducible repeat (first|refine zG ?_ _|refine zI ?_|refine zH ?_ _));exact BK281.out)):gb291≠gb281))
      clear HO_282000 HO_282001 BK270 BK271 BK281 HB
      have HO_282000:=n0_
      have HO_282001:=n1_
      have BK270:=n2_
      have BK271:=n3_
      have BK281:=n4_
      have HB:=n5_
      have BK291:=n6_
      have GW291:=n7_
      have GE291:=n8_
      have NB270_291:=n9_
      have NB291_270:=n10_
      have NB271_291:=n11_
      have NB291_271:=n12_
      have NB281_291:=n13_
      have NB291_281:=n14_
      clear n0_ n1_ n2_ n3_ n4_ n5_ n6_ n7_ n8_ n9_ n10_ n11_ n12_ n13_ n14_ hb hbox hg
      refine hK.out _ _ ⟨(zT BK270.out 0).trans rfl,(zT BK270.out 1).trans rfl⟩ (fun hHeld=>?_)
      clear hK K
      refine norm_ (a':=?_) ?_ ?_
      rotate_left
      ·show Act.put _ (some 5) _ = _
       simp only [Act.put,zP_,i64_w]
       rfl
      refine one_ (i:=3) (N:=some 19) #[zt,zt,zt,zt,zf,zt,zf] rfl rfl (by kernel_rfl) (by decide) (fun K hK=>?_)
      refine goes_ Try.func48 (by kernel_rfl) rfl #[.agg #[.slice A0_0 l0_0.length c0_0,.slice A0_1 l0_1.length c0_1],.int .i64 x13_1] (by rfl) rfl rfl (by (try simp only [zJ,zM,zN]);first|done|rfl|(simp only [zL,zK];rfl)) ?_
      with_reducible refine (impl_namesFrom.calls k1 _ _ l0_0 _ _ l0_1 x13_1 t282 _ ?side1 ?side2 ?side3 ?side4 A20.out).mono ?_
      (case side1=>repeat (first|exact (zW HR0_0.out HB.out)|(with_reducible exact HR0_0.out)|apply zC_))
      (case side2=>exact HC0_0.out)
      (case side3=>repeat (first|exact (zW HR0_1.out HB.out)|(with_reducible exact HR0_1.out)|apply zC_))
      (case side4=>exact HC0_1.out)
      rintro e w26 ⟨v283,rfl,ho0,hb⟩
      refine ⟨_,rfl,?_⟩
      have n0_:=zA (Kd.R_elder' (by apply zR_;exact HO_282000.out) (zd ho0) hb)
      have n1_:=zA (Kd.R_elder' (by apply zR_;exact HO_282001.out) (zd ho0) hb)
      have n2_:=zA (ze (zh (zh ho0 (Kd.R_lt (by apply zR_;exact HO_282000.out))) (Kd.R_lt (by apply zR_;exact HO_282001.out))) (zQ (by repeat (first|(with_reducible first|exact HB.out|apply zD|apply zB|apply zC|refine zF ?_ GE270.out|refine zF ?_ GE271.out|refine zF ?_ GE281.out|refine zF ?_ GE291.out)|exact HB.out))))
      have n3_:=zA (zX (g:=gb270) (o:=.cells #[.slice A0_0 l0_0.length c0_0,.slice A0_1 l0_1.length c0_1] 33 (0,0)) (by (with_reducible repeat (first|refine zG ?_ _|refine zI ?_|refine zH ?_ _));exact BK270.out) hb)
      have n4_:=zA (zX (g:=gb271) (o:=.cells #[.slice none 0 0,.slice none 0 0] 33 (0,0)) (by (with_reducible repeat (first|refine zG ?_ _|refine zI ?_|refine zH ?_ _));exact BK271.out) hb)
      have n5_:=zA (zX (g:=gb281) (o:=.cells #[u282000,u282001] 33 (0,0)) (by (with_reducible repeat (first|refine zG ?_ _|refine zI ?_|refine zH ?_ _));exact BK281.out) hb)
      have n6_:=zA (zX (g:=gb291) (o:=.cells #[.slice none 0 0,.slice none 0 0] 33 (0,0)) (by (with_reducible repeat (first|refine zG ?_ _|refine zI ?_|refine zH ?_ _));exact BK291.out) hb)
      have n7_:=zA (zR (by repeat (first|(with_reducible first|exact HB.out|apply zD|apply zB|apply zC|refine zF ?_ GE270.out|refine zF ?_ GE271.out|refine zF ?_ GE281.out|refine zF ?_ GE291.out)|exact HB.out)) hb)
      clear HO_282000 HO_282001 BK270 BK271 BK281 BK291 HB
      have HO_282000:=n0_
      have HO_282001:=n1_
      have HO284:=n2_
      have BK270:=n3_
      have BK271:=n4_
      have BK281:=n5_
      have BK291:=n6_
      have HB:=n7_
      clear n0_ n1_ n2_ n3_ n4_ n5_ n6_ n7_
      (try clear hb);(try clear hb2);(try clear hk);(try clear hi);(try clear ho0)
      obtain ⟨Ao27,co27,eo27⟩:=zg HO284.out
      (first|subst eo27|(injection eo27 with f1_ f2_ f3_;have f4_:=f1_.symm;have f5_:=f3_.symm;clear f1_ f2_ f3_;subst f4_;subst f5_))
      refine hK.out _ _ ⟨(zT BK270.out 0).trans rfl,(zT BK270.out 1).trans rfl⟩ (fun hHeld=>?_)
      clear hK K
      refine norm_ (a':=?_) ?_ ?_
      rotate_left
      ·show Act.put _ (some 19) _ = _
       simp only [Act.put,zP_,i64_w]
       rfl
      refine one_ (i:=4) (N:=some 20) #[zt,zt,zt,zt,zt,zt,zf] rfl rfl (by kernel_rfl) (by decide) (fun K hK=>?_)
      refine goes_ Try.func47 (by kernel_rfl) rfl #[.agg #[.slice A0_0 l0_0.length c0_0,.slice A0_1 l0_1.length c0_1],.slice Ao27 t282.length co27] (by rfl) rfl rfl (by (try simp only [zJ,zM,zN]);first|done|rfl|(simp only [zL,zK];rfl)) ?_
      with_reducible refine (impl_renamed.calls k1 _ _ l0_0 _ _ l0_1 _ _ t282 t285 t288 _ ?side1 ?side2 ?side3 ?side4 ?side5 ?side6 A21.out).mono ?_
      (case side1=>repeat (first|exact (zW HR0_0.out HB.out)|(with_reducible exact HR0_0.out)|apply zC_))
      (case side2=>exact HC0_0.out)
      (case side3=>repeat (first|exact (zW HR0_1.out HB.out)|(with_reducible exact HR0_1.out)|apply zC_))
      (case side4=>exact HC0_1.out)
      (case side5=>repeat (first|exact (zU HO284.out).2.2|apply zC_))
      (case side6=>exact (zU HO284.out).2.1)
      rintro e w28 ⟨v286,v289,rfl,ho0,ho1,hb⟩
      refine ⟨_,rfl,?_⟩
      have n0_:=zA (zV (Kd.R_told (Kd.R_told (Kd.R_old (by apply zR_;exact HO_282000.out) hb) (zd ho0)) (zd ho1)) (fun _ h_=>h_.1))
      have n1_:=zA (zV (Kd.R_told (Kd.R_told (Kd.R_old (by apply zR_;exact HO_282001.out) hb) (zd ho0)) (zd ho1)) (fun _ h_=>h_.1))
      have n2_:=zA (zV (Kd.R_told (Kd.R_told (Kd.R_old (by apply zR_;exact HO284.out) hb) (zd ho0)) (zd ho1)) (fun _ h_=>h_.1))
      have n3_:=zA (ze (zh (zh (zh ho0 (Kd.R_lt (by apply zR_;exact HO_282000.out))) (Kd.R_lt (by apply zR_;exact HO_282001.out))) (Kd.R_lt (by apply zR_;exact HO284.out))) (zQ (by repeat (first|(with_reducible first|exact HB.out|apply zD|apply zB|apply zC|refine zF ?_ GE270.out|refine zF ?_ GE271.out|refine zF ?_ GE281.out|refine zF ?_ GE291.out)|exact HB.out))))
      have n4_:=zA (ze (zh (zh (zh ho1 (Kd.R_lt (by apply zR_;exact HO_282000.out))) (Kd.R_lt (by apply zR_;exact HO_282001.out))) (Kd.R_lt (by apply zR_;exact HO284.out))) (zQ (by repeat (first|(with_reducible first|exact HB.out|apply zD|apply zB|apply zC|refine zF ?_ GE270.out|refine zF ?_ GE271.out|refine zF ?_ GE281.out|refine zF ?_ GE291.out)|exact HB.out))))
      have n5_:=zA (zX (g:=gb270) (o:=.cells #[.slice A0_0 l0_0.length c0_0,.slice A0_1 l0_1.length c0_1] 33 (0,0)) (by (with_reducible repeat (first|refine zG ?_ _|refine zI ?_|refine zH ?_ _));exact BK270.out) hb)
      have n6_:=zA (zX (g:=gb271) (o:=.cells #[.slice none 0 0,.slice none 0 0] 33 (0,0)) (by (with_reducible repeat (first|refine zG ?_ _|refine zI ?_|refine zH ?_ _));exact BK271.out) hb)
      have n7_:=zA (zX (g:=gb281) (o:=.cells #[u282000,u282001] 33 (0,0)) (by (with_reducible repeat (first|refine zG ?_ _|refine zI ?_|refine zH ?_ _));exact BK281.out) hb)
      have n8_:=zA (zX (g:=gb291) (o:=.cells #[.slice none 0 0,.slice none 0 0] 33 (0,0)) (by (with_reducible repeat (first|refine zG ?_ _|refine zI ?_|refine zH ?_ _));exact BK291.out) hb)
      have n9_:=zA (zR (by repeat (first|(with_reducible first|exact HB.out|apply zD|apply zB|apply zC|refine zF ?_ GE270.out|refine zF ?_ GE271.out|refine zF ?_ GE281.out|refine zF ?_ GE291.out)|exact HB.out)) hb)
      clear HO_282000 HO_282001 HO284 BK270 BK271 BK281 BK291 HB
      have HO_282000:=n0_
      have HO_282001:=n1_
      have HO284:=n2_
      have HO287:=n3_
      have HO290:=n4_
      have BK270:=n5_
      have BK271:=n6_
      have BK281:=n7_
      have BK291:=n8_
      have HB:=n9_
      clear n0_ n1_ n2_ n3_ n4_ n5_ n6_ n7_ n8_ n9_
      (try clear hb);(try clear hb2);(try clear hk);(try clear hi);(try clear ho0);(try clear ho1)
      refine hK.out _ _ ⟨(zT BK270.out 0).trans rfl,(zT BK270.out 1).trans rfl⟩ (fun hHeld=>?_)
      clear hK K
      refine norm_ (a':=?_) ?_ ?_
      rotate_left
      ·show Act.put _ (some 20) _ = _
       simp only [Act.put,zP_,i64_w]
       rfl
      exact norm_ (by simp only [putAll,Act.put,List.setIfInBounds_toArray,List.set_cons_zero,List.set_cons_succ]) (hCont (.slice Ao27 t282.length co27,v286,v289,gb291) _ ⟨hHeld,(by apply zR_;exact zV HO284.out (fun _ hk=>⟨hk.1.2,⟨hk.2,⟨hk.1.1.1.2,hk.1.1.2⟩⟩⟩)),(by apply zR_;exact zV HO287.out (fun _ hk=>⟨hk.2,⟨hk.1.1.1,⟨hk.1.1.2,hk.1.2⟩⟩⟩)),(by apply zR_;exact zV HO290.out (fun _ hk=>⟨hk.2,⟨hk.1.1.1,⟨hk.1.1.2,hk.1.2⟩⟩⟩)),(by apply zR_;exact zV HO_282000.out (fun _ hk=>⟨hk.1.1.2,⟨hk.1.2,⟨hk.2,hk.1.1.1⟩⟩⟩)),(by apply zR_;exact zV HO_282001.out (fun _ hk=>⟨hk.1.1.2,⟨hk.1.2,⟨hk.2,hk.1.1.1⟩⟩⟩)),(by (with_reducible repeat (first|refine zG ?_ _|refine zI ?_|refine zH ?_ _));exact BK270.out),(by (with_reducible repeat (first|refine zG ?_ _|refine zI ?_|refine zH ?_ _));exact BK271.out),(by (with_reducible repeat (first|refine zG ?_ _|refine zI ?_|refine zH ?_ _));exact BK281.out),(by (with_reducible repeat (first|refine zG ?_ _|refine zI ?_|refine zH ?_ _));exact BK291.out),GW291.out,GE291.out,NB270_291.out,NB291_270.out,NB271_291.out,NB291_271.out,NB281_291.out,NB291_281.out,(by repeat (first|(with_reducible first|exact HB.out|apply zD|apply zB|apply zC|refine zF ?_ GE270.out|refine zF ?_ GE271.out|refine zF ?_ GE281.out|refine zF ?_ GE291.out)|exact HB.out))⟩)
    rintro ⟨v283,v286,v289,gb291⟩ w29 ⟨hS_,h0_,h1_,h2_,h3_,h4_,h5_,h6_,h7_,h8_,h9_,h10_,h11_,h12_,h13_,h14_,h15_,h16_,h17_⟩
    have n0_:Aside0 (Kd.R (Kd.int .i64) 3 w29 w.heap.size (fun k_=>some k_≠(v286:Value).ownBlock∧some k_≠(v289:Value).ownBlock∧some k_≠(u282000:Value).ownBlock∧some k_≠(u282001:Value).ownBlock) v283 t282):=⟨h0_⟩
    have n1_:Aside0 (Kd.R (Kd.int .i64) 3 w29 w.heap.size (fun k_=>some k_≠(v283:Value).ownBlock∧some k_≠(v289:Value).ownBlock∧some k_≠(u282000:Value).ownBlock∧some k_≠(u282001:Value).ownBlock) v286 t285):=⟨h1_⟩
    have n2_:Aside0 (Kd.R (Kd.int .i64) 3 w29 w.heap.size (fun k_=>some k_≠(v283:Value).ownBlock∧some k_≠(v286:Value).ownBlock∧some k_≠(u282000:Value).ownBlock∧some k_≠(u282001:Value).ownBlock) v289 t288):=⟨h2_⟩
    have n3_:Aside0 (Kd.R (Kd.int .i64) 3 w29 w.heap.size (fun k_=>some k_≠(v283:Value).ownBlock∧some k_≠(v286:Value).ownBlock∧some k_≠(v289:Value).ownBlock∧some k_≠(u282001:Value).ownBlock) u282000 x282000_1):=⟨h3_⟩
    have n4_:Aside0 (Kd.R (Kd.int .i64) 3 w29 w.heap.size (fun k_=>some k_≠(v283:Value).ownBlock∧some k_≠(v286:Value).ownBlock∧some k_≠(v289:Value).ownBlock∧some k_≠(u282000:Value).ownBlock) u282001 x282001_1):=⟨h4_⟩
    have n5_:Aside0 (w29.heap[gb270]? = some (.cells #[.slice A0_0 l0_0.length c0_0,.slice A0_1 l0_1.length c0_1] 33 (0,0))):=⟨h5_⟩
    have n6_:Aside0 (w29.heap[gb271]? = some (.cells #[.slice none 0 0,.slice none 0 0] 33 (0,0))):=⟨h6_⟩
    have n7_:Aside0 (w29.heap[gb281]? = some (.cells #[u282000,u282001] 33 (0,0))):=⟨h7_⟩
    have n8_:Aside0 (w29.heap[gb291]? = some (.cells #[.slice none 0 0,.slice none 0 0] 33 (0,0))):=⟨h8_⟩
    have n9_:Aside0 (w.heap.size≤gb291):=⟨h9_⟩
    have n10_:Aside0 (w.heap.size≤gb291):=⟨h10_⟩
    have n11_:Aside0 (gb270≠gb291):=⟨h11_⟩
    have n12_:Aside0 (gb291≠gb270):=⟨h12_⟩
    have n13_:Aside0 (gb271≠gb291):=⟨h13_⟩
    have n14_:Aside0 (gb291≠gb271):=⟨h14_⟩
    have n15_:Aside0 (gb281≠gb291):=⟨h15_⟩
    have n16_:Aside0 (gb291≠gb281):=⟨h16_⟩
    have n17_:Aside0 (Below w.heap.size w w29):=⟨h17_⟩
    clear HO_282000 HO_282001 BK270 BK271 BK281 HB h0_ h1_ h2_ h3_ h4_ h5_ h6_ h7_ h8_ h9_ h10_ h11_ h12_ h13_ h14_ h15_ h16_ h17_
    have HO284:=n0_
    have HO287:=n1_
    have HO290:=n2_
    have HO_282000:=n3_
    have HO_282001:=n4_
    have BK270:=n5_
    have BK271:=n6_
    have BK281:=n7_
    have BK291:=n8_
    have GW291:=n9_
    have GE291:=n10_
    have NB270_291:=n11_
    have NB291_270:=n12_
    have NB271_291:=n13_
    have NB291_271:=n14_
    have NB281_291:=n15_
    have NB291_281:=n16_
    have HB:=n17_
    clear n0_ n1_ n2_ n3_ n4_ n5_ n6_ n7_ n8_ n9_ n10_ n11_ n12_ n13_ n14_ n15_ n16_ n17_
    have hHeld:w29.cell? ⟨gb270,0,none⟩ = some (.slice A0_0 l0_0.length c0_0)∧w29.cell? ⟨gb270,1,none⟩ = some (.slice A0_1 l0_1.length c0_1):=hS_
    obtain ⟨Ao30,co30,eo30⟩:=zg HO287.out
    (first|subst eo30|(injection eo30 with f1_ f2_ f3_;have f4_:=f1_.symm;have f5_:=f3_.symm;clear f1_ f2_ f3_;subst f4_;subst f5_))
    obtain ⟨Ao32,co32,eo32⟩:=zg HO290.out
    (first|subst eo32|(injection eo32 with f1_ f2_ f3_;have f4_:=f1_.symm;have f5_:=f3_.symm;clear f1_ f2_ f3_;subst f4_;subst f5_))
    refine norm_ (a':=?_) ?_ ?_
    rotate_left
    ·simp only [putAll,Act.put,List.setIfInBounds_toArray,List.set_cons_zero,List.set_cons_succ]
     rfl
    refine one_ (i:=6) (N:=none) #[zt,zt,zt,zt,zt,zt,zt] rfl rfl (by kernel_rfl) (by decide) (fun K hK=>?_)
    have hs31:w29.cell? ⟨gb291,0,none⟩ = some (.slice none 0 0):=(zT BK291.out 0).trans rfl
    have hfs31:=zZ BK291.out 0
    have hns31_0:=NB270_291.out
    have hns31_1:=NB271_291.out
    have hns31_2:=NB281_291.out
    have hms31_0:=NB291_270.out
    have hms31_1:=NB291_271.out
    have hms31_2:=NB291_281.out
    have hs33:w29.cell? ⟨gb291,1,none⟩ = some (.slice none 0 0):=(zT BK291.out 1).trans rfl
    have hfs33:=zZ BK291.out 1
    have hns33_0:=NB270_291.out
    have hns33_1:=NB271_291.out
    have hns33_2:=NB281_291.out
    have hms33_0:=NB291_270.out
    have hms33_1:=NB291_271.out
    have hms33_2:=NB291_281.out
    refine skip_ (w1:=?_) (by rfl) rfl ?_ ?_
    rotate_left
    ·go_simp
     rfl
    refine hK.out _ _ ⟨((cell_far (p:=⟨gb291,_,none⟩) NB270_291.out _).trans (((cell_far (p:=⟨gb291,_,none⟩) NB270_291.out _).trans (hHeld.1)))),((cell_far (p:=⟨gb291,_,none⟩) NB270_291.out _).trans (((cell_far (p:=⟨gb291,_,none⟩) NB270_291.out _).trans (hHeld.2))))⟩ (fun hHeld=>?_)
    clear hK K
    refine done_ (by kernel_rfl) ?_
    have H:=H9_.out
    clear H9_
    by_cases c23:t292 < 0
    ·rw [if_pos c23] at H
     have c23b0:decide (t292 < 0) = true:=zO c23
     clear c23
     try rw [c23b0]
     have H':=zA H
     clear H
     have hnb34:=NB291_270.out
     have hnc34:=NB270_291.out
     have hnb35:=NB291_271.out
     have hnc35:=NB271_291.out
     have hnb36:=NB291_281.out
     have hnc36:=NB281_291.out
     have hcz37_0:w29.cell? ⟨gb291,0,none⟩ = some (.slice none 0 0):=(zT BK291.out 0).trans rfl
     have hcz37_1:w29.cell? ⟨gb291,1,none⟩ = some (.slice none 0 0):=(zT BK291.out 1).trans rfl
     have hfz37_0:=zZ BK291.out 0
     have hfz37_1:=zZ BK291.out 1
     have hnb38:=NB281_270.out
     have hnc38:=NB270_281.out
     have hnb39:=NB281_271.out
     have hnc39:=NB271_281.out
     have hcz40_0:w29.cell? ⟨gb281,0,none⟩ = some (u282000):=(zT BK281.out 0).trans rfl
     have hcz40_1:w29.cell? ⟨gb281,1,none⟩ = some (u282001):=(zT BK281.out 1).trans rfl
     have hfz40_0:=zZ BK281.out 0
     have hfz40_1:=zZ BK281.out 1
     obtain ⟨Ao41,co41,eo41⟩:=zg HO_282000.out
     subst eo41
     obtain ⟨Ao42,co42,eo42⟩:=zg HO_282001.out
     subst eo42
     try go_wp2_with (first|((with_reducible refine gate_callee (f:=62) rfl ?_);refine goesL_ (some 23) rfl rfl Try.func62 (by kernel_rfl) rfl #[.agg #[.slice Ao30 t285.length co30,.slice Ao32 t288.length co32],.agg #[.slice Ao41 x282000_1.length co41,.slice Ao42 x282001_1.length co42]] rfl (by (try simp only [zJ,zM,zN]);first|done|rfl|(simp only [zL,zK];rfl)) ?_;(with_reducible refine (impl_compareMaps.calls k1 _ _ t285 _ _ t288 _ _ x282000_1 _ _ x282001_1 t292 _ ?side1 ?side2 ?side3 ?side4 ?side5 ?side6 ?side7 ?side8 A22.out).mono ?_);(case side1=>refine (zU (e:=3) (base:=w.heap.size) (ok:=fun k_=>(some k_≠(v283:Value).ownBlock∧(some k_≠(.slice Ao32 t288.length co32:Value).ownBlock∧(some k_≠(.slice Ao41 x282000_1.length co41:Value).ownBlock∧some k_≠(.slice Ao42 x282001_1.length co42:Value).ownBlock)))) (n:=t285.length) (c:=co30) ?_).2.2;exact (by apply zR_;exact (zV (zi (p:=⟨gb291,1,none⟩) (zi (p:=⟨gb291,0,none⟩) (Kd.R_types HO287.out BK291.out (by decide)) (fun _ hk=>hk.2) (.slice Ao30 t285.length co30)) (fun _ hk=>hk.2) (.slice Ao32 t288.length co32)) (fun _ h_=>h_.1))));(case side2=>exact (zU HO287.out).2.1);(case side3=>refine (zU (e:=3) (base:=w.heap.size) (ok:=fun k_=>(some k_≠(v283:Value).ownBlock∧(some k_≠(.slice Ao30 t285.length co30:Value).ownBlock∧(some k_≠(.slice Ao41 x282000_1.length co41:Value).ownBlock∧some k_≠(.slice Ao42 x282001_1.length co42:Value).ownBlock)))) (n:=t288.length) (c:=co32) ?_).2.2;exact (by apply zR_;exact (zV (zi (p:=⟨gb291,1,none⟩) (zi (p:=⟨gb291,0,none⟩) (Kd.R_types HO290.out BK291.out (by decide)) (fun _ hk=>hk.2) (.slice Ao30 t285.length co30)) (fun _ hk=>hk.2) (.slice Ao32 t288.length co32)) (fun _ h_=>h_.1))));(case side4=>exact (zU HO290.out).2.1);(case side5=>refine (zU (e:=3) (base:=w.heap.size) (ok:=fun k_=>(some k_≠(v283:Value).ownBlock∧(some k_≠(.slice Ao30 t285.length co30:Value).ownBlock∧(some k_≠(.slice Ao32 t288.length co32:Value).ownBlock∧some k_≠(.slice Ao42 x282001_1.length co42:Value).ownBlock)))) (n:=x282000_1.length) (c:=co41) ?_).2.2;exact (by apply zR_;exact (zV (zi (p:=⟨gb291,1,none⟩) (zi (p:=⟨gb291,0,none⟩) (Kd.R_types HO_282000.out BK291.out (by decide)) (fun _ hk=>hk.2) (.slice Ao30 t285.length co30)) (fun _ hk=>hk.2) (.slice Ao32 t288.length co32)) (fun _ h_=>h_.1))));(case side6=>exact (zU HO_282000.out).2.1);(case side7=>refine (zU (e:=3) (base:=w.heap.size) (ok:=fun k_=>(some k_≠(v283:Value).ownBlock∧(some k_≠(.slice Ao30 t285.length co30:Value).ownBlock∧(some k_≠(.slice Ao32 t288.length co32:Value).ownBlock∧some k_≠(.slice Ao41 x282000_1.length co41:Value).ownBlock)))) (n:=x282001_1.length) (c:=co42) ?_).2.2;exact (by apply zR_;exact (zV (zi (p:=⟨gb291,1,none⟩) (zi (p:=⟨gb291,0,none⟩) (Kd.R_types HO_282001.out BK291.out (by decide)) (fun _ hk=>hk.2) (.slice Ao30 t285.length co30)) (fun _ hk=>hk.2) (.slice Ao32 t288.length co32)) (fun _ h_=>h_.1))));(case side8=>exact (zU HO_282001.out).2.1);rintro e w43 ⟨rfl,hb⟩;refine ⟨_,rfl,?_⟩;have n0_:=zA (zj (by apply zR_;exact (zV (zi (p:=⟨gb291,1,none⟩) (zi (p:=⟨gb291,0,none⟩) (Kd.R_types HO_282000.out BK291.out (by decide)) (fun _ hk=>hk.2) (.slice Ao30 t285.length co30)) (fun _ hk=>hk.2) (.slice Ao32 t288.length co32)) (fun _ h_=>h_.1))) hb);have n1_:=zA (zj (by apply zR_;exact (zV (zi (p:=⟨gb291,1,none⟩) (zi (p:=⟨gb291,0,none⟩) (Kd.R_types HO_282001.out BK291.out (by decide)) (fun _ hk=>hk.2) (.slice Ao30 t285.length co30)) (fun _ hk=>hk.2) (.slice Ao32 t288.length co32)) (fun _ h_=>h_.1))) hb);have n2_:=zA (zj (by apply zR_;exact (zV (zi (p:=⟨gb291,1,none⟩) (zi (p:=⟨gb291,0,none⟩) (Kd.R_types HO284.out BK291.out (by decide)) (fun _ hk=>hk.2) (.slice Ao30 t285.length co30)) (fun _ hk=>hk.2) (.slice Ao32 t288.length co32)) (fun _ h_=>h_.1))) hb);have n3_:=zA (zj (by apply zR_;exact (zV (zi (p:=⟨gb291,1,none⟩) (zi (p:=⟨gb291,0,none⟩) (Kd.R_types HO287.out BK291.out (by decide)) (fun _ hk=>hk.2) (.slice Ao30 t285.length co30)) (fun _ hk=>hk.2) (.slice Ao32 t288.length co32)) (fun _ h_=>h_.1))) hb);have n4_:=zA (zj (by apply zR_;exact (zV (zi (p:=⟨gb291,1,none⟩) (zi (p:=⟨gb291,0,none⟩) (Kd.R_types HO290.out BK291.out (by decide)) (fun _ hk=>hk.2) (.slice Ao30 t285.length co30)) (fun _ hk=>hk.2) (.slice Ao32 t288.length co32)) (fun _ h_=>h_.1))) hb);have n5_:=zA (zX (g:=gb270) (o:=.cells #[.slice A0_0 l0_0.length c0_0,.slice A0_1 l0_1.length c0_1] 33 (0,0)) (by (with_reducible repeat (first|refine zG ?_ _|refine zI ?_|refine zH ?_ _));refine blk_far ?_ NB270_291.out _;(with_reducible repeat (first|refine zG ?_ _|refine zI ?_|refine zH ?_ _));refine blk_far ?_ NB270_291.out _;(with_reducible repeat (first|refine zG ?_ _|refine zI ?_|refine zH ?_ _));exact BK270.out) hb);have n6_:=zA (zX (g:=gb271) (o:=.cells #[.slice none 0 0,.slice none 0 0] 33 (0,0)) (by (with_reducible repeat (first|refine zG ?_ _|refine zI ?_|refine zH ?_ _));refine blk_far ?_ NB271_291.out _;(with_reducible repeat (first|refine zG ?_ _|refine zI ?_|refine zH ?_ _));refine blk_far ?_ NB271_291.out _;(with_reducible repeat (first|refine zG ?_ _|refine zI ?_|refine zH ?_ _));exact BK271.out) hb);have n7_:=zA (zX (g:=gb281) (o:=.cells #[.slice Ao41 x282000_1.length co41,.slice Ao42 x282001_1.length co42] 33 (0,0)) (by (with_reducible repeat (first|refine zG ?_ _|refine zI ?_|refine zH ?_ _));refine blk_far ?_ NB281_291.out _;(with_reducible repeat (first|refine zG ?_ _|refine zI ?_|refine zH ?_ _));refine blk_far ?_ NB281_291.out _;(with_reducible repeat (first|refine zG ?_ _|refine zI ?_|refine zH ?_ _));exact BK281.out) hb);have n8_:=zA (zX (g:=gb291) (o:=.cells #[.slice Ao30 t285.length co30,.slice Ao32 t288.length co32] 33 (0,0)) (by (with_reducible repeat (first|refine zG ?_ _|refine zI ?_|refine zH ?_ _));refine blk_put (cs:=#[.slice Ao30 t285.length co30,.slice none 0 0]) ?_ 1 _ rfl;(with_reducible repeat (first|refine zG ?_ _|refine zI ?_|refine zH ?_ _));refine blk_put (cs:=#[.slice none 0 0,.slice none 0 0]) ?_ 0 _ rfl;(with_reducible repeat (first|refine zG ?_ _|refine zI ?_|refine zH ?_ _));exact BK291.out) hb);have n9_:=zA (zR (by repeat (first|(with_reducible first|exact HB.out|apply zD|apply zB|apply zC|refine zF ?_ GE270.out|refine zF ?_ GE271.out|refine zF ?_ GE281.out|refine zF ?_ GE291.out)|exact HB.out)) hb);clear HO_282000;clear HO_282001;clear HO284;clear HO287;clear HO290;clear BK270;clear BK271;clear BK281;clear BK291;clear HB;have HO_282000:=n0_;have HO_282001:=n1_;have HO284:=n2_;have HO287:=n3_;have HO290:=n4_;have BK270:=n5_;have BK271:=n6_;have BK281:=n7_;have BK291:=n8_;have HB:=n9_;clear n0_ n1_ n2_ n3_ n4_ n5_ n6_ n7_ n8_ n9_;(try clear hb);(try clear hb2);(try clear hk);(try clear hi);have hcz44_0:w43.cell? ⟨gb291,0,none⟩ = some (.slice Ao30 t285.length co30):=(zT BK291.out 0).trans rfl;have hcz44_1:w43.cell? ⟨gb291,1,none⟩ = some (.slice Ao32 t288.length co32):=(zT BK291.out 1).trans rfl;have hfz44_0:=zZ BK291.out 0;have hfz44_1:=zZ BK291.out 1;have hcz45_0:w43.cell? ⟨gb281,0,none⟩ = some (.slice Ao41 x282000_1.length co41):=(zT BK281.out 0).trans rfl;have hcz45_1:w43.cell? ⟨gb281,1,none⟩ = some (.slice Ao42 x282001_1.length co42):=(zT BK281.out 1).trans rfl;have hfz45_0:=zZ BK281.out 0;have hfz45_1:=zZ BK281.out 1))
     go_roundg k1
     case measure=>have:=HK1.out;omega
     case rel=>exact ⟨(wrap64 (x13_1+1)),(t285),(t288),(.slice Ao30 t285.length co30),(.slice Ao32 t288.length co32),(by first|rfl|(simp;done)|(simp [*];done)),H',⟨by have:=HK1.out;omega⟩,⟨by apply zR_;exact zV (zi (p:=⟨gb281,1,none⟩) (zi (p:=⟨gb281,0,none⟩) (Kd.R_types HO287.out BK281.out (by decide)) (fun _ hk=>hk.2) (.slice Ao30 t285.length co30)) (fun _ hk=>hk.2) (.slice Ao32 t288.length co32)) (fun _ hk=>hk.1.2.1)⟩,⟨by apply zR_;exact zV (zi (p:=⟨gb281,1,none⟩) (zi (p:=⟨gb281,0,none⟩) (Kd.R_types HO290.out BK281.out (by decide)) (fun _ hk=>hk.2) (.slice Ao30 t285.length co30)) (fun _ hk=>hk.2) (.slice Ao32 t288.length co32)) (fun _ hk=>hk.1.2.1)⟩,⟨by (with_reducible repeat (first|refine zG ?_ _|refine zI ?_|refine zH ?_ _));refine blk_far ?_ NB270_281.out _;(with_reducible repeat (first|refine zG ?_ _|refine zI ?_|refine zH ?_ _));refine blk_far ?_ NB270_281.out _;(with_reducible repeat (first|refine zG ?_ _|refine zI ?_|refine zH ?_ _));exact BK270.out⟩,⟨by (with_reducible repeat (first|refine zG ?_ _|refine zI ?_|refine zH ?_ _));refine blk_far ?_ NB271_281.out _;(with_reducible repeat (first|refine zG ?_ _|refine zI ?_|refine zH ?_ _));refine blk_far ?_ NB271_281.out _;(with_reducible repeat (first|refine zG ?_ _|refine zI ?_|refine zH ?_ _));exact BK271.out⟩,⟨by (with_reducible repeat (first|refine zG ?_ _|refine zI ?_|refine zH ?_ _));refine blk_put (cs:=#[.slice Ao30 t285.length co30,.slice Ao42 x282001_1.length co42]) ?_ 1 _ rfl;(with_reducible repeat (first|refine zG ?_ _|refine zI ?_|refine zH ?_ _));refine blk_put (cs:=#[.slice Ao41 x282000_1.length co41,.slice Ao42 x282001_1.length co42]) ?_ 0 _ rfl;(with_reducible repeat (first|refine zG ?_ _|refine zI ?_|refine zH ?_ _));exact BK281.out⟩,⟨by repeat (first|(with_reducible first|exact HB.out|apply zD|apply zB|apply zC|refine zF ?_ GE270.out|refine zF ?_ GE271.out|refine zF ?_ GE281.out|refine zF ?_ GE291.out)|exact HB.out)⟩⟩
    ·rw [if_neg c23] at H
     have c23b0:decide (t292 < 0) = false:=zP c23
     clear c23
     try rw [c23b0]
     have H':=zA H
     clear H
     have hnb56:=NB291_270.out
     have hnc56:=NB270_291.out
     have hnb57:=NB291_271.out
     have hnc57:=NB271_291.out
     have hnb58:=NB291_281.out
     have hnc58:=NB281_291.out
     have hcz59_0:w29.cell? ⟨gb291,0,none⟩ = some (.slice none 0 0):=(zT BK291.out 0).trans rfl
     have hcz59_1:w29.cell? ⟨gb291,1,none⟩ = some (.slice none 0 0):=(zT BK291.out 1).trans rfl
     have hfz59_0:=zZ BK291.out 0
     have hfz59_1:=zZ BK291.out 1
     have hnb60:=NB281_270.out
     have hnc60:=NB270_281.out
     have hnb61:=NB281_271.out
     have hnc61:=NB271_281.out
     have hcz62_0:w29.cell? ⟨gb281,0,none⟩ = some (u282000):=(zT BK281.out 0).trans rfl
     have hcz62_1:w29.cell? ⟨gb281,1,none⟩ = some (u282001):=(zT BK281.out 1).trans rfl
     have hfz62_0:=zZ BK281.out 0
     have hfz62_1:=zZ BK281.out 1
     obtain ⟨Ao63,co63,eo63⟩:=zg HO_282000.out
     subst eo63
     obtain ⟨Ao64,co64,eo64⟩:=zg HO_282001.out
     subst eo64
     try go_wp2_with (first|((with_reducible refine gate_callee (f:=62) rfl ?_);refine goesL_ (some 23) rfl rfl Try.func62 (by kernel_rfl) rfl #[.agg #[.slice Ao30 t285.length co30,.slice Ao32 t288.length co32],.agg #[.slice Ao63 x282000_1.length co63,.slice Ao64 x282001_1.length co64]] rfl (by (try simp only [zJ,zM,zN]);first|done|rfl|(simp only [zL,zK];rfl)) ?_;(with_reducible refine (impl_compareMaps.calls k1 _ _ t285 _ _ t288 _ _ x282000_1 _ _ x282001_1 t292 _ ?side1 ?side2 ?side3 ?side4 ?side5 ?side6 ?side7 ?side8 A22.out).mono ?_);(case side1=>refine (zU (e:=3) (base:=w.heap.size) (ok:=fun k_=>(some k_≠(v283:Value).ownBlock∧(some k_≠(.slice Ao32 t288.length co32:Value).ownBlock∧(some k_≠(.slice Ao63 x282000_1.length co63:Value).ownBlock∧some k_≠(.slice Ao64 x282001_1.length co64:Value).ownBlock)))) (n:=t285.length) (c:=co30) ?_).2.2;exact (by apply zR_;exact (zV (zi (p:=⟨gb291,1,none⟩) (zi (p:=⟨gb291,0,none⟩) (Kd.R_types HO287.out BK291.out (by decide)) (fun _ hk=>hk.2) (.slice Ao30 t285.length co30)) (fun _ hk=>hk.2) (.slice Ao32 t288.length co32)) (fun _ h_=>h_.1))));(case side2=>exact (zU HO287.out).2.1);(case side3=>refine (zU (e:=3) (base:=w.heap.size) (ok:=fun k_=>(some k_≠(v283:Value).ownBlock∧(some k_≠(.slice Ao30 t285.length co30:Value).ownBlock∧(some k_≠(.slice Ao63 x282000_1.length co63:Value).ownBlock∧some k_≠(.slice Ao64 x282001_1.length co64:Value).ownBlock)))) (n:=t288.length) (c:=co32) ?_).2.2;exact (by apply zR_;exact (zV (zi (p:=⟨gb291,1,none⟩) (zi (p:=⟨gb291,0,none⟩) (Kd.R_types HO290.out BK291.out (by decide)) (fun _ hk=>hk.2) (.slice Ao30 t285.length co30)) (fun _ hk=>hk.2) (.slice Ao32 t288.length co32)) (fun _ h_=>h_.1))));(case side4=>exact (zU HO290.out).2.1);(case side5=>refine (zU (e:=3) (base:=w.heap.size) (ok:=fun k_=>(some k_≠(v283:Value).ownBlock∧(some k_≠(.slice Ao30 t285.length co30:Value).ownBlock∧(some k_≠(.slice Ao32 t288.length co32:Value).ownBlock∧some k_≠(.slice Ao64 x282001_1.length co64:Value).ownBlock)))) (n:=x282000_1.length) (c:=co63) ?_).2.2;exact (by apply zR_;exact (zV (zi (p:=⟨gb291,1,none⟩) (zi (p:=⟨gb291,0,none⟩) (Kd.R_types HO_282000.out BK291.out (by decide)) (fun _ hk=>hk.2) (.slice Ao30 t285.length co30)) (fun _ hk=>hk.2) (.slice Ao32 t288.length co32)) (fun _ h_=>h_.1))));(case side6=>exact (zU HO_282000.out).2.1);(case side7=>refine (zU (e:=3) (base:=w.heap.size) (ok:=fun k_=>(some k_≠(v283:Value).ownBlock∧(some k_≠(.slice Ao30 t285.length co30:Value).ownBlock∧(some k_≠(.slice Ao32 t288.length co32:Value).ownBlock∧some k_≠(.slice Ao63 x282000_1.length co63:Value).ownBlock)))) (n:=x282001_1.length) (c:=co64) ?_).2.2;exact (by apply zR_;exact (zV (zi (p:=⟨gb291,1,none⟩) (zi (p:=⟨gb291,0,none⟩) (Kd.R_types HO_282001.out BK291.out (by decide)) (fun _ hk=>hk.2) (.slice Ao30 t285.length co30)) (fun _ hk=>hk.2) (.slice Ao32 t288.length co32)) (fun _ h_=>h_.1))));(case side8=>exact (zU HO_282001.out).2.1);rintro e w65 ⟨rfl,hb⟩;refine ⟨_,rfl,?_⟩;have n0_:=zA (zj (by apply zR_;exact (zV (zi (p:=⟨gb291,1,none⟩) (zi (p:=⟨gb291,0,none⟩) (Kd.R_types HO_282000.out BK291.out (by decide)) (fun _ hk=>hk.2) (.slice Ao30 t285.length co30)) (fun _ hk=>hk.2) (.slice Ao32 t288.length co32)) (fun _ h_=>h_.1))) hb);have n1_:=zA (zj (by apply zR_;exact (zV (zi (p:=⟨gb291,1,none⟩) (zi (p:=⟨gb291,0,none⟩) (Kd.R_types HO_282001.out BK291.out (by decide)) (fun _ hk=>hk.2) (.slice Ao30 t285.length co30)) (fun _ hk=>hk.2) (.slice Ao32 t288.length co32)) (fun _ h_=>h_.1))) hb);have n2_:=zA (zj (by apply zR_;exact (zV (zi (p:=⟨gb291,1,none⟩) (zi (p:=⟨gb291,0,none⟩) (Kd.R_types HO284.out BK291.out (by decide)) (fun _ hk=>hk.2) (.slice Ao30 t285.length co30)) (fun _ hk=>hk.2) (.slice Ao32 t288.length co32)) (fun _ h_=>h_.1))) hb);have n3_:=zA (zj (by apply zR_;exact (zV (zi (p:=⟨gb291,1,none⟩) (zi (p:=⟨gb291,0,none⟩) (Kd.R_types HO287.out BK291.out (by decide)) (fun _ hk=>hk.2) (.slice Ao30 t285.length co30)) (fun _ hk=>hk.2) (.slice Ao32 t288.length co32)) (fun _ h_=>h_.1))) hb);have n4_:=zA (zj (by apply zR_;exact (zV (zi (p:=⟨gb291,1,none⟩) (zi (p:=⟨gb291,0,none⟩) (Kd.R_types HO290.out BK291.out (by decide)) (fun _ hk=>hk.2) (.slice Ao30 t285.length co30)) (fun _ hk=>hk.2) (.slice Ao32 t288.length co32)) (fun _ h_=>h_.1))) hb);have n5_:=zA (zX (g:=gb270) (o:=.cells #[.slice A0_0 l0_0.length c0_0,.slice A0_1 l0_1.length c0_1] 33 (0,0)) (by (with_reducible repeat (first|refine zG ?_ _|refine zI ?_|refine zH ?_ _));refine blk_far ?_ NB270_291.out _;(with_reducible repeat (first|refine zG ?_ _|refine zI ?_|refine zH ?_ _));refine blk_far ?_ NB270_291.out _;(with_reducible repeat (first|refine zG ?_ _|refine zI ?_|refine zH ?_ _));exact BK270.out) hb);have n6_:=zA (zX (g:=gb271) (o:=.cells #[.slice none 0 0,.slice none 0 0] 33 (0,0)) (by (with_reducible repeat (first|refine zG ?_ _|refine zI ?_|refine zH ?_ _));refine blk_far ?_ NB271_291.out _;(with_reducible repeat (first|refine zG ?_ _|refine zI ?_|refine zH ?_ _));refine blk_far ?_ NB271_291.out _;(with_reducible repeat (first|refine zG ?_ _|refine zI ?_|refine zH ?_ _));exact BK271.out) hb);have n7_:=zA (zX (g:=gb281) (o:=.cells #[.slice Ao63 x282000_1.length co63,.slice Ao64 x282001_1.length co64] 33 (0,0)) (by (with_reducible repeat (first|refine zG ?_ _|refine zI ?_|refine zH ?_ _));refine blk_far ?_ NB281_291.out _;(with_reducible repeat (first|refine zG ?_ _|refine zI ?_|refine zH ?_ _));refine blk_far ?_ NB281_291.out _;(with_reducible repeat (first|refine zG ?_ _|refine zI ?_|refine zH ?_ _));exact BK281.out) hb);have n8_:=zA (zX (g:=gb291) (o:=.cells #[.slice Ao30 t285.length co30,.slice Ao32 t288.length co32] 33 (0,0)) (by (with_reducible repeat (first|refine zG ?_ _|refine zI ?_|refine zH ?_ _));refine blk_put (cs:=#[.slice Ao30 t285.length co30,.slice none 0 0]) ?_ 1 _ rfl;(with_reducible repeat (first|refine zG ?_ _|refine zI ?_|refine zH ?_ _));refine blk_put (cs:=#[.slice none 0 0,.slice none 0 0]) ?_ 0 _ rfl;(with_reducible repeat (first|refine zG ?_ _|refine zI ?_|refine zH ?_ _));exact BK291.out) hb);have n9_:=zA (zR (by repeat (first|(with_reducible first|exact HB.out|apply zD|apply zB|apply zC|refine zF ?_ GE270.out|refine zF ?_ GE271.out|refine zF ?_ GE281.out|refine zF ?_ GE291.out)|exact HB.out)) hb);clear HO_282000;clear HO_282001;clear HO284;clear HO287;clear HO290;clear BK270;clear BK271;clear BK281;clear BK291;clear HB;have HO_282000:=n0_;have HO_282001:=n1_;have HO284:=n2_;have HO287:=n3_;have HO290:=n4_;have BK270:=n5_;have BK271:=n6_;have BK281:=n7_;have BK291:=n8_;have HB:=n9_;clear n0_ n1_ n2_ n3_ n4_ n5_ n6_ n7_ n8_ n9_;(try clear hb);(try clear hb2);(try clear hk);(try clear hi)))
     go_roundg k1
     case measure=>have:=HK1.out;omega
     case rel=>exact ⟨(wrap64 (x13_1+1)),(x282000_1),(x282001_1),(.slice Ao63 x282000_1.length co63),(.slice Ao64 x282001_1.length co64),(by first|rfl|(simp;done)|(simp [*];done)),H',⟨by have:=HK1.out;omega⟩,⟨by apply zR_;exact zV HO_282000.out (fun _ hk=>hk.2.2.2)⟩,⟨by apply zR_;exact zV HO_282001.out (fun _ hk=>hk.2.2.2)⟩,⟨by (with_reducible repeat (first|refine zG ?_ _|refine zI ?_|refine zH ?_ _));exact BK270.out⟩,⟨by (with_reducible repeat (first|refine zG ?_ _|refine zI ?_|refine zH ?_ _));exact BK271.out⟩,⟨by (with_reducible repeat (first|refine zG ?_ _|refine zI ?_|refine zH ?_ _));exact BK281.out⟩,⟨by repeat (first|(with_reducible first|exact HB.out|apply zD|apply zB|apply zC|refine zF ?_ GE270.out|refine zF ?_ GE271.out|refine zF ?_ GE281.out|refine zF ?_ GE291.out)|exact HB.out)⟩⟩
   ·rw [if_neg c19] at H
    have c19b0:decide (x13_1 < (l0_0.length:Int)) = false:=zP c19
    clear c19
    simp only [Option.some.injEq,Prod.mk.injEq] at H
    obtain ⟨rfl,rfl⟩:=H
    have hnb66:=NB281_270.out
    have hnc66:=NB270_281.out
    have hnb67:=NB281_271.out
    have hnc67:=NB271_281.out
    have hcz68_0:wr.cell? ⟨gb281,0,none⟩ = some (u282000):=(zT BK281.out 0).trans rfl
    have hcz68_1:wr.cell? ⟨gb281,1,none⟩ = some (u282001):=(zT BK281.out 1).trans rfl
    have hfz68_0:=zZ BK281.out 0
    have hfz68_1:=zZ BK281.out 1
    obtain ⟨Ao69,co69,eo69⟩:=zg HO_282000.out
    subst eo69
    have hnb70:=NB271_270.out
    have hnc70:=NB270_271.out
    have hcz71_0:wr.cell? ⟨gb271,0,none⟩ = some (.slice none 0 0):=(zT BK271.out 0).trans rfl
    have hcz71_1:wr.cell? ⟨gb271,1,none⟩ = some (.slice none 0 0):=(zT BK271.out 1).trans rfl
    have hfz71_0:=zZ BK271.out 0
    have hfz71_1:=zZ BK271.out 1
    obtain ⟨Ao72,co72,eo72⟩:=zg HO_282001.out
    subst eo72
    go_wp2
    refine bodyPost_ret (results_cell_row rfl _ _ gb271 33 #[.slice Ao69 x282000_1.length co69,.slice Ao72 x282001_1.length co72] (0,0) _ rfl (by (with_reducible repeat (first|refine zG ?_ _|refine zI ?_|refine zH ?_ _));refine blk_put (cs:=#[.slice Ao69 x282000_1.length co69,.slice none 0 0]) ?_ 1 _ rfl;(with_reducible repeat (first|refine zG ?_ _|refine zI ?_|refine zH ?_ _));refine blk_put (cs:=#[.slice none 0 0,.slice none 0 0]) ?_ 0 _ rfl;(with_reducible repeat (first|refine zG ?_ _|refine zI ?_|refine zH ?_ _));exact BK271.out) Try.underlying33 rfl (by kernel_rfl)) rfl ?_
    exact ⟨_,_,by first|rfl|(simp [errW_none,errW_some] <;> rfl)|(simp [*,errW_none,errW_some] <;> rfl),by apply zR_;exact zV (zi (p:=⟨gb271,1,none⟩) (zi (p:=⟨gb271,0,none⟩) (Kd.R_types HO_282000.out BK271.out (by decide)) (fun _ hk=>hk.2) (.slice Ao69 x282000_1.length co69)) (fun _ hk=>hk.2) (.slice Ao72 x282001_1.length co72)) (fun _ hk=>hk.1),by apply zR_;exact zV (zi (p:=⟨gb271,1,none⟩) (zi (p:=⟨gb271,0,none⟩) (Kd.R_types HO_282001.out BK271.out (by decide)) (fun _ hk=>hk.2) (.slice Ao69 x282000_1.length co69)) (fun _ hk=>hk.2) (.slice Ao72 x282001_1.length co72)) (fun _ hk=>hk.1),by repeat (first|(with_reducible first|exact HB.out|apply zD|apply zB|apply zC|refine zF ?_ GE270.out|refine zF ?_ GE271.out|refine zF ?_ GE281.out)|exact HB.out)⟩

end Go.Proofs.Ytdaiohcgdpclnaa.Q
