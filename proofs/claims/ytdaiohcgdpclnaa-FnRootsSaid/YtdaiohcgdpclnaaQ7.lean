import Derived.Test.YtdaiohcgdpclnaaQ0
import Derived.Test.YtdaiohcgdpclnaaQ1
import Derived.Test.YtdaiohcgdpclnaaQ13
import Derived.Test.YtdaiohcgdpclnaaQ3
import Derived.Test.YtdaiohcgdpclnaaQ4
import Derived.Test.YtdaiohcgdpclnaaQ6
import Derived.Test.YtdaiohcgdpclnaaZ
namespace Go.Proofs.Ytdaiohcgdpclnaa.Q
open Go.RowKit Go.Proofs.YtdaiohcgdpclnaaW.PrintWords Go.Proofs.YtdaiohcgdpclnaaW.PrintLast Go.Proofs.YtdaiohcgdpclnaaW.PrintMore
attribute [local go_sem] max2_int min2_int max_two min_two max_three min_three max_four min_four   -- for this text's walks alone
set_option linter.unusedVariables false
set_option linter.unusedSimpArgs false

/-! ### impl_MapTurns: function 53 -/
def impl_MapTurns.l0:Nat→Int→Int→Int→List Int→List Int→List Int→List Int→Option (Int)
 | 0,_,_,_,_,_,_,_=>none
 | k+1,x4,x15,x16,x312000,x312001,x323000,x323001=>if x16 < x15 then ((impl_namesFrom.f k x312000 x312001 x16).bind fun t323=>((impl_renamed.f k x312000 x312001 t323).bind fun bt326=>((impl_compareMaps.f k bt326.1 bt326.2 x323000 x323001).bind fun t332=>(if t332 = 0 then (impl_MapTurns.l0 k (wrap64 (x4+1)) x15 (wrap64 (x16+1)) x312000 x312001 x323000 x323001) else (impl_MapTurns.l0 k x4 x15 (wrap64 (x16+1)) x312000 x312001 x323000 x323001))))) else (some x4)
def impl_MapTurns.f (k:Nat) (l0_0:List Int) (l0_1:List Int):Option (Int):=(impl_MapValid.f k l0_0 l0_1).bind fun t312=>(if t312 = true then ((impl_namesFrom.f k l0_0 l0_1 0).bind fun t313=>((impl_renamed.f k l0_0 l0_1 t313).bind fun bt316=>(impl_MapTurns.l0 k 0 (l0_0.length:Int) 0 l0_0 l0_1 bt316.1 bt316.2))) else (some (-1)))
theorem impl_MapTurns.mono_l:∀ k,(∀ y0 y1 y2 y3 y4 y5 y6,LeO (impl_MapTurns.l0 k y0 y1 y2 y3 y4 y5 y6) (impl_MapTurns.l0 (k+1) y0 y1 y2 y3 y4 y5 y6))
 | 0=>fun _ _ _ _ _ _ _ r h=>by simp [impl_MapTurns.l0] at h
 | k+1=>by
  have ih0:=impl_MapTurns.mono_l k
  ·intro y0 y1 y2 y3 y4 y5 y6
   unfold impl_MapTurns.l0
   repeat' first
   | (with_reducible exact ih0 _ _ _ _ _ _ _)
   | (with_reducible exact impl_MapValid.mono _ _ _)
   | (with_reducible exact impl_compareMaps.mono _ _ _ _ _)
   | (with_reducible exact impl_namesFrom.mono _ _ _ _)
   | (with_reducible exact impl_renamed.mono _ _ _ _)
   | (with_reducible exact LeO.refl _)
   | (with_reducible exact za _)
   | (with_reducible refine zc ?_ ?_)
   | (with_reducible refine zb ?_ (fun _=>?_))
theorem impl_MapTurns.mono:∀ a0 a1 k,LeO (impl_MapTurns.f k a0 a1) (impl_MapTurns.f (k+1) a0 a1):=by
 intro a0 a1 k
 have ih0:=impl_MapTurns.mono_l k
 unfold impl_MapTurns.f
 repeat' first
   | (with_reducible exact ih0 _ _ _ _ _ _ _)
   | (with_reducible exact impl_MapValid.mono _ _ _)
   | (with_reducible exact impl_compareMaps.mono _ _ _ _ _)
   | (with_reducible exact impl_namesFrom.mono _ _ _ _)
   | (with_reducible exact impl_renamed.mono _ _ _ _)
   | (with_reducible exact LeO.refl _)
   | (with_reducible exact za _)
   | (with_reducible refine zc ?_ ?_)
   | (with_reducible refine zb ?_ (fun _=>?_))
def impl_MapTurns.T7:Bool × List (List Nat × List Nat):=(true,[([],[]),([],[]),([],[]),([1,2],[1,2]),([0,3,3],[0,3]),([],[]),([4,5,4],[4,5]),([6],[6])])
def impl_MapTurns.B7:List Nat:=[0,0,0,6,15,0,63,127]
theorem impl_MapTurns.tab7:rtab .any (opsOf Try.f53 7) = impl_MapTurns.T7:=by kernel_rfl
theorem impl_MapTurns.bits7:waitsOk impl_MapTurns.T7.2 impl_MapTurns.B7 = true:=by kernel_rfl
set_option maxHeartbeats 8000000 in
set_option maxRecDepth 100000 in
theorem impl_MapTurns.calls (k:Nat) (A0_0:Option Addr) (c0_0:Nat) (l0_0:List Int) (A0_1:Option Addr) (c0_1:Nat) (l0_1:List Int) (r:Int) (w:World) (hr0_0:Kd.C (Kd.int .i64) w A0_0 l0_0.length l0_0) (hc0_0:l0_0.length≤c0_0) (hr0_1:Kd.C (Kd.int .i64) w A0_1 l0_1.length l0_1) (hc0_1:l0_1.length≤c0_1) (h:impl_MapTurns.f k l0_0 l0_1 = some r) :
  Calls Try.prog 53 #[.agg #[.slice A0_0 l0_0.length c0_0,.slice A0_1 l0_1.length c0_1]] w fun e w'=>e = .returned (.int .i64 r)∧Below w.heap.size w w':=by
 have hu33:=Try.underlying33
 have HR0_0:=zA hr0_0
 have HC0_0:=zA hc0_0
 clear hr0_0 hc0_0
 have HR0_1:=zA hr0_1
 have HC0_1:=zA hc0_1
 clear hr0_1 hc0_1
 have HB:=zA (Below.refl w.heap.size w)
 have H:((impl_MapValid.f k l0_0 l0_1).bind fun t312=>(if t312 = true then ((impl_namesFrom.f k l0_0 l0_1 0).bind fun t313=>((impl_renamed.f k l0_0 l0_1 t313).bind fun bt316=>(impl_MapTurns.l0 k 0 (l0_0.length:Int) 0 l0_0 l0_1 bt316.1 bt316.2))) else (some (-1)))) = some r:=h
 clear h
 replace H:=zz0 H
 obtain ⟨t312,A20,H⟩:=H
 try dsimp only at H
 have A2:=zA A20
 clear A20
 by_cases c3:t312 = true
 ·subst c3
  rw [if_pos rfl] at H;try dsimp only at H
  replace H:=zz0 H
  obtain ⟨t313,A40,H⟩:=H
  try dsimp only at H
  have A4:=zA A40
  clear A40
  replace H:=zz0 H
  obtain ⟨⟨t316,t319⟩,A50,H⟩:=H
  try dsimp only at H
  have A5:=zA A50
  clear A50
  have H':=zA H
  clear H
  go_enter Try.func53,Try.ntmps53
  try go_wp2_with (first|((with_reducible refine gate_dst (N:=1) rfl ?_);refine box_event ?hg (N:=1) ?hd (cs:=#[.slice A0_0 l0_0.length c0_0,.slice A0_1 l0_1.length c0_1]) (t:=33) ?hr ?_;(case hd=>rfl);(case hg=>rfl);(case hr=>first|(go_simp;done)|(go_simp;rfl));intro gb311 hg w6 hbox hb;have n0_:=zA (zR (by exact zB_ HB.out) hb);have n1_:=zA (hbox);have n2_:=zA ((by rw [hg];exact (zQ (by exact zB_ HB.out)):w.heap.size≤gb311));have n3_:=zA ((by rw [hg];exact (zQ (by exact zB_ HB.out)):w.heap.size≤gb311));clear HB;have HB:=n0_;have BK311:=n1_;have GW311:=n2_;have GE311:=n3_;clear n0_ n1_ n2_ n3_;clear hb hbox hg;have hcz7_0:w6.cell? ⟨gb311,0,none⟩ = some (.slice A0_0 l0_0.length c0_0):=(zT BK311.out 0).trans rfl;have hcz7_1:w6.cell? ⟨gb311,1,none⟩ = some (.slice A0_1 l0_1.length c0_1):=(zT BK311.out 1).trans rfl;have hfz7_0:=zZ BK311.out 0;have hfz7_1:=zZ BK311.out 1)|((with_reducible refine gate_callee (f:=46) rfl ?_);refine goesL_ (some 7) rfl rfl Try.func46 (by kernel_rfl) rfl #[.agg #[.slice A0_0 l0_0.length c0_0,.slice A0_1 l0_1.length c0_1]] rfl (by (try simp only [zJ,zM,zN]);first|done|rfl|(simp only [zL,zK];rfl)) ?_;(with_reducible refine (impl_MapValid.calls k (fun k_=>k_ < w.heap.size) _ _ l0_0 (fun k_=>k_ < w.heap.size) _ _ l0_1 true _ ?side1 ?side2 A2.out).mono ?_);(case side1=>exact Kd.V_mk HC0_0.out (Kd.F_below (Kd.C_F (Kd.heap_int .i64) HR0_0.out) (by repeat (first|(with_reducible first|exact HB.out|apply zD|apply zB|apply zC|refine zF ?_ GE311.out)|exact HB.out))));(case side2=>exact Kd.V_mk HC0_1.out (Kd.F_below (Kd.C_F (Kd.heap_int .i64) HR0_1.out) (by repeat (first|(with_reducible first|exact HB.out|apply zD|apply zB|apply zC|refine zF ?_ GE311.out)|exact HB.out))));rintro e w8 ⟨rfl,hb⟩;refine ⟨_,rfl,?_⟩;have n0_:=zA (zX (g:=gb311) (o:=.cells #[.slice A0_0 l0_0.length c0_0,.slice A0_1 l0_1.length c0_1] 33 (0,0)) (by (with_reducible repeat (first|refine zG ?_ _|refine zI ?_|refine zH ?_ _));exact BK311.out) hb);have n1_:=zA (zR (by repeat (first|(with_reducible first|exact HB.out|apply zD|apply zB|apply zC|refine zF ?_ GE311.out)|exact HB.out)) hb);clear BK311;clear HB;have BK311:=n0_;have HB:=n1_;clear n0_ n1_;(try clear hb);(try clear hb2);(try clear hk);(try clear hi)))
  have n0_:=zA (zI BK311.out)
  have n1_:=zA (zC HB.out)
  clear BK311 HB
  have BK311:=n0_
  have HB:=n1_
  clear n0_ n1_
  refine start_ (n:=7) (S:=fun w'=>w'.cell? ⟨gb311,0,none⟩ = some (.slice A0_0 l0_0.length c0_0)∧w'.cell? ⟨gb311,1,none⟩ = some (.slice A0_1 l0_1.length c0_1)) (ds:=[]) #[zf,zf,zf,zf,zf,zf,zf] (by kernel_rfl) rfl rfl ⟨(zT BK311.out 0).trans rfl,(zT BK311.out 1).trans rfl⟩ (fun hHeld=>?_)
  generalize w8.drew = w9 at BK311 HB hHeld ⊢
  refine take_ (i:=0) (N:=some 9) (v:=?_) (a':=?_) #[zt,zf,zf,zf,zf,zf,zf] rfl rfl (by kernel_rfl) (fun _ _ _ h=>h) (Or.inl ⟨by rfl,?_⟩) hHeld ?_ ?_
  rotate_left
  ·rintro w' ⟨s0,s1⟩
   go_simp
   with_reducible rfl
  rotate_left
  ·simp only [Act.put,zP_,i64_w]
   rfl
  refine take_ (i:=1) (N:=some 10) (v:=?_) (a':=?_) #[zt,zt,zf,zf,zf,zf,zf] rfl rfl (by kernel_rfl) (fun _ _ _ h=>h) (Or.inl ⟨by rfl,?_⟩) hHeld ?_ ?_
  rotate_left
  ·rintro w' ⟨s0,s1⟩
   go_simp
   with_reducible rfl
  rotate_left
  ·simp only [Act.put,zP_,i64_w]
   rfl
  refine join_ (σ:=Value × Value × Value × Nat) 2 #[zt,zt,zt,zt,zt,zf,zf] (fun s_=>[(11,s_.1),(12,.agg #[s_.2.1,s_.2.2.1]),(3,.pointer (some ⟨s_.2.2.2,0,none⟩))]) (fun s_ w'=>(w'.cell? ⟨gb311,0,none⟩ = some (.slice A0_0 l0_0.length c0_0)∧w'.cell? ⟨gb311,1,none⟩ = some (.slice A0_1 l0_1.length c0_1))∧(Kd.R (Kd.int .i64) 3 w' w.heap.size (fun k_=>some k_≠(s_.2.1:Value).ownBlock∧some k_≠(s_.2.2.1:Value).ownBlock) s_.1 t313)∧(Kd.R (Kd.int .i64) 3 w' w.heap.size (fun k_=>some k_≠(s_.1:Value).ownBlock∧some k_≠(s_.2.2.1:Value).ownBlock) s_.2.1 t316)∧(Kd.R (Kd.int .i64) 3 w' w.heap.size (fun k_=>some k_≠(s_.1:Value).ownBlock∧some k_≠(s_.2.1:Value).ownBlock) s_.2.2.1 t319)∧(w'.heap[gb311]? = some (.cells #[.slice A0_0 l0_0.length c0_0,.slice A0_1 l0_1.length c0_1] 33 (0,0)))∧(w'.heap[s_.2.2.2]? = some (.cells #[.slice none 0 0,.slice none 0 0] 33 (0,0)))∧(w.heap.size≤s_.2.2.2)∧(w.heap.size≤s_.2.2.2)∧(gb311≠s_.2.2.2)∧(s_.2.2.2≠gb311)∧(Below w.heap.size w w')) ?_ ?_
  rotate_left
  ·intro hCont
   refine two_ (i:=2) (j:=4) (Ni:=some 11) (Nj:=some 3) #[zt,zt,zt,zf,zf,zf,zf] #[zt,zt,zf,zf,zt,zf,zf] rfl rfl rfl rfl (by kernel_rfl) (by decide) (by decide) (fun K hK=>?_) (fun K hK=>?_)
   ·skip
    refine goes_ Try.func48 (by kernel_rfl) rfl #[.agg #[.slice A0_0 l0_0.length c0_0,.slice A0_1 l0_1.length c0_1],.int .i64 0] (by rfl) rfl rfl (by (try simp only [zJ,zM,zN]);first|done|rfl|(simp only [zL,zK];rfl)) ?_
    with_reducible refine (impl_namesFrom.calls k _ _ l0_0 _ _ l0_1 0 t313 _ ?side1 ?side2 ?side3 ?side4 A4.out).mono ?_
    (case side1=>repeat (first|exact (zW HR0_0.out HB.out)|(with_reducible exact HR0_0.out)|apply zC_))
    (case side2=>exact HC0_0.out)
    (case side3=>repeat (first|exact (zW HR0_1.out HB.out)|(with_reducible exact HR0_1.out)|apply zC_))
    (case side4=>exact HC0_1.out)
    rintro e w10 ⟨v314,rfl,ho0,hb⟩
    refine ⟨_,rfl,?_⟩
    have n0_:=zA (ze ho0 (zQ (by repeat (first|(with_reducible first|exact HB.out|apply zD|apply zB|apply zC|refine zF ?_ GE311.out)|exact HB.out))))
    have n1_:=zA (zX (g:=gb311) (o:=.cells #[.slice A0_0 l0_0.length c0_0,.slice A0_1 l0_1.length c0_1] 33 (0,0)) (by (with_reducible repeat (first|refine zG ?_ _|refine zI ?_|refine zH ?_ _));exact BK311.out) hb)
    have n2_:=zA (zR (by repeat (first|(with_reducible first|exact HB.out|apply zD|apply zB|apply zC|refine zF ?_ GE311.out)|exact HB.out)) hb)
    clear BK311 HB
    have HO315:=n0_
    have BK311:=n1_
    have HB:=n2_
    clear n0_ n1_ n2_
    (try clear hb);(try clear hb2);(try clear hk);(try clear hi);(try clear ho0)
    obtain ⟨Ao11,co11,eo11⟩:=zg HO315.out
    (first|subst eo11|(injection eo11 with f1_ f2_ f3_;have f4_:=f1_.symm;have f5_:=f3_.symm;clear f1_ f2_ f3_;subst f4_;subst f5_))
    refine hK.out _ _ ⟨(zT BK311.out 0).trans rfl,(zT BK311.out 1).trans rfl⟩ (fun hHeld=>?_)
    clear hK K
    refine norm_ (a':=?_) ?_ ?_
    rotate_left
    ·show Act.put _ (some 11) _ = _
     simp only [Act.put,zP_,i64_w]
     rfl
    refine two_ (i:=3) (j:=4) (Ni:=some 12) (Nj:=some 3) #[zt,zt,zt,zt,zf,zf,zf] #[zt,zt,zt,zf,zt,zf,zf] rfl rfl rfl rfl (by kernel_rfl) (by decide) (by decide) (fun K hK=>?_) (fun K hK=>?_)
    ·skip
     refine goes_ Try.func47 (by kernel_rfl) rfl #[.agg #[.slice A0_0 l0_0.length c0_0,.slice A0_1 l0_1.length c0_1],.slice Ao11 t313.length co11] (by rfl) rfl rfl (by (try simp only [zJ,zM,zN]);first|done|rfl|(simp only [zL,zK];rfl)) ?_
     with_reducible refine (impl_renamed.calls k _ _ l0_0 _ _ l0_1 _ _ t313 t316 t319 _ ?side1 ?side2 ?side3 ?side4 ?side5 ?side6 A5.out).mono ?_
     (case side1=>repeat (first|exact (zW HR0_0.out HB.out)|(with_reducible exact HR0_0.out)|apply zC_))
     (case side2=>exact HC0_0.out)
     (case side3=>repeat (first|exact (zW HR0_1.out HB.out)|(with_reducible exact HR0_1.out)|apply zC_))
     (case side4=>exact HC0_1.out)
     (case side5=>repeat (first|exact (zU HO315.out).2.2|apply zC_))
     (case side6=>exact (zU HO315.out).2.1)
     rintro e w12 ⟨v317,v320,rfl,ho0,ho1,hb⟩
     refine ⟨_,rfl,?_⟩
     have n0_:=zA (zV (Kd.R_told (Kd.R_told (Kd.R_old (by apply zR_;exact HO315.out) hb) (zd ho0)) (zd ho1)) (fun _ h_=>h_.1))
     have n1_:=zA (ze (zh ho0 (Kd.R_lt (by apply zR_;exact HO315.out))) (zQ (by repeat (first|(with_reducible first|exact HB.out|apply zD|apply zB|apply zC|refine zF ?_ GE311.out)|exact HB.out))))
     have n2_:=zA (ze (zh ho1 (Kd.R_lt (by apply zR_;exact HO315.out))) (zQ (by repeat (first|(with_reducible first|exact HB.out|apply zD|apply zB|apply zC|refine zF ?_ GE311.out)|exact HB.out))))
     have n3_:=zA (zX (g:=gb311) (o:=.cells #[.slice A0_0 l0_0.length c0_0,.slice A0_1 l0_1.length c0_1] 33 (0,0)) (by (with_reducible repeat (first|refine zG ?_ _|refine zI ?_|refine zH ?_ _));exact BK311.out) hb)
     have n4_:=zA (zR (by repeat (first|(with_reducible first|exact HB.out|apply zD|apply zB|apply zC|refine zF ?_ GE311.out)|exact HB.out)) hb)
     clear HO315 BK311 HB
     have HO315:=n0_
     have HO318:=n1_
     have HO321:=n2_
     have BK311:=n3_
     have HB:=n4_
     clear n0_ n1_ n2_ n3_ n4_
     (try clear hb);(try clear hb2);(try clear hk);(try clear hi);(try clear ho0);(try clear ho1)
     refine hK.out _ _ ⟨(zT BK311.out 0).trans rfl,(zT BK311.out 1).trans rfl⟩ (fun hHeld=>?_)
     clear hK K
     refine norm_ (a':=?_) ?_ ?_
     rotate_left
     ·show Act.put _ (some 12) _ = _
      simp only [Act.put,zP_,i64_w]
      rfl
     refine one_ (i:=4) (N:=some 3) #[zt,zt,zt,zt,zt,zf,zf] rfl rfl (by kernel_rfl) (by decide) (fun K hK=>?_)
     refine box_step ?hg (N:=3) ?hd (cs:=#[.slice none 0 0,.slice none 0 0]) (t:=33) ?hr ?_;(case hd=>rfl);(case hg=>rfl);(case hr=>first|(go_simp;done)|(go_simp;rfl))
     intro gb322 hg w13 hbox hb
     have n0_:=zA (zj (by apply zR_;exact HO315.out) hb)
     have n1_:=zA (zj (by apply zR_;exact HO318.out) hb)
     have n2_:=zA (zj (by apply zR_;exact HO321.out) hb)
     have n3_:=zA (zX (g:=gb311) (o:=.cells #[.slice A0_0 l0_0.length c0_0,.slice A0_1 l0_1.length c0_1] 33 (0,0)) (by (with_reducible repeat (first|refine zG ?_ _|refine zI ?_|refine zH ?_ _));exact BK311.out) hb)
     have n4_:=zA (zR (by repeat (first|(with_reducible first|exact HB.out|apply zD|apply zB|apply zC|refine zF ?_ GE311.out)|exact HB.out)) hb)
     have n5_:=zA (hbox)
     have n6_:=zA ((by rw [hg];exact (zQ (by repeat (first|(with_reducible first|exact HB.out|apply zD|apply zB|apply zC|refine zF ?_ GE311.out)|exact HB.out))):w.heap.size≤gb322))
     have n7_:=zA ((by rw [hg];exact (zQ (by repeat (first|(with_reducible first|exact HB.out|apply zD|apply zB|apply zC|refine zF ?_ GE311.out)|exact HB.out))):w.heap.size≤gb322))
     have n8_:=zA ((by rw [hg];exact Nat.ne_of_lt (blk_lt (g:=gb311) (o:=.cells #[.slice A0_0 l0_0.length c0_0,.slice A0_1 l0_1.length c0_1] 33 (0,0)) (by (with_reducible repeat (first|refine zG ?_ _|refine zI ?_|refine zH ?_ _));exact BK311.out)):gb311≠gb322))
     have n9_:=zA ((by rw [hg];exact Nat.ne_of_gt (blk_lt (g:=gb311) (o:=.cells #[.slice A0_0 l0_0.length c0_0,.slice A0_1 l0_1.length c0_1] 33 (0,0)) (by (with_reducible repeat (first|refine zG ?_ _|refine zI ?_|refine zH ?_ _));exact BK311.out)):gb322≠gb311))
     clear HO315 HO318 HO321 BK311 HB
     have HO315:=n0_
     have HO318:=n1_
     have HO321:=n2_
     have BK311:=n3_
     have HB:=n4_
     have BK322:=n5_
     have GW322:=n6_
     have GE322:=n7_
     have NB311_322:=n8_
     have NB322_311:=n9_
     clear n0_ n1_ n2_ n3_ n4_ n5_ n6_ n7_ n8_ n9_ hb hbox hg
     refine hK.out _ _ ⟨(zT BK311.out 0).trans rfl,(zT BK311.out 1).trans rfl⟩ (fun hHeld=>?_)
     clear hK K
     refine norm_ (a':=?_) ?_ ?_
     rotate_left
     ·show Act.put _ (some 3) _ = _
      simp only [Act.put,zP_,i64_w]
      rfl
     exact norm_ (by simp only [putAll,Act.put,List.setIfInBounds_toArray,List.set_cons_zero,List.set_cons_succ]) (hCont (.slice Ao11 t313.length co11,v317,v320,gb322) _ ⟨hHeld,(by apply zR_;exact zV HO315.out (fun _ hk=>⟨hk.1.2,hk.2⟩)),(by apply zR_;exact zV HO318.out (fun _ hk=>⟨hk.2,hk.1⟩)),(by apply zR_;exact zV HO321.out (fun _ hk=>⟨hk.2,hk.1⟩)),(by (with_reducible repeat (first|refine zG ?_ _|refine zI ?_|refine zH ?_ _));exact BK311.out),(by (with_reducible repeat (first|refine zG ?_ _|refine zI ?_|refine zH ?_ _));exact BK322.out),GW322.out,GE322.out,NB311_322.out,NB322_311.out,(by repeat (first|(with_reducible first|exact HB.out|apply zD|apply zB|apply zC|refine zF ?_ GE311.out|refine zF ?_ GE322.out)|exact HB.out))⟩)
    ·skip
     refine box_step ?hg (N:=3) ?hd (cs:=#[.slice none 0 0,.slice none 0 0]) (t:=33) ?hr ?_;(case hd=>rfl);(case hg=>rfl);(case hr=>first|(go_simp;done)|(go_simp;rfl))
     intro gb322 hg w11 hbox hb
     have n0_:=zA (zj (by apply zR_;exact HO315.out) hb)
     have n1_:=zA (zX (g:=gb311) (o:=.cells #[.slice A0_0 l0_0.length c0_0,.slice A0_1 l0_1.length c0_1] 33 (0,0)) (by (with_reducible repeat (first|refine zG ?_ _|refine zI ?_|refine zH ?_ _));exact BK311.out) hb)
     have n2_:=zA (zR (by repeat (first|(with_reducible first|exact HB.out|apply zD|apply zB|apply zC|refine zF ?_ GE311.out)|exact HB.out)) hb)
     have n3_:=zA (hbox)
     have n4_:=zA ((by rw [hg];exact (zQ (by repeat (first|(with_reducible first|exact HB.out|apply zD|apply zB|apply zC|refine zF ?_ GE311.out)|exact HB.out))):w.heap.size≤gb322))
     have n5_:=zA ((by rw [hg];exact (zQ (by repeat (first|(with_reducible first|exact HB.out|apply zD|apply zB|apply zC|refine zF ?_ GE311.out)|exact HB.out))):w.heap.size≤gb322))
     have n6_:=zA ((by rw [hg];exact Nat.ne_of_lt (blk_lt (g:=gb311) (o:=.cells #[.slice A0_0 l0_0.length c0_0,.slice A0_1 l0_1.length c0_1] 33 (0,0)) (by (with_reducible repeat (first|refine zG ?_ _|refine zI ?_|refine zH ?_ _));exact BK311.out)):gb311≠gb322))
     have n7_:=zA ((by rw [hg];exact Nat.ne_of_gt (blk_lt (g:=gb311) (o:=.cells #[.slice A0_0 l0_0.length c0_0,.slice A0_1 l0_1.length c0_1] 33 (0,0)) (by (with_reducible repeat (first|refine zG ?_ _|refine zI ?_|refine zH ?_ _));exact BK311.out)):gb322≠gb311))
     clear HO315 BK311 HB
     have HO315:=n0_
     have BK311:=n1_
     have HB:=n2_
     have BK322:=n3_
     have GW322:=n4_
     have GE322:=n5_
     have NB311_322:=n6_
     have NB322_311:=n7_
     clear n0_ n1_ n2_ n3_ n4_ n5_ n6_ n7_ hb hbox hg
     obtain ⟨Ao12,co12,eo12⟩:=zg HO315.out
     (first|subst eo12|(injection eo12 with f1_ f2_ f3_;have f4_:=f1_.symm;have f5_:=f3_.symm;clear f1_ f2_ f3_;subst f4_;subst f5_))
     refine hK.out _ _ ⟨(zT BK311.out 0).trans rfl,(zT BK311.out 1).trans rfl⟩ (fun hHeld=>?_)
     clear hK K
     refine norm_ (a':=?_) ?_ ?_
     rotate_left
     ·show Act.put _ (some 3) _ = _
      simp only [Act.put,zP_,i64_w]
      rfl
     refine one_ (i:=3) (N:=some 12) #[zt,zt,zt,zt,zt,zf,zf] rfl rfl (by kernel_rfl) (by decide) (fun K hK=>?_)
     refine goes_ Try.func47 (by kernel_rfl) rfl #[.agg #[.slice A0_0 l0_0.length c0_0,.slice A0_1 l0_1.length c0_1],.slice Ao12 t313.length co12] (by rfl) rfl rfl (by (try simp only [zJ,zM,zN]);first|done|rfl|(simp only [zL,zK];rfl)) ?_
     with_reducible refine (impl_renamed.calls k _ _ l0_0 _ _ l0_1 _ _ t313 t316 t319 _ ?side1 ?side2 ?side3 ?side4 ?side5 ?side6 A5.out).mono ?_
     (case side1=>repeat (first|exact (zW HR0_0.out HB.out)|(with_reducible exact HR0_0.out)|apply zC_))
     (case side2=>exact HC0_0.out)
     (case side3=>repeat (first|exact (zW HR0_1.out HB.out)|(with_reducible exact HR0_1.out)|apply zC_))
     (case side4=>exact HC0_1.out)
     (case side5=>repeat (first|exact (zU HO315.out).2.2|apply zC_))
     (case side6=>exact (zU HO315.out).2.1)
     rintro e w13 ⟨v317,v320,rfl,ho0,ho1,hb⟩
     refine ⟨_,rfl,?_⟩
     have n0_:=zA (zV (Kd.R_told (Kd.R_told (Kd.R_old (by apply zR_;exact HO315.out) hb) (zd ho0)) (zd ho1)) (fun _ h_=>h_.1))
     have n1_:=zA (ze (zh ho0 (Kd.R_lt (by apply zR_;exact HO315.out))) (zQ (by repeat (first|(with_reducible first|exact HB.out|apply zD|apply zB|apply zC|refine zF ?_ GE311.out|refine zF ?_ GE322.out)|exact HB.out))))
     have n2_:=zA (ze (zh ho1 (Kd.R_lt (by apply zR_;exact HO315.out))) (zQ (by repeat (first|(with_reducible first|exact HB.out|apply zD|apply zB|apply zC|refine zF ?_ GE311.out|refine zF ?_ GE322.out)|exact HB.out))))
     have n3_:=zA (zX (g:=gb311) (o:=.cells #[.slice A0_0 l0_0.length c0_0,.slice A0_1 l0_1.length c0_1] 33 (0,0)) (by (with_reducible repeat (first|refine zG ?_ _|refine zI ?_|refine zH ?_ _));exact BK311.out) hb)
     have n4_:=zA (zX (g:=gb322) (o:=.cells #[.slice none 0 0,.slice none 0 0] 33 (0,0)) (by (with_reducible repeat (first|refine zG ?_ _|refine zI ?_|refine zH ?_ _));exact BK322.out) hb)
     have n5_:=zA (zR (by repeat (first|(with_reducible first|exact HB.out|apply zD|apply zB|apply zC|refine zF ?_ GE311.out|refine zF ?_ GE322.out)|exact HB.out)) hb)
     clear HO315 BK311 BK322 HB
     have HO315:=n0_
     have HO318:=n1_
     have HO321:=n2_
     have BK311:=n3_
     have BK322:=n4_
     have HB:=n5_
     clear n0_ n1_ n2_ n3_ n4_ n5_
     (try clear hb);(try clear hb2);(try clear hk);(try clear hi);(try clear ho0);(try clear ho1)
     refine hK.out _ _ ⟨(zT BK311.out 0).trans rfl,(zT BK311.out 1).trans rfl⟩ (fun hHeld=>?_)
     clear hK K
     refine norm_ (a':=?_) ?_ ?_
     rotate_left
     ·show Act.put _ (some 12) _ = _
      simp only [Act.put,zP_,i64_w]
      rfl
     exact norm_ (by simp only [putAll,Act.put,List.setIfInBounds_toArray,List.set_cons_zero,List.set_cons_succ]) (hCont (.slice Ao12 t313.length co12,v317,v320,gb322) _ ⟨hHeld,(by apply zR_;exact zV HO315.out (fun _ hk=>⟨hk.1.2,hk.2⟩)),(by apply zR_;exact zV HO318.out (fun _ hk=>⟨hk.2,hk.1⟩)),(by apply zR_;exact zV HO321.out (fun _ hk=>⟨hk.2,hk.1⟩)),(by (with_reducible repeat (first|refine zG ?_ _|refine zI ?_|refine zH ?_ _));exact BK311.out),(by (with_reducible repeat (first|refine zG ?_ _|refine zI ?_|refine zH ?_ _));exact BK322.out),GW322.out,GE322.out,NB311_322.out,NB322_311.out,(by repeat (first|(with_reducible first|exact HB.out|apply zD|apply zB|apply zC|refine zF ?_ GE311.out|refine zF ?_ GE322.out)|exact HB.out))⟩)
   ·skip
    refine box_step ?hg (N:=3) ?hd (cs:=#[.slice none 0 0,.slice none 0 0]) (t:=33) ?hr ?_;(case hd=>rfl);(case hg=>rfl);(case hr=>first|(go_simp;done)|(go_simp;rfl))
    intro gb322 hg w10 hbox hb
    have n0_:=zA (zX (g:=gb311) (o:=.cells #[.slice A0_0 l0_0.length c0_0,.slice A0_1 l0_1.length c0_1] 33 (0,0)) (by (with_reducible repeat (first|refine zG ?_ _|refine zI ?_|refine zH ?_ _));exact BK311.out) hb)
    have n1_:=zA (zR (by repeat (first|(with_reducible first|exact HB.out|apply zD|apply zB|apply zC|refine zF ?_ GE311.out)|exact HB.out)) hb)
    have n2_:=zA (hbox)
    have n3_:=zA ((by rw [hg];exact (zQ (by repeat (first|(with_reducible first|exact HB.out|apply zD|apply zB|apply zC|refine zF ?_ GE311.out)|exact HB.out))):w.heap.size≤gb322))
    have n4_:=zA ((by rw [hg];exact (zQ (by repeat (first|(with_reducible first|exact HB.out|apply zD|apply zB|apply zC|refine zF ?_ GE311.out)|exact HB.out))):w.heap.size≤gb322))
    have n5_:=zA ((by rw [hg];exact Nat.ne_of_lt (blk_lt (g:=gb311) (o:=.cells #[.slice A0_0 l0_0.length c0_0,.slice A0_1 l0_1.length c0_1] 33 (0,0)) (by (with_reducible repeat (first|refine zG ?_ _|refine zI ?_|refine zH ?_ _));exact BK311.out)):gb311≠gb322))
    have n6_:=zA ((by rw [hg];exact Nat.ne_of_gt (blk_lt (g:=gb311) (o:=.cells #[.slice A0_0 l0_0.length c0_0,.slice A0_1 l0_1.length c0_1] 33 (0,0)) (by (with_reducible repeat (first|refine zG ?_ _|refine zI ?_|refine zH ?_ _));exact BK311.out)):gb322≠gb311))
    clear BK311 HB
    have BK311:=n0_
    have HB:=n1_
    have BK322:=n2_
    have GW322:=n3_
    have GE322:=n4_
    have NB311_322:=n5_
    have NB322_311:=n6_
    clear n0_ n1_ n2_ n3_ n4_ n5_ n6_ hb hbox hg
    refine hK.out _ _ ⟨(zT BK311.out 0).trans rfl,(zT BK311.out 1).trans rfl⟩ (fun hHeld=>?_)
    clear hK K
    refine norm_ (a':=?_) ?_ ?_
    rotate_left
    ·show Act.put _ (some 3) _ = _
     simp only [Act.put,zP_,i64_w]
     rfl
    refine one_ (i:=2) (N:=some 11) #[zt,zt,zt,zf,zt,zf,zf] rfl rfl (by kernel_rfl) (by decide) (fun K hK=>?_)
    refine goes_ Try.func48 (by kernel_rfl) rfl #[.agg #[.slice A0_0 l0_0.length c0_0,.slice A0_1 l0_1.length c0_1],.int .i64 0] (by rfl) rfl rfl (by (try simp only [zJ,zM,zN]);first|done|rfl|(simp only [zL,zK];rfl)) ?_
    with_reducible refine (impl_namesFrom.calls k _ _ l0_0 _ _ l0_1 0 t313 _ ?side1 ?side2 ?side3 ?side4 A4.out).mono ?_
    (case side1=>repeat (first|exact (zW HR0_0.out HB.out)|(with_reducible exact HR0_0.out)|apply zC_))
    (case side2=>exact HC0_0.out)
    (case side3=>repeat (first|exact (zW HR0_1.out HB.out)|(with_reducible exact HR0_1.out)|apply zC_))
    (case side4=>exact HC0_1.out)
    rintro e w11 ⟨v314,rfl,ho0,hb⟩
    refine ⟨_,rfl,?_⟩
    have n0_:=zA (ze ho0 (zQ (by repeat (first|(with_reducible first|exact HB.out|apply zD|apply zB|apply zC|refine zF ?_ GE311.out|refine zF ?_ GE322.out)|exact HB.out))))
    have n1_:=zA (zX (g:=gb311) (o:=.cells #[.slice A0_0 l0_0.length c0_0,.slice A0_1 l0_1.length c0_1] 33 (0,0)) (by (with_reducible repeat (first|refine zG ?_ _|refine zI ?_|refine zH ?_ _));exact BK311.out) hb)
    have n2_:=zA (zX (g:=gb322) (o:=.cells #[.slice none 0 0,.slice none 0 0] 33 (0,0)) (by (with_reducible repeat (first|refine zG ?_ _|refine zI ?_|refine zH ?_ _));exact BK322.out) hb)
    have n3_:=zA (zR (by repeat (first|(with_reducible first|exact HB.out|apply zD|apply zB|apply zC|refine zF ?_ GE311.out|refine zF ?_ GE322.out)|exact HB.out)) hb)
    clear BK311 BK322 HB
    have HO315:=n0_
    have BK311:=n1_
    have BK322:=n2_
    have HB:=n3_
    clear n0_ n1_ n2_ n3_
    (try clear hb);(try clear hb2);(try clear hk);(try clear hi);(try clear ho0)
    obtain ⟨Ao12,co12,eo12⟩:=zg HO315.out
    (first|subst eo12|(injection eo12 with f1_ f2_ f3_;have f4_:=f1_.symm;have f5_:=f3_.symm;clear f1_ f2_ f3_;subst f4_;subst f5_))
    refine hK.out _ _ ⟨(zT BK311.out 0).trans rfl,(zT BK311.out 1).trans rfl⟩ (fun hHeld=>?_)
    clear hK K
    refine norm_ (a':=?_) ?_ ?_
    rotate_left
    ·show Act.put _ (some 11) _ = _
     simp only [Act.put,zP_,i64_w]
     rfl
    refine one_ (i:=3) (N:=some 12) #[zt,zt,zt,zt,zt,zf,zf] rfl rfl (by kernel_rfl) (by decide) (fun K hK=>?_)
    refine goes_ Try.func47 (by kernel_rfl) rfl #[.agg #[.slice A0_0 l0_0.length c0_0,.slice A0_1 l0_1.length c0_1],.slice Ao12 t313.length co12] (by rfl) rfl rfl (by (try simp only [zJ,zM,zN]);first|done|rfl|(simp only [zL,zK];rfl)) ?_
    with_reducible refine (impl_renamed.calls k _ _ l0_0 _ _ l0_1 _ _ t313 t316 t319 _ ?side1 ?side2 ?side3 ?side4 ?side5 ?side6 A5.out).mono ?_
    (case side1=>repeat (first|exact (zW HR0_0.out HB.out)|(with_reducible exact HR0_0.out)|apply zC_))
    (case side2=>exact HC0_0.out)
    (case side3=>repeat (first|exact (zW HR0_1.out HB.out)|(with_reducible exact HR0_1.out)|apply zC_))
    (case side4=>exact HC0_1.out)
    (case side5=>repeat (first|exact (zU HO315.out).2.2|apply zC_))
    (case side6=>exact (zU HO315.out).2.1)
    rintro e w13 ⟨v317,v320,rfl,ho0,ho1,hb⟩
    refine ⟨_,rfl,?_⟩
    have n0_:=zA (zV (Kd.R_told (Kd.R_told (Kd.R_old (by apply zR_;exact HO315.out) hb) (zd ho0)) (zd ho1)) (fun _ h_=>h_.1))
    have n1_:=zA (ze (zh ho0 (Kd.R_lt (by apply zR_;exact HO315.out))) (zQ (by repeat (first|(with_reducible first|exact HB.out|apply zD|apply zB|apply zC|refine zF ?_ GE311.out|refine zF ?_ GE322.out)|exact HB.out))))
    have n2_:=zA (ze (zh ho1 (Kd.R_lt (by apply zR_;exact HO315.out))) (zQ (by repeat (first|(with_reducible first|exact HB.out|apply zD|apply zB|apply zC|refine zF ?_ GE311.out|refine zF ?_ GE322.out)|exact HB.out))))
    have n3_:=zA (zX (g:=gb311) (o:=.cells #[.slice A0_0 l0_0.length c0_0,.slice A0_1 l0_1.length c0_1] 33 (0,0)) (by (with_reducible repeat (first|refine zG ?_ _|refine zI ?_|refine zH ?_ _));exact BK311.out) hb)
    have n4_:=zA (zX (g:=gb322) (o:=.cells #[.slice none 0 0,.slice none 0 0] 33 (0,0)) (by (with_reducible repeat (first|refine zG ?_ _|refine zI ?_|refine zH ?_ _));exact BK322.out) hb)
    have n5_:=zA (zR (by repeat (first|(with_reducible first|exact HB.out|apply zD|apply zB|apply zC|refine zF ?_ GE311.out|refine zF ?_ GE322.out)|exact HB.out)) hb)
    clear HO315 BK311 BK322 HB
    have HO315:=n0_
    have HO318:=n1_
    have HO321:=n2_
    have BK311:=n3_
    have BK322:=n4_
    have HB:=n5_
    clear n0_ n1_ n2_ n3_ n4_ n5_
    (try clear hb);(try clear hb2);(try clear hk);(try clear hi);(try clear ho0);(try clear ho1)
    refine hK.out _ _ ⟨(zT BK311.out 0).trans rfl,(zT BK311.out 1).trans rfl⟩ (fun hHeld=>?_)
    clear hK K
    refine norm_ (a':=?_) ?_ ?_
    rotate_left
    ·show Act.put _ (some 12) _ = _
     simp only [Act.put,zP_,i64_w]
     rfl
    exact norm_ (by simp only [putAll,Act.put,List.setIfInBounds_toArray,List.set_cons_zero,List.set_cons_succ]) (hCont (.slice Ao12 t313.length co12,v317,v320,gb322) _ ⟨hHeld,(by apply zR_;exact zV HO315.out (fun _ hk=>⟨hk.1.2,hk.2⟩)),(by apply zR_;exact zV HO318.out (fun _ hk=>⟨hk.2,hk.1⟩)),(by apply zR_;exact zV HO321.out (fun _ hk=>⟨hk.2,hk.1⟩)),(by (with_reducible repeat (first|refine zG ?_ _|refine zI ?_|refine zH ?_ _));exact BK311.out),(by (with_reducible repeat (first|refine zG ?_ _|refine zI ?_|refine zH ?_ _));exact BK322.out),GW322.out,GE322.out,NB311_322.out,NB322_311.out,(by repeat (first|(with_reducible first|exact HB.out|apply zD|apply zB|apply zC|refine zF ?_ GE311.out|refine zF ?_ GE322.out)|exact HB.out))⟩)
  rintro ⟨v314,v317,v320,gb322⟩ w14 ⟨hS_,h0_,h1_,h2_,h3_,h4_,h5_,h6_,h7_,h8_,h9_⟩
  have n0_:Aside0 (Kd.R (Kd.int .i64) 3 w14 w.heap.size (fun k_=>some k_≠(v317:Value).ownBlock∧some k_≠(v320:Value).ownBlock) v314 t313):=⟨h0_⟩
  have n1_:Aside0 (Kd.R (Kd.int .i64) 3 w14 w.heap.size (fun k_=>some k_≠(v314:Value).ownBlock∧some k_≠(v320:Value).ownBlock) v317 t316):=⟨h1_⟩
  have n2_:Aside0 (Kd.R (Kd.int .i64) 3 w14 w.heap.size (fun k_=>some k_≠(v314:Value).ownBlock∧some k_≠(v317:Value).ownBlock) v320 t319):=⟨h2_⟩
  have n3_:Aside0 (w14.heap[gb311]? = some (.cells #[.slice A0_0 l0_0.length c0_0,.slice A0_1 l0_1.length c0_1] 33 (0,0))):=⟨h3_⟩
  have n4_:Aside0 (w14.heap[gb322]? = some (.cells #[.slice none 0 0,.slice none 0 0] 33 (0,0))):=⟨h4_⟩
  have n5_:Aside0 (w.heap.size≤gb322):=⟨h5_⟩
  have n6_:Aside0 (w.heap.size≤gb322):=⟨h6_⟩
  have n7_:Aside0 (gb311≠gb322):=⟨h7_⟩
  have n8_:Aside0 (gb322≠gb311):=⟨h8_⟩
  have n9_:Aside0 (Below w.heap.size w w14):=⟨h9_⟩
  clear BK311 HB h0_ h1_ h2_ h3_ h4_ h5_ h6_ h7_ h8_ h9_
  have HO315:=n0_
  have HO318:=n1_
  have HO321:=n2_
  have BK311:=n3_
  have BK322:=n4_
  have GW322:=n5_
  have GE322:=n6_
  have NB311_322:=n7_
  have NB322_311:=n8_
  have HB:=n9_
  clear n0_ n1_ n2_ n3_ n4_ n5_ n6_ n7_ n8_ n9_
  have hHeld:w14.cell? ⟨gb311,0,none⟩ = some (.slice A0_0 l0_0.length c0_0)∧w14.cell? ⟨gb311,1,none⟩ = some (.slice A0_1 l0_1.length c0_1):=hS_
  obtain ⟨Ao15,co15,eo15⟩:=zg HO318.out
  (first|subst eo15|(injection eo15 with f1_ f2_ f3_;have f4_:=f1_.symm;have f5_:=f3_.symm;clear f1_ f2_ f3_;subst f4_;subst f5_))
  obtain ⟨Ao17,co17,eo17⟩:=zg HO321.out
  (first|subst eo17|(injection eo17 with f1_ f2_ f3_;have f4_:=f1_.symm;have f5_:=f3_.symm;clear f1_ f2_ f3_;subst f4_;subst f5_))
  refine norm_ (a':=?_) ?_ ?_
  rotate_left
  ·simp only [putAll,Act.put,List.setIfInBounds_toArray,List.set_cons_zero,List.set_cons_succ]
   rfl
  refine one_ (i:=5) (N:=none) #[zt,zt,zt,zt,zt,zt,zf] rfl rfl (by kernel_rfl) (by decide) (fun K hK=>?_)
  have hs16:w14.cell? ⟨gb322,0,none⟩ = some (.slice none 0 0):=(zT BK322.out 0).trans rfl
  have hfs16:=zZ BK322.out 0
  have hns16_0:=NB311_322.out
  have hms16_0:=NB322_311.out
  have hs18:w14.cell? ⟨gb322,1,none⟩ = some (.slice none 0 0):=(zT BK322.out 1).trans rfl
  have hfs18:=zZ BK322.out 1
  have hns18_0:=NB311_322.out
  have hms18_0:=NB322_311.out
  refine skip_ (w1:=?_) (by rfl) rfl ?_ ?_
  rotate_left
  ·go_simp
   rfl
  refine hK.out _ _ ⟨((cell_far (p:=⟨gb322,_,none⟩) NB311_322.out _).trans (((cell_far (p:=⟨gb322,_,none⟩) NB311_322.out _).trans (hHeld.1)))),((cell_far (p:=⟨gb322,_,none⟩) NB311_322.out _).trans (((cell_far (p:=⟨gb322,_,none⟩) NB311_322.out _).trans (hHeld.2))))⟩ (fun hHeld=>?_)
  clear hK K
  refine pure_ (i:=6) (N:=some 4) (v:=?_) (a':=?_) #[zt,zt,zt,zt,zt,zt,zt] rfl rfl (by kernel_rfl) (fun _ _ _ h=>h) (Or.inl ⟨by rfl,?_⟩) ?_ ?_
  rotate_left
  ·intro w'
   go_simp
   with_reducible rfl
  rotate_left
  ·simp only [Act.put,zP_,i64_w]
   rfl
  refine done_ (by kernel_rfl) ?_
  have hnb19:=NB311_322.out
  have hnc19:=NB322_311.out
  have hcz20_0:w14.cell? ⟨gb311,0,none⟩ = some (.slice A0_0 l0_0.length c0_0):=(zT BK311.out 0).trans rfl
  have hcz20_1:w14.cell? ⟨gb311,1,none⟩ = some (.slice A0_1 l0_1.length c0_1):=(zT BK311.out 1).trans rfl
  have hfz20_0:=zZ BK311.out 0
  have hfz20_1:=zZ BK311.out 1
  try go_wp2
  go_loopg [4,16] k (fun kq v4 v16 w' => ∃ (x4_1:Int) (x16_1:Int),v4 = .int .i64 x4_1∧v16 = .int .i64 x16_1∧Aside0 (impl_MapTurns.l0 kq x4_1 (l0_0.length:Int) x16_1 l0_0 l0_1 t316 t319 = some r)∧Aside0 (kq≤k)∧Aside0 (Kd.R (Kd.int .i64) 3 w' w.heap.size (fun k_=>some k_≠((.slice Ao17 t319.length co17):Value).ownBlock) (.slice Ao15 t316.length co15) t316)∧Aside0 (Kd.R (Kd.int .i64) 3 w' w.heap.size (fun k_=>some k_≠((.slice Ao15 t316.length co15):Value).ownBlock) (.slice Ao17 t319.length co17) t319)∧Aside0 (w'.heap[gb311]? = some (.cells #[(.slice A0_0 l0_0.length c0_0),(.slice A0_1 l0_1.length c0_1)] 33 (0,0)))∧Aside0 (w'.heap[gb322]? = some (.cells #[(.slice Ao15 t316.length co15),(.slice Ao17 t319.length co17)] 33 (0,0)))∧Aside0 (Below w.heap.size w w'))
  case atStart=>exact ⟨(0),(0),(by first|rfl|(simp;done)|(simp [*];done)),(by first|rfl|(simp;done)|(simp [*];done)),H',⟨Nat.le_refl _⟩,⟨by apply zR_;exact zV (zi (p:=⟨gb322,1,none⟩) (zi (p:=⟨gb322,0,none⟩) (Kd.R_types HO318.out BK322.out (by decide)) (fun _ hk=>hk.2) (.slice Ao15 t316.length co15)) (fun _ hk=>hk.2) (.slice Ao17 t319.length co17)) (fun _ hk=>hk.1.2)⟩,⟨by apply zR_;exact zV (zi (p:=⟨gb322,1,none⟩) (zi (p:=⟨gb322,0,none⟩) (Kd.R_types HO321.out BK322.out (by decide)) (fun _ hk=>hk.2) (.slice Ao15 t316.length co15)) (fun _ hk=>hk.2) (.slice Ao17 t319.length co17)) (fun _ hk=>hk.1.2)⟩,⟨by (with_reducible repeat (first|refine zG ?_ _|refine zI ?_|refine zH ?_ _));refine blk_far ?_ NB311_322.out _;(with_reducible repeat (first|refine zG ?_ _|refine zI ?_|refine zH ?_ _));refine blk_far ?_ NB311_322.out _;(with_reducible repeat (first|refine zG ?_ _|refine zI ?_|refine zH ?_ _));exact BK311.out⟩,⟨by (with_reducible repeat (first|refine zG ?_ _|refine zI ?_|refine zH ?_ _));refine blk_put (cs:=#[.slice Ao15 t316.length co15,.slice none 0 0]) ?_ 1 _ rfl;(with_reducible repeat (first|refine zG ?_ _|refine zI ?_|refine zH ?_ _));refine blk_put (cs:=#[.slice none 0 0,.slice none 0 0]) ?_ 0 _ rfl;(with_reducible repeat (first|refine zG ?_ _|refine zI ?_|refine zH ?_ _));exact BK322.out⟩,⟨by repeat (first|(with_reducible first|exact HB.out|apply zD|apply zB|apply zC|refine zF ?_ GE311.out|refine zF ?_ GE322.out)|exact HB.out)⟩⟩
  case round =>
   clear H'
   (try clear c1);(try clear p2);(try clear c3);(try clear c4);(try clear c5);(try clear c19);(try clear hcz20_0);(try clear hcz20_1);(try clear hcz7_0);(try clear hcz7_1);(try clear hfz20_0);(try clear hfz20_1);(try clear hfz7_0);(try clear hfz7_1)
   obtain ⟨x4_1,x16_1,rfl,rfl,HA,HK1,HO_323000,HO_323001,BK311,BK322,HB⟩:=hrel
   cases gk with
   | zero=>exact absurd HA.out (by simp [impl_MapTurns.l0])
   | succ k1 =>
    have H:=HA.out
    clear HA
    simp only [impl_MapTurns.l0] at H
    by_cases c21:x16_1 < (l0_0.length:Int)
    ·rw [if_pos c21] at H
     have c21b0:decide (x16_1 < (l0_0.length:Int)) = true:=zO c21
     clear c21
     replace H:=zz0 H
     obtain ⟨t323,A220,H⟩:=H
     try dsimp only at H
     have A22:=zA A220
     clear A220
     replace H:=zz0 H
     obtain ⟨⟨t326,t329⟩,A230,H⟩:=H
     try dsimp only at H
     have A23:=zA A230
     clear A230
     replace H:=zz0 H
     obtain ⟨t332,A240,H⟩:=H
     try dsimp only at H
     have A24:=zA A240
     clear A240
     have H9_:=zA H
     clear H
     try go_wp2
     have n0_:=zA (Kd.R_drew HO_323000.out)
     have n1_:=zA (Kd.R_drew HO_323001.out)
     have n2_:=zA (zI BK311.out)
     have n3_:=zA (zI BK322.out)
     have n4_:=zA (zC HB.out)
     clear HO_323000 HO_323001 BK311 BK322 HB
     have HO_323000:=n0_
     have HO_323001:=n1_
     have BK311:=n2_
     have BK322:=n3_
     have HB:=n4_
     clear n0_ n1_ n2_ n3_ n4_
     refine start_ (n:=8) (S:=fun w'=>w'.cell? ⟨gb311,0,none⟩ = some (.slice A0_0 l0_0.length c0_0)∧w'.cell? ⟨gb311,1,none⟩ = some (.slice A0_1 l0_1.length c0_1)∧w'.cell? ⟨gb322,0,none⟩ = some (.slice Ao15 t316.length co15)∧w'.cell? ⟨gb322,1,none⟩ = some (.slice Ao17 t319.length co17)) (ds:=[]) #[zf,zf,zf,zf,zf,zf,zf,zf] (by kernel_rfl) rfl rfl ⟨(zT BK311.out 0).trans rfl,(zT BK311.out 1).trans rfl,(zT BK322.out 0).trans rfl,(zT BK322.out 1).trans rfl⟩ (fun hHeld=>?_);refine with_tabW impl_MapTurns.tab7 impl_MapTurns.bits7 (fun HT_ HW_=>?_)
     generalize wr.drew = w26 at HO_323000 HO_323001 BK311 BK322 HB hHeld ⊢
     refine pure_ (i:=2) (N:=some 21) (v:=?_) (a':=?_) #[zf,zf,zt,zf,zf,zf,zf,zf] rfl rfl (any_of HT_.out (by kernel_rfl)) (fun _ _ _ h=>h) (Or.inl ⟨by rfl,?_⟩) ?_ ?_
     rotate_left
     ·intro w'
      go_simp
      with_reducible rfl
     rotate_left
     ·simp only [Act.put,zP_,i64_w]
      rfl
     refine take_ (i:=0) (N:=some 19) (v:=?_) (a':=?_) #[zt,zf,zt,zf,zf,zf,zf,zf] rfl rfl (take_ofW HT_.out HW_.out (by kernel_rfl)) (fun _ _ _ h=>h) (Or.inl ⟨by rfl,?_⟩) hHeld ?_ ?_
     rotate_left
     ·rintro w' ⟨s0,s1,s2,s3⟩
      go_simp
      with_reducible rfl
     rotate_left
     ·simp only [Act.put,zP_,i64_w]
      rfl
     refine take_ (i:=1) (N:=some 20) (v:=?_) (a':=?_) #[zt,zt,zt,zf,zf,zf,zf,zf] rfl rfl (take_ofW HT_.out HW_.out (by kernel_rfl)) (fun _ _ _ h=>h) (Or.inl ⟨by rfl,?_⟩) hHeld ?_ ?_
     rotate_left
     ·rintro w' ⟨s0,s1,s2,s3⟩
      go_simp
      with_reducible rfl
     rotate_left
     ·simp only [Act.put,zP_,i64_w]
      rfl
     refine take_ (i:=5) (N:=some 24) (v:=?_) (a':=?_) #[zt,zt,zt,zf,zf,zt,zf,zf] rfl rfl (take_ofW HT_.out HW_.out (by kernel_rfl)) (fun _ _ _ h=>h) (Or.inl ⟨by rfl,?_⟩) hHeld ?_ ?_
     rotate_left
     ·rintro w' ⟨s0,s1,s2,s3⟩
      go_simp
      with_reducible rfl
     rotate_left
     ·simp only [Act.put,zP_,i64_w]
      rfl
     refine one_ (i:=3) (N:=some 22) #[zt,zt,zt,zt,zf,zt,zf,zf] rfl rfl (one_of HT_.out (by kernel_rfl)) (by decide) (fun K hK=>?_)
     refine goes_ Try.func48 (by kernel_rfl) rfl #[.agg #[.slice A0_0 l0_0.length c0_0,.slice A0_1 l0_1.length c0_1],.int .i64 x16_1] (by rfl) rfl rfl (by (try simp only [zJ,zM,zN]);first|done|rfl|(simp only [zL,zK];rfl)) ?_
     with_reducible refine (impl_namesFrom.calls k1 _ _ l0_0 _ _ l0_1 x16_1 t323 _ ?side1 ?side2 ?side3 ?side4 A22.out).mono ?_
     (case side1=>repeat (first|exact (zW HR0_0.out HB.out)|(with_reducible exact HR0_0.out)|apply zC_))
     (case side2=>exact HC0_0.out)
     (case side3=>repeat (first|exact (zW HR0_1.out HB.out)|(with_reducible exact HR0_1.out)|apply zC_))
     (case side4=>exact HC0_1.out)
     rintro e w27 ⟨v324,rfl,ho0,hb⟩
     refine ⟨_,rfl,?_⟩
     have n0_:=zA (Kd.R_elder' (by apply zR_;exact HO_323000.out) (zd ho0) hb)
     have n1_:=zA (Kd.R_elder' (by apply zR_;exact HO_323001.out) (zd ho0) hb)
     have n2_:=zA (ze (zh (zh ho0 (Kd.R_lt (by apply zR_;exact HO_323000.out))) (Kd.R_lt (by apply zR_;exact HO_323001.out))) (zQ (by repeat (first|(with_reducible first|exact HB.out|apply zD|apply zB|apply zC|refine zF ?_ GE311.out|refine zF ?_ GE322.out)|exact HB.out))))
     have n3_:=zA (zX (g:=gb311) (o:=.cells #[.slice A0_0 l0_0.length c0_0,.slice A0_1 l0_1.length c0_1] 33 (0,0)) (by (with_reducible repeat (first|refine zG ?_ _|refine zI ?_|refine zH ?_ _));exact BK311.out) hb)
     have n4_:=zA (zX (g:=gb322) (o:=.cells #[.slice Ao15 t316.length co15,.slice Ao17 t319.length co17] 33 (0,0)) (by (with_reducible repeat (first|refine zG ?_ _|refine zI ?_|refine zH ?_ _));exact BK322.out) hb)
     have n5_:=zA (zR (by repeat (first|(with_reducible first|exact HB.out|apply zD|apply zB|apply zC|refine zF ?_ GE311.out|refine zF ?_ GE322.out)|exact HB.out)) hb)
     clear HO_323000 HO_323001 BK311 BK322 HB
     have HO_323000:=n0_
     have HO_323001:=n1_
     have HO325:=n2_
     have BK311:=n3_
     have BK322:=n4_
     have HB:=n5_
     clear n0_ n1_ n2_ n3_ n4_ n5_
     (try clear hb);(try clear hb2);(try clear hk);(try clear hi);(try clear ho0)
     obtain ⟨Ao28,co28,eo28⟩:=zg HO325.out
     (first|subst eo28|(injection eo28 with f1_ f2_ f3_;have f4_:=f1_.symm;have f5_:=f3_.symm;clear f1_ f2_ f3_;subst f4_;subst f5_))
     refine hK.out _ _ ⟨(zT BK311.out 0).trans rfl,(zT BK311.out 1).trans rfl,(zT BK322.out 0).trans rfl,(zT BK322.out 1).trans rfl⟩ (fun hHeld=>?_)
     clear hK K
     refine norm_ (a':=?_) ?_ ?_
     rotate_left
     ·show Act.put _ (some 22) _ = _
      simp only [Act.put,zP_,i64_w]
      rfl
     refine one_ (i:=4) (N:=some 23) #[zt,zt,zt,zt,zt,zt,zf,zf] rfl rfl (one_of HT_.out (by kernel_rfl)) (by decide) (fun K hK=>?_)
     refine goes_ Try.func47 (by kernel_rfl) rfl #[.agg #[.slice A0_0 l0_0.length c0_0,.slice A0_1 l0_1.length c0_1],.slice Ao28 t323.length co28] (by rfl) rfl rfl (by (try simp only [zJ,zM,zN]);first|done|rfl|(simp only [zL,zK];rfl)) ?_
     with_reducible refine (impl_renamed.calls k1 _ _ l0_0 _ _ l0_1 _ _ t323 t326 t329 _ ?side1 ?side2 ?side3 ?side4 ?side5 ?side6 A23.out).mono ?_
     (case side1=>repeat (first|exact (zW HR0_0.out HB.out)|(with_reducible exact HR0_0.out)|apply zC_))
     (case side2=>exact HC0_0.out)
     (case side3=>repeat (first|exact (zW HR0_1.out HB.out)|(with_reducible exact HR0_1.out)|apply zC_))
     (case side4=>exact HC0_1.out)
     (case side5=>repeat (first|exact (zU HO325.out).2.2|apply zC_))
     (case side6=>exact (zU HO325.out).2.1)
     rintro e w29 ⟨v327,v330,rfl,ho0,ho1,hb⟩
     refine ⟨_,rfl,?_⟩
     have n0_:=zA (zV (Kd.R_told (Kd.R_told (Kd.R_old (by apply zR_;exact HO_323000.out) hb) (zd ho0)) (zd ho1)) (fun _ h_=>h_.1))
     have n1_:=zA (zV (Kd.R_told (Kd.R_told (Kd.R_old (by apply zR_;exact HO_323001.out) hb) (zd ho0)) (zd ho1)) (fun _ h_=>h_.1))
     have n2_:=zA (zV (Kd.R_told (Kd.R_told (Kd.R_old (by apply zR_;exact HO325.out) hb) (zd ho0)) (zd ho1)) (fun _ h_=>h_.1))
     have n3_:=zA (ze (zh (zh (zh ho0 (Kd.R_lt (by apply zR_;exact HO_323000.out))) (Kd.R_lt (by apply zR_;exact HO_323001.out))) (Kd.R_lt (by apply zR_;exact HO325.out))) (zQ (by repeat (first|(with_reducible first|exact HB.out|apply zD|apply zB|apply zC|refine zF ?_ GE311.out|refine zF ?_ GE322.out)|exact HB.out))))
     have n4_:=zA (ze (zh (zh (zh ho1 (Kd.R_lt (by apply zR_;exact HO_323000.out))) (Kd.R_lt (by apply zR_;exact HO_323001.out))) (Kd.R_lt (by apply zR_;exact HO325.out))) (zQ (by repeat (first|(with_reducible first|exact HB.out|apply zD|apply zB|apply zC|refine zF ?_ GE311.out|refine zF ?_ GE322.out)|exact HB.out))))
     have n5_:=zA (zX (g:=gb311) (o:=.cells #[.slice A0_0 l0_0.length c0_0,.slice A0_1 l0_1.length c0_1] 33 (0,0)) (by (with_reducible repeat (first|refine zG ?_ _|refine zI ?_|refine zH ?_ _));exact BK311.out) hb)
     have n6_:=zA (zX (g:=gb322) (o:=.cells #[.slice Ao15 t316.length co15,.slice Ao17 t319.length co17] 33 (0,0)) (by (with_reducible repeat (first|refine zG ?_ _|refine zI ?_|refine zH ?_ _));exact BK322.out) hb)
     have n7_:=zA (zR (by repeat (first|(with_reducible first|exact HB.out|apply zD|apply zB|apply zC|refine zF ?_ GE311.out|refine zF ?_ GE322.out)|exact HB.out)) hb)
     clear HO_323000 HO_323001 HO325 BK311 BK322 HB
     have HO_323000:=n0_
     have HO_323001:=n1_
     have HO325:=n2_
     have HO328:=n3_
     have HO331:=n4_
     have BK311:=n5_
     have BK322:=n6_
     have HB:=n7_
     clear n0_ n1_ n2_ n3_ n4_ n5_ n6_ n7_
     (try clear hb);(try clear hb2);(try clear hk);(try clear hi);(try clear ho0);(try clear ho1)
     obtain ⟨Ao30,co30,eo30⟩:=zg HO328.out
     (first|subst eo30|(injection eo30 with f1_ f2_ f3_;have f4_:=f1_.symm;have f5_:=f3_.symm;clear f1_ f2_ f3_;subst f4_;subst f5_))
     obtain ⟨Ao31,co31,eo31⟩:=zg HO331.out
     (first|subst eo31|(injection eo31 with f1_ f2_ f3_;have f4_:=f1_.symm;have f5_:=f3_.symm;clear f1_ f2_ f3_;subst f4_;subst f5_))
     refine hK.out _ _ ⟨(zT BK311.out 0).trans rfl,(zT BK311.out 1).trans rfl,(zT BK322.out 0).trans rfl,(zT BK322.out 1).trans rfl⟩ (fun hHeld=>?_)
     clear hK K
     refine norm_ (a':=?_) ?_ ?_
     rotate_left
     ·show Act.put _ (some 23) _ = _
      simp only [Act.put,zP_,i64_w]
      rfl
     refine one_ (i:=6) (N:=some 25) #[zt,zt,zt,zt,zt,zt,zt,zf] rfl rfl (one_of HT_.out (by kernel_rfl)) (by decide) (fun K hK=>?_)
     refine goes_ Try.func62 (by kernel_rfl) rfl #[.agg #[.slice Ao30 t326.length co30,.slice Ao31 t329.length co31],.agg #[.slice Ao15 t316.length co15,.slice Ao17 t319.length co17]] (by rfl) rfl rfl (by (try simp only [zJ,zM,zN]);first|done|rfl|(simp only [zL,zK];rfl)) ?_
     with_reducible refine (impl_compareMaps.calls k1 _ _ t326 _ _ t329 _ _ t316 _ _ t319 t332 _ ?side1 ?side2 ?side3 ?side4 ?side5 ?side6 ?side7 ?side8 A24.out).mono ?_
     (case side1=>repeat (first|exact (zU HO328.out).2.2|apply zC_))
     (case side2=>exact (zU HO328.out).2.1)
     (case side3=>repeat (first|exact (zU HO331.out).2.2|apply zC_))
     (case side4=>exact (zU HO331.out).2.1)
     (case side5=>repeat (first|exact (zU HO_323000.out).2.2|apply zC_))
     (case side6=>exact (zU HO_323000.out).2.1)
     (case side7=>repeat (first|exact (zU HO_323001.out).2.2|apply zC_))
     (case side8=>exact (zU HO_323001.out).2.1)
     rintro e w32 ⟨rfl,hb⟩
     refine ⟨_,rfl,?_⟩
     have n0_:=zA (zj (by apply zR_;exact HO_323000.out) hb)
     have n1_:=zA (zj (by apply zR_;exact HO_323001.out) hb)
     have n2_:=zA (zj (by apply zR_;exact HO325.out) hb)
     have n3_:=zA (zj (by apply zR_;exact HO328.out) hb)
     have n4_:=zA (zj (by apply zR_;exact HO331.out) hb)
     have n5_:=zA (zX (g:=gb311) (o:=.cells #[.slice A0_0 l0_0.length c0_0,.slice A0_1 l0_1.length c0_1] 33 (0,0)) (by (with_reducible repeat (first|refine zG ?_ _|refine zI ?_|refine zH ?_ _));exact BK311.out) hb)
     have n6_:=zA (zX (g:=gb322) (o:=.cells #[.slice Ao15 t316.length co15,.slice Ao17 t319.length co17] 33 (0,0)) (by (with_reducible repeat (first|refine zG ?_ _|refine zI ?_|refine zH ?_ _));exact BK322.out) hb)
     have n7_:=zA (zR (by repeat (first|(with_reducible first|exact HB.out|apply zD|apply zB|apply zC|refine zF ?_ GE311.out|refine zF ?_ GE322.out)|exact HB.out)) hb)
     clear HO_323000 HO_323001 HO325 HO328 HO331 BK311 BK322 HB
     have HO_323000:=n0_
     have HO_323001:=n1_
     have HO325:=n2_
     have HO328:=n3_
     have HO331:=n4_
     have BK311:=n5_
     have BK322:=n6_
     have HB:=n7_
     clear n0_ n1_ n2_ n3_ n4_ n5_ n6_ n7_
     (try clear hb);(try clear hb2);(try clear hk);(try clear hi)
     refine hK.out _ _ ⟨(zT BK311.out 0).trans rfl,(zT BK311.out 1).trans rfl,(zT BK322.out 0).trans rfl,(zT BK322.out 1).trans rfl⟩ (fun hHeld=>?_)
     clear hK K
     refine norm_ (a':=?_) ?_ ?_
     rotate_left
     ·show Act.put _ (some 25) _ = _
      simp only [Act.put,zP_,i64_w]
      rfl
     refine pure_ (i:=7) (N:=some 26) (v:=?_) (a':=?_) #[zt,zt,zt,zt,zt,zt,zt,zt] rfl rfl (any_of HT_.out (by kernel_rfl)) (fun _ _ _ h=>h) (Or.inl ⟨by rfl,?_⟩) ?_ ?_
     rotate_left
     ·intro w'
      go_simp
      with_reducible rfl
     rotate_left
     ·simp only [Act.put,zP_,i64_w]
      rfl
     refine done_ (done_of HT_.out (by kernel_rfl)) ?_
     have H:=H9_.out
     clear H9_
     by_cases c25:t332 = 0
     ·rw [if_pos c25] at H
      have c25b0:(t332 == 0) = true:=beq_iff_eq.mpr c25
      have c25b1:(t332 != 0) = false:=bne_eq_false_iff_eq.mpr c25
      clear c25
      try rw [c25b0]
      have H':=zA H
      clear H
      try go_wp2
      go_roundg k1
      case measure=>have:=HK1.out;omega
      case rel=>exact ⟨(wrap64 (x4_1+1)),(wrap64 (x16_1+1)),(by first|rfl|(simp;done)|(simp [*];done)),(by first|rfl|(simp;done)|(simp [*];done)),H',⟨by have:=HK1.out;omega⟩,⟨by apply zR_;exact zV HO_323000.out (fun _ hk=>hk.1.1.1)⟩,⟨by apply zR_;exact zV HO_323001.out (fun _ hk=>hk.1.1.1)⟩,⟨by (with_reducible repeat (first|refine zG ?_ _|refine zI ?_|refine zH ?_ _));exact BK311.out⟩,⟨by (with_reducible repeat (first|refine zG ?_ _|refine zI ?_|refine zH ?_ _));exact BK322.out⟩,⟨by repeat (first|(with_reducible first|exact HB.out|apply zD|apply zB|apply zC|refine zF ?_ GE311.out|refine zF ?_ GE322.out)|exact HB.out)⟩⟩
     ·rw [if_neg c25] at H
      have c25b0:(t332 == 0) = false:=beq_eq_false_iff_ne.mpr c25
      have c25b1:(t332 != 0) = true:=bne_iff_ne.mpr c25
      have H':=zA H
      clear H
      try go_wp2
      go_roundg k1
      case measure=>have:=HK1.out;omega
      case rel=>exact ⟨(x4_1),(wrap64 (x16_1+1)),(by first|rfl|(simp;done)|(simp [*];done)),(by first|rfl|(simp;done)|(simp [*];done)),H',⟨by have:=HK1.out;omega⟩,⟨by apply zR_;exact zV HO_323000.out (fun _ hk=>hk.1.1.1)⟩,⟨by apply zR_;exact zV HO_323001.out (fun _ hk=>hk.1.1.1)⟩,⟨by (with_reducible repeat (first|refine zG ?_ _|refine zI ?_|refine zH ?_ _));exact BK311.out⟩,⟨by (with_reducible repeat (first|refine zG ?_ _|refine zI ?_|refine zH ?_ _));exact BK322.out⟩,⟨by repeat (first|(with_reducible first|exact HB.out|apply zD|apply zB|apply zC|refine zF ?_ GE311.out|refine zF ?_ GE322.out)|exact HB.out)⟩⟩
    ·rw [if_neg c21] at H
     have c21b0:decide (x16_1 < (l0_0.length:Int)) = false:=zP c21
     clear c21
     obtain rfl:=zS H
     go_wp2
     go_ret
     exact ⟨by first|rfl|(simp [errW_none,errW_some] <;> rfl)|(simp [*,errW_none,errW_some] <;> rfl),by repeat (first|(with_reducible first|exact HB.out|apply zD|apply zB|apply zC|refine zF ?_ GE311.out|refine zF ?_ GE322.out)|exact HB.out)⟩
 ·replace c3:=Bool.eq_false_iff.mpr c3
  subst c3
  have H1:(some (-1)) = some r:=by rw [if_neg (show ¬ (false = true) by decide)] at H;exact H
  clear H
  have H:=H1
  clear H1
  obtain rfl:=zS H
  go_enter Try.func53,Try.ntmps53
  go_wp2_with (first|((with_reducible refine gate_dst (N:=1) rfl ?_);refine box_event ?hg (N:=1) ?hd (cs:=#[.slice A0_0 l0_0.length c0_0,.slice A0_1 l0_1.length c0_1]) (t:=33) ?hr ?_;(case hd=>rfl);(case hg=>rfl);(case hr=>first|(go_simp;done)|(go_simp;rfl));intro gb311 hg w40 hbox hb;have n0_:=zA (zR (by exact zB_ HB.out) hb);have n1_:=zA (hbox);have n2_:=zA ((by rw [hg];exact (zQ (by exact zB_ HB.out)):w.heap.size≤gb311));have n3_:=zA ((by rw [hg];exact (zQ (by exact zB_ HB.out)):w.heap.size≤gb311));clear HB;have HB:=n0_;have BK311:=n1_;have GW311:=n2_;have GE311:=n3_;clear n0_ n1_ n2_ n3_;clear hb hbox hg;have hcz41_0:w40.cell? ⟨gb311,0,none⟩ = some (.slice A0_0 l0_0.length c0_0):=(zT BK311.out 0).trans rfl;have hcz41_1:w40.cell? ⟨gb311,1,none⟩ = some (.slice A0_1 l0_1.length c0_1):=(zT BK311.out 1).trans rfl;have hfz41_0:=zZ BK311.out 0;have hfz41_1:=zZ BK311.out 1)|((with_reducible refine gate_callee (f:=46) rfl ?_);refine goesL_ (some 7) rfl rfl Try.func46 (by kernel_rfl) rfl #[.agg #[.slice A0_0 l0_0.length c0_0,.slice A0_1 l0_1.length c0_1]] rfl (by (try simp only [zJ,zM,zN]);first|done|rfl|(simp only [zL,zK];rfl)) ?_;(with_reducible refine (impl_MapValid.calls k (fun k_=>k_ < w.heap.size) _ _ l0_0 (fun k_=>k_ < w.heap.size) _ _ l0_1 false _ ?side1 ?side2 A2.out).mono ?_);(case side1=>exact Kd.V_mk HC0_0.out (Kd.F_below (Kd.C_F (Kd.heap_int .i64) HR0_0.out) (by repeat (first|(with_reducible first|exact HB.out|apply zD|apply zB|apply zC|refine zF ?_ GE311.out)|exact HB.out))));(case side2=>exact Kd.V_mk HC0_1.out (Kd.F_below (Kd.C_F (Kd.heap_int .i64) HR0_1.out) (by repeat (first|(with_reducible first|exact HB.out|apply zD|apply zB|apply zC|refine zF ?_ GE311.out)|exact HB.out))));rintro e w42 ⟨rfl,hb⟩;refine ⟨_,rfl,?_⟩;have n0_:=zA (zX (g:=gb311) (o:=.cells #[.slice A0_0 l0_0.length c0_0,.slice A0_1 l0_1.length c0_1] 33 (0,0)) (by (with_reducible repeat (first|refine zG ?_ _|refine zI ?_|refine zH ?_ _));exact BK311.out) hb);have n1_:=zA (zR (by repeat (first|(with_reducible first|exact HB.out|apply zD|apply zB|apply zC|refine zF ?_ GE311.out)|exact HB.out)) hb);clear BK311;clear HB;have BK311:=n0_;have HB:=n1_;clear n0_ n1_;(try clear hb);(try clear hb2);(try clear hk);(try clear hi)))
  go_ret
  exact ⟨by first|rfl|(simp [errW_none,errW_some] <;> rfl)|(simp [*,errW_none,errW_some] <;> rfl),by repeat (first|(with_reducible first|exact HB.out|apply zD|apply zB|apply zC|refine zF ?_ GE311.out)|exact HB.out)⟩

/-! ### impl_RootlessRoots: function 26 -/
def impl_RootlessRoots.l0:Nat→Int→Int→List (S33)→Int→Int→Option (Int)
 | 0,_,_,_,_,_=>none
 | k+1,x0,x5,x14,x15,x16=>if x16 < x15 then (if 0≤x16 then (if x16 < (x14.length:Int) then ((impl_MapTurns.f k ((rd_T33 x14 x16).f0) ((rd_T33 x14 x16).f1)).bind fun t339=>(if t339 = 0 then (none) else (impl_RootlessRoots.l0 k x0 (wrap64 (x5+(wrap64 (Int.tdiv (wrap64 (2 * x0)) t339)))) x14 x15 (wrap64 (x16+1))))) else (none)) else (none)) else (some x5)
def impl_RootlessRoots.f (k:Nat) (a0:Int) (a1:Int):Option (Int):=(impl_RootedCount.f a0 a1).bind fun t333=>(if t333 < 0 then (some (-1)) else ((impl_rootless.f k a0 a1).bind fun t334=>(impl_RootlessRoots.l0 k a0 0 t334 (t334.length:Int) 0)))
theorem impl_RootlessRoots.mono_l:∀ k,(∀ y0 y1 y2 y3 y4,LeO (impl_RootlessRoots.l0 k y0 y1 y2 y3 y4) (impl_RootlessRoots.l0 (k+1) y0 y1 y2 y3 y4))
 | 0=>fun _ _ _ _ _ r h=>by simp [impl_RootlessRoots.l0] at h
 | k+1=>by
  have ih0:=impl_RootlessRoots.mono_l k
  ·intro y0 y1 y2 y3 y4
   unfold impl_RootlessRoots.l0
   repeat' first
   | (with_reducible exact ih0 _ _ _ _ _)
   | (with_reducible exact impl_MapTurns.mono _ _ _)
   | (with_reducible exact impl_rootless.mono _ _ _)
   | (with_reducible exact LeO.refl _)
   | (with_reducible exact za _)
   | (with_reducible refine zc ?_ ?_)
   | (with_reducible refine zb ?_ (fun _=>?_))
theorem impl_RootlessRoots.mono:∀ a0 a1 k,LeO (impl_RootlessRoots.f k a0 a1) (impl_RootlessRoots.f (k+1) a0 a1):=by
 intro a0 a1 k
 have ih0:=impl_RootlessRoots.mono_l k
 unfold impl_RootlessRoots.f
 repeat' first
   | (with_reducible exact ih0 _ _ _ _ _)
   | (with_reducible exact impl_MapTurns.mono _ _ _)
   | (with_reducible exact impl_rootless.mono _ _ _)
   | (with_reducible exact LeO.refl _)
   | (with_reducible exact za _)
   | (with_reducible refine zc ?_ ?_)
   | (with_reducible refine zb ?_ (fun _=>?_))
set_option maxHeartbeats 8000000 in
set_option maxRecDepth 100000 in
theorem impl_RootlessRoots.calls (k:Nat) (a0:Int) (a1:Int) (r:Int) (w:World) (h:impl_RootlessRoots.f k a0 a1 = some r) :
  Calls Try.prog 26 #[.int .i64 a0,.int .i64 a1] w fun e w'=>e = .returned (.int .i64 r)∧Below w.heap.size w w':=by
 have hu33:=Try.underlying33
 have HB:=zA (Below.refl w.heap.size w)
 have H:((impl_RootedCount.f a0 a1).bind fun t333=>(if t333 < 0 then (some (-1)) else ((impl_rootless.f k a0 a1).bind fun t334=>(impl_RootlessRoots.l0 k a0 0 t334 (t334.length:Int) 0)))) = some r:=h
 clear h
 replace H:=zz0 H
 obtain ⟨t333,A30,H⟩:=H
 try dsimp only at H
 have A3:=zA A30
 clear A30
 by_cases c4:t333 < 0
 ·rw [if_pos c4] at H
  have c4b0:decide (t333 < 0) = true:=zO c4
  clear c4
  obtain rfl:=zS H
  go_enter Try.func26,Try.ntmps26
  go_wp2_with (first|((with_reducible refine gate_callee (f:=16) rfl ?_);refine goesL_ (some 10) rfl rfl Try.func16 (by kernel_rfl) rfl #[.int .i64 a0,.int .i64 a1] rfl (by (try simp only [zJ,zM,zN]);first|done|rfl|(simp only [zL,zK];rfl)) ?_;(with_reducible refine (impl_RootedCount.calls a0 a1 t333 _ A3.out).mono ?_);rintro e w5 ⟨rfl,hb⟩;refine ⟨_,rfl,?_⟩;have n0_:=zA (zR (by exact zB_ HB.out) hb);clear HB;have HB:=n0_;clear n0_;(try clear hb);(try clear hb2);(try clear hk);(try clear hi)))
  go_ret
  exact ⟨by first|rfl|(simp [errW_none,errW_some] <;> rfl)|(simp [*,errW_none,errW_some] <;> rfl),by exact zB_ HB.out⟩
 ·rw [if_neg c4] at H
  have c4b0:decide (t333 < 0) = false:=zP c4
  clear c4
  replace H:=zz0 H
  obtain ⟨t334,A60,H⟩:=H
  try dsimp only at H
  have A6:=zA A60
  clear A60
  have H':=zA H
  clear H
  go_enter Try.func26,Try.ntmps26
  go_wp2_with (first|((with_reducible refine gate_callee (f:=16) rfl ?_);refine goesL_ (some 10) rfl rfl Try.func16 (by kernel_rfl) rfl #[.int .i64 a0,.int .i64 a1] rfl (by (try simp only [zJ,zM,zN]);first|done|rfl|(simp only [zL,zK];rfl)) ?_;(with_reducible refine (impl_RootedCount.calls a0 a1 t333 _ A3.out).mono ?_);rintro e w7 ⟨rfl,hb⟩;refine ⟨_,rfl,?_⟩;have n0_:=zA (zR (by exact zB_ HB.out) hb);clear HB;have HB:=n0_;clear n0_;(try clear hb);(try clear hb2);(try clear hk);(try clear hi))|((with_reducible refine gate_callee (f:=39) rfl ?_);refine goesL_ (some 14) rfl rfl Try.func39 (by kernel_rfl) rfl #[.int .i64 a0,.int .i64 a1] rfl (by (try simp only [zJ,zM,zN]);first|done|rfl|(simp only [zL,zK];rfl)) ?_;(with_reducible refine (impl_rootless.calls k a0 a1 t334 _ A6.out).mono ?_);rintro e w8 ⟨v335,rfl,ho0,hb⟩;refine ⟨_,rfl,?_⟩;have n0_:=zA (Kd.N_lower (Kd.N_mono (ok':=fun k_=>True) ho0 (fun k_ hk_=>trivial)) (zQ (by exact zB_ HB.out)));have n1_:=zA (zR (by exact zB_ HB.out) hb);clear HB;have HO336:=n0_;have HB:=n1_;clear n0_ n1_;(try clear hb);(try clear hb2);(try clear hk);(try clear hi);(try clear ho0);obtain ⟨Ao9,co9,eo9⟩:=Kd.N_slice HO336.out;subst eo9))
  go_loopg [5,16] k (fun kq v5 v16 w' => ∃ (x5_1:Int) (x16_1:Int),v5 = .int .i64 x5_1∧v16 = .int .i64 x16_1∧Aside0 (impl_RootlessRoots.l0 kq a0 x5_1 t334 (t334.length:Int) x16_1 = some r)∧Aside0 (kq≤k)∧Aside0 (Kd.N k33 33 w' w.heap.size (fun _=>True) (.slice Ao9 t334.length co9) t334)∧Aside0 (Below w.heap.size w w'))
  case atStart=>exact ⟨(0),(0),(by first|rfl|(simp;done)|(simp [*];done)),(by first|rfl|(simp;done)|(simp [*];done)),H',⟨Nat.le_refl _⟩,⟨by apply zN_;exact HO336.out⟩,⟨by exact zB_ HB.out⟩⟩
  case round =>
   clear H'
   (try clear c1);(try clear c2);(try clear p2);(try clear c3);(try clear c4);(try clear c4b0)
   obtain ⟨x5_1,x16_1,rfl,rfl,HA,HK1,HO_14,HB⟩:=hrel
   cases gk with
   | zero=>exact absurd HA.out (by simp [impl_RootlessRoots.l0])
   | succ k1 =>
    have H:=HA.out
    clear HA
    simp only [impl_RootlessRoots.l0] at H
    by_cases c10:x16_1 < (t334.length:Int)
    ·rw [if_pos c10] at H
     have c10b0:decide (x16_1 < (t334.length:Int)) = true:=zO c10
     clear c10
     by_cases c11:0≤x16_1
     ·rw [if_pos c11] at H
      have c11b0:decide (0≤x16_1) = true:=zO c11
      clear c11
      by_cases c12:x16_1 < (t334.length:Int)
      ·rw [if_pos c12] at H
       have c12b0:decide (x16_1 < (t334.length:Int)) = true:=zO c12
       clear c12
       replace H:=zz0 H
       obtain ⟨t339,A130,H⟩:=H
       try dsimp only at H
       have A13:=zA A130
       clear A130
       by_cases c14:t339 = 0
       ·rw [if_pos c14] at H
        exact absurd H (by simp)
       ·rw [if_neg c14] at H
        have c14b0:(t339 == 0) = false:=beq_eq_false_iff_ne.mpr c14
        have c14b1:(t339 != 0) = true:=bne_iff_ne.mpr c14
        have H':=zA H
        clear H
        have p337:0≤(x16_1:Int):=zE (by with_reducible assumption)
        have q337:x16_1 < (t334.length:Int):=zE (by with_reducible assumption)
        obtain ⟨ad337,A337_0,c337_0,A337_1,c337_1,e337,hx337_0,hx337_1,hl337_0,hi337_0,hl337_1,hi337_1⟩:=at_T33 (Kd.N_reads' HO_14.out).2.2 x16_1 p337 q337
        cases e337
        obtain ⟨ce337,hce337,hMe337,hcc337⟩:=Kd.N_get HO_14.out z33 x16_1 p337 (by first|exact q337|exact zE (by with_reducible assumption)|(have e_:=(Kd.N_reads' HO_14.out).1;omega))
        obtain ⟨ua337_0,uc337_0,ua337_1,uc337_1,rfl,ul337_0,ge337_0,ul337_1,ge337_1⟩:=k33_openF hMe337
        have hv337_0:=hcc337 0 _ rfl
        rw [Nat.add_zero] at hv337_0
        replace hv337_0:=zS (hv337_0.symm.trans hx337_0)
        injection hv337_0 with hva_ hvn_ hvc_
        rw [hva_] at ge337_0
        rw [hvc_] at ul337_0
        have HL337_0:=zA (show Kd.V (Kd.int .i64) 3 _ w.heap.size _ _ ((rd_T33 t334 x16_1).f0) from Kd.V_mk ul337_0 ge337_0)
        clear hva_ hvn_ hvc_ ge337_0 ul337_0
        have hv337_1:=hcc337 1 _ rfl
        rw [add_field _ _ 1 (by omega)] at hv337_1
        replace hv337_1:=zS (hv337_1.symm.trans hx337_1)
        injection hv337_1 with hva_ hvn_ hvc_
        rw [hva_] at ge337_1
        rw [hvc_] at ul337_1
        have HL337_1:=zA (show Kd.V (Kd.int .i64) 3 _ w.heap.size _ _ ((rd_T33 t334 x16_1).f1) from Kd.V_mk ul337_1 ge337_1)
        clear hva_ hvn_ hvc_ ge337_1 ul337_1 hcc337 hce337
        have HR337_0:=zA hi337_0
        have HC337_0:=zA hl337_0
        clear hi337_0 hl337_0
        have HR337_1:=zA hi337_1
        have HC337_1:=zA hl337_1
        clear hi337_1 hl337_1
        replace p337:=eq_true p337
        replace q337:=eq_true q337
        go_wp2_with (first|((with_reducible refine gate_dst (N:=7) rfl ?_);refine box_event ?hg (N:=7) ?hd (cs:=#[.slice none 0 0,.slice none 0 0]) (t:=33) ?hr ?_;(case hd=>rfl);(case hg=>rfl);(case hr=>first|(go_simp;done)|(go_simp;rfl));intro gb338 hg w15 hbox hb;have n0_:=zA (Kd.N_below (Kd.N_elderB (by apply zN_;exact HO_14.out) gb338 (Nat.le_of_eq hg.symm)) hb);have n1_:=zA (Kd.V_below (Kd.V_elderB (by apply zV_;exact HL337_0.out) gb338 (Nat.le_of_eq hg.symm)) hb);have n2_:=zA (Kd.V_below (Kd.V_elderB (by apply zV_;exact HL337_1.out) gb338 (Nat.le_of_eq hg.symm)) hb);have n3_:=zA (zW (by repeat (first|(with_reducible exact HR337_0.out)|apply zC_|exact HR337_0.out)) hb);have n4_:=zA (zW (by repeat (first|(with_reducible exact HR337_1.out)|apply zC_|exact HR337_1.out)) hb);have n5_:=zA (zR (by exact zB_ HB.out) hb);have n6_:=zA (hbox);have n7_:=zA ((by rw [hg];exact (zQ (by exact zB_ HB.out)):w.heap.size≤gb338));have n8_:=zA ((by rw [hg];exact (zQ (by exact zB_ HB.out)):w.heap.size≤gb338));clear HO_14;clear HL337_0;clear HL337_1;clear HR337_0;clear HR337_1;clear HB;have HO_14:=n0_;have HL337_0:=n1_;have HL337_1:=n2_;have HR337_0:=n3_;have HR337_1:=n4_;have HB:=n5_;have BK338:=n6_;have GW338:=n7_;have GE338:=n8_;clear n0_ n1_ n2_ n3_ n4_ n5_ n6_ n7_ n8_;clear hb hbox hg;have hcz16_0:w15.cell? ⟨gb338,0,none⟩ = some (.slice none 0 0):=(zT BK338.out 0).trans rfl;have hcz16_1:w15.cell? ⟨gb338,1,none⟩ = some (.slice none 0 0):=(zT BK338.out 1).trans rfl;have hfz16_0:=zZ BK338.out 0;have hfz16_1:=zZ BK338.out 1)|((with_reducible refine gate_callee (f:=53) rfl ?_);refine goesL_ (some 24) rfl rfl Try.func53 (by kernel_rfl) rfl #[.agg #[.slice A337_0 ((rd_T33 t334 x16_1).f0).length c337_0,.slice A337_1 ((rd_T33 t334 x16_1).f1).length c337_1]] rfl (by (try simp only [zJ,zM,zN]);first|done|rfl|(simp only [zL,zK];rfl)) ?_;(with_reducible refine (impl_MapTurns.calls k1 _ _ ((rd_T33 t334 x16_1).f0) _ _ ((rd_T33 t334 x16_1).f1) t339 _ ?side1 ?side2 ?side3 ?side4 A13.out).mono ?_);(case side1=>repeat (first|exact ((zk (by apply zV_;exact (Kd.V_mono (Kd.V_far (p:=⟨gb338,1,none⟩) (Kd.V_far (p:=⟨gb338,0,none⟩) (Kd.V_mono HL337_0.out (fun k_ hk=>(⟨hk,hk.2⟩:_∧k_≠gb338))) (fun _ hk=>hk.2) (.slice A337_0 ((rd_T33 t334 x16_1).f0).length c337_0)) (fun _ hk=>hk.2) (.slice A337_1 ((rd_T33 t334 x16_1).f1).length c337_1)) (fun _ h_=>h_.1)))).2.2)|apply zC_));(case side2=>exact HC337_0.out);(case side3=>repeat (first|exact ((zk (by apply zV_;exact (Kd.V_mono (Kd.V_far (p:=⟨gb338,1,none⟩) (Kd.V_far (p:=⟨gb338,0,none⟩) (Kd.V_mono HL337_1.out (fun k_ hk=>(⟨hk,hk.2⟩:_∧k_≠gb338))) (fun _ hk=>hk.2) (.slice A337_0 ((rd_T33 t334 x16_1).f0).length c337_0)) (fun _ hk=>hk.2) (.slice A337_1 ((rd_T33 t334 x16_1).f1).length c337_1)) (fun _ h_=>h_.1)))).2.2)|apply zC_));(case side4=>exact HC337_1.out);rintro e w17 ⟨rfl,hb⟩;refine ⟨_,rfl,?_⟩;have n0_:=zA (Kd.N_below (by apply zN_;exact (Kd.N_mono (Kd.N_far (p:=⟨gb338,1,none⟩) (Kd.N_far (p:=⟨gb338,0,none⟩) (Kd.N_mono HO_14.out (fun k_ hk=>(⟨hk,hk.2⟩:_∧k_≠gb338))) (fun _ hk=>hk.2) (.slice A337_0 ((rd_T33 t334 x16_1).f0).length c337_0)) (fun _ hk=>hk.2) (.slice A337_1 ((rd_T33 t334 x16_1).f1).length c337_1)) (fun _ h_=>h_.1))) hb);have n1_:=zA (Kd.V_below (by apply zV_;exact (Kd.V_mono (Kd.V_far (p:=⟨gb338,1,none⟩) (Kd.V_far (p:=⟨gb338,0,none⟩) (Kd.V_mono HL337_0.out (fun k_ hk=>(⟨hk,hk.2⟩:_∧k_≠gb338))) (fun _ hk=>hk.2) (.slice A337_0 ((rd_T33 t334 x16_1).f0).length c337_0)) (fun _ hk=>hk.2) (.slice A337_1 ((rd_T33 t334 x16_1).f1).length c337_1)) (fun _ h_=>h_.1))) hb);have n2_:=zA (Kd.V_below (by apply zV_;exact (Kd.V_mono (Kd.V_far (p:=⟨gb338,1,none⟩) (Kd.V_far (p:=⟨gb338,0,none⟩) (Kd.V_mono HL337_1.out (fun k_ hk=>(⟨hk,hk.2⟩:_∧k_≠gb338))) (fun _ hk=>hk.2) (.slice A337_0 ((rd_T33 t334 x16_1).f0).length c337_0)) (fun _ hk=>hk.2) (.slice A337_1 ((rd_T33 t334 x16_1).f1).length c337_1)) (fun _ h_=>h_.1))) hb);have n3_:=zA (zW ((zk (by apply zV_;exact (Kd.V_mono (Kd.V_far (p:=⟨gb338,1,none⟩) (Kd.V_far (p:=⟨gb338,0,none⟩) (Kd.V_mono HL337_0.out (fun k_ hk=>(⟨hk,hk.2⟩:_∧k_≠gb338))) (fun _ hk=>hk.2) (.slice A337_0 ((rd_T33 t334 x16_1).f0).length c337_0)) (fun _ hk=>hk.2) (.slice A337_1 ((rd_T33 t334 x16_1).f1).length c337_1)) (fun _ h_=>h_.1)))).2.2) hb);have n4_:=zA (zW ((zk (by apply zV_;exact (Kd.V_mono (Kd.V_far (p:=⟨gb338,1,none⟩) (Kd.V_far (p:=⟨gb338,0,none⟩) (Kd.V_mono HL337_1.out (fun k_ hk=>(⟨hk,hk.2⟩:_∧k_≠gb338))) (fun _ hk=>hk.2) (.slice A337_0 ((rd_T33 t334 x16_1).f0).length c337_0)) (fun _ hk=>hk.2) (.slice A337_1 ((rd_T33 t334 x16_1).f1).length c337_1)) (fun _ h_=>h_.1)))).2.2) hb);have n5_:=zA (zX (g:=gb338) (o:=.cells #[.slice A337_0 ((rd_T33 t334 x16_1).f0).length c337_0,.slice A337_1 ((rd_T33 t334 x16_1).f1).length c337_1] 33 (0,0)) (by (with_reducible repeat (first|refine zG ?_ _|refine zI ?_|refine zH ?_ _));refine blk_put (cs:=#[.slice A337_0 ((rd_T33 t334 x16_1).f0).length c337_0,.slice none 0 0]) ?_ 1 _ rfl;(with_reducible repeat (first|refine zG ?_ _|refine zI ?_|refine zH ?_ _));refine blk_put (cs:=#[.slice none 0 0,.slice none 0 0]) ?_ 0 _ rfl;(with_reducible repeat (first|refine zG ?_ _|refine zI ?_|refine zH ?_ _));exact BK338.out) hb);have n6_:=zA (zR (by repeat (first|(with_reducible first|exact HB.out|apply zD|apply zB|apply zC|refine zF ?_ GE338.out)|exact HB.out)) hb);clear HO_14;clear HL337_0;clear HL337_1;clear HR337_0;clear HR337_1;clear BK338;clear HB;have HO_14:=n0_;have HL337_0:=n1_;have HL337_1:=n2_;have HR337_0:=n3_;have HR337_1:=n4_;have BK338:=n5_;have HB:=n6_;clear n0_ n1_ n2_ n3_ n4_ n5_ n6_;(try clear hb);(try clear hb2);(try clear hk);(try clear hi)))
        go_roundg k1
        case measure=>have:=HK1.out;omega
        case rel=>exact ⟨(wrap64 (x5_1+(wrap64 (Int.tdiv (wrap64 (2 * a0)) t339)))),(wrap64 (x16_1+1)),(by first|rfl|(simp;done)|(simp [*];done)),(by first|rfl|(simp;done)|(simp [*];done)),H',⟨by have:=HK1.out;omega⟩,⟨by apply zN_;exact Kd.N_mono HO_14.out (fun _ hk=>trivial)⟩,⟨by repeat (first|(with_reducible first|exact HB.out|apply zD|apply zB|apply zC|refine zF ?_ GE338.out)|exact HB.out)⟩⟩
      ·rw [if_neg c12] at H
       exact absurd H (by simp)
     ·rw [if_neg c11] at H
      exact absurd H (by simp)
    ·rw [if_neg c10] at H
     have c10b0:decide (x16_1 < (t334.length:Int)) = false:=zP c10
     clear c10
     obtain rfl:=zS H
     go_wp2
     go_ret
     exact ⟨by first|rfl|(simp [errW_none,errW_some] <;> rfl)|(simp [*,errW_none,errW_some] <;> rfl),by exact zB_ HB.out⟩

/-! ### spec_l6In: function 40 -/
def spec_l6In.f (a0:Int) (a1:Int) (a2:Int):Option (Bool):=if a0 ≥ a1 then (some (decide (a0≤a2))) else (some false)
set_option maxHeartbeats 8000000 in
set_option maxRecDepth 100000 in
theorem spec_l6In.calls (a0:Int) (a1:Int) (a2:Int) (r:Bool) (w:World) (h:spec_l6In.f a0 a1 a2 = some r) :
  Calls Try.prog 40 #[.int .i64 a0,.int .i64 a1,.int .i64 a2] w fun e w'=>e = .returned (.bool r)∧Drawn0 w w':=by
 have H:(if a0 ≥ a1 then (some (decide (a0≤a2))) else (some false)) = some r:=h
 clear h
 by_cases c4:a0 ≥ a1
 ·rw [if_pos c4] at H
  have c4b0:decide (a1≤a0) = true:=zO c4
  clear c4
  obtain rfl:=zS H
  go_enter Try.func40,Try.ntmps40
  go_wp2
  go_ret
  exact ⟨by first|rfl|(simp;done)|(simp [*];done),by repeat (first|exact Drawn0.refl _|apply Drawn0.step)⟩
 ·rw [if_neg c4] at H
  have c4b0:decide (a1≤a0) = false:=zP c4
  clear c4
  obtain rfl:=zS H
  go_enter Try.func40,Try.ntmps40
  go_wp2
  go_ret
  exact ⟨by first|rfl|(simp;done)|(simp [*];done),by repeat (first|exact Drawn0.refl _|apply Drawn0.step)⟩

/-! ### spec_l2Order: function 98 -/
def spec_l2Order.l0:Nat→List Int→List Int→Int→Option (Int)
 | 0,_,_,_=>none
 | k+1,x0,x1,x5=>if x5 < (x0.length:Int) then (if 0≤x5 then (if x5 < (x1.length:Int) then (if (rd x0 x5) < (rd x1 x5) then (some (-1)) else (if (rd x0 x5) > (rd x1 x5) then (some 1) else (spec_l2Order.l0 k x0 x1 (wrap64 (x5+1))))) else (none)) else (none)) else (some 0)
def spec_l2Order.f (k:Nat) (l0:List Int) (l1:List Int):Option (Int):=spec_l2Order.l0 k l0 l1 0
theorem spec_l2Order.mono_l:∀ k,(∀ y0 y1 y2,LeO (spec_l2Order.l0 k y0 y1 y2) (spec_l2Order.l0 (k+1) y0 y1 y2))
 | 0=>fun _ _ _ r h=>by simp [spec_l2Order.l0] at h
 | k+1=>by
  have ih0:=spec_l2Order.mono_l k
  ·intro y0 y1 y2
   unfold spec_l2Order.l0
   repeat' first
   | (with_reducible exact ih0 _ _ _)
   | (with_reducible exact LeO.refl _)
   | (with_reducible exact za _)
   | (with_reducible refine zc ?_ ?_)
   | (with_reducible refine zb ?_ (fun _=>?_))
theorem spec_l2Order.mono:∀ a0 a1 k,LeO (spec_l2Order.f k a0 a1) (spec_l2Order.f (k+1) a0 a1):=by
 intro a0 a1 k
 have ih0:=spec_l2Order.mono_l k
 unfold spec_l2Order.f
 repeat' first
   | (with_reducible exact ih0 _ _ _)
   | (with_reducible exact LeO.refl _)
   | (with_reducible exact za _)
   | (with_reducible refine zc ?_ ?_)
   | (with_reducible refine zb ?_ (fun _=>?_))
set_option maxHeartbeats 8000000 in
set_option maxRecDepth 100000 in
theorem spec_l2Order.calls (k:Nat) (A0:Option Addr) (c0:Nat) (l0:List Int) (A1:Option Addr) (c1:Nat) (l1:List Int) (r:Int) (w:World) (hr0:Kd.C (Kd.int .i64) w A0 l0.length l0) (hc0:l0.length≤c0) (hr1:Kd.C (Kd.int .i64) w A1 l1.length l1) (hc1:l1.length≤c1) (h:spec_l2Order.f k l0 l1 = some r) :
  Calls Try.prog 98 #[.slice A0 l0.length c0,.slice A1 l1.length c1] w fun e w'=>e = .returned (.int .i64 r)∧Drawn0 w w':=by
 have HR0:=zA hr0
 have HC0:=zA hc0
 clear hr0 hc0
 have HR1:=zA hr1
 have HC1:=zA hc1
 clear hr1 hc1
 have H:(spec_l2Order.l0 k l0 l1 0) = some r:=h
 clear h
 have H':=zA H
 clear H
 go_enter Try.func98,Try.ntmps98
 go_wp2
 repeat (go_quiet (fail);try go_wp2)
 go_loopg [5] k (fun kq v5 w' => ∃ (x5_1:Int),v5 = .int .i64 x5_1∧Aside0 (spec_l2Order.l0 kq l0 l1 x5_1 = some r)∧Aside0 (kq≤k)∧Drawn0 w w')
 case atStart=>exact ⟨(0),(by first|rfl|(simp;done)|(simp [*];done)),H',⟨Nat.le_refl _⟩,by repeat (first|exact Drawn0.refl _|apply Drawn0.step)⟩
 case round =>
  clear H'
  (try clear c1);(try clear p2)
  obtain ⟨x5_1,rfl,HA,HK1,⟨m1,rfl⟩⟩:=hrel
  cases gk with
  | zero=>exact absurd HA.out (by simp [spec_l2Order.l0])
  | succ k1 =>
   have H:=HA.out
   clear HA
   simp only [spec_l2Order.l0] at H
   by_cases c3:x5_1 < (l0.length:Int)
   ·rw [if_pos c3] at H
    have c3b0:decide (x5_1 < (l0.length:Int)) = true:=zO c3
    clear c3
    by_cases c4:0≤x5_1
    ·rw [if_pos c4] at H
     have c4b0:decide (0≤x5_1) = true:=zO c4
     clear c4
     by_cases c5:x5_1 < (l1.length:Int)
     ·rw [if_pos c5] at H
      have c5b0:decide (x5_1 < (l1.length:Int)) = true:=zO c5
      clear c5
      by_cases c6:(rd l0 x5_1) < (rd l1 x5_1)
      ·rw [if_pos c6] at H
       have c6b0:decide ((rd l0 x5_1) < (rd l1 x5_1)) = true:=zO c6
       clear c6
       obtain rfl:=zS H
       have p340:0≤(x5_1:Int):=zE (by with_reducible assumption)
       have q340:x5_1 < (l0.length:Int):=zE (by with_reducible assumption)
       obtain ⟨ad340,e340,hx340_0⟩:=Kd.at_int HR0.out x5_1 p340 q340
       cases e340
       replace p340:=eq_true p340
       replace q340:=eq_true q340
       have p341:0≤(x5_1:Int):=zE (by with_reducible assumption)
       have q341:x5_1 < (l1.length:Int):=zE (by with_reducible assumption)
       obtain ⟨ad341,e341,hx341_0⟩:=Kd.at_int HR1.out x5_1 p341 q341
       cases e341
       replace p341:=eq_true p341
       replace q341:=eq_true q341
       go_wp2
       repeat (go_quiet (fail);try go_wp2)
       go_ret
       exact ⟨by first|rfl|(simp;done)|(simp [*];done),by repeat (first|exact Drawn0.refl _|apply Drawn0.step)⟩
      ·rw [if_neg c6] at H
       have c6b0:decide ((rd l0 x5_1) < (rd l1 x5_1)) = false:=zP c6
       clear c6
       by_cases c7:(rd l0 x5_1) > (rd l1 x5_1)
       ·rw [if_pos c7] at H
        have c7b0:decide ((rd l1 x5_1) < (rd l0 x5_1)) = true:=zO c7
        clear c7
        obtain rfl:=zS H
        have p340:0≤(x5_1:Int):=zE (by with_reducible assumption)
        have q340:x5_1 < (l0.length:Int):=zE (by with_reducible assumption)
        obtain ⟨ad340,e340,hx340_0⟩:=Kd.at_int HR0.out x5_1 p340 q340
        cases e340
        replace p340:=eq_true p340
        replace q340:=eq_true q340
        have p341:0≤(x5_1:Int):=zE (by with_reducible assumption)
        have q341:x5_1 < (l1.length:Int):=zE (by with_reducible assumption)
        obtain ⟨ad341,e341,hx341_0⟩:=Kd.at_int HR1.out x5_1 p341 q341
        cases e341
        replace p341:=eq_true p341
        replace q341:=eq_true q341
        have p342:0≤(x5_1:Int):=zE (by with_reducible assumption)
        have q342:x5_1 < (l0.length:Int):=zE (by with_reducible assumption)
        obtain ⟨ad342,e342,hx342_0⟩:=Kd.at_int HR0.out x5_1 p342 q342
        obtain rfl:ad340 = ad342:=(by injection e342)
        replace p342:=eq_true p342
        replace q342:=eq_true q342
        have p343:0≤(x5_1:Int):=zE (by with_reducible assumption)
        have q343:x5_1 < (l1.length:Int):=zE (by with_reducible assumption)
        obtain ⟨ad343,e343,hx343_0⟩:=Kd.at_int HR1.out x5_1 p343 q343
        obtain rfl:ad341 = ad343:=(by injection e343)
        replace p343:=eq_true p343
        replace q343:=eq_true q343
        go_wp2
        repeat (go_quiet (fail);try go_wp2)
        go_ret
        exact ⟨by first|rfl|(simp;done)|(simp [*];done),by repeat (first|exact Drawn0.refl _|apply Drawn0.step)⟩
       ·rw [if_neg c7] at H
        have c7b0:decide ((rd l1 x5_1) < (rd l0 x5_1)) = false:=zP c7
        clear c7
        have H':=zA H
        clear H
        have p340:0≤(x5_1:Int):=zE (by with_reducible assumption)
        have q340:x5_1 < (l0.length:Int):=zE (by with_reducible assumption)
        obtain ⟨ad340,e340,hx340_0⟩:=Kd.at_int HR0.out x5_1 p340 q340
        cases e340
        replace p340:=eq_true p340
        replace q340:=eq_true q340
        have p341:0≤(x5_1:Int):=zE (by with_reducible assumption)
        have q341:x5_1 < (l1.length:Int):=zE (by with_reducible assumption)
        obtain ⟨ad341,e341,hx341_0⟩:=Kd.at_int HR1.out x5_1 p341 q341
        cases e341
        replace p341:=eq_true p341
        replace q341:=eq_true q341
        have p342:0≤(x5_1:Int):=zE (by with_reducible assumption)
        have q342:x5_1 < (l0.length:Int):=zE (by with_reducible assumption)
        obtain ⟨ad342,e342,hx342_0⟩:=Kd.at_int HR0.out x5_1 p342 q342
        obtain rfl:ad340 = ad342:=(by injection e342)
        replace p342:=eq_true p342
        replace q342:=eq_true q342
        have p343:0≤(x5_1:Int):=zE (by with_reducible assumption)
        have q343:x5_1 < (l1.length:Int):=zE (by with_reducible assumption)
        obtain ⟨ad343,e343,hx343_0⟩:=Kd.at_int HR1.out x5_1 p343 q343
        obtain rfl:ad341 = ad343:=(by injection e343)
        replace p343:=eq_true p343
        replace q343:=eq_true q343
        go_wp2
        repeat (go_quiet (fail);try go_wp2)
        go_roundg k1
        case measure=>have:=HK1.out;omega
        case rel=>exact ⟨(wrap64 (x5_1+1)),(by first|rfl|(simp;done)|(simp [*];done)),H',⟨by have:=HK1.out;omega⟩,by repeat (first|exact Drawn0.refl _|apply Drawn0.step)⟩
     ·rw [if_neg c5] at H
      exact absurd H (by simp)
    ·rw [if_neg c4] at H
     exact absurd H (by simp)
   ·rw [if_neg c3] at H
    have c3b0:decide (x5_1 < (l0.length:Int)) = false:=zP c3
    clear c3
    obtain rfl:=zS H
    go_wp2
    repeat (go_quiet (fail);try go_wp2)
    go_ret
    exact ⟨by first|rfl|(simp;done)|(simp [*];done),by repeat (first|exact Drawn0.refl _|apply Drawn0.step)⟩

/-! ### spec_l2Before: function 83 -/
def spec_l2Before.f (k:Nat) (l0_0:List Int) (l0_1:List Int) (l1_0:List Int) (l1_1:List Int):Option (Int):=(spec_l2Order.f k l0_0 l1_0).bind fun t346=>(if t346 = 0 then ((spec_l2Order.f k l0_1 l1_1).bind fun t347=>(some t347)) else (some t346))
theorem spec_l2Before.mono:∀ a0 a1 a2 a3 k,LeO (spec_l2Before.f k a0 a1 a2 a3) (spec_l2Before.f (k+1) a0 a1 a2 a3):=by
 intro a0 a1 a2 a3 k
 unfold spec_l2Before.f
 repeat' first
   | (with_reducible exact spec_l2Order.mono _ _ _)
   | (with_reducible exact LeO.refl _)
   | (with_reducible exact za _)
   | (with_reducible refine zc ?_ ?_)
   | (with_reducible refine zb ?_ (fun _=>?_))
set_option maxHeartbeats 8000000 in
set_option maxRecDepth 100000 in
theorem spec_l2Before.calls (k:Nat) (A0_0:Option Addr) (c0_0:Nat) (l0_0:List Int) (A0_1:Option Addr) (c0_1:Nat) (l0_1:List Int) (A1_0:Option Addr) (c1_0:Nat) (l1_0:List Int) (A1_1:Option Addr) (c1_1:Nat) (l1_1:List Int) (r:Int) (w:World) (hr0_0:Kd.C (Kd.int .i64) w A0_0 l0_0.length l0_0) (hc0_0:l0_0.length≤c0_0) (hr0_1:Kd.C (Kd.int .i64) w A0_1 l0_1.length l0_1) (hc0_1:l0_1.length≤c0_1) (hr1_0:Kd.C (Kd.int .i64) w A1_0 l1_0.length l1_0) (hc1_0:l1_0.length≤c1_0) (hr1_1:Kd.C (Kd.int .i64) w A1_1 l1_1.length l1_1) (hc1_1:l1_1.length≤c1_1) (h:spec_l2Before.f k l0_0 l0_1 l1_0 l1_1 = some r) :
  Calls Try.prog 83 #[.agg #[.slice A0_0 l0_0.length c0_0,.slice A0_1 l0_1.length c0_1],.agg #[.slice A1_0 l1_0.length c1_0,.slice A1_1 l1_1.length c1_1]] w fun e w'=>e = .returned (.int .i64 r)∧Below w.heap.size w w':=by
 have hu33:=Try.underlying33
 have HR0_0:=zA hr0_0
 have HC0_0:=zA hc0_0
 clear hr0_0 hc0_0
 have HR0_1:=zA hr0_1
 have HC0_1:=zA hc0_1
 clear hr0_1 hc0_1
 have HR1_0:=zA hr1_0
 have HC1_0:=zA hc1_0
 clear hr1_0 hc1_0
 have HR1_1:=zA hr1_1
 have HC1_1:=zA hc1_1
 clear hr1_1 hc1_1
 have HB:=zA (Below.refl w.heap.size w)
 have H:((spec_l2Order.f k l0_0 l1_0).bind fun t346=>(if t346 = 0 then ((spec_l2Order.f k l0_1 l1_1).bind fun t347=>(some t347)) else (some t346))) = some r:=h
 clear h
 replace H:=zz0 H
 obtain ⟨t346,A30,H⟩:=H
 try dsimp only at H
 have A3:=zA A30
 clear A30
 by_cases c4:t346 = 0
 ·rw [if_pos c4] at H
  have c4b0:(t346 == 0) = true:=beq_iff_eq.mpr c4
  have c4b1:(t346 != 0) = false:=bne_eq_false_iff_eq.mpr c4
  clear c4
  replace H:=zz0 H
  obtain ⟨t347,A50,H⟩:=H
  try dsimp only at H
  have A5:=zA A50
  clear A50
  obtain rfl:=zS H
  go_enter Try.func83,Try.ntmps83
  go_wp2_with (first|((with_reducible refine gate_dst (N:=2) rfl ?_);refine box_event ?hg (N:=2) ?hd (cs:=#[.slice A0_0 l0_0.length c0_0,.slice A0_1 l0_1.length c0_1]) (t:=33) ?hr ?_;(case hd=>rfl);(case hg=>rfl);(case hr=>first|(go_simp;done)|(go_simp;rfl));intro gb344 hg w6 hbox hb;have n0_:=zA (zR (by exact zB_ HB.out) hb);have n1_:=zA (hbox);have n2_:=zA ((by rw [hg];exact (zQ (by exact zB_ HB.out)):w.heap.size≤gb344));have n3_:=zA ((by rw [hg];exact (zQ (by exact zB_ HB.out)):w.heap.size≤gb344));clear HB;have HB:=n0_;have BK344:=n1_;have GW344:=n2_;have GE344:=n3_;clear n0_ n1_ n2_ n3_;clear hb hbox hg)|((with_reducible refine gate_dst (N:=3) rfl ?_);refine box_event ?hg (N:=3) ?hd (cs:=#[.slice A1_0 l1_0.length c1_0,.slice A1_1 l1_1.length c1_1]) (t:=33) ?hr ?_;(case hd=>rfl);(case hg=>rfl);(case hr=>first|(go_simp;done)|(go_simp;rfl));intro gb345 hg w7 hbox hb;have n0_:=zA (zX (g:=gb344) (o:=.cells #[.slice A0_0 l0_0.length c0_0,.slice A0_1 l0_1.length c0_1] 33 (0,0)) (by (with_reducible repeat (first|refine zG ?_ _|refine zI ?_|refine zH ?_ _));exact BK344.out) hb);have n1_:=zA (zR (by repeat (first|(with_reducible first|exact HB.out|apply zD|apply zB|apply zC|refine zF ?_ GE344.out)|exact HB.out)) hb);have n2_:=zA (hbox);have n3_:=zA ((by rw [hg];exact (zQ (by repeat (first|(with_reducible first|exact HB.out|apply zD|apply zB|apply zC|refine zF ?_ GE344.out)|exact HB.out))):w.heap.size≤gb345));have n4_:=zA ((by rw [hg];exact (zQ (by repeat (first|(with_reducible first|exact HB.out|apply zD|apply zB|apply zC|refine zF ?_ GE344.out)|exact HB.out))):w.heap.size≤gb345));have n5_:=zA ((by rw [hg];exact Nat.ne_of_lt (blk_lt (g:=gb344) (o:=.cells #[.slice A0_0 l0_0.length c0_0,.slice A0_1 l0_1.length c0_1] 33 (0,0)) (by (with_reducible repeat (first|refine zG ?_ _|refine zI ?_|refine zH ?_ _));exact BK344.out)):gb344≠gb345));have n6_:=zA ((by rw [hg];exact Nat.ne_of_gt (blk_lt (g:=gb344) (o:=.cells #[.slice A0_0 l0_0.length c0_0,.slice A0_1 l0_1.length c0_1] 33 (0,0)) (by (with_reducible repeat (first|refine zG ?_ _|refine zI ?_|refine zH ?_ _));exact BK344.out)):gb345≠gb344));clear BK344;clear HB;have BK344:=n0_;have HB:=n1_;have BK345:=n2_;have GW345:=n3_;have GE345:=n4_;have NB344_345:=n5_;have NB345_344:=n6_;clear n0_ n1_ n2_ n3_ n4_ n5_ n6_;clear hb hbox hg;have hnb8:=NB344_345.out;have hnc8:=NB345_344.out;have hcz9_0:w7.cell? ⟨gb344,0,none⟩ = some (.slice A0_0 l0_0.length c0_0):=(zT BK344.out 0).trans rfl;have hcz9_1:w7.cell? ⟨gb344,1,none⟩ = some (.slice A0_1 l0_1.length c0_1):=(zT BK344.out 1).trans rfl;have hfz9_0:=zZ BK344.out 0;have hfz9_1:=zZ BK344.out 1;have hcz10_0:w7.cell? ⟨gb345,0,none⟩ = some (.slice A1_0 l1_0.length c1_0):=(zT BK345.out 0).trans rfl;have hcz10_1:w7.cell? ⟨gb345,1,none⟩ = some (.slice A1_1 l1_1.length c1_1):=(zT BK345.out 1).trans rfl;have hfz10_0:=zZ BK345.out 0;have hfz10_1:=zZ BK345.out 1)|((with_reducible refine gate_callee (f:=98) rfl ?_);refine goesL_ (some 10) rfl rfl Try.func98 (by kernel_rfl) rfl #[.slice A0_0 l0_0.length c0_0,.slice A1_0 l1_0.length c1_0] rfl (by (try simp only [zJ,zM,zN]);first|done|rfl|(simp only [zL,zK];rfl)) ?_;(with_reducible refine (spec_l2Order.calls k _ _ l0_0 _ _ l1_0 t346 _ ?side1 ?side2 ?side3 ?side4 A3.out).mono ?_);(case side1=>repeat (first|exact (zW HR0_0.out HB.out)|(with_reducible exact HR0_0.out)|apply zC_));(case side2=>exact HC0_0.out);(case side3=>repeat (first|exact (zW HR1_0.out HB.out)|(with_reducible exact HR1_0.out)|apply zC_));(case side4=>exact HC1_0.out);rintro e w' ⟨rfl,⟨nd,rfl⟩⟩;refine ⟨_,rfl,?_⟩)|((with_reducible refine gate_callee (f:=98) rfl ?_);refine goesL_ (some 18) rfl rfl Try.func98 (by kernel_rfl) rfl #[.slice A0_1 l0_1.length c0_1,.slice A1_1 l1_1.length c1_1] rfl (by (try simp only [zJ,zM,zN]);first|done|rfl|(simp only [zL,zK];rfl)) ?_;(with_reducible refine (spec_l2Order.calls k _ _ l0_1 _ _ l1_1 t347 _ ?side1 ?side2 ?side3 ?side4 A5.out).mono ?_);(case side1=>repeat (first|exact (zW HR0_1.out (by repeat (first|(with_reducible first|exact HB.out|apply zD|apply zB|apply zC|refine zF ?_ GE344.out|refine zF ?_ GE345.out)|exact HB.out)))|apply zC_));(case side2=>exact HC0_1.out);(case side3=>repeat (first|exact (zW HR1_1.out (by repeat (first|(with_reducible first|exact HB.out|apply zD|apply zB|apply zC|refine zF ?_ GE344.out|refine zF ?_ GE345.out)|exact HB.out)))|apply zC_));(case side4=>exact HC1_1.out);rintro e w' ⟨rfl,⟨nd,rfl⟩⟩;refine ⟨_,rfl,?_⟩))
  go_ret
  exact ⟨by first|rfl|(simp [errW_none,errW_some] <;> rfl)|(simp [*,errW_none,errW_some] <;> rfl),by repeat (first|(with_reducible first|exact HB.out|apply zD|apply zB|apply zC|refine zF ?_ GE344.out|refine zF ?_ GE345.out)|exact HB.out)⟩
 ·rw [if_neg c4] at H
  have c4b0:(t346 == 0) = false:=beq_eq_false_iff_ne.mpr c4
  have c4b1:(t346 != 0) = true:=bne_iff_ne.mpr c4
  obtain rfl:=zS H
  go_enter Try.func83,Try.ntmps83
  go_wp2_with (first|((with_reducible refine gate_dst (N:=2) rfl ?_);refine box_event ?hg (N:=2) ?hd (cs:=#[.slice A0_0 l0_0.length c0_0,.slice A0_1 l0_1.length c0_1]) (t:=33) ?hr ?_;(case hd=>rfl);(case hg=>rfl);(case hr=>first|(go_simp;done)|(go_simp;rfl));intro gb344 hg w11 hbox hb;have n0_:=zA (zR (by exact zB_ HB.out) hb);have n1_:=zA (hbox);have n2_:=zA ((by rw [hg];exact (zQ (by exact zB_ HB.out)):w.heap.size≤gb344));have n3_:=zA ((by rw [hg];exact (zQ (by exact zB_ HB.out)):w.heap.size≤gb344));clear HB;have HB:=n0_;have BK344:=n1_;have GW344:=n2_;have GE344:=n3_;clear n0_ n1_ n2_ n3_;clear hb hbox hg)|((with_reducible refine gate_dst (N:=3) rfl ?_);refine box_event ?hg (N:=3) ?hd (cs:=#[.slice A1_0 l1_0.length c1_0,.slice A1_1 l1_1.length c1_1]) (t:=33) ?hr ?_;(case hd=>rfl);(case hg=>rfl);(case hr=>first|(go_simp;done)|(go_simp;rfl));intro gb345 hg w12 hbox hb;have n0_:=zA (zX (g:=gb344) (o:=.cells #[.slice A0_0 l0_0.length c0_0,.slice A0_1 l0_1.length c0_1] 33 (0,0)) (by (with_reducible repeat (first|refine zG ?_ _|refine zI ?_|refine zH ?_ _));exact BK344.out) hb);have n1_:=zA (zR (by repeat (first|(with_reducible first|exact HB.out|apply zD|apply zB|apply zC|refine zF ?_ GE344.out)|exact HB.out)) hb);have n2_:=zA (hbox);have n3_:=zA ((by rw [hg];exact (zQ (by repeat (first|(with_reducible first|exact HB.out|apply zD|apply zB|apply zC|refine zF ?_ GE344.out)|exact HB.out))):w.heap.size≤gb345));have n4_:=zA ((by rw [hg];exact (zQ (by repeat (first|(with_reducible first|exact HB.out|apply zD|apply zB|apply zC|refine zF ?_ GE344.out)|exact HB.out))):w.heap.size≤gb345));have n5_:=zA ((by rw [hg];exact Nat.ne_of_lt (blk_lt (g:=gb344) (o:=.cells #[.slice A0_0 l0_0.length c0_0,.slice A0_1 l0_1.length c0_1] 33 (0,0)) (by (with_reducible repeat (first|refine zG ?_ _|refine zI ?_|refine zH ?_ _));exact BK344.out)):gb344≠gb345));have n6_:=zA ((by rw [hg];exact Nat.ne_of_gt (blk_lt (g:=gb344) (o:=.cells #[.slice A0_0 l0_0.length c0_0,.slice A0_1 l0_1.length c0_1] 33 (0,0)) (by (with_reducible repeat (first|refine zG ?_ _|refine zI ?_|refine zH ?_ _));exact BK344.out)):gb345≠gb344));clear BK344;clear HB;have BK344:=n0_;have HB:=n1_;have BK345:=n2_;have GW345:=n3_;have GE345:=n4_;have NB344_345:=n5_;have NB345_344:=n6_;clear n0_ n1_ n2_ n3_ n4_ n5_ n6_;clear hb hbox hg;have hnb13:=NB344_345.out;have hnc13:=NB345_344.out;have hcz14_0:w12.cell? ⟨gb344,0,none⟩ = some (.slice A0_0 l0_0.length c0_0):=(zT BK344.out 0).trans rfl;have hcz14_1:w12.cell? ⟨gb344,1,none⟩ = some (.slice A0_1 l0_1.length c0_1):=(zT BK344.out 1).trans rfl;have hfz14_0:=zZ BK344.out 0;have hfz14_1:=zZ BK344.out 1;have hcz15_0:w12.cell? ⟨gb345,0,none⟩ = some (.slice A1_0 l1_0.length c1_0):=(zT BK345.out 0).trans rfl;have hcz15_1:w12.cell? ⟨gb345,1,none⟩ = some (.slice A1_1 l1_1.length c1_1):=(zT BK345.out 1).trans rfl;have hfz15_0:=zZ BK345.out 0;have hfz15_1:=zZ BK345.out 1)|((with_reducible refine gate_callee (f:=98) rfl ?_);refine goesL_ (some 10) rfl rfl Try.func98 (by kernel_rfl) rfl #[.slice A0_0 l0_0.length c0_0,.slice A1_0 l1_0.length c1_0] rfl (by (try simp only [zJ,zM,zN]);first|done|rfl|(simp only [zL,zK];rfl)) ?_;(with_reducible refine (spec_l2Order.calls k _ _ l0_0 _ _ l1_0 t346 _ ?side1 ?side2 ?side3 ?side4 A3.out).mono ?_);(case side1=>repeat (first|exact (zW HR0_0.out HB.out)|(with_reducible exact HR0_0.out)|apply zC_));(case side2=>exact HC0_0.out);(case side3=>repeat (first|exact (zW HR1_0.out HB.out)|(with_reducible exact HR1_0.out)|apply zC_));(case side4=>exact HC1_0.out);rintro e w' ⟨rfl,⟨nd,rfl⟩⟩;refine ⟨_,rfl,?_⟩))
  go_ret
  exact ⟨by first|rfl|(simp [errW_none,errW_some] <;> rfl)|(simp [*,errW_none,errW_some] <;> rfl),by repeat (first|(with_reducible first|exact HB.out|apply zD|apply zB|apply zC|refine zF ?_ GE344.out|refine zF ?_ GE345.out)|exact HB.out)⟩

end Go.Proofs.Ytdaiohcgdpclnaa.Q
