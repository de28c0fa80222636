import Derived.Test.YtonlecigglbohaaQ0
import Derived.Test.YtonlecigglbohaaQ2
import Derived.Test.YtonlecigglbohaaZ
namespace Go.Proofs.Ytonlecigglbohaa.Q
open Go.RowKit Go.Proofs.YtonlecigglbohaaW.PrintWords Go.Proofs.YtonlecigglbohaaW.PrintLast Go.Proofs.YtonlecigglbohaaW.PrintMore
attribute [local go_sem] max2_int min2_int max_two min_two max_three min_three max_four min_four   -- for this text's walks alone
set_option linter.unusedVariables false
set_option linter.unusedSimpArgs false

/-! ### impl_back: function 99 -/
def impl_back.l0:Nat→List Int→List Int→Int→Int→Option (List Int)
 | 0,_,_,_,_=>none
 | k+1,x3,x9,x10,x11=>if x11 < x10 then (if 0≤x11 then (if x11 < (x9.length:Int) then (if 0≤(rd x9 x11) then (if (rd x9 x11) < (x3.length:Int) then (impl_back.l0 k (x3.set ((rd x9 x11):Int).toNat x11) x9 x10 (wrap64 (x11+1))) else (none)) else (none)) else (none)) else (none)) else (some x3)
def impl_back.f (k:Nat) (l0:List Int):Option (List Int):=if 0≤(l0.length:Int) then (if ((l0.length:Int):Int).toNat≤35184372088832 then (impl_back.l0 k (List.replicate ((l0.length:Int):Int).toNat 0) l0 (l0.length:Int) 0) else (none)) else (none)
theorem impl_back.mono_l:∀ k,(∀ y0 y1 y2 y3,LeO (impl_back.l0 k y0 y1 y2 y3) (impl_back.l0 (k+1) y0 y1 y2 y3))
 | 0=>fun _ _ _ _ r h=>by simp [impl_back.l0] at h
 | k+1=>by
  have ih0:=impl_back.mono_l k
  ·intro y0 y1 y2 y3
   unfold impl_back.l0
   repeat' first
   | (with_reducible exact ih0 _ _ _ _)
   | (with_reducible exact LeO.refl _)
   | (with_reducible exact za _)
   | (with_reducible refine zc ?_ ?_)
   | (with_reducible refine zb ?_ (fun _=>?_))
theorem impl_back.mono:∀ a0 k,LeO (impl_back.f k a0) (impl_back.f (k+1) a0):=by
 intro a0 k
 have ih0:=impl_back.mono_l k
 unfold impl_back.f
 repeat' first
   | (with_reducible exact ih0 _ _ _ _)
   | (with_reducible exact LeO.refl _)
   | (with_reducible exact za _)
   | (with_reducible refine zc ?_ ?_)
   | (with_reducible refine zb ?_ (fun _=>?_))
set_option maxHeartbeats 8000000 in
set_option maxRecDepth 100000 in
theorem impl_back.calls (k:Nat) (A0:Option Addr) (c0:Nat) (l0:List Int) (r:List Int) (w:World) (hr0:Kd.C (Kd.int .i64) w A0 l0.length l0) (hc0:l0.length≤c0) (h:impl_back.f k l0 = some r) :
  Calls Try.prog 99 #[.slice A0 l0.length c0] w fun e w' => ∃ v0_:Value,e = .returned (v0_)∧Kd.R (Kd.int .i64) 3 w' w.heap.size (fun _=>True) v0_ r∧Below w.heap.size w w':=by
 have HR0:=zA hr0
 have HC0:=zA hc0
 clear hr0 hc0
 have HB:=zA (Below.refl w.heap.size w)
 have H:(if 0≤(l0.length:Int) then (if ((l0.length:Int):Int).toNat≤35184372088832 then (impl_back.l0 k (List.replicate ((l0.length:Int):Int).toNat 0) l0 (l0.length:Int) 0) else (none)) else (none)) = some r:=h
 clear h
 by_cases c2:0≤(l0.length:Int)
 ·rw [if_pos c2] at H
  have c2b0:=eq_true c2
  have c2b1:decide (0≤(l0.length:Int)) = true:=zO c2
  clear c2
  by_cases c3:((l0.length:Int):Int).toNat≤35184372088832
  ·rw [if_pos c3] at H
   have c3b0:=eq_true c3
   have c3b1:decide (((l0.length:Int):Int).toNat≤35184372088832) = true:=zO c3
   clear c3
   obtain ⟨y345,hy345⟩:∃ y_:List Int,y_ = (List.replicate ((l0.length:Int):Int).toNat 0):=⟨_,rfl⟩
   replace H:(impl_back.l0 k y345 l0 (l0.length:Int) 0) = some r:=by (try rw [hy345]);first|with_reducible exact H|with_reducible exact zS_ H|exact H
   have Ny345:=zA hy345
   clear hy345
   have H':=zA H
   clear H
   go_enter Try.func99,Try.ntmps99
   go_wp2_with (first|((with_reducible refine gate_dst (N:=8) rfl ?_);refine Kd.R_make (Kd.int .i64) _ 3 rfl (N:=8) rfl 23 _ _ rfl (l0.length:Int) rfl rfl Try.underlying23 (.int .i64 0) 8 info3 rfl (by decide) (by omega) 0 (ok:=fun _=>True) (okp:=fun _=>True) rfl (fun _ hk=>hk) trivial (zE (by with_reducible assumption)) (Nat.le_trans (Nat.mul_le_mul_right _ (zE (by with_reducible assumption):(l0.length:Int).toNat≤35184372088832)) (by omega)) (Below.refl _ _) (Nat.le_refl _) ?_;intro v346 w4 ho5 hb hg_ hnew_;clear hg_ hnew_;(first|rw [← Ny345.out] at ho5|(simp only [Int.reduceToNat] at ho5;rw [← Ny345.out] at ho5));have n0_:=zA (ze ho5 (zQ (by exact zB_ HB.out)));have n1_:=zA (zR (by exact zB_ HB.out) hb);clear HB;have HO347:=n0_;have HB:=n1_;clear n0_ n1_;clear hb ho5))
   go_loopg [11] k (fun kq v11 w' => ∃ (x3_1:List Int) (x11_1:Int),v11 = .int .i64 x11_1∧Aside0 (impl_back.l0 kq x3_1 l0 (l0.length:Int) x11_1 = some r)∧Aside0 (kq≤k)∧Aside0 (Kd.R (Kd.int .i64) 3 w' w.heap.size (fun _=>True) v346 x3_1)∧Aside0 (Below w.heap.size w w'))
   case atStart=>exact ⟨(y345),(0),(by first|rfl|(simp;done)|(simp [*];done)),H',⟨Nat.le_refl _⟩,⟨by apply zR_;exact HO347.out⟩,⟨by exact zB_ HB.out⟩⟩
   case round =>
    clear H'
    (try clear c2);(try clear c2b0);(try clear c2b1);(try clear p2);(try clear c3);(try clear c3b0);(try clear c3b1)
    obtain ⟨x3_1,x11_1,rfl,HA,HK1,HO_3,HB⟩:=hrel
    cases gk with
    | zero=>exact absurd HA.out (by simp [impl_back.l0])
    | succ k1 =>
     have H:=HA.out
     clear HA
     simp only [impl_back.l0] at H
     by_cases c6:x11_1 < (l0.length:Int)
     ·rw [if_pos c6] at H
      have c6b0:decide (x11_1 < (l0.length:Int)) = true:=zO c6
      clear c6
      by_cases c7:0≤x11_1
      ·rw [if_pos c7] at H
       have c7b0:decide (0≤x11_1) = true:=zO c7
       clear c7
       by_cases c8:x11_1 < (l0.length:Int)
       ·rw [if_pos c8] at H
        have c8b0:decide (x11_1 < (l0.length:Int)) = true:=zO c8
        clear c8
        by_cases c9:0≤(rd l0 x11_1)
        ·rw [if_pos c9] at H
         have c9b0:decide (0≤(rd l0 x11_1)) = true:=zO c9
         clear c9
         by_cases c10:(rd l0 x11_1) < (x3_1.length:Int)
         ·rw [if_pos c10] at H
          have c10b0:decide ((rd l0 x11_1) < (x3_1.length:Int)) = true:=zO c10
          clear c10
          obtain ⟨y349,hy349⟩:∃ y_:List Int,y_ = (x3_1.set ((rd l0 x11_1):Int).toNat x11_1):=⟨_,rfl⟩
          replace H:(impl_back.l0 k1 y349 l0 (l0.length:Int) (wrap64 (x11_1+1))) = some r:=by (try rw [hy349]);first|with_reducible exact H|with_reducible exact zS_ H|exact H
          have Ny349:=zA hy349
          clear hy349
          have H':=zA H
          clear H
          have p348:0≤(x11_1:Int):=zE (by with_reducible assumption)
          have q348:x11_1 < (l0.length:Int):=zE (by with_reducible assumption)
          obtain ⟨ad348,e348,hx348_0⟩:=Kd.at_int HR0.out x11_1 p348 q348
          cases e348
          replace hx348_0:=(HB.out.cell (zY w _ hx348_0)).trans hx348_0
          replace p348:=eq_true p348
          replace q348:=eq_true q348
          have p11:0≤((rd l0 x11_1):Int):=zE (by with_reducible assumption)
          have q11:((rd l0 x11_1):Int) < ((x3_1.length:Int):Int):=zE (by with_reducible assumption)
          obtain ⟨go11,co11,eo11,gb11,gl11,cl11,HG11⟩:=Kd.R_form HO_3.out (by omega)
          (first|cases eo11|(injection eo11 with ea_ en_ ec_;(first|subst ea_|(injection ea_ with ea_;subst ea_));subst ec_;clear en_))
          have GB11:=zA gb11
          have GG11:=zA HG11
          clear gb11 gl11 HG11
          obtain ⟨hx11_0,hf11_0⟩:=Kd.R_celln 0 HO_3.out ((rd l0 x11_1):Int) p11 q11
          replace p11:=eq_true p11
          replace q11:=eq_true q11
          have HP12:=Kd.R_putg HO_3.out ((rd l0 x11_1):Int) x11_1
          go_wp2_with (first|((with_reducible refine gate_store (t:=3) (p:=19) rfl ?_);refine store_event (t:=3) (p:=19) (v:=?vo_w13) (w1:=(wr.setCell ⟨go11,((rd l0 x11_1):Int).toNat,none⟩ (.int .i64 x11_1))) ?hg ?ho ?hn ?hr ?_;(case ho=>rfl);(case hg=>rfl);(case hn=>rfl);(case hr=>first|(go_simp;done)|(go_simp;rfl));intro w13 hw;have hg:wr.grownBy w13 (some go11):=(by rw [hw];exact HP12.2);have hp_:Kd.R (Kd.int .i64) 3 w13 w.heap.size (fun _=>True) (.slice (some ⟨go11,0,none⟩) x3_1.length co11) y349:=(by rw [hw,Ny349.out];exact HP12.1);clear HP12;have n0_:=zA (hp_);have n1_:=zA ((by rw [hw];exact zF (HB.out) GB11.out:Below w.heap.size w w13));clear HO_3;clear HB;have HO_3:=n0_;have HB:=n1_;clear n0_ n1_;clear hg hw hp_))
          go_roundg k1
          case measure=>have:=HK1.out;omega
          case rel=>exact ⟨(y349),(wrap64 (x11_1+1)),(by first|rfl|(simp;done)|(simp [*];done)),H',⟨by have:=HK1.out;omega⟩,⟨by apply zR_;exact HO_3.out⟩,⟨by exact zB_ HB.out⟩⟩
         ·rw [if_neg c10] at H
          exact absurd H (by simp)
        ·rw [if_neg c9] at H
         exact absurd H (by simp)
       ·rw [if_neg c8] at H
        exact absurd H (by simp)
      ·rw [if_neg c7] at H
       exact absurd H (by simp)
     ·rw [if_neg c6] at H
      have c6b0:decide (x11_1 < (l0.length:Int)) = false:=zP c6
      clear c6
      obtain rfl:=zS H
      go_wp2
      go_ret
      exact ⟨_,by first|rfl|(simp [errW_none,errW_some] <;> rfl)|(simp [*,errW_none,errW_some] <;> rfl),by apply zR_;exact HO_3.out,by exact zB_ HB.out⟩
  ·rw [if_neg c3] at H
   exact absurd H (by simp)
 ·rw [if_neg c2] at H
  exact absurd H (by simp)

/-! ### impl_renamed: function 117 -/
def impl_renamed.f (k:Nat) (l0_0:List Int) (l0_1:List Int) (l1:List Int):Option (List Int × List Int):=(impl_back.f k l1).bind fun t352=>((impl_mul.f k t352 l0_0).bind fun t355=>((impl_mul.f k t355 l1).bind fun t358=>((impl_back.f k l1).bind fun t361=>((impl_mul.f k t361 l0_1).bind fun t364=>((impl_mul.f k t364 l1).bind fun t367=>(some (t358,t367)))))))
theorem impl_renamed.mono:∀ a0 a1 a2 k,LeO (impl_renamed.f k a0 a1 a2) (impl_renamed.f (k+1) a0 a1 a2):=by
 intro a0 a1 a2 k
 unfold impl_renamed.f
 repeat' first
   | (with_reducible exact impl_back.mono _ _)
   | (with_reducible exact impl_mul.mono _ _ _)
   | (with_reducible exact LeO.refl _)
   | (with_reducible exact za _)
   | (with_reducible refine zc ?_ ?_)
   | (with_reducible refine zb ?_ (fun _=>?_))
def impl_renamed.T1:Bool × List (List Nat × List Nat):=(true,[([],[]),([0],[0]),([],[]),([2],[2]),([1,3,1],[1,3]),([],[]),([4,5,4],[4,5]),([],[]),([7,6],[7]),([],[]),([9],[9]),([8,10,8],[8,10]),([],[]),([11,12,11],[11,12]),([6,13],[6,13]),([14,13,0,1,2,3,4,5,6,7,8,9,10,11,12,13,14],[14])])
def impl_renamed.B1:List Nat:=[0,1,0,4,15,0,63,0,255,0,512,2047,0,8191,16383,32767]
theorem impl_renamed.tab1:rtab .any (opsOf Try.f117 1) = impl_renamed.T1:=by kernel_rfl
theorem impl_renamed.bits1:waitsOk impl_renamed.T1.2 impl_renamed.B1 = true:=by kernel_rfl
set_option maxHeartbeats 8000000 in
set_option maxRecDepth 100000 in
theorem impl_renamed.calls (k:Nat) (A0_0:Option Addr) (c0_0:Nat) (l0_0:List Int) (A0_1:Option Addr) (c0_1:Nat) (l0_1:List Int) (A1:Option Addr) (c1:Nat) (l1:List Int) (r1:List Int) (r2:List Int) (w:World) (hr0_0:Kd.C (Kd.int .i64) w A0_0 l0_0.length l0_0) (hc0_0:l0_0.length≤c0_0) (hr0_1:Kd.C (Kd.int .i64) w A0_1 l0_1.length l0_1) (hc0_1:l0_1.length≤c0_1) (hr1:Kd.C (Kd.int .i64) w A1 l1.length l1) (hc1:l1.length≤c1) (h:impl_renamed.f k l0_0 l0_1 l1 = some (r1,r2)) :
  Calls Try.prog 117 #[.agg #[.slice A0_0 l0_0.length c0_0,.slice A0_1 l0_1.length c0_1],.slice A1 l1.length c1] w fun e w' => ∃ v0_ v1_:Value,e = .returned (.agg #[v0_,v1_])∧Kd.R (Kd.int .i64) 3 w' w.heap.size (fun k_=>some k_≠(v1_:Value).ownBlock) v0_ r1∧Kd.R (Kd.int .i64) 3 w' w.heap.size (fun k_=>some k_≠(v0_:Value).ownBlock) v1_ r2∧Below w.heap.size w w':=by
 have hu27:=Try.underlying27
 have HR0_0:=zA hr0_0
 have HC0_0:=zA hc0_0
 clear hr0_0 hc0_0
 have HR0_1:=zA hr0_1
 have HC0_1:=zA hc0_1
 clear hr0_1 hc0_1
 have HR1:=zA hr1
 have HC1:=zA hc1
 clear hr1 hc1
 have HB:=zA (Below.refl w.heap.size w)
 have H:((impl_back.f k l1).bind fun t352=>((impl_mul.f k t352 l0_0).bind fun t355=>((impl_mul.f k t355 l1).bind fun t358=>((impl_back.f k l1).bind fun t361=>((impl_mul.f k t361 l0_1).bind fun t364=>((impl_mul.f k t364 l1).bind fun t367=>(some (t358,t367)))))))) = some (r1,r2):=h
 clear h
 replace H:=zz0 H
 obtain ⟨t352,A30,H⟩:=H
 try dsimp only at H
 have A3:=zA A30
 clear A30
 replace H:=zz0 H
 obtain ⟨t355,A40,H⟩:=H
 try dsimp only at H
 have A4:=zA A40
 clear A40
 replace H:=zz0 H
 obtain ⟨t358,A50,H⟩:=H
 try dsimp only at H
 have A5:=zA A50
 clear A50
 replace H:=zz0 H
 obtain ⟨t361,A60,H⟩:=H
 try dsimp only at H
 have A6:=zA A60
 clear A60
 replace H:=zz0 H
 obtain ⟨t364,A70,H⟩:=H
 try dsimp only at H
 have A7:=zA A70
 clear A70
 replace H:=zz0 H
 obtain ⟨t367,A80,H⟩:=H
 try dsimp only at H
 have A8:=zA A80
 clear A80
 simp only [Option.some.injEq,Prod.mk.injEq] at H
 obtain ⟨rfl,rfl⟩:=H
 go_enter Try.func117,Try.ntmps117
 try go_wp2_with (first|((with_reducible refine gate_dst (N:=2) rfl ?_);refine box_event ?hg (N:=2) ?hd (cs:=#[.slice A0_0 l0_0.length c0_0,.slice A0_1 l0_1.length c0_1]) (t:=27) ?hr ?_;(case hd=>rfl);(case hg=>rfl);(case hr=>first|(go_simp;done)|(go_simp;rfl));intro gb350 hg w9 hbox hb;have n0_:=zA (zR (by exact zB_ HB.out) hb);have n1_:=zA (hbox);have n2_:=zA ((by rw [hg];exact (zQ (by exact zB_ HB.out)):w.heap.size≤gb350));have n3_:=zA ((by rw [hg];exact (zQ (by exact zB_ HB.out)):w.heap.size≤gb350));clear HB;have HB:=n0_;have BK350:=n1_;have GW350:=n2_;have GE350:=n3_;clear n0_ n1_ n2_ n3_;clear hb hbox hg)|((with_reducible refine gate_dst (N:=4) rfl ?_);refine box_event ?hg (N:=4) ?hd (cs:=#[.slice none 0 0,.slice none 0 0]) (t:=27) ?hr ?_;(case hd=>rfl);(case hg=>rfl);(case hr=>first|(go_simp;done)|(go_simp;rfl));intro gb351 hg w10 hbox hb;have n0_:=zA (zX (g:=gb350) (o:=.cells #[.slice A0_0 l0_0.length c0_0,.slice A0_1 l0_1.length c0_1] 27 (0,0)) (by (with_reducible repeat (first|refine zG ?_ _|refine zI ?_|refine zH ?_ _));exact BK350.out) hb);have n1_:=zA (zR (by repeat (first|(with_reducible first|exact HB.out|apply zD|apply zB|apply zC|refine zF ?_ GE350.out)|exact HB.out)) hb);have n2_:=zA (hbox);have n3_:=zA ((by rw [hg];exact (zQ (by repeat (first|(with_reducible first|exact HB.out|apply zD|apply zB|apply zC|refine zF ?_ GE350.out)|exact HB.out))):w.heap.size≤gb351));have n4_:=zA ((by rw [hg];exact (zQ (by repeat (first|(with_reducible first|exact HB.out|apply zD|apply zB|apply zC|refine zF ?_ GE350.out)|exact HB.out))):w.heap.size≤gb351));have n5_:=zA ((by rw [hg];exact Nat.ne_of_lt (blk_lt (g:=gb350) (o:=.cells #[.slice A0_0 l0_0.length c0_0,.slice A0_1 l0_1.length c0_1] 27 (0,0)) (by (with_reducible repeat (first|refine zG ?_ _|refine zI ?_|refine zH ?_ _));exact BK350.out)):gb350≠gb351));have n6_:=zA ((by rw [hg];exact Nat.ne_of_gt (blk_lt (g:=gb350) (o:=.cells #[.slice A0_0 l0_0.length c0_0,.slice A0_1 l0_1.length c0_1] 27 (0,0)) (by (with_reducible repeat (first|refine zG ?_ _|refine zI ?_|refine zH ?_ _));exact BK350.out)):gb351≠gb350));clear BK350;clear HB;have BK350:=n0_;have HB:=n1_;have BK351:=n2_;have GW351:=n3_;have GE351:=n4_;have NB350_351:=n5_;have NB351_350:=n6_;clear n0_ n1_ n2_ n3_ n4_ n5_ n6_;clear hb hbox hg))
 have n0_:=zA (zI BK350.out)
 have n1_:=zA (zI BK351.out)
 have n2_:=zA (zC HB.out)
 clear BK350 BK351 HB
 have BK350:=n0_
 have BK351:=n1_
 have HB:=n2_
 clear n0_ n1_ n2_
 refine start_ (n:=16) (S:=fun w'=>w'.cell? ⟨gb350,0,none⟩ = some (.slice A0_0 l0_0.length c0_0)∧w'.cell? ⟨gb350,1,none⟩ = some (.slice A0_1 l0_1.length c0_1)) (ds:=[]) #[zf,zf,zf,zf,zf,zf,zf,zf,zf,zf,zf,zf,zf,zf,zf,zf] (by kernel_rfl) rfl rfl ⟨(zT BK350.out 0).trans rfl,(zT BK350.out 1).trans rfl⟩ (fun hHeld=>?_);refine with_tabW impl_renamed.tab1 impl_renamed.bits1 (fun HT_ HW_=>?_)
 generalize w10.drew = w11 at BK350 BK351 HB hHeld ⊢
 refine pure_ (i:=0) (N:=some 5) (v:=?_) (a':=?_) #[zt,zf,zf,zf,zf,zf,zf,zf,zf,zf,zf,zf,zf,zf,zf,zf] rfl rfl (any_of HT_.out (by kernel_rfl)) (fun _ _ _ h=>h) (Or.inl ⟨by rfl,?_⟩) ?_ ?_
 rotate_left
 ·intro w'
  go_simp
  with_reducible rfl
 rotate_left
 ·simp only [Act.put,zP_,i64_w]
  rfl
 refine pure_ (i:=2) (N:=some 7) (v:=?_) (a':=?_) #[zt,zf,zt,zf,zf,zf,zf,zf,zf,zf,zf,zf,zf,zf,zf,zf] rfl rfl (any_of HT_.out (by kernel_rfl)) (fun _ _ _ h=>h) (Or.inl ⟨by rfl,?_⟩) ?_ ?_
 rotate_left
 ·intro w'
  go_simp
  with_reducible rfl
 rotate_left
 ·simp only [Act.put,zP_,i64_w]
  rfl
 refine pure_ (i:=5) (N:=some 10) (v:=?_) (a':=?_) #[zt,zf,zt,zf,zf,zt,zf,zf,zf,zf,zf,zf,zf,zf,zf,zf] rfl rfl (any_of HT_.out (by kernel_rfl)) (fun _ _ _ h=>h) (Or.inl ⟨by rfl,?_⟩) ?_ ?_
 rotate_left
 ·intro w'
  go_simp
  with_reducible rfl
 rotate_left
 ·simp only [Act.put,zP_,i64_w]
  rfl
 refine pure_ (i:=7) (N:=some 12) (v:=?_) (a':=?_) #[zt,zf,zt,zf,zf,zt,zf,zt,zf,zf,zf,zf,zf,zf,zf,zf] rfl rfl (any_of HT_.out (by kernel_rfl)) (fun _ _ _ h=>h) (Or.inl ⟨by rfl,?_⟩) ?_ ?_
 rotate_left
 ·intro w'
  go_simp
  with_reducible rfl
 rotate_left
 ·simp only [Act.put,zP_,i64_w]
  rfl
 refine pure_ (i:=9) (N:=some 14) (v:=?_) (a':=?_) #[zt,zf,zt,zf,zf,zt,zf,zt,zf,zt,zf,zf,zf,zf,zf,zf] rfl rfl (any_of HT_.out (by kernel_rfl)) (fun _ _ _ h=>h) (Or.inl ⟨by rfl,?_⟩) ?_ ?_
 rotate_left
 ·intro w'
  go_simp
  with_reducible rfl
 rotate_left
 ·simp only [Act.put,zP_,i64_w]
  rfl
 refine pure_ (i:=12) (N:=some 17) (v:=?_) (a':=?_) #[zt,zf,zt,zf,zf,zt,zf,zt,zf,zt,zf,zf,zt,zf,zf,zf] rfl rfl (any_of HT_.out (by kernel_rfl)) (fun _ _ _ h=>h) (Or.inl ⟨by rfl,?_⟩) ?_ ?_
 rotate_left
 ·intro w'
  go_simp
  with_reducible rfl
 rotate_left
 ·simp only [Act.put,zP_,i64_w]
  rfl
 refine take_ (i:=3) (N:=some 8) (v:=?_) (a':=?_) #[zt,zf,zt,zt,zf,zt,zf,zt,zf,zt,zf,zf,zt,zf,zf,zf] rfl rfl (take_ofW HT_.out HW_.out (by kernel_rfl)) (fun _ _ _ h=>h) (Or.inl ⟨by rfl,?_⟩) hHeld ?_ ?_
 rotate_left
 ·rintro w' ⟨s0,s1⟩
  go_simp
  with_reducible rfl
 rotate_left
 ·simp only [Act.put,zP_,i64_w]
  rfl
 refine take_ (i:=10) (N:=some 15) (v:=?_) (a':=?_) #[zt,zf,zt,zt,zf,zt,zf,zt,zf,zt,zt,zf,zt,zf,zf,zf] rfl rfl (take_ofW HT_.out HW_.out (by kernel_rfl)) (fun _ _ _ h=>h) (Or.inl ⟨by rfl,?_⟩) hHeld ?_ ?_
 rotate_left
 ·rintro w' ⟨s0,s1⟩
  go_simp
  with_reducible rfl
 rotate_left
 ·simp only [Act.put,zP_,i64_w]
  rfl
 refine one_ (i:=1) (N:=some 6) #[zt,zt,zt,zt,zf,zt,zf,zt,zf,zt,zt,zf,zt,zf,zf,zf] rfl rfl (one_of HT_.out (by kernel_rfl)) (by decide) (fun K hK=>?_)
 refine goes_ Try.func99 (by kernel_rfl) rfl #[.slice A1 l1.length c1] (by rfl) rfl rfl (by (try simp only [zJ,zM,zN]);first|done|rfl|(simp only [zL,zK];rfl)) ?_
 with_reducible refine (impl_back.calls k _ _ l1 t352 _ ?side1 ?side2 A3.out).mono ?_
 (case side1=>repeat (first|exact (zW HR1.out HB.out)|(with_reducible exact HR1.out)|apply zC_))
 (case side2=>exact HC1.out)
 rintro e w12 ⟨v353,rfl,ho0,hb⟩
 refine ⟨_,rfl,?_⟩
 have n0_:=zA (ze ho0 (zQ (by repeat (first|(with_reducible first|exact HB.out|apply zD|apply zB|apply zC|refine zF ?_ GE350.out|refine zF ?_ GE351.out)|exact HB.out))))
 have n1_:=zA (zX (g:=gb350) (o:=.cells #[.slice A0_0 l0_0.length c0_0,.slice A0_1 l0_1.length c0_1] 27 (0,0)) (by (with_reducible repeat (first|refine zG ?_ _|refine zI ?_|refine zH ?_ _));exact BK350.out) hb)
 have n2_:=zA (zX (g:=gb351) (o:=.cells #[.slice none 0 0,.slice none 0 0] 27 (0,0)) (by (with_reducible repeat (first|refine zG ?_ _|refine zI ?_|refine zH ?_ _));exact BK351.out) hb)
 have n3_:=zA (zR (by repeat (first|(with_reducible first|exact HB.out|apply zD|apply zB|apply zC|refine zF ?_ GE350.out|refine zF ?_ GE351.out)|exact HB.out)) hb)
 clear BK350 BK351 HB
 have HO354:=n0_
 have BK350:=n1_
 have BK351:=n2_
 have HB:=n3_
 clear n0_ n1_ n2_ n3_
 (try clear hb);(try clear hb2);(try clear hk);(try clear hi);(try clear ho0)
 obtain ⟨Ao13,co13,eo13⟩:=zg HO354.out
 (first|subst eo13|(injection eo13 with f1_ f2_ f3_;have f4_:=f1_.symm;have f5_:=f3_.symm;clear f1_ f2_ f3_;subst f4_;subst f5_))
 refine hK.out _ _ ⟨(zT BK350.out 0).trans rfl,(zT BK350.out 1).trans rfl⟩ (fun hHeld=>?_)
 clear hK K
 refine norm_ (a':=?_) ?_ ?_
 rotate_left
 ·show Act.put _ (some 6) _ = _
  simp only [Act.put,zP_,i64_w]
  rfl
 refine one_ (i:=4) (N:=some 9) #[zt,zt,zt,zt,zt,zt,zf,zt,zf,zt,zt,zf,zt,zf,zf,zf] rfl rfl (one_of HT_.out (by kernel_rfl)) (by decide) (fun K hK=>?_)
 refine goes_ Try.func86 (by kernel_rfl) rfl #[.slice Ao13 t352.length co13,.slice A0_0 l0_0.length c0_0] (by rfl) rfl rfl (by (try simp only [zJ,zM,zN]);first|done|rfl|(simp only [zL,zK];rfl)) ?_
 with_reducible refine (impl_mul.calls k _ _ t352 _ _ l0_0 t355 _ ?side1 ?side2 ?side3 ?side4 A4.out).mono ?_
 (case side1=>repeat (first|exact (zU HO354.out).2.2|apply zC_))
 (case side2=>exact (zU HO354.out).2.1)
 (case side3=>repeat (first|exact (zW HR0_0.out HB.out)|(with_reducible exact HR0_0.out)|apply zC_))
 (case side4=>exact HC0_0.out)
 rintro e w14 ⟨v356,rfl,ho0,hb⟩
 refine ⟨_,rfl,?_⟩
 have n0_:=zA (Kd.R_elder' (by apply zR_;exact HO354.out) (zd ho0) hb)
 have n1_:=zA (ze (zh ho0 (Kd.R_lt (by apply zR_;exact HO354.out))) (zQ (by repeat (first|(with_reducible first|exact HB.out|apply zD|apply zB|apply zC|refine zF ?_ GE350.out|refine zF ?_ GE351.out)|exact HB.out))))
 have n2_:=zA (zX (g:=gb350) (o:=.cells #[.slice A0_0 l0_0.length c0_0,.slice A0_1 l0_1.length c0_1] 27 (0,0)) (by (with_reducible repeat (first|refine zG ?_ _|refine zI ?_|refine zH ?_ _));exact BK350.out) hb)
 have n3_:=zA (zX (g:=gb351) (o:=.cells #[.slice none 0 0,.slice none 0 0] 27 (0,0)) (by (with_reducible repeat (first|refine zG ?_ _|refine zI ?_|refine zH ?_ _));exact BK351.out) hb)
 have n4_:=zA (zR (by repeat (first|(with_reducible first|exact HB.out|apply zD|apply zB|apply zC|refine zF ?_ GE350.out|refine zF ?_ GE351.out)|exact HB.out)) hb)
 clear HO354 BK350 BK351 HB
 have HO354:=n0_
 have HO357:=n1_
 have BK350:=n2_
 have BK351:=n3_
 have HB:=n4_
 clear n0_ n1_ n2_ n3_ n4_
 (try clear hb);(try clear hb2);(try clear hk);(try clear hi);(try clear ho0)
 obtain ⟨Ao15,co15,eo15⟩:=zg HO357.out
 (first|subst eo15|(injection eo15 with f1_ f2_ f3_;have f4_:=f1_.symm;have f5_:=f3_.symm;clear f1_ f2_ f3_;subst f4_;subst f5_))
 refine hK.out _ _ ⟨(zT BK350.out 0).trans rfl,(zT BK350.out 1).trans rfl⟩ (fun hHeld=>?_)
 clear hK K
 refine norm_ (a':=?_) ?_ ?_
 rotate_left
 ·show Act.put _ (some 9) _ = _
  simp only [Act.put,zP_,i64_w]
  rfl
 refine one_ (i:=6) (N:=some 11) #[zt,zt,zt,zt,zt,zt,zt,zt,zf,zt,zt,zf,zt,zf,zf,zf] rfl rfl (one_of HT_.out (by kernel_rfl)) (by decide) (fun K hK=>?_)
 refine goes_ Try.func86 (by kernel_rfl) rfl #[.slice Ao15 t355.length co15,.slice A1 l1.length c1] (by rfl) rfl rfl (by (try simp only [zJ,zM,zN]);first|done|rfl|(simp only [zL,zK];rfl)) ?_
 with_reducible refine (impl_mul.calls k _ _ t355 _ _ l1 t358 _ ?side1 ?side2 ?side3 ?side4 A5.out).mono ?_
 (case side1=>repeat (first|exact (zU HO357.out).2.2|apply zC_))
 (case side2=>exact (zU HO357.out).2.1)
 (case side3=>repeat (first|exact (zW HR1.out HB.out)|(with_reducible exact HR1.out)|apply zC_))
 (case side4=>exact HC1.out)
 rintro e w16 ⟨v359,rfl,ho0,hb⟩
 refine ⟨_,rfl,?_⟩
 have n0_:=zA (Kd.R_elder' (by apply zR_;exact HO354.out) (zd ho0) hb)
 have n1_:=zA (Kd.R_elder' (by apply zR_;exact HO357.out) (zd ho0) hb)
 have n2_:=zA (ze (zh (zh ho0 (Kd.R_lt (by apply zR_;exact HO354.out))) (Kd.R_lt (by apply zR_;exact HO357.out))) (zQ (by repeat (first|(with_reducible first|exact HB.out|apply zD|apply zB|apply zC|refine zF ?_ GE350.out|refine zF ?_ GE351.out)|exact HB.out))))
 have n3_:=zA (zX (g:=gb350) (o:=.cells #[.slice A0_0 l0_0.length c0_0,.slice A0_1 l0_1.length c0_1] 27 (0,0)) (by (with_reducible repeat (first|refine zG ?_ _|refine zI ?_|refine zH ?_ _));exact BK350.out) hb)
 have n4_:=zA (zX (g:=gb351) (o:=.cells #[.slice none 0 0,.slice none 0 0] 27 (0,0)) (by (with_reducible repeat (first|refine zG ?_ _|refine zI ?_|refine zH ?_ _));exact BK351.out) hb)
 have n5_:=zA (zR (by repeat (first|(with_reducible first|exact HB.out|apply zD|apply zB|apply zC|refine zF ?_ GE350.out|refine zF ?_ GE351.out)|exact HB.out)) hb)
 clear HO354 HO357 BK350 BK351 HB
 have HO354:=n0_
 have HO357:=n1_
 have HO360:=n2_
 have BK350:=n3_
 have BK351:=n4_
 have HB:=n5_
 clear n0_ n1_ n2_ n3_ n4_ n5_
 (try clear hb);(try clear hb2);(try clear hk);(try clear hi);(try clear ho0)
 refine hK.out _ _ ⟨(zT BK350.out 0).trans rfl,(zT BK350.out 1).trans rfl⟩ (fun hHeld=>?_)
 clear hK K
 refine norm_ (a':=?_) ?_ ?_
 rotate_left
 ·show Act.put _ (some 11) _ = _
  simp only [Act.put,zP_,i64_w]
  rfl
 refine one_ (i:=8) (N:=some 13) #[zt,zt,zt,zt,zt,zt,zt,zt,zt,zt,zt,zf,zt,zf,zf,zf] rfl rfl (one_of HT_.out (by kernel_rfl)) (by decide) (fun K hK=>?_)
 refine goes_ Try.func99 (by kernel_rfl) rfl #[.slice A1 l1.length c1] (by rfl) rfl rfl (by (try simp only [zJ,zM,zN]);first|done|rfl|(simp only [zL,zK];rfl)) ?_
 with_reducible refine (impl_back.calls k _ _ l1 t361 _ ?side1 ?side2 A6.out).mono ?_
 (case side1=>repeat (first|exact (zW HR1.out HB.out)|(with_reducible exact HR1.out)|apply zC_))
 (case side2=>exact HC1.out)
 rintro e w17 ⟨v362,rfl,ho0,hb⟩
 refine ⟨_,rfl,?_⟩
 have n0_:=zA (Kd.R_elder' (by apply zR_;exact HO354.out) (zd ho0) hb)
 have n1_:=zA (Kd.R_elder' (by apply zR_;exact HO357.out) (zd ho0) hb)
 have n2_:=zA (Kd.R_elder' (by apply zR_;exact HO360.out) (zd ho0) hb)
 have n3_:=zA (ze (zh (zh (zh ho0 (Kd.R_lt (by apply zR_;exact HO354.out))) (Kd.R_lt (by apply zR_;exact HO357.out))) (Kd.R_lt (by apply zR_;exact HO360.out))) (zQ (by repeat (first|(with_reducible first|exact HB.out|apply zD|apply zB|apply zC|refine zF ?_ GE350.out|refine zF ?_ GE351.out)|exact HB.out))))
 have n4_:=zA (zX (g:=gb350) (o:=.cells #[.slice A0_0 l0_0.length c0_0,.slice A0_1 l0_1.length c0_1] 27 (0,0)) (by (with_reducible repeat (first|refine zG ?_ _|refine zI ?_|refine zH ?_ _));exact BK350.out) hb)
 have n5_:=zA (zX (g:=gb351) (o:=.cells #[.slice none 0 0,.slice none 0 0] 27 (0,0)) (by (with_reducible repeat (first|refine zG ?_ _|refine zI ?_|refine zH ?_ _));exact BK351.out) hb)
 have n6_:=zA (zR (by repeat (first|(with_reducible first|exact HB.out|apply zD|apply zB|apply zC|refine zF ?_ GE350.out|refine zF ?_ GE351.out)|exact HB.out)) hb)
 clear HO354 HO357 HO360 BK350 BK351 HB
 have HO354:=n0_
 have HO357:=n1_
 have HO360:=n2_
 have HO363:=n3_
 have BK350:=n4_
 have BK351:=n5_
 have HB:=n6_
 clear n0_ n1_ n2_ n3_ n4_ n5_ n6_
 (try clear hb);(try clear hb2);(try clear hk);(try clear hi);(try clear ho0)
 obtain ⟨Ao18,co18,eo18⟩:=zg HO363.out
 (first|subst eo18|(injection eo18 with f1_ f2_ f3_;have f4_:=f1_.symm;have f5_:=f3_.symm;clear f1_ f2_ f3_;subst f4_;subst f5_))
 refine hK.out _ _ ⟨(zT BK350.out 0).trans rfl,(zT BK350.out 1).trans rfl⟩ (fun hHeld=>?_)
 clear hK K
 refine norm_ (a':=?_) ?_ ?_
 rotate_left
 ·show Act.put _ (some 13) _ = _
  simp only [Act.put,zP_,i64_w]
  rfl
 refine one_ (i:=11) (N:=some 16) #[zt,zt,zt,zt,zt,zt,zt,zt,zt,zt,zt,zt,zt,zf,zf,zf] rfl rfl (one_of HT_.out (by kernel_rfl)) (by decide) (fun K hK=>?_)
 refine goes_ Try.func86 (by kernel_rfl) rfl #[.slice Ao18 t361.length co18,.slice A0_1 l0_1.length c0_1] (by rfl) rfl rfl (by (try simp only [zJ,zM,zN]);first|done|rfl|(simp only [zL,zK];rfl)) ?_
 with_reducible refine (impl_mul.calls k _ _ t361 _ _ l0_1 t364 _ ?side1 ?side2 ?side3 ?side4 A7.out).mono ?_
 (case side1=>repeat (first|exact (zU HO363.out).2.2|apply zC_))
 (case side2=>exact (zU HO363.out).2.1)
 (case side3=>repeat (first|exact (zW HR0_1.out HB.out)|(with_reducible exact HR0_1.out)|apply zC_))
 (case side4=>exact HC0_1.out)
 rintro e w19 ⟨v365,rfl,ho0,hb⟩
 refine ⟨_,rfl,?_⟩
 have n0_:=zA (Kd.R_elder' (by apply zR_;exact HO354.out) (zd ho0) hb)
 have n1_:=zA (Kd.R_elder' (by apply zR_;exact HO357.out) (zd ho0) hb)
 have n2_:=zA (Kd.R_elder' (by apply zR_;exact HO360.out) (zd ho0) hb)
 have n3_:=zA (Kd.R_elder' (by apply zR_;exact HO363.out) (zd ho0) hb)
 have n4_:=zA (ze (zh (zh (zh (zh ho0 (Kd.R_lt (by apply zR_;exact HO354.out))) (Kd.R_lt (by apply zR_;exact HO357.out))) (Kd.R_lt (by apply zR_;exact HO360.out))) (Kd.R_lt (by apply zR_;exact HO363.out))) (zQ (by repeat (first|(with_reducible first|exact HB.out|apply zD|apply zB|apply zC|refine zF ?_ GE350.out|refine zF ?_ GE351.out)|exact HB.out))))
 have n5_:=zA (zX (g:=gb350) (o:=.cells #[.slice A0_0 l0_0.length c0_0,.slice A0_1 l0_1.length c0_1] 27 (0,0)) (by (with_reducible repeat (first|refine zG ?_ _|refine zI ?_|refine zH ?_ _));exact BK350.out) hb)
 have n6_:=zA (zX (g:=gb351) (o:=.cells #[.slice none 0 0,.slice none 0 0] 27 (0,0)) (by (with_reducible repeat (first|refine zG ?_ _|refine zI ?_|refine zH ?_ _));exact BK351.out) hb)
 have n7_:=zA (zR (by repeat (first|(with_reducible first|exact HB.out|apply zD|apply zB|apply zC|refine zF ?_ GE350.out|refine zF ?_ GE351.out)|exact HB.out)) hb)
 clear HO354 HO357 HO360 HO363 BK350 BK351 HB
 have HO354:=n0_
 have HO357:=n1_
 have HO360:=n2_
 have HO363:=n3_
 have HO366:=n4_
 have BK350:=n5_
 have BK351:=n6_
 have HB:=n7_
 clear n0_ n1_ n2_ n3_ n4_ n5_ n6_ n7_
 (try clear hb);(try clear hb2);(try clear hk);(try clear hi);(try clear ho0)
 obtain ⟨Ao20,co20,eo20⟩:=zg HO366.out
 (first|subst eo20|(injection eo20 with f1_ f2_ f3_;have f4_:=f1_.symm;have f5_:=f3_.symm;clear f1_ f2_ f3_;subst f4_;subst f5_))
 refine hK.out _ _ ⟨(zT BK350.out 0).trans rfl,(zT BK350.out 1).trans rfl⟩ (fun hHeld=>?_)
 clear hK K
 refine norm_ (a':=?_) ?_ ?_
 rotate_left
 ·show Act.put _ (some 16) _ = _
  simp only [Act.put,zP_,i64_w]
  rfl
 refine one_ (i:=13) (N:=some 18) #[zt,zt,zt,zt,zt,zt,zt,zt,zt,zt,zt,zt,zt,zt,zf,zf] rfl rfl (one_of HT_.out (by kernel_rfl)) (by decide) (fun K hK=>?_)
 refine goes_ Try.func86 (by kernel_rfl) rfl #[.slice Ao20 t364.length co20,.slice A1 l1.length c1] (by rfl) rfl rfl (by (try simp only [zJ,zM,zN]);first|done|rfl|(simp only [zL,zK];rfl)) ?_
 with_reducible refine (impl_mul.calls k _ _ t364 _ _ l1 t367 _ ?side1 ?side2 ?side3 ?side4 A8.out).mono ?_
 (case side1=>repeat (first|exact (zU HO366.out).2.2|apply zC_))
 (case side2=>exact (zU HO366.out).2.1)
 (case side3=>repeat (first|exact (zW HR1.out HB.out)|(with_reducible exact HR1.out)|apply zC_))
 (case side4=>exact HC1.out)
 rintro e w21 ⟨v368,rfl,ho0,hb⟩
 refine ⟨_,rfl,?_⟩
 have n0_:=zA (Kd.R_elder' (by apply zR_;exact HO354.out) (zd ho0) hb)
 have n1_:=zA (Kd.R_elder' (by apply zR_;exact HO357.out) (zd ho0) hb)
 have n2_:=zA (Kd.R_elder' (by apply zR_;exact HO360.out) (zd ho0) hb)
 have n3_:=zA (Kd.R_elder' (by apply zR_;exact HO363.out) (zd ho0) hb)
 have n4_:=zA (Kd.R_elder' (by apply zR_;exact HO366.out) (zd ho0) hb)
 have n5_:=zA (ze (zh (zh (zh (zh (zh ho0 (Kd.R_lt (by apply zR_;exact HO354.out))) (Kd.R_lt (by apply zR_;exact HO357.out))) (Kd.R_lt (by apply zR_;exact HO360.out))) (Kd.R_lt (by apply zR_;exact HO363.out))) (Kd.R_lt (by apply zR_;exact HO366.out))) (zQ (by repeat (first|(with_reducible first|exact HB.out|apply zD|apply zB|apply zC|refine zF ?_ GE350.out|refine zF ?_ GE351.out)|exact HB.out))))
 have n6_:=zA (zX (g:=gb350) (o:=.cells #[.slice A0_0 l0_0.length c0_0,.slice A0_1 l0_1.length c0_1] 27 (0,0)) (by (with_reducible repeat (first|refine zG ?_ _|refine zI ?_|refine zH ?_ _));exact BK350.out) hb)
 have n7_:=zA (zX (g:=gb351) (o:=.cells #[.slice none 0 0,.slice none 0 0] 27 (0,0)) (by (with_reducible repeat (first|refine zG ?_ _|refine zI ?_|refine zH ?_ _));exact BK351.out) hb)
 have n8_:=zA (zR (by repeat (first|(with_reducible first|exact HB.out|apply zD|apply zB|apply zC|refine zF ?_ GE350.out|refine zF ?_ GE351.out)|exact HB.out)) hb)
 clear HO354 HO357 HO360 HO363 HO366 BK350 BK351 HB
 have HO354:=n0_
 have HO357:=n1_
 have HO360:=n2_
 have HO363:=n3_
 have HO366:=n4_
 have HO369:=n5_
 have BK350:=n6_
 have BK351:=n7_
 have HB:=n8_
 clear n0_ n1_ n2_ n3_ n4_ n5_ n6_ n7_ n8_
 (try clear hb);(try clear hb2);(try clear hk);(try clear hi);(try clear ho0)
 obtain ⟨Ao22,co22,eo22⟩:=zg HO369.out
 (first|subst eo22|(injection eo22 with f1_ f2_ f3_;have f4_:=f1_.symm;have f5_:=f3_.symm;clear f1_ f2_ f3_;subst f4_;subst f5_))
 obtain ⟨Ao23,co23,eo23⟩:=zg HO360.out
 (first|subst eo23|(injection eo23 with f1_ f2_ f3_;have f4_:=f1_.symm;have f5_:=f3_.symm;clear f1_ f2_ f3_;subst f4_;subst f5_))
 refine hK.out _ _ ⟨(zT BK350.out 0).trans rfl,(zT BK350.out 1).trans rfl⟩ (fun hHeld=>?_)
 clear hK K
 refine norm_ (a':=?_) ?_ ?_
 rotate_left
 ·show Act.put _ (some 18) _ = _
  simp only [Act.put,zP_,i64_w]
  rfl
 refine pure_ (i:=14) (N:=some 19) (v:=?_) (a':=?_) #[zt,zt,zt,zt,zt,zt,zt,zt,zt,zt,zt,zt,zt,zt,zt,zf] rfl rfl (any_of HT_.out (by kernel_rfl)) (fun _ _ _ h=>h) (Or.inl ⟨by rfl,?_⟩) ?_ ?_
 rotate_left
 ·intro w'
  go_simp
  with_reducible rfl
 rotate_left
 ·simp only [Act.put,zP_,i64_w]
  rfl
 refine one_ (i:=15) (N:=none) #[zt,zt,zt,zt,zt,zt,zt,zt,zt,zt,zt,zt,zt,zt,zt,zt] rfl rfl (one_of HT_.out (by kernel_rfl)) (by decide) (fun K hK=>?_)
 have hs24:w21.cell? ⟨gb351,0,none⟩ = some (.slice none 0 0):=(zT BK351.out 0).trans rfl
 have hfs24:=zZ BK351.out 0
 have hns24_0:=NB350_351.out
 have hms24_0:=NB351_350.out
 have hs25:w21.cell? ⟨gb351,1,none⟩ = some (.slice none 0 0):=(zT BK351.out 1).trans rfl
 have hfs25:=zZ BK351.out 1
 have hns25_0:=NB350_351.out
 have hms25_0:=NB351_350.out
 refine skip_ (w1:=?_) (by rfl) rfl ?_ ?_
 rotate_left
 ·go_simp
  rfl
 refine hK.out _ _ ⟨((cell_far (p:=⟨gb351,_,none⟩) NB350_351.out _).trans (((cell_far (p:=⟨gb351,_,none⟩) NB350_351.out _).trans (hHeld.1)))),((cell_far (p:=⟨gb351,_,none⟩) NB350_351.out _).trans (((cell_far (p:=⟨gb351,_,none⟩) NB350_351.out _).trans (hHeld.2))))⟩ (fun hHeld=>?_)
 clear hK K
 refine done_ (done_of HT_.out (by kernel_rfl)) ?_
 try go_wp2
 refine bodyPost_ret (results_cell_row rfl _ _ gb351 27 #[.slice Ao23 t358.length co23,.slice Ao22 t367.length co22] (0,0) _ rfl (by (with_reducible repeat (first|refine zG ?_ _|refine zI ?_|refine zH ?_ _));refine blk_put (cs:=#[.slice Ao23 t358.length co23,.slice none 0 0]) ?_ 1 _ rfl;(with_reducible repeat (first|refine zG ?_ _|refine zI ?_|refine zH ?_ _));refine blk_put (cs:=#[.slice none 0 0,.slice none 0 0]) ?_ 0 _ rfl;(with_reducible repeat (first|refine zG ?_ _|refine zI ?_|refine zH ?_ _));exact BK351.out) Try.underlying27 rfl (by kernel_rfl)) rfl ?_
 exact ⟨_,_,by first|rfl|(simp [errW_none,errW_some] <;> rfl)|(simp [*,errW_none,errW_some] <;> rfl),by apply zR_;exact zV (Kd.R_far (p:=⟨gb351,1,none⟩) (Kd.R_far (p:=⟨gb351,0,none⟩) (Kd.R_types HO360.out BK351.out (by decide)) (fun _ hk=>hk.2) (.slice Ao23 t358.length co23)) (fun _ hk=>hk.2) (.slice Ao22 t367.length co22)) (fun _ hk=>hk.1.2),by apply zR_;exact zV (Kd.R_far (p:=⟨gb351,1,none⟩) (Kd.R_far (p:=⟨gb351,0,none⟩) (Kd.R_types HO369.out BK351.out (by decide)) (fun _ hk=>hk.2) (.slice Ao23 t358.length co23)) (fun _ hk=>hk.2) (.slice Ao22 t367.length co22)) (fun _ hk=>hk.1.1.1.2),by repeat (first|(with_reducible first|exact HB.out|apply zD|apply zB|apply zC|refine zF ?_ GE350.out|refine zF ?_ GE351.out)|exact HB.out)⟩

/-! ### impl_namesFrom: function 118 -/
mutual
def impl_namesFrom.l0:Nat→Int→List Int→Int→Int→List Int→List Int→Option (List Int)
 | 0,_,_,_,_,_,_=>none
 | k+1,x1,x5,x16,x17,x371000,x371001=>if x17 < x16 then (if 0≤x17 then (if x17 < (x5.length:Int) then (impl_namesFrom.l0 k x1 (x5.set (x17:Int).toNat (-1)) x16 (wrap64 (x17+1)) x371000 x371001) else (none)) else (none)) else (if 0≤x1 then (if x1 < (x5.length:Int) then (impl_namesFrom.l1 k (x5.set (x1:Int).toNat 0) (([x1]:List Int)) 0 x371000 x371001) else (none)) else (none))
def impl_namesFrom.l1:Nat→List Int→List Int→Int→List Int→List Int→Option (List Int)
 | 0,_,_,_,_,_=>none
 | k+1,x5,x7,x8,x371000,x371001=>if x8 < (x7.length:Int) then (if 0≤x8 then (if 0≤(rd x7 x8) then (if (rd x7 x8) < (x371000.length:Int) then (if (rd x7 x8) < (x371001.length:Int) then ((some (([rd x371000 (rd x7 x8),rd x371001 (rd x7 x8)]:List Int):List Int)).bind fun y383=>(impl_namesFrom.l2 k x5 x7 x8 y383 (y383.length:Int) 0 x371000 x371001)) else (none)) else (none)) else (none)) else (none)) else (some x5)
def impl_namesFrom.l2:Nat→List Int→List Int→Int→List Int→Int→Int→List Int→List Int→Option (List Int)
 | 0,_,_,_,_,_,_,_,_=>none
 | k+1,x5,x7,x8,x51,x52,x53,x371000,x371001=>if x53 < x52 then (if 0≤x53 then (if x53 < (x51.length:Int) then (if 0≤(rd x51 x53) then (if (rd x51 x53) < (x5.length:Int) then (if (rd x5 (rd x51 x53)) < 0 then (if x7.length < 17592186044416 then (impl_namesFrom.l2 k (x5.set ((rd x51 x53):Int).toNat (x7.length:Int)) (x7 ++ [rd x51 x53]) x8 x51 x52 (wrap64 (x53+1)) x371000 x371001) else (none)) else (impl_namesFrom.l2 k x5 x7 x8 x51 x52 (wrap64 (x53+1)) x371000 x371001)) else (none)) else (none)) else (none)) else (none)) else (impl_namesFrom.l1 k x5 x7 (wrap64 (x8+1)) x371000 x371001)
end
def impl_namesFrom.f (k:Nat) (l0_0:List Int) (l0_1:List Int) (a1:Int):Option (List Int):=if 0≤(l0_0.length:Int) then (if ((l0_0.length:Int):Int).toNat≤35184372088832 then ((some (List.replicate ((l0_0.length:Int):Int).toNat 0:List Int)).bind fun y371=>(impl_namesFrom.l0 k a1 y371 (y371.length:Int) 0 l0_0 l0_1)) else (none)) else (none)
theorem impl_namesFrom.mono_l:∀ k,(∀ y0 y1 y2 y3 y4 y5,LeO (impl_namesFrom.l0 k y0 y1 y2 y3 y4 y5) (impl_namesFrom.l0 (k+1) y0 y1 y2 y3 y4 y5))∧(∀ y0 y1 y2 y3 y4,LeO (impl_namesFrom.l1 k y0 y1 y2 y3 y4) (impl_namesFrom.l1 (k+1) y0 y1 y2 y3 y4))∧(∀ y0 y1 y2 y3 y4 y5 y6 y7,LeO (impl_namesFrom.l2 k y0 y1 y2 y3 y4 y5 y6 y7) (impl_namesFrom.l2 (k+1) y0 y1 y2 y3 y4 y5 y6 y7))
 | 0=>⟨fun _ _ _ _ _ _ r h=>by simp [impl_namesFrom.l0] at h,fun _ _ _ _ _ r h=>by simp [impl_namesFrom.l1] at h,fun _ _ _ _ _ _ _ _ r h=>by simp [impl_namesFrom.l2] at h⟩
 | k+1=>by
  obtain ⟨ih0,ih1,ih2⟩:=impl_namesFrom.mono_l k
  refine ⟨?_,?_,?_⟩
  ·intro y0 y1 y2 y3 y4 y5
   unfold impl_namesFrom.l0
   repeat' first
   | (with_reducible exact ih0 _ _ _ _ _ _)
   | (with_reducible exact ih1 _ _ _ _ _)
   | (with_reducible exact ih2 _ _ _ _ _ _ _ _)
   | (with_reducible exact LeO.refl _)
   | (with_reducible exact za _)
   | (with_reducible refine zc ?_ ?_)
   | (with_reducible refine zb ?_ (fun _=>?_))
  ·intro y0 y1 y2 y3 y4
   unfold impl_namesFrom.l1
   repeat' first
   | (with_reducible exact ih0 _ _ _ _ _ _)
   | (with_reducible exact ih1 _ _ _ _ _)
   | (with_reducible exact ih2 _ _ _ _ _ _ _ _)
   | (with_reducible exact LeO.refl _)
   | (with_reducible exact za _)
   | (with_reducible refine zc ?_ ?_)
   | (with_reducible refine zb ?_ (fun _=>?_))
  ·intro y0 y1 y2 y3 y4 y5 y6 y7
   unfold impl_namesFrom.l2
   repeat' first
   | (with_reducible exact ih0 _ _ _ _ _ _)
   | (with_reducible exact ih1 _ _ _ _ _)
   | (with_reducible exact ih2 _ _ _ _ _ _ _ _)
   | (with_reducible exact LeO.refl _)
   | (with_reducible exact za _)
   | (with_reducible refine zc ?_ ?_)
   | (with_reducible refine zb ?_ (fun _=>?_))
theorem impl_namesFrom.mono:∀ a0 a1 a2 k,LeO (impl_namesFrom.f k a0 a1 a2) (impl_namesFrom.f (k+1) a0 a1 a2):=by
 intro a0 a1 a2 k
 obtain ⟨ih0,ih1,ih2⟩:=impl_namesFrom.mono_l k
 unfold impl_namesFrom.f
 repeat' first
   | (with_reducible exact ih0 _ _ _ _ _ _)
   | (with_reducible exact ih1 _ _ _ _ _)
   | (with_reducible exact ih2 _ _ _ _ _ _ _ _)
   | (with_reducible exact LeO.refl _)
   | (with_reducible exact za _)
   | (with_reducible refine zc ?_ ?_)
   | (with_reducible refine zb ?_ (fun _=>?_))
def impl_namesFrom.T12:Bool × List (List Nat × List Nat):=(true,[([],[]),([0],[0]),([],[]),([],[]),([2,3],[2,3]),([4],[4]),([1,5],[1,5]),([6],[6]),([],[]),([8],[8]),([],[]),([],[]),([10,11],[10,11]),([12],[12]),([9,13],[9,13]),([14],[14]),([7,15],[7,15]),([16],[16]),([],[])])
def impl_namesFrom.B12:List Nat:=[0,1,0,0,12,28,63,127,0,256,0,0,3072,7168,16128,32512,65535,131071,0]
theorem impl_namesFrom.tab12:rtab .any (opsOf Try.f118 12) = impl_namesFrom.T12:=by kernel_rfl
theorem impl_namesFrom.bits12:waitsOk impl_namesFrom.T12.2 impl_namesFrom.B12 = true:=by kernel_rfl
set_option maxHeartbeats 8000000 in
set_option maxRecDepth 100000 in
theorem impl_namesFrom.calls (k:Nat) (A0_0:Option Addr) (c0_0:Nat) (l0_0:List Int) (A0_1:Option Addr) (c0_1:Nat) (l0_1:List Int) (a1:Int) (r:List Int) (w:World) (hr0_0:Kd.C (Kd.int .i64) w A0_0 l0_0.length l0_0) (hc0_0:l0_0.length≤c0_0) (hr0_1:Kd.C (Kd.int .i64) w A0_1 l0_1.length l0_1) (hc0_1:l0_1.length≤c0_1) (h:impl_namesFrom.f k l0_0 l0_1 a1 = some r) :
  Calls Try.prog 118 #[.agg #[.slice A0_0 l0_0.length c0_0,.slice A0_1 l0_1.length c0_1],.int .i64 a1] w fun e w' => ∃ v0_:Value,e = .returned (v0_)∧Kd.R (Kd.int .i64) 3 w' w.heap.size (fun _=>True) v0_ r∧Below w.heap.size w w':=by
 have hu27:=Try.underlying27
 have HR0_0:=zA hr0_0
 have HC0_0:=zA hc0_0
 clear hr0_0 hc0_0
 have HR0_1:=zA hr0_1
 have HC0_1:=zA hc0_1
 clear hr0_1 hc0_1
 have HB:=zA (Below.refl w.heap.size w)
 have H:(if 0≤(l0_0.length:Int) then (if ((l0_0.length:Int):Int).toNat≤35184372088832 then ((some (List.replicate ((l0_0.length:Int):Int).toNat 0:List Int)).bind fun y371=>(impl_namesFrom.l0 k a1 y371 (y371.length:Int) 0 l0_0 l0_1)) else (none)) else (none)) = some r:=h
 clear h
 by_cases c3:0≤(l0_0.length:Int)
 ·rw [if_pos c3] at H
  have c3b0:=eq_true c3
  have c3b1:decide (0≤(l0_0.length:Int)) = true:=zO c3
  clear c3
  by_cases c4:((l0_0.length:Int):Int).toNat≤35184372088832
  ·rw [if_pos c4] at H
   have c4b0:=eq_true c4
   have c4b1:decide (((l0_0.length:Int):Int).toNat≤35184372088832) = true:=zO c4
   clear c4
   obtain ⟨y371,hy371⟩:∃ y_:List Int,y_ = (List.replicate ((l0_0.length:Int):Int).toNat 0):=⟨_,rfl⟩
   replace H:(impl_namesFrom.l0 k a1 y371 (y371.length:Int) 0 l0_0 l0_1) = some r:=by (try rw [hy371]);first|with_reducible exact H|with_reducible exact zS_ H|exact H
   have Ny371:=zA hy371
   clear hy371
   have H':=zA H
   clear H
   go_enter Try.func118,Try.ntmps118
   go_wp2_with (first|((with_reducible refine gate_dst (N:=2) rfl ?_);refine box_event ?hg (N:=2) ?hd (cs:=#[.slice A0_0 l0_0.length c0_0,.slice A0_1 l0_1.length c0_1]) (t:=27) ?hr ?_;(case hd=>rfl);(case hg=>rfl);(case hr=>first|(go_simp;done)|(go_simp;rfl));intro gb370 hg w5 hbox hb;have n0_:=zA (zR (by exact zB_ HB.out) hb);have n1_:=zA (hbox);have n2_:=zA ((by rw [hg];exact (zQ (by exact zB_ HB.out)):w.heap.size≤gb370));have n3_:=zA ((by rw [hg];exact (zQ (by exact zB_ HB.out)):w.heap.size≤gb370));clear HB;have HB:=n0_;have BK370:=n1_;have GW370:=n2_;have GE370:=n3_;clear n0_ n1_ n2_ n3_;clear hb hbox hg;have hcz6_0:w5.cell? ⟨gb370,0,none⟩ = some (.slice A0_0 l0_0.length c0_0):=(zT BK370.out 0).trans rfl;have hcz6_1:w5.cell? ⟨gb370,1,none⟩ = some (.slice A0_1 l0_1.length c0_1):=(zT BK370.out 1).trans rfl;have hfz6_0:=zZ BK370.out 0;have hfz6_1:=zZ BK370.out 1)|((with_reducible refine gate_dst (N:=14) rfl ?_);refine Kd.R_make (Kd.int .i64) _ 3 rfl (N:=14) rfl 23 _ _ rfl (l0_0.length:Int) rfl rfl Try.underlying23 (.int .i64 0) 8 info3 rfl (by decide) (by omega) 0 (ok:=fun _=>True) (okp:=fun _=>True) rfl (fun _ hk=>hk) trivial (zE (by with_reducible assumption)) (Nat.le_trans (Nat.mul_le_mul_right _ (zE (by with_reducible assumption):(l0_0.length:Int).toNat≤35184372088832)) (by omega)) (Below.refl _ _) (Nat.le_refl _) ?_;intro v372 w7 ho8 hb hg_ hnew_;clear hg_ hnew_;(first|rw [← Ny371.out] at ho8|(simp only [Int.reduceToNat] at ho8;rw [← Ny371.out] at ho8));have n0_:=zA (ze ho8 (zQ (by repeat (first|(with_reducible first|exact HB.out|apply zD|apply zB|apply zC|refine zF ?_ GE370.out)|exact HB.out))));have n1_:=zA (zX (g:=gb370) (o:=.cells #[.slice A0_0 l0_0.length c0_0,.slice A0_1 l0_1.length c0_1] 27 (0,0)) (by (with_reducible repeat (first|refine zG ?_ _|refine zI ?_|refine zH ?_ _));exact BK370.out) hb);have n2_:=zA (zR (by repeat (first|(with_reducible first|exact HB.out|apply zD|apply zB|apply zC|refine zF ?_ GE370.out)|exact HB.out)) hb);clear BK370;clear HB;have HO373:=n0_;have BK370:=n1_;have HB:=n2_;clear n0_ n1_ n2_;clear hb ho8;obtain ⟨Ao9,co9,eo9⟩:=zg HO373.out;subst eo9))
   go_loopg [17] k (fun kq v17 w' => ∃ (x5_1:List Int) (x17_1:Int),v17 = .int .i64 x17_1∧Aside0 (impl_namesFrom.l0 kq a1 x5_1 (y371.length:Int) x17_1 l0_0 l0_1 = some r)∧Aside0 (kq≤k)∧Aside0 (Kd.R (Kd.int .i64) 3 w' w.heap.size (fun _=>True) (.slice Ao9 y371.length co9) x5_1)∧Aside0 (w'.heap[gb370]? = some (.cells #[(.slice A0_0 l0_0.length c0_0),(.slice A0_1 l0_1.length c0_1)] 27 (0,0)))∧Aside0 (Below w.heap.size w w'))
   case atStart=>exact ⟨(y371),(0),(by first|rfl|(simp;done)|(simp [*];done)),H',⟨Nat.le_refl _⟩,⟨by apply zR_;exact HO373.out⟩,⟨by (with_reducible repeat (first|refine zG ?_ _|refine zI ?_|refine zH ?_ _));exact BK370.out⟩,⟨by repeat (first|(with_reducible first|exact HB.out|apply zD|apply zB|apply zC|refine zF ?_ GE370.out)|exact HB.out)⟩⟩
   case round =>
    clear H'
    (try clear c1);(try clear p2);(try clear c3);(try clear c3b0);(try clear c3b1);(try clear c4);(try clear c4b0);(try clear c4b1);(try clear hcz6_0);(try clear hcz6_1);(try clear hfz6_0);(try clear hfz6_1)
    obtain ⟨x5_1,x17_1,rfl,HA,HK1,HO_5,BK370,HB⟩:=hrel
    have hl5_1:=(zU HO_5.out).1
    rw [hl5_1] at HO_5
    (try simp only [hl5_1])
    (try simp only [hl5_1] at BK370)
    cases gk with
    | zero=>exact absurd HA.out (by simp [impl_namesFrom.l0])
    | succ k1 =>
     have H:=HA.out
     clear HA
     simp only [impl_namesFrom.l0] at H
     by_cases c10:x17_1 < (y371.length:Int)
     ·rw [if_pos c10] at H
      have c10b0:decide (x17_1 < (y371.length:Int)) = true:=zO c10
      clear c10
      by_cases c11:0≤x17_1
      ·rw [if_pos c11] at H
       have c11b0:decide (0≤x17_1) = true:=zO c11
       clear c11
       by_cases c12:x17_1 < (x5_1.length:Int)
       ·rw [if_pos c12] at H
        have c12b0:decide (x17_1 < (x5_1.length:Int)) = true:=zO c12
        clear c12
        obtain ⟨y374,hy374⟩:∃ y_:List Int,y_ = (x5_1.set (x17_1:Int).toNat (-1)):=⟨_,rfl⟩
        replace H:(impl_namesFrom.l0 k1 a1 y374 (y371.length:Int) (wrap64 (x17_1+1)) l0_0 l0_1) = some r:=by (try rw [hy374]);first|with_reducible exact H|with_reducible exact zS_ H|exact H
        have Ny374:=zA hy374
        clear hy374
        have H':=zA H
        clear H
        have p13:0≤(x17_1:Int):=zE (by with_reducible assumption)
        have q13:(x17_1:Int) < ((x5_1.length:Int):Int):=zE (by with_reducible assumption)
        obtain ⟨go13,co13,eo13,gb13,gl13,cl13,HG13⟩:=Kd.R_form HO_5.out (by omega)
        (first|cases eo13|(injection eo13 with ea_ en_ ec_;(first|subst ea_|(injection ea_ with ea_;subst ea_));subst ec_;clear en_))
        have GB13:=zA gb13
        have GG13:=zA HG13
        clear gb13 gl13 HG13
        obtain ⟨hx13_0,hf13_0⟩:=Kd.R_celln 0 HO_5.out (x17_1:Int) p13 q13
        replace p13:=eq_true p13
        replace q13:=eq_true q13
        have HP14:=Kd.R_putg HO_5.out (x17_1:Int) (-1)
        go_wp2_with (first|((with_reducible refine gate_store (t:=3) (p:=22) rfl ?_);refine store_event (t:=3) (p:=22) (v:=?vo_w15) (w1:=(wr.setCell ⟨go13,(x17_1:Int).toNat,none⟩ (.int .i64 (-1)))) ?hg ?ho ?hn ?hr ?_;(case ho=>rfl);(case hg=>rfl);(case hn=>rfl);(case hr=>first|(go_simp;done)|(go_simp;rfl));intro w15 hw;have hg:wr.grownBy w15 (some go13):=(by rw [hw];exact HP14.2);have hp_:Kd.R (Kd.int .i64) 3 w15 w.heap.size (fun _=>True) (.slice (some ⟨go13,0,none⟩) x5_1.length co9) y374:=(by rw [hw,Ny374.out];exact HP14.1);clear HP14;have n0_:=zA (hp_);have n1_:=zA (blk_grown (g:=gb370) (o:=.cells #[.slice A0_0 l0_0.length c0_0,.slice A0_1 l0_1.length c0_1] 27 (0,0)) (by (with_reducible repeat (first|refine zG ?_ _|refine zI ?_|refine zH ?_ _));exact BK370.out) hg (Kd.R_ne HO_5.out BK370.out (by decide)));have n2_:=zA ((by rw [hw];exact zF (HB.out) GB13.out:Below w.heap.size w w15));clear HO_5;clear BK370;clear HB;have HO_5:=n0_;have BK370:=n1_;have HB:=n2_;clear n0_ n1_ n2_;clear hg hw hp_))
        (try simp only [← hl5_1])
        go_roundg k1
        case measure=>have:=HK1.out;omega
        case rel=>exact ⟨(y374),(wrap64 (x17_1+1)),(by first|rfl|(simp;done)|(simp [*];done)),H',⟨by have:=HK1.out;omega⟩,⟨by (try simp only [hl5_1]);apply zR_;exact HO_5.out⟩,⟨by (try simp only [hl5_1]);(with_reducible repeat (first|refine zG ?_ _|refine zI ?_|refine zH ?_ _));exact BK370.out⟩,⟨by repeat (first|(with_reducible first|exact HB.out|apply zD|apply zB|apply zC|refine zF ?_ GE370.out)|exact HB.out)⟩⟩
       ·rw [if_neg c12] at H
        exact absurd H (by simp)
      ·rw [if_neg c11] at H
       exact absurd H (by simp)
     ·rw [if_neg c10] at H
      have c10b0:decide (x17_1 < (y371.length:Int)) = false:=zP c10
      try have c10b9:decide (x17_1 < (x5_1.length:Int)) = false:=by rw [← hl5_1];exact c10b0
      clear c10
      by_cases c16:0≤a1
      ·rw [if_pos c16] at H
       have c16b0:decide (0≤a1) = true:=zO c16
       clear c16
       by_cases c17:a1 < (x5_1.length:Int)
       ·rw [if_pos c17] at H
        have c17b0:decide (a1 < (x5_1.length:Int)) = true:=zO c17
        clear c17
        obtain ⟨y375,hy375⟩:∃ y_:List Int,y_ = (x5_1.set (a1:Int).toNat 0):=⟨_,rfl⟩
        replace H:(impl_namesFrom.l1 k1 y375 (([a1]:List Int)) 0 l0_0 l0_1) = some r:=by (try rw [hy375]);first|with_reducible exact H|with_reducible exact zS_ H|exact H
        have Ny375:=zA hy375
        clear hy375
        obtain ⟨y376,hy376⟩:∃ y_:List Int,y_ = (([a1]:List Int)):=⟨_,rfl⟩
        replace H:(impl_namesFrom.l1 k1 y375 y376 0 l0_0 l0_1) = some r:=by (try rw [hy376]);first|with_reducible exact H|with_reducible exact zS_ H|exact H
        have Ny376:=zA hy376
        clear hy376
        have H':=zA H
        clear H
        have p18:0≤(a1:Int):=zE (by with_reducible assumption)
        have q18:(a1:Int) < ((x5_1.length:Int):Int):=zE (by with_reducible assumption)
        obtain ⟨go18,co18,eo18,gb18,gl18,cl18,HG18⟩:=Kd.R_form HO_5.out (by omega)
        (first|cases eo18|(injection eo18 with ea_ en_ ec_;(first|subst ea_|(injection ea_ with ea_;subst ea_));subst ec_;clear en_))
        have GB18:=zA gb18
        have GG18:=zA HG18
        clear gb18 gl18 HG18
        obtain ⟨hx18_0,hf18_0⟩:=Kd.R_celln 0 HO_5.out (a1:Int) p18 q18
        replace p18:=eq_true p18
        replace q18:=eq_true q18
        have HP19:=Kd.R_putg HO_5.out (a1:Int) 0
        go_wp2_with (first|((with_reducible refine gate_store (t:=3) (p:=26) rfl ?_);refine store_event (t:=3) (p:=26) (v:=?vo_w20) (w1:=(wr.setCell ⟨go18,(a1:Int).toNat,none⟩ (.int .i64 0))) ?hg ?ho ?hn ?hr ?_;(case ho=>rfl);(case hg=>rfl);(case hn=>rfl);(case hr=>first|(go_simp;done)|(go_simp;rfl));intro w20 hw;have hg:wr.grownBy w20 (some go18):=(by rw [hw];exact HP19.2);have hp_:Kd.R (Kd.int .i64) 3 w20 w.heap.size (fun _=>True) (.slice (some ⟨go18,0,none⟩) x5_1.length co9) y375:=(by rw [hw,Ny375.out];exact HP19.1);clear HP19;have n0_:=zA (hp_);have n1_:=zA (blk_grown (g:=gb370) (o:=.cells #[.slice A0_0 l0_0.length c0_0,.slice A0_1 l0_1.length c0_1] 27 (0,0)) (by (with_reducible repeat (first|refine zG ?_ _|refine zI ?_|refine zH ?_ _));exact BK370.out) hg (Kd.R_ne HO_5.out BK370.out (by decide)));have n2_:=zA ((by rw [hw];exact zF (HB.out) GB18.out:Below w.heap.size w w20));clear HO_5;clear BK370;clear HB;have HO_5:=n0_;have BK370:=n1_;have HB:=n2_;clear n0_ n1_ n2_;clear hg hw hp_)|((with_reducible refine gate_dst (N:=28) rfl ?_);refine Kd.R_lit (Kd.int .i64) _ 3 ?hg (N:=28) ?hd (xs:=([a1]:List Int)) (inner:=[.int .i64 a1]) (ok:=fun _=>True) (okp:=fun _=>True) ?hr ?hp (fun _ hk=>hk) trivial (Below.refl _ _) (Nat.le_refl _) (by simp) ?_;(case hd=>rfl);(case hg=>rfl);(case hr=>first|(go_simp;done)|(go_simp;rfl));(case hp=>exact (Reps.one (show Kd.M (Kd.int .i64) _ _ _ a1 [.int .i64 a1] from rfl) (Reps.none _ _)));intro v377 w21 ho22 hb hg_ hnew_;clear hg_ hnew_;(first|rw [← Ny376.out] at ho22|(simp only [Int.reduceToNat] at ho22;rw [← Ny376.out] at ho22));have n0_:=zA (Kd.R_elder' (by apply zR_;exact HO_5.out) (zd ho22) hb);have n1_:=zA (ze (zh ho22 (Kd.R_lt (by apply zR_;exact HO_5.out))) (zQ (by repeat (first|(with_reducible first|exact HB.out|apply zD|apply zB|apply zC|refine zF ?_ GE370.out)|exact HB.out))));have n2_:=zA (zX (g:=gb370) (o:=.cells #[.slice A0_0 l0_0.length c0_0,.slice A0_1 l0_1.length c0_1] 27 (0,0)) (by (with_reducible repeat (first|refine zG ?_ _|refine zI ?_|refine zH ?_ _));exact BK370.out) hb);have n3_:=zA (zR (by repeat (first|(with_reducible first|exact HB.out|apply zD|apply zB|apply zC|refine zF ?_ GE370.out)|exact HB.out)) hb);clear HO_5;clear BK370;clear HB;have HO_5:=n0_;have HO378:=n1_;have BK370:=n2_;have HB:=n3_;clear n0_ n1_ n2_ n3_;clear hb ho22))
        go_loopg [7,8] k1 (fun kq v7 v8 w' => ∃ (x5_2:List Int) (x7_2:List Int) (x8_2:Int),v8 = .int .i64 x8_2∧Aside0 (impl_namesFrom.l1 kq x5_2 x7_2 x8_2 l0_0 l0_1 = some r)∧Aside0 (kq≤k1)∧Aside0 (Kd.R (Kd.int .i64) 3 w' w.heap.size (fun k_=>some k_≠(v7:Value).ownBlock) (.slice (some ⟨go18,0,none⟩) x5_1.length co9) x5_2)∧Aside0 (Kd.R (Kd.int .i64) 3 w' w.heap.size (fun k_=>some k_≠((.slice (some ⟨go18,0,none⟩) x5_1.length co9):Value).ownBlock) v7 x7_2)∧Aside0 (w'.heap[gb370]? = some (.cells #[(.slice A0_0 l0_0.length c0_0),(.slice A0_1 l0_1.length c0_1)] 27 (0,0)))∧Aside0 (Below w.heap.size w w'))
        case atStart=>exact ⟨(y375),(y376),(0),(by first|rfl|(simp;done)|(simp [*];done)),H',⟨Nat.le_refl _⟩,⟨by (try simp only [hl5_1]);apply zR_;exact zV HO_5.out (fun _ hk=>hk.2)⟩,⟨by (try simp only [hl5_1]);apply zR_;exact zV HO378.out (fun _ hk=>hk.2)⟩,⟨by (try simp only [hl5_1]);(with_reducible repeat (first|refine zG ?_ _|refine zI ?_|refine zH ?_ _));exact BK370.out⟩,⟨by repeat (first|(with_reducible first|exact HB.out|apply zD|apply zB|apply zC|refine zF ?_ GE370.out)|exact HB.out)⟩⟩
        case round =>
         clear H'
         (try clear c1);(try clear p1);(try clear q1);(try clear hx1);(try clear p2);(try clear c3);(try clear c3b0);(try clear c3b1);(try clear c4);(try clear c4b0);(try clear c4b1);(try clear p6);(try clear c10);(try clear c10b0);(try clear c11);(try clear c11b0);(try clear c12);(try clear c12b0);(try clear p13);(try clear q13);(try clear hx13);(try clear hf13);(try clear c16);(try clear c16b0);(try clear c17);(try clear c17b0);(try clear p18);(try clear q18);(try clear hx18);(try clear hf18);(try clear hcz6_0);(try clear hcz6_1);(try clear hfz6_0);(try clear hfz6_1);(try clear hx13_0);(try clear hx18_0);(try clear p13);(try clear p18);(try clear p2);(try clear q13);(try clear q18)
         obtain ⟨x5_2,x7_2,x8_2,rfl,HA,HK2,HO_5,HO_7,BK370,HB⟩:=hrel
         have hl5_2:=(zU HO_5.out).1
         rw [hl5_2] at HO_5
         (try simp only [hl5_2])
         (try simp only [hl5_2] at BK370)
         (try simp only [hl5_2] at HO_7)
         cases gk with
         | zero=>exact absurd HA.out (by simp [impl_namesFrom.l1])
         | succ k2 =>
          have H:=HA.out
          clear HA
          simp only [impl_namesFrom.l1] at H
          by_cases c23:x8_2 < (x7_2.length:Int)
          ·rw [if_pos c23] at H
           have c23b0:decide (x8_2 < (x7_2.length:Int)) = true:=zO c23
           clear c23
           by_cases c24:0≤x8_2
           ·rw [if_pos c24] at H
            have c24b0:decide (0≤x8_2) = true:=zO c24
            clear c24
            by_cases c25:0≤(rd x7_2 x8_2)
            ·rw [if_pos c25] at H
             have c25b0:decide (0≤(rd x7_2 x8_2)) = true:=zO c25
             clear c25
             by_cases c26:(rd x7_2 x8_2) < (l0_0.length:Int)
             ·rw [if_pos c26] at H
              have c26b0:decide ((rd x7_2 x8_2) < (l0_0.length:Int)) = true:=zO c26
              clear c26
              by_cases c27:(rd x7_2 x8_2) < (l0_1.length:Int)
              ·rw [if_pos c27] at H
               have c27b0:decide ((rd x7_2 x8_2) < (l0_1.length:Int)) = true:=zO c27
               clear c27
               obtain ⟨y383,hy383⟩:∃ y_:List Int,y_ = (([rd l0_0 (rd x7_2 x8_2),rd l0_1 (rd x7_2 x8_2)]:List Int)):=⟨_,rfl⟩
               replace H:(impl_namesFrom.l2 k2 x5_2 x7_2 x8_2 y383 (y383.length:Int) 0 l0_0 l0_1) = some r:=by (try rw [hy383]);first|with_reducible exact H|with_reducible exact zS_ H|exact H
               have Ny383:=zA hy383
               clear hy383
               have H':=zA H
               clear H
               obtain ⟨Ao28,co28,eo28⟩:=zg HO_7.out
               subst eo28
               try go_wp2
               have n0_:=zA (Kd.R_drew HO_5.out)
               have n1_:=zA (Kd.R_drew HO_7.out)
               have n2_:=zA (zI BK370.out)
               have n3_:=zA (zC HB.out)
               clear HO_5 HO_7 BK370 HB
               have HO_5:=n0_
               have HO_7:=n1_
               have BK370:=n2_
               have HB:=n3_
               clear n0_ n1_ n2_ n3_
               have p379:0≤(x8_2:Int):=zE (by with_reducible assumption)
               have q379:x8_2 < (x7_2.length:Int):=zE (by with_reducible assumption)
               obtain ⟨ad379,e379,hx379_0⟩:=Kd.at_int (zU HO_7.out).2.2 x8_2 p379 q379
               cases e379
               replace p379:=eq_true p379
               replace q379:=eq_true q379
               have p380:0≤((rd x7_2 x8_2):Int):=zE (by with_reducible assumption)
               have q380:(rd x7_2 x8_2) < (l0_0.length:Int):=zE (by with_reducible assumption)
               obtain ⟨ad380,e380,hx380_0⟩:=Kd.at_int HR0_0.out (rd x7_2 x8_2) p380 q380
               have hw380_0:=hx380_0
               cases e380
               replace hx380_0:=(HB.out.cell (zY w _ hx380_0)).trans hx380_0
               replace p380:=eq_true p380
               replace q380:=eq_true q380
               have p381:0≤(x8_2:Int):=zE (by with_reducible assumption)
               have q381:x8_2 < (x7_2.length:Int):=zE (by with_reducible assumption)
               obtain ⟨ad381,e381,hx381_0⟩:=Kd.at_int (zU HO_7.out).2.2 x8_2 p381 q381
               obtain rfl:ad379 = ad381:=(by injection e381)
               replace p381:=eq_true p381
               replace q381:=eq_true q381
               have p382:0≤((rd x7_2 x8_2):Int):=zE (by with_reducible assumption)
               have q382:(rd x7_2 x8_2) < (l0_1.length:Int):=zE (by with_reducible assumption)
               obtain ⟨ad382,e382,hx382_0⟩:=Kd.at_int HR0_1.out (rd x7_2 x8_2) p382 q382
               have hw382_0:=hx382_0
               cases e382
               replace hx382_0:=(HB.out.cell (zY w _ hx382_0)).trans hx382_0
               replace p382:=eq_true p382
               replace q382:=eq_true q382
               refine start_ (n:=19) (S:=fun w'=>w'.cell? ⟨gb370,0,none⟩ = some (.slice (some ad380) l0_0.length c0_0)∧w'.cell? ⟨gb370,1,none⟩ = some (.slice (some ad382) l0_1.length c0_1)∧w'.cell? (ad379.add (x8_2).toNat) = some (.int .i64 (rd x7_2 x8_2))∧w'.cell? (ad380.add ((rd x7_2 x8_2)).toNat) = some (.int .i64 (rd l0_0 (rd x7_2 x8_2)))∧w'.cell? (ad379.add (x8_2).toNat) = some (.int .i64 (rd x7_2 x8_2))∧w'.cell? (ad382.add ((rd x7_2 x8_2)).toNat) = some (.int .i64 (rd l0_1 (rd x7_2 x8_2)))) (ds:=[]) #[zf,zf,zf,zf,zf,zf,zf,zf,zf,zf,zf,zf,zf,zf,zf,zf,zf,zf,zf] (by kernel_rfl) rfl rfl ⟨(zT BK370.out 0).trans rfl,(zT BK370.out 1).trans rfl,hx379_0,((HB.out.cell (zY w _ hw380_0)).trans hw380_0),hx381_0,((HB.out.cell (zY w _ hw382_0)).trans hw382_0)⟩ (fun hHeld=>?_);refine with_tabW impl_namesFrom.tab12 impl_namesFrom.bits12 (fun HT_ HW_=>?_)
               generalize wr.drew = w29 at HO_5 HO_7 BK370 HB hx379_0 hx380_0 hx381_0 hx382_0 hHeld ⊢
               refine pure_ (i:=0) (N:=some 35) (v:=?_) (a':=?_) #[zt,zf,zf,zf,zf,zf,zf,zf,zf,zf,zf,zf,zf,zf,zf,zf,zf,zf,zf] rfl rfl (any_of HT_.out (by kernel_rfl)) (fun _ _ _ h=>h) (Or.inl ⟨by rfl,?_⟩) ?_ ?_
               rotate_left
               ·intro w'
                go_simp
                with_reducible rfl
               rotate_left
               ·simp only [Act.put,zP_,i64_w]
                rfl
               refine pure_ (i:=2) (N:=some 37) (v:=?_) (a':=?_) #[zt,zf,zt,zf,zf,zf,zf,zf,zf,zf,zf,zf,zf,zf,zf,zf,zf,zf,zf] rfl rfl (any_of HT_.out (by kernel_rfl)) (fun _ _ _ h=>h) (Or.inl ⟨by rfl,?_⟩) ?_ ?_
               rotate_left
               ·intro w'
                go_simp
                with_reducible rfl
               rotate_left
               ·simp only [Act.put,zP_,i64_w]
                rfl
               refine pure_ (i:=3) (N:=some 38) (v:=?_) (a':=?_) #[zt,zf,zt,zt,zf,zf,zf,zf,zf,zf,zf,zf,zf,zf,zf,zf,zf,zf,zf] rfl rfl (any_of HT_.out (by kernel_rfl)) (fun _ _ _ h=>h) (Or.inl ⟨by rfl,?_⟩) ?_ ?_
               rotate_left
               ·intro w'
                go_simp
                with_reducible rfl
               rotate_left
               ·simp only [Act.put,zP_,i64_w]
                rfl
               refine pure_ (i:=4) (N:=some 39) (v:=?_) (a':=?_) #[zt,zf,zt,zt,zt,zf,zf,zf,zf,zf,zf,zf,zf,zf,zf,zf,zf,zf,zf] rfl rfl (any_of HT_.out (by kernel_rfl)) (fun _ _ _ h=>h) (Or.inl ⟨by rfl,?_⟩) ?_ ?_
               rotate_left
               ·intro w'
                go_simp
                with_reducible rfl
               rotate_left
               ·simp only [Act.put,zP_,i64_w]
                rfl
               refine pure_ (i:=8) (N:=some 43) (v:=?_) (a':=?_) #[zt,zf,zt,zt,zt,zf,zf,zf,zt,zf,zf,zf,zf,zf,zf,zf,zf,zf,zf] rfl rfl (any_of HT_.out (by kernel_rfl)) (fun _ _ _ h=>h) (Or.inl ⟨by rfl,?_⟩) ?_ ?_
               rotate_left
               ·intro w'
                go_simp
                with_reducible rfl
               rotate_left
               ·simp only [Act.put,zP_,i64_w]
                rfl
               refine pure_ (i:=10) (N:=some 45) (v:=?_) (a':=?_) #[zt,zf,zt,zt,zt,zf,zf,zf,zt,zf,zt,zf,zf,zf,zf,zf,zf,zf,zf] rfl rfl (any_of HT_.out (by kernel_rfl)) (fun _ _ _ h=>h) (Or.inl ⟨by rfl,?_⟩) ?_ ?_
               rotate_left
               ·intro w'
                go_simp
                with_reducible rfl
               rotate_left
               ·simp only [Act.put,zP_,i64_w]
                rfl
               refine pure_ (i:=11) (N:=some 46) (v:=?_) (a':=?_) #[zt,zf,zt,zt,zt,zf,zf,zf,zt,zf,zt,zt,zf,zf,zf,zf,zf,zf,zf] rfl rfl (any_of HT_.out (by kernel_rfl)) (fun _ _ _ h=>h) (Or.inl ⟨by rfl,?_⟩) ?_ ?_
               rotate_left
               ·intro w'
                go_simp
                with_reducible rfl
               rotate_left
               ·simp only [Act.put,zP_,i64_w]
                rfl
               refine pure_ (i:=12) (N:=some 47) (v:=?_) (a':=?_) #[zt,zf,zt,zt,zt,zf,zf,zf,zt,zf,zt,zt,zt,zf,zf,zf,zf,zf,zf] rfl rfl (any_of HT_.out (by kernel_rfl)) (fun _ _ _ h=>h) (Or.inl ⟨by rfl,?_⟩) ?_ ?_
               rotate_left
               ·intro w'
                go_simp
                with_reducible rfl
               rotate_left
               ·simp only [Act.put,zP_,i64_w]
                rfl
               refine pure_ (i:=18) (N:=some 53) (v:=?_) (a':=?_) #[zt,zf,zt,zt,zt,zf,zf,zf,zt,zf,zt,zt,zt,zf,zf,zf,zf,zf,zt] rfl rfl (any_of HT_.out (by kernel_rfl)) (fun _ _ _ h=>h) (Or.inl ⟨by rfl,?_⟩) ?_ ?_
               rotate_left
               ·intro w'
                go_simp
                with_reducible rfl
               rotate_left
               ·simp only [Act.put,zP_,i64_w]
                rfl
               refine take_ (i:=1) (N:=some 36) (v:=?_) (a':=?_) #[zt,zt,zt,zt,zt,zf,zf,zf,zt,zf,zt,zt,zt,zf,zf,zf,zf,zf,zt] rfl rfl (take_ofW HT_.out HW_.out (by kernel_rfl)) (fun _ _ _ h=>h) (Or.inl ⟨by rfl,?_⟩) hHeld ?_ ?_
               rotate_left
               ·rintro w' ⟨s0,s1,s2,s3,s4,s5⟩
                go_simp
                with_reducible rfl
               rotate_left
               ·simp only [Act.put,zP_,i64_w]
                rfl
               refine take_ (i:=5) (N:=some 40) (v:=?_) (a':=?_) #[zt,zt,zt,zt,zt,zt,zf,zf,zt,zf,zt,zt,zt,zf,zf,zf,zf,zf,zt] rfl rfl (take_ofW HT_.out HW_.out (by kernel_rfl)) (fun _ _ _ h=>h) (Or.inl ⟨by rfl,?_⟩) hHeld ?_ ?_
               rotate_left
               ·rintro w' ⟨s0,s1,s2,s3,s4,s5⟩
                go_simp
                with_reducible rfl
               rotate_left
               ·simp only [Act.put,zP_,i64_w]
                rfl
               refine pure_ (i:=6) (N:=some 41) (v:=?_) (a':=?_) #[zt,zt,zt,zt,zt,zt,zt,zf,zt,zf,zt,zt,zt,zf,zf,zf,zf,zf,zt] rfl rfl (any_of HT_.out (by kernel_rfl)) (fun _ _ _ h=>h) (Or.inl ⟨by rfl,?_⟩) ?_ ?_
               rotate_left
               ·intro w'
                go_simp
                with_reducible rfl
               rotate_left
               ·simp only [Act.put,zP_,i64_w]
                rfl
               refine take_ (i:=7) (N:=some 42) (v:=?_) (a':=?_) #[zt,zt,zt,zt,zt,zt,zt,zt,zt,zf,zt,zt,zt,zf,zf,zf,zf,zf,zt] rfl rfl (take_ofW HT_.out HW_.out (by kernel_rfl)) (fun _ _ _ h=>h) (Or.inl ⟨by rfl,?_⟩) hHeld ?_ ?_
               rotate_left
               ·rintro w' ⟨s0,s1,s2,s3,s4,s5⟩
                go_simp
                with_reducible rfl
               rotate_left
               ·simp only [Act.put,zP_,i64_w]
                rfl
               refine take_ (i:=9) (N:=some 44) (v:=?_) (a':=?_) #[zt,zt,zt,zt,zt,zt,zt,zt,zt,zt,zt,zt,zt,zf,zf,zf,zf,zf,zt] rfl rfl (take_ofW HT_.out HW_.out (by kernel_rfl)) (fun _ _ _ h=>h) (Or.inl ⟨by rfl,?_⟩) hHeld ?_ ?_
               rotate_left
               ·rintro w' ⟨s0,s1,s2,s3,s4,s5⟩
                go_simp
                with_reducible rfl
               rotate_left
               ·simp only [Act.put,zP_,i64_w]
                rfl
               refine take_ (i:=13) (N:=some 48) (v:=?_) (a':=?_) #[zt,zt,zt,zt,zt,zt,zt,zt,zt,zt,zt,zt,zt,zt,zf,zf,zf,zf,zt] rfl rfl (take_ofW HT_.out HW_.out (by kernel_rfl)) (fun _ _ _ h=>h) (Or.inl ⟨by rfl,?_⟩) hHeld ?_ ?_
               rotate_left
               ·rintro w' ⟨s0,s1,s2,s3,s4,s5⟩
                go_simp
                with_reducible rfl
               rotate_left
               ·simp only [Act.put,zP_,i64_w]
                rfl
               refine pure_ (i:=14) (N:=some 49) (v:=?_) (a':=?_) #[zt,zt,zt,zt,zt,zt,zt,zt,zt,zt,zt,zt,zt,zt,zt,zf,zf,zf,zt] rfl rfl (any_of HT_.out (by kernel_rfl)) (fun _ _ _ h=>h) (Or.inl ⟨by rfl,?_⟩) ?_ ?_
               rotate_left
               ·intro w'
                go_simp
                with_reducible rfl
               rotate_left
               ·simp only [Act.put,zP_,i64_w]
                rfl
               refine take_ (i:=15) (N:=some 50) (v:=?_) (a':=?_) #[zt,zt,zt,zt,zt,zt,zt,zt,zt,zt,zt,zt,zt,zt,zt,zt,zf,zf,zt] rfl rfl (take_ofW HT_.out HW_.out (by kernel_rfl)) (fun _ _ _ h=>h) (Or.inl ⟨by rfl,?_⟩) hHeld ?_ ?_
               rotate_left
               ·rintro w' ⟨s0,s1,s2,s3,s4,s5⟩
                go_simp
                with_reducible rfl
               rotate_left
               ·simp only [Act.put,zP_,i64_w]
                rfl
               refine one_ (i:=16) (N:=some 51) #[zt,zt,zt,zt,zt,zt,zt,zt,zt,zt,zt,zt,zt,zt,zt,zt,zt,zf,zt] rfl rfl (one_of HT_.out (by kernel_rfl)) (by decide) (fun K hK=>?_)
               refine Kd.R_lit_step (Kd.int .i64) _ 3 ?hg (N:=51) ?hd (xs:=([rd l0_0 (rd x7_2 x8_2),rd l0_1 (rd x7_2 x8_2)]:List Int)) (inner:=[.int .i64 (rd l0_0 (rd x7_2 x8_2)),.int .i64 (rd l0_1 (rd x7_2 x8_2))]) (ok:=fun _=>True) (okp:=fun _=>True) ?hr ?hp (fun _ hk=>hk) trivial (Below.refl _ _) (Nat.le_refl _) (by simp) ?_;(case hd=>rfl);(case hg=>rfl);(case hr=>first|(go_simp;done)|(go_simp;rfl));(case hp=>exact (Reps.one (show Kd.M (Kd.int .i64) _ _ _ (rd l0_0 (rd x7_2 x8_2)) [.int .i64 (rd l0_0 (rd x7_2 x8_2))] from rfl) (Reps.one (show Kd.M (Kd.int .i64) _ _ _ (rd l0_1 (rd x7_2 x8_2)) [.int .i64 (rd l0_1 (rd x7_2 x8_2))] from rfl) (Reps.none _ _))))
               intro v384 w30 ho31 hb hg_ hnew_
               have HS2_:=(hb.cell (zY _ _ (hHeld.2.2.1))).trans (hHeld.2.2.1)
               have HS4_:=(hb.cell (zY _ _ (hHeld.2.2.2.2.1))).trans (hHeld.2.2.2.2.1)
               clear hg_ hnew_
               (first|rw [← Ny383.out] at ho31|(simp only [Int.reduceToNat] at ho31;rw [← Ny383.out] at ho31))
               have n0_:=zA (Kd.R_elder' (by apply zR_;exact HO_5.out) (zd ho31) hb)
               have n1_:=zA (Kd.R_elder' (by apply zR_;exact HO_7.out) (zd ho31) hb)
               have n2_:=zA (ze (zh (zh ho31 (Kd.R_lt (by apply zR_;exact HO_5.out))) (Kd.R_lt (by apply zR_;exact HO_7.out))) (zQ (by repeat (first|(with_reducible first|exact HB.out|apply zD|apply zB|apply zC|refine zF ?_ GE370.out)|exact HB.out))))
               have n3_:=zA (zX (g:=gb370) (o:=.cells #[.slice (some ad380) l0_0.length c0_0,.slice (some ad382) l0_1.length c0_1] 27 (0,0)) (by (with_reducible repeat (first|refine zG ?_ _|refine zI ?_|refine zH ?_ _));exact BK370.out) hb)
               have n4_:=zA (zR (by repeat (first|(with_reducible first|exact HB.out|apply zD|apply zB|apply zC|refine zF ?_ GE370.out)|exact HB.out)) hb)
               clear HO_5 HO_7 BK370 HB
               have HO_5:=n0_
               have HO_7:=n1_
               have HO385:=n2_
               have BK370:=n3_
               have HB:=n4_
               clear n0_ n1_ n2_ n3_ n4_ hb ho31
               obtain ⟨Ao32,co32,eo32⟩:=zg HO385.out
               (first|subst eo32|(injection eo32 with f1_ f2_ f3_;have f4_:=f1_.symm;have f5_:=f3_.symm;clear f1_ f2_ f3_;subst f4_;subst f5_))
               refine hK.out _ _ ⟨(zT BK370.out 0).trans rfl,(zT BK370.out 1).trans rfl,HS2_,((HB.out.cell (zY w _ hw380_0)).trans hw380_0),HS4_,((HB.out.cell (zY w _ hw382_0)).trans hw382_0)⟩ (fun hHeld=>?_)
               clear hK K
               refine norm_ (a':=?_) ?_ ?_
               rotate_left
               ·show Act.put _ (some 51) _ = _
                simp only [Act.put,zP_,i64_w]
                rfl
               refine pure_ (i:=17) (N:=some 52) (v:=?_) (a':=?_) #[zt,zt,zt,zt,zt,zt,zt,zt,zt,zt,zt,zt,zt,zt,zt,zt,zt,zt,zt] rfl rfl (any_of HT_.out (by kernel_rfl)) (fun _ _ _ h=>h) (Or.inl ⟨by rfl,?_⟩) ?_ ?_
               rotate_left
               ·intro w'
                go_simp
                with_reducible rfl
               rotate_left
               ·simp only [Act.put,zP_,i64_w]
                rfl
               refine done_ (done_of HT_.out (by kernel_rfl)) ?_
               try go_wp2
               go_loopg [7,53] k2 (fun kq v7 v53 w' => ∃ (x5_3:List Int) (x7_3:List Int) (x53_3:Int),v53 = .int .i64 x53_3∧Aside0 (impl_namesFrom.l2 kq x5_3 x7_3 x8_2 y383 (y383.length:Int) x53_3 l0_0 l0_1 = some r)∧Aside0 (kq≤k2)∧Aside0 (Kd.R (Kd.int .i64) 3 w' w.heap.size (fun k_=>some k_≠(v7:Value).ownBlock∧some k_≠((.slice Ao32 y383.length co32):Value).ownBlock) (.slice (some ⟨go18,0,none⟩) x5_2.length co9) x5_3)∧Aside0 (Kd.R (Kd.int .i64) 3 w' w.heap.size (fun k_=>some k_≠((.slice (some ⟨go18,0,none⟩) x5_2.length co9):Value).ownBlock∧some k_≠((.slice Ao32 y383.length co32):Value).ownBlock) v7 x7_3)∧Aside0 (Kd.R (Kd.int .i64) 3 w' w.heap.size (fun k_=>some k_≠((.slice (some ⟨go18,0,none⟩) x5_2.length co9):Value).ownBlock∧some k_≠(v7:Value).ownBlock) (.slice Ao32 y383.length co32) y383)∧Aside0 (w'.heap[gb370]? = some (.cells #[(.slice (some ad380) l0_0.length c0_0),(.slice (some ad382) l0_1.length c0_1)] 27 (0,0)))∧Aside0 (Below w.heap.size w w'))
               case atStart=>exact ⟨(x5_2),(x7_2),(0),(by first|rfl|(simp;done)|(simp [*];done)),H',⟨Nat.le_refl _⟩,⟨by (try simp only [hl5_1]);(try simp only [hl5_2]);apply zR_;exact HO_5.out⟩,⟨by (try simp only [hl5_1]);(try simp only [hl5_2]);apply zR_;exact HO_7.out⟩,⟨by (try simp only [hl5_1]);(try simp only [hl5_2]);apply zR_;exact zV HO385.out (fun _ hk=>⟨hk.1.2,hk.2⟩)⟩,⟨by (try simp only [hl5_1]);(try simp only [hl5_2]);(with_reducible repeat (first|refine zG ?_ _|refine zI ?_|refine zH ?_ _));exact BK370.out⟩,⟨by repeat (first|(with_reducible first|exact HB.out|apply zD|apply zB|apply zC|refine zF ?_ GE370.out)|exact HB.out)⟩⟩
               case round =>
                clear H'
                (try clear c1);(try clear p1);(try clear q1);(try clear hx1);(try clear c2);(try clear p2);(try clear c3);(try clear c3b0);(try clear c3b1);(try clear p3);(try clear q3);(try clear hx3);(try clear c4);(try clear c4b0);(try clear c4b1);(try clear p6);(try clear c10);(try clear c10b0);(try clear c11);(try clear c11b0);(try clear c12);(try clear c12b0);(try clear p13);(try clear q13);(try clear hx13);(try clear hf13);(try clear c16);(try clear c16b0);(try clear c17);(try clear c17b0);(try clear p18);(try clear q18);(try clear hx18);(try clear hf18);(try clear c23);(try clear c23b0);(try clear c24);(try clear c24b0);(try clear c25);(try clear c25b0);(try clear c26);(try clear c26b0);(try clear c27);(try clear c27b0);(try clear hcz6_0);(try clear hcz6_1);(try clear hfz6_0);(try clear hfz6_1);(try clear hx13_0);(try clear hx18_0);(try clear hx379_0);(try clear hx380_0);(try clear hx381_0);(try clear hx382_0);(try clear p1);(try clear p13);(try clear p18);(try clear p2);(try clear p379);(try clear p380);(try clear p381);(try clear p382);(try clear p6);(try clear q1);(try clear q13);(try clear q18);(try clear q379);(try clear q380);(try clear q381);(try clear q382)
                obtain ⟨x5_3,x7_3,x53_3,rfl,HA,HK3,HO_5,HO_7,HO_51,BK370,HB⟩:=hrel
                have hl5_3:=(zU HO_5.out).1
                rw [hl5_3] at HO_5
                (try simp only [hl5_3])
                (try simp only [hl5_3] at BK370)
                (try simp only [hl5_3] at HO_7)
                (try simp only [hl5_3] at HO_51)
                cases gk with
                | zero=>exact absurd HA.out (by simp [impl_namesFrom.l2])
                | succ k3 =>
                 have H:=HA.out
                 clear HA
                 simp only [impl_namesFrom.l2] at H
                 by_cases c33:x53_3 < (y383.length:Int)
                 ·rw [if_pos c33] at H
                  have c33b0:decide (x53_3 < (y383.length:Int)) = true:=zO c33
                  clear c33
                  by_cases c34:0≤x53_3
                  ·rw [if_pos c34] at H
                   have c34b0:decide (0≤x53_3) = true:=zO c34
                   clear c34
                   by_cases c35:x53_3 < (y383.length:Int)
                   ·rw [if_pos c35] at H
                    have c35b0:decide (x53_3 < (y383.length:Int)) = true:=zO c35
                    clear c35
                    by_cases c36:0≤(rd y383 x53_3)
                    ·rw [if_pos c36] at H
                     have c36b0:decide (0≤(rd y383 x53_3)) = true:=zO c36
                     clear c36
                     by_cases c37:(rd y383 x53_3) < (x5_3.length:Int)
                     ·rw [if_pos c37] at H
                      have c37b0:decide ((rd y383 x53_3) < (x5_3.length:Int)) = true:=zO c37
                      clear c37
                      by_cases c38:(rd x5_3 (rd y383 x53_3)) < 0
                      ·rw [if_pos c38] at H
                       have c38b0:decide ((rd x5_3 (rd y383 x53_3)) < 0) = true:=zO c38
                       clear c38
                       obtain ⟨y388,hy388⟩:∃ y_:List Int,y_ = (x5_3.set ((rd y383 x53_3):Int).toNat (x7_3.length:Int)):=⟨_,rfl⟩
                       replace H:(if x7_3.length < 17592186044416 then (impl_namesFrom.l2 k3 y388 (x7_3 ++ [rd y383 x53_3]) x8_2 y383 (y383.length:Int) (wrap64 (x53_3+1)) l0_0 l0_1) else (none)) = some r:=by (try rw [hy388]);first|with_reducible exact H|with_reducible exact zS_ H|exact H
                       have Ny388:=zA hy388
                       clear hy388
                       by_cases c40:x7_3.length < 17592186044416
                       ·rw [if_pos c40] at H
                        have LMc40:=zA c40
                        clear c40
                        obtain ⟨y389,hy389⟩:∃ y_:List Int,y_ = (x7_3 ++ [rd y383 x53_3]):=⟨_,rfl⟩
                        replace H:(impl_namesFrom.l2 k3 y388 y389 x8_2 y383 (y383.length:Int) (wrap64 (x53_3+1)) l0_0 l0_1) = some r:=by (try rw [hy389]);first|with_reducible exact H|with_reducible exact zS_ H|exact H
                        have Ny389:=zA hy389
                        clear hy389
                        have H':=zA H
                        clear H
                        have p386:0≤(x53_3:Int):=zE (by with_reducible assumption)
                        have q386:x53_3 < (y383.length:Int):=zE (by with_reducible assumption)
                        obtain ⟨ad386,e386,hx386_0⟩:=Kd.at_int (zU HO_51.out).2.2 x53_3 p386 q386
                        cases e386
                        replace p386:=eq_true p386
                        replace q386:=eq_true q386
                        have p387:0≤((rd y383 x53_3):Int):=zE (by with_reducible assumption)
                        have q387:(rd y383 x53_3) < (x5_3.length:Int):=zE (by with_reducible assumption)
                        obtain ⟨ad387,e387,hx387_0⟩:=Kd.at_int (zU HO_5.out).2.2 (rd y383 x53_3) p387 q387
                        obtain rfl:(⟨go18,0,none⟩:Addr) = ad387:=(by injection e387)
                        (first|simp only [add_plain] at hx387_0|simp only [add_at] at hx387_0|simp only [Addr.add,Nat.zero_add] at hx387_0|skip)
                        replace p387:=eq_true p387
                        replace q387:=eq_true q387
                        obtain ⟨Ao41,co41,eo41⟩:=zg HO_7.out
                        subst eo41
                        have p39:0≤((rd y383 x53_3):Int):=zE (by with_reducible assumption)
                        have q39:((rd y383 x53_3):Int) < ((x5_3.length:Int):Int):=zE (by with_reducible assumption)
                        obtain ⟨hx39_0,hf39_0⟩:=Kd.R_celln 0 HO_5.out ((rd y383 x53_3):Int) p39 q39
                        replace p39:=eq_true p39
                        replace q39:=eq_true q39
                        have HP42:=Kd.R_putg HO_5.out ((rd y383 x53_3):Int) (x7_3.length:Int)
                        go_wp2_with (first|((with_reducible refine gate_store (t:=3) (p:=66) rfl ?_);refine store_event (t:=3) (p:=66) (v:=?vo_w43) (w1:=(wr.setCell ⟨go18,((rd y383 x53_3):Int).toNat,none⟩ (.int .i64 (x7_3.length:Int)))) ?hg ?ho ?hn ?hr ?_;(case ho=>rfl);(case hg=>rfl);(case hn=>rfl);(case hr=>first|(go_simp;done)|(go_simp;rfl));intro w43 hw;have hg:wr.grownBy w43 (some go18):=(by rw [hw];exact HP42.2);have hp_:Kd.R (Kd.int .i64) 3 w43 w.heap.size (fun k_=>some k_≠(.slice Ao41 x7_3.length co41:Value).ownBlock∧some k_≠(.slice (some ad386) y383.length co32:Value).ownBlock) (.slice (some ⟨go18,0,none⟩) x5_3.length co9) y388:=(by rw [hw,Ny388.out];exact HP42.1);clear HP42;have n0_:=zA (hp_);have n1_:=zA (Kd.R_after (v:=(.slice (some ⟨go18,0,none⟩) x5_3.length co9)) (v1:=(.slice (some ⟨go18,0,none⟩) x5_3.length co9)) (ok:=(fun k_=>some k_≠(.slice (some ad386) y383.length co32:Value).ownBlock)) (by apply zR_;exact zV HO_7.out (fun _ hk=>⟨hk.2,hk.1⟩)) hg (.inl rfl));have n2_:=zA (Kd.R_after (v:=(.slice (some ⟨go18,0,none⟩) x5_3.length co9)) (v1:=(.slice (some ⟨go18,0,none⟩) x5_3.length co9)) (ok:=(fun k_=>some k_≠(.slice Ao41 x7_3.length co41:Value).ownBlock)) (by apply zR_;exact zV HO_51.out (fun _ hk=>⟨hk.2,hk.1⟩)) hg (.inl rfl));have n3_:=zA (blk_grown (g:=gb370) (o:=.cells #[.slice (some ad380) l0_0.length c0_0,.slice (some ad382) l0_1.length c0_1] 27 (0,0)) (by (with_reducible repeat (first|refine zG ?_ _|refine zI ?_|refine zH ?_ _));exact BK370.out) hg (Kd.R_ne HO_5.out BK370.out (by decide)));have n4_:=zA ((by rw [hw];exact zF (HB.out) GB18.out:Below w.heap.size w w43));clear HO_5;clear HO_7;clear HO_51;clear BK370;clear HB;have HO_5:=n0_;have HO_7:=n1_;have HO_51:=n2_;have BK370:=n3_;have HB:=n4_;clear n0_ n1_ n2_ n3_ n4_;clear hg hw hp_)|((with_reducible refine gate_builtin (b:=.append) (xs:=#[.tmp 67,.tmp 69]) rfl ?_);at_builtin;refine Kd.R_append (Kd.int .i64) (w0:=w) w.heap.size rfl (.tmp 67) (.tmp 69) 23 3 (.int .i64 0) 8 rfl Try.underlying23 info3 rfl (by decide) (by omega) (.slice Ao41 x7_3.length co41) x7_3 (rd y383 x53_3) [.int .i64 (rd y383 x53_3)] (fun k_=>some k_≠(.slice (some ⟨go18,0,none⟩) x5_3.length co9:Value).ownBlock∧some k_≠(.slice (some ad386) y383.length co32:Value).ownBlock) (fun _=>False) rfl rfl ?aP (fun _ hk=>hk.elim) ?aF ?aO ?aB ?aS ?aL ?_;(case aP=>exact rfl);(case aB=>exact (by repeat (first|(with_reducible first|exact HB.out|apply zD|apply zB|apply zC|refine zF ?_ GE370.out)|exact HB.out)));(case aF=>exact (fun k_ hk=>⟨Kd.fresh' (Kd.R_lt (by apply zR_;exact HO_5.out)) k_ hk,Kd.fresh' (Kd.R_lt (by apply zR_;exact HO_51.out)) k_ hk⟩));(case aO=>exact (by apply zR_;exact zV HO_7.out (fun _ hk=>⟨hk.2,hk.1⟩)));(case aS=>exact (zQ (by repeat (first|(with_reducible first|exact HB.out|apply zD|apply zB|apply zC|refine zF ?_ GE370.out)|exact HB.out))));(case aL=>have:=LMc40.out;omega);intro v390 w44 ho hb hg hat;rw [← Ny389.out] at ho;have n0_:=zA (Kd.R_after (ok:=(fun k_=>some k_≠(.slice (some ad386) y383.length co32:Value).ownBlock)) (by apply zR_;exact zV HO_5.out (fun _ hk=>⟨hk.2,hk.1⟩)) hg hat);have n1_:=zA (Kd.R_after (ok:=(fun k_=>some k_≠(.slice (some ⟨go18,0,none⟩) x5_3.length co9:Value).ownBlock)) (by apply zR_;exact zV HO_51.out (fun _ hk=>⟨hk.2,hk.1⟩)) hg hat);have n2_:=zA (blk_grown (g:=gb370) (o:=.cells #[.slice (some ad380) l0_0.length c0_0,.slice (some ad382) l0_1.length c0_1] 27 (0,0)) (by (with_reducible repeat (first|refine zG ?_ _|refine zI ?_|refine zH ?_ _));exact BK370.out) hg (Kd.R_ne HO_7.out BK370.out (by decide)));have n3_:=zA (hb);have n4_:=zA (ho);clear HO_5;clear HO_51;clear BK370;clear HB;clear HO_7;have HO_5:=n0_;have HO_51:=n1_;have BK370:=n2_;have HB:=n3_;have HO391:=n4_;clear n0_ n1_ n2_ n3_ n4_;clear ho hb hg hat))
                        (try simp only [← hl5_3])
                        go_roundg k3
                        case measure=>have:=HK1.out;have:=HK2.out;have:=HK3.out;omega
                        case rel=>exact ⟨(y388),(y389),(wrap64 (x53_3+1)),(by first|rfl|(simp;done)|(simp [*];done)),H',⟨by have:=HK1.out;have:=HK2.out;have:=HK3.out;omega⟩,⟨by (try simp only [hl5_1]);(try simp only [hl5_2]);(try simp only [hl5_3]);apply zR_;exact zV HO_5.out (fun _ hk=>⟨hk.2,hk.1⟩)⟩,⟨by (try simp only [hl5_1]);(try simp only [hl5_2]);(try simp only [hl5_3]);apply zR_;exact HO391.out⟩,⟨by (try simp only [hl5_1]);(try simp only [hl5_2]);(try simp only [hl5_3]);apply zR_;exact HO_51.out⟩,⟨by (try simp only [hl5_1]);(try simp only [hl5_2]);(try simp only [hl5_3]);(with_reducible repeat (first|refine zG ?_ _|refine zI ?_|refine zH ?_ _));exact BK370.out⟩,⟨by repeat (first|(with_reducible first|exact HB.out|apply zD|apply zB|apply zC|refine zF ?_ GE370.out)|exact HB.out)⟩⟩
                       ·rw [if_neg c40] at H
                        exact absurd H (by simp)
                      ·rw [if_neg c38] at H
                       have c38b0:decide ((rd x5_3 (rd y383 x53_3)) < 0) = false:=zP c38
                       clear c38
                       have H':=zA H
                       clear H
                       have p386:0≤(x53_3:Int):=zE (by with_reducible assumption)
                       have q386:x53_3 < (y383.length:Int):=zE (by with_reducible assumption)
                       obtain ⟨ad386,e386,hx386_0⟩:=Kd.at_int (zU HO_51.out).2.2 x53_3 p386 q386
                       cases e386
                       replace p386:=eq_true p386
                       replace q386:=eq_true q386
                       have p387:0≤((rd y383 x53_3):Int):=zE (by with_reducible assumption)
                       have q387:(rd y383 x53_3) < (x5_3.length:Int):=zE (by with_reducible assumption)
                       obtain ⟨ad387,e387,hx387_0⟩:=Kd.at_int (zU HO_5.out).2.2 (rd y383 x53_3) p387 q387
                       obtain rfl:(⟨go18,0,none⟩:Addr) = ad387:=(by injection e387)
                       (first|simp only [add_plain] at hx387_0|simp only [add_at] at hx387_0|simp only [Addr.add,Nat.zero_add] at hx387_0|skip)
                       replace p387:=eq_true p387
                       replace q387:=eq_true q387
                       go_wp2
                       (try simp only [← hl5_3])
                       go_roundg k3
                       case measure=>have:=HK1.out;have:=HK2.out;have:=HK3.out;omega
                       case rel=>exact ⟨(x5_3),(x7_3),(wrap64 (x53_3+1)),(by first|rfl|(simp;done)|(simp [*];done)),H',⟨by have:=HK1.out;have:=HK2.out;have:=HK3.out;omega⟩,⟨by (try simp only [hl5_1]);(try simp only [hl5_2]);(try simp only [hl5_3]);apply zR_;exact HO_5.out⟩,⟨by (try simp only [hl5_1]);(try simp only [hl5_2]);(try simp only [hl5_3]);apply zR_;exact HO_7.out⟩,⟨by (try simp only [hl5_1]);(try simp only [hl5_2]);(try simp only [hl5_3]);apply zR_;exact HO_51.out⟩,⟨by (try simp only [hl5_1]);(try simp only [hl5_2]);(try simp only [hl5_3]);(with_reducible repeat (first|refine zG ?_ _|refine zI ?_|refine zH ?_ _));exact BK370.out⟩,⟨by repeat (first|(with_reducible first|exact HB.out|apply zD|apply zB|apply zC|refine zF ?_ GE370.out)|exact HB.out)⟩⟩
                     ·rw [if_neg c37] at H
                      exact absurd H (by simp)
                    ·rw [if_neg c36] at H
                     exact absurd H (by simp)
                   ·rw [if_neg c35] at H
                    exact absurd H (by simp)
                  ·rw [if_neg c34] at H
                   exact absurd H (by simp)
                 ·rw [if_neg c33] at H
                  have c33b0:decide (x53_3 < (y383.length:Int)) = false:=zP c33
                  try have c33b9:decide (x53_3 < (x5_1.length:Int)) = false:=by rw [← hl5_1];exact c33b0
                  clear c33
                  have H':=zA H
                  clear H
                  go_wp2
                  (try simp only [← hl5_2, ← hl5_3])
                  go_roundg k3
                  case measure=>have:=HK1.out;have:=HK2.out;have:=HK3.out;omega
                  case rel=>exact ⟨(x5_3),(x7_3),(wrap64 (x8_2+1)),(by first|rfl|(simp;done)|(simp [*];done)),H',⟨by have:=HK1.out;have:=HK2.out;have:=HK3.out;omega⟩,⟨by (try simp only [hl5_1]);(try simp only [hl5_2]);(try simp only [hl5_3]);apply zR_;exact zV HO_5.out (fun _ hk=>hk.1)⟩,⟨by (try simp only [hl5_1]);(try simp only [hl5_2]);(try simp only [hl5_3]);apply zR_;exact zV HO_7.out (fun _ hk=>hk.1)⟩,⟨by (try simp only [hl5_1]);(try simp only [hl5_2]);(try simp only [hl5_3]);(with_reducible repeat (first|refine zG ?_ _|refine zI ?_|refine zH ?_ _));exact BK370.out⟩,⟨by repeat (first|(with_reducible first|exact HB.out|apply zD|apply zB|apply zC|refine zF ?_ GE370.out)|exact HB.out)⟩⟩
              ·rw [if_neg c27] at H
               exact absurd H (by simp)
             ·rw [if_neg c26] at H
              exact absurd H (by simp)
            ·rw [if_neg c25] at H
             exact absurd H (by simp)
           ·rw [if_neg c24] at H
            exact absurd H (by simp)
          ·rw [if_neg c23] at H
           have c23b0:decide (x8_2 < (x7_2.length:Int)) = false:=zP c23
           clear c23
           obtain rfl:=zS H
           obtain ⟨Ao45,co45,eo45⟩:=zg HO_7.out
           subst eo45
           go_wp2
           go_ret
           exact ⟨_,by first|rfl|(simp [errW_none,errW_some] <;> rfl)|(simp [*,errW_none,errW_some] <;> rfl),by apply zR_;exact zV HO_5.out (fun _ hk=>trivial),by repeat (first|(with_reducible first|exact HB.out|apply zD|apply zB|apply zC|refine zF ?_ GE370.out)|exact HB.out)⟩
       ·rw [if_neg c17] at H
        exact absurd H (by simp)
      ·rw [if_neg c16] at H
       exact absurd H (by simp)
  ·rw [if_neg c4] at H
   exact absurd H (by simp)
 ·rw [if_neg c3] at H
  exact absurd H (by simp)

end Go.Proofs.Ytonlecigglbohaa.Q
