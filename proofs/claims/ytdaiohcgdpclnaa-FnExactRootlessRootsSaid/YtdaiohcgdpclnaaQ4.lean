import Derived.Test.YtdaiohcgdpclnaaQ0
import Derived.Test.YtdaiohcgdpclnaaQ2
import Derived.Test.YtdaiohcgdpclnaaZ
namespace Go.Proofs.Ytdaiohcgdpclnaa.Q
open Go.RowKit Go.Proofs.YtdaiohcgdpclnaaW.PrintWords Go.Proofs.YtdaiohcgdpclnaaW.PrintLast Go.Proofs.YtdaiohcgdpclnaaW.PrintMore
attribute [local go_sem] max2_int min2_int max_two min_two max_three min_three max_four min_four   -- for this text's walks alone
set_option linter.unusedVariables false
set_option linter.unusedSimpArgs false

/-! ### impl_back: function 82 -/
def impl_back.l0:Nat→List Int→List Int→Int→Int→Option (List Int)
 | 0,_,_,_,_=>none
 | k+1,x3,x9,x10,x11=>if x11 < x10 then (if 0≤x11 then (if x11 < (x9.length:Int) then (if 0≤(rd x9 x11) then (if (rd x9 x11) < (x3.length:Int) then (impl_back.l0 k (x3.set ((rd x9 x11):Int).toNat x11) x9 x10 (wrap64 (x11+1))) else (none)) else (none)) else (none)) else (none)) else (some x3)
def impl_back.f (k:Nat) (l0:List Int):Option (List Int):=if 0≤(l0.length:Int) then (if ((l0.length:Int):Int).toNat≤35184372088832 then (impl_back.l0 k (List.replicate ((l0.length:Int):Int).toNat 0) l0 (l0.length:Int) 0) else (none)) else (none)
theorem impl_back.mono_l:∀ k,(∀ y0 y1 y2 y3,LeO (impl_back.l0 k y0 y1 y2 y3) (impl_back.l0 (k+1) y0 y1 y2 y3))
 | 0=>fun _ _ _ _ r h=>by simp [impl_back.l0] at h
 | k+1=>by
  have ih0:=impl_back.mono_l k
  ·intro y0 y1 y2 y3
   unfold impl_back.l0
   repeat' first
   | (with_reducible exact ih0 _ _ _ _)
   | (with_reducible exact LeO.refl _)
   | (with_reducible exact za _)
   | (with_reducible refine zc ?_ ?_)
   | (with_reducible refine zb ?_ (fun _=>?_))
theorem impl_back.mono:∀ a0 k,LeO (impl_back.f k a0) (impl_back.f (k+1) a0):=by
 intro a0 k
 have ih0:=impl_back.mono_l k
 unfold impl_back.f
 repeat' first
   | (with_reducible exact ih0 _ _ _ _)
   | (with_reducible exact LeO.refl _)
   | (with_reducible exact za _)
   | (with_reducible refine zc ?_ ?_)
   | (with_reducible refine zb ?_ (fun _=>?_))
set_option maxHeartbeats 8000000 in
set_option maxRecDepth 100000 in
theorem impl_back.calls (k:Nat) (A0:Option Addr) (c0:Nat) (l0:List Int) (r:List Int) (w:World) (hr0:Kd.C (Kd.int .i64) w A0 l0.length l0) (hc0:l0.length≤c0) (h:impl_back.f k l0 = some r) :
  Calls Try.prog 82 #[.slice A0 l0.length c0] w fun e w' => ∃ v0_:Value,e = .returned (v0_)∧Kd.R (Kd.int .i64) 3 w' w.heap.size (fun _=>True) v0_ r∧Below w.heap.size w w':=by
 have HR0:=zA hr0
 have HC0:=zA hc0
 clear hr0 hc0
 have HB:=zA (Below.refl w.heap.size w)
 have H:(if 0≤(l0.length:Int) then (if ((l0.length:Int):Int).toNat≤35184372088832 then (impl_back.l0 k (List.replicate ((l0.length:Int):Int).toNat 0) l0 (l0.length:Int) 0) else (none)) else (none)) = some r:=h
 clear h
 by_cases c2:0≤(l0.length:Int)
 ·rw [if_pos c2] at H
  have c2b0:=eq_true c2
  have c2b1:decide (0≤(l0.length:Int)) = true:=zO c2
  clear c2
  by_cases c3:((l0.length:Int):Int).toNat≤35184372088832
  ·rw [if_pos c3] at H
   have c3b0:=eq_true c3
   have c3b1:decide (((l0.length:Int):Int).toNat≤35184372088832) = true:=zO c3
   clear c3
   obtain ⟨y212,hy212⟩:∃ y_:List Int,y_ = (List.replicate ((l0.length:Int):Int).toNat 0):=⟨_,rfl⟩
   replace H:(impl_back.l0 k y212 l0 (l0.length:Int) 0) = some r:=by (try rw [hy212]);first|with_reducible exact H|with_reducible exact zS_ H|exact H
   have Ny212:=zA hy212
   clear hy212
   have H':=zA H
   clear H
   go_enter Try.func82,Try.ntmps82
   go_wp2_with (first|((with_reducible refine gate_dst (N:=8) rfl ?_);refine Kd.R_make (Kd.int .i64) _ 3 rfl (N:=8) rfl 31 _ _ rfl (l0.length:Int) rfl rfl Try.underlying31 (.int .i64 0) 8 info3 rfl (by decide) (by omega) 0 (ok:=fun _=>True) (okp:=fun _=>True) rfl (fun _ hk=>hk) trivial (zE (by with_reducible assumption)) (Nat.le_trans (Nat.mul_le_mul_right _ (zE (by with_reducible assumption):(l0.length:Int).toNat≤35184372088832)) (by omega)) (Below.refl _ _) (Nat.le_refl _) ?_;intro v213 w4 ho5 hb hg_ hnew_;clear hg_ hnew_;(first|rw [← Ny212.out] at ho5|(simp only [Int.reduceToNat] at ho5;rw [← Ny212.out] at ho5));have n0_:=zA (ze ho5 (zQ (by exact zB_ HB.out)));have n1_:=zA (zR (by exact zB_ HB.out) hb);clear HB;have HO214:=n0_;have HB:=n1_;clear n0_ n1_;clear hb ho5))
   go_loopg [11] k (fun kq v11 w' => ∃ (x3_1:List Int) (x11_1:Int),v11 = .int .i64 x11_1∧Aside0 (impl_back.l0 kq x3_1 l0 (l0.length:Int) x11_1 = some r)∧Aside0 (kq≤k)∧Aside0 (Kd.R (Kd.int .i64) 3 w' w.heap.size (fun _=>True) v213 x3_1)∧Aside0 (Below w.heap.size w w'))
   case atStart=>exact ⟨(y212),(0),(by first|rfl|(simp;done)|(simp [*];done)),H',⟨Nat.le_refl _⟩,⟨by apply zR_;exact HO214.out⟩,⟨by exact zB_ HB.out⟩⟩
   case round =>
    clear H'
    (try clear c2);(try clear c2b0);(try clear c2b1);(try clear p2);(try clear c3);(try clear c3b0);(try clear c3b1)
    obtain ⟨x3_1,x11_1,rfl,HA,HK1,HO_3,HB⟩:=hrel
    cases gk with
    | zero=>exact absurd HA.out (by simp [impl_back.l0])
    | succ k1 =>
     have H:=HA.out
     clear HA
     simp only [impl_back.l0] at H
     by_cases c6:x11_1 < (l0.length:Int)
     ·rw [if_pos c6] at H
      have c6b0:decide (x11_1 < (l0.length:Int)) = true:=zO c6
      clear c6
      by_cases c7:0≤x11_1
      ·rw [if_pos c7] at H
       have c7b0:decide (0≤x11_1) = true:=zO c7
       clear c7
       by_cases c8:x11_1 < (l0.length:Int)
       ·rw [if_pos c8] at H
        have c8b0:decide (x11_1 < (l0.length:Int)) = true:=zO c8
        clear c8
        by_cases c9:0≤(rd l0 x11_1)
        ·rw [if_pos c9] at H
         have c9b0:decide (0≤(rd l0 x11_1)) = true:=zO c9
         clear c9
         by_cases c10:(rd l0 x11_1) < (x3_1.length:Int)
         ·rw [if_pos c10] at H
          have c10b0:decide ((rd l0 x11_1) < (x3_1.length:Int)) = true:=zO c10
          clear c10
          obtain ⟨y216,hy216⟩:∃ y_:List Int,y_ = (x3_1.set ((rd l0 x11_1):Int).toNat x11_1):=⟨_,rfl⟩
          replace H:(impl_back.l0 k1 y216 l0 (l0.length:Int) (wrap64 (x11_1+1))) = some r:=by (try rw [hy216]);first|with_reducible exact H|with_reducible exact zS_ H|exact H
          have Ny216:=zA hy216
          clear hy216
          have H':=zA H
          clear H
          have p215:0≤(x11_1:Int):=zE (by with_reducible assumption)
          have q215:x11_1 < (l0.length:Int):=zE (by with_reducible assumption)
          obtain ⟨ad215,e215,hx215_0⟩:=Kd.at_int HR0.out x11_1 p215 q215
          cases e215
          replace hx215_0:=(HB.out.cell (zY w _ hx215_0)).trans hx215_0
          replace p215:=eq_true p215
          replace q215:=eq_true q215
          have p11:0≤((rd l0 x11_1):Int):=zE (by with_reducible assumption)
          have q11:((rd l0 x11_1):Int) < ((x3_1.length:Int):Int):=zE (by with_reducible assumption)
          obtain ⟨go11,co11,eo11,gb11,gl11,cl11,HG11⟩:=Kd.R_form HO_3.out (by omega)
          (first|cases eo11|(injection eo11 with ea_ en_ ec_;(first|subst ea_|(injection ea_ with ea_;subst ea_));subst ec_;clear en_))
          have GB11:=zA gb11
          have GG11:=zA HG11
          clear gb11 gl11 HG11
          obtain ⟨hx11_0,hf11_0⟩:=Kd.R_celln 0 HO_3.out ((rd l0 x11_1):Int) p11 q11
          replace p11:=eq_true p11
          replace q11:=eq_true q11
          have HP12:=Kd.R_putg HO_3.out ((rd l0 x11_1):Int) x11_1
          go_wp2_with (first|((with_reducible refine gate_store (t:=3) (p:=19) rfl ?_);refine store_event (t:=3) (p:=19) (v:=?vo_w13) (w1:=(wr.setCell ⟨go11,((rd l0 x11_1):Int).toNat,none⟩ (.int .i64 x11_1))) ?hg ?ho ?hn ?hr ?_;(case ho=>rfl);(case hg=>rfl);(case hn=>rfl);(case hr=>first|(go_simp;done)|(go_simp;rfl));intro w13 hw;have hg:wr.grownBy w13 (some go11):=(by rw [hw];exact HP12.2);have hp_:Kd.R (Kd.int .i64) 3 w13 w.heap.size (fun _=>True) (.slice (some ⟨go11,0,none⟩) x3_1.length co11) y216:=(by rw [hw,Ny216.out];exact HP12.1);clear HP12;have n0_:=zA (hp_);have n1_:=zA ((by rw [hw];exact zF (HB.out) GB11.out:Below w.heap.size w w13));clear HO_3;clear HB;have HO_3:=n0_;have HB:=n1_;clear n0_ n1_;clear hg hw hp_))
          go_roundg k1
          case measure=>have:=HK1.out;omega
          case rel=>exact ⟨(y216),(wrap64 (x11_1+1)),(by first|rfl|(simp;done)|(simp [*];done)),H',⟨by have:=HK1.out;omega⟩,⟨by apply zR_;exact HO_3.out⟩,⟨by exact zB_ HB.out⟩⟩
         ·rw [if_neg c10] at H
          exact absurd H (by simp)
        ·rw [if_neg c9] at H
         exact absurd H (by simp)
       ·rw [if_neg c8] at H
        exact absurd H (by simp)
      ·rw [if_neg c7] at H
       exact absurd H (by simp)
     ·rw [if_neg c6] at H
      have c6b0:decide (x11_1 < (l0.length:Int)) = false:=zP c6
      clear c6
      obtain rfl:=zS H
      go_wp2
      go_ret
      exact ⟨_,by first|rfl|(simp [errW_none,errW_some] <;> rfl)|(simp [*,errW_none,errW_some] <;> rfl),by apply zR_;exact HO_3.out,by exact zB_ HB.out⟩
  ·rw [if_neg c3] at H
   exact absurd H (by simp)
 ·rw [if_neg c2] at H
  exact absurd H (by simp)

/-! ### impl_renamed: function 47 -/
def impl_renamed.f (k:Nat) (l0_0:List Int) (l0_1:List Int) (l1:List Int):Option (List Int × List Int):=(impl_back.f k l1).bind fun t219=>((impl_mul.f k t219 l0_0).bind fun t222=>((impl_mul.f k t222 l1).bind fun t225=>((impl_back.f k l1).bind fun t228=>((impl_mul.f k t228 l0_1).bind fun t231=>((impl_mul.f k t231 l1).bind fun t234=>(some (t225,t234)))))))
theorem impl_renamed.mono:∀ a0 a1 a2 k,LeO (impl_renamed.f k a0 a1 a2) (impl_renamed.f (k+1) a0 a1 a2):=by
 intro a0 a1 a2 k
 unfold impl_renamed.f
 repeat' first
   | (with_reducible exact impl_back.mono _ _)
   | (with_reducible exact impl_mul.mono _ _ _)
   | (with_reducible exact LeO.refl _)
   | (with_reducible exact za _)
   | (with_reducible refine zc ?_ ?_)
   | (with_reducible refine zb ?_ (fun _=>?_))
def impl_renamed.T1:Bool × List (List Nat × List Nat):=(true,[([],[]),([0],[0]),([],[]),([2],[2]),([1,3,1],[1,3]),([],[]),([4,5,4],[4,5]),([],[]),([7,6],[7]),([],[]),([9],[9]),([8,10,8],[8,10]),([],[]),([11,12,11],[11,12]),([6,13],[6,13]),([14,13,0,1,2,3,4,5,6,7,8,9,10,11,12,13,14],[14])])
def impl_renamed.B1:List Nat:=[0,1,0,4,15,0,63,0,255,0,512,2047,0,8191,16383,32767]
theorem impl_renamed.tab1:rtab .any (opsOf Try.f47 1) = impl_renamed.T1:=by kernel_rfl
theorem impl_renamed.bits1:waitsOk impl_renamed.T1.2 impl_renamed.B1 = true:=by kernel_rfl
set_option maxHeartbeats 8000000 in
set_option maxRecDepth 100000 in
theorem impl_renamed.calls (k:Nat) (A0_0:Option Addr) (c0_0:Nat) (l0_0:List Int) (A0_1:Option Addr) (c0_1:Nat) (l0_1:List Int) (A1:Option Addr) (c1:Nat) (l1:List Int) (r1:List Int) (r2:List Int) (w:World) (hr0_0:Kd.C (Kd.int .i64) w A0_0 l0_0.length l0_0) (hc0_0:l0_0.length≤c0_0) (hr0_1:Kd.C (Kd.int .i64) w A0_1 l0_1.length l0_1) (hc0_1:l0_1.length≤c0_1) (hr1:Kd.C (Kd.int .i64) w A1 l1.length l1) (hc1:l1.length≤c1) (h:impl_renamed.f k l0_0 l0_1 l1 = some (r1,r2)) :
  Calls Try.prog 47 #[.agg #[.slice A0_0 l0_0.length c0_0,.slice A0_1 l0_1.length c0_1],.slice A1 l1.length c1] w fun e w' => ∃ v0_ v1_:Value,e = .returned (.agg #[v0_,v1_])∧Kd.R (Kd.int .i64) 3 w' w.heap.size (fun k_=>some k_≠(v1_:Value).ownBlock) v0_ r1∧Kd.R (Kd.int .i64) 3 w' w.heap.size (fun k_=>some k_≠(v0_:Value).ownBlock) v1_ r2∧Below w.heap.size w w':=by
 have hu33:=Try.underlying33
 have HR0_0:=zA hr0_0
 have HC0_0:=zA hc0_0
 clear hr0_0 hc0_0
 have HR0_1:=zA hr0_1
 have HC0_1:=zA hc0_1
 clear hr0_1 hc0_1
 have HR1:=zA hr1
 have HC1:=zA hc1
 clear hr1 hc1
 have HB:=zA (Below.refl w.heap.size w)
 have H:((impl_back.f k l1).bind fun t219=>((impl_mul.f k t219 l0_0).bind fun t222=>((impl_mul.f k t222 l1).bind fun t225=>((impl_back.f k l1).bind fun t228=>((impl_mul.f k t228 l0_1).bind fun t231=>((impl_mul.f k t231 l1).bind fun t234=>(some (t225,t234)))))))) = some (r1,r2):=h
 clear h
 replace H:=zz0 H
 obtain ⟨t219,A30,H⟩:=H
 try dsimp only at H
 have A3:=zA A30
 clear A30
 replace H:=zz0 H
 obtain ⟨t222,A40,H⟩:=H
 try dsimp only at H
 have A4:=zA A40
 clear A40
 replace H:=zz0 H
 obtain ⟨t225,A50,H⟩:=H
 try dsimp only at H
 have A5:=zA A50
 clear A50
 replace H:=zz0 H
 obtain ⟨t228,A60,H⟩:=H
 try dsimp only at H
 have A6:=zA A60
 clear A60
 replace H:=zz0 H
 obtain ⟨t231,A70,H⟩:=H
 try dsimp only at H
 have A7:=zA A70
 clear A70
 replace H:=zz0 H
 obtain ⟨t234,A80,H⟩:=H
 try dsimp only at H
 have A8:=zA A80
 clear A80
 simp only [Option.some.injEq,Prod.mk.injEq] at H
 obtain ⟨rfl,rfl⟩:=H
 go_enter Try.func47,Try.ntmps47
 try go_wp2_with (first|((with_reducible refine gate_dst (N:=2) rfl ?_);refine box_event ?hg (N:=2) ?hd (cs:=#[.slice A0_0 l0_0.length c0_0,.slice A0_1 l0_1.length c0_1]) (t:=33) ?hr ?_;(case hd=>rfl);(case hg=>rfl);(case hr=>first|(go_simp;done)|(go_simp;rfl));intro gb217 hg w9 hbox hb;have n0_:=zA (zR (by exact zB_ HB.out) hb);have n1_:=zA (hbox);have n2_:=zA ((by rw [hg];exact (zQ (by exact zB_ HB.out)):w.heap.size≤gb217));have n3_:=zA ((by rw [hg];exact (zQ (by exact zB_ HB.out)):w.heap.size≤gb217));clear HB;have HB:=n0_;have BK217:=n1_;have GW217:=n2_;have GE217:=n3_;clear n0_ n1_ n2_ n3_;clear hb hbox hg)|((with_reducible refine gate_dst (N:=4) rfl ?_);refine box_event ?hg (N:=4) ?hd (cs:=#[.slice none 0 0,.slice none 0 0]) (t:=33) ?hr ?_;(case hd=>rfl);(case hg=>rfl);(case hr=>first|(go_simp;done)|(go_simp;rfl));intro gb218 hg w10 hbox hb;have n0_:=zA (zX (g:=gb217) (o:=.cells #[.slice A0_0 l0_0.length c0_0,.slice A0_1 l0_1.length c0_1] 33 (0,0)) (by (with_reducible repeat (first|refine zG ?_ _|refine zI ?_|refine zH ?_ _));exact BK217.out) hb);have n1_:=zA (zR (by repeat (first|(with_reducible first|exact HB.out|apply zD|apply zB|apply zC|refine zF ?_ GE217.out)|exact HB.out)) hb);have n2_:=zA (hbox);have n3_:=zA ((by rw [hg];exact (zQ (by repeat (first|(with_reducible first|exact HB.out|apply zD|apply zB|apply zC|refine zF ?_ GE217.out)|exact HB.out))):w.heap.size≤gb218));have n4_:=zA ((by rw [hg];exact (zQ (by repeat (first|(with_reducible first|exact HB.out|apply zD|apply zB|apply zC|refine zF ?_ GE217.out)|exact HB.out))):w.heap.size≤gb218));have n5_:=zA ((by rw [hg];exact Nat.ne_of_lt (blk_lt (g:=gb217) (o:=.cells #[.slice A0_0 l0_0.length c0_0,.slice A0_1 l0_1.length c0_1] 33 (0,0)) (by (with_reducible repeat (first|refine zG ?_ _|refine zI ?_|refine zH ?_ _));exact BK217.out)):gb217≠gb218));have n6_:=zA ((by rw [hg];exact Nat.ne_of_gt (blk_lt (g:=gb217) (o:=.cells #[.slice A0_0 l0_0.length c0_0,.slice A0_1 l0_1.length c0_1] 33 (0,0)) (by (with_reducible repeat (first|refine zG ?_ _|refine zI ?_|refine zH ?_ _));exact BK217.out)):gb218≠gb217));clear BK217;clear HB;have BK217:=n0_;have HB:=n1_;have BK218:=n2_;have GW218:=n3_;have GE218:=n4_;have NB217_218:=n5_;have NB218_217:=n6_;clear n0_ n1_ n2_ n3_ n4_ n5_ n6_;clear hb hbox hg))
 have n0_:=zA (zI BK217.out)
 have n1_:=zA (zI BK218.out)
 have n2_:=zA (zC HB.out)
 clear BK217 BK218 HB
 have BK217:=n0_
 have BK218:=n1_
 have HB:=n2_
 clear n0_ n1_ n2_
 refine start_ (n:=16) (S:=fun w'=>w'.cell? ⟨gb217,0,none⟩ = some (.slice A0_0 l0_0.length c0_0)∧w'.cell? ⟨gb217,1,none⟩ = some (.slice A0_1 l0_1.length c0_1)) (ds:=[]) #[zf,zf,zf,zf,zf,zf,zf,zf,zf,zf,zf,zf,zf,zf,zf,zf] (by kernel_rfl) rfl rfl ⟨(zT BK217.out 0).trans rfl,(zT BK217.out 1).trans rfl⟩ (fun hHeld=>?_);refine with_tabW impl_renamed.tab1 impl_renamed.bits1 (fun HT_ HW_=>?_)
 generalize w10.drew = w11 at BK217 BK218 HB hHeld ⊢
 refine pure_ (i:=0) (N:=some 5) (v:=?_) (a':=?_) #[zt,zf,zf,zf,zf,zf,zf,zf,zf,zf,zf,zf,zf,zf,zf,zf] rfl rfl (any_of HT_.out (by kernel_rfl)) (fun _ _ _ h=>h) (Or.inl ⟨by rfl,?_⟩) ?_ ?_
 rotate_left
 ·intro w'
  go_simp
  with_reducible rfl
 rotate_left
 ·simp only [Act.put,zP_,i64_w]
  rfl
 refine pure_ (i:=2) (N:=some 7) (v:=?_) (a':=?_) #[zt,zf,zt,zf,zf,zf,zf,zf,zf,zf,zf,zf,zf,zf,zf,zf] rfl rfl (any_of HT_.out (by kernel_rfl)) (fun _ _ _ h=>h) (Or.inl ⟨by rfl,?_⟩) ?_ ?_
 rotate_left
 ·intro w'
  go_simp
  with_reducible rfl
 rotate_left
 ·simp only [Act.put,zP_,i64_w]
  rfl
 refine pure_ (i:=5) (N:=some 10) (v:=?_) (a':=?_) #[zt,zf,zt,zf,zf,zt,zf,zf,zf,zf,zf,zf,zf,zf,zf,zf] rfl rfl (any_of HT_.out (by kernel_rfl)) (fun _ _ _ h=>h) (Or.inl ⟨by rfl,?_⟩) ?_ ?_
 rotate_left
 ·intro w'
  go_simp
  with_reducible rfl
 rotate_left
 ·simp only [Act.put,zP_,i64_w]
  rfl
 refine pure_ (i:=7) (N:=some 12) (v:=?_) (a':=?_) #[zt,zf,zt,zf,zf,zt,zf,zt,zf,zf,zf,zf,zf,zf,zf,zf] rfl rfl (any_of HT_.out (by kernel_rfl)) (fun _ _ _ h=>h) (Or.inl ⟨by rfl,?_⟩) ?_ ?_
 rotate_left
 ·intro w'
  go_simp
  with_reducible rfl
 rotate_left
 ·simp only [Act.put,zP_,i64_w]
  rfl
 refine pure_ (i:=9) (N:=some 14) (v:=?_) (a':=?_) #[zt,zf,zt,zf,zf,zt,zf,zt,zf,zt,zf,zf,zf,zf,zf,zf] rfl rfl (any_of HT_.out (by kernel_rfl)) (fun _ _ _ h=>h) (Or.inl ⟨by rfl,?_⟩) ?_ ?_
 rotate_left
 ·intro w'
  go_simp
  with_reducible rfl
 rotate_left
 ·simp only [Act.put,zP_,i64_w]
  rfl
 refine pure_ (i:=12) (N:=some 17) (v:=?_) (a':=?_) #[zt,zf,zt,zf,zf,zt,zf,zt,zf,zt,zf,zf,zt,zf,zf,zf] rfl rfl (any_of HT_.out (by kernel_rfl)) (fun _ _ _ h=>h) (Or.inl ⟨by rfl,?_⟩) ?_ ?_
 rotate_left
 ·intro w'
  go_simp
  with_reducible rfl
 rotate_left
 ·simp only [Act.put,zP_,i64_w]
  rfl
 refine take_ (i:=3) (N:=some 8) (v:=?_) (a':=?_) #[zt,zf,zt,zt,zf,zt,zf,zt,zf,zt,zf,zf,zt,zf,zf,zf] rfl rfl (take_ofW HT_.out HW_.out (by kernel_rfl)) (fun _ _ _ h=>h) (Or.inl ⟨by rfl,?_⟩) hHeld ?_ ?_
 rotate_left
 ·rintro w' ⟨s0,s1⟩
  go_simp
  with_reducible rfl
 rotate_left
 ·simp only [Act.put,zP_,i64_w]
  rfl
 refine take_ (i:=10) (N:=some 15) (v:=?_) (a':=?_) #[zt,zf,zt,zt,zf,zt,zf,zt,zf,zt,zt,zf,zt,zf,zf,zf] rfl rfl (take_ofW HT_.out HW_.out (by kernel_rfl)) (fun _ _ _ h=>h) (Or.inl ⟨by rfl,?_⟩) hHeld ?_ ?_
 rotate_left
 ·rintro w' ⟨s0,s1⟩
  go_simp
  with_reducible rfl
 rotate_left
 ·simp only [Act.put,zP_,i64_w]
  rfl
 refine one_ (i:=1) (N:=some 6) #[zt,zt,zt,zt,zf,zt,zf,zt,zf,zt,zt,zf,zt,zf,zf,zf] rfl rfl (one_of HT_.out (by kernel_rfl)) (by decide) (fun K hK=>?_)
 refine goes_ Try.func82 (by kernel_rfl) rfl #[.slice A1 l1.length c1] (by rfl) rfl rfl (by (try simp only [zJ,zM,zN]);first|done|rfl|(simp only [zL,zK];rfl)) ?_
 with_reducible refine (impl_back.calls k _ _ l1 t219 _ ?side1 ?side2 A3.out).mono ?_
 (case side1=>repeat (first|exact (zW HR1.out HB.out)|(with_reducible exact HR1.out)|apply zC_))
 (case side2=>exact HC1.out)
 rintro e w12 ⟨v220,rfl,ho0,hb⟩
 refine ⟨_,rfl,?_⟩
 have n0_:=zA (ze ho0 (zQ (by repeat (first|(with_reducible first|exact HB.out|apply zD|apply zB|apply zC|refine zF ?_ GE217.out|refine zF ?_ GE218.out)|exact HB.out))))
 have n1_:=zA (zX (g:=gb217) (o:=.cells #[.slice A0_0 l0_0.length c0_0,.slice A0_1 l0_1.length c0_1] 33 (0,0)) (by (with_reducible repeat (first|refine zG ?_ _|refine zI ?_|refine zH ?_ _));exact BK217.out) hb)
 have n2_:=zA (zX (g:=gb218) (o:=.cells #[.slice none 0 0,.slice none 0 0] 33 (0,0)) (by (with_reducible repeat (first|refine zG ?_ _|refine zI ?_|refine zH ?_ _));exact BK218.out) hb)
 have n3_:=zA (zR (by repeat (first|(with_reducible first|exact HB.out|apply zD|apply zB|apply zC|refine zF ?_ GE217.out|refine zF ?_ GE218.out)|exact HB.out)) hb)
 clear BK217 BK218 HB
 have HO221:=n0_
 have BK217:=n1_
 have BK218:=n2_
 have HB:=n3_
 clear n0_ n1_ n2_ n3_
 (try clear hb);(try clear hb2);(try clear hk);(try clear hi);(try clear ho0)
 obtain ⟨Ao13,co13,eo13⟩:=zg HO221.out
 (first|subst eo13|(injection eo13 with f1_ f2_ f3_;have f4_:=f1_.symm;have f5_:=f3_.symm;clear f1_ f2_ f3_;subst f4_;subst f5_))
 refine hK.out _ _ ⟨(zT BK217.out 0).trans rfl,(zT BK217.out 1).trans rfl⟩ (fun hHeld=>?_)
 clear hK K
 refine norm_ (a':=?_) ?_ ?_
 rotate_left
 ·show Act.put _ (some 6) _ = _
  simp only [Act.put,zP_,i64_w]
  rfl
 refine one_ (i:=4) (N:=some 9) #[zt,zt,zt,zt,zt,zt,zf,zt,zf,zt,zt,zf,zt,zf,zf,zf] rfl rfl (one_of HT_.out (by kernel_rfl)) (by decide) (fun K hK=>?_)
 refine goes_ Try.func49 (by kernel_rfl) rfl #[.slice Ao13 t219.length co13,.slice A0_0 l0_0.length c0_0] (by rfl) rfl rfl (by (try simp only [zJ,zM,zN]);first|done|rfl|(simp only [zL,zK];rfl)) ?_
 with_reducible refine (impl_mul.calls k _ _ t219 _ _ l0_0 t222 _ ?side1 ?side2 ?side3 ?side4 A4.out).mono ?_
 (case side1=>repeat (first|exact (zU HO221.out).2.2|apply zC_))
 (case side2=>exact (zU HO221.out).2.1)
 (case side3=>repeat (first|exact (zW HR0_0.out HB.out)|(with_reducible exact HR0_0.out)|apply zC_))
 (case side4=>exact HC0_0.out)
 rintro e w14 ⟨v223,rfl,ho0,hb⟩
 refine ⟨_,rfl,?_⟩
 have n0_:=zA (Kd.R_elder' (by apply zR_;exact HO221.out) (zd ho0) hb)
 have n1_:=zA (ze (zh ho0 (Kd.R_lt (by apply zR_;exact HO221.out))) (zQ (by repeat (first|(with_reducible first|exact HB.out|apply zD|apply zB|apply zC|refine zF ?_ GE217.out|refine zF ?_ GE218.out)|exact HB.out))))
 have n2_:=zA (zX (g:=gb217) (o:=.cells #[.slice A0_0 l0_0.length c0_0,.slice A0_1 l0_1.length c0_1] 33 (0,0)) (by (with_reducible repeat (first|refine zG ?_ _|refine zI ?_|refine zH ?_ _));exact BK217.out) hb)
 have n3_:=zA (zX (g:=gb218) (o:=.cells #[.slice none 0 0,.slice none 0 0] 33 (0,0)) (by (with_reducible repeat (first|refine zG ?_ _|refine zI ?_|refine zH ?_ _));exact BK218.out) hb)
 have n4_:=zA (zR (by repeat (first|(with_reducible first|exact HB.out|apply zD|apply zB|apply zC|refine zF ?_ GE217.out|refine zF ?_ GE218.out)|exact HB.out)) hb)
 clear HO221 BK217 BK218 HB
 have HO221:=n0_
 have HO224:=n1_
 have BK217:=n2_
 have BK218:=n3_
 have HB:=n4_
 clear n0_ n1_ n2_ n3_ n4_
 (try clear hb);(try clear hb2);(try clear hk);(try clear hi);(try clear ho0)
 obtain ⟨Ao15,co15,eo15⟩:=zg HO224.out
 (first|subst eo15|(injection eo15 with f1_ f2_ f3_;have f4_:=f1_.symm;have f5_:=f3_.symm;clear f1_ f2_ f3_;subst f4_;subst f5_))
 refine hK.out _ _ ⟨(zT BK217.out 0).trans rfl,(zT BK217.out 1).trans rfl⟩ (fun hHeld=>?_)
 clear hK K
 refine norm_ (a':=?_) ?_ ?_
 rotate_left
 ·show Act.put _ (some 9) _ = _
  simp only [Act.put,zP_,i64_w]
  rfl
 refine one_ (i:=6) (N:=some 11) #[zt,zt,zt,zt,zt,zt,zt,zt,zf,zt,zt,zf,zt,zf,zf,zf] rfl rfl (one_of HT_.out (by kernel_rfl)) (by decide) (fun K hK=>?_)
 refine goes_ Try.func49 (by kernel_rfl) rfl #[.slice Ao15 t222.length co15,.slice A1 l1.length c1] (by rfl) rfl rfl (by (try simp only [zJ,zM,zN]);first|done|rfl|(simp only [zL,zK];rfl)) ?_
 with_reducible refine (impl_mul.calls k _ _ t222 _ _ l1 t225 _ ?side1 ?side2 ?side3 ?side4 A5.out).mono ?_
 (case side1=>repeat (first|exact (zU HO224.out).2.2|apply zC_))
 (case side2=>exact (zU HO224.out).2.1)
 (case side3=>repeat (first|exact (zW HR1.out HB.out)|(with_reducible exact HR1.out)|apply zC_))
 (case side4=>exact HC1.out)
 rintro e w16 ⟨v226,rfl,ho0,hb⟩
 refine ⟨_,rfl,?_⟩
 have n0_:=zA (Kd.R_elder' (by apply zR_;exact HO221.out) (zd ho0) hb)
 have n1_:=zA (Kd.R_elder' (by apply zR_;exact HO224.out) (zd ho0) hb)
 have n2_:=zA (ze (zh (zh ho0 (Kd.R_lt (by apply zR_;exact HO221.out))) (Kd.R_lt (by apply zR_;exact HO224.out))) (zQ (by repeat (first|(with_reducible first|exact HB.out|apply zD|apply zB|apply zC|refine zF ?_ GE217.out|refine zF ?_ GE218.out)|exact HB.out))))
 have n3_:=zA (zX (g:=gb217) (o:=.cells #[.slice A0_0 l0_0.length c0_0,.slice A0_1 l0_1.length c0_1] 33 (0,0)) (by (with_reducible repeat (first|refine zG ?_ _|refine zI ?_|refine zH ?_ _));exact BK217.out) hb)
 have n4_:=zA (zX (g:=gb218) (o:=.cells #[.slice none 0 0,.slice none 0 0] 33 (0,0)) (by (with_reducible repeat (first|refine zG ?_ _|refine zI ?_|refine zH ?_ _));exact BK218.out) hb)
 have n5_:=zA (zR (by repeat (first|(with_reducible first|exact HB.out|apply zD|apply zB|apply zC|refine zF ?_ GE217.out|refine zF ?_ GE218.out)|exact HB.out)) hb)
 clear HO221 HO224 BK217 BK218 HB
 have HO221:=n0_
 have HO224:=n1_
 have HO227:=n2_
 have BK217:=n3_
 have BK218:=n4_
 have HB:=n5_
 clear n0_ n1_ n2_ n3_ n4_ n5_
 (try clear hb);(try clear hb2);(try clear hk);(try clear hi);(try clear ho0)
 refine hK.out _ _ ⟨(zT BK217.out 0).trans rfl,(zT BK217.out 1).trans rfl⟩ (fun hHeld=>?_)
 clear hK K
 refine norm_ (a':=?_) ?_ ?_
 rotate_left
 ·show Act.put _ (some 11) _ = _
  simp only [Act.put,zP_,i64_w]
  rfl
 refine one_ (i:=8) (N:=some 13) #[zt,zt,zt,zt,zt,zt,zt,zt,zt,zt,zt,zf,zt,zf,zf,zf] rfl rfl (one_of HT_.out (by kernel_rfl)) (by decide) (fun K hK=>?_)
 refine goes_ Try.func82 (by kernel_rfl) rfl #[.slice A1 l1.length c1] (by rfl) rfl rfl (by (try simp only [zJ,zM,zN]);first|done|rfl|(simp only [zL,zK];rfl)) ?_
 with_reducible refine (impl_back.calls k _ _ l1 t228 _ ?side1 ?side2 A6.out).mono ?_
 (case side1=>repeat (first|exact (zW HR1.out HB.out)|(with_reducible exact HR1.out)|apply zC_))
 (case side2=>exact HC1.out)
 rintro e w17 ⟨v229,rfl,ho0,hb⟩
 refine ⟨_,rfl,?_⟩
 have n0_:=zA (Kd.R_elder' (by apply zR_;exact HO221.out) (zd ho0) hb)
 have n1_:=zA (Kd.R_elder' (by apply zR_;exact HO224.out) (zd ho0) hb)
 have n2_:=zA (Kd.R_elder' (by apply zR_;exact HO227.out) (zd ho0) hb)
 have n3_:=zA (ze (zh (zh (zh ho0 (Kd.R_lt (by apply zR_;exact HO221.out))) (Kd.R_lt (by apply zR_;exact HO224.out))) (Kd.R_lt (by apply zR_;exact HO227.out))) (zQ (by repeat (first|(with_reducible first|exact HB.out|apply zD|apply zB|apply zC|refine zF ?_ GE217.out|refine zF ?_ GE218.out)|exact HB.out))))
 have n4_:=zA (zX (g:=gb217) (o:=.cells #[.slice A0_0 l0_0.length c0_0,.slice A0_1 l0_1.length c0_1] 33 (0,0)) (by (with_reducible repeat (first|refine zG ?_ _|refine zI ?_|refine zH ?_ _));exact BK217.out) hb)
 have n5_:=zA (zX (g:=gb218) (o:=.cells #[.slice none 0 0,.slice none 0 0] 33 (0,0)) (by (with_reducible repeat (first|refine zG ?_ _|refine zI ?_|refine zH ?_ _));exact BK218.out) hb)
 have n6_:=zA (zR (by repeat (first|(with_reducible first|exact HB.out|apply zD|apply zB|apply zC|refine zF ?_ GE217.out|refine zF ?_ GE218.out)|exact HB.out)) hb)
 clear HO221 HO224 HO227 BK217 BK218 HB
 have HO221:=n0_
 have HO224:=n1_
 have HO227:=n2_
 have HO230:=n3_
 have BK217:=n4_
 have BK218:=n5_
 have HB:=n6_
 clear n0_ n1_ n2_ n3_ n4_ n5_ n6_
 (try clear hb);(try clear hb2);(try clear hk);(try clear hi);(try clear ho0)
 obtain ⟨Ao18,co18,eo18⟩:=zg HO230.out
 (first|subst eo18|(injection eo18 with f1_ f2_ f3_;have f4_:=f1_.symm;have f5_:=f3_.symm;clear f1_ f2_ f3_;subst f4_;subst f5_))
 refine hK.out _ _ ⟨(zT BK217.out 0).trans rfl,(zT BK217.out 1).trans rfl⟩ (fun hHeld=>?_)
 clear hK K
 refine norm_ (a':=?_) ?_ ?_
 rotate_left
 ·show Act.put _ (some 13) _ = _
  simp only [Act.put,zP_,i64_w]
  rfl
 refine one_ (i:=11) (N:=some 16) #[zt,zt,zt,zt,zt,zt,zt,zt,zt,zt,zt,zt,zt,zf,zf,zf] rfl rfl (one_of HT_.out (by kernel_rfl)) (by decide) (fun K hK=>?_)
 refine goes_ Try.func49 (by kernel_rfl) rfl #[.slice Ao18 t228.length co18,.slice A0_1 l0_1.length c0_1] (by rfl) rfl rfl (by (try simp only [zJ,zM,zN]);first|done|rfl|(simp only [zL,zK];rfl)) ?_
 with_reducible refine (impl_mul.calls k _ _ t228 _ _ l0_1 t231 _ ?side1 ?side2 ?side3 ?side4 A7.out).mono ?_
 (case side1=>repeat (first|exact (zU HO230.out).2.2|apply zC_))
 (case side2=>exact (zU HO230.out).2.1)
 (case side3=>repeat (first|exact (zW HR0_1.out HB.out)|(with_reducible exact HR0_1.out)|apply zC_))
 (case side4=>exact HC0_1.out)
 rintro e w19 ⟨v232,rfl,ho0,hb⟩
 refine ⟨_,rfl,?_⟩
 have n0_:=zA (Kd.R_elder' (by apply zR_;exact HO221.out) (zd ho0) hb)
 have n1_:=zA (Kd.R_elder' (by apply zR_;exact HO224.out) (zd ho0) hb)
 have n2_:=zA (Kd.R_elder' (by apply zR_;exact HO227.out) (zd ho0) hb)
 have n3_:=zA (Kd.R_elder' (by apply zR_;exact HO230.out) (zd ho0) hb)
 have n4_:=zA (ze (zh (zh (zh (zh ho0 (Kd.R_lt (by apply zR_;exact HO221.out))) (Kd.R_lt (by apply zR_;exact HO224.out))) (Kd.R_lt (by apply zR_;exact HO227.out))) (Kd.R_lt (by apply zR_;exact HO230.out))) (zQ (by repeat (first|(with_reducible first|exact HB.out|apply zD|apply zB|apply zC|refine zF ?_ GE217.out|refine zF ?_ GE218.out)|exact HB.out))))
 have n5_:=zA (zX (g:=gb217) (o:=.cells #[.slice A0_0 l0_0.length c0_0,.slice A0_1 l0_1.length c0_1] 33 (0,0)) (by (with_reducible repeat (first|refine zG ?_ _|refine zI ?_|refine zH ?_ _));exact BK217.out) hb)
 have n6_:=zA (zX (g:=gb218) (o:=.cells #[.slice none 0 0,.slice none 0 0] 33 (0,0)) (by (with_reducible repeat (first|refine zG ?_ _|refine zI ?_|refine zH ?_ _));exact BK218.out) hb)
 have n7_:=zA (zR (by repeat (first|(with_reducible first|exact HB.out|apply zD|apply zB|apply zC|refine zF ?_ GE217.out|refine zF ?_ GE218.out)|exact HB.out)) hb)
 clear HO221 HO224 HO227 HO230 BK217 BK218 HB
 have HO221:=n0_
 have HO224:=n1_
 have HO227:=n2_
 have HO230:=n3_
 have HO233:=n4_
 have BK217:=n5_
 have BK218:=n6_
 have HB:=n7_
 clear n0_ n1_ n2_ n3_ n4_ n5_ n6_ n7_
 (try clear hb);(try clear hb2);(try clear hk);(try clear hi);(try clear ho0)
 obtain ⟨Ao20,co20,eo20⟩:=zg HO233.out
 (first|subst eo20|(injection eo20 with f1_ f2_ f3_;have f4_:=f1_.symm;have f5_:=f3_.symm;clear f1_ f2_ f3_;subst f4_;subst f5_))
 refine hK.out _ _ ⟨(zT BK217.out 0).trans rfl,(zT BK217.out 1).trans rfl⟩ (fun hHeld=>?_)
 clear hK K
 refine norm_ (a':=?_) ?_ ?_
 rotate_left
 ·show Act.put _ (some 16) _ = _
  simp only [Act.put,zP_,i64_w]
  rfl
 refine one_ (i:=13) (N:=some 18) #[zt,zt,zt,zt,zt,zt,zt,zt,zt,zt,zt,zt,zt,zt,zf,zf] rfl rfl (one_of HT_.out (by kernel_rfl)) (by decide) (fun K hK=>?_)
 refine goes_ Try.func49 (by kernel_rfl) rfl #[.slice Ao20 t231.length co20,.slice A1 l1.length c1] (by rfl) rfl rfl (by (try simp only [zJ,zM,zN]);first|done|rfl|(simp only [zL,zK];rfl)) ?_
 with_reducible refine (impl_mul.calls k _ _ t231 _ _ l1 t234 _ ?side1 ?side2 ?side3 ?side4 A8.out).mono ?_
 (case side1=>repeat (first|exact (zU HO233.out).2.2|apply zC_))
 (case side2=>exact (zU HO233.out).2.1)
 (case side3=>repeat (first|exact (zW HR1.out HB.out)|(with_reducible exact HR1.out)|apply zC_))
 (case side4=>exact HC1.out)
 rintro e w21 ⟨v235,rfl,ho0,hb⟩
 refine ⟨_,rfl,?_⟩
 have n0_:=zA (Kd.R_elder' (by apply zR_;exact HO221.out) (zd ho0) hb)
 have n1_:=zA (Kd.R_elder' (by apply zR_;exact HO224.out) (zd ho0) hb)
 have n2_:=zA (Kd.R_elder' (by apply zR_;exact HO227.out) (zd ho0) hb)
 have n3_:=zA (Kd.R_elder' (by apply zR_;exact HO230.out) (zd ho0) hb)
 have n4_:=zA (Kd.R_elder' (by apply zR_;exact HO233.out) (zd ho0) hb)
 have n5_:=zA (ze (zh (zh (zh (zh (zh ho0 (Kd.R_lt (by apply zR_;exact HO221.out))) (Kd.R_lt (by apply zR_;exact HO224.out))) (Kd.R_lt (by apply zR_;exact HO227.out))) (Kd.R_lt (by apply zR_;exact HO230.out))) (Kd.R_lt (by apply zR_;exact HO233.out))) (zQ (by repeat (first|(with_reducible first|exact HB.out|apply zD|apply zB|apply zC|refine zF ?_ GE217.out|refine zF ?_ GE218.out)|exact HB.out))))
 have n6_:=zA (zX (g:=gb217) (o:=.cells #[.slice A0_0 l0_0.length c0_0,.slice A0_1 l0_1.length c0_1] 33 (0,0)) (by (with_reducible repeat (first|refine zG ?_ _|refine zI ?_|refine zH ?_ _));exact BK217.out) hb)
 have n7_:=zA (zX (g:=gb218) (o:=.cells #[.slice none 0 0,.slice none 0 0] 33 (0,0)) (by (with_reducible repeat (first|refine zG ?_ _|refine zI ?_|refine zH ?_ _));exact BK218.out) hb)
 have n8_:=zA (zR (by repeat (first|(with_reducible first|exact HB.out|apply zD|apply zB|apply zC|refine zF ?_ GE217.out|refine zF ?_ GE218.out)|exact HB.out)) hb)
 clear HO221 HO224 HO227 HO230 HO233 BK217 BK218 HB
 have HO221:=n0_
 have HO224:=n1_
 have HO227:=n2_
 have HO230:=n3_
 have HO233:=n4_
 have HO236:=n5_
 have BK217:=n6_
 have BK218:=n7_
 have HB:=n8_
 clear n0_ n1_ n2_ n3_ n4_ n5_ n6_ n7_ n8_
 (try clear hb);(try clear hb2);(try clear hk);(try clear hi);(try clear ho0)
 obtain ⟨Ao22,co22,eo22⟩:=zg HO236.out
 (first|subst eo22|(injection eo22 with f1_ f2_ f3_;have f4_:=f1_.symm;have f5_:=f3_.symm;clear f1_ f2_ f3_;subst f4_;subst f5_))
 obtain ⟨Ao23,co23,eo23⟩:=zg HO227.out
 (first|subst eo23|(injection eo23 with f1_ f2_ f3_;have f4_:=f1_.symm;have f5_:=f3_.symm;clear f1_ f2_ f3_;subst f4_;subst f5_))
 refine hK.out _ _ ⟨(zT BK217.out 0).trans rfl,(zT BK217.out 1).trans rfl⟩ (fun hHeld=>?_)
 clear hK K
 refine norm_ (a':=?_) ?_ ?_
 rotate_left
 ·show Act.put _ (some 18) _ = _
  simp only [Act.put,zP_,i64_w]
  rfl
 refine pure_ (i:=14) (N:=some 19) (v:=?_) (a':=?_) #[zt,zt,zt,zt,zt,zt,zt,zt,zt,zt,zt,zt,zt,zt,zt,zf] rfl rfl (any_of HT_.out (by kernel_rfl)) (fun _ _ _ h=>h) (Or.inl ⟨by rfl,?_⟩) ?_ ?_
 rotate_left
 ·intro w'
  go_simp
  with_reducible rfl
 rotate_left
 ·simp only [Act.put,zP_,i64_w]
  rfl
 refine one_ (i:=15) (N:=none) #[zt,zt,zt,zt,zt,zt,zt,zt,zt,zt,zt,zt,zt,zt,zt,zt] rfl rfl (one_of HT_.out (by kernel_rfl)) (by decide) (fun K hK=>?_)
 have hs24:w21.cell? ⟨gb218,0,none⟩ = some (.slice none 0 0):=(zT BK218.out 0).trans rfl
 have hfs24:=zZ BK218.out 0
 have hns24_0:=NB217_218.out
 have hms24_0:=NB218_217.out
 have hs25:w21.cell? ⟨gb218,1,none⟩ = some (.slice none 0 0):=(zT BK218.out 1).trans rfl
 have hfs25:=zZ BK218.out 1
 have hns25_0:=NB217_218.out
 have hms25_0:=NB218_217.out
 refine skip_ (w1:=?_) (by rfl) rfl ?_ ?_
 rotate_left
 ·go_simp
  rfl
 refine hK.out _ _ ⟨((cell_far (p:=⟨gb218,_,none⟩) NB217_218.out _).trans (((cell_far (p:=⟨gb218,_,none⟩) NB217_218.out _).trans (hHeld.1)))),((cell_far (p:=⟨gb218,_,none⟩) NB217_218.out _).trans (((cell_far (p:=⟨gb218,_,none⟩) NB217_218.out _).trans (hHeld.2))))⟩ (fun hHeld=>?_)
 clear hK K
 refine done_ (done_of HT_.out (by kernel_rfl)) ?_
 try go_wp2
 refine bodyPost_ret (results_cell_row rfl _ _ gb218 33 #[.slice Ao23 t225.length co23,.slice Ao22 t234.length co22] (0,0) _ rfl (by (with_reducible repeat (first|refine zG ?_ _|refine zI ?_|refine zH ?_ _));refine blk_put (cs:=#[.slice Ao23 t225.length co23,.slice none 0 0]) ?_ 1 _ rfl;(with_reducible repeat (first|refine zG ?_ _|refine zI ?_|refine zH ?_ _));refine blk_put (cs:=#[.slice none 0 0,.slice none 0 0]) ?_ 0 _ rfl;(with_reducible repeat (first|refine zG ?_ _|refine zI ?_|refine zH ?_ _));exact BK218.out) Try.underlying33 rfl (by kernel_rfl)) rfl ?_
 exact ⟨_,_,by first|rfl|(simp [errW_none,errW_some] <;> rfl)|(simp [*,errW_none,errW_some] <;> rfl),by apply zR_;exact zV (zi (p:=⟨gb218,1,none⟩) (zi (p:=⟨gb218,0,none⟩) (Kd.R_types HO227.out BK218.out (by decide)) (fun _ hk=>hk.2) (.slice Ao23 t225.length co23)) (fun _ hk=>hk.2) (.slice Ao22 t234.length co22)) (fun _ hk=>hk.1.2),by apply zR_;exact zV (zi (p:=⟨gb218,1,none⟩) (zi (p:=⟨gb218,0,none⟩) (Kd.R_types HO236.out BK218.out (by decide)) (fun _ hk=>hk.2) (.slice Ao23 t225.length co23)) (fun _ hk=>hk.2) (.slice Ao22 t234.length co22)) (fun _ hk=>hk.1.1.1.2),by repeat (first|(with_reducible first|exact HB.out|apply zD|apply zB|apply zC|refine zF ?_ GE217.out|refine zF ?_ GE218.out)|exact HB.out)⟩

end Go.Proofs.Ytdaiohcgdpclnaa.Q
