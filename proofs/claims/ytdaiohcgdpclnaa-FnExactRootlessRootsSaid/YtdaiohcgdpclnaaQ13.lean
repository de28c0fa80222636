import Derived.Test.YtdaiohcgdpclnaaQ0
import Derived.Test.YtdaiohcgdpclnaaQ12
import Derived.Test.YtdaiohcgdpclnaaZ
namespace Go.Proofs.Ytdaiohcgdpclnaa.Q
open Go.RowKit Go.Proofs.YtdaiohcgdpclnaaW.PrintWords Go.Proofs.YtdaiohcgdpclnaaW.PrintLast Go.Proofs.YtdaiohcgdpclnaaW.PrintMore
attribute [local go_sem] max2_int min2_int max_two min_two max_three min_three max_four min_four   -- for this text's walks alone
set_option linter.unusedVariables false
set_option linter.unusedSimpArgs false

/-! ### spec_l2Names: function 97 -/
mutual
def spec_l2Names.l0:Nat→Int→List Int→Int→List Int→List Int→Option (List Int)
 | 0,_,_,_,_,_=>none
 | k+1,x1,x5,x6,x514000,x514001=>if x6 < (x5.length:Int) then (if 0≤x6 then (spec_l2Names.l0 k x1 (x5.set (x6:Int).toNat (-1)) (wrap64 (x6+1)) x514000 x514001) else (none)) else (if 0≤x1 then (if x1 < (x5.length:Int) then (spec_l2Names.l1 k (x5.set (x1:Int).toNat 0) (([x1]:List Int)) 0 x514000 x514001) else (none)) else (none))
def spec_l2Names.l1:Nat→List Int→List Int→Int→List Int→List Int→Option (List Int)
 | 0,_,_,_,_,_=>none
 | k+1,x5,x7,x8,x514000,x514001=>if x8 < (x7.length:Int) then (if 0≤x8 then (if 0≤(rd x7 x8) then (if (rd x7 x8) < (x514000.length:Int) then (if (rd x7 x8) < (x514001.length:Int) then (spec_l2Names.l2 k x5 x7 x8 (([rd x514000 (rd x7 x8),rd x514001 (rd x7 x8)]:List Int)) 0 x514000 x514001) else (none)) else (none)) else (none)) else (none)) else (some x5)
def spec_l2Names.l2:Nat→List Int→List Int→Int→List Int→Int→List Int→List Int→Option (List Int)
 | 0,_,_,_,_,_,_,_=>none
 | k+1,x5,x7,x8,x9,x10,x514000,x514001=>if x10 < 2 then (if 0≤x10 then (if x10 < (x9.length:Int) then (if 0≤(rd x9 x10) then (if (rd x9 x10) < (x5.length:Int) then (if (rd x5 (rd x9 x10)) < 0 then (if x7.length < 17592186044416 then (spec_l2Names.l2 k (x5.set ((rd x9 x10):Int).toNat (x7.length:Int)) (x7 ++ [rd x9 x10]) x8 x9 (wrap64 (x10+1)) x514000 x514001) else (none)) else (spec_l2Names.l2 k x5 x7 x8 x9 (wrap64 (x10+1)) x514000 x514001)) else (none)) else (none)) else (none)) else (none)) else (spec_l2Names.l1 k x5 x7 (wrap64 (x8+1)) x514000 x514001)
end
def spec_l2Names.f (k:Nat) (l0_0:List Int) (l0_1:List Int) (a1:Int):Option (List Int):=if 0≤(l0_0.length:Int) then (if ((l0_0.length:Int):Int).toNat≤35184372088832 then (spec_l2Names.l0 k a1 (List.replicate ((l0_0.length:Int):Int).toNat 0) 0 l0_0 l0_1) else (none)) else (none)
theorem spec_l2Names.mono_l:∀ k,(∀ y0 y1 y2 y3 y4,LeO (spec_l2Names.l0 k y0 y1 y2 y3 y4) (spec_l2Names.l0 (k+1) y0 y1 y2 y3 y4))∧(∀ y0 y1 y2 y3 y4,LeO (spec_l2Names.l1 k y0 y1 y2 y3 y4) (spec_l2Names.l1 (k+1) y0 y1 y2 y3 y4))∧(∀ y0 y1 y2 y3 y4 y5 y6,LeO (spec_l2Names.l2 k y0 y1 y2 y3 y4 y5 y6) (spec_l2Names.l2 (k+1) y0 y1 y2 y3 y4 y5 y6))
 | 0=>⟨fun _ _ _ _ _ r h=>by simp [spec_l2Names.l0] at h,fun _ _ _ _ _ r h=>by simp [spec_l2Names.l1] at h,fun _ _ _ _ _ _ _ r h=>by simp [spec_l2Names.l2] at h⟩
 | k+1=>by
  obtain ⟨ih0,ih1,ih2⟩:=spec_l2Names.mono_l k
  refine ⟨?_,?_,?_⟩
  ·intro y0 y1 y2 y3 y4
   unfold spec_l2Names.l0
   repeat' first
   | (with_reducible exact ih0 _ _ _ _ _)
   | (with_reducible exact ih1 _ _ _ _ _)
   | (with_reducible exact ih2 _ _ _ _ _ _ _)
   | (with_reducible exact LeO.refl _)
   | (with_reducible exact za _)
   | (with_reducible refine zc ?_ ?_)
   | (with_reducible refine zb ?_ (fun _=>?_))
  ·intro y0 y1 y2 y3 y4
   unfold spec_l2Names.l1
   repeat' first
   | (with_reducible exact ih0 _ _ _ _ _)
   | (with_reducible exact ih1 _ _ _ _ _)
   | (with_reducible exact ih2 _ _ _ _ _ _ _)
   | (with_reducible exact LeO.refl _)
   | (with_reducible exact za _)
   | (with_reducible refine zc ?_ ?_)
   | (with_reducible refine zb ?_ (fun _=>?_))
  ·intro y0 y1 y2 y3 y4 y5 y6
   unfold spec_l2Names.l2
   repeat' first
   | (with_reducible exact ih0 _ _ _ _ _)
   | (with_reducible exact ih1 _ _ _ _ _)
   | (with_reducible exact ih2 _ _ _ _ _ _ _)
   | (with_reducible exact LeO.refl _)
   | (with_reducible exact za _)
   | (with_reducible refine zc ?_ ?_)
   | (with_reducible refine zb ?_ (fun _=>?_))
theorem spec_l2Names.mono:∀ a0 a1 a2 k,LeO (spec_l2Names.f k a0 a1 a2) (spec_l2Names.f (k+1) a0 a1 a2):=by
 intro a0 a1 a2 k
 obtain ⟨ih0,ih1,ih2⟩:=spec_l2Names.mono_l k
 unfold spec_l2Names.f
 repeat' first
   | (with_reducible exact ih0 _ _ _ _ _)
   | (with_reducible exact ih1 _ _ _ _ _)
   | (with_reducible exact ih2 _ _ _ _ _ _ _)
   | (with_reducible exact LeO.refl _)
   | (with_reducible exact za _)
   | (with_reducible refine zc ?_ ?_)
   | (with_reducible refine zb ?_ (fun _=>?_))
def spec_l2Names.T11:Bool × List (List Nat × List Nat):=(true,[([],[]),([0],[0]),([],[]),([],[]),([2,3],[2,3]),([4],[4]),([1,5],[1,5]),([6],[6]),([],[]),([8],[8]),([],[]),([],[]),([10,11],[10,11]),([12],[12]),([9,13],[9,13]),([14],[14]),([7,15],[7,15]),([16,0,1,2,3,4,5,6,7,8,9,10,11,12,13,14,15,16],[16])])
def spec_l2Names.B11:List Nat:=[0,1,0,0,12,28,63,127,0,256,0,0,3072,7168,16128,32512,65535,131071]
theorem spec_l2Names.tab11:rtab .any (opsOf Try.f97 11) = spec_l2Names.T11:=by kernel_rfl
theorem spec_l2Names.bits11:waitsOk spec_l2Names.T11.2 spec_l2Names.B11 = true:=by kernel_rfl
set_option maxHeartbeats 8000000 in
set_option maxRecDepth 100000 in
theorem spec_l2Names.calls (k:Nat) (A0_0:Option Addr) (c0_0:Nat) (l0_0:List Int) (A0_1:Option Addr) (c0_1:Nat) (l0_1:List Int) (a1:Int) (r:List Int) (w:World) (hr0_0:Kd.C (Kd.int .i64) w A0_0 l0_0.length l0_0) (hc0_0:l0_0.length≤c0_0) (hr0_1:Kd.C (Kd.int .i64) w A0_1 l0_1.length l0_1) (hc0_1:l0_1.length≤c0_1) (h:spec_l2Names.f k l0_0 l0_1 a1 = some r) :
  Calls Try.prog 97 #[.agg #[.slice A0_0 l0_0.length c0_0,.slice A0_1 l0_1.length c0_1],.int .i64 a1] w fun e w' => ∃ v0_:Value,e = .returned (v0_)∧Kd.R (Kd.int .i64) 3 w' w.heap.size (fun _=>True) v0_ r∧Below w.heap.size w w':=by
 have hu33:=Try.underlying33
 have HR0_0:=zA hr0_0
 have HC0_0:=zA hc0_0
 clear hr0_0 hc0_0
 have HR0_1:=zA hr0_1
 have HC0_1:=zA hc0_1
 clear hr0_1 hc0_1
 have HB:=zA (Below.refl w.heap.size w)
 have H:(if 0≤(l0_0.length:Int) then (if ((l0_0.length:Int):Int).toNat≤35184372088832 then (spec_l2Names.l0 k a1 (List.replicate ((l0_0.length:Int):Int).toNat 0) 0 l0_0 l0_1) else (none)) else (none)) = some r:=h
 clear h
 by_cases c3:0≤(l0_0.length:Int)
 ·rw [if_pos c3] at H
  have c3b0:=eq_true c3
  have c3b1:decide (0≤(l0_0.length:Int)) = true:=zO c3
  clear c3
  by_cases c4:((l0_0.length:Int):Int).toNat≤35184372088832
  ·rw [if_pos c4] at H
   have c4b0:=eq_true c4
   have c4b1:decide (((l0_0.length:Int):Int).toNat≤35184372088832) = true:=zO c4
   clear c4
   obtain ⟨y514,hy514⟩:∃ y_:List Int,y_ = (List.replicate ((l0_0.length:Int):Int).toNat 0):=⟨_,rfl⟩
   replace H:(spec_l2Names.l0 k a1 y514 0 l0_0 l0_1) = some r:=by (try rw [hy514]);first|with_reducible exact H|with_reducible exact zS_ H|exact H
   have Ny514:=zA hy514
   clear hy514
   have H':=zA H
   clear H
   go_enter Try.func97,Try.ntmps97
   go_wp2_with (first|((with_reducible refine gate_dst (N:=2) rfl ?_);refine box_event ?hg (N:=2) ?hd (cs:=#[.slice A0_0 l0_0.length c0_0,.slice A0_1 l0_1.length c0_1]) (t:=33) ?hr ?_;(case hd=>rfl);(case hg=>rfl);(case hr=>first|(go_simp;done)|(go_simp;rfl));intro gb513 hg w5 hbox hb;have n0_:=zA (zR (by exact zB_ HB.out) hb);have n1_:=zA (hbox);have n2_:=zA ((by rw [hg];exact (zQ (by exact zB_ HB.out)):w.heap.size≤gb513));have n3_:=zA ((by rw [hg];exact (zQ (by exact zB_ HB.out)):w.heap.size≤gb513));clear HB;have HB:=n0_;have BK513:=n1_;have GW513:=n2_;have GE513:=n3_;clear n0_ n1_ n2_ n3_;clear hb hbox hg;have hcz6_0:w5.cell? ⟨gb513,0,none⟩ = some (.slice A0_0 l0_0.length c0_0):=(zT BK513.out 0).trans rfl;have hcz6_1:w5.cell? ⟨gb513,1,none⟩ = some (.slice A0_1 l0_1.length c0_1):=(zT BK513.out 1).trans rfl;have hfz6_0:=zZ BK513.out 0;have hfz6_1:=zZ BK513.out 1)|((with_reducible refine gate_dst (N:=14) rfl ?_);refine Kd.R_make (Kd.int .i64) _ 3 rfl (N:=14) rfl 31 _ _ rfl (l0_0.length:Int) rfl rfl Try.underlying31 (.int .i64 0) 8 info3 rfl (by decide) (by omega) 0 (ok:=fun _=>True) (okp:=fun _=>True) rfl (fun _ hk=>hk) trivial (zE (by with_reducible assumption)) (Nat.le_trans (Nat.mul_le_mul_right _ (zE (by with_reducible assumption):(l0_0.length:Int).toNat≤35184372088832)) (by omega)) (Below.refl _ _) (Nat.le_refl _) ?_;intro v515 w7 ho8 hb hg_ hnew_;clear hg_ hnew_;(first|rw [← Ny514.out] at ho8|(simp only [Int.reduceToNat] at ho8;rw [← Ny514.out] at ho8));have n0_:=zA (ze ho8 (zQ (by repeat (first|(with_reducible first|exact HB.out|apply zD|apply zB|apply zC|refine zF ?_ GE513.out)|exact HB.out))));have n1_:=zA (zX (g:=gb513) (o:=.cells #[.slice A0_0 l0_0.length c0_0,.slice A0_1 l0_1.length c0_1] 33 (0,0)) (by (with_reducible repeat (first|refine zG ?_ _|refine zI ?_|refine zH ?_ _));exact BK513.out) hb);have n2_:=zA (zR (by repeat (first|(with_reducible first|exact HB.out|apply zD|apply zB|apply zC|refine zF ?_ GE513.out)|exact HB.out)) hb);clear BK513;clear HB;have HO516:=n0_;have BK513:=n1_;have HB:=n2_;clear n0_ n1_ n2_;clear hb ho8))
   go_loopg [6] k (fun kq v6 w' => ∃ (x5_1:List Int) (x6_1:Int),v6 = .int .i64 x6_1∧Aside0 (spec_l2Names.l0 kq a1 x5_1 x6_1 l0_0 l0_1 = some r)∧Aside0 (kq≤k)∧Aside0 (Kd.R (Kd.int .i64) 3 w' w.heap.size (fun _=>True) v515 x5_1)∧Aside0 (w'.heap[gb513]? = some (.cells #[(.slice A0_0 l0_0.length c0_0),(.slice A0_1 l0_1.length c0_1)] 33 (0,0)))∧Aside0 (Below w.heap.size w w'))
   case atStart=>exact ⟨(y514),(0),(by first|rfl|(simp;done)|(simp [*];done)),H',⟨Nat.le_refl _⟩,⟨by apply zR_;exact HO516.out⟩,⟨by (with_reducible repeat (first|refine zG ?_ _|refine zI ?_|refine zH ?_ _));exact BK513.out⟩,⟨by repeat (first|(with_reducible first|exact HB.out|apply zD|apply zB|apply zC|refine zF ?_ GE513.out)|exact HB.out)⟩⟩
   case round =>
    clear H'
    (try clear p2);(try clear c3);(try clear c3b0);(try clear c3b1);(try clear c4);(try clear c4b0);(try clear c4b1);(try clear hcz6_0);(try clear hcz6_1);(try clear hfz6_0);(try clear hfz6_1)
    obtain ⟨x5_1,x6_1,rfl,HA,HK1,HO_5,BK513,HB⟩:=hrel
    cases gk with
    | zero=>exact absurd HA.out (by simp [spec_l2Names.l0])
    | succ k1 =>
     have H:=HA.out
     clear HA
     simp only [spec_l2Names.l0] at H
     by_cases c9:x6_1 < (x5_1.length:Int)
     ·rw [if_pos c9] at H
      have c9b0:decide (x6_1 < (x5_1.length:Int)) = true:=zO c9
      clear c9
      by_cases c10:0≤x6_1
      ·rw [if_pos c10] at H
       have c10b0:decide (0≤x6_1) = true:=zO c10
       clear c10
       obtain ⟨y517,hy517⟩:∃ y_:List Int,y_ = (x5_1.set (x6_1:Int).toNat (-1)):=⟨_,rfl⟩
       replace H:(spec_l2Names.l0 k1 a1 y517 (wrap64 (x6_1+1)) l0_0 l0_1) = some r:=by (try rw [hy517]);first|with_reducible exact H|with_reducible exact zS_ H|exact H
       have Ny517:=zA hy517
       clear hy517
       have H':=zA H
       clear H
       obtain ⟨Ao12,co12,eo12⟩:=zg HO_5.out
       subst eo12
       have p11:0≤(x6_1:Int):=zE (by with_reducible assumption)
       have q11:(x6_1:Int) < ((x5_1.length:Int):Int):=zE (by with_reducible assumption)
       obtain ⟨go11,co11,eo11,gb11,gl11,cl11,HG11⟩:=Kd.R_form HO_5.out (by omega)
       (first|cases eo11|(injection eo11 with ea_ en_ ec_;(first|subst ea_|(injection ea_ with ea_;subst ea_));subst ec_;clear en_))
       have GB11:=zA gb11
       have GG11:=zA HG11
       clear gb11 gl11 HG11
       obtain ⟨hx11_0,hf11_0⟩:=Kd.R_celln 0 HO_5.out (x6_1:Int) p11 q11
       replace p11:=eq_true p11
       replace q11:=eq_true q11
       have HP13:=Kd.R_putg HO_5.out (x6_1:Int) (-1)
       go_wp2_with (first|((with_reducible refine gate_store (t:=3) (p:=23) rfl ?_);refine store_event (t:=3) (p:=23) (v:=?vo_w14) (w1:=(wr.setCell ⟨go11,(x6_1:Int).toNat,none⟩ (.int .i64 (-1)))) ?hg ?ho ?hn ?hr ?_;(case ho=>rfl);(case hg=>rfl);(case hn=>rfl);(case hr=>first|(go_simp;done)|(go_simp;rfl));intro w14 hw;have hg:wr.grownBy w14 (some go11):=(by rw [hw];exact HP13.2);have hp_:Kd.R (Kd.int .i64) 3 w14 w.heap.size (fun _=>True) (.slice (some ⟨go11,0,none⟩) x5_1.length co12) y517:=(by rw [hw,Ny517.out];exact HP13.1);clear HP13;have n0_:=zA (hp_);have n1_:=zA (blk_grown (g:=gb513) (o:=.cells #[.slice A0_0 l0_0.length c0_0,.slice A0_1 l0_1.length c0_1] 33 (0,0)) (by (with_reducible repeat (first|refine zG ?_ _|refine zI ?_|refine zH ?_ _));exact BK513.out) hg (Kd.R_ne HO_5.out BK513.out (by decide)));have n2_:=zA ((by rw [hw];exact zF (HB.out) GB11.out:Below w.heap.size w w14));clear HO_5;clear BK513;clear HB;have HO_5:=n0_;have BK513:=n1_;have HB:=n2_;clear n0_ n1_ n2_;clear hg hw hp_))
       go_roundg k1
       case measure=>have:=HK1.out;omega
       case rel=>exact ⟨(y517),(wrap64 (x6_1+1)),(by first|rfl|(simp;done)|(simp [*];done)),H',⟨by have:=HK1.out;omega⟩,⟨by apply zR_;exact HO_5.out⟩,⟨by (with_reducible repeat (first|refine zG ?_ _|refine zI ?_|refine zH ?_ _));exact BK513.out⟩,⟨by repeat (first|(with_reducible first|exact HB.out|apply zD|apply zB|apply zC|refine zF ?_ GE513.out)|exact HB.out)⟩⟩
      ·rw [if_neg c10] at H
       exact absurd H (by simp)
     ·rw [if_neg c9] at H
      have c9b0:decide (x6_1 < (x5_1.length:Int)) = false:=zP c9
      clear c9
      by_cases c15:0≤a1
      ·rw [if_pos c15] at H
       have c15b0:decide (0≤a1) = true:=zO c15
       clear c15
       by_cases c16:a1 < (x5_1.length:Int)
       ·rw [if_pos c16] at H
        have c16b0:decide (a1 < (x5_1.length:Int)) = true:=zO c16
        clear c16
        obtain ⟨y518,hy518⟩:∃ y_:List Int,y_ = (x5_1.set (a1:Int).toNat 0):=⟨_,rfl⟩
        replace H:(spec_l2Names.l1 k1 y518 (([a1]:List Int)) 0 l0_0 l0_1) = some r:=by (try rw [hy518]);first|with_reducible exact H|with_reducible exact zS_ H|exact H
        have Ny518:=zA hy518
        clear hy518
        obtain ⟨y519,hy519⟩:∃ y_:List Int,y_ = (([a1]:List Int)):=⟨_,rfl⟩
        replace H:(spec_l2Names.l1 k1 y518 y519 0 l0_0 l0_1) = some r:=by (try rw [hy519]);first|with_reducible exact H|with_reducible exact zS_ H|exact H
        have Ny519:=zA hy519
        clear hy519
        have H':=zA H
        clear H
        obtain ⟨Ao18,co18,eo18⟩:=zg HO_5.out
        subst eo18
        have p17:0≤(a1:Int):=zE (by with_reducible assumption)
        have q17:(a1:Int) < ((x5_1.length:Int):Int):=zE (by with_reducible assumption)
        obtain ⟨go17,co17,eo17,gb17,gl17,cl17,HG17⟩:=Kd.R_form HO_5.out (by omega)
        (first|cases eo17|(injection eo17 with ea_ en_ ec_;(first|subst ea_|(injection ea_ with ea_;subst ea_));subst ec_;clear en_))
        have GB17:=zA gb17
        have GG17:=zA HG17
        clear gb17 gl17 HG17
        obtain ⟨hx17_0,hf17_0⟩:=Kd.R_celln 0 HO_5.out (a1:Int) p17 q17
        replace p17:=eq_true p17
        replace q17:=eq_true q17
        have HP19:=Kd.R_putg HO_5.out (a1:Int) 0
        go_wp2_with (first|((with_reducible refine gate_store (t:=3) (p:=26) rfl ?_);refine store_event (t:=3) (p:=26) (v:=?vo_w20) (w1:=(wr.setCell ⟨go17,(a1:Int).toNat,none⟩ (.int .i64 0))) ?hg ?ho ?hn ?hr ?_;(case ho=>rfl);(case hg=>rfl);(case hn=>rfl);(case hr=>first|(go_simp;done)|(go_simp;rfl));intro w20 hw;have hg:wr.grownBy w20 (some go17):=(by rw [hw];exact HP19.2);have hp_:Kd.R (Kd.int .i64) 3 w20 w.heap.size (fun _=>True) (.slice (some ⟨go17,0,none⟩) x5_1.length co18) y518:=(by rw [hw,Ny518.out];exact HP19.1);clear HP19;have n0_:=zA (hp_);have n1_:=zA (blk_grown (g:=gb513) (o:=.cells #[.slice A0_0 l0_0.length c0_0,.slice A0_1 l0_1.length c0_1] 33 (0,0)) (by (with_reducible repeat (first|refine zG ?_ _|refine zI ?_|refine zH ?_ _));exact BK513.out) hg (Kd.R_ne HO_5.out BK513.out (by decide)));have n2_:=zA ((by rw [hw];exact zF (HB.out) GB17.out:Below w.heap.size w w20));clear HO_5;clear BK513;clear HB;have HO_5:=n0_;have BK513:=n1_;have HB:=n2_;clear n0_ n1_ n2_;clear hg hw hp_)|((with_reducible refine gate_dst (N:=28) rfl ?_);refine Kd.R_lit (Kd.int .i64) _ 3 ?hg (N:=28) ?hd (xs:=([a1]:List Int)) (inner:=[.int .i64 a1]) (ok:=fun _=>True) (okp:=fun _=>True) ?hr ?hp (fun _ hk=>hk) trivial (Below.refl _ _) (Nat.le_refl _) (by simp) ?_;(case hd=>rfl);(case hg=>rfl);(case hr=>first|(go_simp;done)|(go_simp;rfl));(case hp=>exact (Reps.one (show Kd.M (Kd.int .i64) _ _ _ a1 [.int .i64 a1] from rfl) (Reps.none _ _)));intro v520 w21 ho22 hb hg_ hnew_;clear hg_ hnew_;(first|rw [← Ny519.out] at ho22|(simp only [Int.reduceToNat] at ho22;rw [← Ny519.out] at ho22));have n0_:=zA (Kd.R_elder' (by apply zR_;exact HO_5.out) (zd ho22) hb);have n1_:=zA (ze (zh ho22 (Kd.R_lt (by apply zR_;exact HO_5.out))) (zQ (by repeat (first|(with_reducible first|exact HB.out|apply zD|apply zB|apply zC|refine zF ?_ GE513.out)|exact HB.out))));have n2_:=zA (zX (g:=gb513) (o:=.cells #[.slice A0_0 l0_0.length c0_0,.slice A0_1 l0_1.length c0_1] 33 (0,0)) (by (with_reducible repeat (first|refine zG ?_ _|refine zI ?_|refine zH ?_ _));exact BK513.out) hb);have n3_:=zA (zR (by repeat (first|(with_reducible first|exact HB.out|apply zD|apply zB|apply zC|refine zF ?_ GE513.out)|exact HB.out)) hb);clear HO_5;clear BK513;clear HB;have HO_5:=n0_;have HO521:=n1_;have BK513:=n2_;have HB:=n3_;clear n0_ n1_ n2_ n3_;clear hb ho22))
        go_loopg [7,8] k1 (fun kq v7 v8 w' => ∃ (x5_2:List Int) (x7_2:List Int) (x8_2:Int),v8 = .int .i64 x8_2∧Aside0 (spec_l2Names.l1 kq x5_2 x7_2 x8_2 l0_0 l0_1 = some r)∧Aside0 (kq≤k1)∧Aside0 (Kd.R (Kd.int .i64) 3 w' w.heap.size (fun k_=>some k_≠(v7:Value).ownBlock) (.slice (some ⟨go17,0,none⟩) x5_1.length co18) x5_2)∧Aside0 (Kd.R (Kd.int .i64) 3 w' w.heap.size (fun k_=>some k_≠((.slice (some ⟨go17,0,none⟩) x5_1.length co18):Value).ownBlock) v7 x7_2)∧Aside0 (w'.heap[gb513]? = some (.cells #[(.slice A0_0 l0_0.length c0_0),(.slice A0_1 l0_1.length c0_1)] 33 (0,0)))∧Aside0 (Below w.heap.size w w'))
        case atStart=>exact ⟨(y518),(y519),(0),(by first|rfl|(simp;done)|(simp [*];done)),H',⟨Nat.le_refl _⟩,⟨by apply zR_;exact zV HO_5.out (fun _ hk=>hk.2)⟩,⟨by apply zR_;exact zV HO521.out (fun _ hk=>hk.2)⟩,⟨by (with_reducible repeat (first|refine zG ?_ _|refine zI ?_|refine zH ?_ _));exact BK513.out⟩,⟨by repeat (first|(with_reducible first|exact HB.out|apply zD|apply zB|apply zC|refine zF ?_ GE513.out)|exact HB.out)⟩⟩
        case round =>
         clear H'
         (try clear c1);(try clear p1);(try clear q1);(try clear hx1);(try clear p2);(try clear c3);(try clear c3b0);(try clear c3b1);(try clear c4);(try clear c4b0);(try clear c4b1);(try clear p6);(try clear c9);(try clear c9b0);(try clear c10);(try clear c10b0);(try clear p11);(try clear q11);(try clear hx11);(try clear hf11);(try clear c15);(try clear c15b0);(try clear c16);(try clear c16b0);(try clear p17);(try clear q17);(try clear hx17);(try clear hf17);(try clear hcz6_0);(try clear hcz6_1);(try clear hfz6_0);(try clear hfz6_1);(try clear hx11_0);(try clear hx17_0);(try clear p11);(try clear p17);(try clear p2);(try clear q11);(try clear q17)
         obtain ⟨x5_2,x7_2,x8_2,rfl,HA,HK2,HO_5,HO_7,BK513,HB⟩:=hrel
         have hl5_2:=(zU HO_5.out).1
         rw [hl5_2] at HO_5
         (try simp only [hl5_2])
         (try simp only [hl5_2] at BK513)
         (try simp only [hl5_2] at HO_7)
         cases gk with
         | zero=>exact absurd HA.out (by simp [spec_l2Names.l1])
         | succ k2 =>
          have H:=HA.out
          clear HA
          simp only [spec_l2Names.l1] at H
          by_cases c23:x8_2 < (x7_2.length:Int)
          ·rw [if_pos c23] at H
           have c23b0:decide (x8_2 < (x7_2.length:Int)) = true:=zO c23
           clear c23
           by_cases c24:0≤x8_2
           ·rw [if_pos c24] at H
            have c24b0:decide (0≤x8_2) = true:=zO c24
            clear c24
            by_cases c25:0≤(rd x7_2 x8_2)
            ·rw [if_pos c25] at H
             have c25b0:decide (0≤(rd x7_2 x8_2)) = true:=zO c25
             clear c25
             by_cases c26:(rd x7_2 x8_2) < (l0_0.length:Int)
             ·rw [if_pos c26] at H
              have c26b0:decide ((rd x7_2 x8_2) < (l0_0.length:Int)) = true:=zO c26
              clear c26
              by_cases c27:(rd x7_2 x8_2) < (l0_1.length:Int)
              ·rw [if_pos c27] at H
               have c27b0:decide ((rd x7_2 x8_2) < (l0_1.length:Int)) = true:=zO c27
               clear c27
               obtain ⟨y526,hy526⟩:∃ y_:List Int,y_ = (([rd l0_0 (rd x7_2 x8_2),rd l0_1 (rd x7_2 x8_2)]:List Int)):=⟨_,rfl⟩
               replace H:(spec_l2Names.l2 k2 x5_2 x7_2 x8_2 y526 0 l0_0 l0_1) = some r:=by (try rw [hy526]);first|with_reducible exact H|with_reducible exact zS_ H|exact H
               have Ny526:=zA hy526
               clear hy526
               have H':=zA H
               clear H
               obtain ⟨Ao28,co28,eo28⟩:=zg HO_7.out
               subst eo28
               try go_wp2
               have n0_:=zA (Kd.R_drew HO_5.out)
               have n1_:=zA (Kd.R_drew HO_7.out)
               have n2_:=zA (zI BK513.out)
               have n3_:=zA (zC HB.out)
               clear HO_5 HO_7 BK513 HB
               have HO_5:=n0_
               have HO_7:=n1_
               have BK513:=n2_
               have HB:=n3_
               clear n0_ n1_ n2_ n3_
               have p522:0≤(x8_2:Int):=zE (by with_reducible assumption)
               have q522:x8_2 < (x7_2.length:Int):=zE (by with_reducible assumption)
               obtain ⟨ad522,e522,hx522_0⟩:=Kd.at_int (zU HO_7.out).2.2 x8_2 p522 q522
               cases e522
               replace p522:=eq_true p522
               replace q522:=eq_true q522
               have p523:0≤((rd x7_2 x8_2):Int):=zE (by with_reducible assumption)
               have q523:(rd x7_2 x8_2) < (l0_0.length:Int):=zE (by with_reducible assumption)
               obtain ⟨ad523,e523,hx523_0⟩:=Kd.at_int HR0_0.out (rd x7_2 x8_2) p523 q523
               have hw523_0:=hx523_0
               cases e523
               replace hx523_0:=(HB.out.cell (zY w _ hx523_0)).trans hx523_0
               replace p523:=eq_true p523
               replace q523:=eq_true q523
               have p524:0≤(x8_2:Int):=zE (by with_reducible assumption)
               have q524:x8_2 < (x7_2.length:Int):=zE (by with_reducible assumption)
               obtain ⟨ad524,e524,hx524_0⟩:=Kd.at_int (zU HO_7.out).2.2 x8_2 p524 q524
               obtain rfl:ad522 = ad524:=(by injection e524)
               replace p524:=eq_true p524
               replace q524:=eq_true q524
               have p525:0≤((rd x7_2 x8_2):Int):=zE (by with_reducible assumption)
               have q525:(rd x7_2 x8_2) < (l0_1.length:Int):=zE (by with_reducible assumption)
               obtain ⟨ad525,e525,hx525_0⟩:=Kd.at_int HR0_1.out (rd x7_2 x8_2) p525 q525
               have hw525_0:=hx525_0
               cases e525
               replace hx525_0:=(HB.out.cell (zY w _ hx525_0)).trans hx525_0
               replace p525:=eq_true p525
               replace q525:=eq_true q525
               refine start_ (n:=18) (S:=fun w'=>w'.cell? ⟨gb513,0,none⟩ = some (.slice (some ad523) l0_0.length c0_0)∧w'.cell? ⟨gb513,1,none⟩ = some (.slice (some ad525) l0_1.length c0_1)∧w'.cell? (ad522.add (x8_2).toNat) = some (.int .i64 (rd x7_2 x8_2))∧w'.cell? (ad523.add ((rd x7_2 x8_2)).toNat) = some (.int .i64 (rd l0_0 (rd x7_2 x8_2)))∧w'.cell? (ad522.add (x8_2).toNat) = some (.int .i64 (rd x7_2 x8_2))∧w'.cell? (ad525.add ((rd x7_2 x8_2)).toNat) = some (.int .i64 (rd l0_1 (rd x7_2 x8_2)))) (ds:=[]) #[zf,zf,zf,zf,zf,zf,zf,zf,zf,zf,zf,zf,zf,zf,zf,zf,zf,zf] (by kernel_rfl) rfl rfl ⟨(zT BK513.out 0).trans rfl,(zT BK513.out 1).trans rfl,hx522_0,((HB.out.cell (zY w _ hw523_0)).trans hw523_0),hx524_0,((HB.out.cell (zY w _ hw525_0)).trans hw525_0)⟩ (fun hHeld=>?_);refine with_tabW spec_l2Names.tab11 spec_l2Names.bits11 (fun HT_ HW_=>?_)
               generalize wr.drew = w29 at HO_5 HO_7 BK513 HB hx522_0 hx523_0 hx524_0 hx525_0 hHeld ⊢
               refine pure_ (i:=0) (N:=some 35) (v:=?_) (a':=?_) #[zt,zf,zf,zf,zf,zf,zf,zf,zf,zf,zf,zf,zf,zf,zf,zf,zf,zf] rfl rfl (any_of HT_.out (by kernel_rfl)) (fun _ _ _ h=>h) (Or.inl ⟨by rfl,?_⟩) ?_ ?_
               rotate_left
               ·intro w'
                go_simp
                with_reducible rfl
               rotate_left
               ·simp only [Act.put,zP_,i64_w]
                rfl
               refine pure_ (i:=2) (N:=some 37) (v:=?_) (a':=?_) #[zt,zf,zt,zf,zf,zf,zf,zf,zf,zf,zf,zf,zf,zf,zf,zf,zf,zf] rfl rfl (any_of HT_.out (by kernel_rfl)) (fun _ _ _ h=>h) (Or.inl ⟨by rfl,?_⟩) ?_ ?_
               rotate_left
               ·intro w'
                go_simp
                with_reducible rfl
               rotate_left
               ·simp only [Act.put,zP_,i64_w]
                rfl
               refine pure_ (i:=3) (N:=some 38) (v:=?_) (a':=?_) #[zt,zf,zt,zt,zf,zf,zf,zf,zf,zf,zf,zf,zf,zf,zf,zf,zf,zf] rfl rfl (any_of HT_.out (by kernel_rfl)) (fun _ _ _ h=>h) (Or.inl ⟨by rfl,?_⟩) ?_ ?_
               rotate_left
               ·intro w'
                go_simp
                with_reducible rfl
               rotate_left
               ·simp only [Act.put,zP_,i64_w]
                rfl
               refine pure_ (i:=4) (N:=some 39) (v:=?_) (a':=?_) #[zt,zf,zt,zt,zt,zf,zf,zf,zf,zf,zf,zf,zf,zf,zf,zf,zf,zf] rfl rfl (any_of HT_.out (by kernel_rfl)) (fun _ _ _ h=>h) (Or.inl ⟨by rfl,?_⟩) ?_ ?_
               rotate_left
               ·intro w'
                go_simp
                with_reducible rfl
               rotate_left
               ·simp only [Act.put,zP_,i64_w]
                rfl
               refine pure_ (i:=8) (N:=some 43) (v:=?_) (a':=?_) #[zt,zf,zt,zt,zt,zf,zf,zf,zt,zf,zf,zf,zf,zf,zf,zf,zf,zf] rfl rfl (any_of HT_.out (by kernel_rfl)) (fun _ _ _ h=>h) (Or.inl ⟨by rfl,?_⟩) ?_ ?_
               rotate_left
               ·intro w'
                go_simp
                with_reducible rfl
               rotate_left
               ·simp only [Act.put,zP_,i64_w]
                rfl
               refine pure_ (i:=10) (N:=some 45) (v:=?_) (a':=?_) #[zt,zf,zt,zt,zt,zf,zf,zf,zt,zf,zt,zf,zf,zf,zf,zf,zf,zf] rfl rfl (any_of HT_.out (by kernel_rfl)) (fun _ _ _ h=>h) (Or.inl ⟨by rfl,?_⟩) ?_ ?_
               rotate_left
               ·intro w'
                go_simp
                with_reducible rfl
               rotate_left
               ·simp only [Act.put,zP_,i64_w]
                rfl
               refine pure_ (i:=11) (N:=some 46) (v:=?_) (a':=?_) #[zt,zf,zt,zt,zt,zf,zf,zf,zt,zf,zt,zt,zf,zf,zf,zf,zf,zf] rfl rfl (any_of HT_.out (by kernel_rfl)) (fun _ _ _ h=>h) (Or.inl ⟨by rfl,?_⟩) ?_ ?_
               rotate_left
               ·intro w'
                go_simp
                with_reducible rfl
               rotate_left
               ·simp only [Act.put,zP_,i64_w]
                rfl
               refine pure_ (i:=12) (N:=some 47) (v:=?_) (a':=?_) #[zt,zf,zt,zt,zt,zf,zf,zf,zt,zf,zt,zt,zt,zf,zf,zf,zf,zf] rfl rfl (any_of HT_.out (by kernel_rfl)) (fun _ _ _ h=>h) (Or.inl ⟨by rfl,?_⟩) ?_ ?_
               rotate_left
               ·intro w'
                go_simp
                with_reducible rfl
               rotate_left
               ·simp only [Act.put,zP_,i64_w]
                rfl
               refine take_ (i:=1) (N:=some 36) (v:=?_) (a':=?_) #[zt,zt,zt,zt,zt,zf,zf,zf,zt,zf,zt,zt,zt,zf,zf,zf,zf,zf] rfl rfl (take_ofW HT_.out HW_.out (by kernel_rfl)) (fun _ _ _ h=>h) (Or.inl ⟨by rfl,?_⟩) hHeld ?_ ?_
               rotate_left
               ·rintro w' ⟨s0,s1,s2,s3,s4,s5⟩
                go_simp
                with_reducible rfl
               rotate_left
               ·simp only [Act.put,zP_,i64_w]
                rfl
               refine take_ (i:=5) (N:=some 40) (v:=?_) (a':=?_) #[zt,zt,zt,zt,zt,zt,zf,zf,zt,zf,zt,zt,zt,zf,zf,zf,zf,zf] rfl rfl (take_ofW HT_.out HW_.out (by kernel_rfl)) (fun _ _ _ h=>h) (Or.inl ⟨by rfl,?_⟩) hHeld ?_ ?_
               rotate_left
               ·rintro w' ⟨s0,s1,s2,s3,s4,s5⟩
                go_simp
                with_reducible rfl
               rotate_left
               ·simp only [Act.put,zP_,i64_w]
                rfl
               refine pure_ (i:=6) (N:=some 41) (v:=?_) (a':=?_) #[zt,zt,zt,zt,zt,zt,zt,zf,zt,zf,zt,zt,zt,zf,zf,zf,zf,zf] rfl rfl (any_of HT_.out (by kernel_rfl)) (fun _ _ _ h=>h) (Or.inl ⟨by rfl,?_⟩) ?_ ?_
               rotate_left
               ·intro w'
                go_simp
                with_reducible rfl
               rotate_left
               ·simp only [Act.put,zP_,i64_w]
                rfl
               refine take_ (i:=7) (N:=some 42) (v:=?_) (a':=?_) #[zt,zt,zt,zt,zt,zt,zt,zt,zt,zf,zt,zt,zt,zf,zf,zf,zf,zf] rfl rfl (take_ofW HT_.out HW_.out (by kernel_rfl)) (fun _ _ _ h=>h) (Or.inl ⟨by rfl,?_⟩) hHeld ?_ ?_
               rotate_left
               ·rintro w' ⟨s0,s1,s2,s3,s4,s5⟩
                go_simp
                with_reducible rfl
               rotate_left
               ·simp only [Act.put,zP_,i64_w]
                rfl
               refine take_ (i:=9) (N:=some 44) (v:=?_) (a':=?_) #[zt,zt,zt,zt,zt,zt,zt,zt,zt,zt,zt,zt,zt,zf,zf,zf,zf,zf] rfl rfl (take_ofW HT_.out HW_.out (by kernel_rfl)) (fun _ _ _ h=>h) (Or.inl ⟨by rfl,?_⟩) hHeld ?_ ?_
               rotate_left
               ·rintro w' ⟨s0,s1,s2,s3,s4,s5⟩
                go_simp
                with_reducible rfl
               rotate_left
               ·simp only [Act.put,zP_,i64_w]
                rfl
               refine take_ (i:=13) (N:=some 48) (v:=?_) (a':=?_) #[zt,zt,zt,zt,zt,zt,zt,zt,zt,zt,zt,zt,zt,zt,zf,zf,zf,zf] rfl rfl (take_ofW HT_.out HW_.out (by kernel_rfl)) (fun _ _ _ h=>h) (Or.inl ⟨by rfl,?_⟩) hHeld ?_ ?_
               rotate_left
               ·rintro w' ⟨s0,s1,s2,s3,s4,s5⟩
                go_simp
                with_reducible rfl
               rotate_left
               ·simp only [Act.put,zP_,i64_w]
                rfl
               refine pure_ (i:=14) (N:=some 49) (v:=?_) (a':=?_) #[zt,zt,zt,zt,zt,zt,zt,zt,zt,zt,zt,zt,zt,zt,zt,zf,zf,zf] rfl rfl (any_of HT_.out (by kernel_rfl)) (fun _ _ _ h=>h) (Or.inl ⟨by rfl,?_⟩) ?_ ?_
               rotate_left
               ·intro w'
                go_simp
                with_reducible rfl
               rotate_left
               ·simp only [Act.put,zP_,i64_w]
                rfl
               refine take_ (i:=15) (N:=some 50) (v:=?_) (a':=?_) #[zt,zt,zt,zt,zt,zt,zt,zt,zt,zt,zt,zt,zt,zt,zt,zt,zf,zf] rfl rfl (take_ofW HT_.out HW_.out (by kernel_rfl)) (fun _ _ _ h=>h) (Or.inl ⟨by rfl,?_⟩) hHeld ?_ ?_
               rotate_left
               ·rintro w' ⟨s0,s1,s2,s3,s4,s5⟩
                go_simp
                with_reducible rfl
               rotate_left
               ·simp only [Act.put,zP_,i64_w]
                rfl
               refine one_ (i:=16) (N:=some 51) #[zt,zt,zt,zt,zt,zt,zt,zt,zt,zt,zt,zt,zt,zt,zt,zt,zt,zf] rfl rfl (one_of HT_.out (by kernel_rfl)) (by decide) (fun K hK=>?_)
               refine Kd.R_lit_step (Kd.int .i64) _ 3 ?hg (N:=51) ?hd (xs:=([rd l0_0 (rd x7_2 x8_2),rd l0_1 (rd x7_2 x8_2)]:List Int)) (inner:=[.int .i64 (rd l0_0 (rd x7_2 x8_2)),.int .i64 (rd l0_1 (rd x7_2 x8_2))]) (ok:=fun _=>True) (okp:=fun _=>True) ?hr ?hp (fun _ hk=>hk) trivial (Below.refl _ _) (Nat.le_refl _) (by simp) ?_;(case hd=>rfl);(case hg=>rfl);(case hr=>first|(go_simp;done)|(go_simp;rfl));(case hp=>exact (Reps.one (show Kd.M (Kd.int .i64) _ _ _ (rd l0_0 (rd x7_2 x8_2)) [.int .i64 (rd l0_0 (rd x7_2 x8_2))] from rfl) (Reps.one (show Kd.M (Kd.int .i64) _ _ _ (rd l0_1 (rd x7_2 x8_2)) [.int .i64 (rd l0_1 (rd x7_2 x8_2))] from rfl) (Reps.none _ _))))
               intro v527 w30 ho31 hb hg_ hnew_
               have HS2_:=(hb.cell (zY _ _ (hHeld.2.2.1))).trans (hHeld.2.2.1)
               have HS4_:=(hb.cell (zY _ _ (hHeld.2.2.2.2.1))).trans (hHeld.2.2.2.2.1)
               clear hg_ hnew_
               (first|rw [← Ny526.out] at ho31|(simp only [Int.reduceToNat] at ho31;rw [← Ny526.out] at ho31))
               have n0_:=zA (Kd.R_elder' (by apply zR_;exact HO_5.out) (zd ho31) hb)
               have n1_:=zA (Kd.R_elder' (by apply zR_;exact HO_7.out) (zd ho31) hb)
               have n2_:=zA (ze (zh (zh ho31 (Kd.R_lt (by apply zR_;exact HO_5.out))) (Kd.R_lt (by apply zR_;exact HO_7.out))) (zQ (by repeat (first|(with_reducible first|exact HB.out|apply zD|apply zB|apply zC|refine zF ?_ GE513.out)|exact HB.out))))
               have n3_:=zA (zX (g:=gb513) (o:=.cells #[.slice (some ad523) l0_0.length c0_0,.slice (some ad525) l0_1.length c0_1] 33 (0,0)) (by (with_reducible repeat (first|refine zG ?_ _|refine zI ?_|refine zH ?_ _));exact BK513.out) hb)
               have n4_:=zA (zR (by repeat (first|(with_reducible first|exact HB.out|apply zD|apply zB|apply zC|refine zF ?_ GE513.out)|exact HB.out)) hb)
               clear HO_5 HO_7 BK513 HB
               have HO_5:=n0_
               have HO_7:=n1_
               have HO528:=n2_
               have BK513:=n3_
               have HB:=n4_
               clear n0_ n1_ n2_ n3_ n4_ hb ho31
               refine hK.out _ _ ⟨(zT BK513.out 0).trans rfl,(zT BK513.out 1).trans rfl,HS2_,((HB.out.cell (zY w _ hw523_0)).trans hw523_0),HS4_,((HB.out.cell (zY w _ hw525_0)).trans hw525_0)⟩ (fun hHeld=>?_)
               clear hK K
               refine norm_ (a':=?_) ?_ ?_
               rotate_left
               ·show Act.put _ (some 51) _ = _
                simp only [Act.put,zP_,i64_w]
                rfl
               refine pure_ (i:=17) (N:=some 9) (v:=?_) (a':=?_) #[zt,zt,zt,zt,zt,zt,zt,zt,zt,zt,zt,zt,zt,zt,zt,zt,zt,zt] rfl rfl (any_of HT_.out (by kernel_rfl)) (fun _ _ _ h=>h) (Or.inl ⟨by rfl,?_⟩) ?_ ?_
               rotate_left
               ·intro w'
                go_simp
                with_reducible rfl
               rotate_left
               ·simp only [Act.put,zP_,i64_w]
                rfl
               refine done_ (done_of HT_.out (by kernel_rfl)) ?_
               try go_wp2
               go_loopg [7,10] k2 (fun kq v7 v10 w' => ∃ (x5_3:List Int) (x7_3:List Int) (x10_3:Int),v10 = .int .i64 x10_3∧Aside0 (spec_l2Names.l2 kq x5_3 x7_3 x8_2 y526 x10_3 l0_0 l0_1 = some r)∧Aside0 (kq≤k2)∧Aside0 (Kd.R (Kd.int .i64) 3 w' w.heap.size (fun k_=>some k_≠(v7:Value).ownBlock∧some k_≠(v527:Value).ownBlock) (.slice (some ⟨go17,0,none⟩) x5_2.length co18) x5_3)∧Aside0 (Kd.R (Kd.int .i64) 3 w' w.heap.size (fun k_=>some k_≠((.slice (some ⟨go17,0,none⟩) x5_2.length co18):Value).ownBlock∧some k_≠(v527:Value).ownBlock) v7 x7_3)∧Aside0 (Kd.R (Kd.int .i64) 3 w' w.heap.size (fun k_=>some k_≠((.slice (some ⟨go17,0,none⟩) x5_2.length co18):Value).ownBlock∧some k_≠(v7:Value).ownBlock) v527 y526)∧Aside0 (w'.heap[gb513]? = some (.cells #[(.slice (some ad523) l0_0.length c0_0),(.slice (some ad525) l0_1.length c0_1)] 33 (0,0)))∧Aside0 (Below w.heap.size w w'))
               case atStart=>exact ⟨(x5_2),(x7_2),(0),(by first|rfl|(simp;done)|(simp [*];done)),H',⟨Nat.le_refl _⟩,⟨by (try simp only [hl5_2]);apply zR_;exact HO_5.out⟩,⟨by (try simp only [hl5_2]);apply zR_;exact HO_7.out⟩,⟨by (try simp only [hl5_2]);apply zR_;exact zV HO528.out (fun _ hk=>⟨hk.1.2,hk.2⟩)⟩,⟨by (try simp only [hl5_2]);(with_reducible repeat (first|refine zG ?_ _|refine zI ?_|refine zH ?_ _));exact BK513.out⟩,⟨by repeat (first|(with_reducible first|exact HB.out|apply zD|apply zB|apply zC|refine zF ?_ GE513.out)|exact HB.out)⟩⟩
               case round =>
                clear H'
                (try clear c1);(try clear p1);(try clear q1);(try clear hx1);(try clear c2);(try clear p2);(try clear c3);(try clear c3b0);(try clear c3b1);(try clear c4);(try clear c4b0);(try clear c4b1);(try clear p5);(try clear q5);(try clear hx5);(try clear p6);(try clear c9);(try clear c9b0);(try clear c10);(try clear c10b0);(try clear p11);(try clear q11);(try clear hx11);(try clear hf11);(try clear c15);(try clear c15b0);(try clear c16);(try clear c16b0);(try clear p17);(try clear q17);(try clear hx17);(try clear hf17);(try clear c23);(try clear c23b0);(try clear c24);(try clear c24b0);(try clear c25);(try clear c25b0);(try clear c26);(try clear c26b0);(try clear c27);(try clear c27b0);(try clear hcz6_0);(try clear hcz6_1);(try clear hfz6_0);(try clear hfz6_1);(try clear hx11_0);(try clear hx17_0);(try clear hx522_0);(try clear hx523_0);(try clear hx524_0);(try clear hx525_0);(try clear p1);(try clear p11);(try clear p17);(try clear p2);(try clear p522);(try clear p523);(try clear p524);(try clear p525);(try clear p6);(try clear q1);(try clear q11);(try clear q17);(try clear q522);(try clear q523);(try clear q524);(try clear q525)
                obtain ⟨x5_3,x7_3,x10_3,rfl,HA,HK3,HO_5,HO_7,HO_9,BK513,HB⟩:=hrel
                have hl5_3:=(zU HO_5.out).1
                rw [hl5_3] at HO_5
                (try simp only [hl5_3])
                (try simp only [hl5_3] at BK513)
                (try simp only [hl5_3] at HO_7)
                (try simp only [hl5_3] at HO_9)
                cases gk with
                | zero=>exact absurd HA.out (by simp [spec_l2Names.l2])
                | succ k3 =>
                 have H:=HA.out
                 clear HA
                 simp only [spec_l2Names.l2] at H
                 by_cases c32:x10_3 < 2
                 ·rw [if_pos c32] at H
                  have c32b0:decide (x10_3 < 2) = true:=zO c32
                  clear c32
                  by_cases c33:0≤x10_3
                  ·rw [if_pos c33] at H
                   have c33b0:decide (0≤x10_3) = true:=zO c33
                   clear c33
                   by_cases c34:x10_3 < (y526.length:Int)
                   ·rw [if_pos c34] at H
                    have c34b0:decide (x10_3 < (y526.length:Int)) = true:=zO c34
                    clear c34
                    by_cases c35:0≤(rd y526 x10_3)
                    ·rw [if_pos c35] at H
                     have c35b0:decide (0≤(rd y526 x10_3)) = true:=zO c35
                     clear c35
                     by_cases c36:(rd y526 x10_3) < (x5_3.length:Int)
                     ·rw [if_pos c36] at H
                      have c36b0:decide ((rd y526 x10_3) < (x5_3.length:Int)) = true:=zO c36
                      clear c36
                      by_cases c37:(rd x5_3 (rd y526 x10_3)) < 0
                      ·rw [if_pos c37] at H
                       have c37b0:decide ((rd x5_3 (rd y526 x10_3)) < 0) = true:=zO c37
                       clear c37
                       obtain ⟨y532,hy532⟩:∃ y_:List Int,y_ = (x5_3.set ((rd y526 x10_3):Int).toNat (x7_3.length:Int)):=⟨_,rfl⟩
                       replace H:(if x7_3.length < 17592186044416 then (spec_l2Names.l2 k3 y532 (x7_3 ++ [rd y526 x10_3]) x8_2 y526 (wrap64 (x10_3+1)) l0_0 l0_1) else (none)) = some r:=by (try rw [hy532]);first|with_reducible exact H|with_reducible exact zS_ H|exact H
                       have Ny532:=zA hy532
                       clear hy532
                       by_cases c39:x7_3.length < 17592186044416
                       ·rw [if_pos c39] at H
                        have LMc39:=zA c39
                        clear c39
                        obtain ⟨y534,hy534⟩:∃ y_:List Int,y_ = (x7_3 ++ [rd y526 x10_3]):=⟨_,rfl⟩
                        replace H:(spec_l2Names.l2 k3 y532 y534 x8_2 y526 (wrap64 (x10_3+1)) l0_0 l0_1) = some r:=by (try rw [hy534]);first|with_reducible exact H|with_reducible exact zS_ H|exact H
                        have Ny534:=zA hy534
                        clear hy534
                        have H':=zA H
                        clear H
                        obtain ⟨Ao40,co40,eo40⟩:=zg HO_9.out
                        subst eo40
                        have p529:0≤(x10_3:Int):=zE (by with_reducible assumption)
                        have q529:x10_3 < (y526.length:Int):=zE (by with_reducible assumption)
                        obtain ⟨ad529,e529,hx529_0⟩:=Kd.at_int (zU HO_9.out).2.2 x10_3 p529 q529
                        cases e529
                        replace p529:=eq_true p529
                        replace q529:=eq_true q529
                        have p530:0≤((rd y526 x10_3):Int):=zE (by with_reducible assumption)
                        have q530:(rd y526 x10_3) < (x5_3.length:Int):=zE (by with_reducible assumption)
                        obtain ⟨ad530,e530,hx530_0⟩:=Kd.at_int (zU HO_5.out).2.2 (rd y526 x10_3) p530 q530
                        obtain rfl:(⟨go17,0,none⟩:Addr) = ad530:=(by injection e530)
                        (first|simp only [add_plain] at hx530_0|simp only [add_at] at hx530_0|simp only [Addr.add,Nat.zero_add] at hx530_0|skip)
                        replace p530:=eq_true p530
                        replace q530:=eq_true q530
                        have p531:0≤(x10_3:Int):=zE (by with_reducible assumption)
                        have q531:x10_3 < (y526.length:Int):=zE (by with_reducible assumption)
                        obtain ⟨ad531,e531,hx531_0⟩:=Kd.at_int (zU HO_9.out).2.2 x10_3 p531 q531
                        obtain rfl:ad529 = ad531:=(by injection e531)
                        replace p531:=eq_true p531
                        replace q531:=eq_true q531
                        obtain ⟨Ao41,co41,eo41⟩:=zg HO_7.out
                        subst eo41
                        have p38:0≤((rd y526 x10_3):Int):=zE (by with_reducible assumption)
                        have q38:((rd y526 x10_3):Int) < ((x5_3.length:Int):Int):=zE (by with_reducible assumption)
                        obtain ⟨hx38_0,hf38_0⟩:=Kd.R_celln 0 HO_5.out ((rd y526 x10_3):Int) p38 q38
                        replace p38:=eq_true p38
                        replace q38:=eq_true q38
                        have HP42:=Kd.R_putg HO_5.out ((rd y526 x10_3):Int) (x7_3.length:Int)
                        go_wp2_with (first|((with_reducible refine gate_store (t:=3) (p:=71) rfl ?_);refine store_event (t:=3) (p:=71) (v:=?vo_w43) (w1:=(wr.setCell ⟨go17,((rd y526 x10_3):Int).toNat,none⟩ (.int .i64 (x7_3.length:Int)))) ?hg ?ho ?hn ?hr ?_;(case ho=>rfl);(case hg=>rfl);(case hn=>rfl);(case hr=>first|(go_simp;done)|(go_simp;rfl));intro w43 hw;have hg:wr.grownBy w43 (some go17):=(by rw [hw];exact HP42.2);have hp_:Kd.R (Kd.int .i64) 3 w43 w.heap.size (fun k_=>some k_≠(.slice Ao41 x7_3.length co41:Value).ownBlock∧some k_≠(.slice (some ad529) y526.length co40:Value).ownBlock) (.slice (some ⟨go17,0,none⟩) x5_3.length co18) y532:=(by rw [hw,Ny532.out];exact HP42.1);clear HP42;have n0_:=zA (hp_);have n1_:=zA (Kd.R_after (v:=(.slice (some ⟨go17,0,none⟩) x5_3.length co18)) (v1:=(.slice (some ⟨go17,0,none⟩) x5_3.length co18)) (ok:=(fun k_=>some k_≠(.slice (some ad529) y526.length co40:Value).ownBlock)) (by apply zR_;exact zV HO_7.out (fun _ hk=>⟨hk.2,hk.1⟩)) hg (.inl rfl));have n2_:=zA (Kd.R_after (v:=(.slice (some ⟨go17,0,none⟩) x5_3.length co18)) (v1:=(.slice (some ⟨go17,0,none⟩) x5_3.length co18)) (ok:=(fun k_=>some k_≠(.slice Ao41 x7_3.length co41:Value).ownBlock)) (by apply zR_;exact zV HO_9.out (fun _ hk=>⟨hk.2,hk.1⟩)) hg (.inl rfl));have n3_:=zA (blk_grown (g:=gb513) (o:=.cells #[.slice (some ad523) l0_0.length c0_0,.slice (some ad525) l0_1.length c0_1] 33 (0,0)) (by (with_reducible repeat (first|refine zG ?_ _|refine zI ?_|refine zH ?_ _));exact BK513.out) hg (Kd.R_ne HO_5.out BK513.out (by decide)));have n4_:=zA ((by rw [hw];exact zF (HB.out) GB17.out:Below w.heap.size w w43));clear HO_5;clear HO_7;clear HO_9;clear BK513;clear HB;have HO_5:=n0_;have HO_7:=n1_;have HO_9:=n2_;have BK513:=n3_;have HB:=n4_;clear n0_ n1_ n2_ n3_ n4_;clear hg hw hp_;have p533:0≤(x10_3:Int):=zE (by with_reducible assumption);have q533:x10_3 < (y526.length:Int):=zE (by with_reducible assumption);obtain ⟨ad533,e533,hx533_0⟩:=Kd.at_int (zU HO_9.out).2.2 x10_3 p533 q533;obtain rfl:ad529 = ad533:=(by injection e533);replace p533:=eq_true p533;replace q533:=eq_true q533)|((with_reducible refine gate_builtin (b:=.append) (xs:=#[.tmp 72,.tmp 77]) rfl ?_);at_builtin;refine Kd.R_append (Kd.int .i64) (w0:=w) w.heap.size rfl (.tmp 72) (.tmp 77) 31 3 (.int .i64 0) 8 rfl Try.underlying31 info3 rfl (by decide) (by omega) (.slice Ao41 x7_3.length co41) x7_3 (rd y526 x10_3) [.int .i64 (rd y526 x10_3)] (fun k_=>some k_≠(.slice (some ⟨go17,0,none⟩) x5_3.length co18:Value).ownBlock∧some k_≠(.slice (some ad529) y526.length co40:Value).ownBlock) (fun _=>False) rfl rfl ?aP (fun _ hk=>hk.elim) ?aF ?aO ?aB ?aS ?aL ?_;(case aP=>exact rfl);(case aB=>exact (by repeat (first|(with_reducible first|exact HB.out|apply zD|apply zB|apply zC|refine zF ?_ GE513.out)|exact HB.out)));(case aF=>exact (fun k_ hk=>⟨Kd.fresh' (Kd.R_lt (by apply zR_;exact HO_5.out)) k_ hk,Kd.fresh' (Kd.R_lt (by apply zR_;exact HO_9.out)) k_ hk⟩));(case aO=>exact (by apply zR_;exact zV HO_7.out (fun _ hk=>⟨hk.2,hk.1⟩)));(case aS=>exact (zQ (by repeat (first|(with_reducible first|exact HB.out|apply zD|apply zB|apply zC|refine zF ?_ GE513.out)|exact HB.out))));(case aL=>have:=LMc39.out;omega);intro v535 w44 ho hb hg hat;rw [← Ny534.out] at ho;have n0_:=zA (Kd.R_after (ok:=(fun k_=>some k_≠(.slice (some ad529) y526.length co40:Value).ownBlock)) (by apply zR_;exact zV HO_5.out (fun _ hk=>⟨hk.2,hk.1⟩)) hg hat);have n1_:=zA (Kd.R_after (ok:=(fun k_=>some k_≠(.slice (some ⟨go17,0,none⟩) x5_3.length co18:Value).ownBlock)) (by apply zR_;exact zV HO_9.out (fun _ hk=>⟨hk.2,hk.1⟩)) hg hat);have n2_:=zA (blk_grown (g:=gb513) (o:=.cells #[.slice (some ad523) l0_0.length c0_0,.slice (some ad525) l0_1.length c0_1] 33 (0,0)) (by (with_reducible repeat (first|refine zG ?_ _|refine zI ?_|refine zH ?_ _));exact BK513.out) hg (Kd.R_ne HO_7.out BK513.out (by decide)));have n3_:=zA (hb);have n4_:=zA (ho);clear HO_5;clear HO_9;clear BK513;clear HB;clear HO_7;have HO_5:=n0_;have HO_9:=n1_;have BK513:=n2_;have HB:=n3_;have HO536:=n4_;clear n0_ n1_ n2_ n3_ n4_;clear ho hb hg hat))
                        (try simp only [← hl5_3])
                        go_roundg k3
                        case measure=>have:=HK1.out;have:=HK2.out;have:=HK3.out;omega
                        case rel=>exact ⟨(y532),(y534),(wrap64 (x10_3+1)),(by first|rfl|(simp;done)|(simp [*];done)),H',⟨by have:=HK1.out;have:=HK2.out;have:=HK3.out;omega⟩,⟨by (try simp only [hl5_2]);(try simp only [hl5_3]);apply zR_;exact zV HO_5.out (fun _ hk=>⟨hk.2,hk.1⟩)⟩,⟨by (try simp only [hl5_2]);(try simp only [hl5_3]);apply zR_;exact HO536.out⟩,⟨by (try simp only [hl5_2]);(try simp only [hl5_3]);apply zR_;exact HO_9.out⟩,⟨by (try simp only [hl5_2]);(try simp only [hl5_3]);(with_reducible repeat (first|refine zG ?_ _|refine zI ?_|refine zH ?_ _));exact BK513.out⟩,⟨by repeat (first|(with_reducible first|exact HB.out|apply zD|apply zB|apply zC|refine zF ?_ GE513.out)|exact HB.out)⟩⟩
                       ·rw [if_neg c39] at H
                        exact absurd H (by simp)
                      ·rw [if_neg c37] at H
                       have c37b0:decide ((rd x5_3 (rd y526 x10_3)) < 0) = false:=zP c37
                       clear c37
                       have H':=zA H
                       clear H
                       obtain ⟨Ao45,co45,eo45⟩:=zg HO_9.out
                       subst eo45
                       have p529:0≤(x10_3:Int):=zE (by with_reducible assumption)
                       have q529:x10_3 < (y526.length:Int):=zE (by with_reducible assumption)
                       obtain ⟨ad529,e529,hx529_0⟩:=Kd.at_int (zU HO_9.out).2.2 x10_3 p529 q529
                       cases e529
                       replace p529:=eq_true p529
                       replace q529:=eq_true q529
                       have p530:0≤((rd y526 x10_3):Int):=zE (by with_reducible assumption)
                       have q530:(rd y526 x10_3) < (x5_3.length:Int):=zE (by with_reducible assumption)
                       obtain ⟨ad530,e530,hx530_0⟩:=Kd.at_int (zU HO_5.out).2.2 (rd y526 x10_3) p530 q530
                       obtain rfl:(⟨go17,0,none⟩:Addr) = ad530:=(by injection e530)
                       (first|simp only [add_plain] at hx530_0|simp only [add_at] at hx530_0|simp only [Addr.add,Nat.zero_add] at hx530_0|skip)
                       replace p530:=eq_true p530
                       replace q530:=eq_true q530
                       go_wp2
                       (try simp only [← hl5_3])
                       go_roundg k3
                       case measure=>have:=HK1.out;have:=HK2.out;have:=HK3.out;omega
                       case rel=>exact ⟨(x5_3),(x7_3),(wrap64 (x10_3+1)),(by first|rfl|(simp;done)|(simp [*];done)),H',⟨by have:=HK1.out;have:=HK2.out;have:=HK3.out;omega⟩,⟨by (try simp only [hl5_2]);(try simp only [hl5_3]);apply zR_;exact HO_5.out⟩,⟨by (try simp only [hl5_2]);(try simp only [hl5_3]);apply zR_;exact HO_7.out⟩,⟨by (try simp only [hl5_2]);(try simp only [hl5_3]);apply zR_;exact HO_9.out⟩,⟨by (try simp only [hl5_2]);(try simp only [hl5_3]);(with_reducible repeat (first|refine zG ?_ _|refine zI ?_|refine zH ?_ _));exact BK513.out⟩,⟨by repeat (first|(with_reducible first|exact HB.out|apply zD|apply zB|apply zC|refine zF ?_ GE513.out)|exact HB.out)⟩⟩
                     ·rw [if_neg c36] at H
                      exact absurd H (by simp)
                    ·rw [if_neg c35] at H
                     exact absurd H (by simp)
                   ·rw [if_neg c34] at H
                    exact absurd H (by simp)
                  ·rw [if_neg c33] at H
                   exact absurd H (by simp)
                 ·rw [if_neg c32] at H
                  have c32b0:decide (x10_3 < 2) = false:=zP c32
                  clear c32
                  have H':=zA H
                  clear H
                  go_wp2
                  (try simp only [← hl5_2, ← hl5_3])
                  go_roundg k3
                  case measure=>have:=HK1.out;have:=HK2.out;have:=HK3.out;omega
                  case rel=>exact ⟨(x5_3),(x7_3),(wrap64 (x8_2+1)),(by first|rfl|(simp;done)|(simp [*];done)),H',⟨by have:=HK1.out;have:=HK2.out;have:=HK3.out;omega⟩,⟨by (try simp only [hl5_2]);(try simp only [hl5_3]);apply zR_;exact zV HO_5.out (fun _ hk=>hk.1)⟩,⟨by (try simp only [hl5_2]);(try simp only [hl5_3]);apply zR_;exact zV HO_7.out (fun _ hk=>hk.1)⟩,⟨by (try simp only [hl5_2]);(try simp only [hl5_3]);(with_reducible repeat (first|refine zG ?_ _|refine zI ?_|refine zH ?_ _));exact BK513.out⟩,⟨by repeat (first|(with_reducible first|exact HB.out|apply zD|apply zB|apply zC|refine zF ?_ GE513.out)|exact HB.out)⟩⟩
              ·rw [if_neg c27] at H
               exact absurd H (by simp)
             ·rw [if_neg c26] at H
              exact absurd H (by simp)
            ·rw [if_neg c25] at H
             exact absurd H (by simp)
           ·rw [if_neg c24] at H
            exact absurd H (by simp)
          ·rw [if_neg c23] at H
           have c23b0:decide (x8_2 < (x7_2.length:Int)) = false:=zP c23
           clear c23
           obtain rfl:=zS H
           obtain ⟨Ao46,co46,eo46⟩:=zg HO_7.out
           subst eo46
           go_wp2
           go_ret
           exact ⟨_,by first|rfl|(simp [errW_none,errW_some] <;> rfl)|(simp [*,errW_none,errW_some] <;> rfl),by apply zR_;exact zV HO_5.out (fun _ hk=>trivial),by repeat (first|(with_reducible first|exact HB.out|apply zD|apply zB|apply zC|refine zF ?_ GE513.out)|exact HB.out)⟩
       ·rw [if_neg c16] at H
        exact absurd H (by simp)
      ·rw [if_neg c15] at H
       exact absurd H (by simp)
  ·rw [if_neg c4] at H
   exact absurd H (by simp)
 ·rw [if_neg c3] at H
  exact absurd H (by simp)

/-! ### spec_l2Form: function 78 -/
def spec_l2Form.f (k:Nat) (l0_0:List Int) (l0_1:List Int) (a1:Int):Option (List Int × List Int):=(spec_l2Names.f k l0_0 l0_1 a1).bind fun t539=>((spec_l2Rename.f k l0_0 l0_1 t539).bind fun bt542=>(some (bt542.1,bt542.2)))
theorem spec_l2Form.mono:∀ a0 a1 a2 k,LeO (spec_l2Form.f k a0 a1 a2) (spec_l2Form.f (k+1) a0 a1 a2):=by
 intro a0 a1 a2 k
 unfold spec_l2Form.f
 repeat' first
   | (with_reducible exact spec_l2Names.mono _ _ _ _)
   | (with_reducible exact spec_l2Rename.mono _ _ _ _)
   | (with_reducible exact LeO.refl _)
   | (with_reducible exact za _)
   | (with_reducible refine zc ?_ ?_)
   | (with_reducible refine zb ?_ (fun _=>?_))
set_option maxHeartbeats 8000000 in
set_option maxRecDepth 100000 in
theorem spec_l2Form.calls (k:Nat) (A0_0:Option Addr) (c0_0:Nat) (l0_0:List Int) (A0_1:Option Addr) (c0_1:Nat) (l0_1:List Int) (a1:Int) (r1:List Int) (r2:List Int) (w:World) (hr0_0:Kd.C (Kd.int .i64) w A0_0 l0_0.length l0_0) (hc0_0:l0_0.length≤c0_0) (hr0_1:Kd.C (Kd.int .i64) w A0_1 l0_1.length l0_1) (hc0_1:l0_1.length≤c0_1) (h:spec_l2Form.f k l0_0 l0_1 a1 = some (r1,r2)) :
  Calls Try.prog 78 #[.agg #[.slice A0_0 l0_0.length c0_0,.slice A0_1 l0_1.length c0_1],.int .i64 a1] w fun e w' => ∃ v0_ v1_:Value,e = .returned (.agg #[v0_,v1_])∧Kd.R (Kd.int .i64) 3 w' w.heap.size (fun k_=>some k_≠(v1_:Value).ownBlock) v0_ r1∧Kd.R (Kd.int .i64) 3 w' w.heap.size (fun k_=>some k_≠(v0_:Value).ownBlock) v1_ r2∧Below w.heap.size w w':=by
 have hu33:=Try.underlying33
 have HR0_0:=zA hr0_0
 have HC0_0:=zA hc0_0
 clear hr0_0 hc0_0
 have HR0_1:=zA hr0_1
 have HC0_1:=zA hc0_1
 clear hr0_1 hc0_1
 have HB:=zA (Below.refl w.heap.size w)
 have H:((spec_l2Names.f k l0_0 l0_1 a1).bind fun t539=>((spec_l2Rename.f k l0_0 l0_1 t539).bind fun bt542=>(some (bt542.1,bt542.2)))) = some (r1,r2):=h
 clear h
 replace H:=zz0 H
 obtain ⟨t539,A30,H⟩:=H
 try dsimp only at H
 have A3:=zA A30
 clear A30
 replace H:=zz0 H
 obtain ⟨⟨t542,t545⟩,A40,H⟩:=H
 try dsimp only at H
 have A4:=zA A40
 clear A40
 simp only [Option.some.injEq,Prod.mk.injEq] at H
 obtain ⟨rfl,rfl⟩:=H
 go_enter Try.func78,Try.ntmps78
 try go_wp2_with (first|((with_reducible refine gate_dst (N:=2) rfl ?_);refine box_event ?hg (N:=2) ?hd (cs:=#[.slice A0_0 l0_0.length c0_0,.slice A0_1 l0_1.length c0_1]) (t:=33) ?hr ?_;(case hd=>rfl);(case hg=>rfl);(case hr=>first|(go_simp;done)|(go_simp;rfl));intro gb537 hg w5 hbox hb;have n0_:=zA (zR (by exact zB_ HB.out) hb);have n1_:=zA (hbox);have n2_:=zA ((by rw [hg];exact (zQ (by exact zB_ HB.out)):w.heap.size≤gb537));have n3_:=zA ((by rw [hg];exact (zQ (by exact zB_ HB.out)):w.heap.size≤gb537));clear HB;have HB:=n0_;have BK537:=n1_;have GW537:=n2_;have GE537:=n3_;clear n0_ n1_ n2_ n3_;clear hb hbox hg)|((with_reducible refine gate_dst (N:=4) rfl ?_);refine box_event ?hg (N:=4) ?hd (cs:=#[.slice none 0 0,.slice none 0 0]) (t:=33) ?hr ?_;(case hd=>rfl);(case hg=>rfl);(case hr=>first|(go_simp;done)|(go_simp;rfl));intro gb538 hg w6 hbox hb;have n0_:=zA (zX (g:=gb537) (o:=.cells #[.slice A0_0 l0_0.length c0_0,.slice A0_1 l0_1.length c0_1] 33 (0,0)) (by (with_reducible repeat (first|refine zG ?_ _|refine zI ?_|refine zH ?_ _));exact BK537.out) hb);have n1_:=zA (zR (by repeat (first|(with_reducible first|exact HB.out|apply zD|apply zB|apply zC|refine zF ?_ GE537.out)|exact HB.out)) hb);have n2_:=zA (hbox);have n3_:=zA ((by rw [hg];exact (zQ (by repeat (first|(with_reducible first|exact HB.out|apply zD|apply zB|apply zC|refine zF ?_ GE537.out)|exact HB.out))):w.heap.size≤gb538));have n4_:=zA ((by rw [hg];exact (zQ (by repeat (first|(with_reducible first|exact HB.out|apply zD|apply zB|apply zC|refine zF ?_ GE537.out)|exact HB.out))):w.heap.size≤gb538));have n5_:=zA ((by rw [hg];exact Nat.ne_of_lt (blk_lt (g:=gb537) (o:=.cells #[.slice A0_0 l0_0.length c0_0,.slice A0_1 l0_1.length c0_1] 33 (0,0)) (by (with_reducible repeat (first|refine zG ?_ _|refine zI ?_|refine zH ?_ _));exact BK537.out)):gb537≠gb538));have n6_:=zA ((by rw [hg];exact Nat.ne_of_gt (blk_lt (g:=gb537) (o:=.cells #[.slice A0_0 l0_0.length c0_0,.slice A0_1 l0_1.length c0_1] 33 (0,0)) (by (with_reducible repeat (first|refine zG ?_ _|refine zI ?_|refine zH ?_ _));exact BK537.out)):gb538≠gb537));clear BK537;clear HB;have BK537:=n0_;have HB:=n1_;have BK538:=n2_;have GW538:=n3_;have GE538:=n4_;have NB537_538:=n5_;have NB538_537:=n6_;clear n0_ n1_ n2_ n3_ n4_ n5_ n6_;clear hb hbox hg))
 have n0_:=zA (zI BK537.out)
 have n1_:=zA (zI BK538.out)
 have n2_:=zA (zC HB.out)
 clear BK537 BK538 HB
 have BK537:=n0_
 have BK538:=n1_
 have HB:=n2_
 clear n0_ n1_ n2_
 refine start_ (n:=6) (S:=fun w'=>w'.cell? ⟨gb537,0,none⟩ = some (.slice A0_0 l0_0.length c0_0)∧w'.cell? ⟨gb537,1,none⟩ = some (.slice A0_1 l0_1.length c0_1)) (ds:=[]) #[zf,zf,zf,zf,zf,zf] (by kernel_rfl) rfl rfl ⟨(zT BK537.out 0).trans rfl,(zT BK537.out 1).trans rfl⟩ (fun hHeld=>?_)
 generalize w6.drew = w7 at BK537 BK538 HB hHeld ⊢
 refine pure_ (i:=2) (N:=some 7) (v:=?_) (a':=?_) #[zf,zf,zt,zf,zf,zf] rfl rfl (by kernel_rfl) (fun _ _ _ h=>h) (Or.inl ⟨by rfl,?_⟩) ?_ ?_
 rotate_left
 ·intro w'
  go_simp
  with_reducible rfl
 rotate_left
 ·simp only [Act.put,zP_,i64_w]
  rfl
 refine take_ (i:=0) (N:=some 5) (v:=?_) (a':=?_) #[zt,zf,zt,zf,zf,zf] rfl rfl (by kernel_rfl) (fun _ _ _ h=>h) (Or.inl ⟨by rfl,?_⟩) hHeld ?_ ?_
 rotate_left
 ·rintro w' ⟨s0,s1⟩
  go_simp
  with_reducible rfl
 rotate_left
 ·simp only [Act.put,zP_,i64_w]
  rfl
 refine take_ (i:=1) (N:=some 6) (v:=?_) (a':=?_) #[zt,zt,zt,zf,zf,zf] rfl rfl (by kernel_rfl) (fun _ _ _ h=>h) (Or.inl ⟨by rfl,?_⟩) hHeld ?_ ?_
 rotate_left
 ·rintro w' ⟨s0,s1⟩
  go_simp
  with_reducible rfl
 rotate_left
 ·simp only [Act.put,zP_,i64_w]
  rfl
 refine one_ (i:=3) (N:=some 8) #[zt,zt,zt,zt,zf,zf] rfl rfl (by kernel_rfl) (by decide) (fun K hK=>?_)
 refine goes_ Try.func97 (by kernel_rfl) rfl #[.agg #[.slice A0_0 l0_0.length c0_0,.slice A0_1 l0_1.length c0_1],.int .i64 a1] (by rfl) rfl rfl (by (try simp only [zJ,zM,zN]);first|done|rfl|(simp only [zL,zK];rfl)) ?_
 with_reducible refine (spec_l2Names.calls k _ _ l0_0 _ _ l0_1 a1 t539 _ ?side1 ?side2 ?side3 ?side4 A3.out).mono ?_
 (case side1=>repeat (first|exact (zW HR0_0.out HB.out)|(with_reducible exact HR0_0.out)|apply zC_))
 (case side2=>exact HC0_0.out)
 (case side3=>repeat (first|exact (zW HR0_1.out HB.out)|(with_reducible exact HR0_1.out)|apply zC_))
 (case side4=>exact HC0_1.out)
 rintro e w8 ⟨v540,rfl,ho0,hb⟩
 refine ⟨_,rfl,?_⟩
 have n0_:=zA (ze ho0 (zQ (by repeat (first|(with_reducible first|exact HB.out|apply zD|apply zB|apply zC|refine zF ?_ GE537.out|refine zF ?_ GE538.out)|exact HB.out))))
 have n1_:=zA (zX (g:=gb537) (o:=.cells #[.slice A0_0 l0_0.length c0_0,.slice A0_1 l0_1.length c0_1] 33 (0,0)) (by (with_reducible repeat (first|refine zG ?_ _|refine zI ?_|refine zH ?_ _));exact BK537.out) hb)
 have n2_:=zA (zX (g:=gb538) (o:=.cells #[.slice none 0 0,.slice none 0 0] 33 (0,0)) (by (with_reducible repeat (first|refine zG ?_ _|refine zI ?_|refine zH ?_ _));exact BK538.out) hb)
 have n3_:=zA (zR (by repeat (first|(with_reducible first|exact HB.out|apply zD|apply zB|apply zC|refine zF ?_ GE537.out|refine zF ?_ GE538.out)|exact HB.out)) hb)
 clear BK537 BK538 HB
 have HO541:=n0_
 have BK537:=n1_
 have BK538:=n2_
 have HB:=n3_
 clear n0_ n1_ n2_ n3_
 (try clear hb);(try clear hb2);(try clear hk);(try clear hi);(try clear ho0)
 obtain ⟨Ao9,co9,eo9⟩:=zg HO541.out
 (first|subst eo9|(injection eo9 with f1_ f2_ f3_;have f4_:=f1_.symm;have f5_:=f3_.symm;clear f1_ f2_ f3_;subst f4_;subst f5_))
 refine hK.out _ _ ⟨(zT BK537.out 0).trans rfl,(zT BK537.out 1).trans rfl⟩ (fun hHeld=>?_)
 clear hK K
 refine norm_ (a':=?_) ?_ ?_
 rotate_left
 ·show Act.put _ (some 8) _ = _
  simp only [Act.put,zP_,i64_w]
  rfl
 refine one_ (i:=4) (N:=some 9) #[zt,zt,zt,zt,zt,zf] rfl rfl (by kernel_rfl) (by decide) (fun K hK=>?_)
 refine goes_ Try.func96 (by kernel_rfl) rfl #[.agg #[.slice A0_0 l0_0.length c0_0,.slice A0_1 l0_1.length c0_1],.slice Ao9 t539.length co9] (by rfl) rfl rfl (by (try simp only [zJ,zM,zN]);first|done|rfl|(simp only [zL,zK];rfl)) ?_
 with_reducible refine (spec_l2Rename.calls k _ _ l0_0 _ _ l0_1 _ _ t539 t542 t545 _ ?side1 ?side2 ?side3 ?side4 ?side5 ?side6 A4.out).mono ?_
 (case side1=>repeat (first|exact (zW HR0_0.out HB.out)|(with_reducible exact HR0_0.out)|apply zC_))
 (case side2=>exact HC0_0.out)
 (case side3=>repeat (first|exact (zW HR0_1.out HB.out)|(with_reducible exact HR0_1.out)|apply zC_))
 (case side4=>exact HC0_1.out)
 (case side5=>repeat (first|exact (zU HO541.out).2.2|apply zC_))
 (case side6=>exact (zU HO541.out).2.1)
 rintro e w10 ⟨v543,v546,rfl,ho0,ho1,hb⟩
 refine ⟨_,rfl,?_⟩
 have n0_:=zA (zV (Kd.R_told (Kd.R_told (Kd.R_old (by apply zR_;exact HO541.out) hb) (zd ho0)) (zd ho1)) (fun _ h_=>h_.1))
 have n1_:=zA (ze (zh ho0 (Kd.R_lt (by apply zR_;exact HO541.out))) (zQ (by repeat (first|(with_reducible first|exact HB.out|apply zD|apply zB|apply zC|refine zF ?_ GE537.out|refine zF ?_ GE538.out)|exact HB.out))))
 have n2_:=zA (ze (zh ho1 (Kd.R_lt (by apply zR_;exact HO541.out))) (zQ (by repeat (first|(with_reducible first|exact HB.out|apply zD|apply zB|apply zC|refine zF ?_ GE537.out|refine zF ?_ GE538.out)|exact HB.out))))
 have n3_:=zA (zX (g:=gb537) (o:=.cells #[.slice A0_0 l0_0.length c0_0,.slice A0_1 l0_1.length c0_1] 33 (0,0)) (by (with_reducible repeat (first|refine zG ?_ _|refine zI ?_|refine zH ?_ _));exact BK537.out) hb)
 have n4_:=zA (zX (g:=gb538) (o:=.cells #[.slice none 0 0,.slice none 0 0] 33 (0,0)) (by (with_reducible repeat (first|refine zG ?_ _|refine zI ?_|refine zH ?_ _));exact BK538.out) hb)
 have n5_:=zA (zR (by repeat (first|(with_reducible first|exact HB.out|apply zD|apply zB|apply zC|refine zF ?_ GE537.out|refine zF ?_ GE538.out)|exact HB.out)) hb)
 clear HO541 BK537 BK538 HB
 have HO541:=n0_
 have HO544:=n1_
 have HO547:=n2_
 have BK537:=n3_
 have BK538:=n4_
 have HB:=n5_
 clear n0_ n1_ n2_ n3_ n4_ n5_
 (try clear hb);(try clear hb2);(try clear hk);(try clear hi);(try clear ho0);(try clear ho1)
 obtain ⟨Ao11,co11,eo11⟩:=zg HO544.out
 (first|subst eo11|(injection eo11 with f1_ f2_ f3_;have f4_:=f1_.symm;have f5_:=f3_.symm;clear f1_ f2_ f3_;subst f4_;subst f5_))
 obtain ⟨Ao13,co13,eo13⟩:=zg HO547.out
 (first|subst eo13|(injection eo13 with f1_ f2_ f3_;have f4_:=f1_.symm;have f5_:=f3_.symm;clear f1_ f2_ f3_;subst f4_;subst f5_))
 refine hK.out _ _ ⟨(zT BK537.out 0).trans rfl,(zT BK537.out 1).trans rfl⟩ (fun hHeld=>?_)
 clear hK K
 refine norm_ (a':=?_) ?_ ?_
 rotate_left
 ·show Act.put _ (some 9) _ = _
  simp only [Act.put,zP_,i64_w]
  rfl
 refine one_ (i:=5) (N:=none) #[zt,zt,zt,zt,zt,zt] rfl rfl (by kernel_rfl) (by decide) (fun K hK=>?_)
 have hs12:w10.cell? ⟨gb538,0,none⟩ = some (.slice none 0 0):=(zT BK538.out 0).trans rfl
 have hfs12:=zZ BK538.out 0
 have hns12_0:=NB537_538.out
 have hms12_0:=NB538_537.out
 have hs14:w10.cell? ⟨gb538,1,none⟩ = some (.slice none 0 0):=(zT BK538.out 1).trans rfl
 have hfs14:=zZ BK538.out 1
 have hns14_0:=NB537_538.out
 have hms14_0:=NB538_537.out
 refine skip_ (w1:=?_) (by rfl) rfl ?_ ?_
 rotate_left
 ·go_simp
  rfl
 refine hK.out _ _ ⟨((cell_far (p:=⟨gb538,_,none⟩) NB537_538.out _).trans (((cell_far (p:=⟨gb538,_,none⟩) NB537_538.out _).trans (hHeld.1)))),((cell_far (p:=⟨gb538,_,none⟩) NB537_538.out _).trans (((cell_far (p:=⟨gb538,_,none⟩) NB537_538.out _).trans (hHeld.2))))⟩ (fun hHeld=>?_)
 clear hK K
 refine done_ (by kernel_rfl) ?_
 try go_wp2
 refine bodyPost_ret (results_cell_row rfl _ _ gb538 33 #[.slice Ao11 t542.length co11,.slice Ao13 t545.length co13] (0,0) _ rfl (by (with_reducible repeat (first|refine zG ?_ _|refine zI ?_|refine zH ?_ _));refine blk_put (cs:=#[.slice Ao11 t542.length co11,.slice none 0 0]) ?_ 1 _ rfl;(with_reducible repeat (first|refine zG ?_ _|refine zI ?_|refine zH ?_ _));refine blk_put (cs:=#[.slice none 0 0,.slice none 0 0]) ?_ 0 _ rfl;(with_reducible repeat (first|refine zG ?_ _|refine zI ?_|refine zH ?_ _));exact BK538.out) Try.underlying33 rfl (by kernel_rfl)) rfl ?_
 exact ⟨_,_,by first|rfl|(simp [errW_none,errW_some] <;> rfl)|(simp [*,errW_none,errW_some] <;> rfl),by apply zR_;exact zV (zi (p:=⟨gb538,1,none⟩) (zi (p:=⟨gb538,0,none⟩) (Kd.R_types HO544.out BK538.out (by decide)) (fun _ hk=>hk.2) (.slice Ao11 t542.length co11)) (fun _ hk=>hk.2) (.slice Ao13 t545.length co13)) (fun _ hk=>hk.1.1),by apply zR_;exact zV (zi (p:=⟨gb538,1,none⟩) (zi (p:=⟨gb538,0,none⟩) (Kd.R_types HO547.out BK538.out (by decide)) (fun _ hk=>hk.2) (.slice Ao11 t542.length co11)) (fun _ hk=>hk.2) (.slice Ao13 t545.length co13)) (fun _ hk=>hk.1.1),by repeat (first|(with_reducible first|exact HB.out|apply zD|apply zB|apply zC|refine zF ?_ GE537.out|refine zF ?_ GE538.out)|exact HB.out)⟩

end Go.Proofs.Ytdaiohcgdpclnaa.Q
