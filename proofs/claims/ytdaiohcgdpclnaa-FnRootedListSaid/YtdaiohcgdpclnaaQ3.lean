import Derived.Test.YtdaiohcgdpclnaaQ0
import Derived.Test.YtdaiohcgdpclnaaZ
import Derived.Laws.EntriesVeiled
import Derived.Shelf.SlSortCmp.WholeK
namespace Go.Proofs.Ytdaiohcgdpclnaa.Q
open Go.RowKit Go.Proofs.YtdaiohcgdpclnaaW.PrintWords Go.Proofs.YtdaiohcgdpclnaaW.PrintLast Go.Proofs.YtdaiohcgdpclnaaW.PrintMore
attribute [local go_sem] max2_int min2_int max_two min_two max_three min_three max_four min_four   -- for this text's walks alone
set_option linter.unusedVariables false
set_option linter.unusedSimpArgs false

/-! ### impl_namesFrom: function 48 -/
mutual
def impl_namesFrom.l0:Nat→Int→List Int→Int→Int→List Int→List Int→Option (List Int)
 | 0,_,_,_,_,_,_=>none
 | k+1,x1,x5,x16,x17,x176000,x176001=>if x17 < x16 then (if 0≤x17 then (if x17 < (x5.length:Int) then (impl_namesFrom.l0 k x1 (x5.set (x17:Int).toNat (-1)) x16 (wrap64 (x17+1)) x176000 x176001) else (none)) else (none)) else (if 0≤x1 then (if x1 < (x5.length:Int) then (impl_namesFrom.l1 k (x5.set (x1:Int).toNat 0) (([x1]:List Int)) 0 x176000 x176001) else (none)) else (none))
def impl_namesFrom.l1:Nat→List Int→List Int→Int→List Int→List Int→Option (List Int)
 | 0,_,_,_,_,_=>none
 | k+1,x5,x7,x8,x176000,x176001=>if x8 < (x7.length:Int) then (if 0≤x8 then (if 0≤(rd x7 x8) then (if (rd x7 x8) < (x176000.length:Int) then (if (rd x7 x8) < (x176001.length:Int) then ((some (([rd x176000 (rd x7 x8),rd x176001 (rd x7 x8)]:List Int):List Int)).bind fun y188=>(impl_namesFrom.l2 k x5 x7 x8 y188 (y188.length:Int) 0 x176000 x176001)) else (none)) else (none)) else (none)) else (none)) else (some x5)
def impl_namesFrom.l2:Nat→List Int→List Int→Int→List Int→Int→Int→List Int→List Int→Option (List Int)
 | 0,_,_,_,_,_,_,_,_=>none
 | k+1,x5,x7,x8,x51,x52,x53,x176000,x176001=>if x53 < x52 then (if 0≤x53 then (if x53 < (x51.length:Int) then (if 0≤(rd x51 x53) then (if (rd x51 x53) < (x5.length:Int) then (if (rd x5 (rd x51 x53)) < 0 then (if x7.length < 17592186044416 then (impl_namesFrom.l2 k (x5.set ((rd x51 x53):Int).toNat (x7.length:Int)) (x7 ++ [rd x51 x53]) x8 x51 x52 (wrap64 (x53+1)) x176000 x176001) else (none)) else (impl_namesFrom.l2 k x5 x7 x8 x51 x52 (wrap64 (x53+1)) x176000 x176001)) else (none)) else (none)) else (none)) else (none)) else (impl_namesFrom.l1 k x5 x7 (wrap64 (x8+1)) x176000 x176001)
end
def impl_namesFrom.f (k:Nat) (l0_0:List Int) (l0_1:List Int) (a1:Int):Option (List Int):=if 0≤(l0_0.length:Int) then (if ((l0_0.length:Int):Int).toNat≤35184372088832 then ((some (List.replicate ((l0_0.length:Int):Int).toNat 0:List Int)).bind fun y176=>(impl_namesFrom.l0 k a1 y176 (y176.length:Int) 0 l0_0 l0_1)) else (none)) else (none)
theorem impl_namesFrom.mono_l:∀ k,(∀ y0 y1 y2 y3 y4 y5,LeO (impl_namesFrom.l0 k y0 y1 y2 y3 y4 y5) (impl_namesFrom.l0 (k+1) y0 y1 y2 y3 y4 y5))∧(∀ y0 y1 y2 y3 y4,LeO (impl_namesFrom.l1 k y0 y1 y2 y3 y4) (impl_namesFrom.l1 (k+1) y0 y1 y2 y3 y4))∧(∀ y0 y1 y2 y3 y4 y5 y6 y7,LeO (impl_namesFrom.l2 k y0 y1 y2 y3 y4 y5 y6 y7) (impl_namesFrom.l2 (k+1) y0 y1 y2 y3 y4 y5 y6 y7))
 | 0=>⟨fun _ _ _ _ _ _ r h=>by simp [impl_namesFrom.l0] at h,fun _ _ _ _ _ r h=>by simp [impl_namesFrom.l1] at h,fun _ _ _ _ _ _ _ _ r h=>by simp [impl_namesFrom.l2] at h⟩
 | k+1=>by
  obtain ⟨ih0,ih1,ih2⟩:=impl_namesFrom.mono_l k
  refine ⟨?_,?_,?_⟩
  ·intro y0 y1 y2 y3 y4 y5
   unfold impl_namesFrom.l0
   repeat' first
   | (with_reducible exact ih0 _ _ _ _ _ _)
   | (with_reducible exact ih1 _ _ _ _ _)
   | (with_reducible exact ih2 _ _ _ _ _ _ _ _)
   | (with_reducible exact LeO.refl _)
   | (with_reducible exact za _)
   | (with_reducible refine zc ?_ ?_)
   | (with_reducible refine zb ?_ (fun _=>?_))
  ·intro y0 y1 y2 y3 y4
   unfold impl_namesFrom.l1
   repeat' first
   | (with_reducible exact ih0 _ _ _ _ _ _)
   | (with_reducible exact ih1 _ _ _ _ _)
   | (with_reducible exact ih2 _ _ _ _ _ _ _ _)
   | (with_reducible exact LeO.refl _)
   | (with_reducible exact za _)
   | (with_reducible refine zc ?_ ?_)
   | (with_reducible refine zb ?_ (fun _=>?_))
  ·intro y0 y1 y2 y3 y4 y5 y6 y7
   unfold impl_namesFrom.l2
   repeat' first
   | (with_reducible exact ih0 _ _ _ _ _ _)
   | (with_reducible exact ih1 _ _ _ _ _)
   | (with_reducible exact ih2 _ _ _ _ _ _ _ _)
   | (with_reducible exact LeO.refl _)
   | (with_reducible exact za _)
   | (with_reducible refine zc ?_ ?_)
   | (with_reducible refine zb ?_ (fun _=>?_))
theorem impl_namesFrom.mono:∀ a0 a1 a2 k,LeO (impl_namesFrom.f k a0 a1 a2) (impl_namesFrom.f (k+1) a0 a1 a2):=by
 intro a0 a1 a2 k
 obtain ⟨ih0,ih1,ih2⟩:=impl_namesFrom.mono_l k
 unfold impl_namesFrom.f
 repeat' first
   | (with_reducible exact ih0 _ _ _ _ _ _)
   | (with_reducible exact ih1 _ _ _ _ _)
   | (with_reducible exact ih2 _ _ _ _ _ _ _ _)
   | (with_reducible exact LeO.refl _)
   | (with_reducible exact za _)
   | (with_reducible refine zc ?_ ?_)
   | (with_reducible refine zb ?_ (fun _=>?_))
def impl_namesFrom.T12:Bool × List (List Nat × List Nat):=(true,[([],[]),([0],[0]),([],[]),([],[]),([2,3],[2,3]),([4],[4]),([1,5],[1,5]),([6],[6]),([],[]),([8],[8]),([],[]),([],[]),([10,11],[10,11]),([12],[12]),([9,13],[9,13]),([14],[14]),([7,15],[7,15]),([16],[16]),([],[])])
def impl_namesFrom.B12:List Nat:=[0,1,0,0,12,28,63,127,0,256,0,0,3072,7168,16128,32512,65535,131071,0]
theorem impl_namesFrom.tab12:rtab .any (opsOf Try.f48 12) = impl_namesFrom.T12:=by kernel_rfl
theorem impl_namesFrom.bits12:waitsOk impl_namesFrom.T12.2 impl_namesFrom.B12 = true:=by kernel_rfl
set_option maxHeartbeats 8000000 in
set_option maxRecDepth 100000 in
theorem impl_namesFrom.calls (k:Nat) (A0_0:Option Addr) (c0_0:Nat) (l0_0:List Int) (A0_1:Option Addr) (c0_1:Nat) (l0_1:List Int) (a1:Int) (r:List Int) (w:World) (hr0_0:Kd.C (Kd.int .i64) w A0_0 l0_0.length l0_0) (hc0_0:l0_0.length≤c0_0) (hr0_1:Kd.C (Kd.int .i64) w A0_1 l0_1.length l0_1) (hc0_1:l0_1.length≤c0_1) (h:impl_namesFrom.f k l0_0 l0_1 a1 = some r) :
  Calls Try.prog 48 #[.agg #[.slice A0_0 l0_0.length c0_0,.slice A0_1 l0_1.length c0_1],.int .i64 a1] w fun e w' => ∃ v0_:Value,e = .returned (v0_)∧Kd.R (Kd.int .i64) 3 w' w.heap.size (fun _=>True) v0_ r∧Below w.heap.size w w':=by
 have hu33:=Try.underlying33
 have HR0_0:=zA hr0_0
 have HC0_0:=zA hc0_0
 clear hr0_0 hc0_0
 have HR0_1:=zA hr0_1
 have HC0_1:=zA hc0_1
 clear hr0_1 hc0_1
 have HB:=zA (Below.refl w.heap.size w)
 have H:(if 0≤(l0_0.length:Int) then (if ((l0_0.length:Int):Int).toNat≤35184372088832 then ((some (List.replicate ((l0_0.length:Int):Int).toNat 0:List Int)).bind fun y176=>(impl_namesFrom.l0 k a1 y176 (y176.length:Int) 0 l0_0 l0_1)) else (none)) else (none)) = some r:=h
 clear h
 by_cases c3:0≤(l0_0.length:Int)
 ·rw [if_pos c3] at H
  have c3b0:=eq_true c3
  have c3b1:decide (0≤(l0_0.length:Int)) = true:=zO c3
  clear c3
  by_cases c4:((l0_0.length:Int):Int).toNat≤35184372088832
  ·rw [if_pos c4] at H
   have c4b0:=eq_true c4
   have c4b1:decide (((l0_0.length:Int):Int).toNat≤35184372088832) = true:=zO c4
   clear c4
   obtain ⟨y176,hy176⟩:∃ y_:List Int,y_ = (List.replicate ((l0_0.length:Int):Int).toNat 0):=⟨_,rfl⟩
   replace H:(impl_namesFrom.l0 k a1 y176 (y176.length:Int) 0 l0_0 l0_1) = some r:=by (try rw [hy176]);first|with_reducible exact H|with_reducible exact zS_ H|exact H
   have Ny176:=zA hy176
   clear hy176
   have H':=zA H
   clear H
   go_enter Try.func48,Try.ntmps48
   go_wp2_with (first|((with_reducible refine gate_dst (N:=2) rfl ?_);refine box_event ?hg (N:=2) ?hd (cs:=#[.slice A0_0 l0_0.length c0_0,.slice A0_1 l0_1.length c0_1]) (t:=33) ?hr ?_;(case hd=>rfl);(case hg=>rfl);(case hr=>first|(go_simp;done)|(go_simp;rfl));intro gb175 hg w5 hbox hb;have n0_:=zA (zR (by exact zB_ HB.out) hb);have n1_:=zA (hbox);have n2_:=zA ((by rw [hg];exact (zQ (by exact zB_ HB.out)):w.heap.size≤gb175));have n3_:=zA ((by rw [hg];exact (zQ (by exact zB_ HB.out)):w.heap.size≤gb175));clear HB;have HB:=n0_;have BK175:=n1_;have GW175:=n2_;have GE175:=n3_;clear n0_ n1_ n2_ n3_;clear hb hbox hg;have hcz6_0:w5.cell? ⟨gb175,0,none⟩ = some (.slice A0_0 l0_0.length c0_0):=(zT BK175.out 0).trans rfl;have hcz6_1:w5.cell? ⟨gb175,1,none⟩ = some (.slice A0_1 l0_1.length c0_1):=(zT BK175.out 1).trans rfl;have hfz6_0:=zZ BK175.out 0;have hfz6_1:=zZ BK175.out 1)|((with_reducible refine gate_dst (N:=14) rfl ?_);refine Kd.R_make (Kd.int .i64) _ 3 rfl (N:=14) rfl 31 _ _ rfl (l0_0.length:Int) rfl rfl Try.underlying31 (.int .i64 0) 8 info3 rfl (by decide) (by omega) 0 (ok:=fun _=>True) (okp:=fun _=>True) rfl (fun _ hk=>hk) trivial (zE (by with_reducible assumption)) (Nat.le_trans (Nat.mul_le_mul_right _ (zE (by with_reducible assumption):(l0_0.length:Int).toNat≤35184372088832)) (by omega)) (Below.refl _ _) (Nat.le_refl _) ?_;intro v177 w7 ho8 hb hg_ hnew_;clear hg_ hnew_;(first|rw [← Ny176.out] at ho8|(simp only [Int.reduceToNat] at ho8;rw [← Ny176.out] at ho8));have n0_:=zA (ze ho8 (zQ (by repeat (first|(with_reducible first|exact HB.out|apply zD|apply zB|apply zC|refine zF ?_ GE175.out)|exact HB.out))));have n1_:=zA (zX (g:=gb175) (o:=.cells #[.slice A0_0 l0_0.length c0_0,.slice A0_1 l0_1.length c0_1] 33 (0,0)) (by (with_reducible repeat (first|refine zG ?_ _|refine zI ?_|refine zH ?_ _));exact BK175.out) hb);have n2_:=zA (zR (by repeat (first|(with_reducible first|exact HB.out|apply zD|apply zB|apply zC|refine zF ?_ GE175.out)|exact HB.out)) hb);clear BK175;clear HB;have HO178:=n0_;have BK175:=n1_;have HB:=n2_;clear n0_ n1_ n2_;clear hb ho8;obtain ⟨Ao9,co9,eo9⟩:=zg HO178.out;subst eo9))
   go_loopg [17] k (fun kq v17 w' => ∃ (x5_1:List Int) (x17_1:Int),v17 = .int .i64 x17_1∧Aside0 (impl_namesFrom.l0 kq a1 x5_1 (y176.length:Int) x17_1 l0_0 l0_1 = some r)∧Aside0 (kq≤k)∧Aside0 (Kd.R (Kd.int .i64) 3 w' w.heap.size (fun _=>True) (.slice Ao9 y176.length co9) x5_1)∧Aside0 (w'.heap[gb175]? = some (.cells #[(.slice A0_0 l0_0.length c0_0),(.slice A0_1 l0_1.length c0_1)] 33 (0,0)))∧Aside0 (Below w.heap.size w w'))
   case atStart=>exact ⟨(y176),(0),(by first|rfl|(simp;done)|(simp [*];done)),H',⟨Nat.le_refl _⟩,⟨by apply zR_;exact HO178.out⟩,⟨by (with_reducible repeat (first|refine zG ?_ _|refine zI ?_|refine zH ?_ _));exact BK175.out⟩,⟨by repeat (first|(with_reducible first|exact HB.out|apply zD|apply zB|apply zC|refine zF ?_ GE175.out)|exact HB.out)⟩⟩
   case round =>
    clear H'
    (try clear p2);(try clear c3);(try clear c3b0);(try clear c3b1);(try clear c4);(try clear c4b0);(try clear c4b1);(try clear hcz6_0);(try clear hcz6_1);(try clear hfz6_0);(try clear hfz6_1)
    obtain ⟨x5_1,x17_1,rfl,HA,HK1,HO_5,BK175,HB⟩:=hrel
    have hl5_1:=(zU HO_5.out).1
    rw [hl5_1] at HO_5
    (try simp only [hl5_1])
    (try simp only [hl5_1] at BK175)
    cases gk with
    | zero=>exact absurd HA.out (by simp [impl_namesFrom.l0])
    | succ k1 =>
     have H:=HA.out
     clear HA
     simp only [impl_namesFrom.l0] at H
     by_cases c10:x17_1 < (y176.length:Int)
     ·rw [if_pos c10] at H
      have c10b0:decide (x17_1 < (y176.length:Int)) = true:=zO c10
      clear c10
      by_cases c11:0≤x17_1
      ·rw [if_pos c11] at H
       have c11b0:decide (0≤x17_1) = true:=zO c11
       clear c11
       by_cases c12:x17_1 < (x5_1.length:Int)
       ·rw [if_pos c12] at H
        have c12b0:decide (x17_1 < (x5_1.length:Int)) = true:=zO c12
        clear c12
        obtain ⟨y179,hy179⟩:∃ y_:List Int,y_ = (x5_1.set (x17_1:Int).toNat (-1)):=⟨_,rfl⟩
        replace H:(impl_namesFrom.l0 k1 a1 y179 (y176.length:Int) (wrap64 (x17_1+1)) l0_0 l0_1) = some r:=by (try rw [hy179]);first|with_reducible exact H|with_reducible exact zS_ H|exact H
        have Ny179:=zA hy179
        clear hy179
        have H':=zA H
        clear H
        have p13:0≤(x17_1:Int):=zE (by with_reducible assumption)
        have q13:(x17_1:Int) < ((x5_1.length:Int):Int):=zE (by with_reducible assumption)
        obtain ⟨go13,co13,eo13,gb13,gl13,cl13,HG13⟩:=Kd.R_form HO_5.out (by omega)
        (first|cases eo13|(injection eo13 with ea_ en_ ec_;(first|subst ea_|(injection ea_ with ea_;subst ea_));subst ec_;clear en_))
        have GB13:=zA gb13
        have GG13:=zA HG13
        clear gb13 gl13 HG13
        obtain ⟨hx13_0,hf13_0⟩:=Kd.R_celln 0 HO_5.out (x17_1:Int) p13 q13
        replace p13:=eq_true p13
        replace q13:=eq_true q13
        have HP14:=Kd.R_putg HO_5.out (x17_1:Int) (-1)
        go_wp2_with (first|((with_reducible refine gate_store (t:=3) (p:=22) rfl ?_);refine store_event (t:=3) (p:=22) (v:=?vo_w15) (w1:=(wr.setCell ⟨go13,(x17_1:Int).toNat,none⟩ (.int .i64 (-1)))) ?hg ?ho ?hn ?hr ?_;(case ho=>rfl);(case hg=>rfl);(case hn=>rfl);(case hr=>first|(go_simp;done)|(go_simp;rfl));intro w15 hw;have hg:wr.grownBy w15 (some go13):=(by rw [hw];exact HP14.2);have hp_:Kd.R (Kd.int .i64) 3 w15 w.heap.size (fun _=>True) (.slice (some ⟨go13,0,none⟩) x5_1.length co9) y179:=(by rw [hw,Ny179.out];exact HP14.1);clear HP14;have n0_:=zA (hp_);have n1_:=zA (blk_grown (g:=gb175) (o:=.cells #[.slice A0_0 l0_0.length c0_0,.slice A0_1 l0_1.length c0_1] 33 (0,0)) (by (with_reducible repeat (first|refine zG ?_ _|refine zI ?_|refine zH ?_ _));exact BK175.out) hg (Kd.R_ne HO_5.out BK175.out (by decide)));have n2_:=zA ((by rw [hw];exact zF (HB.out) GB13.out:Below w.heap.size w w15));clear HO_5;clear BK175;clear HB;have HO_5:=n0_;have BK175:=n1_;have HB:=n2_;clear n0_ n1_ n2_;clear hg hw hp_))
        (try simp only [← hl5_1])
        go_roundg k1
        case measure=>have:=HK1.out;omega
        case rel=>exact ⟨(y179),(wrap64 (x17_1+1)),(by first|rfl|(simp;done)|(simp [*];done)),H',⟨by have:=HK1.out;omega⟩,⟨by (try simp only [hl5_1]);apply zR_;exact HO_5.out⟩,⟨by (try simp only [hl5_1]);(with_reducible repeat (first|refine zG ?_ _|refine zI ?_|refine zH ?_ _));exact BK175.out⟩,⟨by repeat (first|(with_reducible first|exact HB.out|apply zD|apply zB|apply zC|refine zF ?_ GE175.out)|exact HB.out)⟩⟩
       ·rw [if_neg c12] at H
        exact absurd H (by simp)
      ·rw [if_neg c11] at H
       exact absurd H (by simp)
     ·rw [if_neg c10] at H
      have c10b0:decide (x17_1 < (y176.length:Int)) = false:=zP c10
      try have c10b9:decide (x17_1 < (x5_1.length:Int)) = false:=by rw [← hl5_1];exact c10b0
      clear c10
      by_cases c16:0≤a1
      ·rw [if_pos c16] at H
       have c16b0:decide (0≤a1) = true:=zO c16
       clear c16
       by_cases c17:a1 < (x5_1.length:Int)
       ·rw [if_pos c17] at H
        have c17b0:decide (a1 < (x5_1.length:Int)) = true:=zO c17
        clear c17
        obtain ⟨y180,hy180⟩:∃ y_:List Int,y_ = (x5_1.set (a1:Int).toNat 0):=⟨_,rfl⟩
        replace H:(impl_namesFrom.l1 k1 y180 (([a1]:List Int)) 0 l0_0 l0_1) = some r:=by (try rw [hy180]);first|with_reducible exact H|with_reducible exact zS_ H|exact H
        have Ny180:=zA hy180
        clear hy180
        obtain ⟨y181,hy181⟩:∃ y_:List Int,y_ = (([a1]:List Int)):=⟨_,rfl⟩
        replace H:(impl_namesFrom.l1 k1 y180 y181 0 l0_0 l0_1) = some r:=by (try rw [hy181]);first|with_reducible exact H|with_reducible exact zS_ H|exact H
        have Ny181:=zA hy181
        clear hy181
        have H':=zA H
        clear H
        have p18:0≤(a1:Int):=zE (by with_reducible assumption)
        have q18:(a1:Int) < ((x5_1.length:Int):Int):=zE (by with_reducible assumption)
        obtain ⟨go18,co18,eo18,gb18,gl18,cl18,HG18⟩:=Kd.R_form HO_5.out (by omega)
        (first|cases eo18|(injection eo18 with ea_ en_ ec_;(first|subst ea_|(injection ea_ with ea_;subst ea_));subst ec_;clear en_))
        have GB18:=zA gb18
        have GG18:=zA HG18
        clear gb18 gl18 HG18
        obtain ⟨hx18_0,hf18_0⟩:=Kd.R_celln 0 HO_5.out (a1:Int) p18 q18
        replace p18:=eq_true p18
        replace q18:=eq_true q18
        have HP19:=Kd.R_putg HO_5.out (a1:Int) 0
        go_wp2_with (first|((with_reducible refine gate_store (t:=3) (p:=26) rfl ?_);refine store_event (t:=3) (p:=26) (v:=?vo_w20) (w1:=(wr.setCell ⟨go18,(a1:Int).toNat,none⟩ (.int .i64 0))) ?hg ?ho ?hn ?hr ?_;(case ho=>rfl);(case hg=>rfl);(case hn=>rfl);(case hr=>first|(go_simp;done)|(go_simp;rfl));intro w20 hw;have hg:wr.grownBy w20 (some go18):=(by rw [hw];exact HP19.2);have hp_:Kd.R (Kd.int .i64) 3 w20 w.heap.size (fun _=>True) (.slice (some ⟨go18,0,none⟩) x5_1.length co9) y180:=(by rw [hw,Ny180.out];exact HP19.1);clear HP19;have n0_:=zA (hp_);have n1_:=zA (blk_grown (g:=gb175) (o:=.cells #[.slice A0_0 l0_0.length c0_0,.slice A0_1 l0_1.length c0_1] 33 (0,0)) (by (with_reducible repeat (first|refine zG ?_ _|refine zI ?_|refine zH ?_ _));exact BK175.out) hg (Kd.R_ne HO_5.out BK175.out (by decide)));have n2_:=zA ((by rw [hw];exact zF (HB.out) GB18.out:Below w.heap.size w w20));clear HO_5;clear BK175;clear HB;have HO_5:=n0_;have BK175:=n1_;have HB:=n2_;clear n0_ n1_ n2_;clear hg hw hp_)|((with_reducible refine gate_dst (N:=28) rfl ?_);refine Kd.R_lit (Kd.int .i64) _ 3 ?hg (N:=28) ?hd (xs:=([a1]:List Int)) (inner:=[.int .i64 a1]) (ok:=fun _=>True) (okp:=fun _=>True) ?hr ?hp (fun _ hk=>hk) trivial (Below.refl _ _) (Nat.le_refl _) (by simp) ?_;(case hd=>rfl);(case hg=>rfl);(case hr=>first|(go_simp;done)|(go_simp;rfl));(case hp=>exact (Reps.one (show Kd.M (Kd.int .i64) _ _ _ a1 [.int .i64 a1] from rfl) (Reps.none _ _)));intro v182 w21 ho22 hb hg_ hnew_;clear hg_ hnew_;(first|rw [← Ny181.out] at ho22|(simp only [Int.reduceToNat] at ho22;rw [← Ny181.out] at ho22));have n0_:=zA (Kd.R_elder' (by apply zR_;exact HO_5.out) (zd ho22) hb);have n1_:=zA (ze (Kd.R_new' ho22 (Kd.R_lt (by apply zR_;exact HO_5.out))) (zQ (by repeat (first|(with_reducible first|exact HB.out|apply zD|apply zB|apply zC|refine zF ?_ GE175.out)|exact HB.out))));have n2_:=zA (zX (g:=gb175) (o:=.cells #[.slice A0_0 l0_0.length c0_0,.slice A0_1 l0_1.length c0_1] 33 (0,0)) (by (with_reducible repeat (first|refine zG ?_ _|refine zI ?_|refine zH ?_ _));exact BK175.out) hb);have n3_:=zA (zR (by repeat (first|(with_reducible first|exact HB.out|apply zD|apply zB|apply zC|refine zF ?_ GE175.out)|exact HB.out)) hb);clear HO_5;clear BK175;clear HB;have HO_5:=n0_;have HO183:=n1_;have BK175:=n2_;have HB:=n3_;clear n0_ n1_ n2_ n3_;clear hb ho22))
        go_loopg [7,8] k1 (fun kq v7 v8 w' => ∃ (x5_2:List Int) (x7_2:List Int) (x8_2:Int),v8 = .int .i64 x8_2∧Aside0 (impl_namesFrom.l1 kq x5_2 x7_2 x8_2 l0_0 l0_1 = some r)∧Aside0 (kq≤k1)∧Aside0 (Kd.R (Kd.int .i64) 3 w' w.heap.size (fun k_=>some k_≠(v7:Value).ownBlock) (.slice (some ⟨go18,0,none⟩) x5_1.length co9) x5_2)∧Aside0 (Kd.R (Kd.int .i64) 3 w' w.heap.size (fun k_=>some k_≠((.slice (some ⟨go18,0,none⟩) x5_1.length co9):Value).ownBlock) v7 x7_2)∧Aside0 (w'.heap[gb175]? = some (.cells #[(.slice A0_0 l0_0.length c0_0),(.slice A0_1 l0_1.length c0_1)] 33 (0,0)))∧Aside0 (Below w.heap.size w w'))
        case atStart=>exact ⟨(y180),(y181),(0),(by first|rfl|(simp;done)|(simp [*];done)),H',⟨Nat.le_refl _⟩,⟨by (try simp only [hl5_1]);apply zR_;exact zV HO_5.out (fun _ hk=>hk.2)⟩,⟨by (try simp only [hl5_1]);apply zR_;exact zV HO183.out (fun _ hk=>hk.2)⟩,⟨by (try simp only [hl5_1]);(with_reducible repeat (first|refine zG ?_ _|refine zI ?_|refine zH ?_ _));exact BK175.out⟩,⟨by repeat (first|(with_reducible first|exact HB.out|apply zD|apply zB|apply zC|refine zF ?_ GE175.out)|exact HB.out)⟩⟩
        case round =>
         clear H'
         (try clear c1);(try clear p1);(try clear q1);(try clear hx1);(try clear p2);(try clear c3);(try clear c3b0);(try clear c3b1);(try clear c4);(try clear c4b0);(try clear c4b1);(try clear p6);(try clear c10);(try clear c10b0);(try clear c11);(try clear c11b0);(try clear c12);(try clear c12b0);(try clear p13);(try clear q13);(try clear hx13);(try clear hf13);(try clear c16);(try clear c16b0);(try clear c17);(try clear c17b0);(try clear p18);(try clear q18);(try clear hx18);(try clear hf18);(try clear hcz6_0);(try clear hcz6_1);(try clear hfz6_0);(try clear hfz6_1);(try clear hx13_0);(try clear hx18_0);(try clear p13);(try clear p18);(try clear p2);(try clear q13);(try clear q18)
         obtain ⟨x5_2,x7_2,x8_2,rfl,HA,HK2,HO_5,HO_7,BK175,HB⟩:=hrel
         have hl5_2:=(zU HO_5.out).1
         rw [hl5_2] at HO_5
         (try simp only [hl5_2])
         (try simp only [hl5_2] at BK175)
         (try simp only [hl5_2] at HO_7)
         cases gk with
         | zero=>exact absurd HA.out (by simp [impl_namesFrom.l1])
         | succ k2 =>
          have H:=HA.out
          clear HA
          simp only [impl_namesFrom.l1] at H
          by_cases c23:x8_2 < (x7_2.length:Int)
          ·rw [if_pos c23] at H
           have c23b0:decide (x8_2 < (x7_2.length:Int)) = true:=zO c23
           clear c23
           by_cases c24:0≤x8_2
           ·rw [if_pos c24] at H
            have c24b0:decide (0≤x8_2) = true:=zO c24
            clear c24
            by_cases c25:0≤(rd x7_2 x8_2)
            ·rw [if_pos c25] at H
             have c25b0:decide (0≤(rd x7_2 x8_2)) = true:=zO c25
             clear c25
             by_cases c26:(rd x7_2 x8_2) < (l0_0.length:Int)
             ·rw [if_pos c26] at H
              have c26b0:decide ((rd x7_2 x8_2) < (l0_0.length:Int)) = true:=zO c26
              clear c26
              by_cases c27:(rd x7_2 x8_2) < (l0_1.length:Int)
              ·rw [if_pos c27] at H
               have c27b0:decide ((rd x7_2 x8_2) < (l0_1.length:Int)) = true:=zO c27
               clear c27
               obtain ⟨y188,hy188⟩:∃ y_:List Int,y_ = (([rd l0_0 (rd x7_2 x8_2),rd l0_1 (rd x7_2 x8_2)]:List Int)):=⟨_,rfl⟩
               replace H:(impl_namesFrom.l2 k2 x5_2 x7_2 x8_2 y188 (y188.length:Int) 0 l0_0 l0_1) = some r:=by (try rw [hy188]);first|with_reducible exact H|with_reducible exact zS_ H|exact H
               have Ny188:=zA hy188
               clear hy188
               have H':=zA H
               clear H
               obtain ⟨Ao28,co28,eo28⟩:=zg HO_7.out
               subst eo28
               try go_wp2
               have n0_:=zA (Kd.R_drew HO_5.out)
               have n1_:=zA (Kd.R_drew HO_7.out)
               have n2_:=zA (zI BK175.out)
               have n3_:=zA (zC HB.out)
               clear HO_5 HO_7 BK175 HB
               have HO_5:=n0_
               have HO_7:=n1_
               have BK175:=n2_
               have HB:=n3_
               clear n0_ n1_ n2_ n3_
               have p184:0≤(x8_2:Int):=zE (by with_reducible assumption)
               have q184:x8_2 < (x7_2.length:Int):=zE (by with_reducible assumption)
               obtain ⟨ad184,e184,hx184_0⟩:=Kd.at_int (zU HO_7.out).2.2 x8_2 p184 q184
               cases e184
               replace p184:=eq_true p184
               replace q184:=eq_true q184
               have p185:0≤((rd x7_2 x8_2):Int):=zE (by with_reducible assumption)
               have q185:(rd x7_2 x8_2) < (l0_0.length:Int):=zE (by with_reducible assumption)
               obtain ⟨ad185,e185,hx185_0⟩:=Kd.at_int HR0_0.out (rd x7_2 x8_2) p185 q185
               have hw185_0:=hx185_0
               cases e185
               replace hx185_0:=(HB.out.cell (zY w _ hx185_0)).trans hx185_0
               replace p185:=eq_true p185
               replace q185:=eq_true q185
               have p186:0≤(x8_2:Int):=zE (by with_reducible assumption)
               have q186:x8_2 < (x7_2.length:Int):=zE (by with_reducible assumption)
               obtain ⟨ad186,e186,hx186_0⟩:=Kd.at_int (zU HO_7.out).2.2 x8_2 p186 q186
               obtain rfl:ad184 = ad186:=(by injection e186)
               replace p186:=eq_true p186
               replace q186:=eq_true q186
               have p187:0≤((rd x7_2 x8_2):Int):=zE (by with_reducible assumption)
               have q187:(rd x7_2 x8_2) < (l0_1.length:Int):=zE (by with_reducible assumption)
               obtain ⟨ad187,e187,hx187_0⟩:=Kd.at_int HR0_1.out (rd x7_2 x8_2) p187 q187
               have hw187_0:=hx187_0
               cases e187
               replace hx187_0:=(HB.out.cell (zY w _ hx187_0)).trans hx187_0
               replace p187:=eq_true p187
               replace q187:=eq_true q187
               refine start_ (n:=19) (S:=fun w'=>w'.cell? ⟨gb175,0,none⟩ = some (.slice (some ad185) l0_0.length c0_0)∧w'.cell? ⟨gb175,1,none⟩ = some (.slice (some ad187) l0_1.length c0_1)∧w'.cell? (ad184.add (x8_2).toNat) = some (.int .i64 (rd x7_2 x8_2))∧w'.cell? (ad185.add ((rd x7_2 x8_2)).toNat) = some (.int .i64 (rd l0_0 (rd x7_2 x8_2)))∧w'.cell? (ad184.add (x8_2).toNat) = some (.int .i64 (rd x7_2 x8_2))∧w'.cell? (ad187.add ((rd x7_2 x8_2)).toNat) = some (.int .i64 (rd l0_1 (rd x7_2 x8_2)))) (ds:=[]) #[zf,zf,zf,zf,zf,zf,zf,zf,zf,zf,zf,zf,zf,zf,zf,zf,zf,zf,zf] (by kernel_rfl) rfl rfl ⟨(zT BK175.out 0).trans rfl,(zT BK175.out 1).trans rfl,hx184_0,((HB.out.cell (zY w _ hw185_0)).trans hw185_0),hx186_0,((HB.out.cell (zY w _ hw187_0)).trans hw187_0)⟩ (fun hHeld=>?_);refine with_tabW impl_namesFrom.tab12 impl_namesFrom.bits12 (fun HT_ HW_=>?_)
               generalize wr.drew = w29 at HO_5 HO_7 BK175 HB hx184_0 hx185_0 hx186_0 hx187_0 hHeld ⊢
               refine pure_ (i:=0) (N:=some 35) (v:=?_) (a':=?_) #[zt,zf,zf,zf,zf,zf,zf,zf,zf,zf,zf,zf,zf,zf,zf,zf,zf,zf,zf] rfl rfl (any_of HT_.out (by kernel_rfl)) (fun _ _ _ h=>h) (Or.inl ⟨by rfl,?_⟩) ?_ ?_
               rotate_left
               ·intro w'
                go_simp
                with_reducible rfl
               rotate_left
               ·simp only [Act.put,zP_,i64_w]
                rfl
               refine pure_ (i:=2) (N:=some 37) (v:=?_) (a':=?_) #[zt,zf,zt,zf,zf,zf,zf,zf,zf,zf,zf,zf,zf,zf,zf,zf,zf,zf,zf] rfl rfl (any_of HT_.out (by kernel_rfl)) (fun _ _ _ h=>h) (Or.inl ⟨by rfl,?_⟩) ?_ ?_
               rotate_left
               ·intro w'
                go_simp
                with_reducible rfl
               rotate_left
               ·simp only [Act.put,zP_,i64_w]
                rfl
               refine pure_ (i:=3) (N:=some 38) (v:=?_) (a':=?_) #[zt,zf,zt,zt,zf,zf,zf,zf,zf,zf,zf,zf,zf,zf,zf,zf,zf,zf,zf] rfl rfl (any_of HT_.out (by kernel_rfl)) (fun _ _ _ h=>h) (Or.inl ⟨by rfl,?_⟩) ?_ ?_
               rotate_left
               ·intro w'
                go_simp
                with_reducible rfl
               rotate_left
               ·simp only [Act.put,zP_,i64_w]
                rfl
               refine pure_ (i:=4) (N:=some 39) (v:=?_) (a':=?_) #[zt,zf,zt,zt,zt,zf,zf,zf,zf,zf,zf,zf,zf,zf,zf,zf,zf,zf,zf] rfl rfl (any_of HT_.out (by kernel_rfl)) (fun _ _ _ h=>h) (Or.inl ⟨by rfl,?_⟩) ?_ ?_
               rotate_left
               ·intro w'
                go_simp
                with_reducible rfl
               rotate_left
               ·simp only [Act.put,zP_,i64_w]
                rfl
               refine pure_ (i:=8) (N:=some 43) (v:=?_) (a':=?_) #[zt,zf,zt,zt,zt,zf,zf,zf,zt,zf,zf,zf,zf,zf,zf,zf,zf,zf,zf] rfl rfl (any_of HT_.out (by kernel_rfl)) (fun _ _ _ h=>h) (Or.inl ⟨by rfl,?_⟩) ?_ ?_
               rotate_left
               ·intro w'
                go_simp
                with_reducible rfl
               rotate_left
               ·simp only [Act.put,zP_,i64_w]
                rfl
               refine pure_ (i:=10) (N:=some 45) (v:=?_) (a':=?_) #[zt,zf,zt,zt,zt,zf,zf,zf,zt,zf,zt,zf,zf,zf,zf,zf,zf,zf,zf] rfl rfl (any_of HT_.out (by kernel_rfl)) (fun _ _ _ h=>h) (Or.inl ⟨by rfl,?_⟩) ?_ ?_
               rotate_left
               ·intro w'
                go_simp
                with_reducible rfl
               rotate_left
               ·simp only [Act.put,zP_,i64_w]
                rfl
               refine pure_ (i:=11) (N:=some 46) (v:=?_) (a':=?_) #[zt,zf,zt,zt,zt,zf,zf,zf,zt,zf,zt,zt,zf,zf,zf,zf,zf,zf,zf] rfl rfl (any_of HT_.out (by kernel_rfl)) (fun _ _ _ h=>h) (Or.inl ⟨by rfl,?_⟩) ?_ ?_
               rotate_left
               ·intro w'
                go_simp
                with_reducible rfl
               rotate_left
               ·simp only [Act.put,zP_,i64_w]
                rfl
               refine pure_ (i:=12) (N:=some 47) (v:=?_) (a':=?_) #[zt,zf,zt,zt,zt,zf,zf,zf,zt,zf,zt,zt,zt,zf,zf,zf,zf,zf,zf] rfl rfl (any_of HT_.out (by kernel_rfl)) (fun _ _ _ h=>h) (Or.inl ⟨by rfl,?_⟩) ?_ ?_
               rotate_left
               ·intro w'
                go_simp
                with_reducible rfl
               rotate_left
               ·simp only [Act.put,zP_,i64_w]
                rfl
               refine pure_ (i:=18) (N:=some 53) (v:=?_) (a':=?_) #[zt,zf,zt,zt,zt,zf,zf,zf,zt,zf,zt,zt,zt,zf,zf,zf,zf,zf,zt] rfl rfl (any_of HT_.out (by kernel_rfl)) (fun _ _ _ h=>h) (Or.inl ⟨by rfl,?_⟩) ?_ ?_
               rotate_left
               ·intro w'
                go_simp
                with_reducible rfl
               rotate_left
               ·simp only [Act.put,zP_,i64_w]
                rfl
               refine take_ (i:=1) (N:=some 36) (v:=?_) (a':=?_) #[zt,zt,zt,zt,zt,zf,zf,zf,zt,zf,zt,zt,zt,zf,zf,zf,zf,zf,zt] rfl rfl (take_ofW HT_.out HW_.out (by kernel_rfl)) (fun _ _ _ h=>h) (Or.inl ⟨by rfl,?_⟩) hHeld ?_ ?_
               rotate_left
               ·rintro w' ⟨s0,s1,s2,s3,s4,s5⟩
                go_simp
                with_reducible rfl
               rotate_left
               ·simp only [Act.put,zP_,i64_w]
                rfl
               refine take_ (i:=5) (N:=some 40) (v:=?_) (a':=?_) #[zt,zt,zt,zt,zt,zt,zf,zf,zt,zf,zt,zt,zt,zf,zf,zf,zf,zf,zt] rfl rfl (take_ofW HT_.out HW_.out (by kernel_rfl)) (fun _ _ _ h=>h) (Or.inl ⟨by rfl,?_⟩) hHeld ?_ ?_
               rotate_left
               ·rintro w' ⟨s0,s1,s2,s3,s4,s5⟩
                go_simp
                with_reducible rfl
               rotate_left
               ·simp only [Act.put,zP_,i64_w]
                rfl
               refine pure_ (i:=6) (N:=some 41) (v:=?_) (a':=?_) #[zt,zt,zt,zt,zt,zt,zt,zf,zt,zf,zt,zt,zt,zf,zf,zf,zf,zf,zt] rfl rfl (any_of HT_.out (by kernel_rfl)) (fun _ _ _ h=>h) (Or.inl ⟨by rfl,?_⟩) ?_ ?_
               rotate_left
               ·intro w'
                go_simp
                with_reducible rfl
               rotate_left
               ·simp only [Act.put,zP_,i64_w]
                rfl
               refine take_ (i:=7) (N:=some 42) (v:=?_) (a':=?_) #[zt,zt,zt,zt,zt,zt,zt,zt,zt,zf,zt,zt,zt,zf,zf,zf,zf,zf,zt] rfl rfl (take_ofW HT_.out HW_.out (by kernel_rfl)) (fun _ _ _ h=>h) (Or.inl ⟨by rfl,?_⟩) hHeld ?_ ?_
               rotate_left
               ·rintro w' ⟨s0,s1,s2,s3,s4,s5⟩
                go_simp
                with_reducible rfl
               rotate_left
               ·simp only [Act.put,zP_,i64_w]
                rfl
               refine take_ (i:=9) (N:=some 44) (v:=?_) (a':=?_) #[zt,zt,zt,zt,zt,zt,zt,zt,zt,zt,zt,zt,zt,zf,zf,zf,zf,zf,zt] rfl rfl (take_ofW HT_.out HW_.out (by kernel_rfl)) (fun _ _ _ h=>h) (Or.inl ⟨by rfl,?_⟩) hHeld ?_ ?_
               rotate_left
               ·rintro w' ⟨s0,s1,s2,s3,s4,s5⟩
                go_simp
                with_reducible rfl
               rotate_left
               ·simp only [Act.put,zP_,i64_w]
                rfl
               refine take_ (i:=13) (N:=some 48) (v:=?_) (a':=?_) #[zt,zt,zt,zt,zt,zt,zt,zt,zt,zt,zt,zt,zt,zt,zf,zf,zf,zf,zt] rfl rfl (take_ofW HT_.out HW_.out (by kernel_rfl)) (fun _ _ _ h=>h) (Or.inl ⟨by rfl,?_⟩) hHeld ?_ ?_
               rotate_left
               ·rintro w' ⟨s0,s1,s2,s3,s4,s5⟩
                go_simp
                with_reducible rfl
               rotate_left
               ·simp only [Act.put,zP_,i64_w]
                rfl
               refine pure_ (i:=14) (N:=some 49) (v:=?_) (a':=?_) #[zt,zt,zt,zt,zt,zt,zt,zt,zt,zt,zt,zt,zt,zt,zt,zf,zf,zf,zt] rfl rfl (any_of HT_.out (by kernel_rfl)) (fun _ _ _ h=>h) (Or.inl ⟨by rfl,?_⟩) ?_ ?_
               rotate_left
               ·intro w'
                go_simp
                with_reducible rfl
               rotate_left
               ·simp only [Act.put,zP_,i64_w]
                rfl
               refine take_ (i:=15) (N:=some 50) (v:=?_) (a':=?_) #[zt,zt,zt,zt,zt,zt,zt,zt,zt,zt,zt,zt,zt,zt,zt,zt,zf,zf,zt] rfl rfl (take_ofW HT_.out HW_.out (by kernel_rfl)) (fun _ _ _ h=>h) (Or.inl ⟨by rfl,?_⟩) hHeld ?_ ?_
               rotate_left
               ·rintro w' ⟨s0,s1,s2,s3,s4,s5⟩
                go_simp
                with_reducible rfl
               rotate_left
               ·simp only [Act.put,zP_,i64_w]
                rfl
               refine one_ (i:=16) (N:=some 51) #[zt,zt,zt,zt,zt,zt,zt,zt,zt,zt,zt,zt,zt,zt,zt,zt,zt,zf,zt] rfl rfl (one_of HT_.out (by kernel_rfl)) (by decide) (fun K hK=>?_)
               refine Kd.R_lit_step (Kd.int .i64) _ 3 ?hg (N:=51) ?hd (xs:=([rd l0_0 (rd x7_2 x8_2),rd l0_1 (rd x7_2 x8_2)]:List Int)) (inner:=[.int .i64 (rd l0_0 (rd x7_2 x8_2)),.int .i64 (rd l0_1 (rd x7_2 x8_2))]) (ok:=fun _=>True) (okp:=fun _=>True) ?hr ?hp (fun _ hk=>hk) trivial (Below.refl _ _) (Nat.le_refl _) (by simp) ?_;(case hd=>rfl);(case hg=>rfl);(case hr=>first|(go_simp;done)|(go_simp;rfl));(case hp=>exact (Reps.one (show Kd.M (Kd.int .i64) _ _ _ (rd l0_0 (rd x7_2 x8_2)) [.int .i64 (rd l0_0 (rd x7_2 x8_2))] from rfl) (Reps.one (show Kd.M (Kd.int .i64) _ _ _ (rd l0_1 (rd x7_2 x8_2)) [.int .i64 (rd l0_1 (rd x7_2 x8_2))] from rfl) (Reps.none _ _))))
               intro v189 w30 ho31 hb hg_ hnew_
               have HS2_:=(hb.cell (zY _ _ (hHeld.2.2.1))).trans (hHeld.2.2.1)
               have HS4_:=(hb.cell (zY _ _ (hHeld.2.2.2.2.1))).trans (hHeld.2.2.2.2.1)
               clear hg_ hnew_
               (first|rw [← Ny188.out] at ho31|(simp only [Int.reduceToNat] at ho31;rw [← Ny188.out] at ho31))
               have n0_:=zA (Kd.R_elder' (by apply zR_;exact HO_5.out) (zd ho31) hb)
               have n1_:=zA (Kd.R_elder' (by apply zR_;exact HO_7.out) (zd ho31) hb)
               have n2_:=zA (ze (Kd.R_new' (Kd.R_new' ho31 (Kd.R_lt (by apply zR_;exact HO_5.out))) (Kd.R_lt (by apply zR_;exact HO_7.out))) (zQ (by repeat (first|(with_reducible first|exact HB.out|apply zD|apply zB|apply zC|refine zF ?_ GE175.out)|exact HB.out))))
               have n3_:=zA (zX (g:=gb175) (o:=.cells #[.slice (some ad185) l0_0.length c0_0,.slice (some ad187) l0_1.length c0_1] 33 (0,0)) (by (with_reducible repeat (first|refine zG ?_ _|refine zI ?_|refine zH ?_ _));exact BK175.out) hb)
               have n4_:=zA (zR (by repeat (first|(with_reducible first|exact HB.out|apply zD|apply zB|apply zC|refine zF ?_ GE175.out)|exact HB.out)) hb)
               clear HO_5 HO_7 BK175 HB
               have HO_5:=n0_
               have HO_7:=n1_
               have HO190:=n2_
               have BK175:=n3_
               have HB:=n4_
               clear n0_ n1_ n2_ n3_ n4_ hb ho31
               obtain ⟨Ao32,co32,eo32⟩:=zg HO190.out
               (first|subst eo32|(injection eo32 with f1_ f2_ f3_;have f4_:=f1_.symm;have f5_:=f3_.symm;clear f1_ f2_ f3_;subst f4_;subst f5_))
               refine hK.out _ _ ⟨(zT BK175.out 0).trans rfl,(zT BK175.out 1).trans rfl,HS2_,((HB.out.cell (zY w _ hw185_0)).trans hw185_0),HS4_,((HB.out.cell (zY w _ hw187_0)).trans hw187_0)⟩ (fun hHeld=>?_)
               clear hK K
               refine norm_ (a':=?_) ?_ ?_
               rotate_left
               ·show Act.put _ (some 51) _ = _
                simp only [Act.put,zP_,i64_w]
                rfl
               refine pure_ (i:=17) (N:=some 52) (v:=?_) (a':=?_) #[zt,zt,zt,zt,zt,zt,zt,zt,zt,zt,zt,zt,zt,zt,zt,zt,zt,zt,zt] rfl rfl (any_of HT_.out (by kernel_rfl)) (fun _ _ _ h=>h) (Or.inl ⟨by rfl,?_⟩) ?_ ?_
               rotate_left
               ·intro w'
                go_simp
                with_reducible rfl
               rotate_left
               ·simp only [Act.put,zP_,i64_w]
                rfl
               refine done_ (done_of HT_.out (by kernel_rfl)) ?_
               try go_wp2
               go_loopg [7,53] k2 (fun kq v7 v53 w' => ∃ (x5_3:List Int) (x7_3:List Int) (x53_3:Int),v53 = .int .i64 x53_3∧Aside0 (impl_namesFrom.l2 kq x5_3 x7_3 x8_2 y188 (y188.length:Int) x53_3 l0_0 l0_1 = some r)∧Aside0 (kq≤k2)∧Aside0 (Kd.R (Kd.int .i64) 3 w' w.heap.size (fun k_=>some k_≠(v7:Value).ownBlock∧some k_≠((.slice Ao32 y188.length co32):Value).ownBlock) (.slice (some ⟨go18,0,none⟩) x5_2.length co9) x5_3)∧Aside0 (Kd.R (Kd.int .i64) 3 w' w.heap.size (fun k_=>some k_≠((.slice (some ⟨go18,0,none⟩) x5_2.length co9):Value).ownBlock∧some k_≠((.slice Ao32 y188.length co32):Value).ownBlock) v7 x7_3)∧Aside0 (Kd.R (Kd.int .i64) 3 w' w.heap.size (fun k_=>some k_≠((.slice (some ⟨go18,0,none⟩) x5_2.length co9):Value).ownBlock∧some k_≠(v7:Value).ownBlock) (.slice Ao32 y188.length co32) y188)∧Aside0 (w'.heap[gb175]? = some (.cells #[(.slice (some ad185) l0_0.length c0_0),(.slice (some ad187) l0_1.length c0_1)] 33 (0,0)))∧Aside0 (Below w.heap.size w w'))
               case atStart=>exact ⟨(x5_2),(x7_2),(0),(by first|rfl|(simp;done)|(simp [*];done)),H',⟨Nat.le_refl _⟩,⟨by (try simp only [hl5_1]);(try simp only [hl5_2]);apply zR_;exact HO_5.out⟩,⟨by (try simp only [hl5_1]);(try simp only [hl5_2]);apply zR_;exact HO_7.out⟩,⟨by (try simp only [hl5_1]);(try simp only [hl5_2]);apply zR_;exact zV HO190.out (fun _ hk=>⟨hk.1.2,hk.2⟩)⟩,⟨by (try simp only [hl5_1]);(try simp only [hl5_2]);(with_reducible repeat (first|refine zG ?_ _|refine zI ?_|refine zH ?_ _));exact BK175.out⟩,⟨by repeat (first|(with_reducible first|exact HB.out|apply zD|apply zB|apply zC|refine zF ?_ GE175.out)|exact HB.out)⟩⟩
               case round =>
                clear H'
                (try clear c1);(try clear p1);(try clear q1);(try clear hx1);(try clear c2);(try clear p2);(try clear c3);(try clear c3b0);(try clear c3b1);(try clear c4);(try clear c4b0);(try clear c4b1);(try clear p6);(try clear c10);(try clear c10b0);(try clear c11);(try clear c11b0);(try clear c12);(try clear c12b0);(try clear p13);(try clear q13);(try clear hx13);(try clear hf13);(try clear c16);(try clear c16b0);(try clear c17);(try clear c17b0);(try clear p18);(try clear q18);(try clear hx18);(try clear hf18);(try clear c23);(try clear c23b0);(try clear c24);(try clear c24b0);(try clear c25);(try clear c25b0);(try clear c26);(try clear c26b0);(try clear c27);(try clear c27b0);(try clear hcz6_0);(try clear hcz6_1);(try clear hfz6_0);(try clear hfz6_1);(try clear hx13_0);(try clear hx184_0);(try clear hx185_0);(try clear hx186_0);(try clear hx187_0);(try clear hx18_0);(try clear p1);(try clear p13);(try clear p18);(try clear p184);(try clear p185);(try clear p186);(try clear p187);(try clear p2);(try clear p6);(try clear q1);(try clear q13);(try clear q18);(try clear q184);(try clear q185);(try clear q186);(try clear q187)
                obtain ⟨x5_3,x7_3,x53_3,rfl,HA,HK3,HO_5,HO_7,HO_51,BK175,HB⟩:=hrel
                have hl5_3:=(zU HO_5.out).1
                rw [hl5_3] at HO_5
                (try simp only [hl5_3])
                (try simp only [hl5_3] at BK175)
                (try simp only [hl5_3] at HO_7)
                (try simp only [hl5_3] at HO_51)
                cases gk with
                | zero=>exact absurd HA.out (by simp [impl_namesFrom.l2])
                | succ k3 =>
                 have H:=HA.out
                 clear HA
                 simp only [impl_namesFrom.l2] at H
                 by_cases c33:x53_3 < (y188.length:Int)
                 ·rw [if_pos c33] at H
                  have c33b0:decide (x53_3 < (y188.length:Int)) = true:=zO c33
                  clear c33
                  by_cases c34:0≤x53_3
                  ·rw [if_pos c34] at H
                   have c34b0:decide (0≤x53_3) = true:=zO c34
                   clear c34
                   by_cases c35:x53_3 < (y188.length:Int)
                   ·rw [if_pos c35] at H
                    have c35b0:decide (x53_3 < (y188.length:Int)) = true:=zO c35
                    clear c35
                    by_cases c36:0≤(rd y188 x53_3)
                    ·rw [if_pos c36] at H
                     have c36b0:decide (0≤(rd y188 x53_3)) = true:=zO c36
                     clear c36
                     by_cases c37:(rd y188 x53_3) < (x5_3.length:Int)
                     ·rw [if_pos c37] at H
                      have c37b0:decide ((rd y188 x53_3) < (x5_3.length:Int)) = true:=zO c37
                      clear c37
                      by_cases c38:(rd x5_3 (rd y188 x53_3)) < 0
                      ·rw [if_pos c38] at H
                       have c38b0:decide ((rd x5_3 (rd y188 x53_3)) < 0) = true:=zO c38
                       clear c38
                       obtain ⟨y193,hy193⟩:∃ y_:List Int,y_ = (x5_3.set ((rd y188 x53_3):Int).toNat (x7_3.length:Int)):=⟨_,rfl⟩
                       replace H:(if x7_3.length < 17592186044416 then (impl_namesFrom.l2 k3 y193 (x7_3 ++ [rd y188 x53_3]) x8_2 y188 (y188.length:Int) (wrap64 (x53_3+1)) l0_0 l0_1) else (none)) = some r:=by (try rw [hy193]);first|with_reducible exact H|with_reducible exact zS_ H|exact H
                       have Ny193:=zA hy193
                       clear hy193
                       by_cases c40:x7_3.length < 17592186044416
                       ·rw [if_pos c40] at H
                        have LMc40:=zA c40
                        clear c40
                        obtain ⟨y194,hy194⟩:∃ y_:List Int,y_ = (x7_3 ++ [rd y188 x53_3]):=⟨_,rfl⟩
                        replace H:(impl_namesFrom.l2 k3 y193 y194 x8_2 y188 (y188.length:Int) (wrap64 (x53_3+1)) l0_0 l0_1) = some r:=by (try rw [hy194]);first|with_reducible exact H|with_reducible exact zS_ H|exact H
                        have Ny194:=zA hy194
                        clear hy194
                        have H':=zA H
                        clear H
                        have p191:0≤(x53_3:Int):=zE (by with_reducible assumption)
                        have q191:x53_3 < (y188.length:Int):=zE (by with_reducible assumption)
                        obtain ⟨ad191,e191,hx191_0⟩:=Kd.at_int (zU HO_51.out).2.2 x53_3 p191 q191
                        cases e191
                        replace p191:=eq_true p191
                        replace q191:=eq_true q191
                        have p192:0≤((rd y188 x53_3):Int):=zE (by with_reducible assumption)
                        have q192:(rd y188 x53_3) < (x5_3.length:Int):=zE (by with_reducible assumption)
                        obtain ⟨ad192,e192,hx192_0⟩:=Kd.at_int (zU HO_5.out).2.2 (rd y188 x53_3) p192 q192
                        obtain rfl:(⟨go18,0,none⟩:Addr) = ad192:=(by injection e192)
                        (first|simp only [add_plain] at hx192_0|simp only [add_at] at hx192_0|simp only [Addr.add,Nat.zero_add] at hx192_0|skip)
                        replace p192:=eq_true p192
                        replace q192:=eq_true q192
                        obtain ⟨Ao41,co41,eo41⟩:=zg HO_7.out
                        subst eo41
                        have p39:0≤((rd y188 x53_3):Int):=zE (by with_reducible assumption)
                        have q39:((rd y188 x53_3):Int) < ((x5_3.length:Int):Int):=zE (by with_reducible assumption)
                        obtain ⟨hx39_0,hf39_0⟩:=Kd.R_celln 0 HO_5.out ((rd y188 x53_3):Int) p39 q39
                        replace p39:=eq_true p39
                        replace q39:=eq_true q39
                        have HP42:=Kd.R_putg HO_5.out ((rd y188 x53_3):Int) (x7_3.length:Int)
                        go_wp2_with (first|((with_reducible refine gate_store (t:=3) (p:=66) rfl ?_);refine store_event (t:=3) (p:=66) (v:=?vo_w43) (w1:=(wr.setCell ⟨go18,((rd y188 x53_3):Int).toNat,none⟩ (.int .i64 (x7_3.length:Int)))) ?hg ?ho ?hn ?hr ?_;(case ho=>rfl);(case hg=>rfl);(case hn=>rfl);(case hr=>first|(go_simp;done)|(go_simp;rfl));intro w43 hw;have hg:wr.grownBy w43 (some go18):=(by rw [hw];exact HP42.2);have hp_:Kd.R (Kd.int .i64) 3 w43 w.heap.size (fun k_=>some k_≠(.slice Ao41 x7_3.length co41:Value).ownBlock∧some k_≠(.slice (some ad191) y188.length co32:Value).ownBlock) (.slice (some ⟨go18,0,none⟩) x5_3.length co9) y193:=(by rw [hw,Ny193.out];exact HP42.1);clear HP42;have n0_:=zA (hp_);have n1_:=zA (Kd.R_after (v:=(.slice (some ⟨go18,0,none⟩) x5_3.length co9)) (v1:=(.slice (some ⟨go18,0,none⟩) x5_3.length co9)) (ok:=(fun k_=>some k_≠(.slice (some ad191) y188.length co32:Value).ownBlock)) (by apply zR_;exact zV HO_7.out (fun _ hk=>⟨hk.2,hk.1⟩)) hg (.inl rfl));have n2_:=zA (Kd.R_after (v:=(.slice (some ⟨go18,0,none⟩) x5_3.length co9)) (v1:=(.slice (some ⟨go18,0,none⟩) x5_3.length co9)) (ok:=(fun k_=>some k_≠(.slice Ao41 x7_3.length co41:Value).ownBlock)) (by apply zR_;exact zV HO_51.out (fun _ hk=>⟨hk.2,hk.1⟩)) hg (.inl rfl));have n3_:=zA (blk_grown (g:=gb175) (o:=.cells #[.slice (some ad185) l0_0.length c0_0,.slice (some ad187) l0_1.length c0_1] 33 (0,0)) (by (with_reducible repeat (first|refine zG ?_ _|refine zI ?_|refine zH ?_ _));exact BK175.out) hg (Kd.R_ne HO_5.out BK175.out (by decide)));have n4_:=zA ((by rw [hw];exact zF (HB.out) GB18.out:Below w.heap.size w w43));clear HO_5;clear HO_7;clear HO_51;clear BK175;clear HB;have HO_5:=n0_;have HO_7:=n1_;have HO_51:=n2_;have BK175:=n3_;have HB:=n4_;clear n0_ n1_ n2_ n3_ n4_;clear hg hw hp_)|((with_reducible refine gate_builtin (b:=.append) (xs:=#[.tmp 67,.tmp 69]) rfl ?_);at_builtin;refine Kd.R_append (Kd.int .i64) (w0:=w) w.heap.size rfl (.tmp 67) (.tmp 69) 31 3 (.int .i64 0) 8 rfl Try.underlying31 info3 rfl (by decide) (by omega) (.slice Ao41 x7_3.length co41) x7_3 (rd y188 x53_3) [.int .i64 (rd y188 x53_3)] (fun k_=>some k_≠(.slice (some ⟨go18,0,none⟩) x5_3.length co9:Value).ownBlock∧some k_≠(.slice (some ad191) y188.length co32:Value).ownBlock) (fun _=>False) rfl rfl ?aP (fun _ hk=>hk.elim) ?aF ?aO ?aB ?aS ?aL ?_;(case aP=>exact rfl);(case aB=>exact (by repeat (first|(with_reducible first|exact HB.out|apply zD|apply zB|apply zC|refine zF ?_ GE175.out)|exact HB.out)));(case aF=>exact (fun k_ hk=>⟨Kd.fresh' (Kd.R_lt (by apply zR_;exact HO_5.out)) k_ hk,Kd.fresh' (Kd.R_lt (by apply zR_;exact HO_51.out)) k_ hk⟩));(case aO=>exact (by apply zR_;exact zV HO_7.out (fun _ hk=>⟨hk.2,hk.1⟩)));(case aS=>exact (zQ (by repeat (first|(with_reducible first|exact HB.out|apply zD|apply zB|apply zC|refine zF ?_ GE175.out)|exact HB.out))));(case aL=>have:=LMc40.out;omega);intro v195 w44 ho hb hg hat;rw [← Ny194.out] at ho;have n0_:=zA (Kd.R_after (ok:=(fun k_=>some k_≠(.slice (some ad191) y188.length co32:Value).ownBlock)) (by apply zR_;exact zV HO_5.out (fun _ hk=>⟨hk.2,hk.1⟩)) hg hat);have n1_:=zA (Kd.R_after (ok:=(fun k_=>some k_≠(.slice (some ⟨go18,0,none⟩) x5_3.length co9:Value).ownBlock)) (by apply zR_;exact zV HO_51.out (fun _ hk=>⟨hk.2,hk.1⟩)) hg hat);have n2_:=zA (blk_grown (g:=gb175) (o:=.cells #[.slice (some ad185) l0_0.length c0_0,.slice (some ad187) l0_1.length c0_1] 33 (0,0)) (by (with_reducible repeat (first|refine zG ?_ _|refine zI ?_|refine zH ?_ _));exact BK175.out) hg (Kd.R_ne HO_7.out BK175.out (by decide)));have n3_:=zA (hb);have n4_:=zA (ho);clear HO_5;clear HO_51;clear BK175;clear HB;clear HO_7;have HO_5:=n0_;have HO_51:=n1_;have BK175:=n2_;have HB:=n3_;have HO196:=n4_;clear n0_ n1_ n2_ n3_ n4_;clear ho hb hg hat))
                        (try simp only [← hl5_3])
                        go_roundg k3
                        case measure=>have:=HK1.out;have:=HK2.out;have:=HK3.out;omega
                        case rel=>exact ⟨(y193),(y194),(wrap64 (x53_3+1)),(by first|rfl|(simp;done)|(simp [*];done)),H',⟨by have:=HK1.out;have:=HK2.out;have:=HK3.out;omega⟩,⟨by (try simp only [hl5_1]);(try simp only [hl5_2]);(try simp only [hl5_3]);apply zR_;exact zV HO_5.out (fun _ hk=>⟨hk.2,hk.1⟩)⟩,⟨by (try simp only [hl5_1]);(try simp only [hl5_2]);(try simp only [hl5_3]);apply zR_;exact HO196.out⟩,⟨by (try simp only [hl5_1]);(try simp only [hl5_2]);(try simp only [hl5_3]);apply zR_;exact HO_51.out⟩,⟨by (try simp only [hl5_1]);(try simp only [hl5_2]);(try simp only [hl5_3]);(with_reducible repeat (first|refine zG ?_ _|refine zI ?_|refine zH ?_ _));exact BK175.out⟩,⟨by repeat (first|(with_reducible first|exact HB.out|apply zD|apply zB|apply zC|refine zF ?_ GE175.out)|exact HB.out)⟩⟩
                       ·rw [if_neg c40] at H
                        exact absurd H (by simp)
                      ·rw [if_neg c38] at H
                       have c38b0:decide ((rd x5_3 (rd y188 x53_3)) < 0) = false:=zP c38
                       clear c38
                       have H':=zA H
                       clear H
                       have p191:0≤(x53_3:Int):=zE (by with_reducible assumption)
                       have q191:x53_3 < (y188.length:Int):=zE (by with_reducible assumption)
                       obtain ⟨ad191,e191,hx191_0⟩:=Kd.at_int (zU HO_51.out).2.2 x53_3 p191 q191
                       cases e191
                       replace p191:=eq_true p191
                       replace q191:=eq_true q191
                       have p192:0≤((rd y188 x53_3):Int):=zE (by with_reducible assumption)
                       have q192:(rd y188 x53_3) < (x5_3.length:Int):=zE (by with_reducible assumption)
                       obtain ⟨ad192,e192,hx192_0⟩:=Kd.at_int (zU HO_5.out).2.2 (rd y188 x53_3) p192 q192
                       obtain rfl:(⟨go18,0,none⟩:Addr) = ad192:=(by injection e192)
                       (first|simp only [add_plain] at hx192_0|simp only [add_at] at hx192_0|simp only [Addr.add,Nat.zero_add] at hx192_0|skip)
                       replace p192:=eq_true p192
                       replace q192:=eq_true q192
                       go_wp2
                       (try simp only [← hl5_3])
                       go_roundg k3
                       case measure=>have:=HK1.out;have:=HK2.out;have:=HK3.out;omega
                       case rel=>exact ⟨(x5_3),(x7_3),(wrap64 (x53_3+1)),(by first|rfl|(simp;done)|(simp [*];done)),H',⟨by have:=HK1.out;have:=HK2.out;have:=HK3.out;omega⟩,⟨by (try simp only [hl5_1]);(try simp only [hl5_2]);(try simp only [hl5_3]);apply zR_;exact HO_5.out⟩,⟨by (try simp only [hl5_1]);(try simp only [hl5_2]);(try simp only [hl5_3]);apply zR_;exact HO_7.out⟩,⟨by (try simp only [hl5_1]);(try simp only [hl5_2]);(try simp only [hl5_3]);apply zR_;exact HO_51.out⟩,⟨by (try simp only [hl5_1]);(try simp only [hl5_2]);(try simp only [hl5_3]);(with_reducible repeat (first|refine zG ?_ _|refine zI ?_|refine zH ?_ _));exact BK175.out⟩,⟨by repeat (first|(with_reducible first|exact HB.out|apply zD|apply zB|apply zC|refine zF ?_ GE175.out)|exact HB.out)⟩⟩
                     ·rw [if_neg c37] at H
                      exact absurd H (by simp)
                    ·rw [if_neg c36] at H
                     exact absurd H (by simp)
                   ·rw [if_neg c35] at H
                    exact absurd H (by simp)
                  ·rw [if_neg c34] at H
                   exact absurd H (by simp)
                 ·rw [if_neg c33] at H
                  have c33b0:decide (x53_3 < (y188.length:Int)) = false:=zP c33
                  try have c33b9:decide (x53_3 < (x5_1.length:Int)) = false:=by rw [← hl5_1];exact c33b0
                  clear c33
                  have H':=zA H
                  clear H
                  go_wp2
                  (try simp only [← hl5_2, ← hl5_3])
                  go_roundg k3
                  case measure=>have:=HK1.out;have:=HK2.out;have:=HK3.out;omega
                  case rel=>exact ⟨(x5_3),(x7_3),(wrap64 (x8_2+1)),(by first|rfl|(simp;done)|(simp [*];done)),H',⟨by have:=HK1.out;have:=HK2.out;have:=HK3.out;omega⟩,⟨by (try simp only [hl5_1]);(try simp only [hl5_2]);(try simp only [hl5_3]);apply zR_;exact zV HO_5.out (fun _ hk=>hk.1)⟩,⟨by (try simp only [hl5_1]);(try simp only [hl5_2]);(try simp only [hl5_3]);apply zR_;exact zV HO_7.out (fun _ hk=>hk.1)⟩,⟨by (try simp only [hl5_1]);(try simp only [hl5_2]);(try simp only [hl5_3]);(with_reducible repeat (first|refine zG ?_ _|refine zI ?_|refine zH ?_ _));exact BK175.out⟩,⟨by repeat (first|(with_reducible first|exact HB.out|apply zD|apply zB|apply zC|refine zF ?_ GE175.out)|exact HB.out)⟩⟩
              ·rw [if_neg c27] at H
               exact absurd H (by simp)
             ·rw [if_neg c26] at H
              exact absurd H (by simp)
            ·rw [if_neg c25] at H
             exact absurd H (by simp)
           ·rw [if_neg c24] at H
            exact absurd H (by simp)
          ·rw [if_neg c23] at H
           have c23b0:decide (x8_2 < (x7_2.length:Int)) = false:=zP c23
           clear c23
           obtain rfl:=zS H
           obtain ⟨Ao45,co45,eo45⟩:=zg HO_7.out
           subst eo45
           go_wp2
           go_ret
           exact ⟨_,by first|rfl|(simp [errW_none,errW_some] <;> rfl)|(simp [*,errW_none,errW_some] <;> rfl),by apply zR_;exact zV HO_5.out (fun _ hk=>trivial),by repeat (first|(with_reducible first|exact HB.out|apply zD|apply zB|apply zC|refine zF ?_ GE175.out)|exact HB.out)⟩
       ·rw [if_neg c17] at H
        exact absurd H (by simp)
      ·rw [if_neg c16] at H
       exact absurd H (by simp)
  ·rw [if_neg c4] at H
   exact absurd H (by simp)
 ·rw [if_neg c3] at H
  exact absurd H (by simp)

/-! ### cmp_isNaN_int: function 113 -/
def cmp_isNaN_int.f (a0:Int):Option (Bool):=some (a0 != a0)
set_option maxHeartbeats 8000000 in
set_option maxRecDepth 100000 in
theorem cmp_isNaN_int.calls (a0:Int) (r:Bool) (w:World) (h:cmp_isNaN_int.f a0 = some r) :
  Calls Try.prog 113 #[.int .i64 a0] w fun e w'=>e = .returned (.bool r)∧Drawn0 w w':=by
 have H:(some (a0 != a0)) = some r:=h
 clear h
 obtain rfl:=zS H
 go_enter Try.func113,Try.ntmps113
 go_wp2
 go_ret
 exact ⟨by first|rfl|(simp;done)|(simp [*];done),by repeat (first|exact Drawn0.refl _|apply Drawn0.step)⟩

/-! ### cmp_Compare_int: function 100 -/
def cmp_Compare_int.f (a0:Int) (a1:Int):Option (Int):=(cmp_isNaN_int.f a0).bind fun t197=>((cmp_isNaN_int.f a1).bind fun t198=>(if t197 = true then (if t198 = true then (some 0) else (some (-1))) else (if t198 = true then (some 1) else (if a0 < a1 then (some (-1)) else (if a0 > a1 then (some 1) else (some 0))))))
set_option maxHeartbeats 8000000 in
set_option maxRecDepth 100000 in
theorem cmp_Compare_int.calls (a0:Int) (a1:Int) (r:Int) (w:World) (h:cmp_Compare_int.f a0 a1 = some r) :
  Calls Try.prog 100 #[.int .i64 a0,.int .i64 a1] w fun e w'=>e = .returned (.int .i64 r)∧Drawn0 w w':=by
 have H:((cmp_isNaN_int.f a0).bind fun t197=>((cmp_isNaN_int.f a1).bind fun t198=>(if t197 = true then (if t198 = true then (some 0) else (some (-1))) else (if t198 = true then (some 1) else (if a0 < a1 then (some (-1)) else (if a0 > a1 then (some 1) else (some 0))))))) = some r:=h
 clear h
 replace H:=zz0 H
 obtain ⟨t197,A30,H⟩:=H
 try dsimp only at H
 have A3:=zA A30
 clear A30
 replace H:=zz0 H
 obtain ⟨t198,A40,H⟩:=H
 try dsimp only at H
 have A4:=zA A40
 clear A40
 by_cases c5:t197 = true
 ·subst c5
  rw [if_pos rfl] at H;try dsimp only at H
  by_cases c6:t198 = true
  ·subst c6
   rw [if_pos rfl] at H;try dsimp only at H
   obtain rfl:=zS H
   go_enter Try.func100,Try.ntmps100
   go_wp2_with (first|((with_reducible refine gate_callee (f:=113) rfl ?_);refine goesL_ (some 8) rfl rfl Try.func113 (by kernel_rfl) rfl #[.int .i64 a0] rfl (by (try simp only [zJ,zM,zN]);first|done|rfl|(simp only [zL,zK];rfl)) ?_;(with_reducible refine (cmp_isNaN_int.calls a0 true _ A3.out).mono ?_);rintro e w' ⟨rfl,⟨nd,rfl⟩⟩;refine ⟨_,rfl,?_⟩)|((with_reducible refine gate_callee (f:=113) rfl ?_);refine goesL_ (some 10) rfl rfl Try.func113 (by kernel_rfl) rfl #[.int .i64 a1] rfl (by (try simp only [zJ,zM,zN]);first|done|rfl|(simp only [zL,zK];rfl)) ?_;(with_reducible refine (cmp_isNaN_int.calls a1 true _ A4.out).mono ?_);rintro e w' ⟨rfl,⟨nd,rfl⟩⟩;refine ⟨_,rfl,?_⟩))
   go_ret
   exact ⟨by first|rfl|(simp;done)|(simp [*];done),by repeat (first|exact Drawn0.refl _|apply Drawn0.step)⟩
  ·replace c6:=Bool.eq_false_iff.mpr c6
   subst c6
   have H1:(some (-1)) = some r:=by rw [if_neg (show ¬ (false = true) by decide)] at H;exact H
   clear H
   have H:=H1
   clear H1
   obtain rfl:=zS H
   go_enter Try.func100,Try.ntmps100
   go_wp2_with (first|((with_reducible refine gate_callee (f:=113) rfl ?_);refine goesL_ (some 8) rfl rfl Try.func113 (by kernel_rfl) rfl #[.int .i64 a0] rfl (by (try simp only [zJ,zM,zN]);first|done|rfl|(simp only [zL,zK];rfl)) ?_;(with_reducible refine (cmp_isNaN_int.calls a0 true _ A3.out).mono ?_);rintro e w' ⟨rfl,⟨nd,rfl⟩⟩;refine ⟨_,rfl,?_⟩)|((with_reducible refine gate_callee (f:=113) rfl ?_);refine goesL_ (some 10) rfl rfl Try.func113 (by kernel_rfl) rfl #[.int .i64 a1] rfl (by (try simp only [zJ,zM,zN]);first|done|rfl|(simp only [zL,zK];rfl)) ?_;(with_reducible refine (cmp_isNaN_int.calls a1 false _ A4.out).mono ?_);rintro e w' ⟨rfl,⟨nd,rfl⟩⟩;refine ⟨_,rfl,?_⟩))
   go_ret
   exact ⟨by first|rfl|(simp;done)|(simp [*];done),by repeat (first|exact Drawn0.refl _|apply Drawn0.step)⟩
 ·replace c5:=Bool.eq_false_iff.mpr c5
  subst c5
  have H1:(if t198 = true then (some 1) else (if a0 < a1 then (some (-1)) else (if a0 > a1 then (some 1) else (some 0)))) = some r:=by rw [if_neg (show ¬ (false = true) by decide)] at H;exact H
  clear H
  have H:=H1
  clear H1
  by_cases c7:t198 = true
  ·subst c7
   rw [if_pos rfl] at H;try dsimp only at H
   obtain rfl:=zS H
   go_enter Try.func100,Try.ntmps100
   go_wp2_with (first|((with_reducible refine gate_callee (f:=113) rfl ?_);refine goesL_ (some 8) rfl rfl Try.func113 (by kernel_rfl) rfl #[.int .i64 a0] rfl (by (try simp only [zJ,zM,zN]);first|done|rfl|(simp only [zL,zK];rfl)) ?_;(with_reducible refine (cmp_isNaN_int.calls a0 false _ A3.out).mono ?_);rintro e w' ⟨rfl,⟨nd,rfl⟩⟩;refine ⟨_,rfl,?_⟩)|((with_reducible refine gate_callee (f:=113) rfl ?_);refine goesL_ (some 10) rfl rfl Try.func113 (by kernel_rfl) rfl #[.int .i64 a1] rfl (by (try simp only [zJ,zM,zN]);first|done|rfl|(simp only [zL,zK];rfl)) ?_;(with_reducible refine (cmp_isNaN_int.calls a1 true _ A4.out).mono ?_);rintro e w' ⟨rfl,⟨nd,rfl⟩⟩;refine ⟨_,rfl,?_⟩))
   go_ret
   exact ⟨by first|rfl|(simp;done)|(simp [*];done),by repeat (first|exact Drawn0.refl _|apply Drawn0.step)⟩
  ·replace c7:=Bool.eq_false_iff.mpr c7
   subst c7
   have H1:(if a0 < a1 then (some (-1)) else (if a0 > a1 then (some 1) else (some 0))) = some r:=by rw [if_neg (show ¬ (false = true) by decide)] at H;exact H
   clear H
   have H:=H1
   clear H1
   by_cases c8:a0 < a1
   ·rw [if_pos c8] at H
    have c8b0:decide (a0 < a1) = true:=zO c8
    clear c8
    obtain rfl:=zS H
    go_enter Try.func100,Try.ntmps100
    go_wp2_with (first|((with_reducible refine gate_callee (f:=113) rfl ?_);refine goesL_ (some 8) rfl rfl Try.func113 (by kernel_rfl) rfl #[.int .i64 a0] rfl (by (try simp only [zJ,zM,zN]);first|done|rfl|(simp only [zL,zK];rfl)) ?_;(with_reducible refine (cmp_isNaN_int.calls a0 false _ A3.out).mono ?_);rintro e w' ⟨rfl,⟨nd,rfl⟩⟩;refine ⟨_,rfl,?_⟩)|((with_reducible refine gate_callee (f:=113) rfl ?_);refine goesL_ (some 10) rfl rfl Try.func113 (by kernel_rfl) rfl #[.int .i64 a1] rfl (by (try simp only [zJ,zM,zN]);first|done|rfl|(simp only [zL,zK];rfl)) ?_;(with_reducible refine (cmp_isNaN_int.calls a1 false _ A4.out).mono ?_);rintro e w' ⟨rfl,⟨nd,rfl⟩⟩;refine ⟨_,rfl,?_⟩))
    go_ret
    exact ⟨by first|rfl|(simp;done)|(simp [*];done),by repeat (first|exact Drawn0.refl _|apply Drawn0.step)⟩
   ·rw [if_neg c8] at H
    have c8b0:decide (a0 < a1) = false:=zP c8
    clear c8
    by_cases c9:a0 > a1
    ·rw [if_pos c9] at H
     have c9b0:decide (a1 < a0) = true:=zO c9
     clear c9
     obtain rfl:=zS H
     go_enter Try.func100,Try.ntmps100
     go_wp2_with (first|((with_reducible refine gate_callee (f:=113) rfl ?_);refine goesL_ (some 8) rfl rfl Try.func113 (by kernel_rfl) rfl #[.int .i64 a0] rfl (by (try simp only [zJ,zM,zN]);first|done|rfl|(simp only [zL,zK];rfl)) ?_;(with_reducible refine (cmp_isNaN_int.calls a0 false _ A3.out).mono ?_);rintro e w' ⟨rfl,⟨nd,rfl⟩⟩;refine ⟨_,rfl,?_⟩)|((with_reducible refine gate_callee (f:=113) rfl ?_);refine goesL_ (some 10) rfl rfl Try.func113 (by kernel_rfl) rfl #[.int .i64 a1] rfl (by (try simp only [zJ,zM,zN]);first|done|rfl|(simp only [zL,zK];rfl)) ?_;(with_reducible refine (cmp_isNaN_int.calls a1 false _ A4.out).mono ?_);rintro e w' ⟨rfl,⟨nd,rfl⟩⟩;refine ⟨_,rfl,?_⟩))
     go_ret
     exact ⟨by first|rfl|(simp;done)|(simp [*];done),by repeat (first|exact Drawn0.refl _|apply Drawn0.step)⟩
    ·rw [if_neg c9] at H
     have c9b0:decide (a1 < a0) = false:=zP c9
     clear c9
     obtain rfl:=zS H
     go_enter Try.func100,Try.ntmps100
     go_wp2_with (first|((with_reducible refine gate_callee (f:=113) rfl ?_);refine goesL_ (some 8) rfl rfl Try.func113 (by kernel_rfl) rfl #[.int .i64 a0] rfl (by (try simp only [zJ,zM,zN]);first|done|rfl|(simp only [zL,zK];rfl)) ?_;(with_reducible refine (cmp_isNaN_int.calls a0 false _ A3.out).mono ?_);rintro e w' ⟨rfl,⟨nd,rfl⟩⟩;refine ⟨_,rfl,?_⟩)|((with_reducible refine gate_callee (f:=113) rfl ?_);refine goesL_ (some 10) rfl rfl Try.func113 (by kernel_rfl) rfl #[.int .i64 a1] rfl (by (try simp only [zJ,zM,zN]);first|done|rfl|(simp only [zL,zK];rfl)) ?_;(with_reducible refine (cmp_isNaN_int.calls a1 false _ A4.out).mono ?_);rintro e w' ⟨rfl,⟨nd,rfl⟩⟩;refine ⟨_,rfl,?_⟩))
     go_ret
     exact ⟨by first|rfl|(simp;done)|(simp [*];done),by repeat (first|exact Drawn0.refl _|apply Drawn0.step)⟩

/-! ### slices_Compare_int_int: function 87 -/
def slices_Compare_int_int.l0:Nat→List Int→List Int→List Int→Int→Int→Option (Int)
 | 0,_,_,_,_,_=>none
 | k+1,x0,x1,x9,x10,x11=>if x11 < x10 then (if 0≤x11 then (if x11 < (x9.length:Int) then (if x11 ≥ (x1.length:Int) then (some 1) else (if x11 < (x1.length:Int) then ((cmp_Compare_int.f (rd x9 x11) (rd x1 x11)).bind fun t201=>(if t201 = 0 then (slices_Compare_int_int.l0 k x0 x1 x9 x10 (wrap64 (x11+1))) else (some t201))) else (none))) else (none)) else (none)) else (if (x0.length:Int) < (x1.length:Int) then (some (-1)) else (some 0))
def slices_Compare_int_int.f (k:Nat) (l0:List Int) (l1:List Int):Option (Int):=slices_Compare_int_int.l0 k l0 l1 l0 (l0.length:Int) 0
theorem slices_Compare_int_int.mono_l:∀ k,(∀ y0 y1 y2 y3 y4,LeO (slices_Compare_int_int.l0 k y0 y1 y2 y3 y4) (slices_Compare_int_int.l0 (k+1) y0 y1 y2 y3 y4))
 | 0=>fun _ _ _ _ _ r h=>by simp [slices_Compare_int_int.l0] at h
 | k+1=>by
  have ih0:=slices_Compare_int_int.mono_l k
  ·intro y0 y1 y2 y3 y4
   unfold slices_Compare_int_int.l0
   repeat' first
   | (with_reducible exact ih0 _ _ _ _ _)
   | (with_reducible exact LeO.refl _)
   | (with_reducible exact za _)
   | (with_reducible refine zc ?_ ?_)
   | (with_reducible refine zb ?_ (fun _=>?_))
theorem slices_Compare_int_int.mono:∀ a0 a1 k,LeO (slices_Compare_int_int.f k a0 a1) (slices_Compare_int_int.f (k+1) a0 a1):=by
 intro a0 a1 k
 have ih0:=slices_Compare_int_int.mono_l k
 unfold slices_Compare_int_int.f
 repeat' first
   | (with_reducible exact ih0 _ _ _ _ _)
   | (with_reducible exact LeO.refl _)
   | (with_reducible exact za _)
   | (with_reducible refine zc ?_ ?_)
   | (with_reducible refine zb ?_ (fun _=>?_))
set_option maxHeartbeats 8000000 in
set_option maxRecDepth 100000 in
theorem slices_Compare_int_int.calls (k:Nat) (A0:Option Addr) (c0:Nat) (l0:List Int) (A1:Option Addr) (c1:Nat) (l1:List Int) (r:Int) (w:World) (hr0:Kd.C (Kd.int .i64) w A0 l0.length l0) (hc0:l0.length≤c0) (hr1:Kd.C (Kd.int .i64) w A1 l1.length l1) (hc1:l1.length≤c1) (h:slices_Compare_int_int.f k l0 l1 = some r) :
  Calls Try.prog 87 #[.slice A0 l0.length c0,.slice A1 l1.length c1] w fun e w'=>e = .returned (.int .i64 r)∧Drawn0 w w':=by
 have HR0:=zA hr0
 have HC0:=zA hc0
 clear hr0 hc0
 have HR1:=zA hr1
 have HC1:=zA hc1
 clear hr1 hc1
 have H:(slices_Compare_int_int.l0 k l0 l1 l0 (l0.length:Int) 0) = some r:=h
 clear h
 have H':=zA H
 clear H
 go_enter Try.func87,Try.ntmps87
 go_wp2
 go_loopg [11] k (fun kq v11 w' => ∃ (x11_1:Int),v11 = .int .i64 x11_1∧Aside0 (slices_Compare_int_int.l0 kq l0 l1 l0 (l0.length:Int) x11_1 = some r)∧Aside0 (kq≤k)∧Drawn0 w w')
 case atStart=>exact ⟨(0),(by first|rfl|(simp;done)|(simp [*];done)),H',⟨Nat.le_refl _⟩,by repeat (first|exact Drawn0.refl _|apply Drawn0.step)⟩
 case round =>
  clear H'
  (try clear c1);(try clear p2)
  obtain ⟨x11_1,rfl,HA,HK1,⟨m1,rfl⟩⟩:=hrel
  cases gk with
  | zero=>exact absurd HA.out (by simp [slices_Compare_int_int.l0])
  | succ k1 =>
   have H:=HA.out
   clear HA
   simp only [slices_Compare_int_int.l0] at H
   by_cases c3:x11_1 < (l0.length:Int)
   ·rw [if_pos c3] at H
    have c3b0:decide (x11_1 < (l0.length:Int)) = true:=zO c3
    clear c3
    by_cases c4:0≤x11_1
    ·rw [if_pos c4] at H
     have c4b0:decide (0≤x11_1) = true:=zO c4
     clear c4
     by_cases c5:x11_1 < (l0.length:Int)
     ·rw [if_pos c5] at H
      have c5b0:decide (x11_1 < (l0.length:Int)) = true:=zO c5
      clear c5
      by_cases c6:x11_1 ≥ (l1.length:Int)
      ·rw [if_pos c6] at H
       have c6b0:decide ((l1.length:Int)≤x11_1) = true:=zO c6
       clear c6
       obtain rfl:=zS H
       have p199:0≤(x11_1:Int):=zE (by with_reducible assumption)
       have q199:x11_1 < (l0.length:Int):=zE (by with_reducible assumption)
       obtain ⟨ad199,e199,hx199_0⟩:=Kd.at_int HR0.out x11_1 p199 q199
       cases e199
       replace p199:=eq_true p199
       replace q199:=eq_true q199
       go_wp2
       go_ret
       exact ⟨by first|rfl|(simp;done)|(simp [*];done),by repeat (first|exact Drawn0.refl _|apply Drawn0.step)⟩
      ·rw [if_neg c6] at H
       have c6b0:decide ((l1.length:Int)≤x11_1) = false:=zP c6
       clear c6
       by_cases c7:x11_1 < (l1.length:Int)
       ·rw [if_pos c7] at H
        have c7b0:decide (x11_1 < (l1.length:Int)) = true:=zO c7
        clear c7
        replace H:=zz0 H
        obtain ⟨t201,A80,H⟩:=H
        try dsimp only at H
        have A8:=zA A80
        clear A80
        by_cases c9:t201 = 0
        ·rw [if_pos c9] at H
         have c9b0:(t201 == 0) = true:=beq_iff_eq.mpr c9
         have c9b1:(t201 != 0) = false:=bne_eq_false_iff_eq.mpr c9
         clear c9
         have H':=zA H
         clear H
         have p199:0≤(x11_1:Int):=zE (by with_reducible assumption)
         have q199:x11_1 < (l0.length:Int):=zE (by with_reducible assumption)
         obtain ⟨ad199,e199,hx199_0⟩:=Kd.at_int HR0.out x11_1 p199 q199
         cases e199
         replace p199:=eq_true p199
         replace q199:=eq_true q199
         have p200:0≤(x11_1:Int):=zE (by with_reducible assumption)
         have q200:x11_1 < (l1.length:Int):=zE (by with_reducible assumption)
         obtain ⟨ad200,e200,hx200_0⟩:=Kd.at_int HR1.out x11_1 p200 q200
         cases e200
         replace p200:=eq_true p200
         replace q200:=eq_true q200
         go_wp2_with (first|((with_reducible refine gate_callee (f:=100) rfl ?_);refine goesL_ (some 26) rfl rfl Try.func100 (by kernel_rfl) rfl #[.int .i64 (rd l0 x11_1),.int .i64 (rd l1 x11_1)] rfl (by (try simp only [zJ,zM,zN]);first|done|rfl|(simp only [zL,zK];rfl)) ?_;(with_reducible refine (cmp_Compare_int.calls (rd l0 x11_1) (rd l1 x11_1) t201 _ A8.out).mono ?_);rintro e w' ⟨rfl,⟨nd,rfl⟩⟩;refine ⟨_,rfl,?_⟩))
         go_roundg k1
         case measure=>have:=HK1.out;omega
         case rel=>exact ⟨(wrap64 (x11_1+1)),(by first|rfl|(simp;done)|(simp [*];done)),H',⟨by have:=HK1.out;omega⟩,by repeat (first|exact Drawn0.refl _|apply Drawn0.step)⟩
        ·rw [if_neg c9] at H
         have c9b0:(t201 == 0) = false:=beq_eq_false_iff_ne.mpr c9
         have c9b1:(t201 != 0) = true:=bne_iff_ne.mpr c9
         obtain rfl:=zS H
         have p199:0≤(x11_1:Int):=zE (by with_reducible assumption)
         have q199:x11_1 < (l0.length:Int):=zE (by with_reducible assumption)
         obtain ⟨ad199,e199,hx199_0⟩:=Kd.at_int HR0.out x11_1 p199 q199
         cases e199
         replace p199:=eq_true p199
         replace q199:=eq_true q199
         have p200:0≤(x11_1:Int):=zE (by with_reducible assumption)
         have q200:x11_1 < (l1.length:Int):=zE (by with_reducible assumption)
         obtain ⟨ad200,e200,hx200_0⟩:=Kd.at_int HR1.out x11_1 p200 q200
         cases e200
         replace p200:=eq_true p200
         replace q200:=eq_true q200
         go_wp2_with (first|((with_reducible refine gate_callee (f:=100) rfl ?_);refine goesL_ (some 26) rfl rfl Try.func100 (by kernel_rfl) rfl #[.int .i64 (rd l0 x11_1),.int .i64 (rd l1 x11_1)] rfl (by (try simp only [zJ,zM,zN]);first|done|rfl|(simp only [zL,zK];rfl)) ?_;(with_reducible refine (cmp_Compare_int.calls (rd l0 x11_1) (rd l1 x11_1) t201 _ A8.out).mono ?_);rintro e w' ⟨rfl,⟨nd,rfl⟩⟩;refine ⟨_,rfl,?_⟩))
         go_ret
         exact ⟨by first|rfl|(simp;done)|(simp [*];done),by repeat (first|exact Drawn0.refl _|apply Drawn0.step)⟩
       ·rw [if_neg c7] at H
        exact absurd H (by simp)
     ·rw [if_neg c5] at H
      exact absurd H (by simp)
    ·rw [if_neg c4] at H
     exact absurd H (by simp)
   ·rw [if_neg c3] at H
    have c3b0:decide (x11_1 < (l0.length:Int)) = false:=zP c3
    clear c3
    by_cases c10:(l0.length:Int) < (l1.length:Int)
    ·rw [if_pos c10] at H
     have c10b0:decide ((l0.length:Int) < (l1.length:Int)) = true:=zO c10
     have c10b1:decide (l0.length < l1.length) = true:=zO (Int.ofNat_lt.mp c10)
     clear c10
     obtain rfl:=zS H
     go_wp2
     go_ret
     exact ⟨by first|rfl|(simp;done)|(simp [*];done),by repeat (first|exact Drawn0.refl _|apply Drawn0.step)⟩
    ·rw [if_neg c10] at H
     have c10b0:decide ((l0.length:Int) < (l1.length:Int)) = false:=zP c10
     have c10b1:decide (l0.length < l1.length) = false:=zP (fun h=>c10 (Int.ofNat_lt.mpr h))
     clear c10
     obtain rfl:=zS H
     go_wp2
     go_ret
     exact ⟨by first|rfl|(simp;done)|(simp [*];done),by repeat (first|exact Drawn0.refl _|apply Drawn0.step)⟩

-- NOT PRINTED: function 62 (impl_compareMaps)

-- NOT PRINTED: function 66 (impl_flipsOf)

-- NOT PRINTED: function 68 (impl_permsOf)

-- NOT PRINTED: function 101 (impl_Map_101)

-- NOT PRINTED: function 114 (impl_Map_114)

-- NOT PRINTED: function 102 (impl_Map_102)

-- NOT PRINTED: function 109 (bits_Len32)

-- NOT PRINTED: function 110 (bits_Len64)

-- NOT PRINTED: function 93 (bits_Len)

-- NOT PRINTED: function 115 (slices_nextPowerOfTwo)

-- NOT PRINTED: function 116 (slices_xorshift_Next)

-- NOT PRINTED: function 103 (impl_Map_103)

-- NOT PRINTED: function 120 (impl_Map_120)

-- NOT PRINTED: function 118 (impl_Map_118)

-- NOT PRINTED: function 117 (impl_Map_117)

-- NOT PRINTED: function 104 (impl_Map_104)

-- NOT PRINTED: function 105 (impl_Map_105)

-- NOT PRINTED: function 106 (impl_Map_106)

-- NOT PRINTED: function 107 (impl_Map_107)

-- NOT PRINTED: function 108 (impl_Map_108)

-- NOT PRINTED: function 92 (impl_Map_92)

-- NOT PRINTED: function 72 (impl_Map_72)

end Go.Proofs.Ytdaiohcgdpclnaa.Q
