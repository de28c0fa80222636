import Derived.Test.YtdaiohcgdpclnaaQ0
import Derived.Test.YtdaiohcgdpclnaaQ1
import Derived.Test.YtdaiohcgdpclnaaZ
namespace Go.Proofs.Ytdaiohcgdpclnaa.Q
open Go.RowKit Go.Proofs.YtdaiohcgdpclnaaW.PrintWords Go.Proofs.YtdaiohcgdpclnaaW.PrintLast Go.Proofs.YtdaiohcgdpclnaaW.PrintMore
attribute [local go_sem] max2_int min2_int max_two min_two max_three min_three max_four min_four   -- for this text's walks alone
set_option linter.unusedVariables false
set_option linter.unusedSimpArgs false

/-! ### impl_mul: function 49 -/
def impl_mul.l0:Nat→List Int→List Int→List Int→Int→Int→Option (List Int)
 | 0,_,_,_,_,_=>none
 | k+1,x1,x5,x11,x12,x13=>if x13 < x12 then (if 0≤x13 then (if x13 < (x11.length:Int) then (if 0≤(rd x11 x13) then (if (rd x11 x13) < (x1.length:Int) then (if x13 < (x5.length:Int) then (impl_mul.l0 k x1 (x5.set (x13:Int).toNat (rd x1 (rd x11 x13))) x11 x12 (wrap64 (x13+1))) else (none)) else (none)) else (none)) else (none)) else (none)) else (some x5)
def impl_mul.f (k:Nat) (l0:List Int) (l1:List Int):Option (List Int):=if 0≤(l0.length:Int) then (if ((l0.length:Int):Int).toNat≤35184372088832 then (impl_mul.l0 k l1 (List.replicate ((l0.length:Int):Int).toNat 0) l0 (l0.length:Int) 0) else (none)) else (none)
theorem impl_mul.mono_l:∀ k,(∀ y0 y1 y2 y3 y4,LeO (impl_mul.l0 k y0 y1 y2 y3 y4) (impl_mul.l0 (k+1) y0 y1 y2 y3 y4))
 | 0=>fun _ _ _ _ _ r h=>by simp [impl_mul.l0] at h
 | k+1=>by
  have ih0:=impl_mul.mono_l k
  ·intro y0 y1 y2 y3 y4
   unfold impl_mul.l0
   repeat' first
   | (with_reducible exact ih0 _ _ _ _ _)
   | (with_reducible exact LeO.refl _)
   | (with_reducible exact za _)
   | (with_reducible refine zc ?_ ?_)
   | (with_reducible refine zb ?_ (fun _=>?_))
theorem impl_mul.mono:∀ a0 a1 k,LeO (impl_mul.f k a0 a1) (impl_mul.f (k+1) a0 a1):=by
 intro a0 a1 k
 have ih0:=impl_mul.mono_l k
 unfold impl_mul.f
 repeat' first
   | (with_reducible exact ih0 _ _ _ _ _)
   | (with_reducible exact LeO.refl _)
   | (with_reducible exact za _)
   | (with_reducible refine zc ?_ ?_)
   | (with_reducible refine zb ?_ (fun _=>?_))
set_option maxHeartbeats 8000000 in
set_option maxRecDepth 100000 in
theorem impl_mul.calls (k:Nat) (A0:Option Addr) (c0:Nat) (l0:List Int) (A1:Option Addr) (c1:Nat) (l1:List Int) (r:List Int) (w:World) (hr0:Kd.C (Kd.int .i64) w A0 l0.length l0) (hc0:l0.length≤c0) (hr1:Kd.C (Kd.int .i64) w A1 l1.length l1) (hc1:l1.length≤c1) (h:impl_mul.f k l0 l1 = some r) :
  Calls Try.prog 49 #[.slice A0 l0.length c0,.slice A1 l1.length c1] w fun e w' => ∃ v0_:Value,e = .returned (v0_)∧Kd.R (Kd.int .i64) 3 w' w.heap.size (fun _=>True) v0_ r∧Below w.heap.size w w':=by
 have HR0:=zA hr0
 have HC0:=zA hc0
 clear hr0 hc0
 have HR1:=zA hr1
 have HC1:=zA hc1
 clear hr1 hc1
 have HB:=zA (Below.refl w.heap.size w)
 have H:(if 0≤(l0.length:Int) then (if ((l0.length:Int):Int).toNat≤35184372088832 then (impl_mul.l0 k l1 (List.replicate ((l0.length:Int):Int).toNat 0) l0 (l0.length:Int) 0) else (none)) else (none)) = some r:=h
 clear h
 by_cases c3:0≤(l0.length:Int)
 ·rw [if_pos c3] at H
  have c3b0:=eq_true c3
  have c3b1:decide (0≤(l0.length:Int)) = true:=zO c3
  clear c3
  by_cases c4:((l0.length:Int):Int).toNat≤35184372088832
  ·rw [if_pos c4] at H
   have c4b0:=eq_true c4
   have c4b1:decide (((l0.length:Int):Int).toNat≤35184372088832) = true:=zO c4
   clear c4
   obtain ⟨y138,hy138⟩:∃ y_:List Int,y_ = (List.replicate ((l0.length:Int):Int).toNat 0):=⟨_,rfl⟩
   replace H:(impl_mul.l0 k l1 y138 l0 (l0.length:Int) 0) = some r:=by (try rw [hy138]);first|with_reducible exact H|with_reducible exact zS_ H|exact H
   have Ny138:=zA hy138
   clear hy138
   have H':=zA H
   clear H
   go_enter Try.func49,Try.ntmps49
   go_wp2_with (first|((with_reducible refine gate_dst (N:=10) rfl ?_);refine Kd.R_make (Kd.int .i64) _ 3 rfl (N:=10) rfl 31 _ _ rfl (l0.length:Int) rfl rfl Try.underlying31 (.int .i64 0) 8 info3 rfl (by decide) (by omega) 0 (ok:=fun _=>True) (okp:=fun _=>True) rfl (fun _ hk=>hk) trivial (zE (by with_reducible assumption)) (Nat.le_trans (Nat.mul_le_mul_right _ (zE (by with_reducible assumption):(l0.length:Int).toNat≤35184372088832)) (by omega)) (Below.refl _ _) (Nat.le_refl _) ?_;intro v139 w5 ho6 hb hg_ hnew_;clear hg_ hnew_;(first|rw [← Ny138.out] at ho6|(simp only [Int.reduceToNat] at ho6;rw [← Ny138.out] at ho6));have n0_:=zA (ze ho6 (zQ (by exact zB_ HB.out)));have n1_:=zA (zR (by exact zB_ HB.out) hb);clear HB;have HO140:=n0_;have HB:=n1_;clear n0_ n1_;clear hb ho6))
   go_loopg [13] k (fun kq v13 w' => ∃ (x5_1:List Int) (x13_1:Int),v13 = .int .i64 x13_1∧Aside0 (impl_mul.l0 kq l1 x5_1 l0 (l0.length:Int) x13_1 = some r)∧Aside0 (kq≤k)∧Aside0 (Kd.R (Kd.int .i64) 3 w' w.heap.size (fun _=>True) v139 x5_1)∧Aside0 (Below w.heap.size w w'))
   case atStart=>exact ⟨(y138),(0),(by first|rfl|(simp;done)|(simp [*];done)),H',⟨Nat.le_refl _⟩,⟨by apply zR_;exact HO140.out⟩,⟨by exact zB_ HB.out⟩⟩
   case round =>
    clear H'
    (try clear c1);(try clear p2);(try clear c3);(try clear c3b0);(try clear c3b1);(try clear c4);(try clear c4b0);(try clear c4b1)
    obtain ⟨x5_1,x13_1,rfl,HA,HK1,HO_5,HB⟩:=hrel
    cases gk with
    | zero=>exact absurd HA.out (by simp [impl_mul.l0])
    | succ k1 =>
     have H:=HA.out
     clear HA
     simp only [impl_mul.l0] at H
     by_cases c7:x13_1 < (l0.length:Int)
     ·rw [if_pos c7] at H
      have c7b0:decide (x13_1 < (l0.length:Int)) = true:=zO c7
      clear c7
      by_cases c8:0≤x13_1
      ·rw [if_pos c8] at H
       have c8b0:decide (0≤x13_1) = true:=zO c8
       clear c8
       by_cases c9:x13_1 < (l0.length:Int)
       ·rw [if_pos c9] at H
        have c9b0:decide (x13_1 < (l0.length:Int)) = true:=zO c9
        clear c9
        by_cases c10:0≤(rd l0 x13_1)
        ·rw [if_pos c10] at H
         have c10b0:decide (0≤(rd l0 x13_1)) = true:=zO c10
         clear c10
         by_cases c11:(rd l0 x13_1) < (l1.length:Int)
         ·rw [if_pos c11] at H
          have c11b0:decide ((rd l0 x13_1) < (l1.length:Int)) = true:=zO c11
          clear c11
          by_cases c12:x13_1 < (x5_1.length:Int)
          ·rw [if_pos c12] at H
           have c12b0:decide (x13_1 < (x5_1.length:Int)) = true:=zO c12
           clear c12
           obtain ⟨y143,hy143⟩:∃ y_:List Int,y_ = (x5_1.set (x13_1:Int).toNat (rd l1 (rd l0 x13_1))):=⟨_,rfl⟩
           replace H:(impl_mul.l0 k1 l1 y143 l0 (l0.length:Int) (wrap64 (x13_1+1))) = some r:=by (try rw [hy143]);first|with_reducible exact H|with_reducible exact zS_ H|exact H
           have Ny143:=zA hy143
           clear hy143
           have H':=zA H
           clear H
           have p141:0≤(x13_1:Int):=zE (by with_reducible assumption)
           have q141:x13_1 < (l0.length:Int):=zE (by with_reducible assumption)
           obtain ⟨ad141,e141,hx141_0⟩:=Kd.at_int HR0.out x13_1 p141 q141
           cases e141
           replace hx141_0:=(HB.out.cell (zY w _ hx141_0)).trans hx141_0
           replace p141:=eq_true p141
           replace q141:=eq_true q141
           have p142:0≤((rd l0 x13_1):Int):=zE (by with_reducible assumption)
           have q142:(rd l0 x13_1) < (l1.length:Int):=zE (by with_reducible assumption)
           obtain ⟨ad142,e142,hx142_0⟩:=Kd.at_int HR1.out (rd l0 x13_1) p142 q142
           cases e142
           replace hx142_0:=(HB.out.cell (zY w _ hx142_0)).trans hx142_0
           replace p142:=eq_true p142
           replace q142:=eq_true q142
           have p13:0≤(x13_1:Int):=zE (by with_reducible assumption)
           have q13:(x13_1:Int) < ((x5_1.length:Int):Int):=zE (by with_reducible assumption)
           obtain ⟨go13,co13,eo13,gb13,gl13,cl13,HG13⟩:=Kd.R_form HO_5.out (by omega)
           (first|cases eo13|(injection eo13 with ea_ en_ ec_;(first|subst ea_|(injection ea_ with ea_;subst ea_));subst ec_;clear en_))
           have GB13:=zA gb13
           have GG13:=zA HG13
           clear gb13 gl13 HG13
           obtain ⟨hx13_0,hf13_0⟩:=Kd.R_celln 0 HO_5.out (x13_1:Int) p13 q13
           replace p13:=eq_true p13
           replace q13:=eq_true q13
           have HP14:=Kd.R_putg HO_5.out (x13_1:Int) (rd l1 (rd l0 x13_1))
           go_wp2_with (first|((with_reducible refine gate_store (t:=3) (p:=24) rfl ?_);refine store_event (t:=3) (p:=24) (v:=?vo_w15) (w1:=(wr.setCell ⟨go13,(x13_1:Int).toNat,none⟩ (.int .i64 (rd l1 (rd l0 x13_1))))) ?hg ?ho ?hn ?hr ?_;(case ho=>rfl);(case hg=>rfl);(case hn=>rfl);(case hr=>first|(go_simp;done)|(go_simp;rfl));intro w15 hw;have hg:wr.grownBy w15 (some go13):=(by rw [hw];exact HP14.2);have hp_:Kd.R (Kd.int .i64) 3 w15 w.heap.size (fun _=>True) (.slice (some ⟨go13,0,none⟩) x5_1.length co13) y143:=(by rw [hw,Ny143.out];exact HP14.1);clear HP14;have n0_:=zA (hp_);have n1_:=zA ((by rw [hw];exact zF (HB.out) GB13.out:Below w.heap.size w w15));clear HO_5;clear HB;have HO_5:=n0_;have HB:=n1_;clear n0_ n1_;clear hg hw hp_))
           go_roundg k1
           case measure=>have:=HK1.out;omega
           case rel=>exact ⟨(y143),(wrap64 (x13_1+1)),(by first|rfl|(simp;done)|(simp [*];done)),H',⟨by have:=HK1.out;omega⟩,⟨by apply zR_;exact HO_5.out⟩,⟨by exact zB_ HB.out⟩⟩
          ·rw [if_neg c12] at H
           exact absurd H (by simp)
         ·rw [if_neg c11] at H
          exact absurd H (by simp)
        ·rw [if_neg c10] at H
         exact absurd H (by simp)
       ·rw [if_neg c9] at H
        exact absurd H (by simp)
      ·rw [if_neg c8] at H
       exact absurd H (by simp)
     ·rw [if_neg c7] at H
      have c7b0:decide (x13_1 < (l0.length:Int)) = false:=zP c7
      clear c7
      obtain rfl:=zS H
      go_wp2
      go_ret
      exact ⟨_,by first|rfl|(simp [errW_none,errW_some] <;> rfl)|(simp [*,errW_none,errW_some] <;> rfl),by apply zR_;exact HO_5.out,by exact zB_ HB.out⟩
  ·rw [if_neg c4] at H
   exact absurd H (by simp)
 ·rw [if_neg c3] at H
  exact absurd H (by simp)

/-! ### impl_cyclesOf: function 56 -/
mutual
def impl_cyclesOf.l0:Nat→List Int→List (List Int)→List Bool→Int→Int→Option ((List (List Int)))
 | 0,_,_,_,_,_=>none
 | k+1,x0,x3,x4,x13,x14=>if x14 < x13 then (impl_cyclesOf.l1 k x0 x3 x4 (([]:List Int)) x14 x13 x14) else (some x3)
def impl_cyclesOf.l1:Nat→List Int→List (List Int)→List Bool→List Int→Int→Int→Int→Option ((List (List Int)))
 | 0,_,_,_,_,_,_,_=>none
 | k+1,x0,x3,x4,x6,x7,x13,x14=>if 0≤x7 then (if x7 < (x4.length:Int) then (if rdOf false x4 x7 = true then (if (x6.length:Int) > 0 then (if x3.length < 5864062014805 then (impl_cyclesOf.l0 k x0 (x3 ++ [x6]) x4 x13 (wrap64 (x14+1))) else (none)) else (impl_cyclesOf.l0 k x0 x3 x4 x13 (wrap64 (x14+1)))) else (if x6.length < 17592186044416 then (if x7 < (x0.length:Int) then (impl_cyclesOf.l1 k x0 x3 (x4.set (x7:Int).toNat true) (x6 ++ [x7]) (rd x0 x7) x13 x14) else (none)) else (none))) else (none)) else (none)
end
def impl_cyclesOf.f (k:Nat) (l0:List Int):Option ((List (List Int))):=if 0≤(l0.length:Int) then (if ((l0.length:Int):Int).toNat≤281474976710656 then (impl_cyclesOf.l0 k l0 (([]:List (List Int))) (List.replicate ((l0.length:Int):Int).toNat false) (l0.length:Int) 0) else (none)) else (none)
theorem impl_cyclesOf.mono_l:∀ k,(∀ y0 y1 y2 y3 y4,LeO (impl_cyclesOf.l0 k y0 y1 y2 y3 y4) (impl_cyclesOf.l0 (k+1) y0 y1 y2 y3 y4))∧(∀ y0 y1 y2 y3 y4 y5 y6,LeO (impl_cyclesOf.l1 k y0 y1 y2 y3 y4 y5 y6) (impl_cyclesOf.l1 (k+1) y0 y1 y2 y3 y4 y5 y6))
 | 0=>⟨fun _ _ _ _ _ r h=>by simp [impl_cyclesOf.l0] at h,fun _ _ _ _ _ _ _ r h=>by simp [impl_cyclesOf.l1] at h⟩
 | k+1=>by
  obtain ⟨ih0,ih1⟩:=impl_cyclesOf.mono_l k
  refine ⟨?_,?_⟩
  ·intro y0 y1 y2 y3 y4
   unfold impl_cyclesOf.l0
   repeat' first
   | (with_reducible exact ih0 _ _ _ _ _)
   | (with_reducible exact ih1 _ _ _ _ _ _ _)
   | (with_reducible exact LeO.refl _)
   | (with_reducible exact za _)
   | (with_reducible refine zc ?_ ?_)
   | (with_reducible refine zb ?_ (fun _=>?_))
  ·intro y0 y1 y2 y3 y4 y5 y6
   unfold impl_cyclesOf.l1
   repeat' first
   | (with_reducible exact ih0 _ _ _ _ _)
   | (with_reducible exact ih1 _ _ _ _ _ _ _)
   | (with_reducible exact LeO.refl _)
   | (with_reducible exact za _)
   | (with_reducible refine zc ?_ ?_)
   | (with_reducible refine zb ?_ (fun _=>?_))
theorem impl_cyclesOf.mono:∀ a0 k,LeO (impl_cyclesOf.f k a0) (impl_cyclesOf.f (k+1) a0):=by
 intro a0 k
 obtain ⟨ih0,ih1⟩:=impl_cyclesOf.mono_l k
 unfold impl_cyclesOf.f
 repeat' first
   | (with_reducible exact ih0 _ _ _ _ _)
   | (with_reducible exact ih1 _ _ _ _ _ _ _)
   | (with_reducible exact LeO.refl _)
   | (with_reducible exact za _)
   | (with_reducible refine zc ?_ ?_)
   | (with_reducible refine zb ?_ (fun _=>?_))
set_option maxHeartbeats 8000000 in
set_option maxRecDepth 100000 in
theorem impl_cyclesOf.calls (k:Nat) (A0:Option Addr) (c0:Nat) (l0:List Int) (r:List (List Int)) (w:World) (hr0:Kd.C (Kd.int .i64) w A0 l0.length l0) (hc0:l0.length≤c0) (h:impl_cyclesOf.f k l0 = some r) :
  Calls Try.prog 56 #[.slice A0 l0.length c0] w fun e w' => ∃ v0_:Value,e = .returned (v0_)∧Kd.S (Kd.slice 3 (Kd.int .i64)) 31 w' w.heap.size (fun _=>True) v0_ r∧Below w.heap.size w w':=by
 have HR0:=zA hr0
 have HC0:=zA hc0
 clear hr0 hc0
 have HB:=zA (Below.refl w.heap.size w)
 have H:(if 0≤(l0.length:Int) then (if ((l0.length:Int):Int).toNat≤281474976710656 then (impl_cyclesOf.l0 k l0 (([]:List (List Int))) (List.replicate ((l0.length:Int):Int).toNat false) (l0.length:Int) 0) else (none)) else (none)) = some r:=h
 clear h
 obtain ⟨y144,hy144⟩:∃ y_:List (List Int),y_ = (([]:List (List Int))):=⟨_,rfl⟩
 replace H:(if 0≤(l0.length:Int) then (if ((l0.length:Int):Int).toNat≤281474976710656 then (impl_cyclesOf.l0 k l0 y144 (List.replicate ((l0.length:Int):Int).toNat false) (l0.length:Int) 0) else (none)) else (none)) = some r:=by (try rw [hy144]);first|with_reducible exact H|with_reducible exact zS_ H|exact H
 have Ny144:=zA hy144
 clear hy144
 by_cases c2:0≤(l0.length:Int)
 ·rw [if_pos c2] at H
  have c2b0:=eq_true c2
  have c2b1:decide (0≤(l0.length:Int)) = true:=zO c2
  clear c2
  by_cases c3:((l0.length:Int):Int).toNat≤281474976710656
  ·rw [if_pos c3] at H
   have c3b0:=eq_true c3
   have c3b1:decide (((l0.length:Int):Int).toNat≤281474976710656) = true:=zO c3
   clear c3
   obtain ⟨y147,hy147⟩:∃ y_:List Bool,y_ = (List.replicate ((l0.length:Int):Int).toNat false):=⟨_,rfl⟩
   replace H:(impl_cyclesOf.l0 k l0 y144 y147 (l0.length:Int) 0) = some r:=by (try rw [hy147]);first|with_reducible exact H|with_reducible exact zS_ H|exact H
   have Ny147:=zA hy147
   clear hy147
   have H':=zA H
   clear H
   go_enter Try.func56,Try.ntmps56
   go_wp2_with (first|((with_reducible refine gate_dst (N:=8) rfl ?_);refine Kd.S_lit (Kd.slice 3 (Kd.int .i64)) _ 31 ?hg (N:=8) ?hd (xs:=([]:List (List Int))) (inner:=[]) (ok:=fun _=>True) (okp:=fun _=>True) ?hr ?hp (fun _ hk=>hk) trivial (Below.refl _ _) (Nat.le_refl _) (by simp) ?_;(case hd=>rfl);(case hg=>rfl);(case hr=>first|(go_simp;done)|(go_simp;rfl));(case hp=>exact (Reps.none _ _));intro v145 w4 ho5 hb hg_ hnew_;clear hg_ hnew_;(first|rw [← Ny144.out] at ho5|(simp only [Int.reduceToNat] at ho5;rw [← Ny144.out] at ho5));have n0_:=zA (Kd.S_lower ho5 (zQ (by exact zB_ HB.out)));have n1_:=zA (zR (by exact zB_ HB.out) hb);clear HB;have HO146:=n0_;have HB:=n1_;clear n0_ n1_;clear hb ho5)|((with_reducible refine gate_dst (N:=11) rfl ?_);refine Kd.R_make Kd.bool _ 4 rfl (N:=11) rfl 73 _ _ rfl (l0.length:Int) rfl rfl Try.underlying73 (.bool false) 1 info4 rfl (by decide) (by omega) false (ok:=fun _=>True) (okp:=fun _=>True) rfl (fun _ hk=>hk) trivial (zE (by with_reducible assumption)) (Nat.le_trans (Nat.mul_le_mul_right _ (zE (by with_reducible assumption):(l0.length:Int).toNat≤281474976710656)) (by omega)) (Below.refl _ _) (Nat.le_refl _) ?_;intro v148 w6 ho7 hb hg_ hnew_;clear hg_ hnew_;(first|rw [← Ny147.out] at ho7|(simp only [Int.reduceToNat] at ho7;rw [← Ny147.out] at ho7));have n0_:=zA (Kd.S_below (by (with_reducible repeat (first|apply Kd.S_alloc|apply Kd.S_drewN|apply Kd.S_drew));exact HO146.out) hb);have n1_:=zA (ze ho7 (zQ (by exact zB_ HB.out)));have n2_:=zA (zR (by exact zB_ HB.out) hb);clear HO146;clear HB;have HO146:=n0_;have HO149:=n1_;have HB:=n2_;clear n0_ n1_ n2_;clear hb ho7))
   go_loopg [3,14] k (fun kq v3 v14 w' => ∃ (x3_1:List (List Int)) (x4_1:List Bool) (x14_1:Int),v14 = .int .i64 x14_1∧Aside0 (impl_cyclesOf.l0 kq l0 x3_1 x4_1 (l0.length:Int) x14_1 = some r)∧Aside0 (kq≤k)∧Aside0 (Kd.S (Kd.slice 3 (Kd.int .i64)) 31 w' w.heap.size (fun _=>True) v3 x3_1)∧Aside0 (Kd.R Kd.bool 4 w' w.heap.size (fun _=>True) v148 x4_1)∧Aside0 (Below w.heap.size w w'))
   case atStart=>exact ⟨(y144),(y147),(0),(by first|rfl|(simp;done)|(simp [*];done)),H',⟨Nat.le_refl _⟩,⟨by (with_reducible repeat (first|apply Kd.S_alloc|apply Kd.S_drewN|apply Kd.S_drew));exact HO146.out⟩,⟨by apply zR_;exact HO149.out⟩,⟨by exact zB_ HB.out⟩⟩
   case round =>
    clear H'
    (try clear c2);(try clear c2b0);(try clear c2b1);(try clear p2);(try clear c3);(try clear c3b0);(try clear c3b1);(try clear c5)
    obtain ⟨x3_1,x4_1,x14_1,rfl,HA,HK1,HO_3,HO_4,HB⟩:=hrel
    cases gk with
    | zero=>exact absurd HA.out (by simp [impl_cyclesOf.l0])
    | succ k1 =>
     have H:=HA.out
     clear HA
     simp only [impl_cyclesOf.l0] at H
     by_cases c8:x14_1 < (l0.length:Int)
     ·rw [if_pos c8] at H
      have c8b0:decide (x14_1 < (l0.length:Int)) = true:=zO c8
      clear c8
      obtain ⟨y150,hy150⟩:∃ y_:List Int,y_ = (([]:List Int)):=⟨_,rfl⟩
      replace H:(impl_cyclesOf.l1 k1 l0 x3_1 x4_1 y150 x14_1 (l0.length:Int) x14_1) = some r:=by (try rw [hy150]);first|with_reducible exact H|with_reducible exact zS_ H|exact H
      have Ny150:=zA hy150
      clear hy150
      have H':=zA H
      clear H
      go_wp2_with (first|((with_reducible refine gate_dst (N:=17) rfl ?_);refine Kd.R_lit (Kd.int .i64) _ 3 ?hg (N:=17) ?hd (xs:=([]:List Int)) (inner:=[]) (ok:=fun _=>True) (okp:=fun _=>True) ?hr ?hp (fun _ hk=>hk) trivial (Below.refl _ _) (Nat.le_refl _) (by simp) ?_;(case hd=>rfl);(case hg=>rfl);(case hr=>first|(go_simp;done)|(go_simp;rfl));(case hp=>exact (Reps.none _ _));intro v151 w9 ho10 hb hg_ hnew_;clear hg_ hnew_;(first|rw [← Ny150.out] at ho10|(simp only [Int.reduceToNat] at ho10;rw [← Ny150.out] at ho10));have n0_:=zA (Kd.S_elder' (by (with_reducible repeat (first|apply Kd.S_alloc|apply Kd.S_drewN|apply Kd.S_drew));exact HO_3.out) (zd ho10) hb);have n1_:=zA (Kd.R_below (by apply zR_;exact HO_4.out) hb);have n2_:=zA (ze ho10 (zQ (by exact zB_ HB.out)));have n3_:=zA (zR (by exact zB_ HB.out) hb);clear HO_3;clear HO_4;clear HB;have HO_3:=n0_;have HO_4:=n1_;have HO152:=n2_;have HB:=n3_;clear n0_ n1_ n2_ n3_;clear hb ho10))
      generalize hq_:Addr.add _ _ = adq_
      clear hq_
      go_loopg [6,7] k1 (fun kq v6 v7 w' => ∃ (x4_2:List Bool) (x6_2:List Int) (x7_2:Int),v7 = .int .i64 x7_2∧Aside0 (impl_cyclesOf.l1 kq l0 x3_1 x4_2 x6_2 x7_2 (l0.length:Int) x14_1 = some r)∧Aside0 (kq≤k1)∧Aside0 (Kd.S (Kd.slice 3 (Kd.int .i64)) 31 w' w.heap.size (fun k_=>some k_≠(v6:Value).ownBlock) u3 x3_1)∧Aside0 (Kd.R Kd.bool 4 w' w.heap.size (fun _=>True) v148 x4_2)∧Aside0 (Kd.R (Kd.int .i64) 3 w' w.heap.size (fun _=>True) v6 x6_2)∧Aside0 (Below w.heap.size w w'))
      case atStart=>exact ⟨(x4_1),(y150),(x14_1),(by first|rfl|(simp;done)|(simp [*];done)),H',⟨Nat.le_refl _⟩,⟨by (with_reducible repeat (first|apply Kd.S_alloc|apply Kd.S_drewN|apply Kd.S_drew));exact Kd.S_mono HO_3.out (fun _ hk=>hk.2)⟩,⟨by apply zR_;exact HO_4.out⟩,⟨by apply zR_;exact HO152.out⟩,⟨by exact zB_ HB.out⟩⟩
      case round =>
       clear H'
       (try clear c2);(try clear c2b0);(try clear c2b1);(try clear p2);(try clear c3);(try clear c3b0);(try clear c3b1);(try clear c5);(try clear c8);(try clear c8b0);(try clear p2)
       obtain ⟨x4_2,x6_2,x7_2,rfl,HA,HK2,HO_3,HO_4,HO_6,HB⟩:=hrel
       cases gk with
       | zero=>exact absurd HA.out (by simp [impl_cyclesOf.l1])
       | succ k2 =>
        have H:=HA.out
        clear HA
        simp only [impl_cyclesOf.l1] at H
        by_cases c11:0≤x7_2
        ·rw [if_pos c11] at H
         have c11b0:decide (0≤x7_2) = true:=zO c11
         clear c11
         by_cases c12:x7_2 < (x4_2.length:Int)
         ·rw [if_pos c12] at H
          have c12b0:decide (x7_2 < (x4_2.length:Int)) = true:=zO c12
          clear c12
          obtain ⟨bq13,hbq13⟩:∃ b_:Bool,b_ = (rdOf false x4_2 x7_2):=⟨_,rfl⟩
          replace H:(if bq13 = true then (if (x6_2.length:Int) > 0 then (if x3_1.length < 5864062014805 then (impl_cyclesOf.l0 k2 l0 (x3_1 ++ [x6_2]) x4_2 (l0.length:Int) (wrap64 (x14_1+1))) else (none)) else (impl_cyclesOf.l0 k2 l0 x3_1 x4_2 (l0.length:Int) (wrap64 (x14_1+1)))) else (if x6_2.length < 17592186044416 then (if x7_2 < (l0.length:Int) then (impl_cyclesOf.l1 k2 l0 x3_1 (x4_2.set (x7_2:Int).toNat true) (x6_2 ++ [x7_2]) (rd l0 x7_2) (l0.length:Int) x14_1) else (none)) else (none))) = some r:=by rw [← hbq13] at H;exact H
          have Nbq13:=zA hbq13
          clear hbq13
          by_cases c14:bq13 = true
          ·subst c14
           rw [if_pos rfl] at H;try dsimp only at H
           by_cases c15:(x6_2.length:Int) > 0
           ·rw [if_pos c15] at H
            have c15b0:decide (0 < (x6_2.length:Int)) = true:=zO c15
            have c15b1:decide (0 < x6_2.length) = true:=zO (by omega)
            clear c15
            by_cases c16:x3_1.length < 5864062014805
            ·rw [if_pos c16] at H
             have LMc16:=zA c16
             clear c16
             obtain ⟨y154,hy154⟩:∃ y_:List (List Int),y_ = (x3_1 ++ [x6_2]):=⟨_,rfl⟩
             replace H:(impl_cyclesOf.l0 k2 l0 y154 x4_2 (l0.length:Int) (wrap64 (x14_1+1))) = some r:=by (try rw [hy154]);first|with_reducible exact H|with_reducible exact zS_ H|exact H
             have Ny154:=zA hy154
             clear hy154
             have H':=zA H
             clear H
             obtain ⟨Ao17,co17,eo17⟩:=zg HO_4.out
             subst eo17
             have p153:0≤(x7_2:Int):=zE (by with_reducible assumption)
             have q153:x7_2 < (x4_2.length:Int):=zE (by with_reducible assumption)
             obtain ⟨ad153,e153,hx153_0⟩:=Kd.at_bool (zU HO_4.out).2.2 x7_2 p153 q153
             (try rw [← Nbq13.out] at hx153_0)
             cases e153
             replace p153:=eq_true p153
             replace q153:=eq_true q153
             obtain ⟨Ao18,co18,eo18⟩:=zg HO_6.out
             subst eo18
             go_wp2_with (first|((with_reducible refine gate_builtin (b:=.append) (xs:=#[.tmp 38,.tmp 40]) rfl ?_);at_builtin;refine Kd.S_append (Kd.slice 3 (Kd.int .i64)) (w0:=w) w.heap.size rfl (.tmp 38) (.tmp 40) 55 31 (.slice none 0 0) 24 rfl Try.underlying55 info31 rfl (by decide) (by omega) u3 x3_1 x6_2 [.slice Ao18 x6_2.length co18] (fun _=>True) (fun k_=>some k_ = (.slice Ao18 x6_2.length co18:Value).ownBlock) rfl rfl ?aP (fun k_ hk_=>((zV (ok':=fun k_=>((fun _=>True)) k_∧some k_≠(u3:Value).ownBlock) (Kd.R_apart' (HO_6.out) (Kd.S_typed HO_3.out) (by decide)) (fun k_ hk=>⟨trivial,hk.2⟩))).1 k_ hk_.symm) ?aF ?aO ?aB ?aS ?aL ?_;(case aP=>exact Kd.M_row (zV (Kd.R_tight rfl (zV (ok':=fun k_=>((fun _=>True)) k_∧some k_≠(u3:Value).ownBlock) (Kd.R_apart' (HO_6.out) (Kd.S_typed HO_3.out) (by decide)) (fun k_ hk=>⟨trivial,hk.2⟩))) (fun _ h_=>h_)));(case aB=>exact (by exact zB_ HB.out));(case aF=>exact (fun _ _=>trivial));(case aO=>exact (by (with_reducible repeat (first|apply Kd.S_alloc|apply Kd.S_drewN|apply Kd.S_drew));exact Kd.S_mono HO_3.out (fun k_ hk=>⟨trivial,fun e_=>hk e_⟩)));(case aS=>exact (zQ (by exact zB_ HB.out)));(case aL=>have:=LMc16.out;omega);intro v155 w19 ho hb hg hat;rw [← Ny154.out] at ho;have n0_:=zA (Kd.R_over' (by apply zR_;exact HO_4.out) (Kd.S_typed (by (with_reducible repeat (first|apply Kd.S_alloc|apply Kd.S_drewN|apply Kd.S_drew));exact HO_3.out)) (by decide) hg);have n1_:=zA (hb);have n2_:=zA (ho);clear HO_4;clear HB;clear HO_3;clear HO_6;have HO_4:=n0_;have HB:=n1_;have HO156:=n2_;clear n0_ n1_ n2_;clear ho hb hg hat))
             go_roundg k2
             case measure=>have:=HK1.out;have:=HK2.out;omega
             case rel=>exact ⟨(y154),(x4_2),(wrap64 (x14_1+1)),(by first|rfl|(simp;done)|(simp [*];done)),H',⟨by have:=HK1.out;have:=HK2.out;omega⟩,⟨by (with_reducible repeat (first|apply Kd.S_alloc|apply Kd.S_drewN|apply Kd.S_drew));exact HO156.out⟩,⟨by apply zR_;exact HO_4.out⟩,⟨by exact zB_ HB.out⟩⟩
            ·rw [if_neg c16] at H
             exact absurd H (by simp)
           ·rw [if_neg c15] at H
            have c15b0:decide (0 < (x6_2.length:Int)) = false:=zP c15
            have c15b1:decide (0 < x6_2.length) = false:=zP (by omega)
            clear c15
            have H':=zA H
            clear H
            obtain ⟨Ao20,co20,eo20⟩:=zg HO_4.out
            subst eo20
            have p153:0≤(x7_2:Int):=zE (by with_reducible assumption)
            have q153:x7_2 < (x4_2.length:Int):=zE (by with_reducible assumption)
            obtain ⟨ad153,e153,hx153_0⟩:=Kd.at_bool (zU HO_4.out).2.2 x7_2 p153 q153
            (try rw [← Nbq13.out] at hx153_0)
            cases e153
            replace p153:=eq_true p153
            replace q153:=eq_true q153
            obtain ⟨Ao21,co21,eo21⟩:=zg HO_6.out
            subst eo21
            go_wp2
            go_roundg k2
            case measure=>have:=HK1.out;have:=HK2.out;omega
            case rel=>exact ⟨(x3_1),(x4_2),(wrap64 (x14_1+1)),(by first|rfl|(simp;done)|(simp [*];done)),H',⟨by have:=HK1.out;have:=HK2.out;omega⟩,⟨by (with_reducible repeat (first|apply Kd.S_alloc|apply Kd.S_drewN|apply Kd.S_drew));exact Kd.S_mono HO_3.out (fun _ hk=>trivial)⟩,⟨by apply zR_;exact HO_4.out⟩,⟨by exact zB_ HB.out⟩⟩
          ·replace c14:=Bool.eq_false_iff.mpr c14
           subst c14
           have H1:(if x6_2.length < 17592186044416 then (if x7_2 < (l0.length:Int) then (impl_cyclesOf.l1 k2 l0 x3_1 (x4_2.set (x7_2:Int).toNat true) (x6_2 ++ [x7_2]) (rd l0 x7_2) (l0.length:Int) x14_1) else (none)) else (none)) = some r:=by rw [if_neg (show ¬ (false = true) by decide)] at H;exact H
           clear H
           have H:=H1
           clear H1
           obtain ⟨y157,hy157⟩:∃ y_:List Bool,y_ = (x4_2.set (x7_2:Int).toNat true):=⟨_,rfl⟩
           replace H:(if x6_2.length < 17592186044416 then (if x7_2 < (l0.length:Int) then (impl_cyclesOf.l1 k2 l0 x3_1 y157 (x6_2 ++ [x7_2]) (rd l0 x7_2) (l0.length:Int) x14_1) else (none)) else (none)) = some r:=by (try rw [hy157]);first|with_reducible exact H|with_reducible exact zS_ H|exact H
           have Ny157:=zA hy157
           clear hy157
           by_cases c23:x6_2.length < 17592186044416
           ·rw [if_pos c23] at H
            have LMc23:=zA c23
            clear c23
            obtain ⟨y158,hy158⟩:∃ y_:List Int,y_ = (x6_2 ++ [x7_2]):=⟨_,rfl⟩
            replace H:(if x7_2 < (l0.length:Int) then (impl_cyclesOf.l1 k2 l0 x3_1 y157 y158 (rd l0 x7_2) (l0.length:Int) x14_1) else (none)) = some r:=by (try rw [hy158]);first|with_reducible exact H|with_reducible exact zS_ H|exact H
            have Ny158:=zA hy158
            clear hy158
            by_cases c24:x7_2 < (l0.length:Int)
            ·rw [if_pos c24] at H
             have c24b0:decide (x7_2 < (l0.length:Int)) = true:=zO c24
             clear c24
             have H':=zA H
             clear H
             obtain ⟨Ao25,co25,eo25⟩:=zg HO_4.out
             subst eo25
             have p153:0≤(x7_2:Int):=zE (by with_reducible assumption)
             have q153:x7_2 < (x4_2.length:Int):=zE (by with_reducible assumption)
             obtain ⟨ad153,e153,hx153_0⟩:=Kd.at_bool (zU HO_4.out).2.2 x7_2 p153 q153
             (try rw [← Nbq13.out] at hx153_0)
             cases e153
             replace p153:=eq_true p153
             replace q153:=eq_true q153
             have p22:0≤(x7_2:Int):=zE (by with_reducible assumption)
             have q22:(x7_2:Int) < ((x4_2.length:Int):Int):=zE (by with_reducible assumption)
             obtain ⟨go22,co22,eo22,gb22,gl22,cl22,HG22⟩:=Kd.R_form HO_4.out (by omega)
             (first|cases eo22|(injection eo22 with ea_ en_ ec_;(first|subst ea_|(injection ea_ with ea_;subst ea_));subst ec_;clear en_))
             have GB22:=zA gb22
             have GG22:=zA HG22
             clear gb22 gl22 HG22
             (first|simp only [add_plain] at hx153_0|skip)
             obtain ⟨hx22_0,hf22_0⟩:=Kd.R_celln false HO_4.out (x7_2:Int) p22 q22
             replace p22:=eq_true p22
             replace q22:=eq_true q22
             have HP26:=Kd.R_putg HO_4.out (x7_2:Int) true
             go_wp2_with (first|((with_reducible refine gate_store (t:=4) (p:=30) rfl ?_);refine store_event (t:=4) (p:=30) (v:=?vo_w27) (w1:=(wr.setCell ⟨go22,(x7_2:Int).toNat,none⟩ (.bool true))) ?hg ?ho ?hn ?hr ?_;(case ho=>rfl);(case hg=>rfl);(case hn=>rfl);(case hr=>first|(go_simp;done)|(go_simp;rfl));intro w27 hw;have hg:wr.grownBy w27 (some go22):=(by rw [hw];exact HP26.2);have hp_:Kd.R Kd.bool 4 w27 w.heap.size (fun _=>True) (.slice (some ⟨go22,0,none⟩) x4_2.length co25) y157:=(by rw [hw,Ny157.out];exact HP26.1);clear HP26;have n0_:=zA (Kd.S_over' (v:=(.slice (some ⟨go22,0,none⟩) x4_2.length co25)) (by (with_reducible repeat (first|apply Kd.S_alloc|apply Kd.S_drewN|apply Kd.S_drew));exact HO_3.out) (Kd.R_typed HO_4.out) (by decide) hg);have n1_:=zA (hp_);have n2_:=zA (Kd.R_over' (v:=(.slice (some ⟨go22,0,none⟩) x4_2.length co25)) (by apply zR_;exact HO_6.out) (Kd.R_typed HO_4.out) (by decide) hg);have n3_:=zA ((by rw [hw];exact zF (HB.out) GB22.out:Below w.heap.size w w27));clear HO_3;clear HO_4;clear HO_6;clear HB;have HO_3:=n0_;have HO_4:=n1_;have HO_6:=n2_;have HB:=n3_;clear n0_ n1_ n2_ n3_;clear hg hw hp_)|((with_reducible refine gate_builtin (b:=.append) (xs:=#[.tmp 31,.tmp 33]) rfl ?_);at_builtin;refine Kd.R_append (Kd.int .i64) (w0:=w) w.heap.size rfl (.tmp 31) (.tmp 33) 31 3 (.int .i64 0) 8 rfl Try.underlying31 info3 rfl (by decide) (by omega) u6 x6_2 x7_2 [.int .i64 x7_2] (fun _=>True) (fun _=>False) rfl rfl ?aP (fun _ hk=>hk.elim) ?aF ?aO ?aB ?aS ?aL ?_;(case aP=>exact rfl);(case aB=>exact (by exact zB_ HB.out));(case aF=>exact (fun _ _=>trivial));(case aO=>exact (by apply zR_;exact HO_6.out));(case aS=>exact (zQ (by exact zB_ HB.out)));(case aL=>have:=LMc23.out;omega);intro v159 w28 ho hb hg hat;rw [← Ny158.out] at ho;have n0_:=zA (Kd.S_after (ok:=(fun _=>True)) (by (with_reducible repeat (first|apply Kd.S_alloc|apply Kd.S_drewN|apply Kd.S_drew));exact Kd.S_mono HO_3.out (fun _ hk=>⟨trivial,hk⟩)) hg hat);have n1_:=zA (Kd.R_over' (by apply zR_;exact HO_4.out) (Kd.R_typed (by apply zR_;exact HO_6.out)) (by decide) hg);have n2_:=zA (hb);have n3_:=zA (ho);clear HO_3;clear HO_4;clear HB;clear HO_6;have HO_3:=n0_;have HO_4:=n1_;have HB:=n2_;have HO160:=n3_;clear n0_ n1_ n2_ n3_;clear ho hb hg hat;have p161:0≤(x7_2:Int):=zE (by with_reducible assumption);have q161:x7_2 < (l0.length:Int):=zE (by with_reducible assumption);obtain ⟨ad161,e161,hx161_0⟩:=Kd.at_int HR0.out x7_2 p161 q161;cases e161;replace hx161_0:=(HB.out.cell (zY w _ hx161_0)).trans hx161_0;replace p161:=eq_true p161;replace q161:=eq_true q161))
             go_roundg k2
             case measure=>have:=HK1.out;have:=HK2.out;omega
             case rel=>exact ⟨(y157),(y158),(rd l0 x7_2),(by first|rfl|(simp;done)|(simp [*];done)),H',⟨by have:=HK1.out;have:=HK2.out;omega⟩,⟨by (with_reducible repeat (first|apply Kd.S_alloc|apply Kd.S_drewN|apply Kd.S_drew));exact Kd.S_mono HO_3.out (fun _ hk=>hk.2)⟩,⟨by apply zR_;exact HO_4.out⟩,⟨by apply zR_;exact HO160.out⟩,⟨by exact zB_ HB.out⟩⟩
            ·rw [if_neg c24] at H
             exact absurd H (by simp)
           ·rw [if_neg c23] at H
            exact absurd H (by simp)
         ·rw [if_neg c12] at H
          exact absurd H (by simp)
        ·rw [if_neg c11] at H
         exact absurd H (by simp)
     ·rw [if_neg c8] at H
      have c8b0:decide (x14_1 < (l0.length:Int)) = false:=zP c8
      clear c8
      obtain rfl:=zS H
      go_wp2
      go_ret
      exact ⟨_,by first|rfl|(simp [errW_none,errW_some] <;> rfl)|(simp [*,errW_none,errW_some] <;> rfl),by (with_reducible repeat (first|apply Kd.S_alloc|apply Kd.S_drewN|apply Kd.S_drew));exact HO_3.out,by exact zB_ HB.out⟩
  ·rw [if_neg c3] at H
   exact absurd H (by simp)
 ·rw [if_neg c2] at H
  exact absurd H (by simp)

/-! ### impl_genusOf: function 52 -/
def impl_genusOf.f (k:Nat) (l0_0:List Int) (l0_1:List Int):Option (Int):=(impl_cyclesOf.f k l0_0).bind fun t163=>((impl_mul.f k l0_1 l0_0).bind fun t166=>((impl_cyclesOf.f k t166).bind fun t169=>(some (wrap64 (Int.tdiv (wrap64 ((wrap64 ((wrap64 (2 - (t163.length:Int)))+(wrap64 ((l0_1.length:Int) / 2)))) - (t169.length:Int))) 2)))))
theorem impl_genusOf.mono:∀ a0 a1 k,LeO (impl_genusOf.f k a0 a1) (impl_genusOf.f (k+1) a0 a1):=by
 intro a0 a1 k
 unfold impl_genusOf.f
 repeat' first
   | (with_reducible exact impl_cyclesOf.mono _ _)
   | (with_reducible exact impl_mul.mono _ _ _)
   | (with_reducible exact LeO.refl _)
   | (with_reducible exact za _)
   | (with_reducible refine zc ?_ ?_)
   | (with_reducible refine zb ?_ (fun _=>?_))
def impl_genusOf.T1:Bool × List (List Nat × List Nat):=(true,[([],[]),([0],[0]),([1],[1]),([2],[2]),([3],[3]),([],[]),([5],[5]),([6],[6]),([7],[7]),([4,8],[4,8]),([],[]),([10],[10]),([],[]),([12],[12]),([11,13,2],[11,13]),([14,14],[14]),([15],[15]),([9,16],[9,16]),([17],[17]),([18,15,0,1,2,3,4,5,6,7,8,9,10,11,12,13,14,15,16,17,18],[18])])
def impl_genusOf.B1:List Nat:=[0,1,3,7,15,0,32,96,224,511,0,1024,0,4096,15367,31751,64519,131071,262143,524287]
theorem impl_genusOf.tab1:rtab .any (opsOf Try.f52 1) = impl_genusOf.T1:=by kernel_rfl
theorem impl_genusOf.bits1:waitsOk impl_genusOf.T1.2 impl_genusOf.B1 = true:=by kernel_rfl
set_option maxHeartbeats 8000000 in
set_option maxRecDepth 100000 in
theorem impl_genusOf.calls (k:Nat) (A0_0:Option Addr) (c0_0:Nat) (l0_0:List Int) (A0_1:Option Addr) (c0_1:Nat) (l0_1:List Int) (r:Int) (w:World) (hr0_0:Kd.C (Kd.int .i64) w A0_0 l0_0.length l0_0) (hc0_0:l0_0.length≤c0_0) (hr0_1:Kd.C (Kd.int .i64) w A0_1 l0_1.length l0_1) (hc0_1:l0_1.length≤c0_1) (h:impl_genusOf.f k l0_0 l0_1 = some r) :
  Calls Try.prog 52 #[.agg #[.slice A0_0 l0_0.length c0_0,.slice A0_1 l0_1.length c0_1]] w fun e w'=>e = .returned (.int .i64 r)∧Below w.heap.size w w':=by
 have hu33:=Try.underlying33
 have HR0_0:=zA hr0_0
 have HC0_0:=zA hc0_0
 clear hr0_0 hc0_0
 have HR0_1:=zA hr0_1
 have HC0_1:=zA hc0_1
 clear hr0_1 hc0_1
 have HB:=zA (Below.refl w.heap.size w)
 have H:((impl_cyclesOf.f k l0_0).bind fun t163=>((impl_mul.f k l0_1 l0_0).bind fun t166=>((impl_cyclesOf.f k t166).bind fun t169=>(some (wrap64 (Int.tdiv (wrap64 ((wrap64 ((wrap64 (2 - (t163.length:Int)))+(wrap64 ((l0_1.length:Int) / 2)))) - (t169.length:Int))) 2)))))) = some r:=h
 clear h
 replace H:=zz0 H
 obtain ⟨t163,A20,H⟩:=H
 try dsimp only at H
 have A2:=zA A20
 clear A20
 replace H:=zz0 H
 obtain ⟨t166,A30,H⟩:=H
 try dsimp only at H
 have A3:=zA A30
 clear A30
 replace H:=zz0 H
 obtain ⟨t169,A40,H⟩:=H
 try dsimp only at H
 have A4:=zA A40
 clear A40
 obtain rfl:=zS H
 go_enter Try.func52,Try.ntmps52
 try go_wp2_with (first|((with_reducible refine gate_dst (N:=1) rfl ?_);refine box_event ?hg (N:=1) ?hd (cs:=#[.slice A0_0 l0_0.length c0_0,.slice A0_1 l0_1.length c0_1]) (t:=33) ?hr ?_;(case hd=>rfl);(case hg=>rfl);(case hr=>first|(go_simp;done)|(go_simp;rfl));intro gb162 hg w5 hbox hb;have n0_:=zA (zR (by exact zB_ HB.out) hb);have n1_:=zA (hbox);have n2_:=zA ((by rw [hg];exact (zQ (by exact zB_ HB.out)):w.heap.size≤gb162));have n3_:=zA ((by rw [hg];exact (zQ (by exact zB_ HB.out)):w.heap.size≤gb162));clear HB;have HB:=n0_;have BK162:=n1_;have GW162:=n2_;have GE162:=n3_;clear n0_ n1_ n2_ n3_;clear hb hbox hg))
 have n0_:=zA (zI BK162.out)
 have n1_:=zA (zC HB.out)
 clear BK162 HB
 have BK162:=n0_
 have HB:=n1_
 clear n0_ n1_
 refine start_ (n:=20) (S:=fun w'=>w'.cell? ⟨gb162,0,none⟩ = some (.slice A0_0 l0_0.length c0_0)∧w'.cell? ⟨gb162,1,none⟩ = some (.slice A0_1 l0_1.length c0_1)) (ds:=[]) #[zf,zf,zf,zf,zf,zf,zf,zf,zf,zf,zf,zf,zf,zf,zf,zf,zf,zf,zf,zf] (by kernel_rfl) rfl rfl ⟨(zT BK162.out 0).trans rfl,(zT BK162.out 1).trans rfl⟩ (fun hHeld=>?_);refine with_tabW impl_genusOf.tab1 impl_genusOf.bits1 (fun HT_ HW_=>?_)
 generalize w5.drew = w6 at BK162 HB hHeld ⊢
 refine pure_ (i:=0) (N:=some 3) (v:=?_) (a':=?_) #[zt,zf,zf,zf,zf,zf,zf,zf,zf,zf,zf,zf,zf,zf,zf,zf,zf,zf,zf,zf] rfl rfl (any_of HT_.out (by kernel_rfl)) (fun _ _ _ h=>h) (Or.inl ⟨by rfl,?_⟩) ?_ ?_
 rotate_left
 ·intro w'
  go_simp
  with_reducible rfl
 rotate_left
 ·simp only [Act.put,zP_,i64_w]
  rfl
 refine pure_ (i:=5) (N:=some 8) (v:=?_) (a':=?_) #[zt,zf,zf,zf,zf,zt,zf,zf,zf,zf,zf,zf,zf,zf,zf,zf,zf,zf,zf,zf] rfl rfl (any_of HT_.out (by kernel_rfl)) (fun _ _ _ h=>h) (Or.inl ⟨by rfl,?_⟩) ?_ ?_
 rotate_left
 ·intro w'
  go_simp
  with_reducible rfl
 rotate_left
 ·simp only [Act.put,zP_,i64_w]
  rfl
 refine pure_ (i:=10) (N:=some 13) (v:=?_) (a':=?_) #[zt,zf,zf,zf,zf,zt,zf,zf,zf,zf,zt,zf,zf,zf,zf,zf,zf,zf,zf,zf] rfl rfl (any_of HT_.out (by kernel_rfl)) (fun _ _ _ h=>h) (Or.inl ⟨by rfl,?_⟩) ?_ ?_
 rotate_left
 ·intro w'
  go_simp
  with_reducible rfl
 rotate_left
 ·simp only [Act.put,zP_,i64_w]
  rfl
 refine pure_ (i:=12) (N:=some 15) (v:=?_) (a':=?_) #[zt,zf,zf,zf,zf,zt,zf,zf,zf,zf,zt,zf,zt,zf,zf,zf,zf,zf,zf,zf] rfl rfl (any_of HT_.out (by kernel_rfl)) (fun _ _ _ h=>h) (Or.inl ⟨by rfl,?_⟩) ?_ ?_
 rotate_left
 ·intro w'
  go_simp
  with_reducible rfl
 rotate_left
 ·simp only [Act.put,zP_,i64_w]
  rfl
 refine take_ (i:=1) (N:=some 4) (v:=?_) (a':=?_) #[zt,zt,zf,zf,zf,zt,zf,zf,zf,zf,zt,zf,zt,zf,zf,zf,zf,zf,zf,zf] rfl rfl (take_ofW HT_.out HW_.out (by kernel_rfl)) (fun _ _ _ h=>h) (Or.inl ⟨by rfl,?_⟩) hHeld ?_ ?_
 rotate_left
 ·rintro w' ⟨s0,s1⟩
  go_simp
  with_reducible rfl
 rotate_left
 ·simp only [Act.put,zP_,i64_w]
  rfl
 refine take_ (i:=6) (N:=some 9) (v:=?_) (a':=?_) #[zt,zt,zf,zf,zf,zt,zt,zf,zf,zf,zt,zf,zt,zf,zf,zf,zf,zf,zf,zf] rfl rfl (take_ofW HT_.out HW_.out (by kernel_rfl)) (fun _ _ _ h=>h) (Or.inl ⟨by rfl,?_⟩) hHeld ?_ ?_
 rotate_left
 ·rintro w' ⟨s0,s1⟩
  go_simp
  with_reducible rfl
 rotate_left
 ·simp only [Act.put,zP_,i64_w]
  rfl
 refine pure_ (i:=7) (N:=some 10) (v:=?_) (a':=?_) #[zt,zt,zf,zf,zf,zt,zt,zt,zf,zf,zt,zf,zt,zf,zf,zf,zf,zf,zf,zf] rfl rfl (any_of HT_.out (by kernel_rfl)) (fun _ _ _ h=>h) (Or.inl ⟨by rfl,?_⟩) ?_ ?_
 rotate_left
 ·intro w'
  go_simp
  with_reducible rfl
 rotate_left
 ·simp only [Act.put,zP_,i64_w]
  rfl
 refine pure_ (i:=8) (N:=some 11) (v:=?_) (a':=?_) #[zt,zt,zf,zf,zf,zt,zt,zt,zt,zf,zt,zf,zt,zf,zf,zf,zf,zf,zf,zf] rfl rfl (any_of HT_.out (by kernel_rfl)) (fun _ _ _ h=>h) (Or.inl ⟨by rfl,?_⟩) ?_ ?_
 rotate_left
 ·intro w'
  go_simp
  with_reducible rfl
 rotate_left
 ·simp only [Act.put,zP_,i64_w]
  rfl
 refine take_ (i:=11) (N:=some 14) (v:=?_) (a':=?_) #[zt,zt,zf,zf,zf,zt,zt,zt,zt,zf,zt,zt,zt,zf,zf,zf,zf,zf,zf,zf] rfl rfl (take_ofW HT_.out HW_.out (by kernel_rfl)) (fun _ _ _ h=>h) (Or.inl ⟨by rfl,?_⟩) hHeld ?_ ?_
 rotate_left
 ·rintro w' ⟨s0,s1⟩
  go_simp
  with_reducible rfl
 rotate_left
 ·simp only [Act.put,zP_,i64_w]
  rfl
 refine take_ (i:=13) (N:=some 16) (v:=?_) (a':=?_) #[zt,zt,zf,zf,zf,zt,zt,zt,zt,zf,zt,zt,zt,zt,zf,zf,zf,zf,zf,zf] rfl rfl (take_ofW HT_.out HW_.out (by kernel_rfl)) (fun _ _ _ h=>h) (Or.inl ⟨by rfl,?_⟩) hHeld ?_ ?_
 rotate_left
 ·rintro w' ⟨s0,s1⟩
  go_simp
  with_reducible rfl
 rotate_left
 ·simp only [Act.put,zP_,i64_w]
  rfl
 refine one_ (i:=2) (N:=some 5) #[zt,zt,zt,zf,zf,zt,zt,zt,zt,zf,zt,zt,zt,zt,zf,zf,zf,zf,zf,zf] rfl rfl (one_of HT_.out (by kernel_rfl)) (by decide) (fun K hK=>?_)
 refine goes_ Try.func56 (by kernel_rfl) rfl #[.slice A0_0 l0_0.length c0_0] (by rfl) rfl rfl (by (try simp only [zJ,zM,zN]);first|done|rfl|(simp only [zL,zK];rfl)) ?_
 with_reducible refine (impl_cyclesOf.calls k _ _ l0_0 t163 _ ?side1 ?side2 A2.out).mono ?_
 (case side1=>repeat (first|exact (zW HR0_0.out HB.out)|(with_reducible exact HR0_0.out)|apply zC_))
 (case side2=>exact HC0_0.out)
 rintro e w7 ⟨v164,rfl,ho0,hb⟩
 refine ⟨_,rfl,?_⟩
 have n0_:=zA (Kd.S_lower ho0 (zQ (by repeat (first|(with_reducible first|exact HB.out|apply zD|apply zB|apply zC|refine zF ?_ GE162.out)|exact HB.out))))
 have n1_:=zA (zX (g:=gb162) (o:=.cells #[.slice A0_0 l0_0.length c0_0,.slice A0_1 l0_1.length c0_1] 33 (0,0)) (by (with_reducible repeat (first|refine zG ?_ _|refine zI ?_|refine zH ?_ _));exact BK162.out) hb)
 have n2_:=zA (zR (by repeat (first|(with_reducible first|exact HB.out|apply zD|apply zB|apply zC|refine zF ?_ GE162.out)|exact HB.out)) hb)
 clear BK162 HB
 have HO165:=n0_
 have BK162:=n1_
 have HB:=n2_
 clear n0_ n1_ n2_
 (try clear hb);(try clear hb2);(try clear hk);(try clear hi);(try clear ho0)
 obtain ⟨Ao8,co8,eo8⟩:=Kd.S_slice HO165.out
 (first|subst eo8|(injection eo8 with f1_ f2_ f3_;have f4_:=f1_.symm;have f5_:=f3_.symm;clear f1_ f2_ f3_;subst f4_;subst f5_))
 refine hK.out _ _ ⟨(zT BK162.out 0).trans rfl,(zT BK162.out 1).trans rfl⟩ (fun hHeld=>?_)
 clear hK K
 refine norm_ (a':=?_) ?_ ?_
 rotate_left
 ·show Act.put _ (some 5) _ = _
  simp only [Act.put,zP_,i64_w]
  rfl
 refine pure_ (i:=3) (N:=some 6) (v:=?_) (a':=?_) #[zt,zt,zt,zt,zf,zt,zt,zt,zt,zf,zt,zt,zt,zt,zf,zf,zf,zf,zf,zf] rfl rfl (any_of HT_.out (by kernel_rfl)) (fun _ _ _ h=>h) (Or.inl ⟨by rfl,?_⟩) ?_ ?_
 rotate_left
 ·intro w'
  go_simp
  with_reducible rfl
 rotate_left
 ·simp only [Act.put,zP_,i64_w]
  rfl
 refine pure_ (i:=4) (N:=some 7) (v:=?_) (a':=?_) #[zt,zt,zt,zt,zt,zt,zt,zt,zt,zf,zt,zt,zt,zt,zf,zf,zf,zf,zf,zf] rfl rfl (any_of HT_.out (by kernel_rfl)) (fun _ _ _ h=>h) (Or.inl ⟨by rfl,?_⟩) ?_ ?_
 rotate_left
 ·intro w'
  go_simp
  with_reducible rfl
 rotate_left
 ·simp only [Act.put,zP_,i64_w]
  rfl
 refine pure_ (i:=9) (N:=some 12) (v:=?_) (a':=?_) #[zt,zt,zt,zt,zt,zt,zt,zt,zt,zt,zt,zt,zt,zt,zf,zf,zf,zf,zf,zf] rfl rfl (any_of HT_.out (by kernel_rfl)) (fun _ _ _ h=>h) (Or.inl ⟨by rfl,?_⟩) ?_ ?_
 rotate_left
 ·intro w'
  go_simp
  with_reducible rfl
 rotate_left
 ·simp only [Act.put,zP_,i64_w]
  rfl
 refine one_ (i:=14) (N:=some 17) #[zt,zt,zt,zt,zt,zt,zt,zt,zt,zt,zt,zt,zt,zt,zt,zf,zf,zf,zf,zf] rfl rfl (one_of HT_.out (by kernel_rfl)) (by decide) (fun K hK=>?_)
 refine goes_ Try.func49 (by kernel_rfl) rfl #[.slice A0_1 l0_1.length c0_1,.slice A0_0 l0_0.length c0_0] (by rfl) rfl rfl (by (try simp only [zJ,zM,zN]);first|done|rfl|(simp only [zL,zK];rfl)) ?_
 with_reducible refine (impl_mul.calls k _ _ l0_1 _ _ l0_0 t166 _ ?side1 ?side2 ?side3 ?side4 A3.out).mono ?_
 (case side1=>repeat (first|exact (zW HR0_1.out HB.out)|(with_reducible exact HR0_1.out)|apply zC_))
 (case side2=>exact HC0_1.out)
 (case side3=>repeat (first|exact (zW HR0_0.out HB.out)|(with_reducible exact HR0_0.out)|apply zC_))
 (case side4=>exact HC0_0.out)
 rintro e w9 ⟨v167,rfl,ho0,hb⟩
 refine ⟨_,rfl,?_⟩
 have n0_:=zA (Kd.S_elder' (by (with_reducible repeat (first|apply Kd.S_alloc|apply Kd.S_drewN|apply Kd.S_drew));exact HO165.out) (zd ho0) hb)
 have n1_:=zA (ze ho0 (zQ (by repeat (first|(with_reducible first|exact HB.out|apply zD|apply zB|apply zC|refine zF ?_ GE162.out)|exact HB.out))))
 have n2_:=zA (zX (g:=gb162) (o:=.cells #[.slice A0_0 l0_0.length c0_0,.slice A0_1 l0_1.length c0_1] 33 (0,0)) (by (with_reducible repeat (first|refine zG ?_ _|refine zI ?_|refine zH ?_ _));exact BK162.out) hb)
 have n3_:=zA (zR (by repeat (first|(with_reducible first|exact HB.out|apply zD|apply zB|apply zC|refine zF ?_ GE162.out)|exact HB.out)) hb)
 clear HO165 BK162 HB
 have HO165:=n0_
 have HO168:=n1_
 have BK162:=n2_
 have HB:=n3_
 clear n0_ n1_ n2_ n3_
 (try clear hb);(try clear hb2);(try clear hk);(try clear hi);(try clear ho0)
 obtain ⟨Ao10,co10,eo10⟩:=zg HO168.out
 (first|subst eo10|(injection eo10 with f1_ f2_ f3_;have f4_:=f1_.symm;have f5_:=f3_.symm;clear f1_ f2_ f3_;subst f4_;subst f5_))
 refine hK.out _ _ ⟨(zT BK162.out 0).trans rfl,(zT BK162.out 1).trans rfl⟩ (fun hHeld=>?_)
 clear hK K
 refine norm_ (a':=?_) ?_ ?_
 rotate_left
 ·show Act.put _ (some 17) _ = _
  simp only [Act.put,zP_,i64_w]
  rfl
 refine one_ (i:=15) (N:=some 18) #[zt,zt,zt,zt,zt,zt,zt,zt,zt,zt,zt,zt,zt,zt,zt,zt,zf,zf,zf,zf] rfl rfl (one_of HT_.out (by kernel_rfl)) (by decide) (fun K hK=>?_)
 refine goes_ Try.func56 (by kernel_rfl) rfl #[.slice Ao10 t166.length co10] (by rfl) rfl rfl (by (try simp only [zJ,zM,zN]);first|done|rfl|(simp only [zL,zK];rfl)) ?_
 with_reducible refine (impl_cyclesOf.calls k _ _ t166 t169 _ ?side1 ?side2 A4.out).mono ?_
 (case side1=>repeat (first|exact (zU HO168.out).2.2|apply zC_))
 (case side2=>exact (zU HO168.out).2.1)
 rintro e w11 ⟨v170,rfl,ho0,hb⟩
 refine ⟨_,rfl,?_⟩
 have n0_:=zA (Kd.S_elder' (by (with_reducible repeat (first|apply Kd.S_alloc|apply Kd.S_drewN|apply Kd.S_drew));exact HO165.out) (Kd.S_base ho0) hb)
 have n1_:=zA (Kd.R_below (by apply zR_;exact HO168.out) hb)
 have n2_:=zA (Kd.S_lower (Kd.S_new' (Kd.S_new' ho0 (Kd.S_lt (by (with_reducible repeat (first|apply Kd.S_alloc|apply Kd.S_drewN|apply Kd.S_drew));exact HO165.out))) (Kd.R_lt (by apply zR_;exact HO168.out))) (zQ (by repeat (first|(with_reducible first|exact HB.out|apply zD|apply zB|apply zC|refine zF ?_ GE162.out)|exact HB.out))))
 have n3_:=zA (zX (g:=gb162) (o:=.cells #[.slice A0_0 l0_0.length c0_0,.slice A0_1 l0_1.length c0_1] 33 (0,0)) (by (with_reducible repeat (first|refine zG ?_ _|refine zI ?_|refine zH ?_ _));exact BK162.out) hb)
 have n4_:=zA (zR (by repeat (first|(with_reducible first|exact HB.out|apply zD|apply zB|apply zC|refine zF ?_ GE162.out)|exact HB.out)) hb)
 clear HO165 HO168 BK162 HB
 have HO165:=n0_
 have HO168:=n1_
 have HO171:=n2_
 have BK162:=n3_
 have HB:=n4_
 clear n0_ n1_ n2_ n3_ n4_
 (try clear hb);(try clear hb2);(try clear hk);(try clear hi);(try clear ho0)
 obtain ⟨Ao12,co12,eo12⟩:=Kd.S_slice HO171.out
 (first|subst eo12|(injection eo12 with f1_ f2_ f3_;have f4_:=f1_.symm;have f5_:=f3_.symm;clear f1_ f2_ f3_;subst f4_;subst f5_))
 refine hK.out _ _ ⟨(zT BK162.out 0).trans rfl,(zT BK162.out 1).trans rfl⟩ (fun hHeld=>?_)
 clear hK K
 refine norm_ (a':=?_) ?_ ?_
 rotate_left
 ·show Act.put _ (some 18) _ = _
  simp only [Act.put,zP_,i64_w]
  rfl
 refine pure_ (i:=16) (N:=some 19) (v:=?_) (a':=?_) #[zt,zt,zt,zt,zt,zt,zt,zt,zt,zt,zt,zt,zt,zt,zt,zt,zt,zf,zf,zf] rfl rfl (any_of HT_.out (by kernel_rfl)) (fun _ _ _ h=>h) (Or.inl ⟨by rfl,?_⟩) ?_ ?_
 rotate_left
 ·intro w'
  go_simp
  with_reducible rfl
 rotate_left
 ·simp only [Act.put,zP_,i64_w]
  rfl
 refine pure_ (i:=17) (N:=some 20) (v:=?_) (a':=?_) #[zt,zt,zt,zt,zt,zt,zt,zt,zt,zt,zt,zt,zt,zt,zt,zt,zt,zt,zf,zf] rfl rfl (any_of HT_.out (by kernel_rfl)) (fun _ _ _ h=>h) (Or.inl ⟨by rfl,?_⟩) ?_ ?_
 rotate_left
 ·intro w'
  go_simp
  with_reducible rfl
 rotate_left
 ·simp only [Act.put,zP_,i64_w]
  rfl
 refine pure_ (i:=18) (N:=some 21) (v:=?_) (a':=?_) #[zt,zt,zt,zt,zt,zt,zt,zt,zt,zt,zt,zt,zt,zt,zt,zt,zt,zt,zt,zf] rfl rfl (any_of HT_.out (by kernel_rfl)) (fun _ _ _ h=>h) (Or.inl ⟨by rfl,?_⟩) ?_ ?_
 rotate_left
 ·intro w'
  go_simp
  with_reducible rfl
 rotate_left
 ·simp only [Act.put,zP_,i64_w]
  rfl
 refine pure_ (i:=19) (N:=some 2) (v:=?_) (a':=?_) #[zt,zt,zt,zt,zt,zt,zt,zt,zt,zt,zt,zt,zt,zt,zt,zt,zt,zt,zt,zt] rfl rfl (any_of HT_.out (by kernel_rfl)) (fun _ _ _ h=>h) (Or.inl ⟨by rfl,?_⟩) ?_ ?_
 rotate_left
 ·intro w'
  go_simp
  with_reducible rfl
 rotate_left
 ·simp only [Act.put,zP_,i64_w]
  rfl
 refine done_ (done_of HT_.out (by kernel_rfl)) ?_
 try go_wp2
 go_ret
 exact ⟨by first|rfl|(simp [errW_none,errW_some] <;> rfl)|(simp [*,errW_none,errW_some] <;> rfl),by repeat (first|(with_reducible first|exact HB.out|apply zD|apply zB|apply zC|refine zF ?_ GE162.out)|exact HB.out)⟩

/-! ### impl_MapGenus: function 24 -/
def impl_MapGenus.f (k:Nat) (l0_0:List Int) (l0_1:List Int):Option (Int):=(impl_MapValid.f k l0_0 l0_1).bind fun t173=>(if t173 = true then ((impl_genusOf.f k l0_0 l0_1).bind fun t174=>(some t174)) else (some (-1)))
theorem impl_MapGenus.mono:∀ a0 a1 k,LeO (impl_MapGenus.f k a0 a1) (impl_MapGenus.f (k+1) a0 a1):=by
 intro a0 a1 k
 unfold impl_MapGenus.f
 repeat' first
   | (with_reducible exact impl_MapValid.mono _ _ _)
   | (with_reducible exact impl_genusOf.mono _ _ _)
   | (with_reducible exact LeO.refl _)
   | (with_reducible exact za _)
   | (with_reducible refine zc ?_ ?_)
   | (with_reducible refine zb ?_ (fun _=>?_))
set_option maxHeartbeats 8000000 in
set_option maxRecDepth 100000 in
theorem impl_MapGenus.calls (k:Nat) (A0_0:Option Addr) (c0_0:Nat) (l0_0:List Int) (A0_1:Option Addr) (c0_1:Nat) (l0_1:List Int) (r:Int) (w:World) (hr0_0:Kd.C (Kd.int .i64) w A0_0 l0_0.length l0_0) (hc0_0:l0_0.length≤c0_0) (hr0_1:Kd.C (Kd.int .i64) w A0_1 l0_1.length l0_1) (hc0_1:l0_1.length≤c0_1) (h:impl_MapGenus.f k l0_0 l0_1 = some r) :
  Calls Try.prog 24 #[.agg #[.slice A0_0 l0_0.length c0_0,.slice A0_1 l0_1.length c0_1]] w fun e w'=>e = .returned (.int .i64 r)∧Below w.heap.size w w':=by
 have hu33:=Try.underlying33
 have HR0_0:=zA hr0_0
 have HC0_0:=zA hc0_0
 clear hr0_0 hc0_0
 have HR0_1:=zA hr0_1
 have HC0_1:=zA hc0_1
 clear hr0_1 hc0_1
 have HB:=zA (Below.refl w.heap.size w)
 have H:((impl_MapValid.f k l0_0 l0_1).bind fun t173=>(if t173 = true then ((impl_genusOf.f k l0_0 l0_1).bind fun t174=>(some t174)) else (some (-1)))) = some r:=h
 clear h
 replace H:=zz0 H
 obtain ⟨t173,A20,H⟩:=H
 try dsimp only at H
 have A2:=zA A20
 clear A20
 by_cases c3:t173 = true
 ·subst c3
  rw [if_pos rfl] at H;try dsimp only at H
  replace H:=zz0 H
  obtain ⟨t174,A40,H⟩:=H
  try dsimp only at H
  have A4:=zA A40
  clear A40
  obtain rfl:=zS H
  go_enter Try.func24,Try.ntmps24
  go_wp2_with (first|((with_reducible refine gate_dst (N:=1) rfl ?_);refine box_event ?hg (N:=1) ?hd (cs:=#[.slice A0_0 l0_0.length c0_0,.slice A0_1 l0_1.length c0_1]) (t:=33) ?hr ?_;(case hd=>rfl);(case hg=>rfl);(case hr=>first|(go_simp;done)|(go_simp;rfl));intro gb172 hg w5 hbox hb;have n0_:=zA (zR (by exact zB_ HB.out) hb);have n1_:=zA (hbox);have n2_:=zA ((by rw [hg];exact (zQ (by exact zB_ HB.out)):w.heap.size≤gb172));have n3_:=zA ((by rw [hg];exact (zQ (by exact zB_ HB.out)):w.heap.size≤gb172));clear HB;have HB:=n0_;have BK172:=n1_;have GW172:=n2_;have GE172:=n3_;clear n0_ n1_ n2_ n3_;clear hb hbox hg;have hcz6_0:w5.cell? ⟨gb172,0,none⟩ = some (.slice A0_0 l0_0.length c0_0):=(zT BK172.out 0).trans rfl;have hcz6_1:w5.cell? ⟨gb172,1,none⟩ = some (.slice A0_1 l0_1.length c0_1):=(zT BK172.out 1).trans rfl;have hfz6_0:=zZ BK172.out 0;have hfz6_1:=zZ BK172.out 1)|((with_reducible refine gate_callee (f:=46) rfl ?_);refine goesL_ (some 4) rfl rfl Try.func46 (by kernel_rfl) rfl #[.agg #[.slice A0_0 l0_0.length c0_0,.slice A0_1 l0_1.length c0_1]] rfl (by (try simp only [zJ,zM,zN]);first|done|rfl|(simp only [zL,zK];rfl)) ?_;(with_reducible refine (impl_MapValid.calls k (fun k_=>k_ < w.heap.size) _ _ l0_0 (fun k_=>k_ < w.heap.size) _ _ l0_1 true _ ?side1 ?side2 A2.out).mono ?_);(case side1=>exact Kd.V_mk HC0_0.out (Kd.F_below (Kd.C_F (Kd.heap_int .i64) HR0_0.out) (by repeat (first|(with_reducible first|exact HB.out|apply zD|apply zB|apply zC|refine zF ?_ GE172.out)|exact HB.out))));(case side2=>exact Kd.V_mk HC0_1.out (Kd.F_below (Kd.C_F (Kd.heap_int .i64) HR0_1.out) (by repeat (first|(with_reducible first|exact HB.out|apply zD|apply zB|apply zC|refine zF ?_ GE172.out)|exact HB.out))));rintro e w7 ⟨rfl,hb⟩;refine ⟨_,rfl,?_⟩;have n0_:=zA (zX (g:=gb172) (o:=.cells #[.slice A0_0 l0_0.length c0_0,.slice A0_1 l0_1.length c0_1] 33 (0,0)) (by (with_reducible repeat (first|refine zG ?_ _|refine zI ?_|refine zH ?_ _));exact BK172.out) hb);have n1_:=zA (zR (by repeat (first|(with_reducible first|exact HB.out|apply zD|apply zB|apply zC|refine zF ?_ GE172.out)|exact HB.out)) hb);clear BK172;clear HB;have BK172:=n0_;have HB:=n1_;clear n0_ n1_;(try clear hb);(try clear hb2);(try clear hk);(try clear hi);have hcz8_0:w7.cell? ⟨gb172,0,none⟩ = some (.slice A0_0 l0_0.length c0_0):=(zT BK172.out 0).trans rfl;have hcz8_1:w7.cell? ⟨gb172,1,none⟩ = some (.slice A0_1 l0_1.length c0_1):=(zT BK172.out 1).trans rfl;have hfz8_0:=zZ BK172.out 0;have hfz8_1:=zZ BK172.out 1)|((with_reducible refine gate_callee (f:=52) rfl ?_);refine goesL_ (some 7) rfl rfl Try.func52 (by kernel_rfl) rfl #[.agg #[.slice A0_0 l0_0.length c0_0,.slice A0_1 l0_1.length c0_1]] rfl (by (try simp only [zJ,zM,zN]);first|done|rfl|(simp only [zL,zK];rfl)) ?_;(with_reducible refine (impl_genusOf.calls k _ _ l0_0 _ _ l0_1 t174 _ ?side1 ?side2 ?side3 ?side4 A4.out).mono ?_);(case side1=>repeat (first|exact (zW HR0_0.out HB.out)|(with_reducible exact HR0_0.out)|apply zC_));(case side2=>exact HC0_0.out);(case side3=>repeat (first|exact (zW HR0_1.out HB.out)|(with_reducible exact HR0_1.out)|apply zC_));(case side4=>exact HC0_1.out);rintro e w9 ⟨rfl,hb⟩;refine ⟨_,rfl,?_⟩;have n0_:=zA (zX (g:=gb172) (o:=.cells #[.slice A0_0 l0_0.length c0_0,.slice A0_1 l0_1.length c0_1] 33 (0,0)) (by (with_reducible repeat (first|refine zG ?_ _|refine zI ?_|refine zH ?_ _));exact BK172.out) hb);have n1_:=zA (zR (by repeat (first|(with_reducible first|exact HB.out|apply zD|apply zB|apply zC|refine zF ?_ GE172.out)|exact HB.out)) hb);clear BK172;clear HB;have BK172:=n0_;have HB:=n1_;clear n0_ n1_;(try clear hb);(try clear hb2);(try clear hk);(try clear hi)))
  go_ret
  exact ⟨by first|rfl|(simp [errW_none,errW_some] <;> rfl)|(simp [*,errW_none,errW_some] <;> rfl),by repeat (first|(with_reducible first|exact HB.out|apply zD|apply zB|apply zC|refine zF ?_ GE172.out)|exact HB.out)⟩
 ·replace c3:=Bool.eq_false_iff.mpr c3
  subst c3
  have H1:(some (-1)) = some r:=by rw [if_neg (show ¬ (false = true) by decide)] at H;exact H
  clear H
  have H:=H1
  clear H1
  obtain rfl:=zS H
  go_enter Try.func24,Try.ntmps24
  go_wp2_with (first|((with_reducible refine gate_dst (N:=1) rfl ?_);refine box_event ?hg (N:=1) ?hd (cs:=#[.slice A0_0 l0_0.length c0_0,.slice A0_1 l0_1.length c0_1]) (t:=33) ?hr ?_;(case hd=>rfl);(case hg=>rfl);(case hr=>first|(go_simp;done)|(go_simp;rfl));intro gb172 hg w10 hbox hb;have n0_:=zA (zR (by exact zB_ HB.out) hb);have n1_:=zA (hbox);have n2_:=zA ((by rw [hg];exact (zQ (by exact zB_ HB.out)):w.heap.size≤gb172));have n3_:=zA ((by rw [hg];exact (zQ (by exact zB_ HB.out)):w.heap.size≤gb172));clear HB;have HB:=n0_;have BK172:=n1_;have GW172:=n2_;have GE172:=n3_;clear n0_ n1_ n2_ n3_;clear hb hbox hg;have hcz11_0:w10.cell? ⟨gb172,0,none⟩ = some (.slice A0_0 l0_0.length c0_0):=(zT BK172.out 0).trans rfl;have hcz11_1:w10.cell? ⟨gb172,1,none⟩ = some (.slice A0_1 l0_1.length c0_1):=(zT BK172.out 1).trans rfl;have hfz11_0:=zZ BK172.out 0;have hfz11_1:=zZ BK172.out 1)|((with_reducible refine gate_callee (f:=46) rfl ?_);refine goesL_ (some 4) rfl rfl Try.func46 (by kernel_rfl) rfl #[.agg #[.slice A0_0 l0_0.length c0_0,.slice A0_1 l0_1.length c0_1]] rfl (by (try simp only [zJ,zM,zN]);first|done|rfl|(simp only [zL,zK];rfl)) ?_;(with_reducible refine (impl_MapValid.calls k (fun k_=>k_ < w.heap.size) _ _ l0_0 (fun k_=>k_ < w.heap.size) _ _ l0_1 false _ ?side1 ?side2 A2.out).mono ?_);(case side1=>exact Kd.V_mk HC0_0.out (Kd.F_below (Kd.C_F (Kd.heap_int .i64) HR0_0.out) (by repeat (first|(with_reducible first|exact HB.out|apply zD|apply zB|apply zC|refine zF ?_ GE172.out)|exact HB.out))));(case side2=>exact Kd.V_mk HC0_1.out (Kd.F_below (Kd.C_F (Kd.heap_int .i64) HR0_1.out) (by repeat (first|(with_reducible first|exact HB.out|apply zD|apply zB|apply zC|refine zF ?_ GE172.out)|exact HB.out))));rintro e w12 ⟨rfl,hb⟩;refine ⟨_,rfl,?_⟩;have n0_:=zA (zX (g:=gb172) (o:=.cells #[.slice A0_0 l0_0.length c0_0,.slice A0_1 l0_1.length c0_1] 33 (0,0)) (by (with_reducible repeat (first|refine zG ?_ _|refine zI ?_|refine zH ?_ _));exact BK172.out) hb);have n1_:=zA (zR (by repeat (first|(with_reducible first|exact HB.out|apply zD|apply zB|apply zC|refine zF ?_ GE172.out)|exact HB.out)) hb);clear BK172;clear HB;have BK172:=n0_;have HB:=n1_;clear n0_ n1_;(try clear hb);(try clear hb2);(try clear hk);(try clear hi)))
  go_ret
  exact ⟨by first|rfl|(simp [errW_none,errW_some] <;> rfl)|(simp [*,errW_none,errW_some] <;> rfl),by repeat (first|(with_reducible first|exact HB.out|apply zD|apply zB|apply zC|refine zF ?_ GE172.out)|exact HB.out)⟩

end Go.Proofs.Ytdaiohcgdpclnaa.Q
