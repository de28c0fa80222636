import Derived.Test.YtdaiohcgdpclnaaQ0
import Derived.Test.YtdaiohcgdpclnaaQ11
import Derived.Test.YtdaiohcgdpclnaaQ5
import Derived.Test.YtdaiohcgdpclnaaQ9
import Derived.Laws.EntriesVeiled
import Derived.Shelf.SlSortCmp.WholeK
import Derived.Test.YtdaiohcgdpclnaaZ
namespace Go.Proofs.Ytdaiohcgdpclnaa.Q
open Go.RowKit Go.Proofs.YtdaiohcgdpclnaaW.PrintWords Go.Proofs.YtdaiohcgdpclnaaW.PrintLast Go.Proofs.YtdaiohcgdpclnaaW.PrintMore
attribute [local go_sem] max2_int min2_int max_two min_two max_three min_three max_four min_four   -- for this text's walks alone
set_option linter.unusedVariables false
set_option linter.unusedSimpArgs false

/-! ### spec_RootedOne: function 29 -/
mutual
def spec_RootedOne.j0:Nat→Int→Int→Bool→Option (Int)
 | 0,_,_,_=>none
 | k+1,x0,x1,x14=>if x14 = true then (some (-1)) else ((spec_l3All.f k x0 x1).bind fun t471=>(spec_RootedOne.l0 k 0 t471 0))
def spec_RootedOne.l0:Nat→Int→List (S33)→Int→Option (Int)
 | 0,_,_,_=>none
 | k+1,x5,x6,x7=>if x7 < (x6.length:Int) then (if 0≤x7 then ((spec_l2Counts.f k ((rd_T33 x6 x7).f0) ((rd_T33 x6 x7).f1)).bind fun t475=>(if 2 < (t475.length:Int) then (if (rd t475 2) = 1 then (spec_RootedOne.l0 k (wrap64 (x5+1)) x6 (wrap64 (x7+1))) else (spec_RootedOne.l0 k x5 x6 (wrap64 (x7+1)))) else (none))) else (none)) else (some x5)
end
def spec_RootedOne.f (k:Nat) (a0:Int) (a1:Int):Option (Int):=(spec_l6In.f a0 1 3).bind fun t470=>(if t470 = true then (spec_RootedOne.j0 k a0 a1 (decide (a1 < 0))) else (spec_RootedOne.j0 k a0 a1 true))
theorem spec_RootedOne.mono_l:∀ k,(∀ y0 y1 y2,LeO (spec_RootedOne.j0 k y0 y1 y2) (spec_RootedOne.j0 (k+1) y0 y1 y2))∧(∀ y0 y1 y2,LeO (spec_RootedOne.l0 k y0 y1 y2) (spec_RootedOne.l0 (k+1) y0 y1 y2))
 | 0=>⟨fun _ _ _ r h=>by simp [spec_RootedOne.j0] at h,fun _ _ _ r h=>by simp [spec_RootedOne.l0] at h⟩
 | k+1=>by
  obtain ⟨ih0,ih1⟩:=spec_RootedOne.mono_l k
  refine ⟨?_,?_⟩
  ·intro y0 y1 y2
   unfold spec_RootedOne.j0
   repeat' first
   | (with_reducible exact ih0 _ _ _)
   | (with_reducible exact ih1 _ _ _)
   | (with_reducible exact spec_l2Counts.mono _ _ _)
   | (with_reducible exact spec_l3All.mono _ _ _)
   | (with_reducible exact LeO.refl _)
   | (with_reducible exact zm _)
   | (with_reducible refine zo ?_ ?_)
   | (with_reducible refine zn ?_ (fun _=>?_))
   | exact ih0 _ _ _
   | exact ih1 _ _ _
   | exact spec_l2Counts.mono _ _ _
   | exact spec_l3All.mono _ _ _
   | exact zm _
   | refine zo ?_ ?_
   | refine zn ?_ (fun _=>?_)
  ·intro y0 y1 y2
   unfold spec_RootedOne.l0
   repeat' first
   | (with_reducible exact ih0 _ _ _)
   | (with_reducible exact ih1 _ _ _)
   | (with_reducible exact spec_l2Counts.mono _ _ _)
   | (with_reducible exact spec_l3All.mono _ _ _)
   | (with_reducible exact LeO.refl _)
   | (with_reducible exact zm _)
   | (with_reducible refine zo ?_ ?_)
   | (with_reducible refine zn ?_ (fun _=>?_))
   | exact ih0 _ _ _
   | exact ih1 _ _ _
   | exact spec_l2Counts.mono _ _ _
   | exact spec_l3All.mono _ _ _
   | exact zm _
   | refine zo ?_ ?_
   | refine zn ?_ (fun _=>?_)
theorem spec_RootedOne.mono:∀ a0 a1 k,LeO (spec_RootedOne.f k a0 a1) (spec_RootedOne.f (k+1) a0 a1):=by
 intro a0 a1 k
 obtain ⟨ih0,ih1⟩:=spec_RootedOne.mono_l k
 unfold spec_RootedOne.f
 repeat' first
   | (with_reducible exact ih0 _ _ _)
   | (with_reducible exact ih1 _ _ _)
   | (with_reducible exact spec_l2Counts.mono _ _ _)
   | (with_reducible exact spec_l3All.mono _ _ _)
   | (with_reducible exact LeO.refl _)
   | (with_reducible exact zm _)
   | (with_reducible refine zo ?_ ?_)
   | (with_reducible refine zn ?_ (fun _=>?_))
   | exact ih0 _ _ _
   | exact ih1 _ _ _
   | exact spec_l2Counts.mono _ _ _
   | exact spec_l3All.mono _ _ _
   | exact zm _
   | refine zo ?_ ?_
   | refine zn ?_ (fun _=>?_)
set_option maxHeartbeats 8000000 in
set_option maxRecDepth 100000 in
theorem spec_RootedOne.calls (k:Nat) (a0:Int) (a1:Int) (r:Int) (w:World) (h:spec_RootedOne.f k a0 a1 = some r) :
  Calls Try.prog 29 #[.int .i64 a0,.int .i64 a1] w fun e w'=>e = .returned (.int .i64 r)∧Below w.heap.size w w':=by
 have hu33:=Try.underlying33
 have HB:=zA (Below.refl w.heap.size w)
 have H:((spec_l6In.f a0 1 3).bind fun t470=>(if t470 = true then (spec_RootedOne.j0 k a0 a1 (decide (a1 < 0))) else (spec_RootedOne.j0 k a0 a1 true))) = some r:=h
 clear h
 have HC3:=zA H
 clear H
 go_enter Try.func29,Try.ntmps29
 go_upto_region 1 with (fail)
 go_cut [14] (fun v14 wc => ∃ (kq:Nat) (x14_2:Bool),v14 = .bool x14_2∧Aside0 (spec_RootedOne.j0 kq a0 a1 x14_2 = some r)∧Aside0 (kq≤k)∧Aside0 (Below w.heap.size w wc))
 case first =>
  have H:=HC3.out
  clear HC3
  replace H:=zz0 H
  obtain ⟨t470,A40,H⟩:=H
  replace H:(if t470 = true then (spec_RootedOne.j0 k a0 a1 (decide (a1 < 0))) else (spec_RootedOne.j0 k a0 a1 true)) = some r:=H
  have A4:=zA A40
  clear A40
  by_cases c5:t470 = true
  ·subst c5
   have H1:(spec_RootedOne.j0 k a0 a1 (decide (a1 < 0))) = some r:=by rw [if_pos rfl] at H;exact H
   clear H
   have H:=H1
   clear H1
   have H':=zA H
   clear H
   go_wp2_with (first|((with_reducible refine gate_callee (f:=40) rfl ?_);refine goesL_ (some 9) rfl rfl Try.func40 (by kernel_rfl) rfl #[.int .i64 a0,.int .i64 1,.int .i64 3] rfl (by (try simp only [zP,zS,zT]);first|done|rfl|(simp only [zR,zQ];rfl)) ?_;(with_reducible refine (spec_l6In.calls a0 1 3 true _ A4.out).mono ?_);rintro e w' ⟨rfl,⟨nd,rfl⟩⟩;refine ⟨_,rfl,?_⟩))
   go_meet
   case rel=>exact ⟨_,(decide (a1 < 0)),(by first|rfl|(simp;done)|(simp [*];done)),H',⟨by first|omega|exact Nat.le_refl _⟩,⟨by repeat (first|(with_reducible first|exact HB.out|apply zD|apply zB|apply zC)|exact HB.out)⟩⟩
  ·replace c5:=Bool.eq_false_iff.mpr c5
   subst c5
   have H1:(spec_RootedOne.j0 k a0 a1 true) = some r:=by rw [if_neg (show ¬ (false = true) by decide)] at H;exact H
   clear H
   have H:=H1
   clear H1
   have H':=zA H
   clear H
   go_wp2_with (first|((with_reducible refine gate_callee (f:=40) rfl ?_);refine goesL_ (some 9) rfl rfl Try.func40 (by kernel_rfl) rfl #[.int .i64 a0,.int .i64 1,.int .i64 3] rfl (by (try simp only [zP,zS,zT]);first|done|rfl|(simp only [zR,zQ];rfl)) ?_;(with_reducible refine (spec_l6In.calls a0 1 3 false _ A4.out).mono ?_);rintro e w' ⟨rfl,⟨nd,rfl⟩⟩;refine ⟨_,rfl,?_⟩))
   go_meet
   case rel=>exact ⟨_,(true),(by first|rfl|(simp;done)|(simp [*];done)),H',⟨by first|omega|exact Nat.le_refl _⟩,⟨by repeat (first|(with_reducible first|exact HB.out|apply zD|apply zB|apply zC)|exact HB.out)⟩⟩
 case rest =>
  clear HC3
  try clear c2
  try clear p2
  try clear c4
  try clear c5
  obtain ⟨kq,x14_2,rfl,HA,HJ2,HB⟩:=hcut
  cases kq with
  | zero=>exact absurd HA.out (by simp [spec_RootedOne.j0])
  | succ kj2 =>
   have H:=HA.out
   clear HA
   simp only [spec_RootedOne.j0] at H
   by_cases c6:x14_2 = true
   ·subst c6
    have H1:(some (-1)) = some r:=by rw [if_pos rfl] at H;exact H
    clear H
    have H:=H1
    clear H1
    obtain rfl:=zb H
    go_wp2
    go_ret
    exact ⟨by first|rfl|(simp [errW_none,errW_some] <;> rfl)|(simp [*,errW_none,errW_some] <;> rfl),by repeat (first|(with_reducible first|exact HB.out|apply zD|apply zB|apply zC)|exact HB.out)⟩
   ·replace c6:=Bool.eq_false_iff.mpr c6
    subst c6
    have H1:((spec_l3All.f kj2 a0 a1).bind fun t471=>(spec_RootedOne.l0 kj2 0 t471 0)) = some r:=by rw [if_neg (show ¬ (false = true) by decide)] at H;exact H
    clear H
    have H:=H1
    clear H1
    replace H:=zz0 H
    obtain ⟨t471,A70,H⟩:=H
    replace H:(spec_RootedOne.l0 kj2 0 t471 0) = some r:=H
    have A7:=zA A70
    clear A70
    have H':=zA H
    clear H
    go_wp2_with (first|((with_reducible refine gate_callee (f:=45) rfl ?_);refine goesL_ (some 17) rfl rfl Try.func45 (by kernel_rfl) rfl #[.int .i64 a0,.int .i64 a1] rfl (by (try simp only [zP,zS,zT]);first|done|rfl|(simp only [zR,zQ];rfl)) ?_;(with_reducible refine (spec_l3All.calls kj2 a0 a1 t471 _ A7.out).mono ?_);rintro e w8 ⟨v472,rfl,ho0,hb⟩;refine ⟨_,rfl,?_⟩;have n0_:=zA (Kd.V_lower (Kd.V_mono (ok':=fun k_=>True) ho0 (fun k_ hk_=>trivial)) (zZ (by repeat (first|(with_reducible first|exact HB.out|apply zD|apply zB|apply zC)|exact HB.out))));have n1_:=zA (za (by repeat (first|(with_reducible first|exact HB.out|apply zD|apply zB|apply zC)|exact HB.out)) hb);clear HB;have HO473:=n0_;have HB:=n1_;clear n0_ n1_;(try clear hb);(try clear hb2);(try clear hk);(try clear hi);(try clear ho0)))
    go_loopg [5,7] kj2 (fun kq v5 v7 w' => ∃ (x5_2:Int) (x7_2:Int),v5 = .int .i64 x5_2∧v7 = .int .i64 x7_2∧Aside0 (spec_RootedOne.l0 kq x5_2 t471 x7_2 = some r)∧Aside0 (kq≤kj2)∧Aside0 (Kd.V k33 33 w' w.heap.size (fun _=>True) v472 t471)∧Aside0 (Below w.heap.size w w'))
    case atStart=>exact ⟨(0),(0),(by first|rfl|(simp;done)|(simp [*];done)),(by first|rfl|(simp;done)|(simp [*];done)),H',⟨Nat.le_refl _⟩,⟨by (with_reducible repeat (first|apply zi|apply zj|apply zh));exact HO473.out⟩,⟨by repeat (first|(with_reducible first|exact HB.out|apply zD|apply zB|apply zC)|exact HB.out)⟩⟩
    case round =>
     clear H'
     try clear c2
     try clear p2
     try clear c4
     try clear c5
     try clear c6
     try clear p2
     obtain ⟨x5_2,x7_2,rfl,rfl,HA,HK2,HO_6,HB⟩:=hrel
     cases gk with
     | zero=>exact absurd HA.out (by simp [spec_RootedOne.l0])
     | succ k2 =>
      have H:=HA.out
      clear HA
      simp only [spec_RootedOne.l0] at H
      by_cases c9:x7_2 < (t471.length:Int)
      ·rw [if_pos c9] at H
       have c9b0:decide (x7_2 < (t471.length:Int)) = true:=zU c9
       clear c9
       by_cases c10:0≤x7_2
       ·rw [if_pos c10] at H
        have c10b0:decide (0≤x7_2) = true:=zU c10
        clear c10
        replace H:=zz0 H
        obtain ⟨t475,A110,H⟩:=H
        replace H:(if 2 < (t475.length:Int) then (if (rd t475 2) = 1 then (spec_RootedOne.l0 k2 (wrap64 (x5_2+1)) t471 (wrap64 (x7_2+1))) else (spec_RootedOne.l0 k2 x5_2 t471 (wrap64 (x7_2+1)))) else (none)) = some r:=H
        have A11:=zA A110
        clear A110
        by_cases c12:2 < (t475.length:Int)
        ·rw [if_pos c12] at H
         have c12b0:decide (2 < (t475.length:Int)) = true:=zU c12
         have c12b1:decide (2 < t475.length) = true:=zU (by omega)
         clear c12
         by_cases c13:(rd t475 2) = 1
         ·rw [if_pos c13] at H
          have c13b0:((rd t475 2) == 1) = true:=beq_iff_eq.mpr c13
          have c13b1:((rd t475 2) != 1) = false:=bne_eq_false_iff_eq.mpr c13
          clear c13
          have H':=zA H
          clear H
          obtain ⟨Ao14,co14,eo14⟩:=Kd.V_slice HO_6.out
          subst eo14
          have p474:0≤(x7_2:Int):=zF (by first|(with_reducible assumption)|assumption)
          have q474:x7_2 < (t471.length:Int):=zF (by first|(with_reducible assumption)|assumption)
          obtain ⟨ad474,A474_0,c474_0,A474_1,c474_1,e474,hx474_0,hx474_1,hl474_0,hi474_0,hl474_1,hi474_1⟩:=at_T33 (zs HO_6.out).2.2 x7_2 p474 q474
          cases e474
          obtain ⟨ce474,hce474,hMe474,hcc474⟩:=Kd.V_get HO_6.out z33 x7_2 p474 (by first|exact q474|exact zF (by first|(with_reducible assumption)|assumption)|(have e_:=(zs HO_6.out).1;omega))
          obtain ⟨ua474_0,uc474_0,ua474_1,uc474_1,rfl,ul474_0,ge474_0,ul474_1,ge474_1⟩:=k33_openF hMe474
          have hv474_0:=hcc474 0 _ rfl
          rw [Nat.add_zero] at hv474_0
          replace hv474_0:=zb (hv474_0.symm.trans hx474_0)
          injection hv474_0 with hva_ hvn_ hvc_
          rw [hva_] at ge474_0
          rw [hvc_] at ul474_0
          have HL474_0:=zA (show Kd.V (Kd.int .i64) 3 _ w.heap.size _ _ ((rd_T33 t471 x7_2).f0) from Kd.V_mk ul474_0 ge474_0)
          clear hva_ hvn_ hvc_ ge474_0 ul474_0
          have hv474_1:=hcc474 1 _ rfl
          rw [add_field _ _ 1 (by omega)] at hv474_1
          replace hv474_1:=zb (hv474_1.symm.trans hx474_1)
          injection hv474_1 with hva_ hvn_ hvc_
          rw [hva_] at ge474_1
          rw [hvc_] at ul474_1
          have HL474_1:=zA (show Kd.V (Kd.int .i64) 3 _ w.heap.size _ _ ((rd_T33 t471 x7_2).f1) from Kd.V_mk ul474_1 ge474_1)
          clear hva_ hvn_ hvc_ ge474_1 ul474_1
          clear hcc474 hce474
          have HR474_0:=zA hi474_0
          have HC474_0:=zA hl474_0
          clear hi474_0 hl474_0
          have HR474_1:=zA hi474_1
          have HC474_1:=zA hl474_1
          clear hi474_1 hl474_1
          replace p474:=eq_true p474
          replace q474:=eq_true q474
          go_wp2_with (first|((with_reducible refine gate_callee (f:=55) rfl ?_);refine goesL_ (some 28) rfl rfl Try.func55 (by kernel_rfl) rfl #[.agg #[.slice A474_0 ((rd_T33 t471 x7_2).f0).length c474_0,.slice A474_1 ((rd_T33 t471 x7_2).f1).length c474_1]] rfl (by (try simp only [zP,zS,zT]);first|done|rfl|(simp only [zR,zQ];rfl)) ?_;(with_reducible refine (spec_l2Counts.calls k2 _ _ ((rd_T33 t471 x7_2).f0) _ _ ((rd_T33 t471 x7_2).f1) t475 _ ?side1 ?side2 ?side3 ?side4 A11.out).mono ?_);(case side1=>repeat (first|exact (by repeat (first|(with_reducible exact HR474_0.out)|(with_reducible refine zW ?_ _)|(with_reducible refine zX ?_ _)|(with_reducible refine zY ?_)|exact HR474_0.out))|(with_reducible refine zW ?_ _)|(with_reducible refine zX ?_ _)|(with_reducible refine zY ?_)));(case side2=>exact HC474_0.out);(case side3=>repeat (first|exact (by repeat (first|(with_reducible exact HR474_1.out)|(with_reducible refine zW ?_ _)|(with_reducible refine zX ?_ _)|(with_reducible refine zY ?_)|exact HR474_1.out))|(with_reducible refine zW ?_ _)|(with_reducible refine zX ?_ _)|(with_reducible refine zY ?_)));(case side4=>exact HC474_1.out);rintro e w15 ⟨v476,rfl,ho0,hb⟩;refine ⟨_,rfl,?_⟩;have n0_:=zA (Kd.V_elder' (by (with_reducible repeat (first|apply zi|apply zj|apply zh));exact HO_6.out) (zp ho0) hb);have n1_:=zA (Kd.V_elder' (by (with_reducible repeat (first|apply zi|apply zj|apply zh));exact HL474_0.out) (zp ho0) hb);have n2_:=zA (Kd.V_elder' (by (with_reducible repeat (first|apply zi|apply zj|apply zh));exact HL474_1.out) (zp ho0) hb);have n3_:=zA (zq ho0 (zZ (by repeat (first|(with_reducible first|exact HB.out|apply zD|apply zB|apply zC)|exact HB.out))));have n4_:=zA (zf (by repeat (first|(with_reducible exact HR474_0.out)|(with_reducible refine zW ?_ _)|(with_reducible refine zX ?_ _)|(with_reducible refine zY ?_)|exact HR474_0.out)) hb);have n5_:=zA (zf (by repeat (first|(with_reducible exact HR474_1.out)|(with_reducible refine zW ?_ _)|(with_reducible refine zX ?_ _)|(with_reducible refine zY ?_)|exact HR474_1.out)) hb);have n6_:=zA (za (by repeat (first|(with_reducible first|exact HB.out|apply zD|apply zB|apply zC)|exact HB.out)) hb);clear HO_6;clear HL474_0;clear HL474_1;clear HR474_0;clear HR474_1;clear HB;have HO_6:=n0_;have HL474_0:=n1_;have HL474_1:=n2_;have HO477:=n3_;have HR474_0:=n4_;have HR474_1:=n5_;have HB:=n6_;clear n0_ n1_ n2_ n3_ n4_ n5_ n6_;(try clear hb);(try clear hb2);(try clear hk);(try clear hi);(try clear ho0);obtain ⟨Ao16,co16,eo16⟩:=zr HO477.out;subst eo16;have p478:0≤(2:Int):=(by omega);have q478:2 < (t475.length:Int):=zF (by first|(with_reducible assumption)|assumption);obtain ⟨ad478,e478,hx478_0⟩:=Kd.at_int (zd HO477.out).2.2 2 p478 q478;cases e478;(try simp only [show (2:Int).toNat = 2 from rfl,Nat.reduceMul,Nat.reduceEqDiff,Go.Addr.add, ↓reduceIte] at hx478_0);have qi478:(2 < t475.length) = True:=eq_true (by omega);(try rw [show ((2:Int)).toNat = 2 from rfl] at hx478_0);replace p478:=eq_true p478;replace q478:=eq_true q478))
          go_roundg k2
          case measure=>have:=HJ2.out;have:=HK2.out;omega
          case rel=>exact ⟨(wrap64 (x5_2+1)),(wrap64 (x7_2+1)),(by first|rfl|(simp;done)|(simp [*];done)),(by first|rfl|(simp;done)|(simp [*];done)),H',⟨by have:=HJ2.out;have:=HK2.out;omega⟩,⟨by (with_reducible repeat (first|apply zi|apply zj|apply zh));exact Kd.V_mono HO_6.out (fun _ hk=>trivial)⟩,⟨by repeat (first|(with_reducible first|exact HB.out|apply zD|apply zB|apply zC)|exact HB.out)⟩⟩
         ·rw [if_neg c13] at H
          have c13b0:((rd t475 2) == 1) = false:=beq_eq_false_iff_ne.mpr c13
          have c13b1:((rd t475 2) != 1) = true:=bne_iff_ne.mpr c13
          have H':=zA H
          clear H
          obtain ⟨Ao17,co17,eo17⟩:=Kd.V_slice HO_6.out
          subst eo17
          have p474:0≤(x7_2:Int):=zF (by first|(with_reducible assumption)|assumption)
          have q474:x7_2 < (t471.length:Int):=zF (by first|(with_reducible assumption)|assumption)
          obtain ⟨ad474,A474_0,c474_0,A474_1,c474_1,e474,hx474_0,hx474_1,hl474_0,hi474_0,hl474_1,hi474_1⟩:=at_T33 (zs HO_6.out).2.2 x7_2 p474 q474
          cases e474
          obtain ⟨ce474,hce474,hMe474,hcc474⟩:=Kd.V_get HO_6.out z33 x7_2 p474 (by first|exact q474|exact zF (by first|(with_reducible assumption)|assumption)|(have e_:=(zs HO_6.out).1;omega))
          obtain ⟨ua474_0,uc474_0,ua474_1,uc474_1,rfl,ul474_0,ge474_0,ul474_1,ge474_1⟩:=k33_openF hMe474
          have hv474_0:=hcc474 0 _ rfl
          rw [Nat.add_zero] at hv474_0
          replace hv474_0:=zb (hv474_0.symm.trans hx474_0)
          injection hv474_0 with hva_ hvn_ hvc_
          rw [hva_] at ge474_0
          rw [hvc_] at ul474_0
          have HL474_0:=zA (show Kd.V (Kd.int .i64) 3 _ w.heap.size _ _ ((rd_T33 t471 x7_2).f0) from Kd.V_mk ul474_0 ge474_0)
          clear hva_ hvn_ hvc_ ge474_0 ul474_0
          have hv474_1:=hcc474 1 _ rfl
          rw [add_field _ _ 1 (by omega)] at hv474_1
          replace hv474_1:=zb (hv474_1.symm.trans hx474_1)
          injection hv474_1 with hva_ hvn_ hvc_
          rw [hva_] at ge474_1
          rw [hvc_] at ul474_1
          have HL474_1:=zA (show Kd.V (Kd.int .i64) 3 _ w.heap.size _ _ ((rd_T33 t471 x7_2).f1) from Kd.V_mk ul474_1 ge474_1)
          clear hva_ hvn_ hvc_ ge474_1 ul474_1
          clear hcc474 hce474
          have HR474_0:=zA hi474_0
          have HC474_0:=zA hl474_0
          clear hi474_0 hl474_0
          have HR474_1:=zA hi474_1
          have HC474_1:=zA hl474_1
          clear hi474_1 hl474_1
          replace p474:=eq_true p474
          replace q474:=eq_true q474
          go_wp2_with (first|((with_reducible refine gate_callee (f:=55) rfl ?_);refine goesL_ (some 28) rfl rfl Try.func55 (by kernel_rfl) rfl #[.agg #[.slice A474_0 ((rd_T33 t471 x7_2).f0).length c474_0,.slice A474_1 ((rd_T33 t471 x7_2).f1).length c474_1]] rfl (by (try simp only [zP,zS,zT]);first|done|rfl|(simp only [zR,zQ];rfl)) ?_;(with_reducible refine (spec_l2Counts.calls k2 _ _ ((rd_T33 t471 x7_2).f0) _ _ ((rd_T33 t471 x7_2).f1) t475 _ ?side1 ?side2 ?side3 ?side4 A11.out).mono ?_);(case side1=>repeat (first|exact (by repeat (first|(with_reducible exact HR474_0.out)|(with_reducible refine zW ?_ _)|(with_reducible refine zX ?_ _)|(with_reducible refine zY ?_)|exact HR474_0.out))|(with_reducible refine zW ?_ _)|(with_reducible refine zX ?_ _)|(with_reducible refine zY ?_)));(case side2=>exact HC474_0.out);(case side3=>repeat (first|exact (by repeat (first|(with_reducible exact HR474_1.out)|(with_reducible refine zW ?_ _)|(with_reducible refine zX ?_ _)|(with_reducible refine zY ?_)|exact HR474_1.out))|(with_reducible refine zW ?_ _)|(with_reducible refine zX ?_ _)|(with_reducible refine zY ?_)));(case side4=>exact HC474_1.out);rintro e w18 ⟨v476,rfl,ho0,hb⟩;refine ⟨_,rfl,?_⟩;have n0_:=zA (Kd.V_elder' (by (with_reducible repeat (first|apply zi|apply zj|apply zh));exact HO_6.out) (zp ho0) hb);have n1_:=zA (Kd.V_elder' (by (with_reducible repeat (first|apply zi|apply zj|apply zh));exact HL474_0.out) (zp ho0) hb);have n2_:=zA (Kd.V_elder' (by (with_reducible repeat (first|apply zi|apply zj|apply zh));exact HL474_1.out) (zp ho0) hb);have n3_:=zA (zq ho0 (zZ (by repeat (first|(with_reducible first|exact HB.out|apply zD|apply zB|apply zC)|exact HB.out))));have n4_:=zA (zf (by repeat (first|(with_reducible exact HR474_0.out)|(with_reducible refine zW ?_ _)|(with_reducible refine zX ?_ _)|(with_reducible refine zY ?_)|exact HR474_0.out)) hb);have n5_:=zA (zf (by repeat (first|(with_reducible exact HR474_1.out)|(with_reducible refine zW ?_ _)|(with_reducible refine zX ?_ _)|(with_reducible refine zY ?_)|exact HR474_1.out)) hb);have n6_:=zA (za (by repeat (first|(with_reducible first|exact HB.out|apply zD|apply zB|apply zC)|exact HB.out)) hb);clear HO_6;clear HL474_0;clear HL474_1;clear HR474_0;clear HR474_1;clear HB;have HO_6:=n0_;have HL474_0:=n1_;have HL474_1:=n2_;have HO477:=n3_;have HR474_0:=n4_;have HR474_1:=n5_;have HB:=n6_;clear n0_ n1_ n2_ n3_ n4_ n5_ n6_;(try clear hb);(try clear hb2);(try clear hk);(try clear hi);(try clear ho0);obtain ⟨Ao19,co19,eo19⟩:=zr HO477.out;subst eo19;have p478:0≤(2:Int):=(by omega);have q478:2 < (t475.length:Int):=zF (by first|(with_reducible assumption)|assumption);obtain ⟨ad478,e478,hx478_0⟩:=Kd.at_int (zd HO477.out).2.2 2 p478 q478;cases e478;(try simp only [show (2:Int).toNat = 2 from rfl,Nat.reduceMul,Nat.reduceEqDiff,Go.Addr.add, ↓reduceIte] at hx478_0);have qi478:(2 < t475.length) = True:=eq_true (by omega);(try rw [show ((2:Int)).toNat = 2 from rfl] at hx478_0);replace p478:=eq_true p478;replace q478:=eq_true q478))
          go_roundg k2
          case measure=>have:=HJ2.out;have:=HK2.out;omega
          case rel=>exact ⟨(x5_2),(wrap64 (x7_2+1)),(by first|rfl|(simp;done)|(simp [*];done)),(by first|rfl|(simp;done)|(simp [*];done)),H',⟨by have:=HJ2.out;have:=HK2.out;omega⟩,⟨by (with_reducible repeat (first|apply zi|apply zj|apply zh));exact Kd.V_mono HO_6.out (fun _ hk=>trivial)⟩,⟨by repeat (first|(with_reducible first|exact HB.out|apply zD|apply zB|apply zC)|exact HB.out)⟩⟩
        ·rw [if_neg c12] at H
         exact absurd H (by simp)
       ·rw [if_neg c10] at H
        exact absurd H (by simp)
      ·rw [if_neg c9] at H
       have c9b0:decide (x7_2 < (t471.length:Int)) = false:=zV c9
       clear c9
       obtain rfl:=zb H
       obtain ⟨Ao20,co20,eo20⟩:=Kd.V_slice HO_6.out
       subst eo20
       go_wp2
       go_ret
       exact ⟨by first|rfl|(simp [errW_none,errW_some] <;> rfl)|(simp [*,errW_none,errW_some] <;> rfl),by repeat (first|(with_reducible first|exact HB.out|apply zD|apply zB|apply zC)|exact HB.out)⟩

-- NOT PRINTED: function 62 (impl_compareMaps)

-- NOT PRINTED: function 66 (impl_flipsOf)

-- NOT PRINTED: function 68 (impl_permsOf)

-- NOT PRINTED: function 101 (impl_Map_101)

-- NOT PRINTED: function 114 (impl_Map_114)

-- NOT PRINTED: function 102 (impl_Map_102)

-- NOT PRINTED: function 109 (bits_Len32)

-- NOT PRINTED: function 110 (bits_Len64)

-- NOT PRINTED: function 93 (bits_Len)

-- NOT PRINTED: function 115 (slices_nextPowerOfTwo)

-- NOT PRINTED: function 116 (slices_xorshift_Next)

-- NOT PRINTED: function 103 (impl_Map_103)

-- NOT PRINTED: function 120 (impl_Map_120)

-- NOT PRINTED: function 118 (impl_Map_118)

-- NOT PRINTED: function 117 (impl_Map_117)

-- NOT PRINTED: function 104 (impl_Map_104)

-- NOT PRINTED: function 105 (impl_Map_105)

-- NOT PRINTED: function 106 (impl_Map_106)

-- NOT PRINTED: function 107 (impl_Map_107)

-- NOT PRINTED: function 108 (impl_Map_108)

-- NOT PRINTED: function 92 (impl_Map_92)

-- NOT PRINTED: function 72 (impl_Map_72)

end Go.Proofs.Ytdaiohcgdpclnaa.Q
