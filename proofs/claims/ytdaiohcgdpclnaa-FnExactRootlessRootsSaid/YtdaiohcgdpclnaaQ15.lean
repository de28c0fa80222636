import Derived.Test.YtdaiohcgdpclnaaQ0
import Derived.Test.YtdaiohcgdpclnaaQ14
import Derived.Test.YtdaiohcgdpclnaaQ7
import Derived.Test.YtdaiohcgdpclnaaZ
namespace Go.Proofs.Ytdaiohcgdpclnaa.Q
open Go.RowKit Go.Proofs.YtdaiohcgdpclnaaW.PrintWords Go.Proofs.YtdaiohcgdpclnaaW.PrintLast Go.Proofs.YtdaiohcgdpclnaaW.PrintMore
attribute [local go_sem] max2_int min2_int max_two min_two max_three min_three max_four min_four   -- for this text's walks alone
set_option linter.unusedVariables false
set_option linter.unusedSimpArgs false

/-! ### spec_RootlessRoots: function 27 -/
mutual
def spec_RootlessRoots.j0:Nat→Int→Int→Bool→Option (Int)
 | 0,_,_,_=>none
 | k+1,x0,x1,x14=>if x14 = true then (some (-1)) else ((spec_l3Different.f k x0 x1).bind fun t624=>(spec_RootlessRoots.l0 k x0 0 t624 0))
def spec_RootlessRoots.l0:Nat→Int→Int→List (S33)→Int→Option (Int)
 | 0,_,_,_,_=>none
 | k+1,x0,x5,x6,x7=>if x7 < (x6.length:Int) then (if 0≤x7 then ((spec_MapTurns.f k ((rd_T33 x6 x7).f0) ((rd_T33 x6 x7).f1)).bind fun t628=>(if t628 = 0 then (none) else (spec_RootlessRoots.l0 k x0 (wrap64 (x5+(wrap64 (Int.tdiv (wrap64 (2 * x0)) t628)))) x6 (wrap64 (x7+1))))) else (none)) else (some x5)
end
def spec_RootlessRoots.f (k:Nat) (a0:Int) (a1:Int):Option (Int):=(spec_l6In.f a0 1 3).bind fun t623=>(if t623 = true then (spec_RootlessRoots.j0 k a0 a1 (decide (a1 < 0))) else (spec_RootlessRoots.j0 k a0 a1 true))
theorem spec_RootlessRoots.mono_l:∀ k,(∀ y0 y1 y2,LeO (spec_RootlessRoots.j0 k y0 y1 y2) (spec_RootlessRoots.j0 (k+1) y0 y1 y2))∧(∀ y0 y1 y2 y3,LeO (spec_RootlessRoots.l0 k y0 y1 y2 y3) (spec_RootlessRoots.l0 (k+1) y0 y1 y2 y3))
 | 0=>⟨fun _ _ _ r h=>by simp [spec_RootlessRoots.j0] at h,fun _ _ _ _ r h=>by simp [spec_RootlessRoots.l0] at h⟩
 | k+1=>by
  obtain ⟨ih0,ih1⟩:=spec_RootlessRoots.mono_l k
  refine ⟨?_,?_⟩
  ·intro y0 y1 y2
   unfold spec_RootlessRoots.j0
   repeat' first
   | (with_reducible exact ih0 _ _ _)
   | (with_reducible exact ih1 _ _ _ _)
   | (with_reducible exact spec_MapTurns.mono _ _ _)
   | (with_reducible exact spec_l3Different.mono _ _ _)
   | (with_reducible exact LeO.refl _)
   | (with_reducible exact za _)
   | (with_reducible refine zc ?_ ?_)
   | (with_reducible refine zb ?_ (fun _=>?_))
  ·intro y0 y1 y2 y3
   unfold spec_RootlessRoots.l0
   repeat' first
   | (with_reducible exact ih0 _ _ _)
   | (with_reducible exact ih1 _ _ _ _)
   | (with_reducible exact spec_MapTurns.mono _ _ _)
   | (with_reducible exact spec_l3Different.mono _ _ _)
   | (with_reducible exact LeO.refl _)
   | (with_reducible exact za _)
   | (with_reducible refine zc ?_ ?_)
   | (with_reducible refine zb ?_ (fun _=>?_))
theorem spec_RootlessRoots.mono:∀ a0 a1 k,LeO (spec_RootlessRoots.f k a0 a1) (spec_RootlessRoots.f (k+1) a0 a1):=by
 intro a0 a1 k
 obtain ⟨ih0,ih1⟩:=spec_RootlessRoots.mono_l k
 unfold spec_RootlessRoots.f
 repeat' first
   | (with_reducible exact ih0 _ _ _)
   | (with_reducible exact ih1 _ _ _ _)
   | (with_reducible exact spec_MapTurns.mono _ _ _)
   | (with_reducible exact spec_l3Different.mono _ _ _)
   | (with_reducible exact LeO.refl _)
   | (with_reducible exact za _)
   | (with_reducible refine zc ?_ ?_)
   | (with_reducible refine zb ?_ (fun _=>?_))
set_option maxHeartbeats 8000000 in
set_option maxRecDepth 100000 in
theorem spec_RootlessRoots.calls (k:Nat) (a0:Int) (a1:Int) (r:Int) (w:World) (h:spec_RootlessRoots.f k a0 a1 = some r) :
  Calls Try.prog 27 #[.int .i64 a0,.int .i64 a1] w fun e w'=>e = .returned (.int .i64 r)∧Below w.heap.size w w':=by
 have hu33:=Try.underlying33
 have HB:=zA (Below.refl w.heap.size w)
 have H:((spec_l6In.f a0 1 3).bind fun t623=>(if t623 = true then (spec_RootlessRoots.j0 k a0 a1 (decide (a1 < 0))) else (spec_RootlessRoots.j0 k a0 a1 true))) = some r:=h
 clear h
 have HC3:=zA H
 clear H
 go_enter Try.func27,Try.ntmps27
 go_upto_region 1 with (fail)
 go_cut [14] (fun v14 wc => ∃ (kq:Nat) (x14_2:Bool),v14 = .bool x14_2∧Aside0 (spec_RootlessRoots.j0 kq a0 a1 x14_2 = some r)∧Aside0 (kq≤k)∧Aside0 (Below w.heap.size w wc))
 case first =>
  have H:=HC3.out
  clear HC3
  replace H:=zz0 H
  obtain ⟨t623,A40,H⟩:=H
  try dsimp only at H
  have A4:=zA A40
  clear A40
  by_cases c5:t623 = true
  ·subst c5
   rw [if_pos rfl] at H;try dsimp only at H
   have H':=zA H
   clear H
   go_wp2_with (first|((with_reducible refine gate_callee (f:=40) rfl ?_);refine goesL_ (some 9) rfl rfl Try.func40 (by kernel_rfl) rfl #[.int .i64 a0,.int .i64 1,.int .i64 3] rfl (by (try simp only [zJ,zM,zN]);first|done|rfl|(simp only [zL,zK];rfl)) ?_;(with_reducible refine (spec_l6In.calls a0 1 3 true _ A4.out).mono ?_);rintro e w' ⟨rfl,⟨nd,rfl⟩⟩;refine ⟨_,rfl,?_⟩))
   go_meet
   case rel=>exact ⟨_,(decide (a1 < 0)),(by first|rfl|(simp;done)|(simp [*];done)),H',⟨by first|omega|exact Nat.le_refl _⟩,⟨by exact zB_ HB.out⟩⟩
  ·replace c5:=Bool.eq_false_iff.mpr c5
   subst c5
   have H1:(spec_RootlessRoots.j0 k a0 a1 true) = some r:=by rw [if_neg (show ¬ (false = true) by decide)] at H;exact H
   clear H
   have H:=H1
   clear H1
   have H':=zA H
   clear H
   go_wp2_with (first|((with_reducible refine gate_callee (f:=40) rfl ?_);refine goesL_ (some 9) rfl rfl Try.func40 (by kernel_rfl) rfl #[.int .i64 a0,.int .i64 1,.int .i64 3] rfl (by (try simp only [zJ,zM,zN]);first|done|rfl|(simp only [zL,zK];rfl)) ?_;(with_reducible refine (spec_l6In.calls a0 1 3 false _ A4.out).mono ?_);rintro e w' ⟨rfl,⟨nd,rfl⟩⟩;refine ⟨_,rfl,?_⟩))
   go_meet
   case rel=>exact ⟨_,(true),(by first|rfl|(simp;done)|(simp [*];done)),H',⟨by first|omega|exact Nat.le_refl _⟩,⟨by exact zB_ HB.out⟩⟩
 case rest =>
  clear HC3
  (try clear c2);(try clear p2);(try clear c4);(try clear c5)
  obtain ⟨kq,x14_2,rfl,HA,HJ2,HB⟩:=hcut
  cases kq with
  | zero=>exact absurd HA.out (by simp [spec_RootlessRoots.j0])
  | succ kj2 =>
   have H:=HA.out
   clear HA
   simp only [spec_RootlessRoots.j0] at H
   by_cases c6:x14_2 = true
   ·subst c6
    rw [if_pos rfl] at H;try dsimp only at H
    obtain rfl:=zS H
    go_wp2
    go_ret
    exact ⟨by first|rfl|(simp [errW_none,errW_some] <;> rfl)|(simp [*,errW_none,errW_some] <;> rfl),by exact zB_ HB.out⟩
   ·replace c6:=Bool.eq_false_iff.mpr c6
    subst c6
    have H1:((spec_l3Different.f kj2 a0 a1).bind fun t624=>(spec_RootlessRoots.l0 kj2 a0 0 t624 0)) = some r:=by rw [if_neg (show ¬ (false = true) by decide)] at H;exact H
    clear H
    have H:=H1
    clear H1
    replace H:=zz0 H
    obtain ⟨t624,A70,H⟩:=H
    try dsimp only at H
    have A7:=zA A70
    clear A70
    have H':=zA H
    clear H
    go_wp2_with (first|((with_reducible refine gate_callee (f:=41) rfl ?_);refine goesL_ (some 17) rfl rfl Try.func41 (by kernel_rfl) rfl #[.int .i64 a0,.int .i64 a1] rfl (by (try simp only [zJ,zM,zN]);first|done|rfl|(simp only [zL,zK];rfl)) ?_;(with_reducible refine (spec_l3Different.calls kj2 a0 a1 t624 _ A7.out).mono ?_);rintro e w8 ⟨v625,rfl,ho0,hb⟩;refine ⟨_,rfl,?_⟩;have n0_:=zA (Kd.V_lower (Kd.V_mono (ok':=fun k_=>True) ho0 (fun k_ hk_=>trivial)) (zQ (by exact zB_ HB.out)));have n1_:=zA (zR (by exact zB_ HB.out) hb);clear HB;have HO626:=n0_;have HB:=n1_;clear n0_ n1_;(try clear hb);(try clear hb2);(try clear hk);(try clear hi);(try clear ho0)))
    go_loopg [5,7] kj2 (fun kq v5 v7 w' => ∃ (x5_2:Int) (x7_2:Int),v5 = .int .i64 x5_2∧v7 = .int .i64 x7_2∧Aside0 (spec_RootlessRoots.l0 kq a0 x5_2 t624 x7_2 = some r)∧Aside0 (kq≤kj2)∧Aside0 (Kd.V k33 33 w' w.heap.size (fun _=>True) v625 t624)∧Aside0 (Below w.heap.size w w'))
    case atStart=>exact ⟨(0),(0),(by first|rfl|(simp;done)|(simp [*];done)),(by first|rfl|(simp;done)|(simp [*];done)),H',⟨Nat.le_refl _⟩,⟨by apply zV_;exact HO626.out⟩,⟨by exact zB_ HB.out⟩⟩
    case round =>
     clear H'
     (try clear c2);(try clear p2);(try clear c4);(try clear c5);(try clear c6);(try clear p2)
     obtain ⟨x5_2,x7_2,rfl,rfl,HA,HK2,HO_6,HB⟩:=hrel
     cases gk with
     | zero=>exact absurd HA.out (by simp [spec_RootlessRoots.l0])
     | succ k2 =>
      have H:=HA.out
      clear HA
      simp only [spec_RootlessRoots.l0] at H
      by_cases c9:x7_2 < (t624.length:Int)
      ·rw [if_pos c9] at H
       have c9b0:decide (x7_2 < (t624.length:Int)) = true:=zO c9
       clear c9
       by_cases c10:0≤x7_2
       ·rw [if_pos c10] at H
        have c10b0:decide (0≤x7_2) = true:=zO c10
        clear c10
        replace H:=zz0 H
        obtain ⟨t628,A110,H⟩:=H
        try dsimp only at H
        have A11:=zA A110
        clear A110
        by_cases c12:t628 = 0
        ·rw [if_pos c12] at H
         exact absurd H (by simp)
        ·rw [if_neg c12] at H
         have c12b0:(t628 == 0) = false:=beq_eq_false_iff_ne.mpr c12
         have c12b1:(t628 != 0) = true:=bne_iff_ne.mpr c12
         have H':=zA H
         clear H
         obtain ⟨Ao13,co13,eo13⟩:=Kd.V_slice HO_6.out
         subst eo13
         have p627:0≤(x7_2:Int):=zE (by with_reducible assumption)
         have q627:x7_2 < (t624.length:Int):=zE (by with_reducible assumption)
         obtain ⟨ad627,A627_0,c627_0,A627_1,c627_1,e627,hx627_0,hx627_1,hl627_0,hi627_0,hl627_1,hi627_1⟩:=at_T33 (zk HO_6.out).2.2 x7_2 p627 q627
         cases e627
         obtain ⟨ce627,hce627,hMe627,hcc627⟩:=Kd.V_get HO_6.out z33 x7_2 p627 (by first|exact q627|exact zE (by with_reducible assumption)|(have e_:=(zk HO_6.out).1;omega))
         obtain ⟨ua627_0,uc627_0,ua627_1,uc627_1,rfl,ul627_0,ge627_0,ul627_1,ge627_1⟩:=k33_openF hMe627
         have hv627_0:=hcc627 0 _ rfl
         rw [Nat.add_zero] at hv627_0
         replace hv627_0:=zS (hv627_0.symm.trans hx627_0)
         injection hv627_0 with hva_ hvn_ hvc_
         rw [hva_] at ge627_0
         rw [hvc_] at ul627_0
         have HL627_0:=zA (show Kd.V (Kd.int .i64) 3 _ w.heap.size _ _ ((rd_T33 t624 x7_2).f0) from Kd.V_mk ul627_0 ge627_0)
         clear hva_ hvn_ hvc_ ge627_0 ul627_0
         have hv627_1:=hcc627 1 _ rfl
         rw [add_field _ _ 1 (by omega)] at hv627_1
         replace hv627_1:=zS (hv627_1.symm.trans hx627_1)
         injection hv627_1 with hva_ hvn_ hvc_
         rw [hva_] at ge627_1
         rw [hvc_] at ul627_1
         have HL627_1:=zA (show Kd.V (Kd.int .i64) 3 _ w.heap.size _ _ ((rd_T33 t624 x7_2).f1) from Kd.V_mk ul627_1 ge627_1)
         clear hva_ hvn_ hvc_ ge627_1 ul627_1 hcc627 hce627
         have HR627_0:=zA hi627_0
         have HC627_0:=zA hl627_0
         clear hi627_0 hl627_0
         have HR627_1:=zA hi627_1
         have HC627_1:=zA hl627_1
         clear hi627_1 hl627_1
         replace p627:=eq_true p627
         replace q627:=eq_true q627
         go_wp2_with (first|((with_reducible refine gate_callee (f:=54) rfl ?_);refine goesL_ (some 31) rfl rfl Try.func54 (by kernel_rfl) rfl #[.agg #[.slice A627_0 ((rd_T33 t624 x7_2).f0).length c627_0,.slice A627_1 ((rd_T33 t624 x7_2).f1).length c627_1]] rfl (by (try simp only [zJ,zM,zN]);first|done|rfl|(simp only [zL,zK];rfl)) ?_;(with_reducible refine (spec_MapTurns.calls k2 _ _ ((rd_T33 t624 x7_2).f0) _ _ ((rd_T33 t624 x7_2).f1) t628 _ ?side1 ?side2 ?side3 ?side4 A11.out).mono ?_);(case side1=>repeat (first|exact (by repeat (first|(with_reducible exact HR627_0.out)|apply zC_|exact HR627_0.out))|apply zC_));(case side2=>exact HC627_0.out);(case side3=>repeat (first|exact (by repeat (first|(with_reducible exact HR627_1.out)|apply zC_|exact HR627_1.out))|apply zC_));(case side4=>exact HC627_1.out);rintro e w14 ⟨rfl,hb⟩;refine ⟨_,rfl,?_⟩;have n0_:=zA (Kd.V_below (by apply zV_;exact HO_6.out) hb);have n1_:=zA (Kd.V_below (by apply zV_;exact HL627_0.out) hb);have n2_:=zA (Kd.V_below (by apply zV_;exact HL627_1.out) hb);have n3_:=zA (zW (by repeat (first|(with_reducible exact HR627_0.out)|apply zC_|exact HR627_0.out)) hb);have n4_:=zA (zW (by repeat (first|(with_reducible exact HR627_1.out)|apply zC_|exact HR627_1.out)) hb);have n5_:=zA (zR (by exact zB_ HB.out) hb);clear HO_6;clear HL627_0;clear HL627_1;clear HR627_0;clear HR627_1;clear HB;have HO_6:=n0_;have HL627_0:=n1_;have HL627_1:=n2_;have HR627_0:=n3_;have HR627_1:=n4_;have HB:=n5_;clear n0_ n1_ n2_ n3_ n4_ n5_;(try clear hb);(try clear hb2);(try clear hk);(try clear hi)))
         go_roundg k2
         case measure=>have:=HJ2.out;have:=HK2.out;omega
         case rel=>exact ⟨(wrap64 (x5_2+(wrap64 (Int.tdiv (wrap64 (2 * a0)) t628)))),(wrap64 (x7_2+1)),(by first|rfl|(simp;done)|(simp [*];done)),(by first|rfl|(simp;done)|(simp [*];done)),H',⟨by have:=HJ2.out;have:=HK2.out;omega⟩,⟨by apply zV_;exact HO_6.out⟩,⟨by exact zB_ HB.out⟩⟩
       ·rw [if_neg c10] at H
        exact absurd H (by simp)
      ·rw [if_neg c9] at H
       have c9b0:decide (x7_2 < (t624.length:Int)) = false:=zP c9
       clear c9
       obtain rfl:=zS H
       obtain ⟨Ao15,co15,eo15⟩:=Kd.V_slice HO_6.out
       subst eo15
       go_wp2
       go_ret
       exact ⟨by first|rfl|(simp [errW_none,errW_some] <;> rfl)|(simp [*,errW_none,errW_some] <;> rfl),by exact zB_ HB.out⟩

/-! ### laws_FnExactRootlessRoots: function 11 -/
def laws_FnExactRootlessRoots.f (k:Nat) (a0:Int) (a1:Int):Option (Bool):=(spec_RootlessRoots.f k a0 a1).bind fun t629=>((impl_RootlessRoots.f k a0 a1).bind fun t630=>(if t630 = t629 then (some true) else (some false)))
theorem laws_FnExactRootlessRoots.mono:∀ a0 a1 k,LeO (laws_FnExactRootlessRoots.f k a0 a1) (laws_FnExactRootlessRoots.f (k+1) a0 a1):=by
 intro a0 a1 k
 unfold laws_FnExactRootlessRoots.f
 repeat' first
   | (with_reducible exact impl_RootlessRoots.mono _ _ _)
   | (with_reducible exact spec_RootlessRoots.mono _ _ _)
   | (with_reducible exact LeO.refl _)
   | (with_reducible exact za _)
   | (with_reducible refine zc ?_ ?_)
   | (with_reducible refine zb ?_ (fun _=>?_))
set_option maxHeartbeats 8000000 in
set_option maxRecDepth 100000 in
theorem laws_FnExactRootlessRoots.calls (k:Nat) (a0:Int) (a1:Int) (r:Bool) (w:World) (h:laws_FnExactRootlessRoots.f k a0 a1 = some r) :
  Calls Try.prog 11 #[.int .i64 a0,.int .i64 a1] w fun e w'=>e = .returned (.bool r)∧Below w.heap.size w w':=by
 have HB:=zA (Below.refl w.heap.size w)
 have H:((spec_RootlessRoots.f k a0 a1).bind fun t629=>((impl_RootlessRoots.f k a0 a1).bind fun t630=>(if t630 = t629 then (some true) else (some false)))) = some r:=h
 clear h
 replace H:=zz0 H
 obtain ⟨t629,A30,H⟩:=H
 try dsimp only at H
 have A3:=zA A30
 clear A30
 replace H:=zz0 H
 obtain ⟨t630,A40,H⟩:=H
 try dsimp only at H
 have A4:=zA A40
 clear A40
 by_cases c5:t630 = t629
 ·rw [if_pos c5] at H
  have c5b0:(t630 == t629) = true:=beq_iff_eq.mpr c5
  have c5b1:(t630 != t629) = false:=bne_eq_false_iff_eq.mpr c5
  clear c5
  obtain rfl:=zS H
  go_enter Try.func11,Try.ntmps11
  go_wp2_with (first|((with_reducible refine gate_callee (f:=27) rfl ?_);refine goesL_ (some 9) rfl rfl Try.func27 (by kernel_rfl) rfl #[.int .i64 a0,.int .i64 a1] rfl (by (try simp only [zJ,zM,zN]);first|done|rfl|(simp only [zL,zK];rfl)) ?_;(with_reducible refine (spec_RootlessRoots.calls k a0 a1 t629 _ A3.out).mono ?_);rintro e w6 ⟨rfl,hb⟩;refine ⟨_,rfl,?_⟩;have n0_:=zA (zR (by exact zB_ HB.out) hb);clear HB;have HB:=n0_;clear n0_;(try clear hb);(try clear hb2);(try clear hk);(try clear hi))|((with_reducible refine gate_callee (f:=26) rfl ?_);refine goesL_ (some 12) rfl rfl Try.func26 (by kernel_rfl) rfl #[.int .i64 a0,.int .i64 a1] rfl (by (try simp only [zJ,zM,zN]);first|done|rfl|(simp only [zL,zK];rfl)) ?_;(with_reducible refine (impl_RootlessRoots.calls k a0 a1 t630 _ A4.out).mono ?_);rintro e w7 ⟨rfl,hb⟩;refine ⟨_,rfl,?_⟩;have n0_:=zA (zR (by exact zB_ HB.out) hb);clear HB;have HB:=n0_;clear n0_;(try clear hb);(try clear hb2);(try clear hk);(try clear hi)))
  go_ret
  exact ⟨by first|rfl|(simp [errW_none,errW_some] <;> rfl)|(simp [*,errW_none,errW_some] <;> rfl),by exact zB_ HB.out⟩
 ·rw [if_neg c5] at H
  have c5b0:(t630 == t629) = false:=beq_eq_false_iff_ne.mpr c5
  have c5b1:(t630 != t629) = true:=bne_iff_ne.mpr c5
  obtain rfl:=zS H
  go_enter Try.func11,Try.ntmps11
  go_wp2_with (first|((with_reducible refine gate_callee (f:=27) rfl ?_);refine goesL_ (some 9) rfl rfl Try.func27 (by kernel_rfl) rfl #[.int .i64 a0,.int .i64 a1] rfl (by (try simp only [zJ,zM,zN]);first|done|rfl|(simp only [zL,zK];rfl)) ?_;(with_reducible refine (spec_RootlessRoots.calls k a0 a1 t629 _ A3.out).mono ?_);rintro e w8 ⟨rfl,hb⟩;refine ⟨_,rfl,?_⟩;have n0_:=zA (zR (by exact zB_ HB.out) hb);clear HB;have HB:=n0_;clear n0_;(try clear hb);(try clear hb2);(try clear hk);(try clear hi))|((with_reducible refine gate_callee (f:=26) rfl ?_);refine goesL_ (some 12) rfl rfl Try.func26 (by kernel_rfl) rfl #[.int .i64 a0,.int .i64 a1] rfl (by (try simp only [zJ,zM,zN]);first|done|rfl|(simp only [zL,zK];rfl)) ?_;(with_reducible refine (impl_RootlessRoots.calls k a0 a1 t630 _ A4.out).mono ?_);rintro e w9 ⟨rfl,hb⟩;refine ⟨_,rfl,?_⟩;have n0_:=zA (zR (by exact zB_ HB.out) hb);clear HB;have HB:=n0_;clear n0_;(try clear hb);(try clear hb2);(try clear hk);(try clear hi)))
  go_ret
  exact ⟨by first|rfl|(simp [errW_none,errW_some] <;> rfl)|(simp [*,errW_none,errW_some] <;> rfl),by exact zB_ HB.out⟩

/-- THE ONE PURE STATEMENT of laws_FnExactRootlessRoots: yours. -/
def laws_FnExactRootlessRoots.Pure:Prop := ∀ (a0:Int) (a1:Int),(Lit.int .i64 a0).wf = true→(Lit.int .i64 a1).wf = true → ∃ k,laws_FnExactRootlessRoots.f k a0 a1 = some true
theorem laws_FnExactRootlessRoots.walk (P:laws_FnExactRootlessRoots.Pure) (a0:Int) (a1:Int) (w:World) (w0:(Lit.int .i64 a0).wf = true) (w1:(Lit.int .i64 a1).wf = true) :
  Calls Try.prog 11 #[.int .i64 a0,.int .i64 a1] w fun e w'=>e = .returned (.bool true)∧Below w.heap.size w w':=by
 obtain ⟨k,h⟩:=P a0 a1 w0 w1
 refine (laws_FnExactRootlessRoots.calls k a0 a1 true w h).mono ?_
 rintro e w' ⟨rfl,hd⟩
 exact ⟨rfl,hd⟩

end Go.Proofs.Ytdaiohcgdpclnaa.Q
