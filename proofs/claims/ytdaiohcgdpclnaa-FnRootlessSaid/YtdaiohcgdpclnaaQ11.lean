import Derived.Test.YtdaiohcgdpclnaaQ0
import Derived.Test.YtdaiohcgdpclnaaQ10
import Derived.Test.YtdaiohcgdpclnaaQ8
import Derived.Test.YtdaiohcgdpclnaaZ
namespace Go.Proofs.Ytdaiohcgdpclnaa.Q
open Go.RowKit Go.Proofs.YtdaiohcgdpclnaaW.PrintWords Go.Proofs.YtdaiohcgdpclnaaW.PrintLast Go.Proofs.YtdaiohcgdpclnaaW.PrintMore
attribute [local go_sem] max2_int min2_int max_two min_two max_three min_three max_four min_four   -- for this text's walks alone
set_option linter.unusedVariables false
set_option linter.unusedSimpArgs false

/-! ### spec_PermValid: function 111 -/
mutual
def spec_PermValid.l0:Nat→List Int→Int→Option (Bool)
 | 0,_,_=>none
 | k+1,x0,x3=>if x3 < (x0.length:Int) then (if 0≤x3 then ((spec_l6In.f (rd x0 x3) 0 (wrap64 ((x0.length:Int) - 1))).bind fun t415=>(if t415 = true then (spec_PermValid.l1 k x0 x3 0) else (some false))) else (none)) else ((spec_l6In.f (x0.length:Int) 1 12).bind fun t413=>(some t413))
def spec_PermValid.l1:Nat→List Int→Int→Int→Option (Bool)
 | 0,_,_,_=>none
 | k+1,x0,x3,x4=>if x4 < x3 then (if 0≤x4 then (if x4 < (x0.length:Int) then (if 0≤x3 then (if x3 < (x0.length:Int) then (if (rd x0 x4) = (rd x0 x3) then (some false) else (spec_PermValid.l1 k x0 x3 (wrap64 (x4+1)))) else (none)) else (none)) else (none)) else (none)) else (spec_PermValid.l0 k x0 (wrap64 (x3+1)))
end
def spec_PermValid.f (k:Nat) (l0:List Int):Option (Bool):=spec_PermValid.l0 k l0 0
theorem spec_PermValid.mono_l:∀ k,(∀ y0 y1,LeO (spec_PermValid.l0 k y0 y1) (spec_PermValid.l0 (k+1) y0 y1))∧(∀ y0 y1 y2,LeO (spec_PermValid.l1 k y0 y1 y2) (spec_PermValid.l1 (k+1) y0 y1 y2))
 | 0=>⟨fun _ _ r h=>by simp [spec_PermValid.l0] at h,fun _ _ _ r h=>by simp [spec_PermValid.l1] at h⟩
 | k+1=>by
  obtain ⟨ih0,ih1⟩:=spec_PermValid.mono_l k
  refine ⟨?_,?_⟩
  ·intro y0 y1
   unfold spec_PermValid.l0
   repeat' first
   | (with_reducible exact ih0 _ _)
   | (with_reducible exact ih1 _ _ _)
   | (with_reducible exact LeO.refl _)
   | (with_reducible exact za _)
   | (with_reducible refine zc ?_ ?_)
   | (with_reducible refine zb ?_ (fun _=>?_))
  ·intro y0 y1 y2
   unfold spec_PermValid.l1
   repeat' first
   | (with_reducible exact ih0 _ _)
   | (with_reducible exact ih1 _ _ _)
   | (with_reducible exact LeO.refl _)
   | (with_reducible exact za _)
   | (with_reducible refine zc ?_ ?_)
   | (with_reducible refine zb ?_ (fun _=>?_))
theorem spec_PermValid.mono:∀ a0 k,LeO (spec_PermValid.f k a0) (spec_PermValid.f (k+1) a0):=by
 intro a0 k
 obtain ⟨ih0,ih1⟩:=spec_PermValid.mono_l k
 unfold spec_PermValid.f
 repeat' first
   | (with_reducible exact ih0 _ _)
   | (with_reducible exact ih1 _ _ _)
   | (with_reducible exact LeO.refl _)
   | (with_reducible exact za _)
   | (with_reducible refine zc ?_ ?_)
   | (with_reducible refine zb ?_ (fun _=>?_))
set_option maxHeartbeats 8000000 in
set_option maxRecDepth 100000 in
theorem spec_PermValid.calls (k:Nat) (A0:Option Addr) (c0:Nat) (l0:List Int) (r:Bool) (w:World) (hr0:Kd.C (Kd.int .i64) w A0 l0.length l0) (hc0:l0.length≤c0) (h:spec_PermValid.f k l0 = some r) :
  Calls Try.prog 111 #[.slice A0 l0.length c0] w fun e w'=>e = .returned (.bool r)∧Drawn0 w w':=by
 have HR0:=zA hr0
 have HC0:=zA hc0
 clear hr0 hc0
 have H:(spec_PermValid.l0 k l0 0) = some r:=h
 clear h
 have H':=zA H
 clear H
 go_enter Try.func111,Try.ntmps111
 go_wp2
 repeat (go_quiet (fail);try go_wp2)
 go_loopg [3] k (fun kq v3 w' => ∃ (x3_1:Int),v3 = .int .i64 x3_1∧Aside0 (spec_PermValid.l0 kq l0 x3_1 = some r)∧Aside0 (kq≤k)∧Drawn0 w w')
 case atStart=>exact ⟨(0),(by first|rfl|(simp;done)|(simp [*];done)),H',⟨Nat.le_refl _⟩,by repeat (first|exact Drawn0.refl _|apply Drawn0.step)⟩
 case round =>
  clear H'
  (try clear c1)
  obtain ⟨x3_1,rfl,HA,HK1,⟨m1,rfl⟩⟩:=hrel
  cases gk with
  | zero=>exact absurd HA.out (by simp [spec_PermValid.l0])
  | succ k1 =>
   have H:=HA.out
   clear HA
   simp only [spec_PermValid.l0] at H
   by_cases c2:x3_1 < (l0.length:Int)
   ·rw [if_pos c2] at H
    have c2b0:decide (x3_1 < (l0.length:Int)) = true:=zO c2
    clear c2
    by_cases c3:0≤x3_1
    ·rw [if_pos c3] at H
     have c3b0:decide (0≤x3_1) = true:=zO c3
     clear c3
     replace H:=zz0 H
     obtain ⟨t415,A40,H⟩:=H
     try dsimp only at H
     have A4:=zA A40
     clear A40
     by_cases c5:t415 = true
     ·subst c5
      rw [if_pos rfl] at H;try dsimp only at H
      have H':=zA H
      clear H
      have p414:0≤(x3_1:Int):=zE (by with_reducible assumption)
      have q414:x3_1 < (l0.length:Int):=zE (by with_reducible assumption)
      obtain ⟨ad414,e414,hx414_0⟩:=Kd.at_int HR0.out x3_1 p414 q414
      cases e414
      replace p414:=eq_true p414
      replace q414:=eq_true q414
      go_wp2_with (first|(go_at_call 40;(with_reducible refine (spec_l6In.calls (rd l0 x3_1) 0 (wrap64 ((l0.length:Int) - 1)) true _ A4.out).mono ?_);rintro e w' ⟨rfl,⟨nd,rfl⟩⟩;(try first|exact ⟨rfl,_,World.drewN_drewN _ _ _⟩|exact ⟨rfl,_,Eq.trans (World.drewN_drewN _ _ _) (congrArg (World.drewN _) (Nat.add_assoc _ _ _))⟩)))
      repeat (go_quiet (first|(go_at_call 40;(with_reducible refine (spec_l6In.calls (rd l0 x3_1) 0 (wrap64 ((l0.length:Int) - 1)) true _ A4.out).mono ?_);rintro e w' ⟨rfl,⟨nd,rfl⟩⟩;(try first|exact ⟨rfl,_,World.drewN_drewN _ _ _⟩|exact ⟨rfl,_,Eq.trans (World.drewN_drewN _ _ _) (congrArg (World.drewN _) (Nat.add_assoc _ _ _))⟩)));try go_wp2_with (first|(go_at_call 40;(with_reducible refine (spec_l6In.calls (rd l0 x3_1) 0 (wrap64 ((l0.length:Int) - 1)) true _ A4.out).mono ?_);rintro e w' ⟨rfl,⟨nd,rfl⟩⟩;(try first|exact ⟨rfl,_,World.drewN_drewN _ _ _⟩|exact ⟨rfl,_,Eq.trans (World.drewN_drewN _ _ _) (congrArg (World.drewN _) (Nat.add_assoc _ _ _))⟩))))
      go_loopg [4] k1 (fun kq v4 w' => ∃ (x4_2:Int),v4 = .int .i64 x4_2∧Aside0 (spec_PermValid.l1 kq l0 x3_1 x4_2 = some r)∧Aside0 (kq≤k1)∧Drawn0 w w')
      case atStart=>exact ⟨(0),(by first|rfl|(simp;done)|(simp [*];done)),H',⟨Nat.le_refl _⟩,by repeat (first|exact Drawn0.refl _|apply Drawn0.step)⟩
      case round =>
       clear H'
       (try clear c1);(try clear c2);(try clear c2b0);(try clear p2);(try clear c3);(try clear c3b0);(try clear p4);(try clear q4);(try clear hx4);(try clear c5);(try clear hx414_0);(try clear p414);(try clear q414)
       obtain ⟨x4_2,rfl,HA,HK2,⟨m2,rfl⟩⟩:=hrel
       cases gk with
       | zero=>exact absurd HA.out (by simp [spec_PermValid.l1])
       | succ k2 =>
        have H:=HA.out
        clear HA
        simp only [spec_PermValid.l1] at H
        by_cases c6:x4_2 < x3_1
        ·rw [if_pos c6] at H
         have c6b0:decide (x4_2 < x3_1) = true:=zO c6
         clear c6
         by_cases c7:0≤x4_2
         ·rw [if_pos c7] at H
          have c7b0:decide (0≤x4_2) = true:=zO c7
          clear c7
          by_cases c8:x4_2 < (l0.length:Int)
          ·rw [if_pos c8] at H
           have c8b0:decide (x4_2 < (l0.length:Int)) = true:=zO c8
           clear c8
           by_cases c9:0≤x3_1
           ·rw [if_pos c9] at H
            have c9b0:decide (0≤x3_1) = true:=zO c9
            clear c9
            by_cases c10:x3_1 < (l0.length:Int)
            ·rw [if_pos c10] at H
             have c10b0:decide (x3_1 < (l0.length:Int)) = true:=zO c10
             clear c10
             by_cases c11:(rd l0 x4_2) = (rd l0 x3_1)
             ·rw [if_pos c11] at H
              have c11b0:((rd l0 x4_2) == (rd l0 x3_1)) = true:=beq_iff_eq.mpr c11
              have c11b1:((rd l0 x4_2) != (rd l0 x3_1)) = false:=bne_eq_false_iff_eq.mpr c11
              clear c11
              obtain rfl:=zS H
              have p416:0≤(x4_2:Int):=zE (by with_reducible assumption)
              have q416:x4_2 < (l0.length:Int):=zE (by with_reducible assumption)
              obtain ⟨ad416,e416,hx416_0⟩:=Kd.at_int HR0.out x4_2 p416 q416
              obtain rfl:ad414 = ad416:=(by injection e416)
              replace p416:=eq_true p416
              replace q416:=eq_true q416
              have p417:0≤(x3_1:Int):=zE (by with_reducible assumption)
              have q417:x3_1 < (l0.length:Int):=zE (by with_reducible assumption)
              obtain ⟨ad417,e417,hx417_0⟩:=Kd.at_int HR0.out x3_1 p417 q417
              obtain rfl:ad414 = ad417:=(by injection e417)
              replace p417:=eq_true p417
              replace q417:=eq_true q417
              go_wp2
              repeat (go_quiet (fail);try go_wp2)
              go_ret
              exact ⟨by first|rfl|(simp;done)|(simp [*];done),by repeat (first|exact Drawn0.refl _|apply Drawn0.step)⟩
             ·rw [if_neg c11] at H
              have c11b0:((rd l0 x4_2) == (rd l0 x3_1)) = false:=beq_eq_false_iff_ne.mpr c11
              have c11b1:((rd l0 x4_2) != (rd l0 x3_1)) = true:=bne_iff_ne.mpr c11
              have H':=zA H
              clear H
              have p416:0≤(x4_2:Int):=zE (by with_reducible assumption)
              have q416:x4_2 < (l0.length:Int):=zE (by with_reducible assumption)
              obtain ⟨ad416,e416,hx416_0⟩:=Kd.at_int HR0.out x4_2 p416 q416
              obtain rfl:ad414 = ad416:=(by injection e416)
              replace p416:=eq_true p416
              replace q416:=eq_true q416
              have p417:0≤(x3_1:Int):=zE (by with_reducible assumption)
              have q417:x3_1 < (l0.length:Int):=zE (by with_reducible assumption)
              obtain ⟨ad417,e417,hx417_0⟩:=Kd.at_int HR0.out x3_1 p417 q417
              obtain rfl:ad414 = ad417:=(by injection e417)
              replace p417:=eq_true p417
              replace q417:=eq_true q417
              go_wp2
              repeat (go_quiet (fail);try go_wp2)
              go_roundg k2
              case measure=>have:=HK1.out;have:=HK2.out;omega
              case rel=>exact ⟨(wrap64 (x4_2+1)),(by first|rfl|(simp;done)|(simp [*];done)),H',⟨by have:=HK1.out;have:=HK2.out;omega⟩,by repeat (first|exact Drawn0.refl _|apply Drawn0.step)⟩
            ·rw [if_neg c10] at H
             exact absurd H (by simp)
           ·rw [if_neg c9] at H
            exact absurd H (by simp)
          ·rw [if_neg c8] at H
           exact absurd H (by simp)
         ·rw [if_neg c7] at H
          exact absurd H (by simp)
        ·rw [if_neg c6] at H
         have c6b0:decide (x4_2 < x3_1) = false:=zP c6
         clear c6
         have H':=zA H
         clear H
         go_wp2
         repeat (go_quiet (fail);try go_wp2)
         go_roundg k2
         case measure=>have:=HK1.out;have:=HK2.out;omega
         case rel=>exact ⟨(wrap64 (x3_1+1)),(by first|rfl|(simp;done)|(simp [*];done)),H',⟨by have:=HK1.out;have:=HK2.out;omega⟩,by repeat (first|exact Drawn0.refl _|apply Drawn0.step)⟩
     ·replace c5:=Bool.eq_false_iff.mpr c5
      subst c5
      have H1:(some false) = some r:=by rw [if_neg (show ¬ (false = true) by decide)] at H;exact H
      clear H
      have H:=H1
      clear H1
      obtain rfl:=zS H
      have p414:0≤(x3_1:Int):=zE (by with_reducible assumption)
      have q414:x3_1 < (l0.length:Int):=zE (by with_reducible assumption)
      obtain ⟨ad414,e414,hx414_0⟩:=Kd.at_int HR0.out x3_1 p414 q414
      cases e414
      replace p414:=eq_true p414
      replace q414:=eq_true q414
      go_wp2_with (first|(go_at_call 40;(with_reducible refine (spec_l6In.calls (rd l0 x3_1) 0 (wrap64 ((l0.length:Int) - 1)) false _ A4.out).mono ?_);rintro e w' ⟨rfl,⟨nd,rfl⟩⟩;(try first|exact ⟨rfl,_,World.drewN_drewN _ _ _⟩|exact ⟨rfl,_,Eq.trans (World.drewN_drewN _ _ _) (congrArg (World.drewN _) (Nat.add_assoc _ _ _))⟩)))
      repeat (go_quiet (first|(go_at_call 40;(with_reducible refine (spec_l6In.calls (rd l0 x3_1) 0 (wrap64 ((l0.length:Int) - 1)) false _ A4.out).mono ?_);rintro e w' ⟨rfl,⟨nd,rfl⟩⟩;(try first|exact ⟨rfl,_,World.drewN_drewN _ _ _⟩|exact ⟨rfl,_,Eq.trans (World.drewN_drewN _ _ _) (congrArg (World.drewN _) (Nat.add_assoc _ _ _))⟩)));try go_wp2_with (first|(go_at_call 40;(with_reducible refine (spec_l6In.calls (rd l0 x3_1) 0 (wrap64 ((l0.length:Int) - 1)) false _ A4.out).mono ?_);rintro e w' ⟨rfl,⟨nd,rfl⟩⟩;(try first|exact ⟨rfl,_,World.drewN_drewN _ _ _⟩|exact ⟨rfl,_,Eq.trans (World.drewN_drewN _ _ _) (congrArg (World.drewN _) (Nat.add_assoc _ _ _))⟩))))
      go_ret
      exact ⟨by first|rfl|(simp;done)|(simp [*];done),by repeat (first|exact Drawn0.refl _|apply Drawn0.step)⟩
    ·rw [if_neg c3] at H
     exact absurd H (by simp)
   ·rw [if_neg c2] at H
    have c2b0:decide (x3_1 < (l0.length:Int)) = false:=zP c2
    clear c2
    replace H:=zz0 H
    obtain ⟨t413,A120,H⟩:=H
    try dsimp only at H
    have A12:=zA A120
    clear A120
    obtain rfl:=zS H
    go_wp2_with (first|(go_at_call 40;(with_reducible refine (spec_l6In.calls (l0.length:Int) 1 12 t413 _ A12.out).mono ?_);rintro e w' ⟨rfl,⟨nd,rfl⟩⟩;(try first|exact ⟨rfl,_,World.drewN_drewN _ _ _⟩|exact ⟨rfl,_,Eq.trans (World.drewN_drewN _ _ _) (congrArg (World.drewN _) (Nat.add_assoc _ _ _))⟩)))
    repeat (go_quiet (first|(go_at_call 40;(with_reducible refine (spec_l6In.calls (l0.length:Int) 1 12 t413 _ A12.out).mono ?_);rintro e w' ⟨rfl,⟨nd,rfl⟩⟩;(try first|exact ⟨rfl,_,World.drewN_drewN _ _ _⟩|exact ⟨rfl,_,Eq.trans (World.drewN_drewN _ _ _) (congrArg (World.drewN _) (Nat.add_assoc _ _ _))⟩)));try go_wp2_with (first|(go_at_call 40;(with_reducible refine (spec_l6In.calls (l0.length:Int) 1 12 t413 _ A12.out).mono ?_);rintro e w' ⟨rfl,⟨nd,rfl⟩⟩;(try first|exact ⟨rfl,_,World.drewN_drewN _ _ _⟩|exact ⟨rfl,_,Eq.trans (World.drewN_drewN _ _ _) (congrArg (World.drewN _) (Nat.add_assoc _ _ _))⟩))))
    go_ret
    exact ⟨by first|rfl|(simp;done)|(simp [*];done),by repeat (first|exact Drawn0.refl _|apply Drawn0.step)⟩

/-! ### spec_l1Both: function 94 -/
def spec_l1Both.f (k:Nat) (l0:List Int) (l1:List Int):Option (Bool):=(spec_PermValid.f k l0).bind fun t418=>(if t418 = true then ((spec_PermValid.f k l1).bind fun t419=>(if t419 = true then (some ((l0.length:Int) == (l1.length:Int))) else (some false))) else (some false))
theorem spec_l1Both.mono:∀ a0 a1 k,LeO (spec_l1Both.f k a0 a1) (spec_l1Both.f (k+1) a0 a1):=by
 intro a0 a1 k
 unfold spec_l1Both.f
 repeat' first
   | (with_reducible exact spec_PermValid.mono _ _)
   | (with_reducible exact LeO.refl _)
   | (with_reducible exact za _)
   | (with_reducible refine zc ?_ ?_)
   | (with_reducible refine zb ?_ (fun _=>?_))
set_option maxHeartbeats 8000000 in
set_option maxRecDepth 100000 in
theorem spec_l1Both.calls (k:Nat) (A0:Option Addr) (c0:Nat) (l0:List Int) (A1:Option Addr) (c1:Nat) (l1:List Int) (r:Bool) (w:World) (hr0:Kd.C (Kd.int .i64) w A0 l0.length l0) (hc0:l0.length≤c0) (hr1:Kd.C (Kd.int .i64) w A1 l1.length l1) (hc1:l1.length≤c1) (h:spec_l1Both.f k l0 l1 = some r) :
  Calls Try.prog 94 #[.slice A0 l0.length c0,.slice A1 l1.length c1] w fun e w'=>e = .returned (.bool r)∧Drawn0 w w':=by
 have HR0:=zA hr0
 have HC0:=zA hc0
 clear hr0 hc0
 have HR1:=zA hr1
 have HC1:=zA hc1
 clear hr1 hc1
 have H:((spec_PermValid.f k l0).bind fun t418=>(if t418 = true then ((spec_PermValid.f k l1).bind fun t419=>(if t419 = true then (some ((l0.length:Int) == (l1.length:Int))) else (some false))) else (some false))) = some r:=h
 clear h
 replace H:=zz0 H
 obtain ⟨t418,A30,H⟩:=H
 try dsimp only at H
 have A3:=zA A30
 clear A30
 by_cases c4:t418 = true
 ·subst c4
  rw [if_pos rfl] at H;try dsimp only at H
  replace H:=zz0 H
  obtain ⟨t419,A50,H⟩:=H
  try dsimp only at H
  have A5:=zA A50
  clear A50
  by_cases c6:t419 = true
  ·subst c6
   rw [if_pos rfl] at H;try dsimp only at H
   obtain rfl:=zS H
   go_enter Try.func94,Try.ntmps94
   go_wp2_with (first|((with_reducible refine gate_callee (f:=111) rfl ?_);refine goesL_ (some 6) rfl rfl Try.func111 (by kernel_rfl) rfl #[.slice A0 l0.length c0] rfl (by (try simp only [zJ,zM,zN]);first|done|rfl|(simp only [zL,zK];rfl)) ?_;(with_reducible refine (spec_PermValid.calls k _ _ l0 true _ ?side1 ?side2 A3.out).mono ?_);(case side1=>repeat (first|exact HR0.out|apply zC_));(case side2=>exact HC0.out);rintro e w' ⟨rfl,⟨nd,rfl⟩⟩;refine ⟨_,rfl,?_⟩)|(go_at_call 111;(with_reducible refine (spec_PermValid.calls k _ _ l1 true _ ?side1 ?side2 A5.out).mono ?_);(case side1=>repeat (first|exact HR1.out|apply zC_));(case side2=>exact HC1.out);rintro e w' ⟨rfl,⟨nd,rfl⟩⟩))
   go_ret
   exact ⟨by first|rfl|(simp;done)|(simp [*];done),by repeat (first|exact Drawn0.refl _|apply Drawn0.step)⟩
  ·replace c6:=Bool.eq_false_iff.mpr c6
   subst c6
   have H1:(some false) = some r:=by rw [if_neg (show ¬ (false = true) by decide)] at H;exact H
   clear H
   have H:=H1
   clear H1
   obtain rfl:=zS H
   go_enter Try.func94,Try.ntmps94
   go_wp2_with (first|((with_reducible refine gate_callee (f:=111) rfl ?_);refine goesL_ (some 6) rfl rfl Try.func111 (by kernel_rfl) rfl #[.slice A0 l0.length c0] rfl (by (try simp only [zJ,zM,zN]);first|done|rfl|(simp only [zL,zK];rfl)) ?_;(with_reducible refine (spec_PermValid.calls k _ _ l0 true _ ?side1 ?side2 A3.out).mono ?_);(case side1=>repeat (first|exact HR0.out|apply zC_));(case side2=>exact HC0.out);rintro e w' ⟨rfl,⟨nd,rfl⟩⟩;refine ⟨_,rfl,?_⟩)|(go_at_call 111;(with_reducible refine (spec_PermValid.calls k _ _ l1 false _ ?side1 ?side2 A5.out).mono ?_);(case side1=>repeat (first|exact HR1.out|apply zC_));(case side2=>exact HC1.out);rintro e w' ⟨rfl,⟨nd,rfl⟩⟩))
   go_ret
   exact ⟨by first|rfl|(simp;done)|(simp [*];done),by repeat (first|exact Drawn0.refl _|apply Drawn0.step)⟩
 ·replace c4:=Bool.eq_false_iff.mpr c4
  subst c4
  have H1:(some false) = some r:=by rw [if_neg (show ¬ (false = true) by decide)] at H;exact H
  clear H
  have H:=H1
  clear H1
  obtain rfl:=zS H
  go_enter Try.func94,Try.ntmps94
  go_wp2_with (first|((with_reducible refine gate_callee (f:=111) rfl ?_);refine goesL_ (some 6) rfl rfl Try.func111 (by kernel_rfl) rfl #[.slice A0 l0.length c0] rfl (by (try simp only [zJ,zM,zN]);first|done|rfl|(simp only [zL,zK];rfl)) ?_;(with_reducible refine (spec_PermValid.calls k _ _ l0 false _ ?side1 ?side2 A3.out).mono ?_);(case side1=>repeat (first|exact HR0.out|apply zC_));(case side2=>exact HC0.out);rintro e w' ⟨rfl,⟨nd,rfl⟩⟩;refine ⟨_,rfl,?_⟩))
  go_ret
  exact ⟨by first|rfl|(simp;done)|(simp [*];done),by repeat (first|exact Drawn0.refl _|apply Drawn0.step)⟩

/-! ### spec_l1Orbits: function 95 -/
mutual
def spec_l1Orbits.l0:Nat→List Int→List Int→List Int→Int→Option (List Int)
 | 0,_,_,_,_=>none
 | k+1,x0,x1,x5,x6=>if x6 < (x0.length:Int) then (spec_l1Orbits.l1 k x0 x1 x5 x6 0) else (some x5)
def spec_l1Orbits.l1:Nat→List Int→List Int→List Int→Int→Int→Option (List Int)
 | 0,_,_,_,_,_=>none
 | k+1,x0,x1,x5,x6,x7=>if x7 < (x0.length:Int) then (if 0≤x7 then (if x7 < (x5.length:Int) then (if 0≤(rd x0 x7) then (if (rd x0 x7) < (x5.length:Int) then (if x7 < (x1.length:Int) then (if 0≤(rd x1 x7) then (if (rd x1 x7) < (x5.length:Int) then (spec_l1Orbits.l1 k x0 x1 (((x5.set (x7:Int).toNat (mn (rd x5 x7) (mn (rd x5 (rd x0 x7)) (rd x5 (rd x1 x7))))).set ((rd x0 x7):Int).toNat (mn (rd x5 x7) (mn (rd x5 (rd x0 x7)) (rd x5 (rd x1 x7))))).set ((rd x1 x7):Int).toNat (mn (rd x5 x7) (mn (rd x5 (rd x0 x7)) (rd x5 (rd x1 x7))))) x6 (wrap64 (x7+1))) else (none)) else (none)) else (none)) else (none)) else (none)) else (none)) else (none)) else (spec_l1Orbits.l0 k x0 x1 x5 (wrap64 (x6+1)))
end
def spec_l1Orbits.f (k:Nat) (l0:List Int) (l1:List Int):Option (List Int):=(spec_l1Same.f k (l0.length:Int)).bind fun t420=>(spec_l1Orbits.l0 k l0 l1 t420 0)
theorem spec_l1Orbits.mono_l:∀ k,(∀ y0 y1 y2 y3,LeO (spec_l1Orbits.l0 k y0 y1 y2 y3) (spec_l1Orbits.l0 (k+1) y0 y1 y2 y3))∧(∀ y0 y1 y2 y3 y4,LeO (spec_l1Orbits.l1 k y0 y1 y2 y3 y4) (spec_l1Orbits.l1 (k+1) y0 y1 y2 y3 y4))
 | 0=>⟨fun _ _ _ _ r h=>by simp [spec_l1Orbits.l0] at h,fun _ _ _ _ _ r h=>by simp [spec_l1Orbits.l1] at h⟩
 | k+1=>by
  obtain ⟨ih0,ih1⟩:=spec_l1Orbits.mono_l k
  refine ⟨?_,?_⟩
  ·intro y0 y1 y2 y3
   unfold spec_l1Orbits.l0
   repeat' first
   | (with_reducible exact ih0 _ _ _ _)
   | (with_reducible exact ih1 _ _ _ _ _)
   | (with_reducible exact spec_l1Same.mono _ _)
   | (with_reducible exact LeO.refl _)
   | (with_reducible exact za _)
   | (with_reducible refine zc ?_ ?_)
   | (with_reducible refine zb ?_ (fun _=>?_))
  ·intro y0 y1 y2 y3 y4
   unfold spec_l1Orbits.l1
   repeat' first
   | (with_reducible exact ih0 _ _ _ _)
   | (with_reducible exact ih1 _ _ _ _ _)
   | (with_reducible exact spec_l1Same.mono _ _)
   | (with_reducible exact LeO.refl _)
   | (with_reducible exact za _)
   | (with_reducible refine zc ?_ ?_)
   | (with_reducible refine zb ?_ (fun _=>?_))
theorem spec_l1Orbits.mono:∀ a0 a1 k,LeO (spec_l1Orbits.f k a0 a1) (spec_l1Orbits.f (k+1) a0 a1):=by
 intro a0 a1 k
 obtain ⟨ih0,ih1⟩:=spec_l1Orbits.mono_l k
 unfold spec_l1Orbits.f
 repeat' first
   | (with_reducible exact ih0 _ _ _ _)
   | (with_reducible exact ih1 _ _ _ _ _)
   | (with_reducible exact spec_l1Same.mono _ _)
   | (with_reducible exact LeO.refl _)
   | (with_reducible exact za _)
   | (with_reducible refine zc ?_ ?_)
   | (with_reducible refine zb ?_ (fun _=>?_))
set_option maxHeartbeats 8000000 in
set_option maxRecDepth 100000 in
theorem spec_l1Orbits.calls (k:Nat) (A0:Option Addr) (c0:Nat) (l0:List Int) (A1:Option Addr) (c1:Nat) (l1:List Int) (r:List Int) (w:World) (hr0:Kd.C (Kd.int .i64) w A0 l0.length l0) (hc0:l0.length≤c0) (hr1:Kd.C (Kd.int .i64) w A1 l1.length l1) (hc1:l1.length≤c1) (h:spec_l1Orbits.f k l0 l1 = some r) :
  Calls Try.prog 95 #[.slice A0 l0.length c0,.slice A1 l1.length c1] w fun e w' => ∃ v0_:Value,e = .returned (v0_)∧Kd.R (Kd.int .i64) 3 w' w.heap.size (fun _=>True) v0_ r∧Below w.heap.size w w':=by
 have HR0:=zA hr0
 have HC0:=zA hc0
 clear hr0 hc0
 have HR1:=zA hr1
 have HC1:=zA hc1
 clear hr1 hc1
 have HB:=zA (Below.refl w.heap.size w)
 have H:((spec_l1Same.f k (l0.length:Int)).bind fun t420=>(spec_l1Orbits.l0 k l0 l1 t420 0)) = some r:=h
 clear h
 replace H:=zz0 H
 obtain ⟨t420,A30,H⟩:=H
 try dsimp only at H
 have A3:=zA A30
 clear A30
 have H':=zA H
 clear H
 go_enter Try.func95,Try.ntmps95
 go_wp2_with (first|(go_at_call 74;(with_reducible refine (spec_l1Same.calls k (l0.length:Int) t420 _ A3.out).mono ?_);rintro e w4 ⟨v421,rfl,ho0,hb⟩;have n0_:=zA (ze ho0 (zQ (by exact zB_ HB.out)));have n1_:=zA (zR (by exact zB_ HB.out) hb);clear HB;have HO422:=n0_;have HB:=n1_;clear n0_ n1_;(try clear hb);(try clear hb2);(try clear hk);(try clear hi);(try clear ho0)))
 repeat (go_quiet (fail);try go_wp2_with (first|(go_at_call 74;(with_reducible refine (spec_l1Same.calls k (l0.length:Int) t420 _ A3.out).mono ?_);rintro e w4 ⟨v421,rfl,ho0,hb⟩;have n0_:=zA (ze ho0 (zQ (by exact zB_ HB.out)));have n1_:=zA (zR (by exact zB_ HB.out) hb);clear HB;have HO422:=n0_;have HB:=n1_;clear n0_ n1_;(try clear hb);(try clear hb2);(try clear hk);(try clear hi);(try clear ho0))))
 go_loopg [6] k (fun kq v6 w' => ∃ (x5_1:List Int) (x6_1:Int),v6 = .int .i64 x6_1∧Aside0 (spec_l1Orbits.l0 kq l0 l1 x5_1 x6_1 = some r)∧Aside0 (kq≤k)∧Aside0 (Kd.R (Kd.int .i64) 3 w' w.heap.size (fun _=>True) v421 x5_1)∧Aside0 (Below w.heap.size w w'))
 case atStart=>exact ⟨(t420),(0),(by first|rfl|(simp;done)|(simp [*];done)),H',⟨Nat.le_refl _⟩,⟨by apply zR_;exact HO422.out⟩,⟨by exact zB_ HB.out⟩⟩
 case round =>
  clear H'
  (try clear c1);(try clear p2)
  obtain ⟨x5_1,x6_1,rfl,HA,HK1,HO_5,HB⟩:=hrel
  cases gk with
  | zero=>exact absurd HA.out (by simp [spec_l1Orbits.l0])
  | succ k1 =>
   have H:=HA.out
   clear HA
   simp only [spec_l1Orbits.l0] at H
   by_cases c5:x6_1 < (l0.length:Int)
   ·rw [if_pos c5] at H
    have c5b0:decide (x6_1 < (l0.length:Int)) = true:=zO c5
    clear c5
    have H':=zA H
    clear H
    go_wp2
    repeat (go_quiet (fail);try go_wp2)
    go_loopg [7] k1 (fun kq v7 w' => ∃ (x5_2:List Int) (x7_2:Int),v7 = .int .i64 x7_2∧Aside0 (spec_l1Orbits.l1 kq l0 l1 x5_2 x6_1 x7_2 = some r)∧Aside0 (kq≤k1)∧Aside0 (Kd.R (Kd.int .i64) 3 w' w.heap.size (fun _=>True) v421 x5_2)∧Aside0 (Below w.heap.size w w'))
    case atStart=>exact ⟨(x5_1),(0),(by first|rfl|(simp;done)|(simp [*];done)),H',⟨Nat.le_refl _⟩,⟨by apply zR_;exact HO_5.out⟩,⟨by exact zB_ HB.out⟩⟩
    case round =>
     clear H'
     (try clear c1);(try clear p2);(try clear c5);(try clear c5b0);(try clear p2)
     obtain ⟨x5_2,x7_2,rfl,HA,HK2,HO_5,HB⟩:=hrel
     cases gk with
     | zero=>exact absurd HA.out (by simp [spec_l1Orbits.l1])
     | succ k2 =>
      have H:=HA.out
      clear HA
      simp only [spec_l1Orbits.l1] at H
      by_cases c6:x7_2 < (l0.length:Int)
      ·rw [if_pos c6] at H
       have c6b0:decide (x7_2 < (l0.length:Int)) = true:=zO c6
       clear c6
       by_cases c7:0≤x7_2
       ·rw [if_pos c7] at H
        have c7b0:decide (0≤x7_2) = true:=zO c7
        clear c7
        by_cases c8:x7_2 < (x5_2.length:Int)
        ·rw [if_pos c8] at H
         have c8b0:decide (x7_2 < (x5_2.length:Int)) = true:=zO c8
         clear c8
         by_cases c9:0≤(rd l0 x7_2)
         ·rw [if_pos c9] at H
          have c9b0:decide (0≤(rd l0 x7_2)) = true:=zO c9
          clear c9
          by_cases c10:(rd l0 x7_2) < (x5_2.length:Int)
          ·rw [if_pos c10] at H
           have c10b0:decide ((rd l0 x7_2) < (x5_2.length:Int)) = true:=zO c10
           clear c10
           by_cases c11:x7_2 < (l1.length:Int)
           ·rw [if_pos c11] at H
            have c11b0:decide (x7_2 < (l1.length:Int)) = true:=zO c11
            clear c11
            by_cases c12:0≤(rd l1 x7_2)
            ·rw [if_pos c12] at H
             have c12b0:decide (0≤(rd l1 x7_2)) = true:=zO c12
             clear c12
             by_cases c13:(rd l1 x7_2) < (x5_2.length:Int)
             ·rw [if_pos c13] at H
              have c13b0:decide ((rd l1 x7_2) < (x5_2.length:Int)) = true:=zO c13
              clear c13
              obtain ⟨ji14,hji14⟩:∃ j_:Int,(mn (rd x5_2 (rd l0 x7_2)) (rd x5_2 (rd l1 x7_2))) = j_:=⟨_,rfl⟩
              replace H:(spec_l1Orbits.l1 k2 l0 l1 (((x5_2.set (x7_2:Int).toNat (mn (rd x5_2 x7_2) (ji14))).set ((rd l0 x7_2):Int).toNat (mn (rd x5_2 x7_2) (ji14))).set ((rd l1 x7_2):Int).toNat (mn (rd x5_2 x7_2) (ji14))) x6_1 (wrap64 (x7_2+1))) = some r:=by first|(rw [hji14] at H;exact H)|(simp only [hji14] at H ⊢;exact H)
              have hji14_:(if (rd x5_2 (rd l1 x7_2)) < (rd x5_2 (rd l0 x7_2)) then (rd x5_2 (rd l1 x7_2)) else (rd x5_2 (rd l0 x7_2))) = ji14:=hji14
              obtain ⟨ji15,hji15⟩:∃ j_:Int,(mn (rd x5_2 x7_2) (ji14)) = j_:=⟨_,rfl⟩
              replace H:(spec_l1Orbits.l1 k2 l0 l1 (((x5_2.set (x7_2:Int).toNat (ji15)).set ((rd l0 x7_2):Int).toNat (ji15)).set ((rd l1 x7_2):Int).toNat (ji15)) x6_1 (wrap64 (x7_2+1))) = some r:=by first|(rw [hji15] at H;exact H)|(simp only [hji15] at H ⊢;exact H)
              have hji15_:(if (ji14) < (rd x5_2 x7_2) then (ji14) else (rd x5_2 x7_2)) = ji15:=hji15
              obtain ⟨y428,hy428⟩:∃ y_:List Int,y_ = (x5_2.set (x7_2:Int).toNat (ji15)):=⟨_,rfl⟩
              replace H:(spec_l1Orbits.l1 k2 l0 l1 ((y428.set ((rd l0 x7_2):Int).toNat (ji15)).set ((rd l1 x7_2):Int).toNat (ji15)) x6_1 (wrap64 (x7_2+1))) = some r:=by (try rw [hy428]);first|with_reducible exact H|with_reducible exact zS_ H|exact H
              have Ny428:=zA hy428
              clear hy428
              obtain ⟨y430,hy430⟩:∃ y_:List Int,y_ = (y428.set ((rd l0 x7_2):Int).toNat (ji15)):=⟨_,rfl⟩
              replace H:(spec_l1Orbits.l1 k2 l0 l1 (y430.set ((rd l1 x7_2):Int).toNat (ji15)) x6_1 (wrap64 (x7_2+1))) = some r:=by (try rw [hy430]);first|with_reducible exact H|with_reducible exact zS_ H|exact H
              have Ny430:=zA hy430
              clear hy430
              obtain ⟨y432,hy432⟩:∃ y_:List Int,y_ = (y430.set ((rd l1 x7_2):Int).toNat (ji15)):=⟨_,rfl⟩
              replace H:(spec_l1Orbits.l1 k2 l0 l1 y432 x6_1 (wrap64 (x7_2+1))) = some r:=by (try rw [hy432]);first|with_reducible exact H|with_reducible exact zS_ H|exact H
              have Ny432:=zA hy432
              clear hy432
              have H':=zA H
              clear H
              obtain ⟨Ao19,co19,eo19⟩:=zg HO_5.out
              subst eo19
              have p423:0≤(x7_2:Int):=zE (by with_reducible assumption)
              have q423:x7_2 < (x5_2.length:Int):=zE (by with_reducible assumption)
              obtain ⟨ad423,e423,hx423_0⟩:=Kd.at_int (zU HO_5.out).2.2 x7_2 p423 q423
              cases e423
              replace p423:=eq_true p423
              replace q423:=eq_true q423
              have p424:0≤(x7_2:Int):=zE (by with_reducible assumption)
              have q424:x7_2 < (l0.length:Int):=zE (by with_reducible assumption)
              obtain ⟨ad424,e424,hx424_0⟩:=Kd.at_int HR0.out x7_2 p424 q424
              cases e424
              replace hx424_0:=(HB.out.cell (zY w _ hx424_0)).trans hx424_0
              replace p424:=eq_true p424
              replace q424:=eq_true q424
              have p425:0≤((rd l0 x7_2):Int):=zE (by with_reducible assumption)
              have q425:(rd l0 x7_2) < (x5_2.length:Int):=zE (by with_reducible assumption)
              obtain ⟨ad425,e425,hx425_0⟩:=Kd.at_int (zU HO_5.out).2.2 (rd l0 x7_2) p425 q425
              obtain rfl:ad423 = ad425:=(by injection e425)
              replace p425:=eq_true p425
              replace q425:=eq_true q425
              have p426:0≤(x7_2:Int):=zE (by with_reducible assumption)
              have q426:x7_2 < (l1.length:Int):=zE (by with_reducible assumption)
              obtain ⟨ad426,e426,hx426_0⟩:=Kd.at_int HR1.out x7_2 p426 q426
              cases e426
              replace hx426_0:=(HB.out.cell (zY w _ hx426_0)).trans hx426_0
              replace p426:=eq_true p426
              replace q426:=eq_true q426
              have p427:0≤((rd l1 x7_2):Int):=zE (by with_reducible assumption)
              have q427:(rd l1 x7_2) < (x5_2.length:Int):=zE (by with_reducible assumption)
              obtain ⟨ad427,e427,hx427_0⟩:=Kd.at_int (zU HO_5.out).2.2 (rd l1 x7_2) p427 q427
              obtain rfl:ad423 = ad427:=(by injection e427)
              replace p427:=eq_true p427
              replace q427:=eq_true q427
              have p16:0≤(x7_2:Int):=zE (by with_reducible assumption)
              have q16:(x7_2:Int) < ((x5_2.length:Int):Int):=zE (by with_reducible assumption)
              obtain ⟨go16,co16,eo16,gb16,gl16,cl16,HG16⟩:=Kd.R_form HO_5.out (by omega)
              (first|cases eo16|(injection eo16 with ea_ en_ ec_;(first|subst ea_|(injection ea_ with ea_;subst ea_));subst ec_;clear en_))
              have GB16:=zA gb16
              have GG16:=zA HG16
              clear gb16 gl16 HG16
              (first|simp only [add_plain] at hx423_0|skip)
              (first|simp only [add_plain] at hx425_0|skip)
              (first|simp only [add_plain] at hx427_0|skip)
              obtain ⟨hx16_0,hf16_0⟩:=Kd.R_celln 0 HO_5.out (x7_2:Int) p16 q16
              replace p16:=eq_true p16
              replace q16:=eq_true q16
              have HP20:=Kd.R_putg HO_5.out (x7_2:Int) ji15
              go_wp2_with (first|((with_reducible refine gate_store (t:=3) (p:=47) rfl ?_);(try ((first|(generalize hq_:World.drewN wr _ = wr)|(rw [drewN_self wr];generalize hq_:World.drewN wr _ = wr));have n0_:=zA (Kd.R_at hq_ HO_5.out);have n1_:=zA (below_at hq_ HB.out);clear hq_ HO_5 HB;have HO_5:=n0_;have HB:=n1_;clear n0_ n1_;(try (have HP20:=Kd.R_putg HO_5.out (x7_2:Int) ji15));(try (obtain ⟨hx19b_,hf19b_⟩:=Kd.R_celln 0 HO_5.out (x7_2:Int) (of_eq_true (by assumption)) (of_eq_true (by assumption))))));refine store_event (t:=3) (p:=47) (v:=?vo_w21) (w1:=(wr.setCell ⟨go16,(x7_2:Int).toNat,none⟩ (.int .i64 ji15))) ?hg ?ho ?hn ?hr ?_;(case ho=>rfl);(case hg=>rfl);(case hn=>rfl);(case hr=>first|(go_simp;done)|(go_simp;rfl));intro w21 hw;have hg:wr.grownBy w21 (some go16):=(by rw [hw];exact HP20.2);have hp_:Kd.R (Kd.int .i64) 3 w21 w.heap.size (fun _=>True) (.slice (some ⟨go16,0,none⟩) x5_2.length co19) y428:=(by rw [hw,Ny428.out];exact HP20.1);clear HP20;have n0_:=zA (hp_);have n1_:=zA ((by rw [hw];exact zF (HB.out) GB16.out:Below w.heap.size w w21));clear HO_5;clear HB;have HO_5:=n0_;have HB:=n1_;clear n0_ n1_;clear hg hw hp_;have p429:0≤(x7_2:Int):=zE (by with_reducible assumption);have q429:x7_2 < (l0.length:Int):=zE (by with_reducible assumption);obtain ⟨ad429,e429,hx429_0⟩:=Kd.at_int HR0.out x7_2 p429 q429;obtain rfl:ad424 = ad429:=(by injection e429);replace hx429_0:=(HB.out.cell (zY w _ hx429_0)).trans hx429_0;replace p429:=eq_true p429;replace q429:=eq_true q429;have p17:0≤((rd l0 x7_2):Int):=zE (by with_reducible assumption);have q17:((rd l0 x7_2):Int) < ((x5_2.length:Int):Int):=zE (by with_reducible assumption);obtain ⟨hx17_0,hf17_0⟩:=Kd.R_celln 0 HO_5.out ((rd l0 x7_2):Int) p17 q17;replace p17:=eq_true p17;replace q17:=eq_true q17;obtain ⟨hy22_,hz22_⟩:=Kd.R_celln 0 HO_5.out ((rd l0 x7_2):Int) (zE (by with_reducible assumption)) (zE (by with_reducible assumption));have HP22:=Kd.R_putg HO_5.out ((rd l0 x7_2):Int) ji15)|((with_reducible refine gate_store (t:=3) (p:=54) rfl ?_);(try (rw [drewN_self w21];generalize hq_:World.drewN w21 _ = w21;have n0_:=zA (Kd.R_at hq_ HO_5.out);have n1_:=zA (below_at hq_ HB.out);clear hq_ HO_5 HB;have HO_5:=n0_;have HB:=n1_;clear n0_ n1_;(try (obtain ⟨hy22_,hz22_⟩:=Kd.R_celln 0 HO_5.out ((rd l0 x7_2):Int) (zE (by with_reducible assumption)) (zE (by with_reducible assumption))));(try (have HP22:=Kd.R_putg HO_5.out ((rd l0 x7_2):Int) ji15))));refine store_event (t:=3) (p:=54) (v:=?vo_w23) (w1:=(w21.setCell ⟨go16,((rd l0 x7_2):Int).toNat,none⟩ (.int .i64 ji15))) ?hg ?ho ?hn ?hr ?_;(case ho=>rfl);(case hg=>rfl);(case hn=>rfl);(case hr=>first|(go_simp;done)|(go_simp;rfl));intro w23 hw;have hg:w21.grownBy w23 (some go16):=(by rw [hw];exact HP22.2);have hp_:Kd.R (Kd.int .i64) 3 w23 w.heap.size (fun _=>True) (.slice (some ⟨go16,0,none⟩) x5_2.length co19) y430:=(by rw [hw,Ny430.out];exact HP22.1);clear HP22;have n0_:=zA (hp_);have n1_:=zA ((by rw [hw];exact zF (HB.out) GB16.out:Below w.heap.size w w23));clear HO_5;clear HB;have HO_5:=n0_;have HB:=n1_;clear n0_ n1_;clear hg hw hp_;have p431:0≤(x7_2:Int):=zE (by with_reducible assumption);have q431:x7_2 < (l1.length:Int):=zE (by with_reducible assumption);obtain ⟨ad431,e431,hx431_0⟩:=Kd.at_int HR1.out x7_2 p431 q431;obtain rfl:ad426 = ad431:=(by injection e431);replace hx431_0:=(HB.out.cell (zY w _ hx431_0)).trans hx431_0;replace p431:=eq_true p431;replace q431:=eq_true q431;have p18:0≤((rd l1 x7_2):Int):=zE (by with_reducible assumption);have q18:((rd l1 x7_2):Int) < ((x5_2.length:Int):Int):=zE (by with_reducible assumption);obtain ⟨hx18_0,hf18_0⟩:=Kd.R_celln 0 HO_5.out ((rd l1 x7_2):Int) p18 q18;replace p18:=eq_true p18;replace q18:=eq_true q18;obtain ⟨hy24_,hz24_⟩:=Kd.R_celln 0 HO_5.out ((rd l1 x7_2):Int) (zE (by with_reducible assumption)) (zE (by with_reducible assumption));have HP24:=Kd.R_putg HO_5.out ((rd l1 x7_2):Int) ji15)|((with_reducible refine gate_store (t:=3) (p:=61) rfl ?_);(try (rw [drewN_self w23];generalize hq_:World.drewN w23 _ = w23;have n0_:=zA (Kd.R_at hq_ HO_5.out);have n1_:=zA (below_at hq_ HB.out);clear hq_ HO_5 HB;have HO_5:=n0_;have HB:=n1_;clear n0_ n1_;(try (obtain ⟨hy24_,hz24_⟩:=Kd.R_celln 0 HO_5.out ((rd l1 x7_2):Int) (zE (by with_reducible assumption)) (zE (by with_reducible assumption))));(try (have HP24:=Kd.R_putg HO_5.out ((rd l1 x7_2):Int) ji15))));refine store_event (t:=3) (p:=61) (v:=?vo_w25) (w1:=(w23.setCell ⟨go16,((rd l1 x7_2):Int).toNat,none⟩ (.int .i64 ji15))) ?hg ?ho ?hn ?hr ?_;(case ho=>rfl);(case hg=>rfl);(case hn=>rfl);(case hr=>first|(go_simp;done)|(go_simp;rfl));intro w25 hw;have hg:w23.grownBy w25 (some go16):=(by rw [hw];exact HP24.2);have hp_:Kd.R (Kd.int .i64) 3 w25 w.heap.size (fun _=>True) (.slice (some ⟨go16,0,none⟩) x5_2.length co19) y432:=(by rw [hw,Ny432.out];exact HP24.1);clear HP24;have n0_:=zA (hp_);have n1_:=zA ((by rw [hw];exact zF (HB.out) GB16.out:Below w.heap.size w w25));clear HO_5;clear HB;have HO_5:=n0_;have HB:=n1_;clear n0_ n1_;clear hg hw hp_))
              repeat (go_quiet (first|((with_reducible refine gate_store (t:=3) (p:=47) rfl ?_);(try ((first|(generalize hq_:World.drewN wr _ = wr)|(rw [drewN_self wr];generalize hq_:World.drewN wr _ = wr));have n0_:=zA (Kd.R_at hq_ HO_5.out);have n1_:=zA (below_at hq_ HB.out);clear hq_ HO_5 HB;have HO_5:=n0_;have HB:=n1_;clear n0_ n1_;(try (have HP20:=Kd.R_putg HO_5.out (x7_2:Int) ji15));(try (obtain ⟨hx19b_,hf19b_⟩:=Kd.R_celln 0 HO_5.out (x7_2:Int) (of_eq_true (by assumption)) (of_eq_true (by assumption))))));refine store_event (t:=3) (p:=47) (v:=?vo_w21) (w1:=(wr.setCell ⟨go16,(x7_2:Int).toNat,none⟩ (.int .i64 ji15))) ?hg ?ho ?hn ?hr ?_;(case ho=>rfl);(case hg=>rfl);(case hn=>rfl);(case hr=>first|(go_simp;done)|(go_simp;rfl));intro w21 hw;have hg:wr.grownBy w21 (some go16):=(by rw [hw];exact HP20.2);have hp_:Kd.R (Kd.int .i64) 3 w21 w.heap.size (fun _=>True) (.slice (some ⟨go16,0,none⟩) x5_2.length co19) y428:=(by rw [hw,Ny428.out];exact HP20.1);clear HP20;have n0_:=zA (hp_);have n1_:=zA ((by rw [hw];exact zF (HB.out) GB16.out:Below w.heap.size w w21));clear HO_5;clear HB;have HO_5:=n0_;have HB:=n1_;clear n0_ n1_;clear hg hw hp_;have p429:0≤(x7_2:Int):=zE (by with_reducible assumption);have q429:x7_2 < (l0.length:Int):=zE (by with_reducible assumption);obtain ⟨ad429,e429,hx429_0⟩:=Kd.at_int HR0.out x7_2 p429 q429;obtain rfl:ad424 = ad429:=(by injection e429);replace hx429_0:=(HB.out.cell (zY w _ hx429_0)).trans hx429_0;replace p429:=eq_true p429;replace q429:=eq_true q429;have p17:0≤((rd l0 x7_2):Int):=zE (by with_reducible assumption);have q17:((rd l0 x7_2):Int) < ((x5_2.length:Int):Int):=zE (by with_reducible assumption);obtain ⟨hx17_0,hf17_0⟩:=Kd.R_celln 0 HO_5.out ((rd l0 x7_2):Int) p17 q17;replace p17:=eq_true p17;replace q17:=eq_true q17;obtain ⟨hy22_,hz22_⟩:=Kd.R_celln 0 HO_5.out ((rd l0 x7_2):Int) (zE (by with_reducible assumption)) (zE (by with_reducible assumption));have HP22:=Kd.R_putg HO_5.out ((rd l0 x7_2):Int) ji15)|((with_reducible refine gate_store (t:=3) (p:=54) rfl ?_);(try (rw [drewN_self w21];generalize hq_:World.drewN w21 _ = w21;have n0_:=zA (Kd.R_at hq_ HO_5.out);have n1_:=zA (below_at hq_ HB.out);clear hq_ HO_5 HB;have HO_5:=n0_;have HB:=n1_;clear n0_ n1_;(try (obtain ⟨hy22_,hz22_⟩:=Kd.R_celln 0 HO_5.out ((rd l0 x7_2):Int) (zE (by with_reducible assumption)) (zE (by with_reducible assumption))));(try (have HP22:=Kd.R_putg HO_5.out ((rd l0 x7_2):Int) ji15))));refine store_event (t:=3) (p:=54) (v:=?vo_w23) (w1:=(w21.setCell ⟨go16,((rd l0 x7_2):Int).toNat,none⟩ (.int .i64 ji15))) ?hg ?ho ?hn ?hr ?_;(case ho=>rfl);(case hg=>rfl);(case hn=>rfl);(case hr=>first|(go_simp;done)|(go_simp;rfl));intro w23 hw;have hg:w21.grownBy w23 (some go16):=(by rw [hw];exact HP22.2);have hp_:Kd.R (Kd.int .i64) 3 w23 w.heap.size (fun _=>True) (.slice (some ⟨go16,0,none⟩) x5_2.length co19) y430:=(by rw [hw,Ny430.out];exact HP22.1);clear HP22;have n0_:=zA (hp_);have n1_:=zA ((by rw [hw];exact zF (HB.out) GB16.out:Below w.heap.size w w23));clear HO_5;clear HB;have HO_5:=n0_;have HB:=n1_;clear n0_ n1_;clear hg hw hp_;have p431:0≤(x7_2:Int):=zE (by with_reducible assumption);have q431:x7_2 < (l1.length:Int):=zE (by with_reducible assumption);obtain ⟨ad431,e431,hx431_0⟩:=Kd.at_int HR1.out x7_2 p431 q431;obtain rfl:ad426 = ad431:=(by injection e431);replace hx431_0:=(HB.out.cell (zY w _ hx431_0)).trans hx431_0;replace p431:=eq_true p431;replace q431:=eq_true q431;have p18:0≤((rd l1 x7_2):Int):=zE (by with_reducible assumption);have q18:((rd l1 x7_2):Int) < ((x5_2.length:Int):Int):=zE (by with_reducible assumption);obtain ⟨hx18_0,hf18_0⟩:=Kd.R_celln 0 HO_5.out ((rd l1 x7_2):Int) p18 q18;replace p18:=eq_true p18;replace q18:=eq_true q18;obtain ⟨hy24_,hz24_⟩:=Kd.R_celln 0 HO_5.out ((rd l1 x7_2):Int) (zE (by with_reducible assumption)) (zE (by with_reducible assumption));have HP24:=Kd.R_putg HO_5.out ((rd l1 x7_2):Int) ji15)|((with_reducible refine gate_store (t:=3) (p:=61) rfl ?_);(try (rw [drewN_self w23];generalize hq_:World.drewN w23 _ = w23;have n0_:=zA (Kd.R_at hq_ HO_5.out);have n1_:=zA (below_at hq_ HB.out);clear hq_ HO_5 HB;have HO_5:=n0_;have HB:=n1_;clear n0_ n1_;(try (obtain ⟨hy24_,hz24_⟩:=Kd.R_celln 0 HO_5.out ((rd l1 x7_2):Int) (zE (by with_reducible assumption)) (zE (by with_reducible assumption))));(try (have HP24:=Kd.R_putg HO_5.out ((rd l1 x7_2):Int) ji15))));refine store_event (t:=3) (p:=61) (v:=?vo_w25) (w1:=(w23.setCell ⟨go16,((rd l1 x7_2):Int).toNat,none⟩ (.int .i64 ji15))) ?hg ?ho ?hn ?hr ?_;(case ho=>rfl);(case hg=>rfl);(case hn=>rfl);(case hr=>first|(go_simp;done)|(go_simp;rfl));intro w25 hw;have hg:w23.grownBy w25 (some go16):=(by rw [hw];exact HP24.2);have hp_:Kd.R (Kd.int .i64) 3 w25 w.heap.size (fun _=>True) (.slice (some ⟨go16,0,none⟩) x5_2.length co19) y432:=(by rw [hw,Ny432.out];exact HP24.1);clear HP24;have n0_:=zA (hp_);have n1_:=zA ((by rw [hw];exact zF (HB.out) GB16.out:Below w.heap.size w w25));clear HO_5;clear HB;have HO_5:=n0_;have HB:=n1_;clear n0_ n1_;clear hg hw hp_));try go_wp2_with (first|((with_reducible refine gate_store (t:=3) (p:=47) rfl ?_);(try ((first|(generalize hq_:World.drewN wr _ = wr)|(rw [drewN_self wr];generalize hq_:World.drewN wr _ = wr));have n0_:=zA (Kd.R_at hq_ HO_5.out);have n1_:=zA (below_at hq_ HB.out);clear hq_ HO_5 HB;have HO_5:=n0_;have HB:=n1_;clear n0_ n1_;(try (have HP20:=Kd.R_putg HO_5.out (x7_2:Int) ji15));(try (obtain ⟨hx19b_,hf19b_⟩:=Kd.R_celln 0 HO_5.out (x7_2:Int) (of_eq_true (by assumption)) (of_eq_true (by assumption))))));refine store_event (t:=3) (p:=47) (v:=?vo_w21) (w1:=(wr.setCell ⟨go16,(x7_2:Int).toNat,none⟩ (.int .i64 ji15))) ?hg ?ho ?hn ?hr ?_;(case ho=>rfl);(case hg=>rfl);(case hn=>rfl);(case hr=>first|(go_simp;done)|(go_simp;rfl));intro w21 hw;have hg:wr.grownBy w21 (some go16):=(by rw [hw];exact HP20.2);have hp_:Kd.R (Kd.int .i64) 3 w21 w.heap.size (fun _=>True) (.slice (some ⟨go16,0,none⟩) x5_2.length co19) y428:=(by rw [hw,Ny428.out];exact HP20.1);clear HP20;have n0_:=zA (hp_);have n1_:=zA ((by rw [hw];exact zF (HB.out) GB16.out:Below w.heap.size w w21));clear HO_5;clear HB;have HO_5:=n0_;have HB:=n1_;clear n0_ n1_;clear hg hw hp_;have p429:0≤(x7_2:Int):=zE (by with_reducible assumption);have q429:x7_2 < (l0.length:Int):=zE (by with_reducible assumption);obtain ⟨ad429,e429,hx429_0⟩:=Kd.at_int HR0.out x7_2 p429 q429;obtain rfl:ad424 = ad429:=(by injection e429);replace hx429_0:=(HB.out.cell (zY w _ hx429_0)).trans hx429_0;replace p429:=eq_true p429;replace q429:=eq_true q429;have p17:0≤((rd l0 x7_2):Int):=zE (by with_reducible assumption);have q17:((rd l0 x7_2):Int) < ((x5_2.length:Int):Int):=zE (by with_reducible assumption);obtain ⟨hx17_0,hf17_0⟩:=Kd.R_celln 0 HO_5.out ((rd l0 x7_2):Int) p17 q17;replace p17:=eq_true p17;replace q17:=eq_true q17;obtain ⟨hy22_,hz22_⟩:=Kd.R_celln 0 HO_5.out ((rd l0 x7_2):Int) (zE (by with_reducible assumption)) (zE (by with_reducible assumption));have HP22:=Kd.R_putg HO_5.out ((rd l0 x7_2):Int) ji15)|((with_reducible refine gate_store (t:=3) (p:=54) rfl ?_);(try (rw [drewN_self w21];generalize hq_:World.drewN w21 _ = w21;have n0_:=zA (Kd.R_at hq_ HO_5.out);have n1_:=zA (below_at hq_ HB.out);clear hq_ HO_5 HB;have HO_5:=n0_;have HB:=n1_;clear n0_ n1_;(try (obtain ⟨hy22_,hz22_⟩:=Kd.R_celln 0 HO_5.out ((rd l0 x7_2):Int) (zE (by with_reducible assumption)) (zE (by with_reducible assumption))));(try (have HP22:=Kd.R_putg HO_5.out ((rd l0 x7_2):Int) ji15))));refine store_event (t:=3) (p:=54) (v:=?vo_w23) (w1:=(w21.setCell ⟨go16,((rd l0 x7_2):Int).toNat,none⟩ (.int .i64 ji15))) ?hg ?ho ?hn ?hr ?_;(case ho=>rfl);(case hg=>rfl);(case hn=>rfl);(case hr=>first|(go_simp;done)|(go_simp;rfl));intro w23 hw;have hg:w21.grownBy w23 (some go16):=(by rw [hw];exact HP22.2);have hp_:Kd.R (Kd.int .i64) 3 w23 w.heap.size (fun _=>True) (.slice (some ⟨go16,0,none⟩) x5_2.length co19) y430:=(by rw [hw,Ny430.out];exact HP22.1);clear HP22;have n0_:=zA (hp_);have n1_:=zA ((by rw [hw];exact zF (HB.out) GB16.out:Below w.heap.size w w23));clear HO_5;clear HB;have HO_5:=n0_;have HB:=n1_;clear n0_ n1_;clear hg hw hp_;have p431:0≤(x7_2:Int):=zE (by with_reducible assumption);have q431:x7_2 < (l1.length:Int):=zE (by with_reducible assumption);obtain ⟨ad431,e431,hx431_0⟩:=Kd.at_int HR1.out x7_2 p431 q431;obtain rfl:ad426 = ad431:=(by injection e431);replace hx431_0:=(HB.out.cell (zY w _ hx431_0)).trans hx431_0;replace p431:=eq_true p431;replace q431:=eq_true q431;have p18:0≤((rd l1 x7_2):Int):=zE (by with_reducible assumption);have q18:((rd l1 x7_2):Int) < ((x5_2.length:Int):Int):=zE (by with_reducible assumption);obtain ⟨hx18_0,hf18_0⟩:=Kd.R_celln 0 HO_5.out ((rd l1 x7_2):Int) p18 q18;replace p18:=eq_true p18;replace q18:=eq_true q18;obtain ⟨hy24_,hz24_⟩:=Kd.R_celln 0 HO_5.out ((rd l1 x7_2):Int) (zE (by with_reducible assumption)) (zE (by with_reducible assumption));have HP24:=Kd.R_putg HO_5.out ((rd l1 x7_2):Int) ji15)|((with_reducible refine gate_store (t:=3) (p:=61) rfl ?_);(try (rw [drewN_self w23];generalize hq_:World.drewN w23 _ = w23;have n0_:=zA (Kd.R_at hq_ HO_5.out);have n1_:=zA (below_at hq_ HB.out);clear hq_ HO_5 HB;have HO_5:=n0_;have HB:=n1_;clear n0_ n1_;(try (obtain ⟨hy24_,hz24_⟩:=Kd.R_celln 0 HO_5.out ((rd l1 x7_2):Int) (zE (by with_reducible assumption)) (zE (by with_reducible assumption))));(try (have HP24:=Kd.R_putg HO_5.out ((rd l1 x7_2):Int) ji15))));refine store_event (t:=3) (p:=61) (v:=?vo_w25) (w1:=(w23.setCell ⟨go16,((rd l1 x7_2):Int).toNat,none⟩ (.int .i64 ji15))) ?hg ?ho ?hn ?hr ?_;(case ho=>rfl);(case hg=>rfl);(case hn=>rfl);(case hr=>first|(go_simp;done)|(go_simp;rfl));intro w25 hw;have hg:w23.grownBy w25 (some go16):=(by rw [hw];exact HP24.2);have hp_:Kd.R (Kd.int .i64) 3 w25 w.heap.size (fun _=>True) (.slice (some ⟨go16,0,none⟩) x5_2.length co19) y432:=(by rw [hw,Ny432.out];exact HP24.1);clear HP24;have n0_:=zA (hp_);have n1_:=zA ((by rw [hw];exact zF (HB.out) GB16.out:Below w.heap.size w w25));clear HO_5;clear HB;have HO_5:=n0_;have HB:=n1_;clear n0_ n1_;clear hg hw hp_)))
              go_roundg k2
              case measure=>have:=HK1.out;have:=HK2.out;omega
              case rel=>exact ⟨(y432),(wrap64 (x7_2+1)),(by first|rfl|(simp;done)|(simp [*];done)),H',⟨by have:=HK1.out;have:=HK2.out;omega⟩,⟨by apply zR_;exact HO_5.out⟩,⟨by exact zB_ HB.out⟩⟩
             ·rw [if_neg c13] at H
              exact absurd H (by simp)
            ·rw [if_neg c12] at H
             exact absurd H (by simp)
           ·rw [if_neg c11] at H
            exact absurd H (by simp)
          ·rw [if_neg c10] at H
           exact absurd H (by simp)
         ·rw [if_neg c9] at H
          exact absurd H (by simp)
        ·rw [if_neg c8] at H
         exact absurd H (by simp)
       ·rw [if_neg c7] at H
        exact absurd H (by simp)
      ·rw [if_neg c6] at H
       have c6b0:decide (x7_2 < (l0.length:Int)) = false:=zP c6
       clear c6
       have H':=zA H
       clear H
       go_wp2
       repeat (go_quiet (fail);try go_wp2)
       go_roundg k2
       case measure=>have:=HK1.out;have:=HK2.out;omega
       case rel=>exact ⟨(x5_2),(wrap64 (x6_1+1)),(by first|rfl|(simp;done)|(simp [*];done)),H',⟨by have:=HK1.out;have:=HK2.out;omega⟩,⟨by apply zR_;exact HO_5.out⟩,⟨by exact zB_ HB.out⟩⟩
   ·rw [if_neg c5] at H
    have c5b0:decide (x6_1 < (l0.length:Int)) = false:=zP c5
    clear c5
    obtain rfl:=zS H
    go_wp2
    repeat (go_quiet (fail);try go_wp2)
    go_ret
    exact ⟨_,by first|rfl|(simp [errW_none,errW_some] <;> rfl)|(simp [*,errW_none,errW_some] <;> rfl),by apply zR_;exact HO_5.out,by exact zB_ HB.out⟩

/-! ### spec_MapValid: function 76 -/
mutual
def spec_MapValid.l0:Nat→Int→List Int→List Int→Option (Bool)
 | 0,_,_,_=>none
 | k+1,x3,x434000,x434001=>if x3 < (x434001.length:Int) then (if 0≤x3 then (if (rd x434001 x3) = x3 then (some false) else (if 0≤(rd x434001 x3) then (if (rd x434001 x3) < (x434001.length:Int) then (if (rd x434001 (rd x434001 x3)) = x3 then (spec_MapValid.l0 k (wrap64 (x3+1)) x434000 x434001) else (some false)) else (none)) else (none))) else (none)) else ((spec_l1Orbits.f k x434000 x434001).bind fun t438=>(spec_MapValid.l1 k t438 0))
def spec_MapValid.l1:Nat→List Int→Int→Option (Bool)
 | 0,_,_=>none
 | k+1,x4,x5=>if x5 < (x4.length:Int) then (if 0≤x5 then (if (rd x4 x5) = 0 then (spec_MapValid.l1 k x4 (wrap64 (x5+1))) else (some false)) else (none)) else (some true)
end
def spec_MapValid.f (k:Nat) (l0_0:List Int) (l0_1:List Int):Option (Bool):=(spec_l1Both.f k l0_0 l0_1).bind fun t434=>(if t434 = true then (spec_MapValid.l0 k 0 l0_0 l0_1) else (some false))
theorem spec_MapValid.mono_l:∀ k,(∀ y0 y1 y2,LeO (spec_MapValid.l0 k y0 y1 y2) (spec_MapValid.l0 (k+1) y0 y1 y2))∧(∀ y0 y1,LeO (spec_MapValid.l1 k y0 y1) (spec_MapValid.l1 (k+1) y0 y1))
 | 0=>⟨fun _ _ _ r h=>by simp [spec_MapValid.l0] at h,fun _ _ r h=>by simp [spec_MapValid.l1] at h⟩
 | k+1=>by
  obtain ⟨ih0,ih1⟩:=spec_MapValid.mono_l k
  refine ⟨?_,?_⟩
  ·intro y0 y1 y2
   unfold spec_MapValid.l0
   repeat' first
   | (with_reducible exact ih0 _ _ _)
   | (with_reducible exact ih1 _ _)
   | (with_reducible exact spec_l1Both.mono _ _ _)
   | (with_reducible exact spec_l1Orbits.mono _ _ _)
   | (with_reducible exact LeO.refl _)
   | (with_reducible exact za _)
   | (with_reducible refine zc ?_ ?_)
   | (with_reducible refine zb ?_ (fun _=>?_))
  ·intro y0 y1
   unfold spec_MapValid.l1
   repeat' first
   | (with_reducible exact ih0 _ _ _)
   | (with_reducible exact ih1 _ _)
   | (with_reducible exact spec_l1Both.mono _ _ _)
   | (with_reducible exact spec_l1Orbits.mono _ _ _)
   | (with_reducible exact LeO.refl _)
   | (with_reducible exact za _)
   | (with_reducible refine zc ?_ ?_)
   | (with_reducible refine zb ?_ (fun _=>?_))
theorem spec_MapValid.mono:∀ a0 a1 k,LeO (spec_MapValid.f k a0 a1) (spec_MapValid.f (k+1) a0 a1):=by
 intro a0 a1 k
 obtain ⟨ih0,ih1⟩:=spec_MapValid.mono_l k
 unfold spec_MapValid.f
 repeat' first
   | (with_reducible exact ih0 _ _ _)
   | (with_reducible exact ih1 _ _)
   | (with_reducible exact spec_l1Both.mono _ _ _)
   | (with_reducible exact spec_l1Orbits.mono _ _ _)
   | (with_reducible exact LeO.refl _)
   | (with_reducible exact za _)
   | (with_reducible refine zc ?_ ?_)
   | (with_reducible refine zb ?_ (fun _=>?_))
set_option maxHeartbeats 8000000 in
set_option maxRecDepth 100000 in
theorem spec_MapValid.calls (k:Nat) (A0_0:Option Addr) (c0_0:Nat) (l0_0:List Int) (A0_1:Option Addr) (c0_1:Nat) (l0_1:List Int) (r:Bool) (w:World) (hr0_0:Kd.C (Kd.int .i64) w A0_0 l0_0.length l0_0) (hc0_0:l0_0.length≤c0_0) (hr0_1:Kd.C (Kd.int .i64) w A0_1 l0_1.length l0_1) (hc0_1:l0_1.length≤c0_1) (h:spec_MapValid.f k l0_0 l0_1 = some r) :
  Calls Try.prog 76 #[.agg #[.slice A0_0 l0_0.length c0_0,.slice A0_1 l0_1.length c0_1]] w fun e w'=>e = .returned (.bool r)∧Below w.heap.size w w':=by
 have hu33:=Try.underlying33
 have HR0_0:=zA hr0_0
 have HC0_0:=zA hc0_0
 clear hr0_0 hc0_0
 have HR0_1:=zA hr0_1
 have HC0_1:=zA hc0_1
 clear hr0_1 hc0_1
 have HB:=zA (Below.refl w.heap.size w)
 have H:((spec_l1Both.f k l0_0 l0_1).bind fun t434=>(if t434 = true then (spec_MapValid.l0 k 0 l0_0 l0_1) else (some false))) = some r:=h
 clear h
 replace H:=zz0 H
 obtain ⟨t434,A20,H⟩:=H
 try dsimp only at H
 have A2:=zA A20
 clear A20
 by_cases c3:t434 = true
 ·subst c3
  rw [if_pos rfl] at H;try dsimp only at H
  have H':=zA H
  clear H
  go_enter Try.func76,Try.ntmps76
  go_wp2_with (first|((with_reducible refine gate_dst (N:=1) rfl ?_);refine box_event ?hg (N:=1) ?hd (cs:=#[.slice A0_0 l0_0.length c0_0,.slice A0_1 l0_1.length c0_1]) (t:=33) ?hr ?_;(case hd=>rfl);(case hg=>rfl);(case hr=>first|(go_simp;done)|(go_simp;rfl));intro gb433 hg w4 hbox hb;have n0_:=zA (zR (by exact zB_ HB.out) hb);have n1_:=zA (hbox);have n2_:=zA ((by rw [hg];exact (zQ (by exact zB_ HB.out)):w.heap.size≤gb433));have n3_:=zA ((by rw [hg];exact (zQ (by exact zB_ HB.out)):w.heap.size≤gb433));clear HB;have HB:=n0_;have BK433:=n1_;have GW433:=n2_;have GE433:=n3_;clear n0_ n1_ n2_ n3_;clear hb hbox hg;have hcz5_0:w4.cell? ⟨gb433,0,none⟩ = some (.slice A0_0 l0_0.length c0_0):=(zT BK433.out 0).trans rfl;have hcz5_1:w4.cell? ⟨gb433,1,none⟩ = some (.slice A0_1 l0_1.length c0_1):=(zT BK433.out 1).trans rfl;have hfz5_0:=zZ BK433.out 0;have hfz5_1:=zZ BK433.out 1)|(go_at_call 94;(with_reducible refine (spec_l1Both.calls k _ _ l0_0 _ _ l0_1 true _ ?side1 ?side2 ?side3 ?side4 A2.out).mono ?_);(case side1=>repeat (first|exact (zW HR0_0.out HB.out)|(with_reducible exact HR0_0.out)|apply zC_));(case side2=>exact HC0_0.out);(case side3=>repeat (first|exact (zW HR0_1.out HB.out)|(with_reducible exact HR0_1.out)|apply zC_));(case side4=>exact HC0_1.out);rintro e w' ⟨rfl,⟨nd,rfl⟩⟩;(try first|exact ⟨rfl,_,World.drewN_drewN _ _ _⟩|exact ⟨rfl,_,Eq.trans (World.drewN_drewN _ _ _) (congrArg (World.drewN _) (Nat.add_assoc _ _ _))⟩)))
  repeat (go_quiet (fail);try go_wp2_with (first|((with_reducible refine gate_dst (N:=1) rfl ?_);refine box_event ?hg (N:=1) ?hd (cs:=#[.slice A0_0 l0_0.length c0_0,.slice A0_1 l0_1.length c0_1]) (t:=33) ?hr ?_;(case hd=>rfl);(case hg=>rfl);(case hr=>first|(go_simp;done)|(go_simp;rfl));intro gb433 hg w4 hbox hb;have n0_:=zA (zR (by exact zB_ HB.out) hb);have n1_:=zA (hbox);have n2_:=zA ((by rw [hg];exact (zQ (by exact zB_ HB.out)):w.heap.size≤gb433));have n3_:=zA ((by rw [hg];exact (zQ (by exact zB_ HB.out)):w.heap.size≤gb433));clear HB;have HB:=n0_;have BK433:=n1_;have GW433:=n2_;have GE433:=n3_;clear n0_ n1_ n2_ n3_;clear hb hbox hg;have hcz5_0:w4.cell? ⟨gb433,0,none⟩ = some (.slice A0_0 l0_0.length c0_0):=(zT BK433.out 0).trans rfl;have hcz5_1:w4.cell? ⟨gb433,1,none⟩ = some (.slice A0_1 l0_1.length c0_1):=(zT BK433.out 1).trans rfl;have hfz5_0:=zZ BK433.out 0;have hfz5_1:=zZ BK433.out 1)|(go_at_call 94;(with_reducible refine (spec_l1Both.calls k _ _ l0_0 _ _ l0_1 true _ ?side1 ?side2 ?side3 ?side4 A2.out).mono ?_);(case side1=>repeat (first|exact (zW HR0_0.out HB.out)|(with_reducible exact HR0_0.out)|apply zC_));(case side2=>exact HC0_0.out);(case side3=>repeat (first|exact (zW HR0_1.out HB.out)|(with_reducible exact HR0_1.out)|apply zC_));(case side4=>exact HC0_1.out);rintro e w' ⟨rfl,⟨nd,rfl⟩⟩;(try first|exact ⟨rfl,_,World.drewN_drewN _ _ _⟩|exact ⟨rfl,_,Eq.trans (World.drewN_drewN _ _ _) (congrArg (World.drewN _) (Nat.add_assoc _ _ _))⟩))))
  go_loopg [3] k (fun kq v3 w' => ∃ (x3_1:Int),v3 = .int .i64 x3_1∧Aside0 (spec_MapValid.l0 kq x3_1 l0_0 l0_1 = some r)∧Aside0 (kq≤k)∧Aside0 (w'.heap[gb433]? = some (.cells #[(.slice A0_0 l0_0.length c0_0),(.slice A0_1 l0_1.length c0_1)] 33 (0,0)))∧Aside0 (Below w.heap.size w w'))
  case atStart=>exact ⟨(0),(by first|rfl|(simp;done)|(simp [*];done)),H',⟨Nat.le_refl _⟩,⟨by (with_reducible repeat (first|refine zG ?_ _|refine zI ?_|refine zH ?_ _));exact BK433.out⟩,⟨by repeat (first|(with_reducible first|exact HB.out|apply zD|apply zB|apply zC|refine zF ?_ GE433.out)|exact HB.out)⟩⟩
  case round =>
   clear H'
   (try clear p2);(try clear c3);(try clear hcz5_0);(try clear hcz5_1);(try clear hfz5_0);(try clear hfz5_1)
   obtain ⟨x3_1,rfl,HA,HK1,BK433,HB⟩:=hrel
   cases gk with
   | zero=>exact absurd HA.out (by simp [spec_MapValid.l0])
   | succ k1 =>
    have H:=HA.out
    clear HA
    simp only [spec_MapValid.l0] at H
    by_cases c6:x3_1 < (l0_1.length:Int)
    ·rw [if_pos c6] at H
     have c6b0:decide (x3_1 < (l0_1.length:Int)) = true:=zO c6
     clear c6
     by_cases c7:0≤x3_1
     ·rw [if_pos c7] at H
      have c7b0:decide (0≤x3_1) = true:=zO c7
      clear c7
      by_cases c8:(rd l0_1 x3_1) = x3_1
      ·rw [if_pos c8] at H
       have c8b0:((rd l0_1 x3_1) == x3_1) = true:=beq_iff_eq.mpr c8
       have c8b1:((rd l0_1 x3_1) != x3_1) = false:=bne_eq_false_iff_eq.mpr c8
       clear c8
       obtain rfl:=zS H
       have hcz9_0:wr.cell? ⟨gb433,0,none⟩ = some (.slice A0_0 l0_0.length c0_0):=(zT BK433.out 0).trans rfl
       have hcz9_1:wr.cell? ⟨gb433,1,none⟩ = some (.slice A0_1 l0_1.length c0_1):=(zT BK433.out 1).trans rfl
       have hfz9_0:=zZ BK433.out 0
       have hfz9_1:=zZ BK433.out 1
       have p435:0≤(x3_1:Int):=zE (by with_reducible assumption)
       have q435:x3_1 < (l0_1.length:Int):=zE (by with_reducible assumption)
       obtain ⟨ad435,e435,hx435_0⟩:=Kd.at_int HR0_1.out x3_1 p435 q435
       cases e435
       replace hx435_0:=(HB.out.cell (zY w _ hx435_0)).trans hx435_0
       replace p435:=eq_true p435
       replace q435:=eq_true q435
       go_wp2
       repeat (go_quiet (fail);try go_wp2)
       go_ret
       exact ⟨by first|rfl|(simp [errW_none,errW_some] <;> rfl)|(simp [*,errW_none,errW_some] <;> rfl),by repeat (first|(with_reducible first|exact HB.out|apply zD|apply zB|apply zC|refine zF ?_ GE433.out)|exact HB.out)⟩
      ·rw [if_neg c8] at H
       have c8b0:((rd l0_1 x3_1) == x3_1) = false:=beq_eq_false_iff_ne.mpr c8
       have c8b1:((rd l0_1 x3_1) != x3_1) = true:=bne_iff_ne.mpr c8
       by_cases c10:0≤(rd l0_1 x3_1)
       ·rw [if_pos c10] at H
        have c10b0:decide (0≤(rd l0_1 x3_1)) = true:=zO c10
        clear c10
        by_cases c11:(rd l0_1 x3_1) < (l0_1.length:Int)
        ·rw [if_pos c11] at H
         have c11b0:decide ((rd l0_1 x3_1) < (l0_1.length:Int)) = true:=zO c11
         clear c11
         by_cases c12:(rd l0_1 (rd l0_1 x3_1)) = x3_1
         ·rw [if_pos c12] at H
          have c12b0:((rd l0_1 (rd l0_1 x3_1)) == x3_1) = true:=beq_iff_eq.mpr c12
          have c12b1:((rd l0_1 (rd l0_1 x3_1)) != x3_1) = false:=bne_eq_false_iff_eq.mpr c12
          clear c12
          have H':=zA H
          clear H
          have hcz13_0:wr.cell? ⟨gb433,0,none⟩ = some (.slice A0_0 l0_0.length c0_0):=(zT BK433.out 0).trans rfl
          have hcz13_1:wr.cell? ⟨gb433,1,none⟩ = some (.slice A0_1 l0_1.length c0_1):=(zT BK433.out 1).trans rfl
          have hfz13_0:=zZ BK433.out 0
          have hfz13_1:=zZ BK433.out 1
          have p435:0≤(x3_1:Int):=zE (by with_reducible assumption)
          have q435:x3_1 < (l0_1.length:Int):=zE (by with_reducible assumption)
          obtain ⟨ad435,e435,hx435_0⟩:=Kd.at_int HR0_1.out x3_1 p435 q435
          cases e435
          replace hx435_0:=(HB.out.cell (zY w _ hx435_0)).trans hx435_0
          replace p435:=eq_true p435
          replace q435:=eq_true q435
          have p436:0≤(x3_1:Int):=zE (by with_reducible assumption)
          have q436:x3_1 < (l0_1.length:Int):=zE (by with_reducible assumption)
          obtain ⟨ad436,e436,hx436_0⟩:=Kd.at_int HR0_1.out x3_1 p436 q436
          obtain rfl:ad435 = ad436:=(by injection e436)
          replace hx436_0:=(HB.out.cell (zY w _ hx436_0)).trans hx436_0
          replace p436:=eq_true p436
          replace q436:=eq_true q436
          have p437:0≤((rd l0_1 x3_1):Int):=zE (by with_reducible assumption)
          have q437:(rd l0_1 x3_1) < (l0_1.length:Int):=zE (by with_reducible assumption)
          obtain ⟨ad437,e437,hx437_0⟩:=Kd.at_int HR0_1.out (rd l0_1 x3_1) p437 q437
          obtain rfl:ad435 = ad437:=(by injection e437)
          replace hx437_0:=(HB.out.cell (zY w _ hx437_0)).trans hx437_0
          replace p437:=eq_true p437
          replace q437:=eq_true q437
          go_wp2
          repeat (go_quiet (fail);try go_wp2)
          go_roundg k1
          case measure=>have:=HK1.out;omega
          case rel=>exact ⟨(wrap64 (x3_1+1)),(by first|rfl|(simp;done)|(simp [*];done)),H',⟨by have:=HK1.out;omega⟩,⟨by (with_reducible repeat (first|refine zG ?_ _|refine zI ?_|refine zH ?_ _));exact BK433.out⟩,⟨by repeat (first|(with_reducible first|exact HB.out|apply zD|apply zB|apply zC|refine zF ?_ GE433.out)|exact HB.out)⟩⟩
         ·rw [if_neg c12] at H
          have c12b0:((rd l0_1 (rd l0_1 x3_1)) == x3_1) = false:=beq_eq_false_iff_ne.mpr c12
          have c12b1:((rd l0_1 (rd l0_1 x3_1)) != x3_1) = true:=bne_iff_ne.mpr c12
          obtain rfl:=zS H
          have hcz14_0:wr.cell? ⟨gb433,0,none⟩ = some (.slice A0_0 l0_0.length c0_0):=(zT BK433.out 0).trans rfl
          have hcz14_1:wr.cell? ⟨gb433,1,none⟩ = some (.slice A0_1 l0_1.length c0_1):=(zT BK433.out 1).trans rfl
          have hfz14_0:=zZ BK433.out 0
          have hfz14_1:=zZ BK433.out 1
          have p435:0≤(x3_1:Int):=zE (by with_reducible assumption)
          have q435:x3_1 < (l0_1.length:Int):=zE (by with_reducible assumption)
          obtain ⟨ad435,e435,hx435_0⟩:=Kd.at_int HR0_1.out x3_1 p435 q435
          cases e435
          replace hx435_0:=(HB.out.cell (zY w _ hx435_0)).trans hx435_0
          replace p435:=eq_true p435
          replace q435:=eq_true q435
          have p436:0≤(x3_1:Int):=zE (by with_reducible assumption)
          have q436:x3_1 < (l0_1.length:Int):=zE (by with_reducible assumption)
          obtain ⟨ad436,e436,hx436_0⟩:=Kd.at_int HR0_1.out x3_1 p436 q436
          obtain rfl:ad435 = ad436:=(by injection e436)
          replace hx436_0:=(HB.out.cell (zY w _ hx436_0)).trans hx436_0
          replace p436:=eq_true p436
          replace q436:=eq_true q436
          have p437:0≤((rd l0_1 x3_1):Int):=zE (by with_reducible assumption)
          have q437:(rd l0_1 x3_1) < (l0_1.length:Int):=zE (by with_reducible assumption)
          obtain ⟨ad437,e437,hx437_0⟩:=Kd.at_int HR0_1.out (rd l0_1 x3_1) p437 q437
          obtain rfl:ad435 = ad437:=(by injection e437)
          replace hx437_0:=(HB.out.cell (zY w _ hx437_0)).trans hx437_0
          replace p437:=eq_true p437
          replace q437:=eq_true q437
          go_wp2
          repeat (go_quiet (fail);try go_wp2)
          go_ret
          exact ⟨by first|rfl|(simp [errW_none,errW_some] <;> rfl)|(simp [*,errW_none,errW_some] <;> rfl),by repeat (first|(with_reducible first|exact HB.out|apply zD|apply zB|apply zC|refine zF ?_ GE433.out)|exact HB.out)⟩
        ·rw [if_neg c11] at H
         exact absurd H (by simp)
       ·rw [if_neg c10] at H
        exact absurd H (by simp)
     ·rw [if_neg c7] at H
      exact absurd H (by simp)
    ·rw [if_neg c6] at H
     have c6b0:decide (x3_1 < (l0_1.length:Int)) = false:=zP c6
     clear c6
     replace H:=zz0 H
     obtain ⟨t438,A150,H⟩:=H
     try dsimp only at H
     have A15:=zA A150
     clear A150
     have H':=zA H
     clear H
     have hcz16_0:wr.cell? ⟨gb433,0,none⟩ = some (.slice A0_0 l0_0.length c0_0):=(zT BK433.out 0).trans rfl
     have hcz16_1:wr.cell? ⟨gb433,1,none⟩ = some (.slice A0_1 l0_1.length c0_1):=(zT BK433.out 1).trans rfl
     have hfz16_0:=zZ BK433.out 0
     have hfz16_1:=zZ BK433.out 1
     go_wp2_with (first|(go_at_call 95;(with_reducible refine (spec_l1Orbits.calls k1 _ _ l0_0 _ _ l0_1 t438 _ ?side1 ?side2 ?side3 ?side4 A15.out).mono ?_);(case side1=>repeat (first|exact (zW HR0_0.out HB.out)|(with_reducible exact HR0_0.out)|apply zC_));(case side2=>exact HC0_0.out);(case side3=>repeat (first|exact (zW HR0_1.out HB.out)|(with_reducible exact HR0_1.out)|apply zC_));(case side4=>exact HC0_1.out);rintro e w17 ⟨v439,rfl,ho0,hb⟩;have n0_:=zA (ze ho0 (zQ (by repeat (first|(with_reducible first|exact HB.out|apply zD|apply zB|apply zC|refine zF ?_ GE433.out)|exact HB.out))));have n1_:=zA (zX (g:=gb433) (o:=.cells #[.slice A0_0 l0_0.length c0_0,.slice A0_1 l0_1.length c0_1] 33 (0,0)) (by (with_reducible repeat (first|refine zG ?_ _|refine zI ?_|refine zH ?_ _));exact BK433.out) hb);have n2_:=zA (zR (by repeat (first|(with_reducible first|exact HB.out|apply zD|apply zB|apply zC|refine zF ?_ GE433.out)|exact HB.out)) hb);clear BK433;clear HB;have HO440:=n0_;have BK433:=n1_;have HB:=n2_;clear n0_ n1_ n2_;(try clear hb);(try clear hb2);(try clear hk);(try clear hi);(try clear ho0)))
     repeat (go_quiet (fail);try go_wp2_with (first|(go_at_call 95;(with_reducible refine (spec_l1Orbits.calls k1 _ _ l0_0 _ _ l0_1 t438 _ ?side1 ?side2 ?side3 ?side4 A15.out).mono ?_);(case side1=>repeat (first|exact (zW HR0_0.out HB.out)|(with_reducible exact HR0_0.out)|apply zC_));(case side2=>exact HC0_0.out);(case side3=>repeat (first|exact (zW HR0_1.out HB.out)|(with_reducible exact HR0_1.out)|apply zC_));(case side4=>exact HC0_1.out);rintro e w17 ⟨v439,rfl,ho0,hb⟩;have n0_:=zA (ze ho0 (zQ (by repeat (first|(with_reducible first|exact HB.out|apply zD|apply zB|apply zC|refine zF ?_ GE433.out)|exact HB.out))));have n1_:=zA (zX (g:=gb433) (o:=.cells #[.slice A0_0 l0_0.length c0_0,.slice A0_1 l0_1.length c0_1] 33 (0,0)) (by (with_reducible repeat (first|refine zG ?_ _|refine zI ?_|refine zH ?_ _));exact BK433.out) hb);have n2_:=zA (zR (by repeat (first|(with_reducible first|exact HB.out|apply zD|apply zB|apply zC|refine zF ?_ GE433.out)|exact HB.out)) hb);clear BK433;clear HB;have HO440:=n0_;have BK433:=n1_;have HB:=n2_;clear n0_ n1_ n2_;(try clear hb);(try clear hb2);(try clear hk);(try clear hi);(try clear ho0))))
     go_loopg [5] k1 (fun kq v5 w' => ∃ (x5_2:Int),v5 = .int .i64 x5_2∧Aside0 (spec_MapValid.l1 kq t438 x5_2 = some r)∧Aside0 (kq≤k1)∧Aside0 (Kd.R (Kd.int .i64) 3 w' w.heap.size (fun _=>True) v439 t438)∧Aside0 (w'.heap[gb433]? = some (.cells #[(.slice A0_0 l0_0.length c0_0),(.slice A0_1 l0_1.length c0_1)] 33 (0,0)))∧Aside0 (Below w.heap.size w w'))
     case atStart=>exact ⟨(0),(by first|rfl|(simp;done)|(simp [*];done)),H',⟨Nat.le_refl _⟩,⟨by apply zR_;exact HO440.out⟩,⟨by (with_reducible repeat (first|refine zG ?_ _|refine zI ?_|refine zH ?_ _));exact BK433.out⟩,⟨by repeat (first|(with_reducible first|exact HB.out|apply zD|apply zB|apply zC|refine zF ?_ GE433.out)|exact HB.out)⟩⟩
     case round =>
      clear H'
      (try clear c1);(try clear p2);(try clear c3);(try clear p4);(try clear q4);(try clear hx4);(try clear c6);(try clear c6b0);(try clear p6);(try clear c7);(try clear c7b0);(try clear c8);(try clear c8b0);(try clear c8b1);(try clear c10);(try clear c10b0);(try clear c11);(try clear c11b0);(try clear c12);(try clear c12b0);(try clear c12b1);(try clear hcz13_0);(try clear hcz13_1);(try clear hcz14_0);(try clear hcz14_1);(try clear hcz16_0);(try clear hcz16_1);(try clear hcz5_0);(try clear hcz5_1);(try clear hcz9_0);(try clear hcz9_1);(try clear hfz13_0);(try clear hfz13_1);(try clear hfz14_0);(try clear hfz14_1);(try clear hfz16_0);(try clear hfz16_1);(try clear hfz5_0);(try clear hfz5_1);(try clear hfz9_0);(try clear hfz9_1);(try clear hx435_0);(try clear hx436_0);(try clear hx437_0);(try clear p2);(try clear p435);(try clear p436);(try clear p437);(try clear q435);(try clear q436);(try clear q437)
      obtain ⟨x5_2,rfl,HA,HK2,HO_4,BK433,HB⟩:=hrel
      cases gk with
      | zero=>exact absurd HA.out (by simp [spec_MapValid.l1])
      | succ k2 =>
       have H:=HA.out
       clear HA
       simp only [spec_MapValid.l1] at H
       by_cases c18:x5_2 < (t438.length:Int)
       ·rw [if_pos c18] at H
        have c18b0:decide (x5_2 < (t438.length:Int)) = true:=zO c18
        clear c18
        by_cases c19:0≤x5_2
        ·rw [if_pos c19] at H
         have c19b0:decide (0≤x5_2) = true:=zO c19
         clear c19
         by_cases c20:(rd t438 x5_2) = 0
         ·rw [if_pos c20] at H
          have c20b0:((rd t438 x5_2) == 0) = true:=beq_iff_eq.mpr c20
          have c20b1:((rd t438 x5_2) != 0) = false:=bne_eq_false_iff_eq.mpr c20
          clear c20
          have H':=zA H
          clear H
          obtain ⟨Ao21,co21,eo21⟩:=zg HO_4.out
          subst eo21
          have p441:0≤(x5_2:Int):=zE (by with_reducible assumption)
          have q441:x5_2 < (t438.length:Int):=zE (by with_reducible assumption)
          obtain ⟨ad441,e441,hx441_0⟩:=Kd.at_int (zU HO_4.out).2.2 x5_2 p441 q441
          cases e441
          replace p441:=eq_true p441
          replace q441:=eq_true q441
          go_wp2
          repeat (go_quiet (fail);try go_wp2)
          go_roundg k2
          case measure=>have:=HK1.out;have:=HK2.out;omega
          case rel=>exact ⟨(wrap64 (x5_2+1)),(by first|rfl|(simp;done)|(simp [*];done)),H',⟨by have:=HK1.out;have:=HK2.out;omega⟩,⟨by apply zR_;exact HO_4.out⟩,⟨by (with_reducible repeat (first|refine zG ?_ _|refine zI ?_|refine zH ?_ _));exact BK433.out⟩,⟨by repeat (first|(with_reducible first|exact HB.out|apply zD|apply zB|apply zC|refine zF ?_ GE433.out)|exact HB.out)⟩⟩
         ·rw [if_neg c20] at H
          have c20b0:((rd t438 x5_2) == 0) = false:=beq_eq_false_iff_ne.mpr c20
          have c20b1:((rd t438 x5_2) != 0) = true:=bne_iff_ne.mpr c20
          obtain rfl:=zS H
          obtain ⟨Ao22,co22,eo22⟩:=zg HO_4.out
          subst eo22
          have p441:0≤(x5_2:Int):=zE (by with_reducible assumption)
          have q441:x5_2 < (t438.length:Int):=zE (by with_reducible assumption)
          obtain ⟨ad441,e441,hx441_0⟩:=Kd.at_int (zU HO_4.out).2.2 x5_2 p441 q441
          cases e441
          replace p441:=eq_true p441
          replace q441:=eq_true q441
          go_wp2
          repeat (go_quiet (fail);try go_wp2)
          go_ret
          exact ⟨by first|rfl|(simp [errW_none,errW_some] <;> rfl)|(simp [*,errW_none,errW_some] <;> rfl),by repeat (first|(with_reducible first|exact HB.out|apply zD|apply zB|apply zC|refine zF ?_ GE433.out)|exact HB.out)⟩
        ·rw [if_neg c19] at H
         exact absurd H (by simp)
       ·rw [if_neg c18] at H
        have c18b0:decide (x5_2 < (t438.length:Int)) = false:=zP c18
        clear c18
        obtain rfl:=zS H
        obtain ⟨Ao23,co23,eo23⟩:=zg HO_4.out
        subst eo23
        go_wp2
        repeat (go_quiet (fail);try go_wp2)
        go_ret
        exact ⟨by first|rfl|(simp [errW_none,errW_some] <;> rfl)|(simp [*,errW_none,errW_some] <;> rfl),by repeat (first|(with_reducible first|exact HB.out|apply zD|apply zB|apply zC|refine zF ?_ GE433.out)|exact HB.out)⟩
 ·replace c3:=Bool.eq_false_iff.mpr c3
  subst c3
  have H1:(some false) = some r:=by rw [if_neg (show ¬ (false = true) by decide)] at H;exact H
  clear H
  have H:=H1
  clear H1
  obtain rfl:=zS H
  go_enter Try.func76,Try.ntmps76
  go_wp2_with (first|((with_reducible refine gate_dst (N:=1) rfl ?_);refine box_event ?hg (N:=1) ?hd (cs:=#[.slice A0_0 l0_0.length c0_0,.slice A0_1 l0_1.length c0_1]) (t:=33) ?hr ?_;(case hd=>rfl);(case hg=>rfl);(case hr=>first|(go_simp;done)|(go_simp;rfl));intro gb433 hg w24 hbox hb;have n0_:=zA (zR (by exact zB_ HB.out) hb);have n1_:=zA (hbox);have n2_:=zA ((by rw [hg];exact (zQ (by exact zB_ HB.out)):w.heap.size≤gb433));have n3_:=zA ((by rw [hg];exact (zQ (by exact zB_ HB.out)):w.heap.size≤gb433));clear HB;have HB:=n0_;have BK433:=n1_;have GW433:=n2_;have GE433:=n3_;clear n0_ n1_ n2_ n3_;clear hb hbox hg;have hcz25_0:w24.cell? ⟨gb433,0,none⟩ = some (.slice A0_0 l0_0.length c0_0):=(zT BK433.out 0).trans rfl;have hcz25_1:w24.cell? ⟨gb433,1,none⟩ = some (.slice A0_1 l0_1.length c0_1):=(zT BK433.out 1).trans rfl;have hfz25_0:=zZ BK433.out 0;have hfz25_1:=zZ BK433.out 1)|(go_at_call 94;(with_reducible refine (spec_l1Both.calls k _ _ l0_0 _ _ l0_1 false _ ?side1 ?side2 ?side3 ?side4 A2.out).mono ?_);(case side1=>repeat (first|exact (zW HR0_0.out HB.out)|(with_reducible exact HR0_0.out)|apply zC_));(case side2=>exact HC0_0.out);(case side3=>repeat (first|exact (zW HR0_1.out HB.out)|(with_reducible exact HR0_1.out)|apply zC_));(case side4=>exact HC0_1.out);rintro e w' ⟨rfl,⟨nd,rfl⟩⟩;(try first|exact ⟨rfl,_,World.drewN_drewN _ _ _⟩|exact ⟨rfl,_,Eq.trans (World.drewN_drewN _ _ _) (congrArg (World.drewN _) (Nat.add_assoc _ _ _))⟩)))
  repeat (go_quiet (fail);try go_wp2_with (first|((with_reducible refine gate_dst (N:=1) rfl ?_);refine box_event ?hg (N:=1) ?hd (cs:=#[.slice A0_0 l0_0.length c0_0,.slice A0_1 l0_1.length c0_1]) (t:=33) ?hr ?_;(case hd=>rfl);(case hg=>rfl);(case hr=>first|(go_simp;done)|(go_simp;rfl));intro gb433 hg w24 hbox hb;have n0_:=zA (zR (by exact zB_ HB.out) hb);have n1_:=zA (hbox);have n2_:=zA ((by rw [hg];exact (zQ (by exact zB_ HB.out)):w.heap.size≤gb433));have n3_:=zA ((by rw [hg];exact (zQ (by exact zB_ HB.out)):w.heap.size≤gb433));clear HB;have HB:=n0_;have BK433:=n1_;have GW433:=n2_;have GE433:=n3_;clear n0_ n1_ n2_ n3_;clear hb hbox hg;have hcz25_0:w24.cell? ⟨gb433,0,none⟩ = some (.slice A0_0 l0_0.length c0_0):=(zT BK433.out 0).trans rfl;have hcz25_1:w24.cell? ⟨gb433,1,none⟩ = some (.slice A0_1 l0_1.length c0_1):=(zT BK433.out 1).trans rfl;have hfz25_0:=zZ BK433.out 0;have hfz25_1:=zZ BK433.out 1)|(go_at_call 94;(with_reducible refine (spec_l1Both.calls k _ _ l0_0 _ _ l0_1 false _ ?side1 ?side2 ?side3 ?side4 A2.out).mono ?_);(case side1=>repeat (first|exact (zW HR0_0.out HB.out)|(with_reducible exact HR0_0.out)|apply zC_));(case side2=>exact HC0_0.out);(case side3=>repeat (first|exact (zW HR0_1.out HB.out)|(with_reducible exact HR0_1.out)|apply zC_));(case side4=>exact HC0_1.out);rintro e w' ⟨rfl,⟨nd,rfl⟩⟩;(try first|exact ⟨rfl,_,World.drewN_drewN _ _ _⟩|exact ⟨rfl,_,Eq.trans (World.drewN_drewN _ _ _) (congrArg (World.drewN _) (Nat.add_assoc _ _ _))⟩))))
  go_ret
  exact ⟨by first|rfl|(simp [errW_none,errW_some] <;> rfl)|(simp [*,errW_none,errW_some] <;> rfl),by repeat (first|(with_reducible first|exact HB.out|apply zD|apply zB|apply zC|refine zF ?_ GE433.out)|exact HB.out)⟩

end Go.Proofs.Ytdaiohcgdpclnaa.Q
