import Derived.Test.YtonlecigglbohaaQ0
import Derived.Test.YtonlecigglbohaaQ2
import Derived.Test.YtonlecigglbohaaZ
namespace Go.Proofs.Ytonlecigglbohaa.Q
open Go.RowKit Go.Proofs.YtonlecigglbohaaW.PrintWords Go.Proofs.YtonlecigglbohaaW.PrintLast Go.Proofs.YtonlecigglbohaaW.PrintMore
attribute [local go_sem] max2_int min2_int max_two min_two max_three min_three max_four min_four   -- for this text's walks alone
set_option linter.unusedVariables false
set_option linter.unusedSimpArgs false

/-! ### spec_PermValid: function 121 -/
mutual
def spec_PermValid.l0:Nat→List Int→Int→Option (Bool)
 | 0,_,_=>none
 | k+1,x0,x3=>if x3 < (x0.length:Int) then (if 0≤x3 then ((spec_l6In.f (rd x0 x3) 0 (wrap64 ((x0.length:Int) - 1))).bind fun t217=>(if t217 = true then (spec_PermValid.l1 k x0 x3 0) else (some false))) else (none)) else ((spec_l6In.f (x0.length:Int) 1 12).bind fun t215=>(some t215))
def spec_PermValid.l1:Nat→List Int→Int→Int→Option (Bool)
 | 0,_,_,_=>none
 | k+1,x0,x3,x4=>if x4 < x3 then (if 0≤x4 then (if x4 < (x0.length:Int) then (if 0≤x3 then (if x3 < (x0.length:Int) then (if (rd x0 x4) = (rd x0 x3) then (some false) else (spec_PermValid.l1 k x0 x3 (wrap64 (x4+1)))) else (none)) else (none)) else (none)) else (none)) else (spec_PermValid.l0 k x0 (wrap64 (x3+1)))
end
def spec_PermValid.f (k:Nat) (l0:List Int):Option (Bool):=spec_PermValid.l0 k l0 0
theorem spec_PermValid.mono_l:∀ k,(∀ y0 y1,LeO (spec_PermValid.l0 k y0 y1) (spec_PermValid.l0 (k+1) y0 y1))∧(∀ y0 y1 y2,LeO (spec_PermValid.l1 k y0 y1 y2) (spec_PermValid.l1 (k+1) y0 y1 y2))
 | 0=>⟨fun _ _ r h=>by simp [spec_PermValid.l0] at h,fun _ _ _ r h=>by simp [spec_PermValid.l1] at h⟩
 | k+1=>by
  obtain ⟨ih0,ih1⟩:=spec_PermValid.mono_l k
  refine ⟨?_,?_⟩
  ·intro y0 y1
   unfold spec_PermValid.l0
   repeat' first
   | (with_reducible exact ih0 _ _)
   | (with_reducible exact ih1 _ _ _)
   | (with_reducible exact LeO.refl _)
   | (with_reducible exact za _)
   | (with_reducible refine zc ?_ ?_)
   | (with_reducible refine zb ?_ (fun _=>?_))
  ·intro y0 y1 y2
   unfold spec_PermValid.l1
   repeat' first
   | (with_reducible exact ih0 _ _)
   | (with_reducible exact ih1 _ _ _)
   | (with_reducible exact LeO.refl _)
   | (with_reducible exact za _)
   | (with_reducible refine zc ?_ ?_)
   | (with_reducible refine zb ?_ (fun _=>?_))
theorem spec_PermValid.mono:∀ a0 k,LeO (spec_PermValid.f k a0) (spec_PermValid.f (k+1) a0):=by
 intro a0 k
 obtain ⟨ih0,ih1⟩:=spec_PermValid.mono_l k
 unfold spec_PermValid.f
 repeat' first
   | (with_reducible exact ih0 _ _)
   | (with_reducible exact ih1 _ _ _)
   | (with_reducible exact LeO.refl _)
   | (with_reducible exact za _)
   | (with_reducible refine zc ?_ ?_)
   | (with_reducible refine zb ?_ (fun _=>?_))
set_option maxHeartbeats 8000000 in
set_option maxRecDepth 100000 in
theorem spec_PermValid.calls (k:Nat) (A0:Option Addr) (c0:Nat) (l0:List Int) (r:Bool) (w:World) (hr0:Kd.C (Kd.int .i64) w A0 l0.length l0) (hc0:l0.length≤c0) (h:spec_PermValid.f k l0 = some r) :
  Calls Try.prog 121 #[.slice A0 l0.length c0] w fun e w'=>e = .returned (.bool r)∧Drawn0 w w':=by
 have HR0:=zA hr0
 have HC0:=zA hc0
 clear hr0 hc0
 have H:(spec_PermValid.l0 k l0 0) = some r:=h
 clear h
 have H':=zA H
 clear H
 go_enter Try.func121,Try.ntmps121
 go_wp2
 repeat (go_quiet (fail);try go_wp2)
 go_loopg [3] k (fun kq v3 w' => ∃ (x3_1:Int),v3 = .int .i64 x3_1∧Aside0 (spec_PermValid.l0 kq l0 x3_1 = some r)∧Aside0 (kq≤k)∧Drawn0 w w')
 case atStart=>exact ⟨(0),(by first|rfl|(simp;done)|(simp [*];done)),H',⟨Nat.le_refl _⟩,by repeat (first|exact Drawn0.refl _|apply Drawn0.step)⟩
 case round =>
  clear H'
  (try clear c1)
  obtain ⟨x3_1,rfl,HA,HK1,⟨m1,rfl⟩⟩:=hrel
  cases gk with
  | zero=>exact absurd HA.out (by simp [spec_PermValid.l0])
  | succ k1 =>
   have H:=HA.out
   clear HA
   simp only [spec_PermValid.l0] at H
   by_cases c2:x3_1 < (l0.length:Int)
   ·rw [if_pos c2] at H
    have c2b0:decide (x3_1 < (l0.length:Int)) = true:=zO c2
    clear c2
    by_cases c3:0≤x3_1
    ·rw [if_pos c3] at H
     have c3b0:decide (0≤x3_1) = true:=zO c3
     clear c3
     replace H:=zz0 H
     obtain ⟨t217,A40,H⟩:=H
     try dsimp only at H
     have A4:=zA A40
     clear A40
     by_cases c5:t217 = true
     ·subst c5
      rw [if_pos rfl] at H;try dsimp only at H
      have H':=zA H
      clear H
      have p216:0≤(x3_1:Int):=zE (by with_reducible assumption)
      have q216:x3_1 < (l0.length:Int):=zE (by with_reducible assumption)
      obtain ⟨ad216,e216,hx216_0⟩:=Kd.at_int HR0.out x3_1 p216 q216
      cases e216
      replace p216:=eq_true p216
      replace q216:=eq_true q216
      go_wp2_with (first|(go_at_call 124;(with_reducible refine (spec_l6In.calls (rd l0 x3_1) 0 (wrap64 ((l0.length:Int) - 1)) true _ A4.out).mono ?_);rintro e w' ⟨rfl,⟨nd,rfl⟩⟩;(try first|exact ⟨rfl,_,World.drewN_drewN _ _ _⟩|exact ⟨rfl,_,Eq.trans (World.drewN_drewN _ _ _) (congrArg (World.drewN _) (Nat.add_assoc _ _ _))⟩)))
      repeat (go_quiet (first|(go_at_call 124;(with_reducible refine (spec_l6In.calls (rd l0 x3_1) 0 (wrap64 ((l0.length:Int) - 1)) true _ A4.out).mono ?_);rintro e w' ⟨rfl,⟨nd,rfl⟩⟩;(try first|exact ⟨rfl,_,World.drewN_drewN _ _ _⟩|exact ⟨rfl,_,Eq.trans (World.drewN_drewN _ _ _) (congrArg (World.drewN _) (Nat.add_assoc _ _ _))⟩)));try go_wp2_with (first|(go_at_call 124;(with_reducible refine (spec_l6In.calls (rd l0 x3_1) 0 (wrap64 ((l0.length:Int) - 1)) true _ A4.out).mono ?_);rintro e w' ⟨rfl,⟨nd,rfl⟩⟩;(try first|exact ⟨rfl,_,World.drewN_drewN _ _ _⟩|exact ⟨rfl,_,Eq.trans (World.drewN_drewN _ _ _) (congrArg (World.drewN _) (Nat.add_assoc _ _ _))⟩))))
      go_loopg [4] k1 (fun kq v4 w' => ∃ (x4_2:Int),v4 = .int .i64 x4_2∧Aside0 (spec_PermValid.l1 kq l0 x3_1 x4_2 = some r)∧Aside0 (kq≤k1)∧Drawn0 w w')
      case atStart=>exact ⟨(0),(by first|rfl|(simp;done)|(simp [*];done)),H',⟨Nat.le_refl _⟩,by repeat (first|exact Drawn0.refl _|apply Drawn0.step)⟩
      case round =>
       clear H'
       (try clear c1);(try clear c2);(try clear c2b0);(try clear p2);(try clear q2);(try clear hx2);(try clear c3);(try clear c3b0);(try clear c5);(try clear hx216_0);(try clear p216);(try clear q216)
       obtain ⟨x4_2,rfl,HA,HK2,⟨m2,rfl⟩⟩:=hrel
       cases gk with
       | zero=>exact absurd HA.out (by simp [spec_PermValid.l1])
       | succ k2 =>
        have H:=HA.out
        clear HA
        simp only [spec_PermValid.l1] at H
        by_cases c6:x4_2 < x3_1
        ·rw [if_pos c6] at H
         have c6b0:decide (x4_2 < x3_1) = true:=zO c6
         clear c6
         by_cases c7:0≤x4_2
         ·rw [if_pos c7] at H
          have c7b0:decide (0≤x4_2) = true:=zO c7
          clear c7
          by_cases c8:x4_2 < (l0.length:Int)
          ·rw [if_pos c8] at H
           have c8b0:decide (x4_2 < (l0.length:Int)) = true:=zO c8
           clear c8
           by_cases c9:0≤x3_1
           ·rw [if_pos c9] at H
            have c9b0:decide (0≤x3_1) = true:=zO c9
            clear c9
            by_cases c10:x3_1 < (l0.length:Int)
            ·rw [if_pos c10] at H
             have c10b0:decide (x3_1 < (l0.length:Int)) = true:=zO c10
             clear c10
             by_cases c11:(rd l0 x4_2) = (rd l0 x3_1)
             ·rw [if_pos c11] at H
              have c11b0:((rd l0 x4_2) == (rd l0 x3_1)) = true:=beq_iff_eq.mpr c11
              have c11b1:((rd l0 x4_2) != (rd l0 x3_1)) = false:=bne_eq_false_iff_eq.mpr c11
              clear c11
              obtain rfl:=zS H
              have p218:0≤(x4_2:Int):=zE (by with_reducible assumption)
              have q218:x4_2 < (l0.length:Int):=zE (by with_reducible assumption)
              obtain ⟨ad218,e218,hx218_0⟩:=Kd.at_int HR0.out x4_2 p218 q218
              obtain rfl:ad216 = ad218:=(by injection e218)
              replace p218:=eq_true p218
              replace q218:=eq_true q218
              have p219:0≤(x3_1:Int):=zE (by with_reducible assumption)
              have q219:x3_1 < (l0.length:Int):=zE (by with_reducible assumption)
              obtain ⟨ad219,e219,hx219_0⟩:=Kd.at_int HR0.out x3_1 p219 q219
              obtain rfl:ad216 = ad219:=(by injection e219)
              replace p219:=eq_true p219
              replace q219:=eq_true q219
              go_wp2
              repeat (go_quiet (fail);try go_wp2)
              go_ret
              exact ⟨by first|rfl|(simp;done)|(simp [*];done),by repeat (first|exact Drawn0.refl _|apply Drawn0.step)⟩
             ·rw [if_neg c11] at H
              have c11b0:((rd l0 x4_2) == (rd l0 x3_1)) = false:=beq_eq_false_iff_ne.mpr c11
              have c11b1:((rd l0 x4_2) != (rd l0 x3_1)) = true:=bne_iff_ne.mpr c11
              have H':=zA H
              clear H
              have p218:0≤(x4_2:Int):=zE (by with_reducible assumption)
              have q218:x4_2 < (l0.length:Int):=zE (by with_reducible assumption)
              obtain ⟨ad218,e218,hx218_0⟩:=Kd.at_int HR0.out x4_2 p218 q218
              obtain rfl:ad216 = ad218:=(by injection e218)
              replace p218:=eq_true p218
              replace q218:=eq_true q218
              have p219:0≤(x3_1:Int):=zE (by with_reducible assumption)
              have q219:x3_1 < (l0.length:Int):=zE (by with_reducible assumption)
              obtain ⟨ad219,e219,hx219_0⟩:=Kd.at_int HR0.out x3_1 p219 q219
              obtain rfl:ad216 = ad219:=(by injection e219)
              replace p219:=eq_true p219
              replace q219:=eq_true q219
              go_wp2
              repeat (go_quiet (fail);try go_wp2)
              go_roundg k2
              case measure=>have:=HK1.out;have:=HK2.out;omega
              case rel=>exact ⟨(wrap64 (x4_2+1)),(by first|rfl|(simp;done)|(simp [*];done)),H',⟨by have:=HK1.out;have:=HK2.out;omega⟩,by repeat (first|exact Drawn0.refl _|apply Drawn0.step)⟩
            ·rw [if_neg c10] at H
             exact absurd H (by simp)
           ·rw [if_neg c9] at H
            exact absurd H (by simp)
          ·rw [if_neg c8] at H
           exact absurd H (by simp)
         ·rw [if_neg c7] at H
          exact absurd H (by simp)
        ·rw [if_neg c6] at H
         have c6b0:decide (x4_2 < x3_1) = false:=zP c6
         clear c6
         have H':=zA H
         clear H
         go_wp2
         repeat (go_quiet (fail);try go_wp2)
         go_roundg k2
         case measure=>have:=HK1.out;have:=HK2.out;omega
         case rel=>exact ⟨(wrap64 (x3_1+1)),(by first|rfl|(simp;done)|(simp [*];done)),H',⟨by have:=HK1.out;have:=HK2.out;omega⟩,by repeat (first|exact Drawn0.refl _|apply Drawn0.step)⟩
     ·replace c5:=Bool.eq_false_iff.mpr c5
      subst c5
      have H1:(some false) = some r:=by rw [if_neg (show ¬ (false = true) by decide)] at H;exact H
      clear H
      have H:=H1
      clear H1
      obtain rfl:=zS H
      have p216:0≤(x3_1:Int):=zE (by with_reducible assumption)
      have q216:x3_1 < (l0.length:Int):=zE (by with_reducible assumption)
      obtain ⟨ad216,e216,hx216_0⟩:=Kd.at_int HR0.out x3_1 p216 q216
      cases e216
      replace p216:=eq_true p216
      replace q216:=eq_true q216
      go_wp2_with (first|(go_at_call 124;(with_reducible refine (spec_l6In.calls (rd l0 x3_1) 0 (wrap64 ((l0.length:Int) - 1)) false _ A4.out).mono ?_);rintro e w' ⟨rfl,⟨nd,rfl⟩⟩;(try first|exact ⟨rfl,_,World.drewN_drewN _ _ _⟩|exact ⟨rfl,_,Eq.trans (World.drewN_drewN _ _ _) (congrArg (World.drewN _) (Nat.add_assoc _ _ _))⟩)))
      repeat (go_quiet (first|(go_at_call 124;(with_reducible refine (spec_l6In.calls (rd l0 x3_1) 0 (wrap64 ((l0.length:Int) - 1)) false _ A4.out).mono ?_);rintro e w' ⟨rfl,⟨nd,rfl⟩⟩;(try first|exact ⟨rfl,_,World.drewN_drewN _ _ _⟩|exact ⟨rfl,_,Eq.trans (World.drewN_drewN _ _ _) (congrArg (World.drewN _) (Nat.add_assoc _ _ _))⟩)));try go_wp2_with (first|(go_at_call 124;(with_reducible refine (spec_l6In.calls (rd l0 x3_1) 0 (wrap64 ((l0.length:Int) - 1)) false _ A4.out).mono ?_);rintro e w' ⟨rfl,⟨nd,rfl⟩⟩;(try first|exact ⟨rfl,_,World.drewN_drewN _ _ _⟩|exact ⟨rfl,_,Eq.trans (World.drewN_drewN _ _ _) (congrArg (World.drewN _) (Nat.add_assoc _ _ _))⟩))))
      go_ret
      exact ⟨by first|rfl|(simp;done)|(simp [*];done),by repeat (first|exact Drawn0.refl _|apply Drawn0.step)⟩
    ·rw [if_neg c3] at H
     exact absurd H (by simp)
   ·rw [if_neg c2] at H
    have c2b0:decide (x3_1 < (l0.length:Int)) = false:=zP c2
    clear c2
    replace H:=zz0 H
    obtain ⟨t215,A120,H⟩:=H
    try dsimp only at H
    have A12:=zA A120
    clear A120
    obtain rfl:=zS H
    go_wp2_with (first|(go_at_call 124;(with_reducible refine (spec_l6In.calls (l0.length:Int) 1 12 t215 _ A12.out).mono ?_);rintro e w' ⟨rfl,⟨nd,rfl⟩⟩;(try first|exact ⟨rfl,_,World.drewN_drewN _ _ _⟩|exact ⟨rfl,_,Eq.trans (World.drewN_drewN _ _ _) (congrArg (World.drewN _) (Nat.add_assoc _ _ _))⟩)))
    repeat (go_quiet (first|(go_at_call 124;(with_reducible refine (spec_l6In.calls (l0.length:Int) 1 12 t215 _ A12.out).mono ?_);rintro e w' ⟨rfl,⟨nd,rfl⟩⟩;(try first|exact ⟨rfl,_,World.drewN_drewN _ _ _⟩|exact ⟨rfl,_,Eq.trans (World.drewN_drewN _ _ _) (congrArg (World.drewN _) (Nat.add_assoc _ _ _))⟩)));try go_wp2_with (first|(go_at_call 124;(with_reducible refine (spec_l6In.calls (l0.length:Int) 1 12 t215 _ A12.out).mono ?_);rintro e w' ⟨rfl,⟨nd,rfl⟩⟩;(try first|exact ⟨rfl,_,World.drewN_drewN _ _ _⟩|exact ⟨rfl,_,Eq.trans (World.drewN_drewN _ _ _) (congrArg (World.drewN _) (Nat.add_assoc _ _ _))⟩))))
    go_ret
    exact ⟨by first|rfl|(simp;done)|(simp [*];done),by repeat (first|exact Drawn0.refl _|apply Drawn0.step)⟩

/-! ### spec_l1Both: function 97 -/
def spec_l1Both.f (k:Nat) (l0:List Int) (l1:List Int):Option (Bool):=(spec_PermValid.f k l0).bind fun t220=>(if t220 = true then ((spec_PermValid.f k l1).bind fun t221=>(if t221 = true then (some ((l0.length:Int) == (l1.length:Int))) else (some false))) else (some false))
theorem spec_l1Both.mono:∀ a0 a1 k,LeO (spec_l1Both.f k a0 a1) (spec_l1Both.f (k+1) a0 a1):=by
 intro a0 a1 k
 unfold spec_l1Both.f
 repeat' first
   | (with_reducible exact spec_PermValid.mono _ _)
   | (with_reducible exact LeO.refl _)
   | (with_reducible exact za _)
   | (with_reducible refine zc ?_ ?_)
   | (with_reducible refine zb ?_ (fun _=>?_))
set_option maxHeartbeats 8000000 in
set_option maxRecDepth 100000 in
theorem spec_l1Both.calls (k:Nat) (A0:Option Addr) (c0:Nat) (l0:List Int) (A1:Option Addr) (c1:Nat) (l1:List Int) (r:Bool) (w:World) (hr0:Kd.C (Kd.int .i64) w A0 l0.length l0) (hc0:l0.length≤c0) (hr1:Kd.C (Kd.int .i64) w A1 l1.length l1) (hc1:l1.length≤c1) (h:spec_l1Both.f k l0 l1 = some r) :
  Calls Try.prog 97 #[.slice A0 l0.length c0,.slice A1 l1.length c1] w fun e w'=>e = .returned (.bool r)∧Drawn0 w w':=by
 have HR0:=zA hr0
 have HC0:=zA hc0
 clear hr0 hc0
 have HR1:=zA hr1
 have HC1:=zA hc1
 clear hr1 hc1
 have H:((spec_PermValid.f k l0).bind fun t220=>(if t220 = true then ((spec_PermValid.f k l1).bind fun t221=>(if t221 = true then (some ((l0.length:Int) == (l1.length:Int))) else (some false))) else (some false))) = some r:=h
 clear h
 replace H:=zz0 H
 obtain ⟨t220,A30,H⟩:=H
 try dsimp only at H
 have A3:=zA A30
 clear A30
 by_cases c4:t220 = true
 ·subst c4
  rw [if_pos rfl] at H;try dsimp only at H
  replace H:=zz0 H
  obtain ⟨t221,A50,H⟩:=H
  try dsimp only at H
  have A5:=zA A50
  clear A50
  by_cases c6:t221 = true
  ·subst c6
   rw [if_pos rfl] at H;try dsimp only at H
   obtain rfl:=zS H
   go_enter Try.func97,Try.ntmps97
   go_wp2_with (first|((with_reducible refine gate_callee (f:=121) rfl ?_);refine goesL_ (some 6) rfl rfl Try.func121 (by kernel_rfl) rfl #[.slice A0 l0.length c0] rfl (by (try simp only [zJ,zM,zN]);first|done|rfl|(simp only [zL,zK];rfl)) ?_;(with_reducible refine (spec_PermValid.calls k _ _ l0 true _ ?side1 ?side2 A3.out).mono ?_);(case side1=>repeat (first|exact HR0.out|apply zC_));(case side2=>exact HC0.out);rintro e w' ⟨rfl,⟨nd,rfl⟩⟩;refine ⟨_,rfl,?_⟩)|(go_at_call 121;(with_reducible refine (spec_PermValid.calls k _ _ l1 true _ ?side1 ?side2 A5.out).mono ?_);(case side1=>repeat (first|exact HR1.out|apply zC_));(case side2=>exact HC1.out);rintro e w' ⟨rfl,⟨nd,rfl⟩⟩))
   go_ret
   exact ⟨by first|rfl|(simp;done)|(simp [*];done),by repeat (first|exact Drawn0.refl _|apply Drawn0.step)⟩
  ·replace c6:=Bool.eq_false_iff.mpr c6
   subst c6
   have H1:(some false) = some r:=by rw [if_neg (show ¬ (false = true) by decide)] at H;exact H
   clear H
   have H:=H1
   clear H1
   obtain rfl:=zS H
   go_enter Try.func97,Try.ntmps97
   go_wp2_with (first|((with_reducible refine gate_callee (f:=121) rfl ?_);refine goesL_ (some 6) rfl rfl Try.func121 (by kernel_rfl) rfl #[.slice A0 l0.length c0] rfl (by (try simp only [zJ,zM,zN]);first|done|rfl|(simp only [zL,zK];rfl)) ?_;(with_reducible refine (spec_PermValid.calls k _ _ l0 true _ ?side1 ?side2 A3.out).mono ?_);(case side1=>repeat (first|exact HR0.out|apply zC_));(case side2=>exact HC0.out);rintro e w' ⟨rfl,⟨nd,rfl⟩⟩;refine ⟨_,rfl,?_⟩)|(go_at_call 121;(with_reducible refine (spec_PermValid.calls k _ _ l1 false _ ?side1 ?side2 A5.out).mono ?_);(case side1=>repeat (first|exact HR1.out|apply zC_));(case side2=>exact HC1.out);rintro e w' ⟨rfl,⟨nd,rfl⟩⟩))
   go_ret
   exact ⟨by first|rfl|(simp;done)|(simp [*];done),by repeat (first|exact Drawn0.refl _|apply Drawn0.step)⟩
 ·replace c4:=Bool.eq_false_iff.mpr c4
  subst c4
  have H1:(some false) = some r:=by rw [if_neg (show ¬ (false = true) by decide)] at H;exact H
  clear H
  have H:=H1
  clear H1
  obtain rfl:=zS H
  go_enter Try.func97,Try.ntmps97
  go_wp2_with (first|((with_reducible refine gate_callee (f:=121) rfl ?_);refine goesL_ (some 6) rfl rfl Try.func121 (by kernel_rfl) rfl #[.slice A0 l0.length c0] rfl (by (try simp only [zJ,zM,zN]);first|done|rfl|(simp only [zL,zK];rfl)) ?_;(with_reducible refine (spec_PermValid.calls k _ _ l0 false _ ?side1 ?side2 A3.out).mono ?_);(case side1=>repeat (first|exact HR0.out|apply zC_));(case side2=>exact HC0.out);rintro e w' ⟨rfl,⟨nd,rfl⟩⟩;refine ⟨_,rfl,?_⟩))
  go_ret
  exact ⟨by first|rfl|(simp;done)|(simp [*];done),by repeat (first|exact Drawn0.refl _|apply Drawn0.step)⟩

/-! ### spec_l1Same: function 129 -/
def spec_l1Same.l0:Nat→Int→List Int→Int→Option (List Int)
 | 0,_,_,_=>none
 | k+1,x0,x3,x4=>if x4 < x0 then (if x3.length < 17592186044416 then (spec_l1Same.l0 k x0 (x3 ++ [x4]) (wrap64 (x4+1))) else (none)) else (some x3)
def spec_l1Same.f (k:Nat) (a0:Int):Option (List Int):=spec_l1Same.l0 k a0 (([]:List Int)) 0
theorem spec_l1Same.mono_l:∀ k,(∀ y0 y1 y2,LeO (spec_l1Same.l0 k y0 y1 y2) (spec_l1Same.l0 (k+1) y0 y1 y2))
 | 0=>fun _ _ _ r h=>by simp [spec_l1Same.l0] at h
 | k+1=>by
  have ih0:=spec_l1Same.mono_l k
  ·intro y0 y1 y2
   unfold spec_l1Same.l0
   repeat' first
   | (with_reducible exact ih0 _ _ _)
   | (with_reducible exact LeO.refl _)
   | (with_reducible exact za _)
   | (with_reducible refine zc ?_ ?_)
   | (with_reducible refine zb ?_ (fun _=>?_))
theorem spec_l1Same.mono:∀ a0 k,LeO (spec_l1Same.f k a0) (spec_l1Same.f (k+1) a0):=by
 intro a0 k
 have ih0:=spec_l1Same.mono_l k
 unfold spec_l1Same.f
 repeat' first
   | (with_reducible exact ih0 _ _ _)
   | (with_reducible exact LeO.refl _)
   | (with_reducible exact za _)
   | (with_reducible refine zc ?_ ?_)
   | (with_reducible refine zb ?_ (fun _=>?_))
set_option maxHeartbeats 8000000 in
set_option maxRecDepth 100000 in
theorem spec_l1Same.calls (k:Nat) (a0:Int) (r:List Int) (w:World) (h:spec_l1Same.f k a0 = some r) :
  Calls Try.prog 129 #[.int .i64 a0] w fun e w' => ∃ v0_:Value,e = .returned (v0_)∧Kd.R (Kd.int .i64) 3 w' w.heap.size (fun _=>True) v0_ r∧Below w.heap.size w w':=by
 have HB:=zA (Below.refl w.heap.size w)
 have H:(spec_l1Same.l0 k a0 (([]:List Int)) 0) = some r:=h
 clear h
 obtain ⟨y222,hy222⟩:∃ y_:List Int,y_ = (([]:List Int)):=⟨_,rfl⟩
 replace H:(spec_l1Same.l0 k a0 y222 0) = some r:=by (try rw [hy222]);first|with_reducible exact H|with_reducible exact zS_ H|exact H
 have Ny222:=zA hy222
 clear hy222
 have H':=zA H
 clear H
 go_enter Try.func129,Try.ntmps129
 go_wp2_with (first|((with_reducible refine gate_dst (N:=5) rfl ?_);refine Kd.R_lit (Kd.int .i64) _ 3 ?hg (N:=5) ?hd (xs:=([]:List Int)) (inner:=[]) (ok:=fun _=>True) (okp:=fun _=>True) ?hr ?hp (fun _ hk=>hk) trivial (Below.refl _ _) (Nat.le_refl _) (by simp) ?_;(case hd=>rfl);(case hg=>rfl);(case hr=>first|(go_simp;done)|(go_simp;rfl));(case hp=>exact (Reps.none _ _));intro v223 w2 ho3 hb hg_ hnew_;clear hg_ hnew_;(first|rw [← Ny222.out] at ho3|(simp only [Int.reduceToNat] at ho3;rw [← Ny222.out] at ho3));have n0_:=zA (ze ho3 (zQ (by exact zB_ HB.out)));have n1_:=zA (zR (by exact zB_ HB.out) hb);clear HB;have HO224:=n0_;have HB:=n1_;clear n0_ n1_;clear hb ho3))
 go_loopg [3,4] k (fun kq v3 v4 w' => ∃ (x3_1:List Int) (x4_1:Int),v4 = .int .i64 x4_1∧Aside0 (spec_l1Same.l0 kq a0 x3_1 x4_1 = some r)∧Aside0 (kq≤k)∧Aside0 (Kd.R (Kd.int .i64) 3 w' w.heap.size (fun _=>True) v3 x3_1)∧Aside0 (Below w.heap.size w w'))
 case atStart=>exact ⟨(y222),(0),(by first|rfl|(simp;done)|(simp [*];done)),H',⟨Nat.le_refl _⟩,⟨by apply zR_;exact HO224.out⟩,⟨by exact zB_ HB.out⟩⟩
 case round =>
  clear H'
  (try clear c1);(try clear p2)
  obtain ⟨x3_1,x4_1,rfl,HA,HK1,HO_3,HB⟩:=hrel
  cases gk with
  | zero=>exact absurd HA.out (by simp [spec_l1Same.l0])
  | succ k1 =>
   have H:=HA.out
   clear HA
   simp only [spec_l1Same.l0] at H
   by_cases c4:x4_1 < a0
   ·rw [if_pos c4] at H
    have c4b0:decide (x4_1 < a0) = true:=zO c4
    clear c4
    by_cases c5:x3_1.length < 17592186044416
    ·rw [if_pos c5] at H
     have LMc5:=zA c5
     clear c5
     obtain ⟨y225,hy225⟩:∃ y_:List Int,y_ = (x3_1 ++ [x4_1]):=⟨_,rfl⟩
     replace H:(spec_l1Same.l0 k1 a0 y225 (wrap64 (x4_1+1))) = some r:=by (try rw [hy225]);first|with_reducible exact H|with_reducible exact zS_ H|exact H
     have Ny225:=zA hy225
     clear hy225
     have H':=zA H
     clear H
     go_wp2_with (first|((with_reducible refine gate_builtin (b:=.append) (xs:=#[.tmp 11,.tmp 13]) rfl ?_);at_builtin;refine Kd.R_append (Kd.int .i64) (w0:=w) w.heap.size rfl (.tmp 11) (.tmp 13) 23 3 (.int .i64 0) 8 rfl Try.underlying23 info3 rfl (by decide) (by omega) u3 x3_1 x4_1 [.int .i64 x4_1] (fun _=>True) (fun _=>False) rfl rfl ?aP (fun _ hk=>hk.elim) ?aF ?aO ?aB ?aS ?aL ?_;(case aP=>exact rfl);(case aB=>exact (by exact zB_ HB.out));(case aF=>exact (fun _ _=>trivial));(case aO=>exact (by apply zR_;exact HO_3.out));(case aS=>exact (zQ (by exact zB_ HB.out)));(case aL=>have:=LMc5.out;omega);intro v226 w6 ho hb hg hat;rw [← Ny225.out] at ho;have n0_:=zA (hb);have n1_:=zA (ho);clear HB;clear HO_3;have HB:=n0_;have HO227:=n1_;clear n0_ n1_;clear ho hb hg hat))
     go_roundg k1
     case measure=>have:=HK1.out;omega
     case rel=>exact ⟨(y225),(wrap64 (x4_1+1)),(by first|rfl|(simp;done)|(simp [*];done)),H',⟨by have:=HK1.out;omega⟩,⟨by apply zR_;exact HO227.out⟩,⟨by exact zB_ HB.out⟩⟩
    ·rw [if_neg c5] at H
     exact absurd H (by simp)
   ·rw [if_neg c4] at H
    have c4b0:decide (x4_1 < a0) = false:=zP c4
    clear c4
    obtain rfl:=zS H
    go_wp2
    go_ret
    exact ⟨_,by first|rfl|(simp [errW_none,errW_some] <;> rfl)|(simp [*,errW_none,errW_some] <;> rfl),by apply zR_;exact HO_3.out,by exact zB_ HB.out⟩

/-! ### spec_l1Orbits: function 98 -/
mutual
def spec_l1Orbits.l0:Nat→List Int→List Int→List Int→Int→Option (List Int)
 | 0,_,_,_,_=>none
 | k+1,x0,x1,x5,x6=>if x6 < (x0.length:Int) then (spec_l1Orbits.l1 k x0 x1 x5 x6 0) else (some x5)
def spec_l1Orbits.l1:Nat→List Int→List Int→List Int→Int→Int→Option (List Int)
 | 0,_,_,_,_,_=>none
 | k+1,x0,x1,x5,x6,x7=>if x7 < (x0.length:Int) then (if 0≤x7 then (if x7 < (x5.length:Int) then (if 0≤(rd x0 x7) then (if (rd x0 x7) < (x5.length:Int) then (if x7 < (x1.length:Int) then (if 0≤(rd x1 x7) then (if (rd x1 x7) < (x5.length:Int) then (spec_l1Orbits.l1 k x0 x1 (((x5.set (x7:Int).toNat (mn (rd x5 x7) (mn (rd x5 (rd x0 x7)) (rd x5 (rd x1 x7))))).set ((rd x0 x7):Int).toNat (mn (rd x5 x7) (mn (rd x5 (rd x0 x7)) (rd x5 (rd x1 x7))))).set ((rd x1 x7):Int).toNat (mn (rd x5 x7) (mn (rd x5 (rd x0 x7)) (rd x5 (rd x1 x7))))) x6 (wrap64 (x7+1))) else (none)) else (none)) else (none)) else (none)) else (none)) else (none)) else (none)) else (spec_l1Orbits.l0 k x0 x1 x5 (wrap64 (x6+1)))
end
def spec_l1Orbits.f (k:Nat) (l0:List Int) (l1:List Int):Option (List Int):=(spec_l1Same.f k (l0.length:Int)).bind fun t228=>(spec_l1Orbits.l0 k l0 l1 t228 0)
theorem spec_l1Orbits.mono_l:∀ k,(∀ y0 y1 y2 y3,LeO (spec_l1Orbits.l0 k y0 y1 y2 y3) (spec_l1Orbits.l0 (k+1) y0 y1 y2 y3))∧(∀ y0 y1 y2 y3 y4,LeO (spec_l1Orbits.l1 k y0 y1 y2 y3 y4) (spec_l1Orbits.l1 (k+1) y0 y1 y2 y3 y4))
 | 0=>⟨fun _ _ _ _ r h=>by simp [spec_l1Orbits.l0] at h,fun _ _ _ _ _ r h=>by simp [spec_l1Orbits.l1] at h⟩
 | k+1=>by
  obtain ⟨ih0,ih1⟩:=spec_l1Orbits.mono_l k
  refine ⟨?_,?_⟩
  ·intro y0 y1 y2 y3
   unfold spec_l1Orbits.l0
   repeat' first
   | (with_reducible exact ih0 _ _ _ _)
   | (with_reducible exact ih1 _ _ _ _ _)
   | (with_reducible exact spec_l1Same.mono _ _)
   | (with_reducible exact LeO.refl _)
   | (with_reducible exact za _)
   | (with_reducible refine zc ?_ ?_)
   | (with_reducible refine zb ?_ (fun _=>?_))
  ·intro y0 y1 y2 y3 y4
   unfold spec_l1Orbits.l1
   repeat' first
   | (with_reducible exact ih0 _ _ _ _)
   | (with_reducible exact ih1 _ _ _ _ _)
   | (with_reducible exact spec_l1Same.mono _ _)
   | (with_reducible exact LeO.refl _)
   | (with_reducible exact za _)
   | (with_reducible refine zc ?_ ?_)
   | (with_reducible refine zb ?_ (fun _=>?_))
theorem spec_l1Orbits.mono:∀ a0 a1 k,LeO (spec_l1Orbits.f k a0 a1) (spec_l1Orbits.f (k+1) a0 a1):=by
 intro a0 a1 k
 obtain ⟨ih0,ih1⟩:=spec_l1Orbits.mono_l k
 unfold spec_l1Orbits.f
 repeat' first
   | (with_reducible exact ih0 _ _ _ _)
   | (with_reducible exact ih1 _ _ _ _ _)
   | (with_reducible exact spec_l1Same.mono _ _)
   | (with_reducible exact LeO.refl _)
   | (with_reducible exact za _)
   | (with_reducible refine zc ?_ ?_)
   | (with_reducible refine zb ?_ (fun _=>?_))
set_option maxHeartbeats 8000000 in
set_option maxRecDepth 100000 in
theorem spec_l1Orbits.calls (k:Nat) (A0:Option Addr) (c0:Nat) (l0:List Int) (A1:Option Addr) (c1:Nat) (l1:List Int) (r:List Int) (w:World) (hr0:Kd.C (Kd.int .i64) w A0 l0.length l0) (hc0:l0.length≤c0) (hr1:Kd.C (Kd.int .i64) w A1 l1.length l1) (hc1:l1.length≤c1) (h:spec_l1Orbits.f k l0 l1 = some r) :
  Calls Try.prog 98 #[.slice A0 l0.length c0,.slice A1 l1.length c1] w fun e w' => ∃ v0_:Value,e = .returned (v0_)∧Kd.R (Kd.int .i64) 3 w' w.heap.size (fun _=>True) v0_ r∧Below w.heap.size w w':=by
 have HR0:=zA hr0
 have HC0:=zA hc0
 clear hr0 hc0
 have HR1:=zA hr1
 have HC1:=zA hc1
 clear hr1 hc1
 have HB:=zA (Below.refl w.heap.size w)
 have H:((spec_l1Same.f k (l0.length:Int)).bind fun t228=>(spec_l1Orbits.l0 k l0 l1 t228 0)) = some r:=h
 clear h
 replace H:=zz0 H
 obtain ⟨t228,A30,H⟩:=H
 try dsimp only at H
 have A3:=zA A30
 clear A30
 have H':=zA H
 clear H
 go_enter Try.func98,Try.ntmps98
 go_wp2_with (first|(go_at_call 129;(with_reducible refine (spec_l1Same.calls k (l0.length:Int) t228 _ A3.out).mono ?_);rintro e w4 ⟨v229,rfl,ho0,hb⟩;have n0_:=zA (ze ho0 (zQ (by exact zB_ HB.out)));have n1_:=zA (zR (by exact zB_ HB.out) hb);clear HB;have HO230:=n0_;have HB:=n1_;clear n0_ n1_;(try clear hb);(try clear hb2);(try clear hk);(try clear hi);(try clear ho0)))
 repeat (go_quiet (fail);try go_wp2_with (first|(go_at_call 129;(with_reducible refine (spec_l1Same.calls k (l0.length:Int) t228 _ A3.out).mono ?_);rintro e w4 ⟨v229,rfl,ho0,hb⟩;have n0_:=zA (ze ho0 (zQ (by exact zB_ HB.out)));have n1_:=zA (zR (by exact zB_ HB.out) hb);clear HB;have HO230:=n0_;have HB:=n1_;clear n0_ n1_;(try clear hb);(try clear hb2);(try clear hk);(try clear hi);(try clear ho0))))
 go_loopg [6] k (fun kq v6 w' => ∃ (x5_1:List Int) (x6_1:Int),v6 = .int .i64 x6_1∧Aside0 (spec_l1Orbits.l0 kq l0 l1 x5_1 x6_1 = some r)∧Aside0 (kq≤k)∧Aside0 (Kd.R (Kd.int .i64) 3 w' w.heap.size (fun _=>True) v229 x5_1)∧Aside0 (Below w.heap.size w w'))
 case atStart=>exact ⟨(t228),(0),(by first|rfl|(simp;done)|(simp [*];done)),H',⟨Nat.le_refl _⟩,⟨by apply zR_;exact HO230.out⟩,⟨by exact zB_ HB.out⟩⟩
 case round =>
  clear H'
  (try clear c1);(try clear p2)
  obtain ⟨x5_1,x6_1,rfl,HA,HK1,HO_5,HB⟩:=hrel
  cases gk with
  | zero=>exact absurd HA.out (by simp [spec_l1Orbits.l0])
  | succ k1 =>
   have H:=HA.out
   clear HA
   simp only [spec_l1Orbits.l0] at H
   by_cases c5:x6_1 < (l0.length:Int)
   ·rw [if_pos c5] at H
    have c5b0:decide (x6_1 < (l0.length:Int)) = true:=zO c5
    clear c5
    have H':=zA H
    clear H
    go_wp2
    repeat (go_quiet (fail);try go_wp2)
    go_loopg [7] k1 (fun kq v7 w' => ∃ (x5_2:List Int) (x7_2:Int),v7 = .int .i64 x7_2∧Aside0 (spec_l1Orbits.l1 kq l0 l1 x5_2 x6_1 x7_2 = some r)∧Aside0 (kq≤k1)∧Aside0 (Kd.R (Kd.int .i64) 3 w' w.heap.size (fun _=>True) v229 x5_2)∧Aside0 (Below w.heap.size w w'))
    case atStart=>exact ⟨(x5_1),(0),(by first|rfl|(simp;done)|(simp [*];done)),H',⟨Nat.le_refl _⟩,⟨by apply zR_;exact HO_5.out⟩,⟨by exact zB_ HB.out⟩⟩
    case round =>
     clear H'
     (try clear c1);(try clear p2);(try clear c5);(try clear c5b0);(try clear p2)
     obtain ⟨x5_2,x7_2,rfl,HA,HK2,HO_5,HB⟩:=hrel
     cases gk with
     | zero=>exact absurd HA.out (by simp [spec_l1Orbits.l1])
     | succ k2 =>
      have H:=HA.out
      clear HA
      simp only [spec_l1Orbits.l1] at H
      by_cases c6:x7_2 < (l0.length:Int)
      ·rw [if_pos c6] at H
       have c6b0:decide (x7_2 < (l0.length:Int)) = true:=zO c6
       clear c6
       by_cases c7:0≤x7_2
       ·rw [if_pos c7] at H
        have c7b0:decide (0≤x7_2) = true:=zO c7
        clear c7
        by_cases c8:x7_2 < (x5_2.length:Int)
        ·rw [if_pos c8] at H
         have c8b0:decide (x7_2 < (x5_2.length:Int)) = true:=zO c8
         clear c8
         by_cases c9:0≤(rd l0 x7_2)
         ·rw [if_pos c9] at H
          have c9b0:decide (0≤(rd l0 x7_2)) = true:=zO c9
          clear c9
          by_cases c10:(rd l0 x7_2) < (x5_2.length:Int)
          ·rw [if_pos c10] at H
           have c10b0:decide ((rd l0 x7_2) < (x5_2.length:Int)) = true:=zO c10
           clear c10
           by_cases c11:x7_2 < (l1.length:Int)
           ·rw [if_pos c11] at H
            have c11b0:decide (x7_2 < (l1.length:Int)) = true:=zO c11
            clear c11
            by_cases c12:0≤(rd l1 x7_2)
            ·rw [if_pos c12] at H
             have c12b0:decide (0≤(rd l1 x7_2)) = true:=zO c12
             clear c12
             by_cases c13:(rd l1 x7_2) < (x5_2.length:Int)
             ·rw [if_pos c13] at H
              have c13b0:decide ((rd l1 x7_2) < (x5_2.length:Int)) = true:=zO c13
              clear c13
              obtain ⟨ji14,hji14⟩:∃ j_:Int,(mn (rd x5_2 (rd l0 x7_2)) (rd x5_2 (rd l1 x7_2))) = j_:=⟨_,rfl⟩
              replace H:(spec_l1Orbits.l1 k2 l0 l1 (((x5_2.set (x7_2:Int).toNat (mn (rd x5_2 x7_2) (ji14))).set ((rd l0 x7_2):Int).toNat (mn (rd x5_2 x7_2) (ji14))).set ((rd l1 x7_2):Int).toNat (mn (rd x5_2 x7_2) (ji14))) x6_1 (wrap64 (x7_2+1))) = some r:=by first|(rw [hji14] at H;exact H)|(simp only [hji14] at H ⊢;exact H)
              have hji14_:(if (rd x5_2 (rd l1 x7_2)) < (rd x5_2 (rd l0 x7_2)) then (rd x5_2 (rd l1 x7_2)) else (rd x5_2 (rd l0 x7_2))) = ji14:=hji14
              obtain ⟨ji15,hji15⟩:∃ j_:Int,(mn (rd x5_2 x7_2) (ji14)) = j_:=⟨_,rfl⟩
              replace H:(spec_l1Orbits.l1 k2 l0 l1 (((x5_2.set (x7_2:Int).toNat (ji15)).set ((rd l0 x7_2):Int).toNat (ji15)).set ((rd l1 x7_2):Int).toNat (ji15)) x6_1 (wrap64 (x7_2+1))) = some r:=by first|(rw [hji15] at H;exact H)|(simp only [hji15] at H ⊢;exact H)
              have hji15_:(if (ji14) < (rd x5_2 x7_2) then (ji14) else (rd x5_2 x7_2)) = ji15:=hji15
              obtain ⟨y236,hy236⟩:∃ y_:List Int,y_ = (x5_2.set (x7_2:Int).toNat (ji15)):=⟨_,rfl⟩
              replace H:(spec_l1Orbits.l1 k2 l0 l1 ((y236.set ((rd l0 x7_2):Int).toNat (ji15)).set ((rd l1 x7_2):Int).toNat (ji15)) x6_1 (wrap64 (x7_2+1))) = some r:=by (try rw [hy236]);first|with_reducible exact H|with_reducible exact zS_ H|exact H
              have Ny236:=zA hy236
              clear hy236
              obtain ⟨y238,hy238⟩:∃ y_:List Int,y_ = (y236.set ((rd l0 x7_2):Int).toNat (ji15)):=⟨_,rfl⟩
              replace H:(spec_l1Orbits.l1 k2 l0 l1 (y238.set ((rd l1 x7_2):Int).toNat (ji15)) x6_1 (wrap64 (x7_2+1))) = some r:=by (try rw [hy238]);first|with_reducible exact H|with_reducible exact zS_ H|exact H
              have Ny238:=zA hy238
              clear hy238
              obtain ⟨y240,hy240⟩:∃ y_:List Int,y_ = (y238.set ((rd l1 x7_2):Int).toNat (ji15)):=⟨_,rfl⟩
              replace H:(spec_l1Orbits.l1 k2 l0 l1 y240 x6_1 (wrap64 (x7_2+1))) = some r:=by (try rw [hy240]);first|with_reducible exact H|with_reducible exact zS_ H|exact H
              have Ny240:=zA hy240
              clear hy240
              have H':=zA H
              clear H
              obtain ⟨Ao19,co19,eo19⟩:=zg HO_5.out
              subst eo19
              have p231:0≤(x7_2:Int):=zE (by with_reducible assumption)
              have q231:x7_2 < (x5_2.length:Int):=zE (by with_reducible assumption)
              obtain ⟨ad231,e231,hx231_0⟩:=Kd.at_int (zU HO_5.out).2.2 x7_2 p231 q231
              cases e231
              replace p231:=eq_true p231
              replace q231:=eq_true q231
              have p232:0≤(x7_2:Int):=zE (by with_reducible assumption)
              have q232:x7_2 < (l0.length:Int):=zE (by with_reducible assumption)
              obtain ⟨ad232,e232,hx232_0⟩:=Kd.at_int HR0.out x7_2 p232 q232
              cases e232
              replace hx232_0:=(HB.out.cell (zY w _ hx232_0)).trans hx232_0
              replace p232:=eq_true p232
              replace q232:=eq_true q232
              have p233:0≤((rd l0 x7_2):Int):=zE (by with_reducible assumption)
              have q233:(rd l0 x7_2) < (x5_2.length:Int):=zE (by with_reducible assumption)
              obtain ⟨ad233,e233,hx233_0⟩:=Kd.at_int (zU HO_5.out).2.2 (rd l0 x7_2) p233 q233
              obtain rfl:ad231 = ad233:=(by injection e233)
              replace p233:=eq_true p233
              replace q233:=eq_true q233
              have p234:0≤(x7_2:Int):=zE (by with_reducible assumption)
              have q234:x7_2 < (l1.length:Int):=zE (by with_reducible assumption)
              obtain ⟨ad234,e234,hx234_0⟩:=Kd.at_int HR1.out x7_2 p234 q234
              cases e234
              replace hx234_0:=(HB.out.cell (zY w _ hx234_0)).trans hx234_0
              replace p234:=eq_true p234
              replace q234:=eq_true q234
              have p235:0≤((rd l1 x7_2):Int):=zE (by with_reducible assumption)
              have q235:(rd l1 x7_2) < (x5_2.length:Int):=zE (by with_reducible assumption)
              obtain ⟨ad235,e235,hx235_0⟩:=Kd.at_int (zU HO_5.out).2.2 (rd l1 x7_2) p235 q235
              obtain rfl:ad231 = ad235:=(by injection e235)
              replace p235:=eq_true p235
              replace q235:=eq_true q235
              have p16:0≤(x7_2:Int):=zE (by with_reducible assumption)
              have q16:(x7_2:Int) < ((x5_2.length:Int):Int):=zE (by with_reducible assumption)
              obtain ⟨go16,co16,eo16,gb16,gl16,cl16,HG16⟩:=Kd.R_form HO_5.out (by omega)
              (first|cases eo16|(injection eo16 with ea_ en_ ec_;(first|subst ea_|(injection ea_ with ea_;subst ea_));subst ec_;clear en_))
              have GB16:=zA gb16
              have GG16:=zA HG16
              clear gb16 gl16 HG16
              (first|simp only [add_plain] at hx231_0|skip)
              (first|simp only [add_plain] at hx233_0|skip)
              (first|simp only [add_plain] at hx235_0|skip)
              obtain ⟨hx16_0,hf16_0⟩:=Kd.R_celln 0 HO_5.out (x7_2:Int) p16 q16
              replace p16:=eq_true p16
              replace q16:=eq_true q16
              have HP20:=Kd.R_putg HO_5.out (x7_2:Int) ji15
              go_wp2_with (first|((with_reducible refine gate_store (t:=3) (p:=47) rfl ?_);(try ((first|(generalize hq_:World.drewN wr _ = wr)|(rw [drewN_self wr];generalize hq_:World.drewN wr _ = wr));have n0_:=zA (Kd.R_at hq_ HO_5.out);have n1_:=zA (below_at hq_ HB.out);clear hq_ HO_5 HB;have HO_5:=n0_;have HB:=n1_;clear n0_ n1_;(try (have HP20:=Kd.R_putg HO_5.out (x7_2:Int) ji15));(try (obtain ⟨hx19b_,hf19b_⟩:=Kd.R_celln 0 HO_5.out (x7_2:Int) (of_eq_true (by assumption)) (of_eq_true (by assumption))))));refine store_event (t:=3) (p:=47) (v:=?vo_w21) (w1:=(wr.setCell ⟨go16,(x7_2:Int).toNat,none⟩ (.int .i64 ji15))) ?hg ?ho ?hn ?hr ?_;(case ho=>rfl);(case hg=>rfl);(case hn=>rfl);(case hr=>first|(go_simp;done)|(go_simp;rfl));intro w21 hw;have hg:wr.grownBy w21 (some go16):=(by rw [hw];exact HP20.2);have hp_:Kd.R (Kd.int .i64) 3 w21 w.heap.size (fun _=>True) (.slice (some ⟨go16,0,none⟩) x5_2.length co19) y236:=(by rw [hw,Ny236.out];exact HP20.1);clear HP20;have n0_:=zA (hp_);have n1_:=zA ((by rw [hw];exact zF (HB.out) GB16.out:Below w.heap.size w w21));clear HO_5;clear HB;have HO_5:=n0_;have HB:=n1_;clear n0_ n1_;clear hg hw hp_;have p237:0≤(x7_2:Int):=zE (by with_reducible assumption);have q237:x7_2 < (l0.length:Int):=zE (by with_reducible assumption);obtain ⟨ad237,e237,hx237_0⟩:=Kd.at_int HR0.out x7_2 p237 q237;obtain rfl:ad232 = ad237:=(by injection e237);replace hx237_0:=(HB.out.cell (zY w _ hx237_0)).trans hx237_0;replace p237:=eq_true p237;replace q237:=eq_true q237;have p17:0≤((rd l0 x7_2):Int):=zE (by with_reducible assumption);have q17:((rd l0 x7_2):Int) < ((x5_2.length:Int):Int):=zE (by with_reducible assumption);obtain ⟨hx17_0,hf17_0⟩:=Kd.R_celln 0 HO_5.out ((rd l0 x7_2):Int) p17 q17;replace p17:=eq_true p17;replace q17:=eq_true q17;obtain ⟨hy22_,hz22_⟩:=Kd.R_celln 0 HO_5.out ((rd l0 x7_2):Int) (zE (by with_reducible assumption)) (zE (by with_reducible assumption));have HP22:=Kd.R_putg HO_5.out ((rd l0 x7_2):Int) ji15)|((with_reducible refine gate_store (t:=3) (p:=54) rfl ?_);(try (rw [drewN_self w21];generalize hq_:World.drewN w21 _ = w21;have n0_:=zA (Kd.R_at hq_ HO_5.out);have n1_:=zA (below_at hq_ HB.out);clear hq_ HO_5 HB;have HO_5:=n0_;have HB:=n1_;clear n0_ n1_;(try (obtain ⟨hy22_,hz22_⟩:=Kd.R_celln 0 HO_5.out ((rd l0 x7_2):Int) (zE (by with_reducible assumption)) (zE (by with_reducible assumption))));(try (have HP22:=Kd.R_putg HO_5.out ((rd l0 x7_2):Int) ji15))));refine store_event (t:=3) (p:=54) (v:=?vo_w23) (w1:=(w21.setCell ⟨go16,((rd l0 x7_2):Int).toNat,none⟩ (.int .i64 ji15))) ?hg ?ho ?hn ?hr ?_;(case ho=>rfl);(case hg=>rfl);(case hn=>rfl);(case hr=>first|(go_simp;done)|(go_simp;rfl));intro w23 hw;have hg:w21.grownBy w23 (some go16):=(by rw [hw];exact HP22.2);have hp_:Kd.R (Kd.int .i64) 3 w23 w.heap.size (fun _=>True) (.slice (some ⟨go16,0,none⟩) x5_2.length co19) y238:=(by rw [hw,Ny238.out];exact HP22.1);clear HP22;have n0_:=zA (hp_);have n1_:=zA ((by rw [hw];exact zF (HB.out) GB16.out:Below w.heap.size w w23));clear HO_5;clear HB;have HO_5:=n0_;have HB:=n1_;clear n0_ n1_;clear hg hw hp_;have p239:0≤(x7_2:Int):=zE (by with_reducible assumption);have q239:x7_2 < (l1.length:Int):=zE (by with_reducible assumption);obtain ⟨ad239,e239,hx239_0⟩:=Kd.at_int HR1.out x7_2 p239 q239;obtain rfl:ad234 = ad239:=(by injection e239);replace hx239_0:=(HB.out.cell (zY w _ hx239_0)).trans hx239_0;replace p239:=eq_true p239;replace q239:=eq_true q239;have p18:0≤((rd l1 x7_2):Int):=zE (by with_reducible assumption);have q18:((rd l1 x7_2):Int) < ((x5_2.length:Int):Int):=zE (by with_reducible assumption);obtain ⟨hx18_0,hf18_0⟩:=Kd.R_celln 0 HO_5.out ((rd l1 x7_2):Int) p18 q18;replace p18:=eq_true p18;replace q18:=eq_true q18;obtain ⟨hy24_,hz24_⟩:=Kd.R_celln 0 HO_5.out ((rd l1 x7_2):Int) (zE (by with_reducible assumption)) (zE (by with_reducible assumption));have HP24:=Kd.R_putg HO_5.out ((rd l1 x7_2):Int) ji15)|((with_reducible refine gate_store (t:=3) (p:=61) rfl ?_);(try (rw [drewN_self w23];generalize hq_:World.drewN w23 _ = w23;have n0_:=zA (Kd.R_at hq_ HO_5.out);have n1_:=zA (below_at hq_ HB.out);clear hq_ HO_5 HB;have HO_5:=n0_;have HB:=n1_;clear n0_ n1_;(try (obtain ⟨hy24_,hz24_⟩:=Kd.R_celln 0 HO_5.out ((rd l1 x7_2):Int) (zE (by with_reducible assumption)) (zE (by with_reducible assumption))));(try (have HP24:=Kd.R_putg HO_5.out ((rd l1 x7_2):Int) ji15))));refine store_event (t:=3) (p:=61) (v:=?vo_w25) (w1:=(w23.setCell ⟨go16,((rd l1 x7_2):Int).toNat,none⟩ (.int .i64 ji15))) ?hg ?ho ?hn ?hr ?_;(case ho=>rfl);(case hg=>rfl);(case hn=>rfl);(case hr=>first|(go_simp;done)|(go_simp;rfl));intro w25 hw;have hg:w23.grownBy w25 (some go16):=(by rw [hw];exact HP24.2);have hp_:Kd.R (Kd.int .i64) 3 w25 w.heap.size (fun _=>True) (.slice (some ⟨go16,0,none⟩) x5_2.length co19) y240:=(by rw [hw,Ny240.out];exact HP24.1);clear HP24;have n0_:=zA (hp_);have n1_:=zA ((by rw [hw];exact zF (HB.out) GB16.out:Below w.heap.size w w25));clear HO_5;clear HB;have HO_5:=n0_;have HB:=n1_;clear n0_ n1_;clear hg hw hp_))
              repeat (go_quiet (first|((with_reducible refine gate_store (t:=3) (p:=47) rfl ?_);(try ((first|(generalize hq_:World.drewN wr _ = wr)|(rw [drewN_self wr];generalize hq_:World.drewN wr _ = wr));have n0_:=zA (Kd.R_at hq_ HO_5.out);have n1_:=zA (below_at hq_ HB.out);clear hq_ HO_5 HB;have HO_5:=n0_;have HB:=n1_;clear n0_ n1_;(try (have HP20:=Kd.R_putg HO_5.out (x7_2:Int) ji15));(try (obtain ⟨hx19b_,hf19b_⟩:=Kd.R_celln 0 HO_5.out (x7_2:Int) (of_eq_true (by assumption)) (of_eq_true (by assumption))))));refine store_event (t:=3) (p:=47) (v:=?vo_w21) (w1:=(wr.setCell ⟨go16,(x7_2:Int).toNat,none⟩ (.int .i64 ji15))) ?hg ?ho ?hn ?hr ?_;(case ho=>rfl);(case hg=>rfl);(case hn=>rfl);(case hr=>first|(go_simp;done)|(go_simp;rfl));intro w21 hw;have hg:wr.grownBy w21 (some go16):=(by rw [hw];exact HP20.2);have hp_:Kd.R (Kd.int .i64) 3 w21 w.heap.size (fun _=>True) (.slice (some ⟨go16,0,none⟩) x5_2.length co19) y236:=(by rw [hw,Ny236.out];exact HP20.1);clear HP20;have n0_:=zA (hp_);have n1_:=zA ((by rw [hw];exact zF (HB.out) GB16.out:Below w.heap.size w w21));clear HO_5;clear HB;have HO_5:=n0_;have HB:=n1_;clear n0_ n1_;clear hg hw hp_;have p237:0≤(x7_2:Int):=zE (by with_reducible assumption);have q237:x7_2 < (l0.length:Int):=zE (by with_reducible assumption);obtain ⟨ad237,e237,hx237_0⟩:=Kd.at_int HR0.out x7_2 p237 q237;obtain rfl:ad232 = ad237:=(by injection e237);replace hx237_0:=(HB.out.cell (zY w _ hx237_0)).trans hx237_0;replace p237:=eq_true p237;replace q237:=eq_true q237;have p17:0≤((rd l0 x7_2):Int):=zE (by with_reducible assumption);have q17:((rd l0 x7_2):Int) < ((x5_2.length:Int):Int):=zE (by with_reducible assumption);obtain ⟨hx17_0,hf17_0⟩:=Kd.R_celln 0 HO_5.out ((rd l0 x7_2):Int) p17 q17;replace p17:=eq_true p17;replace q17:=eq_true q17;obtain ⟨hy22_,hz22_⟩:=Kd.R_celln 0 HO_5.out ((rd l0 x7_2):Int) (zE (by with_reducible assumption)) (zE (by with_reducible assumption));have HP22:=Kd.R_putg HO_5.out ((rd l0 x7_2):Int) ji15)|((with_reducible refine gate_store (t:=3) (p:=54) rfl ?_);(try (rw [drewN_self w21];generalize hq_:World.drewN w21 _ = w21;have n0_:=zA (Kd.R_at hq_ HO_5.out);have n1_:=zA (below_at hq_ HB.out);clear hq_ HO_5 HB;have HO_5:=n0_;have HB:=n1_;clear n0_ n1_;(try (obtain ⟨hy22_,hz22_⟩:=Kd.R_celln 0 HO_5.out ((rd l0 x7_2):Int) (zE (by with_reducible assumption)) (zE (by with_reducible assumption))));(try (have HP22:=Kd.R_putg HO_5.out ((rd l0 x7_2):Int) ji15))));refine store_event (t:=3) (p:=54) (v:=?vo_w23) (w1:=(w21.setCell ⟨go16,((rd l0 x7_2):Int).toNat,none⟩ (.int .i64 ji15))) ?hg ?ho ?hn ?hr ?_;(case ho=>rfl);(case hg=>rfl);(case hn=>rfl);(case hr=>first|(go_simp;done)|(go_simp;rfl));intro w23 hw;have hg:w21.grownBy w23 (some go16):=(by rw [hw];exact HP22.2);have hp_:Kd.R (Kd.int .i64) 3 w23 w.heap.size (fun _=>True) (.slice (some ⟨go16,0,none⟩) x5_2.length co19) y238:=(by rw [hw,Ny238.out];exact HP22.1);clear HP22;have n0_:=zA (hp_);have n1_:=zA ((by rw [hw];exact zF (HB.out) GB16.out:Below w.heap.size w w23));clear HO_5;clear HB;have HO_5:=n0_;have HB:=n1_;clear n0_ n1_;clear hg hw hp_;have p239:0≤(x7_2:Int):=zE (by with_reducible assumption);have q239:x7_2 < (l1.length:Int):=zE (by with_reducible assumption);obtain ⟨ad239,e239,hx239_0⟩:=Kd.at_int HR1.out x7_2 p239 q239;obtain rfl:ad234 = ad239:=(by injection e239);replace hx239_0:=(HB.out.cell (zY w _ hx239_0)).trans hx239_0;replace p239:=eq_true p239;replace q239:=eq_true q239;have p18:0≤((rd l1 x7_2):Int):=zE (by with_reducible assumption);have q18:((rd l1 x7_2):Int) < ((x5_2.length:Int):Int):=zE (by with_reducible assumption);obtain ⟨hx18_0,hf18_0⟩:=Kd.R_celln 0 HO_5.out ((rd l1 x7_2):Int) p18 q18;replace p18:=eq_true p18;replace q18:=eq_true q18;obtain ⟨hy24_,hz24_⟩:=Kd.R_celln 0 HO_5.out ((rd l1 x7_2):Int) (zE (by with_reducible assumption)) (zE (by with_reducible assumption));have HP24:=Kd.R_putg HO_5.out ((rd l1 x7_2):Int) ji15)|((with_reducible refine gate_store (t:=3) (p:=61) rfl ?_);(try (rw [drewN_self w23];generalize hq_:World.drewN w23 _ = w23;have n0_:=zA (Kd.R_at hq_ HO_5.out);have n1_:=zA (below_at hq_ HB.out);clear hq_ HO_5 HB;have HO_5:=n0_;have HB:=n1_;clear n0_ n1_;(try (obtain ⟨hy24_,hz24_⟩:=Kd.R_celln 0 HO_5.out ((rd l1 x7_2):Int) (zE (by with_reducible assumption)) (zE (by with_reducible assumption))));(try (have HP24:=Kd.R_putg HO_5.out ((rd l1 x7_2):Int) ji15))));refine store_event (t:=3) (p:=61) (v:=?vo_w25) (w1:=(w23.setCell ⟨go16,((rd l1 x7_2):Int).toNat,none⟩ (.int .i64 ji15))) ?hg ?ho ?hn ?hr ?_;(case ho=>rfl);(case hg=>rfl);(case hn=>rfl);(case hr=>first|(go_simp;done)|(go_simp;rfl));intro w25 hw;have hg:w23.grownBy w25 (some go16):=(by rw [hw];exact HP24.2);have hp_:Kd.R (Kd.int .i64) 3 w25 w.heap.size (fun _=>True) (.slice (some ⟨go16,0,none⟩) x5_2.length co19) y240:=(by rw [hw,Ny240.out];exact HP24.1);clear HP24;have n0_:=zA (hp_);have n1_:=zA ((by rw [hw];exact zF (HB.out) GB16.out:Below w.heap.size w w25));clear HO_5;clear HB;have HO_5:=n0_;have HB:=n1_;clear n0_ n1_;clear hg hw hp_));try go_wp2_with (first|((with_reducible refine gate_store (t:=3) (p:=47) rfl ?_);(try ((first|(generalize hq_:World.drewN wr _ = wr)|(rw [drewN_self wr];generalize hq_:World.drewN wr _ = wr));have n0_:=zA (Kd.R_at hq_ HO_5.out);have n1_:=zA (below_at hq_ HB.out);clear hq_ HO_5 HB;have HO_5:=n0_;have HB:=n1_;clear n0_ n1_;(try (have HP20:=Kd.R_putg HO_5.out (x7_2:Int) ji15));(try (obtain ⟨hx19b_,hf19b_⟩:=Kd.R_celln 0 HO_5.out (x7_2:Int) (of_eq_true (by assumption)) (of_eq_true (by assumption))))));refine store_event (t:=3) (p:=47) (v:=?vo_w21) (w1:=(wr.setCell ⟨go16,(x7_2:Int).toNat,none⟩ (.int .i64 ji15))) ?hg ?ho ?hn ?hr ?_;(case ho=>rfl);(case hg=>rfl);(case hn=>rfl);(case hr=>first|(go_simp;done)|(go_simp;rfl));intro w21 hw;have hg:wr.grownBy w21 (some go16):=(by rw [hw];exact HP20.2);have hp_:Kd.R (Kd.int .i64) 3 w21 w.heap.size (fun _=>True) (.slice (some ⟨go16,0,none⟩) x5_2.length co19) y236:=(by rw [hw,Ny236.out];exact HP20.1);clear HP20;have n0_:=zA (hp_);have n1_:=zA ((by rw [hw];exact zF (HB.out) GB16.out:Below w.heap.size w w21));clear HO_5;clear HB;have HO_5:=n0_;have HB:=n1_;clear n0_ n1_;clear hg hw hp_;have p237:0≤(x7_2:Int):=zE (by with_reducible assumption);have q237:x7_2 < (l0.length:Int):=zE (by with_reducible assumption);obtain ⟨ad237,e237,hx237_0⟩:=Kd.at_int HR0.out x7_2 p237 q237;obtain rfl:ad232 = ad237:=(by injection e237);replace hx237_0:=(HB.out.cell (zY w _ hx237_0)).trans hx237_0;replace p237:=eq_true p237;replace q237:=eq_true q237;have p17:0≤((rd l0 x7_2):Int):=zE (by with_reducible assumption);have q17:((rd l0 x7_2):Int) < ((x5_2.length:Int):Int):=zE (by with_reducible assumption);obtain ⟨hx17_0,hf17_0⟩:=Kd.R_celln 0 HO_5.out ((rd l0 x7_2):Int) p17 q17;replace p17:=eq_true p17;replace q17:=eq_true q17;obtain ⟨hy22_,hz22_⟩:=Kd.R_celln 0 HO_5.out ((rd l0 x7_2):Int) (zE (by with_reducible assumption)) (zE (by with_reducible assumption));have HP22:=Kd.R_putg HO_5.out ((rd l0 x7_2):Int) ji15)|((with_reducible refine gate_store (t:=3) (p:=54) rfl ?_);(try (rw [drewN_self w21];generalize hq_:World.drewN w21 _ = w21;have n0_:=zA (Kd.R_at hq_ HO_5.out);have n1_:=zA (below_at hq_ HB.out);clear hq_ HO_5 HB;have HO_5:=n0_;have HB:=n1_;clear n0_ n1_;(try (obtain ⟨hy22_,hz22_⟩:=Kd.R_celln 0 HO_5.out ((rd l0 x7_2):Int) (zE (by with_reducible assumption)) (zE (by with_reducible assumption))));(try (have HP22:=Kd.R_putg HO_5.out ((rd l0 x7_2):Int) ji15))));refine store_event (t:=3) (p:=54) (v:=?vo_w23) (w1:=(w21.setCell ⟨go16,((rd l0 x7_2):Int).toNat,none⟩ (.int .i64 ji15))) ?hg ?ho ?hn ?hr ?_;(case ho=>rfl);(case hg=>rfl);(case hn=>rfl);(case hr=>first|(go_simp;done)|(go_simp;rfl));intro w23 hw;have hg:w21.grownBy w23 (some go16):=(by rw [hw];exact HP22.2);have hp_:Kd.R (Kd.int .i64) 3 w23 w.heap.size (fun _=>True) (.slice (some ⟨go16,0,none⟩) x5_2.length co19) y238:=(by rw [hw,Ny238.out];exact HP22.1);clear HP22;have n0_:=zA (hp_);have n1_:=zA ((by rw [hw];exact zF (HB.out) GB16.out:Below w.heap.size w w23));clear HO_5;clear HB;have HO_5:=n0_;have HB:=n1_;clear n0_ n1_;clear hg hw hp_;have p239:0≤(x7_2:Int):=zE (by with_reducible assumption);have q239:x7_2 < (l1.length:Int):=zE (by with_reducible assumption);obtain ⟨ad239,e239,hx239_0⟩:=Kd.at_int HR1.out x7_2 p239 q239;obtain rfl:ad234 = ad239:=(by injection e239);replace hx239_0:=(HB.out.cell (zY w _ hx239_0)).trans hx239_0;replace p239:=eq_true p239;replace q239:=eq_true q239;have p18:0≤((rd l1 x7_2):Int):=zE (by with_reducible assumption);have q18:((rd l1 x7_2):Int) < ((x5_2.length:Int):Int):=zE (by with_reducible assumption);obtain ⟨hx18_0,hf18_0⟩:=Kd.R_celln 0 HO_5.out ((rd l1 x7_2):Int) p18 q18;replace p18:=eq_true p18;replace q18:=eq_true q18;obtain ⟨hy24_,hz24_⟩:=Kd.R_celln 0 HO_5.out ((rd l1 x7_2):Int) (zE (by with_reducible assumption)) (zE (by with_reducible assumption));have HP24:=Kd.R_putg HO_5.out ((rd l1 x7_2):Int) ji15)|((with_reducible refine gate_store (t:=3) (p:=61) rfl ?_);(try (rw [drewN_self w23];generalize hq_:World.drewN w23 _ = w23;have n0_:=zA (Kd.R_at hq_ HO_5.out);have n1_:=zA (below_at hq_ HB.out);clear hq_ HO_5 HB;have HO_5:=n0_;have HB:=n1_;clear n0_ n1_;(try (obtain ⟨hy24_,hz24_⟩:=Kd.R_celln 0 HO_5.out ((rd l1 x7_2):Int) (zE (by with_reducible assumption)) (zE (by with_reducible assumption))));(try (have HP24:=Kd.R_putg HO_5.out ((rd l1 x7_2):Int) ji15))));refine store_event (t:=3) (p:=61) (v:=?vo_w25) (w1:=(w23.setCell ⟨go16,((rd l1 x7_2):Int).toNat,none⟩ (.int .i64 ji15))) ?hg ?ho ?hn ?hr ?_;(case ho=>rfl);(case hg=>rfl);(case hn=>rfl);(case hr=>first|(go_simp;done)|(go_simp;rfl));intro w25 hw;have hg:w23.grownBy w25 (some go16):=(by rw [hw];exact HP24.2);have hp_:Kd.R (Kd.int .i64) 3 w25 w.heap.size (fun _=>True) (.slice (some ⟨go16,0,none⟩) x5_2.length co19) y240:=(by rw [hw,Ny240.out];exact HP24.1);clear HP24;have n0_:=zA (hp_);have n1_:=zA ((by rw [hw];exact zF (HB.out) GB16.out:Below w.heap.size w w25));clear HO_5;clear HB;have HO_5:=n0_;have HB:=n1_;clear n0_ n1_;clear hg hw hp_)))
              go_roundg k2
              case measure=>have:=HK1.out;have:=HK2.out;omega
              case rel=>exact ⟨(y240),(wrap64 (x7_2+1)),(by first|rfl|(simp;done)|(simp [*];done)),H',⟨by have:=HK1.out;have:=HK2.out;omega⟩,⟨by apply zR_;exact HO_5.out⟩,⟨by exact zB_ HB.out⟩⟩
             ·rw [if_neg c13] at H
              exact absurd H (by simp)
            ·rw [if_neg c12] at H
             exact absurd H (by simp)
           ·rw [if_neg c11] at H
            exact absurd H (by simp)
          ·rw [if_neg c10] at H
           exact absurd H (by simp)
         ·rw [if_neg c9] at H
          exact absurd H (by simp)
        ·rw [if_neg c8] at H
         exact absurd H (by simp)
       ·rw [if_neg c7] at H
        exact absurd H (by simp)
      ·rw [if_neg c6] at H
       have c6b0:decide (x7_2 < (l0.length:Int)) = false:=zP c6
       clear c6
       have H':=zA H
       clear H
       go_wp2
       repeat (go_quiet (fail);try go_wp2)
       go_roundg k2
       case measure=>have:=HK1.out;have:=HK2.out;omega
       case rel=>exact ⟨(x5_2),(wrap64 (x6_1+1)),(by first|rfl|(simp;done)|(simp [*];done)),H',⟨by have:=HK1.out;have:=HK2.out;omega⟩,⟨by apply zR_;exact HO_5.out⟩,⟨by exact zB_ HB.out⟩⟩
   ·rw [if_neg c5] at H
    have c5b0:decide (x6_1 < (l0.length:Int)) = false:=zP c5
    clear c5
    obtain rfl:=zS H
    go_wp2
    repeat (go_quiet (fail);try go_wp2)
    go_ret
    exact ⟨_,by first|rfl|(simp [errW_none,errW_some] <;> rfl)|(simp [*,errW_none,errW_some] <;> rfl),by apply zR_;exact HO_5.out,by exact zB_ HB.out⟩

/-! ### spec_MapValid: function 34 -/
mutual
def spec_MapValid.l0:Nat→Int→List Int→List Int→Option (Bool)
 | 0,_,_,_=>none
 | k+1,x3,x242000,x242001=>if x3 < (x242001.length:Int) then (if 0≤x3 then (if (rd x242001 x3) = x3 then (some false) else (if 0≤(rd x242001 x3) then (if (rd x242001 x3) < (x242001.length:Int) then (if (rd x242001 (rd x242001 x3)) = x3 then (spec_MapValid.l0 k (wrap64 (x3+1)) x242000 x242001) else (some false)) else (none)) else (none))) else (none)) else ((spec_l1Orbits.f k x242000 x242001).bind fun t246=>(spec_MapValid.l1 k t246 0))
def spec_MapValid.l1:Nat→List Int→Int→Option (Bool)
 | 0,_,_=>none
 | k+1,x4,x5=>if x5 < (x4.length:Int) then (if 0≤x5 then (if (rd x4 x5) = 0 then (spec_MapValid.l1 k x4 (wrap64 (x5+1))) else (some false)) else (none)) else (some true)
end
def spec_MapValid.f (k:Nat) (l0_0:List Int) (l0_1:List Int):Option (Bool):=(spec_l1Both.f k l0_0 l0_1).bind fun t242=>(if t242 = true then (spec_MapValid.l0 k 0 l0_0 l0_1) else (some false))
theorem spec_MapValid.mono_l:∀ k,(∀ y0 y1 y2,LeO (spec_MapValid.l0 k y0 y1 y2) (spec_MapValid.l0 (k+1) y0 y1 y2))∧(∀ y0 y1,LeO (spec_MapValid.l1 k y0 y1) (spec_MapValid.l1 (k+1) y0 y1))
 | 0=>⟨fun _ _ _ r h=>by simp [spec_MapValid.l0] at h,fun _ _ r h=>by simp [spec_MapValid.l1] at h⟩
 | k+1=>by
  obtain ⟨ih0,ih1⟩:=spec_MapValid.mono_l k
  refine ⟨?_,?_⟩
  ·intro y0 y1 y2
   unfold spec_MapValid.l0
   repeat' first
   | (with_reducible exact ih0 _ _ _)
   | (with_reducible exact ih1 _ _)
   | (with_reducible exact spec_l1Both.mono _ _ _)
   | (with_reducible exact spec_l1Orbits.mono _ _ _)
   | (with_reducible exact LeO.refl _)
   | (with_reducible exact za _)
   | (with_reducible refine zc ?_ ?_)
   | (with_reducible refine zb ?_ (fun _=>?_))
  ·intro y0 y1
   unfold spec_MapValid.l1
   repeat' first
   | (with_reducible exact ih0 _ _ _)
   | (with_reducible exact ih1 _ _)
   | (with_reducible exact spec_l1Both.mono _ _ _)
   | (with_reducible exact spec_l1Orbits.mono _ _ _)
   | (with_reducible exact LeO.refl _)
   | (with_reducible exact za _)
   | (with_reducible refine zc ?_ ?_)
   | (with_reducible refine zb ?_ (fun _=>?_))
theorem spec_MapValid.mono:∀ a0 a1 k,LeO (spec_MapValid.f k a0 a1) (spec_MapValid.f (k+1) a0 a1):=by
 intro a0 a1 k
 obtain ⟨ih0,ih1⟩:=spec_MapValid.mono_l k
 unfold spec_MapValid.f
 repeat' first
   | (with_reducible exact ih0 _ _ _)
   | (with_reducible exact ih1 _ _)
   | (with_reducible exact spec_l1Both.mono _ _ _)
   | (with_reducible exact spec_l1Orbits.mono _ _ _)
   | (with_reducible exact LeO.refl _)
   | (with_reducible exact za _)
   | (with_reducible refine zc ?_ ?_)
   | (with_reducible refine zb ?_ (fun _=>?_))
set_option maxHeartbeats 8000000 in
set_option maxRecDepth 100000 in
theorem spec_MapValid.calls (k:Nat) (A0_0:Option Addr) (c0_0:Nat) (l0_0:List Int) (A0_1:Option Addr) (c0_1:Nat) (l0_1:List Int) (r:Bool) (w:World) (hr0_0:Kd.C (Kd.int .i64) w A0_0 l0_0.length l0_0) (hc0_0:l0_0.length≤c0_0) (hr0_1:Kd.C (Kd.int .i64) w A0_1 l0_1.length l0_1) (hc0_1:l0_1.length≤c0_1) (h:spec_MapValid.f k l0_0 l0_1 = some r) :
  Calls Try.prog 34 #[.agg #[.slice A0_0 l0_0.length c0_0,.slice A0_1 l0_1.length c0_1]] w fun e w'=>e = .returned (.bool r)∧Below w.heap.size w w':=by
 have hu27:=Try.underlying27
 have HR0_0:=zA hr0_0
 have HC0_0:=zA hc0_0
 clear hr0_0 hc0_0
 have HR0_1:=zA hr0_1
 have HC0_1:=zA hc0_1
 clear hr0_1 hc0_1
 have HB:=zA (Below.refl w.heap.size w)
 have H:((spec_l1Both.f k l0_0 l0_1).bind fun t242=>(if t242 = true then (spec_MapValid.l0 k 0 l0_0 l0_1) else (some false))) = some r:=h
 clear h
 replace H:=zz0 H
 obtain ⟨t242,A20,H⟩:=H
 try dsimp only at H
 have A2:=zA A20
 clear A20
 by_cases c3:t242 = true
 ·subst c3
  rw [if_pos rfl] at H;try dsimp only at H
  have H':=zA H
  clear H
  go_enter Try.func34,Try.ntmps34
  go_wp2_with (first|((with_reducible refine gate_dst (N:=1) rfl ?_);refine box_event ?hg (N:=1) ?hd (cs:=#[.slice A0_0 l0_0.length c0_0,.slice A0_1 l0_1.length c0_1]) (t:=27) ?hr ?_;(case hd=>rfl);(case hg=>rfl);(case hr=>first|(go_simp;done)|(go_simp;rfl));intro gb241 hg w4 hbox hb;have n0_:=zA (zR (by exact zB_ HB.out) hb);have n1_:=zA (hbox);have n2_:=zA ((by rw [hg];exact (zQ (by exact zB_ HB.out)):w.heap.size≤gb241));have n3_:=zA ((by rw [hg];exact (zQ (by exact zB_ HB.out)):w.heap.size≤gb241));clear HB;have HB:=n0_;have BK241:=n1_;have GW241:=n2_;have GE241:=n3_;clear n0_ n1_ n2_ n3_;clear hb hbox hg;have hcz5_0:w4.cell? ⟨gb241,0,none⟩ = some (.slice A0_0 l0_0.length c0_0):=(zT BK241.out 0).trans rfl;have hcz5_1:w4.cell? ⟨gb241,1,none⟩ = some (.slice A0_1 l0_1.length c0_1):=(zT BK241.out 1).trans rfl;have hfz5_0:=zZ BK241.out 0;have hfz5_1:=zZ BK241.out 1)|(go_at_call 97;(with_reducible refine (spec_l1Both.calls k _ _ l0_0 _ _ l0_1 true _ ?side1 ?side2 ?side3 ?side4 A2.out).mono ?_);(case side1=>repeat (first|exact (zW HR0_0.out HB.out)|(with_reducible exact HR0_0.out)|apply zC_));(case side2=>exact HC0_0.out);(case side3=>repeat (first|exact (zW HR0_1.out HB.out)|(with_reducible exact HR0_1.out)|apply zC_));(case side4=>exact HC0_1.out);rintro e w' ⟨rfl,⟨nd,rfl⟩⟩;(try first|exact ⟨rfl,_,World.drewN_drewN _ _ _⟩|exact ⟨rfl,_,Eq.trans (World.drewN_drewN _ _ _) (congrArg (World.drewN _) (Nat.add_assoc _ _ _))⟩)))
  repeat (go_quiet (fail);try go_wp2_with (first|((with_reducible refine gate_dst (N:=1) rfl ?_);refine box_event ?hg (N:=1) ?hd (cs:=#[.slice A0_0 l0_0.length c0_0,.slice A0_1 l0_1.length c0_1]) (t:=27) ?hr ?_;(case hd=>rfl);(case hg=>rfl);(case hr=>first|(go_simp;done)|(go_simp;rfl));intro gb241 hg w4 hbox hb;have n0_:=zA (zR (by exact zB_ HB.out) hb);have n1_:=zA (hbox);have n2_:=zA ((by rw [hg];exact (zQ (by exact zB_ HB.out)):w.heap.size≤gb241));have n3_:=zA ((by rw [hg];exact (zQ (by exact zB_ HB.out)):w.heap.size≤gb241));clear HB;have HB:=n0_;have BK241:=n1_;have GW241:=n2_;have GE241:=n3_;clear n0_ n1_ n2_ n3_;clear hb hbox hg;have hcz5_0:w4.cell? ⟨gb241,0,none⟩ = some (.slice A0_0 l0_0.length c0_0):=(zT BK241.out 0).trans rfl;have hcz5_1:w4.cell? ⟨gb241,1,none⟩ = some (.slice A0_1 l0_1.length c0_1):=(zT BK241.out 1).trans rfl;have hfz5_0:=zZ BK241.out 0;have hfz5_1:=zZ BK241.out 1)|(go_at_call 97;(with_reducible refine (spec_l1Both.calls k _ _ l0_0 _ _ l0_1 true _ ?side1 ?side2 ?side3 ?side4 A2.out).mono ?_);(case side1=>repeat (first|exact (zW HR0_0.out HB.out)|(with_reducible exact HR0_0.out)|apply zC_));(case side2=>exact HC0_0.out);(case side3=>repeat (first|exact (zW HR0_1.out HB.out)|(with_reducible exact HR0_1.out)|apply zC_));(case side4=>exact HC0_1.out);rintro e w' ⟨rfl,⟨nd,rfl⟩⟩;(try first|exact ⟨rfl,_,World.drewN_drewN _ _ _⟩|exact ⟨rfl,_,Eq.trans (World.drewN_drewN _ _ _) (congrArg (World.drewN _) (Nat.add_assoc _ _ _))⟩))))
  go_loopg [3] k (fun kq v3 w' => ∃ (x3_1:Int),v3 = .int .i64 x3_1∧Aside0 (spec_MapValid.l0 kq x3_1 l0_0 l0_1 = some r)∧Aside0 (kq≤k)∧Aside0 (w'.heap[gb241]? = some (.cells #[(.slice A0_0 l0_0.length c0_0),(.slice A0_1 l0_1.length c0_1)] 27 (0,0)))∧Aside0 (Below w.heap.size w w'))
  case atStart=>exact ⟨(0),(by first|rfl|(simp;done)|(simp [*];done)),H',⟨Nat.le_refl _⟩,⟨by (with_reducible repeat (first|refine zG ?_ _|refine zI ?_|refine zH ?_ _));exact BK241.out⟩,⟨by repeat (first|(with_reducible first|exact HB.out|apply zD|apply zB|apply zC|refine zF ?_ GE241.out)|exact HB.out)⟩⟩
  case round =>
   clear H'
   (try clear p2);(try clear c3);(try clear hcz5_0);(try clear hcz5_1);(try clear hfz5_0);(try clear hfz5_1)
   obtain ⟨x3_1,rfl,HA,HK1,BK241,HB⟩:=hrel
   cases gk with
   | zero=>exact absurd HA.out (by simp [spec_MapValid.l0])
   | succ k1 =>
    have H:=HA.out
    clear HA
    simp only [spec_MapValid.l0] at H
    by_cases c6:x3_1 < (l0_1.length:Int)
    ·rw [if_pos c6] at H
     have c6b0:decide (x3_1 < (l0_1.length:Int)) = true:=zO c6
     clear c6
     by_cases c7:0≤x3_1
     ·rw [if_pos c7] at H
      have c7b0:decide (0≤x3_1) = true:=zO c7
      clear c7
      by_cases c8:(rd l0_1 x3_1) = x3_1
      ·rw [if_pos c8] at H
       have c8b0:((rd l0_1 x3_1) == x3_1) = true:=beq_iff_eq.mpr c8
       have c8b1:((rd l0_1 x3_1) != x3_1) = false:=bne_eq_false_iff_eq.mpr c8
       clear c8
       obtain rfl:=zS H
       have hcz9_0:wr.cell? ⟨gb241,0,none⟩ = some (.slice A0_0 l0_0.length c0_0):=(zT BK241.out 0).trans rfl
       have hcz9_1:wr.cell? ⟨gb241,1,none⟩ = some (.slice A0_1 l0_1.length c0_1):=(zT BK241.out 1).trans rfl
       have hfz9_0:=zZ BK241.out 0
       have hfz9_1:=zZ BK241.out 1
       have p243:0≤(x3_1:Int):=zE (by with_reducible assumption)
       have q243:x3_1 < (l0_1.length:Int):=zE (by with_reducible assumption)
       obtain ⟨ad243,e243,hx243_0⟩:=Kd.at_int HR0_1.out x3_1 p243 q243
       cases e243
       replace hx243_0:=(HB.out.cell (zY w _ hx243_0)).trans hx243_0
       replace p243:=eq_true p243
       replace q243:=eq_true q243
       go_wp2
       repeat (go_quiet (fail);try go_wp2)
       go_ret
       exact ⟨by first|rfl|(simp [errW_none,errW_some] <;> rfl)|(simp [*,errW_none,errW_some] <;> rfl),by repeat (first|(with_reducible first|exact HB.out|apply zD|apply zB|apply zC|refine zF ?_ GE241.out)|exact HB.out)⟩
      ·rw [if_neg c8] at H
       have c8b0:((rd l0_1 x3_1) == x3_1) = false:=beq_eq_false_iff_ne.mpr c8
       have c8b1:((rd l0_1 x3_1) != x3_1) = true:=bne_iff_ne.mpr c8
       by_cases c10:0≤(rd l0_1 x3_1)
       ·rw [if_pos c10] at H
        have c10b0:decide (0≤(rd l0_1 x3_1)) = true:=zO c10
        clear c10
        by_cases c11:(rd l0_1 x3_1) < (l0_1.length:Int)
        ·rw [if_pos c11] at H
         have c11b0:decide ((rd l0_1 x3_1) < (l0_1.length:Int)) = true:=zO c11
         clear c11
         by_cases c12:(rd l0_1 (rd l0_1 x3_1)) = x3_1
         ·rw [if_pos c12] at H
          have c12b0:((rd l0_1 (rd l0_1 x3_1)) == x3_1) = true:=beq_iff_eq.mpr c12
          have c12b1:((rd l0_1 (rd l0_1 x3_1)) != x3_1) = false:=bne_eq_false_iff_eq.mpr c12
          clear c12
          have H':=zA H
          clear H
          have hcz13_0:wr.cell? ⟨gb241,0,none⟩ = some (.slice A0_0 l0_0.length c0_0):=(zT BK241.out 0).trans rfl
          have hcz13_1:wr.cell? ⟨gb241,1,none⟩ = some (.slice A0_1 l0_1.length c0_1):=(zT BK241.out 1).trans rfl
          have hfz13_0:=zZ BK241.out 0
          have hfz13_1:=zZ BK241.out 1
          have p243:0≤(x3_1:Int):=zE (by with_reducible assumption)
          have q243:x3_1 < (l0_1.length:Int):=zE (by with_reducible assumption)
          obtain ⟨ad243,e243,hx243_0⟩:=Kd.at_int HR0_1.out x3_1 p243 q243
          cases e243
          replace hx243_0:=(HB.out.cell (zY w _ hx243_0)).trans hx243_0
          replace p243:=eq_true p243
          replace q243:=eq_true q243
          have p244:0≤(x3_1:Int):=zE (by with_reducible assumption)
          have q244:x3_1 < (l0_1.length:Int):=zE (by with_reducible assumption)
          obtain ⟨ad244,e244,hx244_0⟩:=Kd.at_int HR0_1.out x3_1 p244 q244
          obtain rfl:ad243 = ad244:=(by injection e244)
          replace hx244_0:=(HB.out.cell (zY w _ hx244_0)).trans hx244_0
          replace p244:=eq_true p244
          replace q244:=eq_true q244
          have p245:0≤((rd l0_1 x3_1):Int):=zE (by with_reducible assumption)
          have q245:(rd l0_1 x3_1) < (l0_1.length:Int):=zE (by with_reducible assumption)
          obtain ⟨ad245,e245,hx245_0⟩:=Kd.at_int HR0_1.out (rd l0_1 x3_1) p245 q245
          obtain rfl:ad243 = ad245:=(by injection e245)
          replace hx245_0:=(HB.out.cell (zY w _ hx245_0)).trans hx245_0
          replace p245:=eq_true p245
          replace q245:=eq_true q245
          go_wp2
          repeat (go_quiet (fail);try go_wp2)
          go_roundg k1
          case measure=>have:=HK1.out;omega
          case rel=>exact ⟨(wrap64 (x3_1+1)),(by first|rfl|(simp;done)|(simp [*];done)),H',⟨by have:=HK1.out;omega⟩,⟨by (with_reducible repeat (first|refine zG ?_ _|refine zI ?_|refine zH ?_ _));exact BK241.out⟩,⟨by repeat (first|(with_reducible first|exact HB.out|apply zD|apply zB|apply zC|refine zF ?_ GE241.out)|exact HB.out)⟩⟩
         ·rw [if_neg c12] at H
          have c12b0:((rd l0_1 (rd l0_1 x3_1)) == x3_1) = false:=beq_eq_false_iff_ne.mpr c12
          have c12b1:((rd l0_1 (rd l0_1 x3_1)) != x3_1) = true:=bne_iff_ne.mpr c12
          obtain rfl:=zS H
          have hcz14_0:wr.cell? ⟨gb241,0,none⟩ = some (.slice A0_0 l0_0.length c0_0):=(zT BK241.out 0).trans rfl
          have hcz14_1:wr.cell? ⟨gb241,1,none⟩ = some (.slice A0_1 l0_1.length c0_1):=(zT BK241.out 1).trans rfl
          have hfz14_0:=zZ BK241.out 0
          have hfz14_1:=zZ BK241.out 1
          have p243:0≤(x3_1:Int):=zE (by with_reducible assumption)
          have q243:x3_1 < (l0_1.length:Int):=zE (by with_reducible assumption)
          obtain ⟨ad243,e243,hx243_0⟩:=Kd.at_int HR0_1.out x3_1 p243 q243
          cases e243
          replace hx243_0:=(HB.out.cell (zY w _ hx243_0)).trans hx243_0
          replace p243:=eq_true p243
          replace q243:=eq_true q243
          have p244:0≤(x3_1:Int):=zE (by with_reducible assumption)
          have q244:x3_1 < (l0_1.length:Int):=zE (by with_reducible assumption)
          obtain ⟨ad244,e244,hx244_0⟩:=Kd.at_int HR0_1.out x3_1 p244 q244
          obtain rfl:ad243 = ad244:=(by injection e244)
          replace hx244_0:=(HB.out.cell (zY w _ hx244_0)).trans hx244_0
          replace p244:=eq_true p244
          replace q244:=eq_true q244
          have p245:0≤((rd l0_1 x3_1):Int):=zE (by with_reducible assumption)
          have q245:(rd l0_1 x3_1) < (l0_1.length:Int):=zE (by with_reducible assumption)
          obtain ⟨ad245,e245,hx245_0⟩:=Kd.at_int HR0_1.out (rd l0_1 x3_1) p245 q245
          obtain rfl:ad243 = ad245:=(by injection e245)
          replace hx245_0:=(HB.out.cell (zY w _ hx245_0)).trans hx245_0
          replace p245:=eq_true p245
          replace q245:=eq_true q245
          go_wp2
          repeat (go_quiet (fail);try go_wp2)
          go_ret
          exact ⟨by first|rfl|(simp [errW_none,errW_some] <;> rfl)|(simp [*,errW_none,errW_some] <;> rfl),by repeat (first|(with_reducible first|exact HB.out|apply zD|apply zB|apply zC|refine zF ?_ GE241.out)|exact HB.out)⟩
        ·rw [if_neg c11] at H
         exact absurd H (by simp)
       ·rw [if_neg c10] at H
        exact absurd H (by simp)
     ·rw [if_neg c7] at H
      exact absurd H (by simp)
    ·rw [if_neg c6] at H
     have c6b0:decide (x3_1 < (l0_1.length:Int)) = false:=zP c6
     clear c6
     replace H:=zz0 H
     obtain ⟨t246,A150,H⟩:=H
     try dsimp only at H
     have A15:=zA A150
     clear A150
     have H':=zA H
     clear H
     have hcz16_0:wr.cell? ⟨gb241,0,none⟩ = some (.slice A0_0 l0_0.length c0_0):=(zT BK241.out 0).trans rfl
     have hcz16_1:wr.cell? ⟨gb241,1,none⟩ = some (.slice A0_1 l0_1.length c0_1):=(zT BK241.out 1).trans rfl
     have hfz16_0:=zZ BK241.out 0
     have hfz16_1:=zZ BK241.out 1
     go_wp2_with (first|(go_at_call 98;(with_reducible refine (spec_l1Orbits.calls k1 _ _ l0_0 _ _ l0_1 t246 _ ?side1 ?side2 ?side3 ?side4 A15.out).mono ?_);(case side1=>repeat (first|exact (zW HR0_0.out HB.out)|(with_reducible exact HR0_0.out)|apply zC_));(case side2=>exact HC0_0.out);(case side3=>repeat (first|exact (zW HR0_1.out HB.out)|(with_reducible exact HR0_1.out)|apply zC_));(case side4=>exact HC0_1.out);rintro e w17 ⟨v247,rfl,ho0,hb⟩;have n0_:=zA (ze ho0 (zQ (by repeat (first|(with_reducible first|exact HB.out|apply zD|apply zB|apply zC|refine zF ?_ GE241.out)|exact HB.out))));have n1_:=zA (zX (g:=gb241) (o:=.cells #[.slice A0_0 l0_0.length c0_0,.slice A0_1 l0_1.length c0_1] 27 (0,0)) (by (with_reducible repeat (first|refine zG ?_ _|refine zI ?_|refine zH ?_ _));exact BK241.out) hb);have n2_:=zA (zR (by repeat (first|(with_reducible first|exact HB.out|apply zD|apply zB|apply zC|refine zF ?_ GE241.out)|exact HB.out)) hb);clear BK241;clear HB;have HO248:=n0_;have BK241:=n1_;have HB:=n2_;clear n0_ n1_ n2_;(try clear hb);(try clear hb2);(try clear hk);(try clear hi);(try clear ho0)))
     repeat (go_quiet (fail);try go_wp2_with (first|(go_at_call 98;(with_reducible refine (spec_l1Orbits.calls k1 _ _ l0_0 _ _ l0_1 t246 _ ?side1 ?side2 ?side3 ?side4 A15.out).mono ?_);(case side1=>repeat (first|exact (zW HR0_0.out HB.out)|(with_reducible exact HR0_0.out)|apply zC_));(case side2=>exact HC0_0.out);(case side3=>repeat (first|exact (zW HR0_1.out HB.out)|(with_reducible exact HR0_1.out)|apply zC_));(case side4=>exact HC0_1.out);rintro e w17 ⟨v247,rfl,ho0,hb⟩;have n0_:=zA (ze ho0 (zQ (by repeat (first|(with_reducible first|exact HB.out|apply zD|apply zB|apply zC|refine zF ?_ GE241.out)|exact HB.out))));have n1_:=zA (zX (g:=gb241) (o:=.cells #[.slice A0_0 l0_0.length c0_0,.slice A0_1 l0_1.length c0_1] 27 (0,0)) (by (with_reducible repeat (first|refine zG ?_ _|refine zI ?_|refine zH ?_ _));exact BK241.out) hb);have n2_:=zA (zR (by repeat (first|(with_reducible first|exact HB.out|apply zD|apply zB|apply zC|refine zF ?_ GE241.out)|exact HB.out)) hb);clear BK241;clear HB;have HO248:=n0_;have BK241:=n1_;have HB:=n2_;clear n0_ n1_ n2_;(try clear hb);(try clear hb2);(try clear hk);(try clear hi);(try clear ho0))))
     go_loopg [5] k1 (fun kq v5 w' => ∃ (x5_2:Int),v5 = .int .i64 x5_2∧Aside0 (spec_MapValid.l1 kq t246 x5_2 = some r)∧Aside0 (kq≤k1)∧Aside0 (Kd.R (Kd.int .i64) 3 w' w.heap.size (fun _=>True) v247 t246)∧Aside0 (w'.heap[gb241]? = some (.cells #[(.slice A0_0 l0_0.length c0_0),(.slice A0_1 l0_1.length c0_1)] 27 (0,0)))∧Aside0 (Below w.heap.size w w'))
     case atStart=>exact ⟨(0),(by first|rfl|(simp;done)|(simp [*];done)),H',⟨Nat.le_refl _⟩,⟨by apply zR_;exact HO248.out⟩,⟨by (with_reducible repeat (first|refine zG ?_ _|refine zI ?_|refine zH ?_ _));exact BK241.out⟩,⟨by repeat (first|(with_reducible first|exact HB.out|apply zD|apply zB|apply zC|refine zF ?_ GE241.out)|exact HB.out)⟩⟩
     case round =>
      clear H'
      (try clear c1);(try clear p2);(try clear q2);(try clear hx2);(try clear c3);(try clear c6);(try clear c6b0);(try clear p6);(try clear c7);(try clear c7b0);(try clear c8);(try clear c8b0);(try clear c8b1);(try clear c10);(try clear c10b0);(try clear c11);(try clear c11b0);(try clear c12);(try clear c12b0);(try clear c12b1);(try clear hcz13_0);(try clear hcz13_1);(try clear hcz14_0);(try clear hcz14_1);(try clear hcz16_0);(try clear hcz16_1);(try clear hcz5_0);(try clear hcz5_1);(try clear hcz9_0);(try clear hcz9_1);(try clear hfz13_0);(try clear hfz13_1);(try clear hfz14_0);(try clear hfz14_1);(try clear hfz16_0);(try clear hfz16_1);(try clear hfz5_0);(try clear hfz5_1);(try clear hfz9_0);(try clear hfz9_1);(try clear hx243_0);(try clear hx244_0);(try clear hx245_0);(try clear p2);(try clear p243);(try clear p244);(try clear p245);(try clear q243);(try clear q244);(try clear q245)
      obtain ⟨x5_2,rfl,HA,HK2,HO_4,BK241,HB⟩:=hrel
      cases gk with
      | zero=>exact absurd HA.out (by simp [spec_MapValid.l1])
      | succ k2 =>
       have H:=HA.out
       clear HA
       simp only [spec_MapValid.l1] at H
       by_cases c18:x5_2 < (t246.length:Int)
       ·rw [if_pos c18] at H
        have c18b0:decide (x5_2 < (t246.length:Int)) = true:=zO c18
        clear c18
        by_cases c19:0≤x5_2
        ·rw [if_pos c19] at H
         have c19b0:decide (0≤x5_2) = true:=zO c19
         clear c19
         by_cases c20:(rd t246 x5_2) = 0
         ·rw [if_pos c20] at H
          have c20b0:((rd t246 x5_2) == 0) = true:=beq_iff_eq.mpr c20
          have c20b1:((rd t246 x5_2) != 0) = false:=bne_eq_false_iff_eq.mpr c20
          clear c20
          have H':=zA H
          clear H
          obtain ⟨Ao21,co21,eo21⟩:=zg HO_4.out
          subst eo21
          have p249:0≤(x5_2:Int):=zE (by with_reducible assumption)
          have q249:x5_2 < (t246.length:Int):=zE (by with_reducible assumption)
          obtain ⟨ad249,e249,hx249_0⟩:=Kd.at_int (zU HO_4.out).2.2 x5_2 p249 q249
          cases e249
          replace p249:=eq_true p249
          replace q249:=eq_true q249
          go_wp2
          repeat (go_quiet (fail);try go_wp2)
          go_roundg k2
          case measure=>have:=HK1.out;have:=HK2.out;omega
          case rel=>exact ⟨(wrap64 (x5_2+1)),(by first|rfl|(simp;done)|(simp [*];done)),H',⟨by have:=HK1.out;have:=HK2.out;omega⟩,⟨by apply zR_;exact HO_4.out⟩,⟨by (with_reducible repeat (first|refine zG ?_ _|refine zI ?_|refine zH ?_ _));exact BK241.out⟩,⟨by repeat (first|(with_reducible first|exact HB.out|apply zD|apply zB|apply zC|refine zF ?_ GE241.out)|exact HB.out)⟩⟩
         ·rw [if_neg c20] at H
          have c20b0:((rd t246 x5_2) == 0) = false:=beq_eq_false_iff_ne.mpr c20
          have c20b1:((rd t246 x5_2) != 0) = true:=bne_iff_ne.mpr c20
          obtain rfl:=zS H
          obtain ⟨Ao22,co22,eo22⟩:=zg HO_4.out
          subst eo22
          have p249:0≤(x5_2:Int):=zE (by with_reducible assumption)
          have q249:x5_2 < (t246.length:Int):=zE (by with_reducible assumption)
          obtain ⟨ad249,e249,hx249_0⟩:=Kd.at_int (zU HO_4.out).2.2 x5_2 p249 q249
          cases e249
          replace p249:=eq_true p249
          replace q249:=eq_true q249
          go_wp2
          repeat (go_quiet (fail);try go_wp2)
          go_ret
          exact ⟨by first|rfl|(simp [errW_none,errW_some] <;> rfl)|(simp [*,errW_none,errW_some] <;> rfl),by repeat (first|(with_reducible first|exact HB.out|apply zD|apply zB|apply zC|refine zF ?_ GE241.out)|exact HB.out)⟩
        ·rw [if_neg c19] at H
         exact absurd H (by simp)
       ·rw [if_neg c18] at H
        have c18b0:decide (x5_2 < (t246.length:Int)) = false:=zP c18
        clear c18
        obtain rfl:=zS H
        obtain ⟨Ao23,co23,eo23⟩:=zg HO_4.out
        subst eo23
        go_wp2
        repeat (go_quiet (fail);try go_wp2)
        go_ret
        exact ⟨by first|rfl|(simp [errW_none,errW_some] <;> rfl)|(simp [*,errW_none,errW_some] <;> rfl),by repeat (first|(with_reducible first|exact HB.out|apply zD|apply zB|apply zC|refine zF ?_ GE241.out)|exact HB.out)⟩
 ·replace c3:=Bool.eq_false_iff.mpr c3
  subst c3
  have H1:(some false) = some r:=by rw [if_neg (show ¬ (false = true) by decide)] at H;exact H
  clear H
  have H:=H1
  clear H1
  obtain rfl:=zS H
  go_enter Try.func34,Try.ntmps34
  go_wp2_with (first|((with_reducible refine gate_dst (N:=1) rfl ?_);refine box_event ?hg (N:=1) ?hd (cs:=#[.slice A0_0 l0_0.length c0_0,.slice A0_1 l0_1.length c0_1]) (t:=27) ?hr ?_;(case hd=>rfl);(case hg=>rfl);(case hr=>first|(go_simp;done)|(go_simp;rfl));intro gb241 hg w24 hbox hb;have n0_:=zA (zR (by exact zB_ HB.out) hb);have n1_:=zA (hbox);have n2_:=zA ((by rw [hg];exact (zQ (by exact zB_ HB.out)):w.heap.size≤gb241));have n3_:=zA ((by rw [hg];exact (zQ (by exact zB_ HB.out)):w.heap.size≤gb241));clear HB;have HB:=n0_;have BK241:=n1_;have GW241:=n2_;have GE241:=n3_;clear n0_ n1_ n2_ n3_;clear hb hbox hg;have hcz25_0:w24.cell? ⟨gb241,0,none⟩ = some (.slice A0_0 l0_0.length c0_0):=(zT BK241.out 0).trans rfl;have hcz25_1:w24.cell? ⟨gb241,1,none⟩ = some (.slice A0_1 l0_1.length c0_1):=(zT BK241.out 1).trans rfl;have hfz25_0:=zZ BK241.out 0;have hfz25_1:=zZ BK241.out 1)|(go_at_call 97;(with_reducible refine (spec_l1Both.calls k _ _ l0_0 _ _ l0_1 false _ ?side1 ?side2 ?side3 ?side4 A2.out).mono ?_);(case side1=>repeat (first|exact (zW HR0_0.out HB.out)|(with_reducible exact HR0_0.out)|apply zC_));(case side2=>exact HC0_0.out);(case side3=>repeat (first|exact (zW HR0_1.out HB.out)|(with_reducible exact HR0_1.out)|apply zC_));(case side4=>exact HC0_1.out);rintro e w' ⟨rfl,⟨nd,rfl⟩⟩;(try first|exact ⟨rfl,_,World.drewN_drewN _ _ _⟩|exact ⟨rfl,_,Eq.trans (World.drewN_drewN _ _ _) (congrArg (World.drewN _) (Nat.add_assoc _ _ _))⟩)))
  repeat (go_quiet (fail);try go_wp2_with (first|((with_reducible refine gate_dst (N:=1) rfl ?_);refine box_event ?hg (N:=1) ?hd (cs:=#[.slice A0_0 l0_0.length c0_0,.slice A0_1 l0_1.length c0_1]) (t:=27) ?hr ?_;(case hd=>rfl);(case hg=>rfl);(case hr=>first|(go_simp;done)|(go_simp;rfl));intro gb241 hg w24 hbox hb;have n0_:=zA (zR (by exact zB_ HB.out) hb);have n1_:=zA (hbox);have n2_:=zA ((by rw [hg];exact (zQ (by exact zB_ HB.out)):w.heap.size≤gb241));have n3_:=zA ((by rw [hg];exact (zQ (by exact zB_ HB.out)):w.heap.size≤gb241));clear HB;have HB:=n0_;have BK241:=n1_;have GW241:=n2_;have GE241:=n3_;clear n0_ n1_ n2_ n3_;clear hb hbox hg;have hcz25_0:w24.cell? ⟨gb241,0,none⟩ = some (.slice A0_0 l0_0.length c0_0):=(zT BK241.out 0).trans rfl;have hcz25_1:w24.cell? ⟨gb241,1,none⟩ = some (.slice A0_1 l0_1.length c0_1):=(zT BK241.out 1).trans rfl;have hfz25_0:=zZ BK241.out 0;have hfz25_1:=zZ BK241.out 1)|(go_at_call 97;(with_reducible refine (spec_l1Both.calls k _ _ l0_0 _ _ l0_1 false _ ?side1 ?side2 ?side3 ?side4 A2.out).mono ?_);(case side1=>repeat (first|exact (zW HR0_0.out HB.out)|(with_reducible exact HR0_0.out)|apply zC_));(case side2=>exact HC0_0.out);(case side3=>repeat (first|exact (zW HR0_1.out HB.out)|(with_reducible exact HR0_1.out)|apply zC_));(case side4=>exact HC0_1.out);rintro e w' ⟨rfl,⟨nd,rfl⟩⟩;(try first|exact ⟨rfl,_,World.drewN_drewN _ _ _⟩|exact ⟨rfl,_,Eq.trans (World.drewN_drewN _ _ _) (congrArg (World.drewN _) (Nat.add_assoc _ _ _))⟩))))
  go_ret
  exact ⟨by first|rfl|(simp [errW_none,errW_some] <;> rfl)|(simp [*,errW_none,errW_some] <;> rfl),by repeat (first|(with_reducible first|exact HB.out|apply zD|apply zB|apply zC|refine zF ?_ GE241.out)|exact HB.out)⟩

/-! ### spec_l2Dart: function 108 -/
def spec_l2Dart.f (k:Nat) (l0_0:List Int) (l0_1:List Int) (a1:Int):Option (Bool):=(spec_MapValid.f k l0_0 l0_1).bind fun t251=>(if t251 = true then ((spec_l6In.f a1 0 (wrap64 ((l0_0.length:Int) - 1))).bind fun t252=>(some t252)) else (some false))
theorem spec_l2Dart.mono:∀ a0 a1 a2 k,LeO (spec_l2Dart.f k a0 a1 a2) (spec_l2Dart.f (k+1) a0 a1 a2):=by
 intro a0 a1 a2 k
 unfold spec_l2Dart.f
 repeat' first
   | (with_reducible exact spec_MapValid.mono _ _ _)
   | (with_reducible exact LeO.refl _)
   | (with_reducible exact za _)
   | (with_reducible refine zc ?_ ?_)
   | (with_reducible refine zb ?_ (fun _=>?_))
set_option maxHeartbeats 8000000 in
set_option maxRecDepth 100000 in
theorem spec_l2Dart.calls (k:Nat) (A0_0:Option Addr) (c0_0:Nat) (l0_0:List Int) (A0_1:Option Addr) (c0_1:Nat) (l0_1:List Int) (a1:Int) (r:Bool) (w:World) (hr0_0:Kd.C (Kd.int .i64) w A0_0 l0_0.length l0_0) (hc0_0:l0_0.length≤c0_0) (hr0_1:Kd.C (Kd.int .i64) w A0_1 l0_1.length l0_1) (hc0_1:l0_1.length≤c0_1) (h:spec_l2Dart.f k l0_0 l0_1 a1 = some r) :
  Calls Try.prog 108 #[.agg #[.slice A0_0 l0_0.length c0_0,.slice A0_1 l0_1.length c0_1],.int .i64 a1] w fun e w'=>e = .returned (.bool r)∧Below w.heap.size w w':=by
 have hu27:=Try.underlying27
 have HR0_0:=zA hr0_0
 have HC0_0:=zA hc0_0
 clear hr0_0 hc0_0
 have HR0_1:=zA hr0_1
 have HC0_1:=zA hc0_1
 clear hr0_1 hc0_1
 have HB:=zA (Below.refl w.heap.size w)
 have H:((spec_MapValid.f k l0_0 l0_1).bind fun t251=>(if t251 = true then ((spec_l6In.f a1 0 (wrap64 ((l0_0.length:Int) - 1))).bind fun t252=>(some t252)) else (some false))) = some r:=h
 clear h
 replace H:=zz0 H
 obtain ⟨t251,A30,H⟩:=H
 try dsimp only at H
 have A3:=zA A30
 clear A30
 by_cases c4:t251 = true
 ·subst c4
  rw [if_pos rfl] at H;try dsimp only at H
  replace H:=zz0 H
  obtain ⟨t252,A50,H⟩:=H
  try dsimp only at H
  have A5:=zA A50
  clear A50
  obtain rfl:=zS H
  go_enter Try.func108,Try.ntmps108
  go_wp2_with (first|((with_reducible refine gate_dst (N:=2) rfl ?_);(try (refine gate_guard (by rfl) ?_;dsimp only));refine box_event ?hg (N:=2) ?hd (cs:=#[.slice A0_0 l0_0.length c0_0,.slice A0_1 l0_1.length c0_1]) (t:=27) ?hr ?_;(case hd=>rfl);(case hg=>rfl);(case hr=>first|(go_simp;done)|(go_simp;rfl));intro gb250 hg w6 hbox hb;have n0_:=zA (zR (by exact zB_ HB.out) hb);have n1_:=zA (hbox);have n2_:=zA ((by rw [hg];exact (zQ (by exact zB_ HB.out)):w.heap.size≤gb250));have n3_:=zA ((by rw [hg];exact (zQ (by exact zB_ HB.out)):w.heap.size≤gb250));clear HB;have HB:=n0_;have BK250:=n1_;have GW250:=n2_;have GE250:=n3_;clear n0_ n1_ n2_ n3_;clear hb hbox hg;have hcz7_0:w6.cell? ⟨gb250,0,none⟩ = some (.slice A0_0 l0_0.length c0_0):=(zT BK250.out 0).trans rfl;have hcz7_1:w6.cell? ⟨gb250,1,none⟩ = some (.slice A0_1 l0_1.length c0_1):=(zT BK250.out 1).trans rfl;have hfz7_0:=zZ BK250.out 0;have hfz7_1:=zZ BK250.out 1)|((with_reducible refine gate_callee (f:=34) rfl ?_);refine goesL_ (some 6) rfl rfl Try.func34 (by kernel_rfl) rfl #[.agg #[.slice A0_0 l0_0.length c0_0,.slice A0_1 l0_1.length c0_1]] rfl (by (try simp only [zJ,zM,zN]);first|done|rfl|(simp only [zL,zK];rfl)) ?_;(with_reducible refine (spec_MapValid.calls k _ _ l0_0 _ _ l0_1 true _ ?side1 ?side2 ?side3 ?side4 A3.out).mono ?_);(case side1=>repeat (first|exact (zW HR0_0.out HB.out)|(with_reducible exact HR0_0.out)|apply zC_));(case side2=>exact HC0_0.out);(case side3=>repeat (first|exact (zW HR0_1.out HB.out)|(with_reducible exact HR0_1.out)|apply zC_));(case side4=>exact HC0_1.out);rintro e w8 ⟨rfl,hb⟩;refine ⟨_,rfl,?_⟩;have n0_:=zA (zX (g:=gb250) (o:=.cells #[.slice A0_0 l0_0.length c0_0,.slice A0_1 l0_1.length c0_1] 27 (0,0)) (by (with_reducible repeat (first|refine zG ?_ _|refine zI ?_|refine zH ?_ _));exact BK250.out) hb);have n1_:=zA (zR (by repeat (first|(with_reducible first|exact HB.out|apply zD|apply zB|apply zC|refine zF ?_ GE250.out)|exact HB.out)) hb);clear BK250;clear HB;have BK250:=n0_;have HB:=n1_;clear n0_ n1_;(try clear hb);(try clear hb2);(try clear hk);(try clear hi);have hcz9_0:w8.cell? ⟨gb250,0,none⟩ = some (.slice A0_0 l0_0.length c0_0):=(zT BK250.out 0).trans rfl;have hcz9_1:w8.cell? ⟨gb250,1,none⟩ = some (.slice A0_1 l0_1.length c0_1):=(zT BK250.out 1).trans rfl;have hfz9_0:=zZ BK250.out 0;have hfz9_1:=zZ BK250.out 1)|(go_at_call 124;(with_reducible refine (spec_l6In.calls a1 0 (wrap64 ((l0_0.length:Int) - 1)) t252 _ A5.out).mono ?_);rintro e w' ⟨rfl,⟨nd,rfl⟩⟩))
  go_ret
  exact ⟨by first|rfl|(simp [errW_none,errW_some] <;> rfl)|(simp [*,errW_none,errW_some] <;> rfl),by repeat (first|(with_reducible first|exact HB.out|apply zD|apply zB|apply zC|refine zF ?_ GE250.out)|exact HB.out)⟩
 ·replace c4:=Bool.eq_false_iff.mpr c4
  subst c4
  have H1:(some false) = some r:=by rw [if_neg (show ¬ (false = true) by decide)] at H;exact H
  clear H
  have H:=H1
  clear H1
  obtain rfl:=zS H
  go_enter Try.func108,Try.ntmps108
  go_wp2_with (first|((with_reducible refine gate_dst (N:=2) rfl ?_);(try (refine gate_guard (by rfl) ?_;dsimp only));refine box_event ?hg (N:=2) ?hd (cs:=#[.slice A0_0 l0_0.length c0_0,.slice A0_1 l0_1.length c0_1]) (t:=27) ?hr ?_;(case hd=>rfl);(case hg=>rfl);(case hr=>first|(go_simp;done)|(go_simp;rfl));intro gb250 hg w10 hbox hb;have n0_:=zA (zR (by exact zB_ HB.out) hb);have n1_:=zA (hbox);have n2_:=zA ((by rw [hg];exact (zQ (by exact zB_ HB.out)):w.heap.size≤gb250));have n3_:=zA ((by rw [hg];exact (zQ (by exact zB_ HB.out)):w.heap.size≤gb250));clear HB;have HB:=n0_;have BK250:=n1_;have GW250:=n2_;have GE250:=n3_;clear n0_ n1_ n2_ n3_;clear hb hbox hg;have hcz11_0:w10.cell? ⟨gb250,0,none⟩ = some (.slice A0_0 l0_0.length c0_0):=(zT BK250.out 0).trans rfl;have hcz11_1:w10.cell? ⟨gb250,1,none⟩ = some (.slice A0_1 l0_1.length c0_1):=(zT BK250.out 1).trans rfl;have hfz11_0:=zZ BK250.out 0;have hfz11_1:=zZ BK250.out 1)|((with_reducible refine gate_callee (f:=34) rfl ?_);refine goesL_ (some 6) rfl rfl Try.func34 (by kernel_rfl) rfl #[.agg #[.slice A0_0 l0_0.length c0_0,.slice A0_1 l0_1.length c0_1]] rfl (by (try simp only [zJ,zM,zN]);first|done|rfl|(simp only [zL,zK];rfl)) ?_;(with_reducible refine (spec_MapValid.calls k _ _ l0_0 _ _ l0_1 false _ ?side1 ?side2 ?side3 ?side4 A3.out).mono ?_);(case side1=>repeat (first|exact (zW HR0_0.out HB.out)|(with_reducible exact HR0_0.out)|apply zC_));(case side2=>exact HC0_0.out);(case side3=>repeat (first|exact (zW HR0_1.out HB.out)|(with_reducible exact HR0_1.out)|apply zC_));(case side4=>exact HC0_1.out);rintro e w12 ⟨rfl,hb⟩;refine ⟨_,rfl,?_⟩;have n0_:=zA (zX (g:=gb250) (o:=.cells #[.slice A0_0 l0_0.length c0_0,.slice A0_1 l0_1.length c0_1] 27 (0,0)) (by (with_reducible repeat (first|refine zG ?_ _|refine zI ?_|refine zH ?_ _));exact BK250.out) hb);have n1_:=zA (zR (by repeat (first|(with_reducible first|exact HB.out|apply zD|apply zB|apply zC|refine zF ?_ GE250.out)|exact HB.out)) hb);clear BK250;clear HB;have BK250:=n0_;have HB:=n1_;clear n0_ n1_;(try clear hb);(try clear hb2);(try clear hk);(try clear hi)))
  go_ret
  exact ⟨by first|rfl|(simp [errW_none,errW_some] <;> rfl)|(simp [*,errW_none,errW_some] <;> rfl),by repeat (first|(with_reducible first|exact HB.out|apply zD|apply zB|apply zC|refine zF ?_ GE250.out)|exact HB.out)⟩

/-! ### spec_l1Cycles: function 83 -/
mutual
def spec_l1Cycles.l0:Nat→List Int→List (List Int)→List Bool→Int→Option ((List (List Int)))
 | 0,_,_,_,_=>none
 | k+1,x0,x3,x4,x5=>if x5 < (x0.length:Int) then (if 0≤x5 then (if x5 < (x4.length:Int) then (if rdOf false x4 x5 = true then (spec_l1Cycles.l0 k x0 x3 x4 (wrap64 (x5+1))) else (spec_l1Cycles.l1 k x0 x3 x4 x5 (([]:List Int)) x5)) else (none)) else (none)) else (some x3)
def spec_l1Cycles.l1:Nat→List Int→List (List Int)→List Bool→Int→List Int→Int→Option ((List (List Int)))
 | 0,_,_,_,_,_,_=>none
 | k+1,x0,x3,x4,x5,x6,x7=>if 0≤x7 then (if x7 < (x4.length:Int) then (if rdOf false x4 x7 = true then (if x3.length < 5864062014805 then (spec_l1Cycles.l0 k x0 (x3 ++ [x6]) x4 (wrap64 (x5+1))) else (none)) else (if x6.length < 17592186044416 then (if x7 < (x0.length:Int) then (spec_l1Cycles.l1 k x0 x3 (x4.set (x7:Int).toNat true) x5 (x6 ++ [x7]) (rd x0 x7)) else (none)) else (none))) else (none)) else (none)
end
def spec_l1Cycles.f (k:Nat) (l0:List Int):Option ((List (List Int))):=if 0≤(l0.length:Int) then (if ((l0.length:Int):Int).toNat≤281474976710656 then (spec_l1Cycles.l0 k l0 (([]:List (List Int))) (List.replicate ((l0.length:Int):Int).toNat false) 0) else (none)) else (none)
theorem spec_l1Cycles.mono_l:∀ k,(∀ y0 y1 y2 y3,LeO (spec_l1Cycles.l0 k y0 y1 y2 y3) (spec_l1Cycles.l0 (k+1) y0 y1 y2 y3))∧(∀ y0 y1 y2 y3 y4 y5,LeO (spec_l1Cycles.l1 k y0 y1 y2 y3 y4 y5) (spec_l1Cycles.l1 (k+1) y0 y1 y2 y3 y4 y5))
 | 0=>⟨fun _ _ _ _ r h=>by simp [spec_l1Cycles.l0] at h,fun _ _ _ _ _ _ r h=>by simp [spec_l1Cycles.l1] at h⟩
 | k+1=>by
  obtain ⟨ih0,ih1⟩:=spec_l1Cycles.mono_l k
  refine ⟨?_,?_⟩
  ·intro y0 y1 y2 y3
   unfold spec_l1Cycles.l0
   repeat' first
   | (with_reducible exact ih0 _ _ _ _)
   | (with_reducible exact ih1 _ _ _ _ _ _)
   | (with_reducible exact LeO.refl _)
   | (with_reducible exact za _)
   | (with_reducible refine zc ?_ ?_)
   | (with_reducible refine zb ?_ (fun _=>?_))
  ·intro y0 y1 y2 y3 y4 y5
   unfold spec_l1Cycles.l1
   repeat' first
   | (with_reducible exact ih0 _ _ _ _)
   | (with_reducible exact ih1 _ _ _ _ _ _)
   | (with_reducible exact LeO.refl _)
   | (with_reducible exact za _)
   | (with_reducible refine zc ?_ ?_)
   | (with_reducible refine zb ?_ (fun _=>?_))
theorem spec_l1Cycles.mono:∀ a0 k,LeO (spec_l1Cycles.f k a0) (spec_l1Cycles.f (k+1) a0):=by
 intro a0 k
 obtain ⟨ih0,ih1⟩:=spec_l1Cycles.mono_l k
 unfold spec_l1Cycles.f
 repeat' first
   | (with_reducible exact ih0 _ _ _ _)
   | (with_reducible exact ih1 _ _ _ _ _ _)
   | (with_reducible exact LeO.refl _)
   | (with_reducible exact za _)
   | (with_reducible refine zc ?_ ?_)
   | (with_reducible refine zb ?_ (fun _=>?_))
set_option maxHeartbeats 8000000 in
set_option maxRecDepth 100000 in
theorem spec_l1Cycles.calls (k:Nat) (A0:Option Addr) (c0:Nat) (l0:List Int) (r:List (List Int)) (w:World) (hr0:Kd.C (Kd.int .i64) w A0 l0.length l0) (hc0:l0.length≤c0) (h:spec_l1Cycles.f k l0 = some r) :
  Calls Try.prog 83 #[.slice A0 l0.length c0] w fun e w' => ∃ v0_:Value,e = .returned (v0_)∧Kd.S (Kd.slice 3 (Kd.int .i64)) 23 w' w.heap.size (fun _=>True) v0_ r∧Below w.heap.size w w':=by
 have HR0:=zA hr0
 have HC0:=zA hc0
 clear hr0 hc0
 have HB:=zA (Below.refl w.heap.size w)
 have H:(if 0≤(l0.length:Int) then (if ((l0.length:Int):Int).toNat≤281474976710656 then (spec_l1Cycles.l0 k l0 (([]:List (List Int))) (List.replicate ((l0.length:Int):Int).toNat false) 0) else (none)) else (none)) = some r:=h
 clear h
 obtain ⟨y253,hy253⟩:∃ y_:List (List Int),y_ = (([]:List (List Int))):=⟨_,rfl⟩
 replace H:(if 0≤(l0.length:Int) then (if ((l0.length:Int):Int).toNat≤281474976710656 then (spec_l1Cycles.l0 k l0 y253 (List.replicate ((l0.length:Int):Int).toNat false) 0) else (none)) else (none)) = some r:=by (try rw [hy253]);first|with_reducible exact H|with_reducible exact zS_ H|exact H
 have Ny253:=zA hy253
 clear hy253
 by_cases c2:0≤(l0.length:Int)
 ·rw [if_pos c2] at H
  have c2b0:=eq_true c2
  have c2b1:decide (0≤(l0.length:Int)) = true:=zO c2
  clear c2
  by_cases c3:((l0.length:Int):Int).toNat≤281474976710656
  ·rw [if_pos c3] at H
   have c3b0:=eq_true c3
   have c3b1:decide (((l0.length:Int):Int).toNat≤281474976710656) = true:=zO c3
   clear c3
   obtain ⟨y256,hy256⟩:∃ y_:List Bool,y_ = (List.replicate ((l0.length:Int):Int).toNat false):=⟨_,rfl⟩
   replace H:(spec_l1Cycles.l0 k l0 y253 y256 0) = some r:=by (try rw [hy256]);first|with_reducible exact H|with_reducible exact zS_ H|exact H
   have Ny256:=zA hy256
   clear hy256
   have H':=zA H
   clear H
   go_enter Try.func83,Try.ntmps83
   go_wp2_with (first|((with_reducible refine gate_dst (N:=8) rfl ?_);refine Kd.S_lit (Kd.slice 3 (Kd.int .i64)) _ 23 ?hg (N:=8) ?hd (xs:=([]:List (List Int))) (inner:=[]) (ok:=fun _=>True) (okp:=fun _=>True) ?hr ?hp (fun _ hk=>hk) trivial (Below.refl _ _) (Nat.le_refl _) (by simp) ?_;(case hd=>rfl);(case hg=>rfl);(case hr=>first|(go_simp;done)|(go_simp;rfl));(case hp=>exact (Reps.none _ _));intro v254 w4 ho5 hb hg_ hnew_;clear hg_ hnew_;(first|rw [← Ny253.out] at ho5|(simp only [Int.reduceToNat] at ho5;rw [← Ny253.out] at ho5));have n0_:=zA (Kd.S_lower ho5 (zQ (by exact zB_ HB.out)));have n1_:=zA (zR (by exact zB_ HB.out) hb);clear HB;have HO255:=n0_;have HB:=n1_;clear n0_ n1_;clear hb ho5)|((with_reducible refine gate_dst (N:=11) rfl ?_);refine Kd.R_make Kd.bool _ 4 rfl (N:=11) rfl 85 _ _ rfl (l0.length:Int) rfl rfl Try.underlying85 (.bool false) 1 info4 rfl (by decide) (by omega) false (ok:=fun _=>True) (okp:=fun _=>True) rfl (fun _ hk=>hk) trivial (zE (by with_reducible assumption)) (Nat.le_trans (Nat.mul_le_mul_right _ (zE (by with_reducible assumption):(l0.length:Int).toNat≤281474976710656)) (by omega)) (Below.refl _ _) (Nat.le_refl _) ?_;intro v257 w6 ho7 hb hg_ hnew_;clear hg_ hnew_;(first|rw [← Ny256.out] at ho7|(simp only [Int.reduceToNat] at ho7;rw [← Ny256.out] at ho7));have n0_:=zA (Kd.S_below (by (with_reducible repeat (first|apply Kd.S_alloc|apply Kd.S_drewN|apply Kd.S_drew));exact HO255.out) hb);have n1_:=zA (ze ho7 (zQ (by exact zB_ HB.out)));have n2_:=zA (zR (by exact zB_ HB.out) hb);clear HO255;clear HB;have HO255:=n0_;have HO258:=n1_;have HB:=n2_;clear n0_ n1_ n2_;clear hb ho7))
   go_loopg [3,5] k (fun kq v3 v5 w' => ∃ (x3_1:List (List Int)) (x4_1:List Bool) (x5_1:Int),v5 = .int .i64 x5_1∧Aside0 (spec_l1Cycles.l0 kq l0 x3_1 x4_1 x5_1 = some r)∧Aside0 (kq≤k)∧Aside0 (Kd.S (Kd.slice 3 (Kd.int .i64)) 23 w' w.heap.size (fun _=>True) v3 x3_1)∧Aside0 (Kd.R Kd.bool 4 w' w.heap.size (fun _=>True) v257 x4_1)∧Aside0 (Below w.heap.size w w'))
   case atStart=>exact ⟨(y253),(y256),(0),(by first|rfl|(simp;done)|(simp [*];done)),H',⟨Nat.le_refl _⟩,⟨by (with_reducible repeat (first|apply Kd.S_alloc|apply Kd.S_drewN|apply Kd.S_drew));exact HO255.out⟩,⟨by apply zR_;exact HO258.out⟩,⟨by exact zB_ HB.out⟩⟩
   case round =>
    clear H'
    (try clear c2);(try clear c2b0);(try clear c2b1);(try clear p2);(try clear c3);(try clear c3b0);(try clear c3b1)
    obtain ⟨x3_1,x4_1,x5_1,rfl,HA,HK1,HO_3,HO_4,HB⟩:=hrel
    cases gk with
    | zero=>exact absurd HA.out (by simp [spec_l1Cycles.l0])
    | succ k1 =>
     have H:=HA.out
     clear HA
     simp only [spec_l1Cycles.l0] at H
     by_cases c8:x5_1 < (l0.length:Int)
     ·rw [if_pos c8] at H
      have c8b0:decide (x5_1 < (l0.length:Int)) = true:=zO c8
      clear c8
      by_cases c9:0≤x5_1
      ·rw [if_pos c9] at H
       have c9b0:decide (0≤x5_1) = true:=zO c9
       clear c9
       by_cases c10:x5_1 < (x4_1.length:Int)
       ·rw [if_pos c10] at H
        have c10b0:decide (x5_1 < (x4_1.length:Int)) = true:=zO c10
        clear c10
        obtain ⟨bq11,hbq11⟩:∃ b_:Bool,b_ = (rdOf false x4_1 x5_1):=⟨_,rfl⟩
        replace H:(if bq11 = true then (spec_l1Cycles.l0 k1 l0 x3_1 x4_1 (wrap64 (x5_1+1))) else (spec_l1Cycles.l1 k1 l0 x3_1 x4_1 x5_1 (([]:List Int)) x5_1)) = some r:=by rw [← hbq11] at H;exact H
        have Nbq11:=zA hbq11
        clear hbq11
        by_cases c12:bq11 = true
        ·subst c12
         rw [if_pos rfl] at H;try dsimp only at H
         have H':=zA H
         clear H
         obtain ⟨Ao13,co13,eo13⟩:=zg HO_4.out
         subst eo13
         have p259:0≤(x5_1:Int):=zE (by with_reducible assumption)
         have q259:x5_1 < (x4_1.length:Int):=zE (by with_reducible assumption)
         obtain ⟨ad259,e259,hx259_0⟩:=Kd.at_bool (zU HO_4.out).2.2 x5_1 p259 q259
         (try rw [← Nbq11.out] at hx259_0)
         cases e259
         replace p259:=eq_true p259
         replace q259:=eq_true q259
         go_wp2
         go_roundg k1
         case measure=>have:=HK1.out;omega
         case rel=>exact ⟨(x3_1),(x4_1),(wrap64 (x5_1+1)),(by first|rfl|(simp;done)|(simp [*];done)),H',⟨by have:=HK1.out;omega⟩,⟨by (with_reducible repeat (first|apply Kd.S_alloc|apply Kd.S_drewN|apply Kd.S_drew));exact HO_3.out⟩,⟨by apply zR_;exact HO_4.out⟩,⟨by exact zB_ HB.out⟩⟩
        ·replace c12:=Bool.eq_false_iff.mpr c12
         subst c12
         have H1:(spec_l1Cycles.l1 k1 l0 x3_1 x4_1 x5_1 (([]:List Int)) x5_1) = some r:=by rw [if_neg (show ¬ (false = true) by decide)] at H;exact H
         clear H
         have H:=H1
         clear H1
         obtain ⟨y260,hy260⟩:∃ y_:List Int,y_ = (([]:List Int)):=⟨_,rfl⟩
         replace H:(spec_l1Cycles.l1 k1 l0 x3_1 x4_1 x5_1 y260 x5_1) = some r:=by (try rw [hy260]);first|with_reducible exact H|with_reducible exact zS_ H|exact H
         have Ny260:=zA hy260
         clear hy260
         have H':=zA H
         clear H
         obtain ⟨Ao14,co14,eo14⟩:=zg HO_4.out
         subst eo14
         have p259:0≤(x5_1:Int):=zE (by with_reducible assumption)
         have q259:x5_1 < (x4_1.length:Int):=zE (by with_reducible assumption)
         obtain ⟨ad259,e259,hx259_0⟩:=Kd.at_bool (zU HO_4.out).2.2 x5_1 p259 q259
         (try rw [← Nbq11.out] at hx259_0)
         cases e259
         replace p259:=eq_true p259
         replace q259:=eq_true q259
         go_wp2_with (first|((with_reducible refine gate_dst (N:=22) rfl ?_);refine Kd.R_lit (Kd.int .i64) _ 3 ?hg (N:=22) ?hd (xs:=([]:List Int)) (inner:=[]) (ok:=fun _=>True) (okp:=fun _=>True) ?hr ?hp (fun _ hk=>hk) trivial (Below.refl _ _) (Nat.le_refl _) (by simp) ?_;(case hd=>rfl);(case hg=>rfl);(case hr=>first|(go_simp;done)|(go_simp;rfl));(case hp=>exact (Reps.none _ _));intro v261 w15 ho16 hb hg_ hnew_;clear hg_ hnew_;(first|rw [← Ny260.out] at ho16|(simp only [Int.reduceToNat] at ho16;rw [← Ny260.out] at ho16));have n0_:=zA (Kd.S_elder' (by (with_reducible repeat (first|apply Kd.S_alloc|apply Kd.S_drewN|apply Kd.S_drew));exact HO_3.out) (zd ho16) hb);have n1_:=zA (Kd.R_below (by apply zR_;exact HO_4.out) hb);have n2_:=zA (ze ho16 (zQ (by exact zB_ HB.out)));have n3_:=zA (zR (by exact zB_ HB.out) hb);clear HO_3;clear HO_4;clear HB;have HO_3:=n0_;have HO_4:=n1_;have HO262:=n2_;have HB:=n3_;clear n0_ n1_ n2_ n3_;clear hb ho16))
         generalize hq_:Addr.add _ _ = adq_
         clear hq_
         go_loopg [6,7] k1 (fun kq v6 v7 w' => ∃ (x4_2:List Bool) (x6_2:List Int) (x7_2:Int),v7 = .int .i64 x7_2∧Aside0 (spec_l1Cycles.l1 kq l0 x3_1 x4_2 x5_1 x6_2 x7_2 = some r)∧Aside0 (kq≤k1)∧Aside0 (Kd.S (Kd.slice 3 (Kd.int .i64)) 23 w' w.heap.size (fun k_=>some k_≠(v6:Value).ownBlock) u3 x3_1)∧Aside0 (Kd.R Kd.bool 4 w' w.heap.size (fun _=>True) (.slice (some ad259) x4_1.length co14) x4_2)∧Aside0 (Kd.R (Kd.int .i64) 3 w' w.heap.size (fun _=>True) v6 x6_2)∧Aside0 (Below w.heap.size w w'))
         case atStart=>exact ⟨(x4_1),(y260),(x5_1),(by first|rfl|(simp;done)|(simp [*];done)),H',⟨Nat.le_refl _⟩,⟨by (with_reducible repeat (first|apply Kd.S_alloc|apply Kd.S_drewN|apply Kd.S_drew));exact Kd.S_mono HO_3.out (fun _ hk=>hk.2)⟩,⟨by apply zR_;exact HO_4.out⟩,⟨by apply zR_;exact HO262.out⟩,⟨by exact zB_ HB.out⟩⟩
         case round =>
          clear H'
          (try clear c1);(try clear q1);(try clear c2);(try clear c2b0);(try clear c2b1);(try clear p2);(try clear q2);(try clear hx2);(try clear c3);(try clear c3b0);(try clear c3b1);(try clear p6);(try clear c8);(try clear c8b0);(try clear c9);(try clear c9b0);(try clear c10);(try clear c10b0);(try clear q11);(try clear c12);(try clear hx259_0);(try clear p2);(try clear p259);(try clear q259)
          obtain ⟨x4_2,x6_2,x7_2,rfl,HA,HK2,HO_3,HO_4,HO_6,HB⟩:=hrel
          have hl4_2:=(zU HO_4.out).1
          rw [hl4_2] at HO_4
          (try simp only [hl4_2])
          (try simp only [hl4_2] at HO_3)
          (try simp only [hl4_2] at HO_6)
          cases gk with
          | zero=>exact absurd HA.out (by simp [spec_l1Cycles.l1])
          | succ k2 =>
           have H:=HA.out
           clear HA
           simp only [spec_l1Cycles.l1] at H
           by_cases c17:0≤x7_2
           ·rw [if_pos c17] at H
            have c17b0:decide (0≤x7_2) = true:=zO c17
            clear c17
            by_cases c18:x7_2 < (x4_2.length:Int)
            ·rw [if_pos c18] at H
             have c18b0:decide (x7_2 < (x4_2.length:Int)) = true:=zO c18
             clear c18
             obtain ⟨bq19,hbq19⟩:∃ b_:Bool,b_ = (rdOf false x4_2 x7_2):=⟨_,rfl⟩
             replace H:(if bq19 = true then (if x3_1.length < 5864062014805 then (spec_l1Cycles.l0 k2 l0 (x3_1 ++ [x6_2]) x4_2 (wrap64 (x5_1+1))) else (none)) else (if x6_2.length < 17592186044416 then (if x7_2 < (l0.length:Int) then (spec_l1Cycles.l1 k2 l0 x3_1 (x4_2.set (x7_2:Int).toNat true) x5_1 (x6_2 ++ [x7_2]) (rd l0 x7_2)) else (none)) else (none))) = some r:=by rw [← hbq19] at H;exact H
             have Nbq19:=zA hbq19
             clear hbq19
             by_cases c20:bq19 = true
             ·subst c20
              rw [if_pos rfl] at H;try dsimp only at H
              by_cases c21:x3_1.length < 5864062014805
              ·rw [if_pos c21] at H
               have LMc21:=zA c21
               clear c21
               obtain ⟨y264,hy264⟩:∃ y_:List (List Int),y_ = (x3_1 ++ [x6_2]):=⟨_,rfl⟩
               replace H:(spec_l1Cycles.l0 k2 l0 y264 x4_2 (wrap64 (x5_1+1))) = some r:=by (try rw [hy264]);first|with_reducible exact H|with_reducible exact zS_ H|exact H
               have Ny264:=zA hy264
               clear hy264
               have H':=zA H
               clear H
               have p263:0≤(x7_2:Int):=zE (by with_reducible assumption)
               have q263:x7_2 < (x4_2.length:Int):=zE (by with_reducible assumption)
               obtain ⟨ad263,e263,hx263_0⟩:=Kd.at_bool (zU HO_4.out).2.2 x7_2 p263 q263
               (try rw [← Nbq11.out] at hx263_0)
               (try rw [← Nbq19.out] at hx263_0)
               obtain rfl:ad259 = ad263:=(by injection e263)
               replace p263:=eq_true p263
               replace q263:=eq_true q263
               obtain ⟨Ao23,co23,eo23⟩:=zg HO_6.out
               subst eo23
               go_wp2_with (first|((with_reducible refine gate_builtin (b:=.append) (xs:=#[.tmp 40,.tmp 42]) rfl ?_);at_builtin;refine Kd.S_append (Kd.slice 3 (Kd.int .i64)) (w0:=w) w.heap.size rfl (.tmp 40) (.tmp 42) 57 23 (.slice none 0 0) 24 rfl Try.underlying57 info23 rfl (by decide) (by omega) u3 x3_1 x6_2 [.slice Ao23 x6_2.length co23] (fun _=>True) (fun k_=>some k_ = (.slice Ao23 x6_2.length co23:Value).ownBlock) rfl rfl ?aP (fun k_ hk_=>((zV (ok':=fun k_=>((fun _=>True)) k_∧some k_≠(u3:Value).ownBlock) (Kd.R_apart' (HO_6.out) (Kd.S_typed HO_3.out) (by decide)) (fun k_ hk=>⟨trivial,hk.2⟩))).1 k_ hk_.symm) ?aF ?aO ?aB ?aS ?aL ?_;(case aP=>exact Kd.M_row (zV (Kd.R_tight rfl (zV (ok':=fun k_=>((fun _=>True)) k_∧some k_≠(u3:Value).ownBlock) (Kd.R_apart' (HO_6.out) (Kd.S_typed HO_3.out) (by decide)) (fun k_ hk=>⟨trivial,hk.2⟩))) (fun _ h_=>h_)));(case aB=>exact (by exact zB_ HB.out));(case aF=>exact (fun _ _=>trivial));(case aO=>exact (by (with_reducible repeat (first|apply Kd.S_alloc|apply Kd.S_drewN|apply Kd.S_drew));exact Kd.S_mono HO_3.out (fun k_ hk=>⟨trivial,fun e_=>hk e_⟩)));(case aS=>exact (zQ (by exact zB_ HB.out)));(case aL=>have:=LMc21.out;omega);intro v265 w22 ho hb hg hat;rw [← Ny264.out] at ho;have n0_:=zA (Kd.R_over' (by apply zR_;exact HO_4.out) (Kd.S_typed (by (with_reducible repeat (first|apply Kd.S_alloc|apply Kd.S_drewN|apply Kd.S_drew));exact HO_3.out)) (by decide) hg);have n1_:=zA (hb);have n2_:=zA (ho);clear HO_4;clear HB;clear HO_3;clear HO_6;have HO_4:=n0_;have HB:=n1_;have HO266:=n2_;clear n0_ n1_ n2_;clear ho hb hg hat))
               (try simp only [← hl4_2])
               go_roundg k2
               case measure=>have:=HK1.out;have:=HK2.out;omega
               case rel=>exact ⟨(y264),(x4_2),(wrap64 (x5_1+1)),(by first|rfl|(simp;done)|(simp [*];done)),H',⟨by have:=HK1.out;have:=HK2.out;omega⟩,⟨by (try simp only [hl4_2]);(with_reducible repeat (first|apply Kd.S_alloc|apply Kd.S_drewN|apply Kd.S_drew));exact HO266.out⟩,⟨by (try simp only [hl4_2]);apply zR_;exact HO_4.out⟩,⟨by exact zB_ HB.out⟩⟩
              ·rw [if_neg c21] at H
               exact absurd H (by simp)
             ·replace c20:=Bool.eq_false_iff.mpr c20
              subst c20
              have H1:(if x6_2.length < 17592186044416 then (if x7_2 < (l0.length:Int) then (spec_l1Cycles.l1 k2 l0 x3_1 (x4_2.set (x7_2:Int).toNat true) x5_1 (x6_2 ++ [x7_2]) (rd l0 x7_2)) else (none)) else (none)) = some r:=by rw [if_neg (show ¬ (false = true) by decide)] at H;exact H
              clear H
              have H:=H1
              clear H1
              obtain ⟨y267,hy267⟩:∃ y_:List Bool,y_ = (x4_2.set (x7_2:Int).toNat true):=⟨_,rfl⟩
              replace H:(if x6_2.length < 17592186044416 then (if x7_2 < (l0.length:Int) then (spec_l1Cycles.l1 k2 l0 x3_1 y267 x5_1 (x6_2 ++ [x7_2]) (rd l0 x7_2)) else (none)) else (none)) = some r:=by (try rw [hy267]);first|with_reducible exact H|with_reducible exact zS_ H|exact H
              have Ny267:=zA hy267
              clear hy267
              by_cases c25:x6_2.length < 17592186044416
              ·rw [if_pos c25] at H
               have LMc25:=zA c25
               clear c25
               obtain ⟨y268,hy268⟩:∃ y_:List Int,y_ = (x6_2 ++ [x7_2]):=⟨_,rfl⟩
               replace H:(if x7_2 < (l0.length:Int) then (spec_l1Cycles.l1 k2 l0 x3_1 y267 x5_1 y268 (rd l0 x7_2)) else (none)) = some r:=by (try rw [hy268]);first|with_reducible exact H|with_reducible exact zS_ H|exact H
               have Ny268:=zA hy268
               clear hy268
               by_cases c26:x7_2 < (l0.length:Int)
               ·rw [if_pos c26] at H
                have c26b0:decide (x7_2 < (l0.length:Int)) = true:=zO c26
                clear c26
                have H':=zA H
                clear H
                have p263:0≤(x7_2:Int):=zE (by with_reducible assumption)
                have q263:x7_2 < (x4_2.length:Int):=zE (by with_reducible assumption)
                obtain ⟨ad263,e263,hx263_0⟩:=Kd.at_bool (zU HO_4.out).2.2 x7_2 p263 q263
                (try rw [← Nbq11.out] at hx263_0)
                (try rw [← Nbq19.out] at hx263_0)
                obtain rfl:ad259 = ad263:=(by injection e263)
                replace p263:=eq_true p263
                replace q263:=eq_true q263
                have p24:0≤(x7_2:Int):=zE (by with_reducible assumption)
                have q24:(x7_2:Int) < ((x4_2.length:Int):Int):=zE (by with_reducible assumption)
                obtain ⟨go24,co24,eo24,gb24,gl24,cl24,HG24⟩:=Kd.R_form HO_4.out (by omega)
                (first|cases eo24|(injection eo24 with ea_ en_ ec_;(first|subst ea_|(injection ea_ with ea_;subst ea_));subst ec_;clear en_))
                have GB24:=zA gb24
                have GG24:=zA HG24
                clear gb24 gl24 HG24
                (first|simp only [add_plain] at hx259_0|skip)
                (first|simp only [add_plain] at hx263_0|skip)
                obtain ⟨hx24_0,hf24_0⟩:=Kd.R_celln false HO_4.out (x7_2:Int) p24 q24
                replace p24:=eq_true p24
                replace q24:=eq_true q24
                have HP27:=Kd.R_putg HO_4.out (x7_2:Int) true
                go_wp2_with (first|((with_reducible refine gate_store (t:=4) (p:=35) rfl ?_);refine store_event (t:=4) (p:=35) (v:=?vo_w28) (w1:=(wr.setCell ⟨go24,(x7_2:Int).toNat,none⟩ (.bool true))) ?hg ?ho ?hn ?hr ?_;(case ho=>rfl);(case hg=>rfl);(case hn=>rfl);(case hr=>first|(go_simp;done)|(go_simp;rfl));intro w28 hw;have hg:wr.grownBy w28 (some go24):=(by rw [hw];exact HP27.2);have hp_:Kd.R Kd.bool 4 w28 w.heap.size (fun _=>True) (.slice (some ⟨go24,0,none⟩) x4_2.length co14) y267:=(by rw [hw,Ny267.out];exact HP27.1);clear HP27;have n0_:=zA (Kd.S_over' (v:=(.slice (some ⟨go24,0,none⟩) x4_2.length co14)) (by (with_reducible repeat (first|apply Kd.S_alloc|apply Kd.S_drewN|apply Kd.S_drew));exact HO_3.out) (Kd.R_typed HO_4.out) (by decide) hg);have n1_:=zA (hp_);have n2_:=zA (Kd.R_over' (v:=(.slice (some ⟨go24,0,none⟩) x4_2.length co14)) (by apply zR_;exact HO_6.out) (Kd.R_typed HO_4.out) (by decide) hg);have n3_:=zA ((by rw [hw];exact zF (HB.out) GB24.out:Below w.heap.size w w28));clear HO_3;clear HO_4;clear HO_6;clear HB;have HO_3:=n0_;have HO_4:=n1_;have HO_6:=n2_;have HB:=n3_;clear n0_ n1_ n2_ n3_;clear hg hw hp_)|((with_reducible refine gate_builtin (b:=.append) (xs:=#[.tmp 36,.tmp 38]) rfl ?_);at_builtin;refine Kd.R_append (Kd.int .i64) (w0:=w) w.heap.size rfl (.tmp 36) (.tmp 38) 23 3 (.int .i64 0) 8 rfl Try.underlying23 info3 rfl (by decide) (by omega) u6 x6_2 x7_2 [.int .i64 x7_2] (fun _=>True) (fun _=>False) rfl rfl ?aP (fun _ hk=>hk.elim) ?aF ?aO ?aB ?aS ?aL ?_;(case aP=>exact rfl);(case aB=>exact (by exact zB_ HB.out));(case aF=>exact (fun _ _=>trivial));(case aO=>exact (by apply zR_;exact HO_6.out));(case aS=>exact (zQ (by exact zB_ HB.out)));(case aL=>have:=LMc25.out;omega);intro v269 w29 ho hb hg hat;rw [← Ny268.out] at ho;have n0_:=zA (Kd.S_after (ok:=(fun _=>True)) (by (with_reducible repeat (first|apply Kd.S_alloc|apply Kd.S_drewN|apply Kd.S_drew));exact Kd.S_mono HO_3.out (fun _ hk=>⟨trivial,hk⟩)) hg hat);have n1_:=zA (Kd.R_over' (by apply zR_;exact HO_4.out) (Kd.R_typed (by apply zR_;exact HO_6.out)) (by decide) hg);have n2_:=zA (hb);have n3_:=zA (ho);clear HO_3;clear HO_4;clear HB;clear HO_6;have HO_3:=n0_;have HO_4:=n1_;have HB:=n2_;have HO270:=n3_;clear n0_ n1_ n2_ n3_;clear ho hb hg hat;have p271:0≤(x7_2:Int):=zE (by with_reducible assumption);have q271:x7_2 < (l0.length:Int):=zE (by with_reducible assumption);obtain ⟨ad271,e271,hx271_0⟩:=Kd.at_int HR0.out x7_2 p271 q271;cases e271;replace hx271_0:=(HB.out.cell (zY w _ hx271_0)).trans hx271_0;replace p271:=eq_true p271;replace q271:=eq_true q271))
                (try simp only [← hl4_2])
                go_roundg k2
                case measure=>have:=HK1.out;have:=HK2.out;omega
                case rel=>exact ⟨(y267),(y268),(rd l0 x7_2),(by first|rfl|(simp;done)|(simp [*];done)),H',⟨by have:=HK1.out;have:=HK2.out;omega⟩,⟨by (try simp only [hl4_2]);(with_reducible repeat (first|apply Kd.S_alloc|apply Kd.S_drewN|apply Kd.S_drew));exact Kd.S_mono HO_3.out (fun _ hk=>hk.2)⟩,⟨by (try simp only [hl4_2]);apply zR_;exact HO_4.out⟩,⟨by (try simp only [hl4_2]);apply zR_;exact HO270.out⟩,⟨by exact zB_ HB.out⟩⟩
               ·rw [if_neg c26] at H
                exact absurd H (by simp)
              ·rw [if_neg c25] at H
               exact absurd H (by simp)
            ·rw [if_neg c18] at H
             exact absurd H (by simp)
           ·rw [if_neg c17] at H
            exact absurd H (by simp)
       ·rw [if_neg c10] at H
        exact absurd H (by simp)
      ·rw [if_neg c9] at H
       exact absurd H (by simp)
     ·rw [if_neg c8] at H
      have c8b0:decide (x5_1 < (l0.length:Int)) = false:=zP c8
      clear c8
      obtain rfl:=zS H
      go_wp2
      go_ret
      exact ⟨_,by first|rfl|(simp [errW_none,errW_some] <;> rfl)|(simp [*,errW_none,errW_some] <;> rfl),by (with_reducible repeat (first|apply Kd.S_alloc|apply Kd.S_drewN|apply Kd.S_drew));exact HO_3.out,by exact zB_ HB.out⟩
  ·rw [if_neg c3] at H
   exact absurd H (by simp)
 ·rw [if_neg c2] at H
  exact absurd H (by simp)

end Go.Proofs.Ytonlecigglbohaa.Q
