import Derived.Test.YtdaiohcgdpclnaaQ0
import Derived.Test.YtdaiohcgdpclnaaQ7
import Derived.Test.YtdaiohcgdpclnaaQ9
import Derived.Test.YtdaiohcgdpclnaaZ
namespace Go.Proofs.Ytdaiohcgdpclnaa.Q
open Go.RowKit Go.Proofs.YtdaiohcgdpclnaaW.PrintWords Go.Proofs.YtdaiohcgdpclnaaW.PrintLast Go.Proofs.YtdaiohcgdpclnaaW.PrintMore
attribute [local go_sem] max2_int min2_int max_two min_two max_three min_three max_four min_four   -- for this text's walks alone
set_option linter.unusedVariables false
set_option linter.unusedSimpArgs false

/-! ### spec_PermValid: function 111 -/
mutual
def spec_PermValid.l0:Nat→List Int→Int→Option (Bool)
 | 0,_,_=>none
 | k+1,x0,x3=>if x3 < (x0.length:Int) then (if 0≤x3 then ((spec_l6In.f (rd x0 x3) 0 (wrap64 ((x0.length:Int) - 1))).bind fun t382=>(if t382 = true then (spec_PermValid.l1 k x0 x3 0) else (some false))) else (none)) else ((spec_l6In.f (x0.length:Int) 1 12).bind fun t380=>(some t380))
def spec_PermValid.l1:Nat→List Int→Int→Int→Option (Bool)
 | 0,_,_,_=>none
 | k+1,x0,x3,x4=>if x4 < x3 then (if 0≤x4 then (if x4 < (x0.length:Int) then (if 0≤x3 then (if x3 < (x0.length:Int) then (if (rd x0 x4) = (rd x0 x3) then (some false) else (spec_PermValid.l1 k x0 x3 (wrap64 (x4+1)))) else (none)) else (none)) else (none)) else (none)) else (spec_PermValid.l0 k x0 (wrap64 (x3+1)))
end
def spec_PermValid.f (k:Nat) (l0:List Int):Option (Bool):=spec_PermValid.l0 k l0 0
theorem spec_PermValid.mono_l:∀ k,(∀ y0 y1,LeO (spec_PermValid.l0 k y0 y1) (spec_PermValid.l0 (k+1) y0 y1))∧(∀ y0 y1 y2,LeO (spec_PermValid.l1 k y0 y1 y2) (spec_PermValid.l1 (k+1) y0 y1 y2))
 | 0=>⟨fun _ _ r h=>by simp [spec_PermValid.l0] at h,fun _ _ _ r h=>by simp [spec_PermValid.l1] at h⟩
 | k+1=>by
  obtain ⟨ih0,ih1⟩:=spec_PermValid.mono_l k
  refine ⟨?_,?_⟩
  ·intro y0 y1
   unfold spec_PermValid.l0
   repeat' first
   | (with_reducible exact ih0 _ _)
   | (with_reducible exact ih1 _ _ _)
   | (with_reducible exact LeO.refl _)
   | (with_reducible exact zm _)
   | (with_reducible refine zo ?_ ?_)
   | (with_reducible refine zn ?_ (fun _=>?_))
   | exact ih0 _ _
   | exact ih1 _ _ _
   | exact zm _
   | refine zo ?_ ?_
   | refine zn ?_ (fun _=>?_)
  ·intro y0 y1 y2
   unfold spec_PermValid.l1
   repeat' first
   | (with_reducible exact ih0 _ _)
   | (with_reducible exact ih1 _ _ _)
   | (with_reducible exact LeO.refl _)
   | (with_reducible exact zm _)
   | (with_reducible refine zo ?_ ?_)
   | (with_reducible refine zn ?_ (fun _=>?_))
   | exact ih0 _ _
   | exact ih1 _ _ _
   | exact zm _
   | refine zo ?_ ?_
   | refine zn ?_ (fun _=>?_)
theorem spec_PermValid.mono:∀ a0 k,LeO (spec_PermValid.f k a0) (spec_PermValid.f (k+1) a0):=by
 intro a0 k
 obtain ⟨ih0,ih1⟩:=spec_PermValid.mono_l k
 unfold spec_PermValid.f
 repeat' first
   | (with_reducible exact ih0 _ _)
   | (with_reducible exact ih1 _ _ _)
   | (with_reducible exact LeO.refl _)
   | (with_reducible exact zm _)
   | (with_reducible refine zo ?_ ?_)
   | (with_reducible refine zn ?_ (fun _=>?_))
   | exact ih0 _ _
   | exact ih1 _ _ _
   | exact zm _
   | refine zo ?_ ?_
   | refine zn ?_ (fun _=>?_)
set_option maxHeartbeats 8000000 in
set_option maxRecDepth 100000 in
theorem spec_PermValid.calls (k:Nat) (A0:Option Addr) (c0:Nat) (l0:List Int) (r:Bool) (w:World) (hr0:Kd.C (Kd.int .i64) w A0 l0.length l0) (hc0:l0.length≤c0) (h:spec_PermValid.f k l0 = some r) :
  Calls Try.prog 111 #[.slice A0 l0.length c0] w fun e w'=>e = .returned (.bool r)∧Drawn0 w w':=by
 have HR0:=zA hr0
 have HC0:=zA hc0
 clear hr0 hc0
 have H:(spec_PermValid.l0 k l0 0) = some r:=h
 clear h
 have H':=zA H
 clear H
 go_enter Try.func111,Try.ntmps111
 go_wp2
 repeat (go_quiet (fail);try go_wp2)
 go_loopg [3] k (fun kq v3 w' => ∃ (x3_1:Int),v3 = .int .i64 x3_1∧Aside0 (spec_PermValid.l0 kq l0 x3_1 = some r)∧Aside0 (kq≤k)∧Drawn0 w w')
 case atStart=>exact ⟨(0),(by first|rfl|(simp;done)|(simp [*];done)),H',⟨Nat.le_refl _⟩,by repeat (first|exact Drawn0.refl _|apply Drawn0.step)⟩
 case round =>
  clear H'
  try clear c1
  obtain ⟨x3_1,rfl,HA,HK1,⟨m1,rfl⟩⟩:=hrel
  cases gk with
  | zero=>exact absurd HA.out (by simp [spec_PermValid.l0])
  | succ k1 =>
   have H:=HA.out
   clear HA
   simp only [spec_PermValid.l0] at H
   by_cases c2:x3_1 < (l0.length:Int)
   ·rw [if_pos c2] at H
    have c2b0:decide (x3_1 < (l0.length:Int)) = true:=zU c2
    clear c2
    by_cases c3:0≤x3_1
    ·rw [if_pos c3] at H
     have c3b0:decide (0≤x3_1) = true:=zU c3
     clear c3
     replace H:=zz0 H
     obtain ⟨t382,A40,H⟩:=H
     replace H:(if t382 = true then (spec_PermValid.l1 k1 l0 x3_1 0) else (some false)) = some r:=H
     have A4:=zA A40
     clear A40
     by_cases c5:t382 = true
     ·subst c5
      have H1:(spec_PermValid.l1 k1 l0 x3_1 0) = some r:=by rw [if_pos rfl] at H;exact H
      clear H
      have H:=H1
      clear H1
      have H':=zA H
      clear H
      have p381:0≤(x3_1:Int):=zF (by first|(with_reducible assumption)|assumption)
      have q381:x3_1 < (l0.length:Int):=zF (by first|(with_reducible assumption)|assumption)
      obtain ⟨ad381,e381,hx381_0⟩:=Kd.at_int HR0.out x3_1 p381 q381
      cases e381
      replace p381:=eq_true p381
      replace q381:=eq_true q381
      go_wp2_with (first|(go_at_call 40;(with_reducible refine (spec_l6In.calls (rd l0 x3_1) 0 (wrap64 ((l0.length:Int) - 1)) true _ A4.out).mono ?_);rintro e w' ⟨rfl,⟨nd,rfl⟩⟩;(try first|exact ⟨rfl,_,World.drewN_drewN _ _ _⟩|exact ⟨rfl,_,Eq.trans (World.drewN_drewN _ _ _) (congrArg (World.drewN _) (Nat.add_assoc _ _ _))⟩)))
      repeat (go_quiet (first|(go_at_call 40;(with_reducible refine (spec_l6In.calls (rd l0 x3_1) 0 (wrap64 ((l0.length:Int) - 1)) true _ A4.out).mono ?_);rintro e w' ⟨rfl,⟨nd,rfl⟩⟩;(try first|exact ⟨rfl,_,World.drewN_drewN _ _ _⟩|exact ⟨rfl,_,Eq.trans (World.drewN_drewN _ _ _) (congrArg (World.drewN _) (Nat.add_assoc _ _ _))⟩)));try go_wp2_with (first|(go_at_call 40;(with_reducible refine (spec_l6In.calls (rd l0 x3_1) 0 (wrap64 ((l0.length:Int) - 1)) true _ A4.out).mono ?_);rintro e w' ⟨rfl,⟨nd,rfl⟩⟩;(try first|exact ⟨rfl,_,World.drewN_drewN _ _ _⟩|exact ⟨rfl,_,Eq.trans (World.drewN_drewN _ _ _) (congrArg (World.drewN _) (Nat.add_assoc _ _ _))⟩))))
      go_loopg [4] k1 (fun kq v4 w' => ∃ (x4_2:Int),v4 = .int .i64 x4_2∧Aside0 (spec_PermValid.l1 kq l0 x3_1 x4_2 = some r)∧Aside0 (kq≤k1)∧Drawn0 w w')
      case atStart=>exact ⟨(0),(by first|rfl|(simp;done)|(simp [*];done)),H',⟨Nat.le_refl _⟩,by repeat (first|exact Drawn0.refl _|apply Drawn0.step)⟩
      case round =>
       clear H'
       try clear c1
       try clear c2
       try clear c2b0
       try clear p2
       try clear c3
       try clear c3b0
       try clear p3
       try clear q3
       try clear hx3
       try clear c5
       try clear hx381_0
       try clear p381
       try clear q381
       obtain ⟨x4_2,rfl,HA,HK2,⟨m2,rfl⟩⟩:=hrel
       cases gk with
       | zero=>exact absurd HA.out (by simp [spec_PermValid.l1])
       | succ k2 =>
        have H:=HA.out
        clear HA
        simp only [spec_PermValid.l1] at H
        by_cases c6:x4_2 < x3_1
        ·rw [if_pos c6] at H
         have c6b0:decide (x4_2 < x3_1) = true:=zU c6
         clear c6
         by_cases c7:0≤x4_2
         ·rw [if_pos c7] at H
          have c7b0:decide (0≤x4_2) = true:=zU c7
          clear c7
          by_cases c8:x4_2 < (l0.length:Int)
          ·rw [if_pos c8] at H
           have c8b0:decide (x4_2 < (l0.length:Int)) = true:=zU c8
           clear c8
           by_cases c9:0≤x3_1
           ·rw [if_pos c9] at H
            have c9b0:decide (0≤x3_1) = true:=zU c9
            clear c9
            by_cases c10:x3_1 < (l0.length:Int)
            ·rw [if_pos c10] at H
             have c10b0:decide (x3_1 < (l0.length:Int)) = true:=zU c10
             clear c10
             by_cases c11:(rd l0 x4_2) = (rd l0 x3_1)
             ·rw [if_pos c11] at H
              have c11b0:((rd l0 x4_2) == (rd l0 x3_1)) = true:=beq_iff_eq.mpr c11
              have c11b1:((rd l0 x4_2) != (rd l0 x3_1)) = false:=bne_eq_false_iff_eq.mpr c11
              clear c11
              obtain rfl:=zb H
              have p383:0≤(x4_2:Int):=zF (by first|(with_reducible assumption)|assumption)
              have q383:x4_2 < (l0.length:Int):=zF (by first|(with_reducible assumption)|assumption)
              obtain ⟨ad383,e383,hx383_0⟩:=Kd.at_int HR0.out x4_2 p383 q383
              obtain rfl:ad381 = ad383:=(by injection e383)
              replace p383:=eq_true p383
              replace q383:=eq_true q383
              have p384:0≤(x3_1:Int):=zF (by first|(with_reducible assumption)|assumption)
              have q384:x3_1 < (l0.length:Int):=zF (by first|(with_reducible assumption)|assumption)
              obtain ⟨ad384,e384,hx384_0⟩:=Kd.at_int HR0.out x3_1 p384 q384
              obtain rfl:ad381 = ad384:=(by injection e384)
              replace p384:=eq_true p384
              replace q384:=eq_true q384
              go_wp2
              repeat (go_quiet (fail);try go_wp2)
              go_ret
              exact ⟨by first|rfl|(simp;done)|(simp [*];done),by repeat (first|exact Drawn0.refl _|apply Drawn0.step)⟩
             ·rw [if_neg c11] at H
              have c11b0:((rd l0 x4_2) == (rd l0 x3_1)) = false:=beq_eq_false_iff_ne.mpr c11
              have c11b1:((rd l0 x4_2) != (rd l0 x3_1)) = true:=bne_iff_ne.mpr c11
              have H':=zA H
              clear H
              have p383:0≤(x4_2:Int):=zF (by first|(with_reducible assumption)|assumption)
              have q383:x4_2 < (l0.length:Int):=zF (by first|(with_reducible assumption)|assumption)
              obtain ⟨ad383,e383,hx383_0⟩:=Kd.at_int HR0.out x4_2 p383 q383
              obtain rfl:ad381 = ad383:=(by injection e383)
              replace p383:=eq_true p383
              replace q383:=eq_true q383
              have p384:0≤(x3_1:Int):=zF (by first|(with_reducible assumption)|assumption)
              have q384:x3_1 < (l0.length:Int):=zF (by first|(with_reducible assumption)|assumption)
              obtain ⟨ad384,e384,hx384_0⟩:=Kd.at_int HR0.out x3_1 p384 q384
              obtain rfl:ad381 = ad384:=(by injection e384)
              replace p384:=eq_true p384
              replace q384:=eq_true q384
              go_wp2
              repeat (go_quiet (fail);try go_wp2)
              go_roundg k2
              case measure=>have:=HK1.out;have:=HK2.out;omega
              case rel=>exact ⟨(wrap64 (x4_2+1)),(by first|rfl|(simp;done)|(simp [*];done)),H',⟨by have:=HK1.out;have:=HK2.out;omega⟩,by repeat (first|exact Drawn0.refl _|apply Drawn0.step)⟩
            ·rw [if_neg c10] at H
             exact absurd H (by simp)
           ·rw [if_neg c9] at H
            exact absurd H (by simp)
          ·rw [if_neg c8] at H
           exact absurd H (by simp)
         ·rw [if_neg c7] at H
          exact absurd H (by simp)
        ·rw [if_neg c6] at H
         have c6b0:decide (x4_2 < x3_1) = false:=zV c6
         clear c6
         have H':=zA H
         clear H
         go_wp2
         repeat (go_quiet (fail);try go_wp2)
         go_roundg k2
         case measure=>have:=HK1.out;have:=HK2.out;omega
         case rel=>exact ⟨(wrap64 (x3_1+1)),(by first|rfl|(simp;done)|(simp [*];done)),H',⟨by have:=HK1.out;have:=HK2.out;omega⟩,by repeat (first|exact Drawn0.refl _|apply Drawn0.step)⟩
     ·replace c5:=Bool.eq_false_iff.mpr c5
      subst c5
      have H1:(some false) = some r:=by rw [if_neg (show ¬ (false = true) by decide)] at H;exact H
      clear H
      have H:=H1
      clear H1
      obtain rfl:=zb H
      have p381:0≤(x3_1:Int):=zF (by first|(with_reducible assumption)|assumption)
      have q381:x3_1 < (l0.length:Int):=zF (by first|(with_reducible assumption)|assumption)
      obtain ⟨ad381,e381,hx381_0⟩:=Kd.at_int HR0.out x3_1 p381 q381
      cases e381
      replace p381:=eq_true p381
      replace q381:=eq_true q381
      go_wp2_with (first|(go_at_call 40;(with_reducible refine (spec_l6In.calls (rd l0 x3_1) 0 (wrap64 ((l0.length:Int) - 1)) false _ A4.out).mono ?_);rintro e w' ⟨rfl,⟨nd,rfl⟩⟩;(try first|exact ⟨rfl,_,World.drewN_drewN _ _ _⟩|exact ⟨rfl,_,Eq.trans (World.drewN_drewN _ _ _) (congrArg (World.drewN _) (Nat.add_assoc _ _ _))⟩)))
      repeat (go_quiet (first|(go_at_call 40;(with_reducible refine (spec_l6In.calls (rd l0 x3_1) 0 (wrap64 ((l0.length:Int) - 1)) false _ A4.out).mono ?_);rintro e w' ⟨rfl,⟨nd,rfl⟩⟩;(try first|exact ⟨rfl,_,World.drewN_drewN _ _ _⟩|exact ⟨rfl,_,Eq.trans (World.drewN_drewN _ _ _) (congrArg (World.drewN _) (Nat.add_assoc _ _ _))⟩)));try go_wp2_with (first|(go_at_call 40;(with_reducible refine (spec_l6In.calls (rd l0 x3_1) 0 (wrap64 ((l0.length:Int) - 1)) false _ A4.out).mono ?_);rintro e w' ⟨rfl,⟨nd,rfl⟩⟩;(try first|exact ⟨rfl,_,World.drewN_drewN _ _ _⟩|exact ⟨rfl,_,Eq.trans (World.drewN_drewN _ _ _) (congrArg (World.drewN _) (Nat.add_assoc _ _ _))⟩))))
      go_ret
      exact ⟨by first|rfl|(simp;done)|(simp [*];done),by repeat (first|exact Drawn0.refl _|apply Drawn0.step)⟩
    ·rw [if_neg c3] at H
     exact absurd H (by simp)
   ·rw [if_neg c2] at H
    have c2b0:decide (x3_1 < (l0.length:Int)) = false:=zV c2
    clear c2
    replace H:=zz0 H
    obtain ⟨t380,A120,H⟩:=H
    replace H:(some t380) = some r:=H
    have A12:=zA A120
    clear A120
    obtain rfl:=zb H
    go_wp2_with (first|(go_at_call 40;(with_reducible refine (spec_l6In.calls (l0.length:Int) 1 12 t380 _ A12.out).mono ?_);rintro e w' ⟨rfl,⟨nd,rfl⟩⟩;(try first|exact ⟨rfl,_,World.drewN_drewN _ _ _⟩|exact ⟨rfl,_,Eq.trans (World.drewN_drewN _ _ _) (congrArg (World.drewN _) (Nat.add_assoc _ _ _))⟩)))
    repeat (go_quiet (first|(go_at_call 40;(with_reducible refine (spec_l6In.calls (l0.length:Int) 1 12 t380 _ A12.out).mono ?_);rintro e w' ⟨rfl,⟨nd,rfl⟩⟩;(try first|exact ⟨rfl,_,World.drewN_drewN _ _ _⟩|exact ⟨rfl,_,Eq.trans (World.drewN_drewN _ _ _) (congrArg (World.drewN _) (Nat.add_assoc _ _ _))⟩)));try go_wp2_with (first|(go_at_call 40;(with_reducible refine (spec_l6In.calls (l0.length:Int) 1 12 t380 _ A12.out).mono ?_);rintro e w' ⟨rfl,⟨nd,rfl⟩⟩;(try first|exact ⟨rfl,_,World.drewN_drewN _ _ _⟩|exact ⟨rfl,_,Eq.trans (World.drewN_drewN _ _ _) (congrArg (World.drewN _) (Nat.add_assoc _ _ _))⟩))))
    go_ret
    exact ⟨by first|rfl|(simp;done)|(simp [*];done),by repeat (first|exact Drawn0.refl _|apply Drawn0.step)⟩

/-! ### spec_l1Both: function 94 -/
def spec_l1Both.f (k:Nat) (l0:List Int) (l1:List Int):Option (Bool):=(spec_PermValid.f k l0).bind fun t385=>(if t385 = true then ((spec_PermValid.f k l1).bind fun t386=>(if t386 = true then (some ((l0.length:Int) == (l1.length:Int))) else (some false))) else (some false))
theorem spec_l1Both.mono:∀ a0 a1 k,LeO (spec_l1Both.f k a0 a1) (spec_l1Both.f (k+1) a0 a1):=by
 intro a0 a1 k
 unfold spec_l1Both.f
 repeat' first
   | (with_reducible exact spec_PermValid.mono _ _)
   | (with_reducible exact LeO.refl _)
   | (with_reducible exact zm _)
   | (with_reducible refine zo ?_ ?_)
   | (with_reducible refine zn ?_ (fun _=>?_))
   | exact spec_PermValid.mono _ _
   | exact zm _
   | refine zo ?_ ?_
   | refine zn ?_ (fun _=>?_)
set_option maxHeartbeats 8000000 in
set_option maxRecDepth 100000 in
theorem spec_l1Both.calls (k:Nat) (A0:Option Addr) (c0:Nat) (l0:List Int) (A1:Option Addr) (c1:Nat) (l1:List Int) (r:Bool) (w:World) (hr0:Kd.C (Kd.int .i64) w A0 l0.length l0) (hc0:l0.length≤c0) (hr1:Kd.C (Kd.int .i64) w A1 l1.length l1) (hc1:l1.length≤c1) (h:spec_l1Both.f k l0 l1 = some r) :
  Calls Try.prog 94 #[.slice A0 l0.length c0,.slice A1 l1.length c1] w fun e w'=>e = .returned (.bool r)∧Drawn0 w w':=by
 have HR0:=zA hr0
 have HC0:=zA hc0
 clear hr0 hc0
 have HR1:=zA hr1
 have HC1:=zA hc1
 clear hr1 hc1
 have H:((spec_PermValid.f k l0).bind fun t385=>(if t385 = true then ((spec_PermValid.f k l1).bind fun t386=>(if t386 = true then (some ((l0.length:Int) == (l1.length:Int))) else (some false))) else (some false))) = some r:=h
 clear h
 replace H:=zz0 H
 obtain ⟨t385,A30,H⟩:=H
 replace H:(if t385 = true then ((spec_PermValid.f k l1).bind fun t386=>(if t386 = true then (some ((l0.length:Int) == (l1.length:Int))) else (some false))) else (some false)) = some r:=H
 have A3:=zA A30
 clear A30
 by_cases c4:t385 = true
 ·subst c4
  have H1:((spec_PermValid.f k l1).bind fun t386=>(if t386 = true then (some ((l0.length:Int) == (l1.length:Int))) else (some false))) = some r:=by rw [if_pos rfl] at H;exact H
  clear H
  have H:=H1
  clear H1
  replace H:=zz0 H
  obtain ⟨t386,A50,H⟩:=H
  replace H:(if t386 = true then (some ((l0.length:Int) == (l1.length:Int))) else (some false)) = some r:=H
  have A5:=zA A50
  clear A50
  by_cases c6:t386 = true
  ·subst c6
   have H1:(some ((l0.length:Int) == (l1.length:Int))) = some r:=by rw [if_pos rfl] at H;exact H
   clear H
   have H:=H1
   clear H1
   obtain rfl:=zb H
   go_enter Try.func94,Try.ntmps94
   go_wp2_with (first|((with_reducible refine gate_callee (f:=111) rfl ?_);refine goesL_ (some 6) rfl rfl Try.func111 (by kernel_rfl) rfl #[.slice A0 l0.length c0] rfl (by (try simp only [zP,zS,zT]);first|done|rfl|(simp only [zR,zQ];rfl)) ?_;(with_reducible refine (spec_PermValid.calls k _ _ l0 true _ ?side1 ?side2 A3.out).mono ?_);(case side1=>repeat (first|exact HR0.out|(with_reducible refine zW ?_ _)|(with_reducible refine zX ?_ _)|(with_reducible refine zY ?_)));(case side2=>exact HC0.out);rintro e w' ⟨rfl,⟨nd,rfl⟩⟩;refine ⟨_,rfl,?_⟩)|(go_at_call 111;(with_reducible refine (spec_PermValid.calls k _ _ l1 true _ ?side1 ?side2 A5.out).mono ?_);(case side1=>repeat (first|exact HR1.out|(with_reducible refine zW ?_ _)|(with_reducible refine zX ?_ _)|(with_reducible refine zY ?_)));(case side2=>exact HC1.out);rintro e w' ⟨rfl,⟨nd,rfl⟩⟩))
   go_ret
   exact ⟨by first|rfl|(simp;done)|(simp [*];done),by repeat (first|exact Drawn0.refl _|apply Drawn0.step)⟩
  ·replace c6:=Bool.eq_false_iff.mpr c6
   subst c6
   have H1:(some false) = some r:=by rw [if_neg (show ¬ (false = true) by decide)] at H;exact H
   clear H
   have H:=H1
   clear H1
   obtain rfl:=zb H
   go_enter Try.func94,Try.ntmps94
   go_wp2_with (first|((with_reducible refine gate_callee (f:=111) rfl ?_);refine goesL_ (some 6) rfl rfl Try.func111 (by kernel_rfl) rfl #[.slice A0 l0.length c0] rfl (by (try simp only [zP,zS,zT]);first|done|rfl|(simp only [zR,zQ];rfl)) ?_;(with_reducible refine (spec_PermValid.calls k _ _ l0 true _ ?side1 ?side2 A3.out).mono ?_);(case side1=>repeat (first|exact HR0.out|(with_reducible refine zW ?_ _)|(with_reducible refine zX ?_ _)|(with_reducible refine zY ?_)));(case side2=>exact HC0.out);rintro e w' ⟨rfl,⟨nd,rfl⟩⟩;refine ⟨_,rfl,?_⟩)|(go_at_call 111;(with_reducible refine (spec_PermValid.calls k _ _ l1 false _ ?side1 ?side2 A5.out).mono ?_);(case side1=>repeat (first|exact HR1.out|(with_reducible refine zW ?_ _)|(with_reducible refine zX ?_ _)|(with_reducible refine zY ?_)));(case side2=>exact HC1.out);rintro e w' ⟨rfl,⟨nd,rfl⟩⟩))
   go_ret
   exact ⟨by first|rfl|(simp;done)|(simp [*];done),by repeat (first|exact Drawn0.refl _|apply Drawn0.step)⟩
 ·replace c4:=Bool.eq_false_iff.mpr c4
  subst c4
  have H1:(some false) = some r:=by rw [if_neg (show ¬ (false = true) by decide)] at H;exact H
  clear H
  have H:=H1
  clear H1
  obtain rfl:=zb H
  go_enter Try.func94,Try.ntmps94
  go_wp2_with (first|((with_reducible refine gate_callee (f:=111) rfl ?_);refine goesL_ (some 6) rfl rfl Try.func111 (by kernel_rfl) rfl #[.slice A0 l0.length c0] rfl (by (try simp only [zP,zS,zT]);first|done|rfl|(simp only [zR,zQ];rfl)) ?_;(with_reducible refine (spec_PermValid.calls k _ _ l0 false _ ?side1 ?side2 A3.out).mono ?_);(case side1=>repeat (first|exact HR0.out|(with_reducible refine zW ?_ _)|(with_reducible refine zX ?_ _)|(with_reducible refine zY ?_)));(case side2=>exact HC0.out);rintro e w' ⟨rfl,⟨nd,rfl⟩⟩;refine ⟨_,rfl,?_⟩))
  go_ret
  exact ⟨by first|rfl|(simp;done)|(simp [*];done),by repeat (first|exact Drawn0.refl _|apply Drawn0.step)⟩

/-! ### spec_l1Orbits: function 95 -/
mutual
def spec_l1Orbits.l0:Nat→List Int→List Int→List Int→Int→Option (List Int)
 | 0,_,_,_,_=>none
 | k+1,x0,x1,x5,x6=>if x6 < (x0.length:Int) then (spec_l1Orbits.l1 k x0 x1 x5 x6 0) else (some x5)
def spec_l1Orbits.l1:Nat→List Int→List Int→List Int→Int→Int→Option (List Int)
 | 0,_,_,_,_,_=>none
 | k+1,x0,x1,x5,x6,x7=>if x7 < (x0.length:Int) then (if 0≤x7 then (if x7 < (x5.length:Int) then (if 0≤(rd x0 x7) then (if (rd x0 x7) < (x5.length:Int) then (if x7 < (x1.length:Int) then (if 0≤(rd x1 x7) then (if (rd x1 x7) < (x5.length:Int) then (spec_l1Orbits.l1 k x0 x1 (((x5.set (x7:Int).toNat (mn (rd x5 x7) (mn (rd x5 (rd x0 x7)) (rd x5 (rd x1 x7))))).set ((rd x0 x7):Int).toNat (mn (rd x5 x7) (mn (rd x5 (rd x0 x7)) (rd x5 (rd x1 x7))))).set ((rd x1 x7):Int).toNat (mn (rd x5 x7) (mn (rd x5 (rd x0 x7)) (rd x5 (rd x1 x7))))) x6 (wrap64 (x7+1))) else (none)) else (none)) else (none)) else (none)) else (none)) else (none)) else (none)) else (spec_l1Orbits.l0 k x0 x1 x5 (wrap64 (x6+1)))
end
def spec_l1Orbits.f (k:Nat) (l0:List Int) (l1:List Int):Option (List Int):=(spec_l1Same.f k (l0.length:Int)).bind fun t387=>(spec_l1Orbits.l0 k l0 l1 t387 0)
theorem spec_l1Orbits.mono_l:∀ k,(∀ y0 y1 y2 y3,LeO (spec_l1Orbits.l0 k y0 y1 y2 y3) (spec_l1Orbits.l0 (k+1) y0 y1 y2 y3))∧(∀ y0 y1 y2 y3 y4,LeO (spec_l1Orbits.l1 k y0 y1 y2 y3 y4) (spec_l1Orbits.l1 (k+1) y0 y1 y2 y3 y4))
 | 0=>⟨fun _ _ _ _ r h=>by simp [spec_l1Orbits.l0] at h,fun _ _ _ _ _ r h=>by simp [spec_l1Orbits.l1] at h⟩
 | k+1=>by
  obtain ⟨ih0,ih1⟩:=spec_l1Orbits.mono_l k
  refine ⟨?_,?_⟩
  ·intro y0 y1 y2 y3
   unfold spec_l1Orbits.l0
   repeat' first
   | (with_reducible exact ih0 _ _ _ _)
   | (with_reducible exact ih1 _ _ _ _ _)
   | (with_reducible exact spec_l1Same.mono _ _)
   | (with_reducible exact LeO.refl _)
   | (with_reducible exact zm _)
   | (with_reducible refine zo ?_ ?_)
   | (with_reducible refine zn ?_ (fun _=>?_))
   | exact ih0 _ _ _ _
   | exact ih1 _ _ _ _ _
   | exact spec_l1Same.mono _ _
   | exact zm _
   | refine zo ?_ ?_
   | refine zn ?_ (fun _=>?_)
  ·intro y0 y1 y2 y3 y4
   unfold spec_l1Orbits.l1
   repeat' first
   | (with_reducible exact ih0 _ _ _ _)
   | (with_reducible exact ih1 _ _ _ _ _)
   | (with_reducible exact spec_l1Same.mono _ _)
   | (with_reducible exact LeO.refl _)
   | (with_reducible exact zm _)
   | (with_reducible refine zo ?_ ?_)
   | (with_reducible refine zn ?_ (fun _=>?_))
   | exact ih0 _ _ _ _
   | exact ih1 _ _ _ _ _
   | exact spec_l1Same.mono _ _
   | exact zm _
   | refine zo ?_ ?_
   | refine zn ?_ (fun _=>?_)
theorem spec_l1Orbits.mono:∀ a0 a1 k,LeO (spec_l1Orbits.f k a0 a1) (spec_l1Orbits.f (k+1) a0 a1):=by
 intro a0 a1 k
 obtain ⟨ih0,ih1⟩:=spec_l1Orbits.mono_l k
 unfold spec_l1Orbits.f
 repeat' first
   | (with_reducible exact ih0 _ _ _ _)
   | (with_reducible exact ih1 _ _ _ _ _)
   | (with_reducible exact spec_l1Same.mono _ _)
   | (with_reducible exact LeO.refl _)
   | (with_reducible exact zm _)
   | (with_reducible refine zo ?_ ?_)
   | (with_reducible refine zn ?_ (fun _=>?_))
   | exact ih0 _ _ _ _
   | exact ih1 _ _ _ _ _
   | exact spec_l1Same.mono _ _
   | exact zm _
   | refine zo ?_ ?_
   | refine zn ?_ (fun _=>?_)
set_option maxHeartbeats 8000000 in
set_option maxRecDepth 100000 in
theorem spec_l1Orbits.calls (k:Nat) (A0:Option Addr) (c0:Nat) (l0:List Int) (A1:Option Addr) (c1:Nat) (l1:List Int) (r:List Int) (w:World) (hr0:Kd.C (Kd.int .i64) w A0 l0.length l0) (hc0:l0.length≤c0) (hr1:Kd.C (Kd.int .i64) w A1 l1.length l1) (hc1:l1.length≤c1) (h:spec_l1Orbits.f k l0 l1 = some r) :
  Calls Try.prog 95 #[.slice A0 l0.length c0,.slice A1 l1.length c1] w fun e w' => ∃ v0_:Value,e = .returned (v0_)∧Kd.R (Kd.int .i64) 3 w' w.heap.size (fun _=>True) v0_ r∧Below w.heap.size w w':=by
 have HR0:=zA hr0
 have HC0:=zA hc0
 clear hr0 hc0
 have HR1:=zA hr1
 have HC1:=zA hc1
 clear hr1 hc1
 have HB:=zA (Below.refl w.heap.size w)
 have H:((spec_l1Same.f k (l0.length:Int)).bind fun t387=>(spec_l1Orbits.l0 k l0 l1 t387 0)) = some r:=h
 clear h
 replace H:=zz0 H
 obtain ⟨t387,A30,H⟩:=H
 replace H:(spec_l1Orbits.l0 k l0 l1 t387 0) = some r:=H
 have A3:=zA A30
 clear A30
 have H':=zA H
 clear H
 go_enter Try.func95,Try.ntmps95
 go_wp2_with (first|(go_at_call 74;(with_reducible refine (spec_l1Same.calls k (l0.length:Int) t387 _ A3.out).mono ?_);rintro e w4 ⟨v388,rfl,ho0,hb⟩;have n0_:=zA (zq ho0 (zZ (by repeat (first|(with_reducible first|exact HB.out|apply zD|apply zB|apply zC)|exact HB.out))));have n1_:=zA (za (by repeat (first|(with_reducible first|exact HB.out|apply zD|apply zB|apply zC)|exact HB.out)) hb);clear HB;have HO389:=n0_;have HB:=n1_;clear n0_ n1_;(try clear hb);(try clear hb2);(try clear hk);(try clear hi);(try clear ho0)))
 repeat (go_quiet (fail);try go_wp2_with (first|(go_at_call 74;(with_reducible refine (spec_l1Same.calls k (l0.length:Int) t387 _ A3.out).mono ?_);rintro e w4 ⟨v388,rfl,ho0,hb⟩;have n0_:=zA (zq ho0 (zZ (by repeat (first|(with_reducible first|exact HB.out|apply zD|apply zB|apply zC)|exact HB.out))));have n1_:=zA (za (by repeat (first|(with_reducible first|exact HB.out|apply zD|apply zB|apply zC)|exact HB.out)) hb);clear HB;have HO389:=n0_;have HB:=n1_;clear n0_ n1_;(try clear hb);(try clear hb2);(try clear hk);(try clear hi);(try clear ho0))))
 go_loopg [6] k (fun kq v6 w' => ∃ (x5_1:List Int) (x6_1:Int),v6 = .int .i64 x6_1∧Aside0 (spec_l1Orbits.l0 kq l0 l1 x5_1 x6_1 = some r)∧Aside0 (kq≤k)∧Aside0 (Kd.R (Kd.int .i64) 3 w' w.heap.size (fun _=>True) v388 x5_1)∧Aside0 (Below w.heap.size w w'))
 case atStart=>exact ⟨(t387),(0),(by first|rfl|(simp;done)|(simp [*];done)),H',⟨Nat.le_refl _⟩,⟨by (with_reducible repeat (first|apply zK|apply zJ|apply zL));exact HO389.out⟩,⟨by repeat (first|(with_reducible first|exact HB.out|apply zD|apply zB|apply zC)|exact HB.out)⟩⟩
 case round =>
  clear H'
  try clear c1
  try clear p2
  obtain ⟨x5_1,x6_1,rfl,HA,HK1,HO_5,HB⟩:=hrel
  cases gk with
  | zero=>exact absurd HA.out (by simp [spec_l1Orbits.l0])
  | succ k1 =>
   have H:=HA.out
   clear HA
   simp only [spec_l1Orbits.l0] at H
   by_cases c5:x6_1 < (l0.length:Int)
   ·rw [if_pos c5] at H
    have c5b0:decide (x6_1 < (l0.length:Int)) = true:=zU c5
    clear c5
    have H':=zA H
    clear H
    go_wp2
    repeat (go_quiet (fail);try go_wp2)
    go_loopg [7] k1 (fun kq v7 w' => ∃ (x5_2:List Int) (x7_2:Int),v7 = .int .i64 x7_2∧Aside0 (spec_l1Orbits.l1 kq l0 l1 x5_2 x6_1 x7_2 = some r)∧Aside0 (kq≤k1)∧Aside0 (Kd.R (Kd.int .i64) 3 w' w.heap.size (fun _=>True) v388 x5_2)∧Aside0 (Below w.heap.size w w'))
    case atStart=>exact ⟨(x5_1),(0),(by first|rfl|(simp;done)|(simp [*];done)),H',⟨Nat.le_refl _⟩,⟨by (with_reducible repeat (first|apply zK|apply zJ|apply zL));exact HO_5.out⟩,⟨by repeat (first|(with_reducible first|exact HB.out|apply zD|apply zB|apply zC)|exact HB.out)⟩⟩
    case round =>
     clear H'
     try clear c1
     try clear p2
     try clear c5
     try clear c5b0
     try clear p2
     obtain ⟨x5_2,x7_2,rfl,HA,HK2,HO_5,HB⟩:=hrel
     cases gk with
     | zero=>exact absurd HA.out (by simp [spec_l1Orbits.l1])
     | succ k2 =>
      have H:=HA.out
      clear HA
      simp only [spec_l1Orbits.l1] at H
      by_cases c6:x7_2 < (l0.length:Int)
      ·rw [if_pos c6] at H
       have c6b0:decide (x7_2 < (l0.length:Int)) = true:=zU c6
       clear c6
       by_cases c7:0≤x7_2
       ·rw [if_pos c7] at H
        have c7b0:decide (0≤x7_2) = true:=zU c7
        clear c7
        by_cases c8:x7_2 < (x5_2.length:Int)
        ·rw [if_pos c8] at H
         have c8b0:decide (x7_2 < (x5_2.length:Int)) = true:=zU c8
         clear c8
         by_cases c9:0≤(rd l0 x7_2)
         ·rw [if_pos c9] at H
          have c9b0:decide (0≤(rd l0 x7_2)) = true:=zU c9
          clear c9
          by_cases c10:(rd l0 x7_2) < (x5_2.length:Int)
          ·rw [if_pos c10] at H
           have c10b0:decide ((rd l0 x7_2) < (x5_2.length:Int)) = true:=zU c10
           clear c10
           by_cases c11:x7_2 < (l1.length:Int)
           ·rw [if_pos c11] at H
            have c11b0:decide (x7_2 < (l1.length:Int)) = true:=zU c11
            clear c11
            by_cases c12:0≤(rd l1 x7_2)
            ·rw [if_pos c12] at H
             have c12b0:decide (0≤(rd l1 x7_2)) = true:=zU c12
             clear c12
             by_cases c13:(rd l1 x7_2) < (x5_2.length:Int)
             ·rw [if_pos c13] at H
              have c13b0:decide ((rd l1 x7_2) < (x5_2.length:Int)) = true:=zU c13
              clear c13
              obtain ⟨ji14,hji14⟩:∃ j_:Int,(mn (rd x5_2 (rd l0 x7_2)) (rd x5_2 (rd l1 x7_2))) = j_:=⟨_,rfl⟩
              replace H:(spec_l1Orbits.l1 k2 l0 l1 (((x5_2.set (x7_2:Int).toNat (mn (rd x5_2 x7_2) (ji14))).set ((rd l0 x7_2):Int).toNat (mn (rd x5_2 x7_2) (ji14))).set ((rd l1 x7_2):Int).toNat (mn (rd x5_2 x7_2) (ji14))) x6_1 (wrap64 (x7_2+1))) = some r:=by first|(rw [hji14] at H;exact H)|(simp only [hji14] at H ⊢;exact H)
              have hji14_:(if (rd x5_2 (rd l1 x7_2)) < (rd x5_2 (rd l0 x7_2)) then (rd x5_2 (rd l1 x7_2)) else (rd x5_2 (rd l0 x7_2))) = ji14:=hji14
              obtain ⟨ji15,hji15⟩:∃ j_:Int,(mn (rd x5_2 x7_2) (ji14)) = j_:=⟨_,rfl⟩
              replace H:(spec_l1Orbits.l1 k2 l0 l1 (((x5_2.set (x7_2:Int).toNat (ji15)).set ((rd l0 x7_2):Int).toNat (ji15)).set ((rd l1 x7_2):Int).toNat (ji15)) x6_1 (wrap64 (x7_2+1))) = some r:=by first|(rw [hji15] at H;exact H)|(simp only [hji15] at H ⊢;exact H)
              have hji15_:(if (ji14) < (rd x5_2 x7_2) then (ji14) else (rd x5_2 x7_2)) = ji15:=hji15
              obtain ⟨y395,hy395⟩:∃ y_:List Int,y_ = (x5_2.set (x7_2:Int).toNat (ji15)):=⟨_,rfl⟩
              replace H:(spec_l1Orbits.l1 k2 l0 l1 ((y395.set ((rd l0 x7_2):Int).toNat (ji15)).set ((rd l1 x7_2):Int).toNat (ji15)) x6_1 (wrap64 (x7_2+1))) = some r:=by first|(rw [hy395];with_reducible exact H)|(have H2_:=(Option.bind_some _ _).symm.trans H;rw [hy395];with_reducible exact H2_)|(have H2_:=(Option.bind_some _ _).symm.trans H;with_reducible exact H2_)|with_reducible exact H|(rw [hy395];exact H)|exact H
              have Ny395:=zA hy395
              clear hy395
              obtain ⟨y397,hy397⟩:∃ y_:List Int,y_ = (y395.set ((rd l0 x7_2):Int).toNat (ji15)):=⟨_,rfl⟩
              replace H:(spec_l1Orbits.l1 k2 l0 l1 (y397.set ((rd l1 x7_2):Int).toNat (ji15)) x6_1 (wrap64 (x7_2+1))) = some r:=by first|(rw [hy397];with_reducible exact H)|(have H2_:=(Option.bind_some _ _).symm.trans H;rw [hy397];with_reducible exact H2_)|(have H2_:=(Option.bind_some _ _).symm.trans H;with_reducible exact H2_)|with_reducible exact H|(rw [hy397];exact H)|exact H
              have Ny397:=zA hy397
              clear hy397
              obtain ⟨y399,hy399⟩:∃ y_:List Int,y_ = (y397.set ((rd l1 x7_2):Int).toNat (ji15)):=⟨_,rfl⟩
              replace H:(spec_l1Orbits.l1 k2 l0 l1 y399 x6_1 (wrap64 (x7_2+1))) = some r:=by first|(rw [hy399];with_reducible exact H)|(have H2_:=(Option.bind_some _ _).symm.trans H;rw [hy399];with_reducible exact H2_)|(have H2_:=(Option.bind_some _ _).symm.trans H;with_reducible exact H2_)|with_reducible exact H|(rw [hy399];exact H)|exact H
              have Ny399:=zA hy399
              clear hy399
              have H':=zA H
              clear H
              obtain ⟨Ao19,co19,eo19⟩:=zr HO_5.out
              subst eo19
              have p390:0≤(x7_2:Int):=zF (by first|(with_reducible assumption)|assumption)
              have q390:x7_2 < (x5_2.length:Int):=zF (by first|(with_reducible assumption)|assumption)
              obtain ⟨ad390,e390,hx390_0⟩:=Kd.at_int (zd HO_5.out).2.2 x7_2 p390 q390
              cases e390
              replace p390:=eq_true p390
              replace q390:=eq_true q390
              have p391:0≤(x7_2:Int):=zF (by first|(with_reducible assumption)|assumption)
              have q391:x7_2 < (l0.length:Int):=zF (by first|(with_reducible assumption)|assumption)
              obtain ⟨ad391,e391,hx391_0⟩:=Kd.at_int HR0.out x7_2 p391 q391
              cases e391
              replace hx391_0:=(HB.out.cell (zk w _ hx391_0)).trans hx391_0
              replace p391:=eq_true p391
              replace q391:=eq_true q391
              have p392:0≤((rd l0 x7_2):Int):=zF (by first|(with_reducible assumption)|assumption)
              have q392:(rd l0 x7_2) < (x5_2.length:Int):=zF (by first|(with_reducible assumption)|assumption)
              obtain ⟨ad392,e392,hx392_0⟩:=Kd.at_int (zd HO_5.out).2.2 (rd l0 x7_2) p392 q392
              obtain rfl:ad390 = ad392:=(by injection e392)
              replace p392:=eq_true p392
              replace q392:=eq_true q392
              have p393:0≤(x7_2:Int):=zF (by first|(with_reducible assumption)|assumption)
              have q393:x7_2 < (l1.length:Int):=zF (by first|(with_reducible assumption)|assumption)
              obtain ⟨ad393,e393,hx393_0⟩:=Kd.at_int HR1.out x7_2 p393 q393
              cases e393
              replace hx393_0:=(HB.out.cell (zk w _ hx393_0)).trans hx393_0
              replace p393:=eq_true p393
              replace q393:=eq_true q393
              have p394:0≤((rd l1 x7_2):Int):=zF (by first|(with_reducible assumption)|assumption)
              have q394:(rd l1 x7_2) < (x5_2.length:Int):=zF (by first|(with_reducible assumption)|assumption)
              obtain ⟨ad394,e394,hx394_0⟩:=Kd.at_int (zd HO_5.out).2.2 (rd l1 x7_2) p394 q394
              obtain rfl:ad390 = ad394:=(by injection e394)
              replace p394:=eq_true p394
              replace q394:=eq_true q394
              have p16:0≤(x7_2:Int):=zF (by first|(with_reducible assumption)|assumption)
              have q16:(x7_2:Int) < ((x5_2.length:Int):Int):=zF (by first|(with_reducible assumption)|assumption)
              obtain ⟨go16,co16,eo16,gb16,gl16,cl16,HG16⟩:=Kd.R_form HO_5.out (by omega)
              (first|cases eo16|(injection eo16 with ea_ en_ ec_;(first|subst ea_|(injection ea_ with ea_;subst ea_));subst ec_;clear en_))
              have GB16:=zA gb16
              have GG16:=zA HG16
              clear gb16 gl16 HG16
              (first|simp only [add_plain] at hx390_0|skip)
              (first|simp only [add_plain] at hx392_0|skip)
              (first|simp only [add_plain] at hx394_0|skip)
              obtain ⟨hx16_0,hf16_0⟩:=Kd.R_celln 0 HO_5.out (x7_2:Int) p16 q16
              replace p16:=eq_true p16
              replace q16:=eq_true q16
              have HP20:=Kd.R_putg HO_5.out (x7_2:Int) ji15
              go_wp2_with (first|((with_reducible refine gate_store (t:=3) (p:=47) rfl ?_);(try ((first|(generalize hq_:World.drewN wr _ = wr)|(rw [drewN_self wr];generalize hq_:World.drewN wr _ = wr));have n0_:=zA (Kd.R_at hq_ HO_5.out);have n1_:=zA (below_at hq_ HB.out);clear hq_ HO_5 HB;have HO_5:=n0_;have HB:=n1_;clear n0_ n1_;(try (have HP20:=Kd.R_putg HO_5.out (x7_2:Int) ji15));(try (obtain ⟨hx19b_,hf19b_⟩:=Kd.R_celln 0 HO_5.out (x7_2:Int) (of_eq_true (by assumption)) (of_eq_true (by assumption))))));refine store_event (t:=3) (p:=47) (v:=?vo_w21) (w1:=(wr.setCell ⟨go16,(x7_2:Int).toNat,none⟩ (.int .i64 ji15))) ?hg ?ho ?hn ?hr ?_;(case ho=>rfl);(case hg=>rfl);(case hn=>rfl);(case hr=>first|(go_simp;done)|(go_simp;rfl));intro w21 hw;have hg:wr.grownBy w21 (some go16):=(by rw [hw];exact HP20.2);have hp_:Kd.R (Kd.int .i64) 3 w21 w.heap.size (fun _=>True) (.slice (some ⟨go16,0,none⟩) x5_2.length co19) y395:=(by rw [hw,Ny395.out];exact HP20.1);clear HP20;have n0_:=zA (hp_);have n1_:=zA ((by rw [hw];exact zI (HB.out) GB16.out:Below w.heap.size w w21));clear HO_5;clear HB;have HO_5:=n0_;have HB:=n1_;clear n0_ n1_;clear hg hw hp_;have p396:0≤(x7_2:Int):=zF (by first|(with_reducible assumption)|assumption);have q396:x7_2 < (l0.length:Int):=zF (by first|(with_reducible assumption)|assumption);obtain ⟨ad396,e396,hx396_0⟩:=Kd.at_int HR0.out x7_2 p396 q396;obtain rfl:ad391 = ad396:=(by injection e396);replace hx396_0:=(HB.out.cell (zk w _ hx396_0)).trans hx396_0;replace p396:=eq_true p396;replace q396:=eq_true q396;have p17:0≤((rd l0 x7_2):Int):=zF (by first|(with_reducible assumption)|assumption);have q17:((rd l0 x7_2):Int) < ((x5_2.length:Int):Int):=zF (by first|(with_reducible assumption)|assumption);obtain ⟨hx17_0,hf17_0⟩:=Kd.R_celln 0 HO_5.out ((rd l0 x7_2):Int) p17 q17;replace p17:=eq_true p17;replace q17:=eq_true q17;obtain ⟨hy22_,hz22_⟩:=Kd.R_celln 0 HO_5.out ((rd l0 x7_2):Int) (zF (by first|(with_reducible assumption)|assumption)) (zF (by first|(with_reducible assumption)|assumption));have HP22:=Kd.R_putg HO_5.out ((rd l0 x7_2):Int) ji15)|((with_reducible refine gate_store (t:=3) (p:=54) rfl ?_);(try (rw [drewN_self w21];generalize hq_:World.drewN w21 _ = w21;have n0_:=zA (Kd.R_at hq_ HO_5.out);have n1_:=zA (below_at hq_ HB.out);clear hq_ HO_5 HB;have HO_5:=n0_;have HB:=n1_;clear n0_ n1_;(try (obtain ⟨hy22_,hz22_⟩:=Kd.R_celln 0 HO_5.out ((rd l0 x7_2):Int) (zF (by first|(with_reducible assumption)|assumption)) (zF (by first|(with_reducible assumption)|assumption))));(try (have HP22:=Kd.R_putg HO_5.out ((rd l0 x7_2):Int) ji15))));refine store_event (t:=3) (p:=54) (v:=?vo_w23) (w1:=(w21.setCell ⟨go16,((rd l0 x7_2):Int).toNat,none⟩ (.int .i64 ji15))) ?hg ?ho ?hn ?hr ?_;(case ho=>rfl);(case hg=>rfl);(case hn=>rfl);(case hr=>first|(go_simp;done)|(go_simp;rfl));intro w23 hw;have hg:w21.grownBy w23 (some go16):=(by rw [hw];exact HP22.2);have hp_:Kd.R (Kd.int .i64) 3 w23 w.heap.size (fun _=>True) (.slice (some ⟨go16,0,none⟩) x5_2.length co19) y397:=(by rw [hw,Ny397.out];exact HP22.1);clear HP22;have n0_:=zA (hp_);have n1_:=zA ((by rw [hw];exact zI (HB.out) GB16.out:Below w.heap.size w w23));clear HO_5;clear HB;have HO_5:=n0_;have HB:=n1_;clear n0_ n1_;clear hg hw hp_;have p398:0≤(x7_2:Int):=zF (by first|(with_reducible assumption)|assumption);have q398:x7_2 < (l1.length:Int):=zF (by first|(with_reducible assumption)|assumption);obtain ⟨ad398,e398,hx398_0⟩:=Kd.at_int HR1.out x7_2 p398 q398;obtain rfl:ad393 = ad398:=(by injection e398);replace hx398_0:=(HB.out.cell (zk w _ hx398_0)).trans hx398_0;replace p398:=eq_true p398;replace q398:=eq_true q398;have p18:0≤((rd l1 x7_2):Int):=zF (by first|(with_reducible assumption)|assumption);have q18:((rd l1 x7_2):Int) < ((x5_2.length:Int):Int):=zF (by first|(with_reducible assumption)|assumption);obtain ⟨hx18_0,hf18_0⟩:=Kd.R_celln 0 HO_5.out ((rd l1 x7_2):Int) p18 q18;replace p18:=eq_true p18;replace q18:=eq_true q18;obtain ⟨hy24_,hz24_⟩:=Kd.R_celln 0 HO_5.out ((rd l1 x7_2):Int) (zF (by first|(with_reducible assumption)|assumption)) (zF (by first|(with_reducible assumption)|assumption));have HP24:=Kd.R_putg HO_5.out ((rd l1 x7_2):Int) ji15)|((with_reducible refine gate_store (t:=3) (p:=61) rfl ?_);(try (rw [drewN_self w23];generalize hq_:World.drewN w23 _ = w23;have n0_:=zA (Kd.R_at hq_ HO_5.out);have n1_:=zA (below_at hq_ HB.out);clear hq_ HO_5 HB;have HO_5:=n0_;have HB:=n1_;clear n0_ n1_;(try (obtain ⟨hy24_,hz24_⟩:=Kd.R_celln 0 HO_5.out ((rd l1 x7_2):Int) (zF (by first|(with_reducible assumption)|assumption)) (zF (by first|(with_reducible assumption)|assumption))));(try (have HP24:=Kd.R_putg HO_5.out ((rd l1 x7_2):Int) ji15))));refine store_event (t:=3) (p:=61) (v:=?vo_w25) (w1:=(w23.setCell ⟨go16,((rd l1 x7_2):Int).toNat,none⟩ (.int .i64 ji15))) ?hg ?ho ?hn ?hr ?_;(case ho=>rfl);(case hg=>rfl);(case hn=>rfl);(case hr=>first|(go_simp;done)|(go_simp;rfl));intro w25 hw;have hg:w23.grownBy w25 (some go16):=(by rw [hw];exact HP24.2);have hp_:Kd.R (Kd.int .i64) 3 w25 w.heap.size (fun _=>True) (.slice (some ⟨go16,0,none⟩) x5_2.length co19) y399:=(by rw [hw,Ny399.out];exact HP24.1);clear HP24;have n0_:=zA (hp_);have n1_:=zA ((by rw [hw];exact zI (HB.out) GB16.out:Below w.heap.size w w25));clear HO_5;clear HB;have HO_5:=n0_;have HB:=n1_;clear n0_ n1_;clear hg hw hp_))
              repeat (go_quiet (first|((with_reducible refine gate_store (t:=3) (p:=47) rfl ?_);(try ((first|(generalize hq_:World.drewN wr _ = wr)|(rw [drewN_self wr];generalize hq_:World.drewN wr _ = wr));have n0_:=zA (Kd.R_at hq_ HO_5.out);have n1_:=zA (below_at hq_ HB.out);clear hq_ HO_5 HB;have HO_5:=n0_;have HB:=n1_;clear n0_ n1_;(try (have HP20:=Kd.R_putg HO_5.out (x7_2:Int) ji15));(try (obtain ⟨hx19b_,hf19b_⟩:=Kd.R_celln 0 HO_5.out (x7_2:Int) (of_eq_true (by assumption)) (of_eq_true (by assumption))))));refine store_event (t:=3) (p:=47) (v:=?vo_w21) (w1:=(wr.setCell ⟨go16,(x7_2:Int).toNat,none⟩ (.int .i64 ji15))) ?hg ?ho ?hn ?hr ?_;(case ho=>rfl);(case hg=>rfl);(case hn=>rfl);(case hr=>first|(go_simp;done)|(go_simp;rfl));intro w21 hw;have hg:wr.grownBy w21 (some go16):=(by rw [hw];exact HP20.2);have hp_:Kd.R (Kd.int .i64) 3 w21 w.heap.size (fun _=>True) (.slice (some ⟨go16,0,none⟩) x5_2.length co19) y395:=(by rw [hw,Ny395.out];exact HP20.1);clear HP20;have n0_:=zA (hp_);have n1_:=zA ((by rw [hw];exact zI (HB.out) GB16.out:Below w.heap.size w w21));clear HO_5;clear HB;have HO_5:=n0_;have HB:=n1_;clear n0_ n1_;clear hg hw hp_;have p396:0≤(x7_2:Int):=zF (by first|(with_reducible assumption)|assumption);have q396:x7_2 < (l0.length:Int):=zF (by first|(with_reducible assumption)|assumption);obtain ⟨ad396,e396,hx396_0⟩:=Kd.at_int HR0.out x7_2 p396 q396;obtain rfl:ad391 = ad396:=(by injection e396);replace hx396_0:=(HB.out.cell (zk w _ hx396_0)).trans hx396_0;replace p396:=eq_true p396;replace q396:=eq_true q396;have p17:0≤((rd l0 x7_2):Int):=zF (by first|(with_reducible assumption)|assumption);have q17:((rd l0 x7_2):Int) < ((x5_2.length:Int):Int):=zF (by first|(with_reducible assumption)|assumption);obtain ⟨hx17_0,hf17_0⟩:=Kd.R_celln 0 HO_5.out ((rd l0 x7_2):Int) p17 q17;replace p17:=eq_true p17;replace q17:=eq_true q17;obtain ⟨hy22_,hz22_⟩:=Kd.R_celln 0 HO_5.out ((rd l0 x7_2):Int) (zF (by first|(with_reducible assumption)|assumption)) (zF (by first|(with_reducible assumption)|assumption));have HP22:=Kd.R_putg HO_5.out ((rd l0 x7_2):Int) ji15)|((with_reducible refine gate_store (t:=3) (p:=54) rfl ?_);(try (rw [drewN_self w21];generalize hq_:World.drewN w21 _ = w21;have n0_:=zA (Kd.R_at hq_ HO_5.out);have n1_:=zA (below_at hq_ HB.out);clear hq_ HO_5 HB;have HO_5:=n0_;have HB:=n1_;clear n0_ n1_;(try (obtain ⟨hy22_,hz22_⟩:=Kd.R_celln 0 HO_5.out ((rd l0 x7_2):Int) (zF (by first|(with_reducible assumption)|assumption)) (zF (by first|(with_reducible assumption)|assumption))));(try (have HP22:=Kd.R_putg HO_5.out ((rd l0 x7_2):Int) ji15))));refine store_event (t:=3) (p:=54) (v:=?vo_w23) (w1:=(w21.setCell ⟨go16,((rd l0 x7_2):Int).toNat,none⟩ (.int .i64 ji15))) ?hg ?ho ?hn ?hr ?_;(case ho=>rfl);(case hg=>rfl);(case hn=>rfl);(case hr=>first|(go_simp;done)|(go_simp;rfl));intro w23 hw;have hg:w21.grownBy w23 (some go16):=(by rw [hw];exact HP22.2);have hp_:Kd.R (Kd.int .i64) 3 w23 w.heap.size (fun _=>True) (.slice (some ⟨go16,0,none⟩) x5_2.length co19) y397:=(by rw [hw,Ny397.out];exact HP22.1);clear HP22;have n0_:=zA (hp_);have n1_:=zA ((by rw [hw];exact zI (HB.out) GB16.out:Below w.heap.size w w23));clear HO_5;clear HB;have HO_5:=n0_;have HB:=n1_;clear n0_ n1_;clear hg hw hp_;have p398:0≤(x7_2:Int):=zF (by first|(with_reducible assumption)|assumption);have q398:x7_2 < (l1.length:Int):=zF (by first|(with_reducible assumption)|assumption);obtain ⟨ad398,e398,hx398_0⟩:=Kd.at_int HR1.out x7_2 p398 q398;obtain rfl:ad393 = ad398:=(by injection e398);replace hx398_0:=(HB.out.cell (zk w _ hx398_0)).trans hx398_0;replace p398:=eq_true p398;replace q398:=eq_true q398;have p18:0≤((rd l1 x7_2):Int):=zF (by first|(with_reducible assumption)|assumption);have q18:((rd l1 x7_2):Int) < ((x5_2.length:Int):Int):=zF (by first|(with_reducible assumption)|assumption);obtain ⟨hx18_0,hf18_0⟩:=Kd.R_celln 0 HO_5.out ((rd l1 x7_2):Int) p18 q18;replace p18:=eq_true p18;replace q18:=eq_true q18;obtain ⟨hy24_,hz24_⟩:=Kd.R_celln 0 HO_5.out ((rd l1 x7_2):Int) (zF (by first|(with_reducible assumption)|assumption)) (zF (by first|(with_reducible assumption)|assumption));have HP24:=Kd.R_putg HO_5.out ((rd l1 x7_2):Int) ji15)|((with_reducible refine gate_store (t:=3) (p:=61) rfl ?_);(try (rw [drewN_self w23];generalize hq_:World.drewN w23 _ = w23;have n0_:=zA (Kd.R_at hq_ HO_5.out);have n1_:=zA (below_at hq_ HB.out);clear hq_ HO_5 HB;have HO_5:=n0_;have HB:=n1_;clear n0_ n1_;(try (obtain ⟨hy24_,hz24_⟩:=Kd.R_celln 0 HO_5.out ((rd l1 x7_2):Int) (zF (by first|(with_reducible assumption)|assumption)) (zF (by first|(with_reducible assumption)|assumption))));(try (have HP24:=Kd.R_putg HO_5.out ((rd l1 x7_2):Int) ji15))));refine store_event (t:=3) (p:=61) (v:=?vo_w25) (w1:=(w23.setCell ⟨go16,((rd l1 x7_2):Int).toNat,none⟩ (.int .i64 ji15))) ?hg ?ho ?hn ?hr ?_;(case ho=>rfl);(case hg=>rfl);(case hn=>rfl);(case hr=>first|(go_simp;done)|(go_simp;rfl));intro w25 hw;have hg:w23.grownBy w25 (some go16):=(by rw [hw];exact HP24.2);have hp_:Kd.R (Kd.int .i64) 3 w25 w.heap.size (fun _=>True) (.slice (some ⟨go16,0,none⟩) x5_2.length co19) y399:=(by rw [hw,Ny399.out];exact HP24.1);clear HP24;have n0_:=zA (hp_);have n1_:=zA ((by rw [hw];exact zI (HB.out) GB16.out:Below w.heap.size w w25));clear HO_5;clear HB;have HO_5:=n0_;have HB:=n1_;clear n0_ n1_;clear hg hw hp_));try go_wp2_with (first|((with_reducible refine gate_store (t:=3) (p:=47) rfl ?_);(try ((first|(generalize hq_:World.drewN wr _ = wr)|(rw [drewN_self wr];generalize hq_:World.drewN wr _ = wr));have n0_:=zA (Kd.R_at hq_ HO_5.out);have n1_:=zA (below_at hq_ HB.out);clear hq_ HO_5 HB;have HO_5:=n0_;have HB:=n1_;clear n0_ n1_;(try (have HP20:=Kd.R_putg HO_5.out (x7_2:Int) ji15));(try (obtain ⟨hx19b_,hf19b_⟩:=Kd.R_celln 0 HO_5.out (x7_2:Int) (of_eq_true (by assumption)) (of_eq_true (by assumption))))));refine store_event (t:=3) (p:=47) (v:=?vo_w21) (w1:=(wr.setCell ⟨go16,(x7_2:Int).toNat,none⟩ (.int .i64 ji15))) ?hg ?ho ?hn ?hr ?_;(case ho=>rfl);(case hg=>rfl);(case hn=>rfl);(case hr=>first|(go_simp;done)|(go_simp;rfl));intro w21 hw;have hg:wr.grownBy w21 (some go16):=(by rw [hw];exact HP20.2);have hp_:Kd.R (Kd.int .i64) 3 w21 w.heap.size (fun _=>True) (.slice (some ⟨go16,0,none⟩) x5_2.length co19) y395:=(by rw [hw,Ny395.out];exact HP20.1);clear HP20;have n0_:=zA (hp_);have n1_:=zA ((by rw [hw];exact zI (HB.out) GB16.out:Below w.heap.size w w21));clear HO_5;clear HB;have HO_5:=n0_;have HB:=n1_;clear n0_ n1_;clear hg hw hp_;have p396:0≤(x7_2:Int):=zF (by first|(with_reducible assumption)|assumption);have q396:x7_2 < (l0.length:Int):=zF (by first|(with_reducible assumption)|assumption);obtain ⟨ad396,e396,hx396_0⟩:=Kd.at_int HR0.out x7_2 p396 q396;obtain rfl:ad391 = ad396:=(by injection e396);replace hx396_0:=(HB.out.cell (zk w _ hx396_0)).trans hx396_0;replace p396:=eq_true p396;replace q396:=eq_true q396;have p17:0≤((rd l0 x7_2):Int):=zF (by first|(with_reducible assumption)|assumption);have q17:((rd l0 x7_2):Int) < ((x5_2.length:Int):Int):=zF (by first|(with_reducible assumption)|assumption);obtain ⟨hx17_0,hf17_0⟩:=Kd.R_celln 0 HO_5.out ((rd l0 x7_2):Int) p17 q17;replace p17:=eq_true p17;replace q17:=eq_true q17;obtain ⟨hy22_,hz22_⟩:=Kd.R_celln 0 HO_5.out ((rd l0 x7_2):Int) (zF (by first|(with_reducible assumption)|assumption)) (zF (by first|(with_reducible assumption)|assumption));have HP22:=Kd.R_putg HO_5.out ((rd l0 x7_2):Int) ji15)|((with_reducible refine gate_store (t:=3) (p:=54) rfl ?_);(try (rw [drewN_self w21];generalize hq_:World.drewN w21 _ = w21;have n0_:=zA (Kd.R_at hq_ HO_5.out);have n1_:=zA (below_at hq_ HB.out);clear hq_ HO_5 HB;have HO_5:=n0_;have HB:=n1_;clear n0_ n1_;(try (obtain ⟨hy22_,hz22_⟩:=Kd.R_celln 0 HO_5.out ((rd l0 x7_2):Int) (zF (by first|(with_reducible assumption)|assumption)) (zF (by first|(with_reducible assumption)|assumption))));(try (have HP22:=Kd.R_putg HO_5.out ((rd l0 x7_2):Int) ji15))));refine store_event (t:=3) (p:=54) (v:=?vo_w23) (w1:=(w21.setCell ⟨go16,((rd l0 x7_2):Int).toNat,none⟩ (.int .i64 ji15))) ?hg ?ho ?hn ?hr ?_;(case ho=>rfl);(case hg=>rfl);(case hn=>rfl);(case hr=>first|(go_simp;done)|(go_simp;rfl));intro w23 hw;have hg:w21.grownBy w23 (some go16):=(by rw [hw];exact HP22.2);have hp_:Kd.R (Kd.int .i64) 3 w23 w.heap.size (fun _=>True) (.slice (some ⟨go16,0,none⟩) x5_2.length co19) y397:=(by rw [hw,Ny397.out];exact HP22.1);clear HP22;have n0_:=zA (hp_);have n1_:=zA ((by rw [hw];exact zI (HB.out) GB16.out:Below w.heap.size w w23));clear HO_5;clear HB;have HO_5:=n0_;have HB:=n1_;clear n0_ n1_;clear hg hw hp_;have p398:0≤(x7_2:Int):=zF (by first|(with_reducible assumption)|assumption);have q398:x7_2 < (l1.length:Int):=zF (by first|(with_reducible assumption)|assumption);obtain ⟨ad398,e398,hx398_0⟩:=Kd.at_int HR1.out x7_2 p398 q398;obtain rfl:ad393 = ad398:=(by injection e398);replace hx398_0:=(HB.out.cell (zk w _ hx398_0)).trans hx398_0;replace p398:=eq_true p398;replace q398:=eq_true q398;have p18:0≤((rd l1 x7_2):Int):=zF (by first|(with_reducible assumption)|assumption);have q18:((rd l1 x7_2):Int) < ((x5_2.length:Int):Int):=zF (by first|(with_reducible assumption)|assumption);obtain ⟨hx18_0,hf18_0⟩:=Kd.R_celln 0 HO_5.out ((rd l1 x7_2):Int) p18 q18;replace p18:=eq_true p18;replace q18:=eq_true q18;obtain ⟨hy24_,hz24_⟩:=Kd.R_celln 0 HO_5.out ((rd l1 x7_2):Int) (zF (by first|(with_reducible assumption)|assumption)) (zF (by first|(with_reducible assumption)|assumption));have HP24:=Kd.R_putg HO_5.out ((rd l1 x7_2):Int) ji15)|((with_reducible refine gate_store (t:=3) (p:=61) rfl ?_);(try (rw [drewN_self w23];generalize hq_:World.drewN w23 _ = w23;have n0_:=zA (Kd.R_at hq_ HO_5.out);have n1_:=zA (below_at hq_ HB.out);clear hq_ HO_5 HB;have HO_5:=n0_;have HB:=n1_;clear n0_ n1_;(try (obtain ⟨hy24_,hz24_⟩:=Kd.R_celln 0 HO_5.out ((rd l1 x7_2):Int) (zF (by first|(with_reducible assumption)|assumption)) (zF (by first|(with_reducible assumption)|assumption))));(try (have HP24:=Kd.R_putg HO_5.out ((rd l1 x7_2):Int) ji15))));refine store_event (t:=3) (p:=61) (v:=?vo_w25) (w1:=(w23.setCell ⟨go16,((rd l1 x7_2):Int).toNat,none⟩ (.int .i64 ji15))) ?hg ?ho ?hn ?hr ?_;(case ho=>rfl);(case hg=>rfl);(case hn=>rfl);(case hr=>first|(go_simp;done)|(go_simp;rfl));intro w25 hw;have hg:w23.grownBy w25 (some go16):=(by rw [hw];exact HP24.2);have hp_:Kd.R (Kd.int .i64) 3 w25 w.heap.size (fun _=>True) (.slice (some ⟨go16,0,none⟩) x5_2.length co19) y399:=(by rw [hw,Ny399.out];exact HP24.1);clear HP24;have n0_:=zA (hp_);have n1_:=zA ((by rw [hw];exact zI (HB.out) GB16.out:Below w.heap.size w w25));clear HO_5;clear HB;have HO_5:=n0_;have HB:=n1_;clear n0_ n1_;clear hg hw hp_)))
              go_roundg k2
              case measure=>have:=HK1.out;have:=HK2.out;omega
              case rel=>exact ⟨(y399),(wrap64 (x7_2+1)),(by first|rfl|(simp;done)|(simp [*];done)),H',⟨by have:=HK1.out;have:=HK2.out;omega⟩,⟨by (with_reducible repeat (first|apply zK|apply zJ|apply zL));exact HO_5.out⟩,⟨by repeat (first|(with_reducible first|exact HB.out|apply zD|apply zB|apply zC)|exact HB.out)⟩⟩
             ·rw [if_neg c13] at H
              exact absurd H (by simp)
            ·rw [if_neg c12] at H
             exact absurd H (by simp)
           ·rw [if_neg c11] at H
            exact absurd H (by simp)
          ·rw [if_neg c10] at H
           exact absurd H (by simp)
         ·rw [if_neg c9] at H
          exact absurd H (by simp)
        ·rw [if_neg c8] at H
         exact absurd H (by simp)
       ·rw [if_neg c7] at H
        exact absurd H (by simp)
      ·rw [if_neg c6] at H
       have c6b0:decide (x7_2 < (l0.length:Int)) = false:=zV c6
       clear c6
       have H':=zA H
       clear H
       go_wp2
       repeat (go_quiet (fail);try go_wp2)
       go_roundg k2
       case measure=>have:=HK1.out;have:=HK2.out;omega
       case rel=>exact ⟨(x5_2),(wrap64 (x6_1+1)),(by first|rfl|(simp;done)|(simp [*];done)),H',⟨by have:=HK1.out;have:=HK2.out;omega⟩,⟨by (with_reducible repeat (first|apply zK|apply zJ|apply zL));exact HO_5.out⟩,⟨by repeat (first|(with_reducible first|exact HB.out|apply zD|apply zB|apply zC)|exact HB.out)⟩⟩
   ·rw [if_neg c5] at H
    have c5b0:decide (x6_1 < (l0.length:Int)) = false:=zV c5
    clear c5
    obtain rfl:=zb H
    go_wp2
    repeat (go_quiet (fail);try go_wp2)
    go_ret
    exact ⟨_,by first|rfl|(simp [errW_none,errW_some] <;> rfl)|(simp [*,errW_none,errW_some] <;> rfl),by (with_reducible repeat (first|apply zK|apply zJ|apply zL));exact HO_5.out,by repeat (first|(with_reducible first|exact HB.out|apply zD|apply zB|apply zC)|exact HB.out)⟩

/-! ### spec_MapValid: function 76 -/
mutual
def spec_MapValid.l0:Nat→Int→List Int→List Int→Option (Bool)
 | 0,_,_,_=>none
 | k+1,x3,x401000,x401001=>if x3 < (x401001.length:Int) then (if 0≤x3 then (if (rd x401001 x3) = x3 then (some false) else (if 0≤(rd x401001 x3) then (if (rd x401001 x3) < (x401001.length:Int) then (if (rd x401001 (rd x401001 x3)) = x3 then (spec_MapValid.l0 k (wrap64 (x3+1)) x401000 x401001) else (some false)) else (none)) else (none))) else (none)) else ((spec_l1Orbits.f k x401000 x401001).bind fun t405=>(spec_MapValid.l1 k t405 0))
def spec_MapValid.l1:Nat→List Int→Int→Option (Bool)
 | 0,_,_=>none
 | k+1,x4,x5=>if x5 < (x4.length:Int) then (if 0≤x5 then (if (rd x4 x5) = 0 then (spec_MapValid.l1 k x4 (wrap64 (x5+1))) else (some false)) else (none)) else (some true)
end
def spec_MapValid.f (k:Nat) (l0_0:List Int) (l0_1:List Int):Option (Bool):=(spec_l1Both.f k l0_0 l0_1).bind fun t401=>(if t401 = true then (spec_MapValid.l0 k 0 l0_0 l0_1) else (some false))
theorem spec_MapValid.mono_l:∀ k,(∀ y0 y1 y2,LeO (spec_MapValid.l0 k y0 y1 y2) (spec_MapValid.l0 (k+1) y0 y1 y2))∧(∀ y0 y1,LeO (spec_MapValid.l1 k y0 y1) (spec_MapValid.l1 (k+1) y0 y1))
 | 0=>⟨fun _ _ _ r h=>by simp [spec_MapValid.l0] at h,fun _ _ r h=>by simp [spec_MapValid.l1] at h⟩
 | k+1=>by
  obtain ⟨ih0,ih1⟩:=spec_MapValid.mono_l k
  refine ⟨?_,?_⟩
  ·intro y0 y1 y2
   unfold spec_MapValid.l0
   repeat' first
   | (with_reducible exact ih0 _ _ _)
   | (with_reducible exact ih1 _ _)
   | (with_reducible exact spec_l1Both.mono _ _ _)
   | (with_reducible exact spec_l1Orbits.mono _ _ _)
   | (with_reducible exact LeO.refl _)
   | (with_reducible exact zm _)
   | (with_reducible refine zo ?_ ?_)
   | (with_reducible refine zn ?_ (fun _=>?_))
   | exact ih0 _ _ _
   | exact ih1 _ _
   | exact spec_l1Both.mono _ _ _
   | exact spec_l1Orbits.mono _ _ _
   | exact zm _
   | refine zo ?_ ?_
   | refine zn ?_ (fun _=>?_)
  ·intro y0 y1
   unfold spec_MapValid.l1
   repeat' first
   | (with_reducible exact ih0 _ _ _)
   | (with_reducible exact ih1 _ _)
   | (with_reducible exact spec_l1Both.mono _ _ _)
   | (with_reducible exact spec_l1Orbits.mono _ _ _)
   | (with_reducible exact LeO.refl _)
   | (with_reducible exact zm _)
   | (with_reducible refine zo ?_ ?_)
   | (with_reducible refine zn ?_ (fun _=>?_))
   | exact ih0 _ _ _
   | exact ih1 _ _
   | exact spec_l1Both.mono _ _ _
   | exact spec_l1Orbits.mono _ _ _
   | exact zm _
   | refine zo ?_ ?_
   | refine zn ?_ (fun _=>?_)
theorem spec_MapValid.mono:∀ a0 a1 k,LeO (spec_MapValid.f k a0 a1) (spec_MapValid.f (k+1) a0 a1):=by
 intro a0 a1 k
 obtain ⟨ih0,ih1⟩:=spec_MapValid.mono_l k
 unfold spec_MapValid.f
 repeat' first
   | (with_reducible exact ih0 _ _ _)
   | (with_reducible exact ih1 _ _)
   | (with_reducible exact spec_l1Both.mono _ _ _)
   | (with_reducible exact spec_l1Orbits.mono _ _ _)
   | (with_reducible exact LeO.refl _)
   | (with_reducible exact zm _)
   | (with_reducible refine zo ?_ ?_)
   | (with_reducible refine zn ?_ (fun _=>?_))
   | exact ih0 _ _ _
   | exact ih1 _ _
   | exact spec_l1Both.mono _ _ _
   | exact spec_l1Orbits.mono _ _ _
   | exact zm _
   | refine zo ?_ ?_
   | refine zn ?_ (fun _=>?_)
set_option maxHeartbeats 8000000 in
set_option maxRecDepth 100000 in
theorem spec_MapValid.calls (k:Nat) (A0_0:Option Addr) (c0_0:Nat) (l0_0:List Int) (A0_1:Option Addr) (c0_1:Nat) (l0_1:List Int) (r:Bool) (w:World) (hr0_0:Kd.C (Kd.int .i64) w A0_0 l0_0.length l0_0) (hc0_0:l0_0.length≤c0_0) (hr0_1:Kd.C (Kd.int .i64) w A0_1 l0_1.length l0_1) (hc0_1:l0_1.length≤c0_1) (h:spec_MapValid.f k l0_0 l0_1 = some r) :
  Calls Try.prog 76 #[.agg #[.slice A0_0 l0_0.length c0_0,.slice A0_1 l0_1.length c0_1]] w fun e w'=>e = .returned (.bool r)∧Below w.heap.size w w':=by
 have hu33:=Try.underlying33
 have HR0_0:=zA hr0_0
 have HC0_0:=zA hc0_0
 clear hr0_0 hc0_0
 have HR0_1:=zA hr0_1
 have HC0_1:=zA hc0_1
 clear hr0_1 hc0_1
 have HB:=zA (Below.refl w.heap.size w)
 have H:((spec_l1Both.f k l0_0 l0_1).bind fun t401=>(if t401 = true then (spec_MapValid.l0 k 0 l0_0 l0_1) else (some false))) = some r:=h
 clear h
 replace H:=zz0 H
 obtain ⟨t401,A20,H⟩:=H
 replace H:(if t401 = true then (spec_MapValid.l0 k 0 l0_0 l0_1) else (some false)) = some r:=H
 have A2:=zA A20
 clear A20
 by_cases c3:t401 = true
 ·subst c3
  have H1:(spec_MapValid.l0 k 0 l0_0 l0_1) = some r:=by rw [if_pos rfl] at H;exact H
  clear H
  have H:=H1
  clear H1
  have H':=zA H
  clear H
  go_enter Try.func76,Try.ntmps76
  go_wp2_with (first|((with_reducible refine gate_dst (N:=1) rfl ?_);refine box_event ?hg (N:=1) ?hd (cs:=#[.slice A0_0 l0_0.length c0_0,.slice A0_1 l0_1.length c0_1]) (t:=33) ?hr ?_;(case hd=>rfl);(case hg=>rfl);(case hr=>first|(go_simp;done)|(go_simp;rfl));intro gb400 hg w4 hbox hb;have n0_:=zA (za (by repeat (first|(with_reducible first|exact HB.out|apply zD|apply zB|apply zC)|exact HB.out)) hb);have n1_:=zA (hbox);have n2_:=zA ((by rw [hg];exact (zZ (by repeat (first|(with_reducible first|exact HB.out|apply zD|apply zB|apply zC)|exact HB.out))):w.heap.size≤gb400));have n3_:=zA ((by rw [hg];exact (zZ (by repeat (first|(with_reducible first|exact HB.out|apply zD|apply zB|apply zC)|exact HB.out))):w.heap.size≤gb400));clear HB;have HB:=n0_;have BK400:=n1_;have GW400:=n2_;have GE400:=n3_;clear n0_ n1_ n2_ n3_;clear hb hbox hg;have hcz5_0:w4.cell? ⟨gb400,0,none⟩ = some (.slice A0_0 l0_0.length c0_0):=(zc BK400.out 0).trans rfl;have hcz5_1:w4.cell? ⟨gb400,1,none⟩ = some (.slice A0_1 l0_1.length c0_1):=(zc BK400.out 1).trans rfl;have hfz5_0:=zl BK400.out 0;have hfz5_1:=zl BK400.out 1)|(go_at_call 94;(with_reducible refine (spec_l1Both.calls k _ _ l0_0 _ _ l0_1 true _ ?side1 ?side2 ?side3 ?side4 A2.out).mono ?_);(case side1=>repeat (first|exact (zf HR0_0.out HB.out)|(with_reducible exact HR0_0.out)|(with_reducible refine zW ?_ _)|(with_reducible refine zX ?_ _)|(with_reducible refine zY ?_)));(case side2=>exact HC0_0.out);(case side3=>repeat (first|exact (zf HR0_1.out HB.out)|(with_reducible exact HR0_1.out)|(with_reducible refine zW ?_ _)|(with_reducible refine zX ?_ _)|(with_reducible refine zY ?_)));(case side4=>exact HC0_1.out);rintro e w' ⟨rfl,⟨nd,rfl⟩⟩;(try first|exact ⟨rfl,_,World.drewN_drewN _ _ _⟩|exact ⟨rfl,_,Eq.trans (World.drewN_drewN _ _ _) (congrArg (World.drewN _) (Nat.add_assoc _ _ _))⟩)))
  repeat (go_quiet (fail);try go_wp2_with (first|((with_reducible refine gate_dst (N:=1) rfl ?_);refine box_event ?hg (N:=1) ?hd (cs:=#[.slice A0_0 l0_0.length c0_0,.slice A0_1 l0_1.length c0_1]) (t:=33) ?hr ?_;(case hd=>rfl);(case hg=>rfl);(case hr=>first|(go_simp;done)|(go_simp;rfl));intro gb400 hg w4 hbox hb;have n0_:=zA (za (by repeat (first|(with_reducible first|exact HB.out|apply zD|apply zB|apply zC)|exact HB.out)) hb);have n1_:=zA (hbox);have n2_:=zA ((by rw [hg];exact (zZ (by repeat (first|(with_reducible first|exact HB.out|apply zD|apply zB|apply zC)|exact HB.out))):w.heap.size≤gb400));have n3_:=zA ((by rw [hg];exact (zZ (by repeat (first|(with_reducible first|exact HB.out|apply zD|apply zB|apply zC)|exact HB.out))):w.heap.size≤gb400));clear HB;have HB:=n0_;have BK400:=n1_;have GW400:=n2_;have GE400:=n3_;clear n0_ n1_ n2_ n3_;clear hb hbox hg;have hcz5_0:w4.cell? ⟨gb400,0,none⟩ = some (.slice A0_0 l0_0.length c0_0):=(zc BK400.out 0).trans rfl;have hcz5_1:w4.cell? ⟨gb400,1,none⟩ = some (.slice A0_1 l0_1.length c0_1):=(zc BK400.out 1).trans rfl;have hfz5_0:=zl BK400.out 0;have hfz5_1:=zl BK400.out 1)|(go_at_call 94;(with_reducible refine (spec_l1Both.calls k _ _ l0_0 _ _ l0_1 true _ ?side1 ?side2 ?side3 ?side4 A2.out).mono ?_);(case side1=>repeat (first|exact (zf HR0_0.out HB.out)|(with_reducible exact HR0_0.out)|(with_reducible refine zW ?_ _)|(with_reducible refine zX ?_ _)|(with_reducible refine zY ?_)));(case side2=>exact HC0_0.out);(case side3=>repeat (first|exact (zf HR0_1.out HB.out)|(with_reducible exact HR0_1.out)|(with_reducible refine zW ?_ _)|(with_reducible refine zX ?_ _)|(with_reducible refine zY ?_)));(case side4=>exact HC0_1.out);rintro e w' ⟨rfl,⟨nd,rfl⟩⟩;(try first|exact ⟨rfl,_,World.drewN_drewN _ _ _⟩|exact ⟨rfl,_,Eq.trans (World.drewN_drewN _ _ _) (congrArg (World.drewN _) (Nat.add_assoc _ _ _))⟩))))
  go_loopg [3] k (fun kq v3 w' => ∃ (x3_1:Int),v3 = .int .i64 x3_1∧Aside0 (spec_MapValid.l0 kq x3_1 l0_0 l0_1 = some r)∧Aside0 (kq≤k)∧Aside0 (w'.heap[gb400]? = some (.cells #[(.slice A0_0 l0_0.length c0_0),(.slice A0_1 l0_1.length c0_1)] 33 (0,0)))∧Aside0 (Below w.heap.size w w'))
  case atStart=>exact ⟨(0),(by first|rfl|(simp;done)|(simp [*];done)),H',⟨Nat.le_refl _⟩,⟨by (with_reducible repeat (first|refine zM ?_ _|refine zO ?_|refine zN ?_ _));exact BK400.out⟩,⟨by repeat (first|(with_reducible first|exact HB.out|apply zD|apply zB|apply zC|refine zI ?_ GE400.out)|exact HB.out)⟩⟩
  case round =>
   clear H'
   try clear p2
   try clear c3
   try clear hcz5_0
   try clear hcz5_1
   try clear hfz5_0
   try clear hfz5_1
   obtain ⟨x3_1,rfl,HA,HK1,BK400,HB⟩:=hrel
   cases gk with
   | zero=>exact absurd HA.out (by simp [spec_MapValid.l0])
   | succ k1 =>
    have H:=HA.out
    clear HA
    simp only [spec_MapValid.l0] at H
    by_cases c6:x3_1 < (l0_1.length:Int)
    ·rw [if_pos c6] at H
     have c6b0:decide (x3_1 < (l0_1.length:Int)) = true:=zU c6
     clear c6
     by_cases c7:0≤x3_1
     ·rw [if_pos c7] at H
      have c7b0:decide (0≤x3_1) = true:=zU c7
      clear c7
      by_cases c8:(rd l0_1 x3_1) = x3_1
      ·rw [if_pos c8] at H
       have c8b0:((rd l0_1 x3_1) == x3_1) = true:=beq_iff_eq.mpr c8
       have c8b1:((rd l0_1 x3_1) != x3_1) = false:=bne_eq_false_iff_eq.mpr c8
       clear c8
       obtain rfl:=zb H
       have hcz9_0:wr.cell? ⟨gb400,0,none⟩ = some (.slice A0_0 l0_0.length c0_0):=(zc BK400.out 0).trans rfl
       have hcz9_1:wr.cell? ⟨gb400,1,none⟩ = some (.slice A0_1 l0_1.length c0_1):=(zc BK400.out 1).trans rfl
       have hfz9_0:=zl BK400.out 0
       have hfz9_1:=zl BK400.out 1
       have p402:0≤(x3_1:Int):=zF (by first|(with_reducible assumption)|assumption)
       have q402:x3_1 < (l0_1.length:Int):=zF (by first|(with_reducible assumption)|assumption)
       obtain ⟨ad402,e402,hx402_0⟩:=Kd.at_int HR0_1.out x3_1 p402 q402
       cases e402
       replace hx402_0:=(HB.out.cell (zk w _ hx402_0)).trans hx402_0
       replace p402:=eq_true p402
       replace q402:=eq_true q402
       go_wp2
       repeat (go_quiet (fail);try go_wp2)
       go_ret
       exact ⟨by first|rfl|(simp [errW_none,errW_some] <;> rfl)|(simp [*,errW_none,errW_some] <;> rfl),by repeat (first|(with_reducible first|exact HB.out|apply zD|apply zB|apply zC|refine zI ?_ GE400.out)|exact HB.out)⟩
      ·rw [if_neg c8] at H
       have c8b0:((rd l0_1 x3_1) == x3_1) = false:=beq_eq_false_iff_ne.mpr c8
       have c8b1:((rd l0_1 x3_1) != x3_1) = true:=bne_iff_ne.mpr c8
       by_cases c10:0≤(rd l0_1 x3_1)
       ·rw [if_pos c10] at H
        have c10b0:decide (0≤(rd l0_1 x3_1)) = true:=zU c10
        clear c10
        by_cases c11:(rd l0_1 x3_1) < (l0_1.length:Int)
        ·rw [if_pos c11] at H
         have c11b0:decide ((rd l0_1 x3_1) < (l0_1.length:Int)) = true:=zU c11
         clear c11
         by_cases c12:(rd l0_1 (rd l0_1 x3_1)) = x3_1
         ·rw [if_pos c12] at H
          have c12b0:((rd l0_1 (rd l0_1 x3_1)) == x3_1) = true:=beq_iff_eq.mpr c12
          have c12b1:((rd l0_1 (rd l0_1 x3_1)) != x3_1) = false:=bne_eq_false_iff_eq.mpr c12
          clear c12
          have H':=zA H
          clear H
          have hcz13_0:wr.cell? ⟨gb400,0,none⟩ = some (.slice A0_0 l0_0.length c0_0):=(zc BK400.out 0).trans rfl
          have hcz13_1:wr.cell? ⟨gb400,1,none⟩ = some (.slice A0_1 l0_1.length c0_1):=(zc BK400.out 1).trans rfl
          have hfz13_0:=zl BK400.out 0
          have hfz13_1:=zl BK400.out 1
          have p402:0≤(x3_1:Int):=zF (by first|(with_reducible assumption)|assumption)
          have q402:x3_1 < (l0_1.length:Int):=zF (by first|(with_reducible assumption)|assumption)
          obtain ⟨ad402,e402,hx402_0⟩:=Kd.at_int HR0_1.out x3_1 p402 q402
          cases e402
          replace hx402_0:=(HB.out.cell (zk w _ hx402_0)).trans hx402_0
          replace p402:=eq_true p402
          replace q402:=eq_true q402
          have p403:0≤(x3_1:Int):=zF (by first|(with_reducible assumption)|assumption)
          have q403:x3_1 < (l0_1.length:Int):=zF (by first|(with_reducible assumption)|assumption)
          obtain ⟨ad403,e403,hx403_0⟩:=Kd.at_int HR0_1.out x3_1 p403 q403
          obtain rfl:ad402 = ad403:=(by injection e403)
          replace hx403_0:=(HB.out.cell (zk w _ hx403_0)).trans hx403_0
          replace p403:=eq_true p403
          replace q403:=eq_true q403
          have p404:0≤((rd l0_1 x3_1):Int):=zF (by first|(with_reducible assumption)|assumption)
          have q404:(rd l0_1 x3_1) < (l0_1.length:Int):=zF (by first|(with_reducible assumption)|assumption)
          obtain ⟨ad404,e404,hx404_0⟩:=Kd.at_int HR0_1.out (rd l0_1 x3_1) p404 q404
          obtain rfl:ad402 = ad404:=(by injection e404)
          replace hx404_0:=(HB.out.cell (zk w _ hx404_0)).trans hx404_0
          replace p404:=eq_true p404
          replace q404:=eq_true q404
          go_wp2
          repeat (go_quiet (fail);try go_wp2)
          go_roundg k1
          case measure=>have:=HK1.out;omega
          case rel=>exact ⟨(wrap64 (x3_1+1)),(by first|rfl|(simp;done)|(simp [*];done)),H',⟨by have:=HK1.out;omega⟩,⟨by (with_reducible repeat (first|refine zM ?_ _|refine zO ?_|refine zN ?_ _));exact BK400.out⟩,⟨by repeat (first|(with_reducible first|exact HB.out|apply zD|apply zB|apply zC|refine zI ?_ GE400.out)|exact HB.out)⟩⟩
         ·rw [if_neg c12] at H
          have c12b0:((rd l0_1 (rd l0_1 x3_1)) == x3_1) = false:=beq_eq_false_iff_ne.mpr c12
          have c12b1:((rd l0_1 (rd l0_1 x3_1)) != x3_1) = true:=bne_iff_ne.mpr c12
          obtain rfl:=zb H
          have hcz14_0:wr.cell? ⟨gb400,0,none⟩ = some (.slice A0_0 l0_0.length c0_0):=(zc BK400.out 0).trans rfl
          have hcz14_1:wr.cell? ⟨gb400,1,none⟩ = some (.slice A0_1 l0_1.length c0_1):=(zc BK400.out 1).trans rfl
          have hfz14_0:=zl BK400.out 0
          have hfz14_1:=zl BK400.out 1
          have p402:0≤(x3_1:Int):=zF (by first|(with_reducible assumption)|assumption)
          have q402:x3_1 < (l0_1.length:Int):=zF (by first|(with_reducible assumption)|assumption)
          obtain ⟨ad402,e402,hx402_0⟩:=Kd.at_int HR0_1.out x3_1 p402 q402
          cases e402
          replace hx402_0:=(HB.out.cell (zk w _ hx402_0)).trans hx402_0
          replace p402:=eq_true p402
          replace q402:=eq_true q402
          have p403:0≤(x3_1:Int):=zF (by first|(with_reducible assumption)|assumption)
          have q403:x3_1 < (l0_1.length:Int):=zF (by first|(with_reducible assumption)|assumption)
          obtain ⟨ad403,e403,hx403_0⟩:=Kd.at_int HR0_1.out x3_1 p403 q403
          obtain rfl:ad402 = ad403:=(by injection e403)
          replace hx403_0:=(HB.out.cell (zk w _ hx403_0)).trans hx403_0
          replace p403:=eq_true p403
          replace q403:=eq_true q403
          have p404:0≤((rd l0_1 x3_1):Int):=zF (by first|(with_reducible assumption)|assumption)
          have q404:(rd l0_1 x3_1) < (l0_1.length:Int):=zF (by first|(with_reducible assumption)|assumption)
          obtain ⟨ad404,e404,hx404_0⟩:=Kd.at_int HR0_1.out (rd l0_1 x3_1) p404 q404
          obtain rfl:ad402 = ad404:=(by injection e404)
          replace hx404_0:=(HB.out.cell (zk w _ hx404_0)).trans hx404_0
          replace p404:=eq_true p404
          replace q404:=eq_true q404
          go_wp2
          repeat (go_quiet (fail);try go_wp2)
          go_ret
          exact ⟨by first|rfl|(simp [errW_none,errW_some] <;> rfl)|(simp [*,errW_none,errW_some] <;> rfl),by repeat (first|(with_reducible first|exact HB.out|apply zD|apply zB|apply zC|refine zI ?_ GE400.out)|exact HB.out)⟩
        ·rw [if_neg c11] at H
         exact absurd H (by simp)
       ·rw [if_neg c10] at H
        exact absurd H (by simp)
     ·rw [if_neg c7] at H
      exact absurd H (by simp)
    ·rw [if_neg c6] at H
     have c6b0:decide (x3_1 < (l0_1.length:Int)) = false:=zV c6
     clear c6
     replace H:=zz0 H
     obtain ⟨t405,A150,H⟩:=H
     replace H:(spec_MapValid.l1 k1 t405 0) = some r:=H
     have A15:=zA A150
     clear A150
     have H':=zA H
     clear H
     have hcz16_0:wr.cell? ⟨gb400,0,none⟩ = some (.slice A0_0 l0_0.length c0_0):=(zc BK400.out 0).trans rfl
     have hcz16_1:wr.cell? ⟨gb400,1,none⟩ = some (.slice A0_1 l0_1.length c0_1):=(zc BK400.out 1).trans rfl
     have hfz16_0:=zl BK400.out 0
     have hfz16_1:=zl BK400.out 1
     go_wp2_with (first|(go_at_call 95;(with_reducible refine (spec_l1Orbits.calls k1 _ _ l0_0 _ _ l0_1 t405 _ ?side1 ?side2 ?side3 ?side4 A15.out).mono ?_);(case side1=>repeat (first|exact (zf HR0_0.out HB.out)|(with_reducible exact HR0_0.out)|(with_reducible refine zW ?_ _)|(with_reducible refine zX ?_ _)|(with_reducible refine zY ?_)));(case side2=>exact HC0_0.out);(case side3=>repeat (first|exact (zf HR0_1.out HB.out)|(with_reducible exact HR0_1.out)|(with_reducible refine zW ?_ _)|(with_reducible refine zX ?_ _)|(with_reducible refine zY ?_)));(case side4=>exact HC0_1.out);rintro e w17 ⟨v406,rfl,ho0,hb⟩;have n0_:=zA (zq ho0 (zZ (by repeat (first|(with_reducible first|exact HB.out|apply zD|apply zB|apply zC|refine zI ?_ GE400.out)|exact HB.out))));have n1_:=zA (zg (g:=gb400) (o:=.cells #[.slice A0_0 l0_0.length c0_0,.slice A0_1 l0_1.length c0_1] 33 (0,0)) (by (with_reducible repeat (first|refine zM ?_ _|refine zO ?_|refine zN ?_ _));exact BK400.out) hb);have n2_:=zA (za (by repeat (first|(with_reducible first|exact HB.out|apply zD|apply zB|apply zC|refine zI ?_ GE400.out)|exact HB.out)) hb);clear BK400;clear HB;have HO407:=n0_;have BK400:=n1_;have HB:=n2_;clear n0_ n1_ n2_;(try clear hb);(try clear hb2);(try clear hk);(try clear hi);(try clear ho0)))
     repeat (go_quiet (fail);try go_wp2_with (first|(go_at_call 95;(with_reducible refine (spec_l1Orbits.calls k1 _ _ l0_0 _ _ l0_1 t405 _ ?side1 ?side2 ?side3 ?side4 A15.out).mono ?_);(case side1=>repeat (first|exact (zf HR0_0.out HB.out)|(with_reducible exact HR0_0.out)|(with_reducible refine zW ?_ _)|(with_reducible refine zX ?_ _)|(with_reducible refine zY ?_)));(case side2=>exact HC0_0.out);(case side3=>repeat (first|exact (zf HR0_1.out HB.out)|(with_reducible exact HR0_1.out)|(with_reducible refine zW ?_ _)|(with_reducible refine zX ?_ _)|(with_reducible refine zY ?_)));(case side4=>exact HC0_1.out);rintro e w17 ⟨v406,rfl,ho0,hb⟩;have n0_:=zA (zq ho0 (zZ (by repeat (first|(with_reducible first|exact HB.out|apply zD|apply zB|apply zC|refine zI ?_ GE400.out)|exact HB.out))));have n1_:=zA (zg (g:=gb400) (o:=.cells #[.slice A0_0 l0_0.length c0_0,.slice A0_1 l0_1.length c0_1] 33 (0,0)) (by (with_reducible repeat (first|refine zM ?_ _|refine zO ?_|refine zN ?_ _));exact BK400.out) hb);have n2_:=zA (za (by repeat (first|(with_reducible first|exact HB.out|apply zD|apply zB|apply zC|refine zI ?_ GE400.out)|exact HB.out)) hb);clear BK400;clear HB;have HO407:=n0_;have BK400:=n1_;have HB:=n2_;clear n0_ n1_ n2_;(try clear hb);(try clear hb2);(try clear hk);(try clear hi);(try clear ho0))))
     go_loopg [5] k1 (fun kq v5 w' => ∃ (x5_2:Int),v5 = .int .i64 x5_2∧Aside0 (spec_MapValid.l1 kq t405 x5_2 = some r)∧Aside0 (kq≤k1)∧Aside0 (Kd.R (Kd.int .i64) 3 w' w.heap.size (fun _=>True) v406 t405)∧Aside0 (w'.heap[gb400]? = some (.cells #[(.slice A0_0 l0_0.length c0_0),(.slice A0_1 l0_1.length c0_1)] 33 (0,0)))∧Aside0 (Below w.heap.size w w'))
     case atStart=>exact ⟨(0),(by first|rfl|(simp;done)|(simp [*];done)),H',⟨Nat.le_refl _⟩,⟨by (with_reducible repeat (first|apply zK|apply zJ|apply zL));exact HO407.out⟩,⟨by (with_reducible repeat (first|refine zM ?_ _|refine zO ?_|refine zN ?_ _));exact BK400.out⟩,⟨by repeat (first|(with_reducible first|exact HB.out|apply zD|apply zB|apply zC|refine zI ?_ GE400.out)|exact HB.out)⟩⟩
     case round =>
      clear H'
      try clear c1
      try clear p2
      try clear c3
      try clear p4
      try clear q4
      try clear hx4
      try clear c6
      try clear c6b0
      try clear p6
      try clear c7
      try clear c7b0
      try clear c8
      try clear c8b0
      try clear c8b1
      try clear c10
      try clear c10b0
      try clear c11
      try clear c11b0
      try clear c12
      try clear c12b0
      try clear c12b1
      try clear hcz13_0
      try clear hcz13_1
      try clear hcz14_0
      try clear hcz14_1
      try clear hcz16_0
      try clear hcz16_1
      try clear hcz5_0
      try clear hcz5_1
      try clear hcz9_0
      try clear hcz9_1
      try clear hfz13_0
      try clear hfz13_1
      try clear hfz14_0
      try clear hfz14_1
      try clear hfz16_0
      try clear hfz16_1
      try clear hfz5_0
      try clear hfz5_1
      try clear hfz9_0
      try clear hfz9_1
      try clear hx402_0
      try clear hx403_0
      try clear hx404_0
      try clear p2
      try clear p402
      try clear p403
      try clear p404
      try clear q402
      try clear q403
      try clear q404
      obtain ⟨x5_2,rfl,HA,HK2,HO_4,BK400,HB⟩:=hrel
      cases gk with
      | zero=>exact absurd HA.out (by simp [spec_MapValid.l1])
      | succ k2 =>
       have H:=HA.out
       clear HA
       simp only [spec_MapValid.l1] at H
       by_cases c18:x5_2 < (t405.length:Int)
       ·rw [if_pos c18] at H
        have c18b0:decide (x5_2 < (t405.length:Int)) = true:=zU c18
        clear c18
        by_cases c19:0≤x5_2
        ·rw [if_pos c19] at H
         have c19b0:decide (0≤x5_2) = true:=zU c19
         clear c19
         by_cases c20:(rd t405 x5_2) = 0
         ·rw [if_pos c20] at H
          have c20b0:((rd t405 x5_2) == 0) = true:=beq_iff_eq.mpr c20
          have c20b1:((rd t405 x5_2) != 0) = false:=bne_eq_false_iff_eq.mpr c20
          clear c20
          have H':=zA H
          clear H
          obtain ⟨Ao21,co21,eo21⟩:=zr HO_4.out
          subst eo21
          have p408:0≤(x5_2:Int):=zF (by first|(with_reducible assumption)|assumption)
          have q408:x5_2 < (t405.length:Int):=zF (by first|(with_reducible assumption)|assumption)
          obtain ⟨ad408,e408,hx408_0⟩:=Kd.at_int (zd HO_4.out).2.2 x5_2 p408 q408
          cases e408
          replace p408:=eq_true p408
          replace q408:=eq_true q408
          go_wp2
          repeat (go_quiet (fail);try go_wp2)
          go_roundg k2
          case measure=>have:=HK1.out;have:=HK2.out;omega
          case rel=>exact ⟨(wrap64 (x5_2+1)),(by first|rfl|(simp;done)|(simp [*];done)),H',⟨by have:=HK1.out;have:=HK2.out;omega⟩,⟨by (with_reducible repeat (first|apply zK|apply zJ|apply zL));exact HO_4.out⟩,⟨by (with_reducible repeat (first|refine zM ?_ _|refine zO ?_|refine zN ?_ _));exact BK400.out⟩,⟨by repeat (first|(with_reducible first|exact HB.out|apply zD|apply zB|apply zC|refine zI ?_ GE400.out)|exact HB.out)⟩⟩
         ·rw [if_neg c20] at H
          have c20b0:((rd t405 x5_2) == 0) = false:=beq_eq_false_iff_ne.mpr c20
          have c20b1:((rd t405 x5_2) != 0) = true:=bne_iff_ne.mpr c20
          obtain rfl:=zb H
          obtain ⟨Ao22,co22,eo22⟩:=zr HO_4.out
          subst eo22
          have p408:0≤(x5_2:Int):=zF (by first|(with_reducible assumption)|assumption)
          have q408:x5_2 < (t405.length:Int):=zF (by first|(with_reducible assumption)|assumption)
          obtain ⟨ad408,e408,hx408_0⟩:=Kd.at_int (zd HO_4.out).2.2 x5_2 p408 q408
          cases e408
          replace p408:=eq_true p408
          replace q408:=eq_true q408
          go_wp2
          repeat (go_quiet (fail);try go_wp2)
          go_ret
          exact ⟨by first|rfl|(simp [errW_none,errW_some] <;> rfl)|(simp [*,errW_none,errW_some] <;> rfl),by repeat (first|(with_reducible first|exact HB.out|apply zD|apply zB|apply zC|refine zI ?_ GE400.out)|exact HB.out)⟩
        ·rw [if_neg c19] at H
         exact absurd H (by simp)
       ·rw [if_neg c18] at H
        have c18b0:decide (x5_2 < (t405.length:Int)) = false:=zV c18
        clear c18
        obtain rfl:=zb H
        obtain ⟨Ao23,co23,eo23⟩:=zr HO_4.out
        subst eo23
        go_wp2
        repeat (go_quiet (fail);try go_wp2)
        go_ret
        exact ⟨by first|rfl|(simp [errW_none,errW_some] <;> rfl)|(simp [*,errW_none,errW_some] <;> rfl),by repeat (first|(with_reducible first|exact HB.out|apply zD|apply zB|apply zC|refine zI ?_ GE400.out)|exact HB.out)⟩
 ·replace c3:=Bool.eq_false_iff.mpr c3
  subst c3
  have H1:(some false) = some r:=by rw [if_neg (show ¬ (false = true) by decide)] at H;exact H
  clear H
  have H:=H1
  clear H1
  obtain rfl:=zb H
  go_enter Try.func76,Try.ntmps76
  go_wp2_with (first|((with_reducible refine gate_dst (N:=1) rfl ?_);refine box_event ?hg (N:=1) ?hd (cs:=#[.slice A0_0 l0_0.length c0_0,.slice A0_1 l0_1.length c0_1]) (t:=33) ?hr ?_;(case hd=>rfl);(case hg=>rfl);(case hr=>first|(go_simp;done)|(go_simp;rfl));intro gb400 hg w24 hbox hb;have n0_:=zA (za (by repeat (first|(with_reducible first|exact HB.out|apply zD|apply zB|apply zC)|exact HB.out)) hb);have n1_:=zA (hbox);have n2_:=zA ((by rw [hg];exact (zZ (by repeat (first|(with_reducible first|exact HB.out|apply zD|apply zB|apply zC)|exact HB.out))):w.heap.size≤gb400));have n3_:=zA ((by rw [hg];exact (zZ (by repeat (first|(with_reducible first|exact HB.out|apply zD|apply zB|apply zC)|exact HB.out))):w.heap.size≤gb400));clear HB;have HB:=n0_;have BK400:=n1_;have GW400:=n2_;have GE400:=n3_;clear n0_ n1_ n2_ n3_;clear hb hbox hg;have hcz25_0:w24.cell? ⟨gb400,0,none⟩ = some (.slice A0_0 l0_0.length c0_0):=(zc BK400.out 0).trans rfl;have hcz25_1:w24.cell? ⟨gb400,1,none⟩ = some (.slice A0_1 l0_1.length c0_1):=(zc BK400.out 1).trans rfl;have hfz25_0:=zl BK400.out 0;have hfz25_1:=zl BK400.out 1)|(go_at_call 94;(with_reducible refine (spec_l1Both.calls k _ _ l0_0 _ _ l0_1 false _ ?side1 ?side2 ?side3 ?side4 A2.out).mono ?_);(case side1=>repeat (first|exact (zf HR0_0.out HB.out)|(with_reducible exact HR0_0.out)|(with_reducible refine zW ?_ _)|(with_reducible refine zX ?_ _)|(with_reducible refine zY ?_)));(case side2=>exact HC0_0.out);(case side3=>repeat (first|exact (zf HR0_1.out HB.out)|(with_reducible exact HR0_1.out)|(with_reducible refine zW ?_ _)|(with_reducible refine zX ?_ _)|(with_reducible refine zY ?_)));(case side4=>exact HC0_1.out);rintro e w' ⟨rfl,⟨nd,rfl⟩⟩;(try first|exact ⟨rfl,_,World.drewN_drewN _ _ _⟩|exact ⟨rfl,_,Eq.trans (World.drewN_drewN _ _ _) (congrArg (World.drewN _) (Nat.add_assoc _ _ _))⟩)))
  repeat (go_quiet (fail);try go_wp2_with (first|((with_reducible refine gate_dst (N:=1) rfl ?_);refine box_event ?hg (N:=1) ?hd (cs:=#[.slice A0_0 l0_0.length c0_0,.slice A0_1 l0_1.length c0_1]) (t:=33) ?hr ?_;(case hd=>rfl);(case hg=>rfl);(case hr=>first|(go_simp;done)|(go_simp;rfl));intro gb400 hg w24 hbox hb;have n0_:=zA (za (by repeat (first|(with_reducible first|exact HB.out|apply zD|apply zB|apply zC)|exact HB.out)) hb);have n1_:=zA (hbox);have n2_:=zA ((by rw [hg];exact (zZ (by repeat (first|(with_reducible first|exact HB.out|apply zD|apply zB|apply zC)|exact HB.out))):w.heap.size≤gb400));have n3_:=zA ((by rw [hg];exact (zZ (by repeat (first|(with_reducible first|exact HB.out|apply zD|apply zB|apply zC)|exact HB.out))):w.heap.size≤gb400));clear HB;have HB:=n0_;have BK400:=n1_;have GW400:=n2_;have GE400:=n3_;clear n0_ n1_ n2_ n3_;clear hb hbox hg;have hcz25_0:w24.cell? ⟨gb400,0,none⟩ = some (.slice A0_0 l0_0.length c0_0):=(zc BK400.out 0).trans rfl;have hcz25_1:w24.cell? ⟨gb400,1,none⟩ = some (.slice A0_1 l0_1.length c0_1):=(zc BK400.out 1).trans rfl;have hfz25_0:=zl BK400.out 0;have hfz25_1:=zl BK400.out 1)|(go_at_call 94;(with_reducible refine (spec_l1Both.calls k _ _ l0_0 _ _ l0_1 false _ ?side1 ?side2 ?side3 ?side4 A2.out).mono ?_);(case side1=>repeat (first|exact (zf HR0_0.out HB.out)|(with_reducible exact HR0_0.out)|(with_reducible refine zW ?_ _)|(with_reducible refine zX ?_ _)|(with_reducible refine zY ?_)));(case side2=>exact HC0_0.out);(case side3=>repeat (first|exact (zf HR0_1.out HB.out)|(with_reducible exact HR0_1.out)|(with_reducible refine zW ?_ _)|(with_reducible refine zX ?_ _)|(with_reducible refine zY ?_)));(case side4=>exact HC0_1.out);rintro e w' ⟨rfl,⟨nd,rfl⟩⟩;(try first|exact ⟨rfl,_,World.drewN_drewN _ _ _⟩|exact ⟨rfl,_,Eq.trans (World.drewN_drewN _ _ _) (congrArg (World.drewN _) (Nat.add_assoc _ _ _))⟩))))
  go_ret
  exact ⟨by first|rfl|(simp [errW_none,errW_some] <;> rfl)|(simp [*,errW_none,errW_some] <;> rfl),by repeat (first|(with_reducible first|exact HB.out|apply zD|apply zB|apply zC|refine zI ?_ GE400.out)|exact HB.out)⟩

end Go.Proofs.Ytdaiohcgdpclnaa.Q
