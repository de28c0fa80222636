import Derived.Test.YtdaiohcgdpclnaaQ0
import Derived.Test.YtdaiohcgdpclnaaQ4
import Derived.Test.YtdaiohcgdpclnaaZ
namespace Go.Proofs.Ytdaiohcgdpclnaa.Q
open Go.RowKit Go.Proofs.YtdaiohcgdpclnaaW.PrintWords Go.Proofs.YtdaiohcgdpclnaaW.PrintLast Go.Proofs.YtdaiohcgdpclnaaW.PrintMore
attribute [local go_sem] max2_int min2_int max_two min_two max_three min_three max_four min_four   -- for this text's walks alone
set_option linter.unusedVariables false
set_option linter.unusedSimpArgs false

/-! ### slices_Compare_int_int: function 87 -/
def slices_Compare_int_int.l0:Nat→List Int→List Int→List Int→Int→Int→Option (Int)
 | 0,_,_,_,_,_=>none
 | k+1,x0,x1,x9,x10,x11=>if x11 < x10 then (if 0≤x11 then (if x11 < (x9.length:Int) then (if x11 ≥ (x1.length:Int) then (some 1) else (if x11 < (x1.length:Int) then ((cmp_Compare_int.f (rd x9 x11) (rd x1 x11)).bind fun t201=>(if t201 = 0 then (slices_Compare_int_int.l0 k x0 x1 x9 x10 (wrap64 (x11+1))) else (some t201))) else (none))) else (none)) else (none)) else (if (x0.length:Int) < (x1.length:Int) then (some (-1)) else (some 0))
def slices_Compare_int_int.f (k:Nat) (l0:List Int) (l1:List Int):Option (Int):=slices_Compare_int_int.l0 k l0 l1 l0 (l0.length:Int) 0
theorem slices_Compare_int_int.mono_l:∀ k,(∀ y0 y1 y2 y3 y4,LeO (slices_Compare_int_int.l0 k y0 y1 y2 y3 y4) (slices_Compare_int_int.l0 (k+1) y0 y1 y2 y3 y4))
 | 0=>fun _ _ _ _ _ r h=>by simp [slices_Compare_int_int.l0] at h
 | k+1=>by
  have ih0:=slices_Compare_int_int.mono_l k
  ·intro y0 y1 y2 y3 y4
   unfold slices_Compare_int_int.l0
   repeat' first
   | (with_reducible exact ih0 _ _ _ _ _)
   | (with_reducible exact LeO.refl _)
   | (with_reducible exact zm _)
   | (with_reducible refine zo ?_ ?_)
   | (with_reducible refine zn ?_ (fun _=>?_))
   | exact ih0 _ _ _ _ _
   | exact zm _
   | refine zo ?_ ?_
   | refine zn ?_ (fun _=>?_)
theorem slices_Compare_int_int.mono:∀ a0 a1 k,LeO (slices_Compare_int_int.f k a0 a1) (slices_Compare_int_int.f (k+1) a0 a1):=by
 intro a0 a1 k
 have ih0:=slices_Compare_int_int.mono_l k
 unfold slices_Compare_int_int.f
 repeat' first
   | (with_reducible exact ih0 _ _ _ _ _)
   | (with_reducible exact LeO.refl _)
   | (with_reducible exact zm _)
   | (with_reducible refine zo ?_ ?_)
   | (with_reducible refine zn ?_ (fun _=>?_))
   | exact ih0 _ _ _ _ _
   | exact zm _
   | refine zo ?_ ?_
   | refine zn ?_ (fun _=>?_)
set_option maxHeartbeats 8000000 in
set_option maxRecDepth 100000 in
theorem slices_Compare_int_int.calls (k:Nat) (A0:Option Addr) (c0:Nat) (l0:List Int) (A1:Option Addr) (c1:Nat) (l1:List Int) (r:Int) (w:World) (hr0:Kd.C (Kd.int .i64) w A0 l0.length l0) (hc0:l0.length≤c0) (hr1:Kd.C (Kd.int .i64) w A1 l1.length l1) (hc1:l1.length≤c1) (h:slices_Compare_int_int.f k l0 l1 = some r) :
  Calls Try.prog 87 #[.slice A0 l0.length c0,.slice A1 l1.length c1] w fun e w'=>e = .returned (.int .i64 r)∧Drawn0 w w':=by
 have HR0:=zA hr0
 have HC0:=zA hc0
 clear hr0 hc0
 have HR1:=zA hr1
 have HC1:=zA hc1
 clear hr1 hc1
 have H:(slices_Compare_int_int.l0 k l0 l1 l0 (l0.length:Int) 0) = some r:=h
 clear h
 have H':=zA H
 clear H
 go_enter Try.func87,Try.ntmps87
 go_wp2
 go_loopg [11] k (fun kq v11 w' => ∃ (x11_1:Int),v11 = .int .i64 x11_1∧Aside0 (slices_Compare_int_int.l0 kq l0 l1 l0 (l0.length:Int) x11_1 = some r)∧Aside0 (kq≤k)∧Drawn0 w w')
 case atStart=>exact ⟨(0),(by first|rfl|(simp;done)|(simp [*];done)),H',⟨Nat.le_refl _⟩,by repeat (first|exact Drawn0.refl _|apply Drawn0.step)⟩
 case round =>
  clear H'
  try clear c1
  try clear p2
  obtain ⟨x11_1,rfl,HA,HK1,⟨m1,rfl⟩⟩:=hrel
  cases gk with
  | zero=>exact absurd HA.out (by simp [slices_Compare_int_int.l0])
  | succ k1 =>
   have H:=HA.out
   clear HA
   simp only [slices_Compare_int_int.l0] at H
   by_cases c3:x11_1 < (l0.length:Int)
   ·rw [if_pos c3] at H
    have c3b0:decide (x11_1 < (l0.length:Int)) = true:=zU c3
    clear c3
    by_cases c4:0≤x11_1
    ·rw [if_pos c4] at H
     have c4b0:decide (0≤x11_1) = true:=zU c4
     clear c4
     by_cases c5:x11_1 < (l0.length:Int)
     ·rw [if_pos c5] at H
      have c5b0:decide (x11_1 < (l0.length:Int)) = true:=zU c5
      clear c5
      by_cases c6:x11_1 ≥ (l1.length:Int)
      ·rw [if_pos c6] at H
       have c6b0:decide ((l1.length:Int)≤x11_1) = true:=zU c6
       clear c6
       obtain rfl:=zb H
       have p199:0≤(x11_1:Int):=zF (by first|(with_reducible assumption)|assumption)
       have q199:x11_1 < (l0.length:Int):=zF (by first|(with_reducible assumption)|assumption)
       obtain ⟨ad199,e199,hx199_0⟩:=Kd.at_int HR0.out x11_1 p199 q199
       cases e199
       replace p199:=eq_true p199
       replace q199:=eq_true q199
       go_wp2
       go_ret
       exact ⟨by first|rfl|(simp;done)|(simp [*];done),by repeat (first|exact Drawn0.refl _|apply Drawn0.step)⟩
      ·rw [if_neg c6] at H
       have c6b0:decide ((l1.length:Int)≤x11_1) = false:=zV c6
       clear c6
       by_cases c7:x11_1 < (l1.length:Int)
       ·rw [if_pos c7] at H
        have c7b0:decide (x11_1 < (l1.length:Int)) = true:=zU c7
        clear c7
        replace H:=zz0 H
        obtain ⟨t201,A80,H⟩:=H
        replace H:(if t201 = 0 then (slices_Compare_int_int.l0 k1 l0 l1 l0 (l0.length:Int) (wrap64 (x11_1+1))) else (some t201)) = some r:=H
        have A8:=zA A80
        clear A80
        by_cases c9:t201 = 0
        ·rw [if_pos c9] at H
         have c9b0:(t201 == 0) = true:=beq_iff_eq.mpr c9
         have c9b1:(t201 != 0) = false:=bne_eq_false_iff_eq.mpr c9
         clear c9
         have H':=zA H
         clear H
         have p199:0≤(x11_1:Int):=zF (by first|(with_reducible assumption)|assumption)
         have q199:x11_1 < (l0.length:Int):=zF (by first|(with_reducible assumption)|assumption)
         obtain ⟨ad199,e199,hx199_0⟩:=Kd.at_int HR0.out x11_1 p199 q199
         cases e199
         replace p199:=eq_true p199
         replace q199:=eq_true q199
         have p200:0≤(x11_1:Int):=zF (by first|(with_reducible assumption)|assumption)
         have q200:x11_1 < (l1.length:Int):=zF (by first|(with_reducible assumption)|assumption)
         obtain ⟨ad200,e200,hx200_0⟩:=Kd.at_int HR1.out x11_1 p200 q200
         cases e200
         replace p200:=eq_true p200
         replace q200:=eq_true q200
         go_wp2_with (first|((with_reducible refine gate_callee (f:=100) rfl ?_);refine goesL_ (some 26) rfl rfl Try.func100 (by kernel_rfl) rfl #[.int .i64 (rd l0 x11_1),.int .i64 (rd l1 x11_1)] rfl (by (try simp only [zP,zS,zT]);first|done|rfl|(simp only [zR,zQ];rfl)) ?_;(with_reducible refine (cmp_Compare_int.calls (rd l0 x11_1) (rd l1 x11_1) t201 _ A8.out).mono ?_);rintro e w' ⟨rfl,⟨nd,rfl⟩⟩;refine ⟨_,rfl,?_⟩))
         go_roundg k1
         case measure=>have:=HK1.out;omega
         case rel=>exact ⟨(wrap64 (x11_1+1)),(by first|rfl|(simp;done)|(simp [*];done)),H',⟨by have:=HK1.out;omega⟩,by repeat (first|exact Drawn0.refl _|apply Drawn0.step)⟩
        ·rw [if_neg c9] at H
         have c9b0:(t201 == 0) = false:=beq_eq_false_iff_ne.mpr c9
         have c9b1:(t201 != 0) = true:=bne_iff_ne.mpr c9
         obtain rfl:=zb H
         have p199:0≤(x11_1:Int):=zF (by first|(with_reducible assumption)|assumption)
         have q199:x11_1 < (l0.length:Int):=zF (by first|(with_reducible assumption)|assumption)
         obtain ⟨ad199,e199,hx199_0⟩:=Kd.at_int HR0.out x11_1 p199 q199
         cases e199
         replace p199:=eq_true p199
         replace q199:=eq_true q199
         have p200:0≤(x11_1:Int):=zF (by first|(with_reducible assumption)|assumption)
         have q200:x11_1 < (l1.length:Int):=zF (by first|(with_reducible assumption)|assumption)
         obtain ⟨ad200,e200,hx200_0⟩:=Kd.at_int HR1.out x11_1 p200 q200
         cases e200
         replace p200:=eq_true p200
         replace q200:=eq_true q200
         go_wp2_with (first|((with_reducible refine gate_callee (f:=100) rfl ?_);refine goesL_ (some 26) rfl rfl Try.func100 (by kernel_rfl) rfl #[.int .i64 (rd l0 x11_1),.int .i64 (rd l1 x11_1)] rfl (by (try simp only [zP,zS,zT]);first|done|rfl|(simp only [zR,zQ];rfl)) ?_;(with_reducible refine (cmp_Compare_int.calls (rd l0 x11_1) (rd l1 x11_1) t201 _ A8.out).mono ?_);rintro e w' ⟨rfl,⟨nd,rfl⟩⟩;refine ⟨_,rfl,?_⟩))
         go_ret
         exact ⟨by first|rfl|(simp;done)|(simp [*];done),by repeat (first|exact Drawn0.refl _|apply Drawn0.step)⟩
       ·rw [if_neg c7] at H
        exact absurd H (by simp)
     ·rw [if_neg c5] at H
      exact absurd H (by simp)
    ·rw [if_neg c4] at H
     exact absurd H (by simp)
   ·rw [if_neg c3] at H
    have c3b0:decide (x11_1 < (l0.length:Int)) = false:=zV c3
    clear c3
    by_cases c10:(l0.length:Int) < (l1.length:Int)
    ·rw [if_pos c10] at H
     have c10b0:decide ((l0.length:Int) < (l1.length:Int)) = true:=zU c10
     have c10b1:decide (l0.length < l1.length) = true:=zU (Int.ofNat_lt.mp c10)
     clear c10
     obtain rfl:=zb H
     go_wp2
     go_ret
     exact ⟨by first|rfl|(simp;done)|(simp [*];done),by repeat (first|exact Drawn0.refl _|apply Drawn0.step)⟩
    ·rw [if_neg c10] at H
     have c10b0:decide ((l0.length:Int) < (l1.length:Int)) = false:=zV c10
     have c10b1:decide (l0.length < l1.length) = false:=zV (fun h=>c10 (Int.ofNat_lt.mpr h))
     clear c10
     obtain rfl:=zb H
     go_wp2
     go_ret
     exact ⟨by first|rfl|(simp;done)|(simp [*];done),by repeat (first|exact Drawn0.refl _|apply Drawn0.step)⟩

/-! ### spec_l6In: function 40 -/
def spec_l6In.f (a0:Int) (a1:Int) (a2:Int):Option (Bool):=if a0 ≥ a1 then (some (decide (a0≤a2))) else (some false)
set_option maxHeartbeats 8000000 in
set_option maxRecDepth 100000 in
theorem spec_l6In.calls (a0:Int) (a1:Int) (a2:Int) (r:Bool) (w:World) (h:spec_l6In.f a0 a1 a2 = some r) :
  Calls Try.prog 40 #[.int .i64 a0,.int .i64 a1,.int .i64 a2] w fun e w'=>e = .returned (.bool r)∧Drawn0 w w':=by
 have H:(if a0 ≥ a1 then (some (decide (a0≤a2))) else (some false)) = some r:=h
 clear h
 by_cases c4:a0 ≥ a1
 ·rw [if_pos c4] at H
  have c4b0:decide (a1≤a0) = true:=zU c4
  clear c4
  obtain rfl:=zb H
  go_enter Try.func40,Try.ntmps40
  go_wp2
  go_ret
  exact ⟨by first|rfl|(simp;done)|(simp [*];done),by repeat (first|exact Drawn0.refl _|apply Drawn0.step)⟩
 ·rw [if_neg c4] at H
  have c4b0:decide (a1≤a0) = false:=zV c4
  clear c4
  obtain rfl:=zb H
  go_enter Try.func40,Try.ntmps40
  go_wp2
  go_ret
  exact ⟨by first|rfl|(simp;done)|(simp [*];done),by repeat (first|exact Drawn0.refl _|apply Drawn0.step)⟩

/-! ### spec_l2Order: function 98 -/
def spec_l2Order.l0:Nat→List Int→List Int→Int→Option (Int)
 | 0,_,_,_=>none
 | k+1,x0,x1,x5=>if x5 < (x0.length:Int) then (if 0≤x5 then (if x5 < (x1.length:Int) then (if (rd x0 x5) < (rd x1 x5) then (some (-1)) else (if (rd x0 x5) > (rd x1 x5) then (some 1) else (spec_l2Order.l0 k x0 x1 (wrap64 (x5+1))))) else (none)) else (none)) else (some 0)
def spec_l2Order.f (k:Nat) (l0:List Int) (l1:List Int):Option (Int):=spec_l2Order.l0 k l0 l1 0
theorem spec_l2Order.mono_l:∀ k,(∀ y0 y1 y2,LeO (spec_l2Order.l0 k y0 y1 y2) (spec_l2Order.l0 (k+1) y0 y1 y2))
 | 0=>fun _ _ _ r h=>by simp [spec_l2Order.l0] at h
 | k+1=>by
  have ih0:=spec_l2Order.mono_l k
  ·intro y0 y1 y2
   unfold spec_l2Order.l0
   repeat' first
   | (with_reducible exact ih0 _ _ _)
   | (with_reducible exact LeO.refl _)
   | (with_reducible exact zm _)
   | (with_reducible refine zo ?_ ?_)
   | (with_reducible refine zn ?_ (fun _=>?_))
   | exact ih0 _ _ _
   | exact zm _
   | refine zo ?_ ?_
   | refine zn ?_ (fun _=>?_)
theorem spec_l2Order.mono:∀ a0 a1 k,LeO (spec_l2Order.f k a0 a1) (spec_l2Order.f (k+1) a0 a1):=by
 intro a0 a1 k
 have ih0:=spec_l2Order.mono_l k
 unfold spec_l2Order.f
 repeat' first
   | (with_reducible exact ih0 _ _ _)
   | (with_reducible exact LeO.refl _)
   | (with_reducible exact zm _)
   | (with_reducible refine zo ?_ ?_)
   | (with_reducible refine zn ?_ (fun _=>?_))
   | exact ih0 _ _ _
   | exact zm _
   | refine zo ?_ ?_
   | refine zn ?_ (fun _=>?_)
set_option maxHeartbeats 8000000 in
set_option maxRecDepth 100000 in
theorem spec_l2Order.calls (k:Nat) (A0:Option Addr) (c0:Nat) (l0:List Int) (A1:Option Addr) (c1:Nat) (l1:List Int) (r:Int) (w:World) (hr0:Kd.C (Kd.int .i64) w A0 l0.length l0) (hc0:l0.length≤c0) (hr1:Kd.C (Kd.int .i64) w A1 l1.length l1) (hc1:l1.length≤c1) (h:spec_l2Order.f k l0 l1 = some r) :
  Calls Try.prog 98 #[.slice A0 l0.length c0,.slice A1 l1.length c1] w fun e w'=>e = .returned (.int .i64 r)∧Drawn0 w w':=by
 have HR0:=zA hr0
 have HC0:=zA hc0
 clear hr0 hc0
 have HR1:=zA hr1
 have HC1:=zA hc1
 clear hr1 hc1
 have H:(spec_l2Order.l0 k l0 l1 0) = some r:=h
 clear h
 have H':=zA H
 clear H
 go_enter Try.func98,Try.ntmps98
 go_wp2
 repeat (go_quiet (fail);try go_wp2)
 go_loopg [5] k (fun kq v5 w' => ∃ (x5_1:Int),v5 = .int .i64 x5_1∧Aside0 (spec_l2Order.l0 kq l0 l1 x5_1 = some r)∧Aside0 (kq≤k)∧Drawn0 w w')
 case atStart=>exact ⟨(0),(by first|rfl|(simp;done)|(simp [*];done)),H',⟨Nat.le_refl _⟩,by repeat (first|exact Drawn0.refl _|apply Drawn0.step)⟩
 case round =>
  clear H'
  try clear c1
  try clear p2
  obtain ⟨x5_1,rfl,HA,HK1,⟨m1,rfl⟩⟩:=hrel
  cases gk with
  | zero=>exact absurd HA.out (by simp [spec_l2Order.l0])
  | succ k1 =>
   have H:=HA.out
   clear HA
   simp only [spec_l2Order.l0] at H
   by_cases c3:x5_1 < (l0.length:Int)
   ·rw [if_pos c3] at H
    have c3b0:decide (x5_1 < (l0.length:Int)) = true:=zU c3
    clear c3
    by_cases c4:0≤x5_1
    ·rw [if_pos c4] at H
     have c4b0:decide (0≤x5_1) = true:=zU c4
     clear c4
     by_cases c5:x5_1 < (l1.length:Int)
     ·rw [if_pos c5] at H
      have c5b0:decide (x5_1 < (l1.length:Int)) = true:=zU c5
      clear c5
      by_cases c6:(rd l0 x5_1) < (rd l1 x5_1)
      ·rw [if_pos c6] at H
       have c6b0:decide ((rd l0 x5_1) < (rd l1 x5_1)) = true:=zU c6
       clear c6
       obtain rfl:=zb H
       have p202:0≤(x5_1:Int):=zF (by first|(with_reducible assumption)|assumption)
       have q202:x5_1 < (l0.length:Int):=zF (by first|(with_reducible assumption)|assumption)
       obtain ⟨ad202,e202,hx202_0⟩:=Kd.at_int HR0.out x5_1 p202 q202
       cases e202
       replace p202:=eq_true p202
       replace q202:=eq_true q202
       have p203:0≤(x5_1:Int):=zF (by first|(with_reducible assumption)|assumption)
       have q203:x5_1 < (l1.length:Int):=zF (by first|(with_reducible assumption)|assumption)
       obtain ⟨ad203,e203,hx203_0⟩:=Kd.at_int HR1.out x5_1 p203 q203
       cases e203
       replace p203:=eq_true p203
       replace q203:=eq_true q203
       go_wp2
       repeat (go_quiet (fail);try go_wp2)
       go_ret
       exact ⟨by first|rfl|(simp;done)|(simp [*];done),by repeat (first|exact Drawn0.refl _|apply Drawn0.step)⟩
      ·rw [if_neg c6] at H
       have c6b0:decide ((rd l0 x5_1) < (rd l1 x5_1)) = false:=zV c6
       clear c6
       by_cases c7:(rd l0 x5_1) > (rd l1 x5_1)
       ·rw [if_pos c7] at H
        have c7b0:decide ((rd l1 x5_1) < (rd l0 x5_1)) = true:=zU c7
        clear c7
        obtain rfl:=zb H
        have p202:0≤(x5_1:Int):=zF (by first|(with_reducible assumption)|assumption)
        have q202:x5_1 < (l0.length:Int):=zF (by first|(with_reducible assumption)|assumption)
        obtain ⟨ad202,e202,hx202_0⟩:=Kd.at_int HR0.out x5_1 p202 q202
        cases e202
        replace p202:=eq_true p202
        replace q202:=eq_true q202
        have p203:0≤(x5_1:Int):=zF (by first|(with_reducible assumption)|assumption)
        have q203:x5_1 < (l1.length:Int):=zF (by first|(with_reducible assumption)|assumption)
        obtain ⟨ad203,e203,hx203_0⟩:=Kd.at_int HR1.out x5_1 p203 q203
        cases e203
        replace p203:=eq_true p203
        replace q203:=eq_true q203
        have p204:0≤(x5_1:Int):=zF (by first|(with_reducible assumption)|assumption)
        have q204:x5_1 < (l0.length:Int):=zF (by first|(with_reducible assumption)|assumption)
        obtain ⟨ad204,e204,hx204_0⟩:=Kd.at_int HR0.out x5_1 p204 q204
        obtain rfl:ad202 = ad204:=(by injection e204)
        replace p204:=eq_true p204
        replace q204:=eq_true q204
        have p205:0≤(x5_1:Int):=zF (by first|(with_reducible assumption)|assumption)
        have q205:x5_1 < (l1.length:Int):=zF (by first|(with_reducible assumption)|assumption)
        obtain ⟨ad205,e205,hx205_0⟩:=Kd.at_int HR1.out x5_1 p205 q205
        obtain rfl:ad203 = ad205:=(by injection e205)
        replace p205:=eq_true p205
        replace q205:=eq_true q205
        go_wp2
        repeat (go_quiet (fail);try go_wp2)
        go_ret
        exact ⟨by first|rfl|(simp;done)|(simp [*];done),by repeat (first|exact Drawn0.refl _|apply Drawn0.step)⟩
       ·rw [if_neg c7] at H
        have c7b0:decide ((rd l1 x5_1) < (rd l0 x5_1)) = false:=zV c7
        clear c7
        have H':=zA H
        clear H
        have p202:0≤(x5_1:Int):=zF (by first|(with_reducible assumption)|assumption)
        have q202:x5_1 < (l0.length:Int):=zF (by first|(with_reducible assumption)|assumption)
        obtain ⟨ad202,e202,hx202_0⟩:=Kd.at_int HR0.out x5_1 p202 q202
        cases e202
        replace p202:=eq_true p202
        replace q202:=eq_true q202
        have p203:0≤(x5_1:Int):=zF (by first|(with_reducible assumption)|assumption)
        have q203:x5_1 < (l1.length:Int):=zF (by first|(with_reducible assumption)|assumption)
        obtain ⟨ad203,e203,hx203_0⟩:=Kd.at_int HR1.out x5_1 p203 q203
        cases e203
        replace p203:=eq_true p203
        replace q203:=eq_true q203
        have p204:0≤(x5_1:Int):=zF (by first|(with_reducible assumption)|assumption)
        have q204:x5_1 < (l0.length:Int):=zF (by first|(with_reducible assumption)|assumption)
        obtain ⟨ad204,e204,hx204_0⟩:=Kd.at_int HR0.out x5_1 p204 q204
        obtain rfl:ad202 = ad204:=(by injection e204)
        replace p204:=eq_true p204
        replace q204:=eq_true q204
        have p205:0≤(x5_1:Int):=zF (by first|(with_reducible assumption)|assumption)
        have q205:x5_1 < (l1.length:Int):=zF (by first|(with_reducible assumption)|assumption)
        obtain ⟨ad205,e205,hx205_0⟩:=Kd.at_int HR1.out x5_1 p205 q205
        obtain rfl:ad203 = ad205:=(by injection e205)
        replace p205:=eq_true p205
        replace q205:=eq_true q205
        go_wp2
        repeat (go_quiet (fail);try go_wp2)
        go_roundg k1
        case measure=>have:=HK1.out;omega
        case rel=>exact ⟨(wrap64 (x5_1+1)),(by first|rfl|(simp;done)|(simp [*];done)),H',⟨by have:=HK1.out;omega⟩,by repeat (first|exact Drawn0.refl _|apply Drawn0.step)⟩
     ·rw [if_neg c5] at H
      exact absurd H (by simp)
    ·rw [if_neg c4] at H
     exact absurd H (by simp)
   ·rw [if_neg c3] at H
    have c3b0:decide (x5_1 < (l0.length:Int)) = false:=zV c3
    clear c3
    obtain rfl:=zb H
    go_wp2
    repeat (go_quiet (fail);try go_wp2)
    go_ret
    exact ⟨by first|rfl|(simp;done)|(simp [*];done),by repeat (first|exact Drawn0.refl _|apply Drawn0.step)⟩

/-! ### spec_l2Before: function 83 -/
def spec_l2Before.f (k:Nat) (l0_0:List Int) (l0_1:List Int) (l1_0:List Int) (l1_1:List Int):Option (Int):=(spec_l2Order.f k l0_0 l1_0).bind fun t208=>(if t208 = 0 then ((spec_l2Order.f k l0_1 l1_1).bind fun t209=>(some t209)) else (some t208))
theorem spec_l2Before.mono:∀ a0 a1 a2 a3 k,LeO (spec_l2Before.f k a0 a1 a2 a3) (spec_l2Before.f (k+1) a0 a1 a2 a3):=by
 intro a0 a1 a2 a3 k
 unfold spec_l2Before.f
 repeat' first
   | (with_reducible exact spec_l2Order.mono _ _ _)
   | (with_reducible exact LeO.refl _)
   | (with_reducible exact zm _)
   | (with_reducible refine zo ?_ ?_)
   | (with_reducible refine zn ?_ (fun _=>?_))
   | exact spec_l2Order.mono _ _ _
   | exact zm _
   | refine zo ?_ ?_
   | refine zn ?_ (fun _=>?_)
set_option maxHeartbeats 8000000 in
set_option maxRecDepth 100000 in
theorem spec_l2Before.calls (k:Nat) (A0_0:Option Addr) (c0_0:Nat) (l0_0:List Int) (A0_1:Option Addr) (c0_1:Nat) (l0_1:List Int) (A1_0:Option Addr) (c1_0:Nat) (l1_0:List Int) (A1_1:Option Addr) (c1_1:Nat) (l1_1:List Int) (r:Int) (w:World) (hr0_0:Kd.C (Kd.int .i64) w A0_0 l0_0.length l0_0) (hc0_0:l0_0.length≤c0_0) (hr0_1:Kd.C (Kd.int .i64) w A0_1 l0_1.length l0_1) (hc0_1:l0_1.length≤c0_1) (hr1_0:Kd.C (Kd.int .i64) w A1_0 l1_0.length l1_0) (hc1_0:l1_0.length≤c1_0) (hr1_1:Kd.C (Kd.int .i64) w A1_1 l1_1.length l1_1) (hc1_1:l1_1.length≤c1_1) (h:spec_l2Before.f k l0_0 l0_1 l1_0 l1_1 = some r) :
  Calls Try.prog 83 #[.agg #[.slice A0_0 l0_0.length c0_0,.slice A0_1 l0_1.length c0_1],.agg #[.slice A1_0 l1_0.length c1_0,.slice A1_1 l1_1.length c1_1]] w fun e w'=>e = .returned (.int .i64 r)∧Below w.heap.size w w':=by
 have hu33:=Try.underlying33
 have HR0_0:=zA hr0_0
 have HC0_0:=zA hc0_0
 clear hr0_0 hc0_0
 have HR0_1:=zA hr0_1
 have HC0_1:=zA hc0_1
 clear hr0_1 hc0_1
 have HR1_0:=zA hr1_0
 have HC1_0:=zA hc1_0
 clear hr1_0 hc1_0
 have HR1_1:=zA hr1_1
 have HC1_1:=zA hc1_1
 clear hr1_1 hc1_1
 have HB:=zA (Below.refl w.heap.size w)
 have H:((spec_l2Order.f k l0_0 l1_0).bind fun t208=>(if t208 = 0 then ((spec_l2Order.f k l0_1 l1_1).bind fun t209=>(some t209)) else (some t208))) = some r:=h
 clear h
 replace H:=zz0 H
 obtain ⟨t208,A30,H⟩:=H
 replace H:(if t208 = 0 then ((spec_l2Order.f k l0_1 l1_1).bind fun t209=>(some t209)) else (some t208)) = some r:=H
 have A3:=zA A30
 clear A30
 by_cases c4:t208 = 0
 ·rw [if_pos c4] at H
  have c4b0:(t208 == 0) = true:=beq_iff_eq.mpr c4
  have c4b1:(t208 != 0) = false:=bne_eq_false_iff_eq.mpr c4
  clear c4
  replace H:=zz0 H
  obtain ⟨t209,A50,H⟩:=H
  replace H:(some t209) = some r:=H
  have A5:=zA A50
  clear A50
  obtain rfl:=zb H
  go_enter Try.func83,Try.ntmps83
  go_wp2_with (first|((with_reducible refine gate_dst (N:=2) rfl ?_);refine box_event ?hg (N:=2) ?hd (cs:=#[.slice A0_0 l0_0.length c0_0,.slice A0_1 l0_1.length c0_1]) (t:=33) ?hr ?_;(case hd=>rfl);(case hg=>rfl);(case hr=>first|(go_simp;done)|(go_simp;rfl));intro gb206 hg w6 hbox hb;have n0_:=zA (za (by repeat (first|(with_reducible first|exact HB.out|apply zD|apply zB|apply zC)|exact HB.out)) hb);have n1_:=zA (hbox);have n2_:=zA ((by rw [hg];exact (zZ (by repeat (first|(with_reducible first|exact HB.out|apply zD|apply zB|apply zC)|exact HB.out))):w.heap.size≤gb206));have n3_:=zA ((by rw [hg];exact (zZ (by repeat (first|(with_reducible first|exact HB.out|apply zD|apply zB|apply zC)|exact HB.out))):w.heap.size≤gb206));clear HB;have HB:=n0_;have BK206:=n1_;have GW206:=n2_;have GE206:=n3_;clear n0_ n1_ n2_ n3_;clear hb hbox hg)|((with_reducible refine gate_dst (N:=3) rfl ?_);refine box_event ?hg (N:=3) ?hd (cs:=#[.slice A1_0 l1_0.length c1_0,.slice A1_1 l1_1.length c1_1]) (t:=33) ?hr ?_;(case hd=>rfl);(case hg=>rfl);(case hr=>first|(go_simp;done)|(go_simp;rfl));intro gb207 hg w7 hbox hb;have n0_:=zA (zg (g:=gb206) (o:=.cells #[.slice A0_0 l0_0.length c0_0,.slice A0_1 l0_1.length c0_1] 33 (0,0)) (by (with_reducible repeat (first|refine zM ?_ _|refine zO ?_|refine zN ?_ _));exact BK206.out) hb);have n1_:=zA (za (by repeat (first|(with_reducible first|exact HB.out|apply zD|apply zB|apply zC|refine zI ?_ GE206.out)|exact HB.out)) hb);have n2_:=zA (hbox);have n3_:=zA ((by rw [hg];exact (zZ (by repeat (first|(with_reducible first|exact HB.out|apply zD|apply zB|apply zC|refine zI ?_ GE206.out)|exact HB.out))):w.heap.size≤gb207));have n4_:=zA ((by rw [hg];exact (zZ (by repeat (first|(with_reducible first|exact HB.out|apply zD|apply zB|apply zC|refine zI ?_ GE206.out)|exact HB.out))):w.heap.size≤gb207));have n5_:=zA ((by rw [hg];exact Nat.ne_of_lt (blk_lt (g:=gb206) (o:=.cells #[.slice A0_0 l0_0.length c0_0,.slice A0_1 l0_1.length c0_1] 33 (0,0)) (by (with_reducible repeat (first|refine zM ?_ _|refine zO ?_|refine zN ?_ _));exact BK206.out)):gb206≠gb207));have n6_:=zA ((by rw [hg];exact Nat.ne_of_gt (blk_lt (g:=gb206) (o:=.cells #[.slice A0_0 l0_0.length c0_0,.slice A0_1 l0_1.length c0_1] 33 (0,0)) (by (with_reducible repeat (first|refine zM ?_ _|refine zO ?_|refine zN ?_ _));exact BK206.out)):gb207≠gb206));clear BK206;clear HB;have BK206:=n0_;have HB:=n1_;have BK207:=n2_;have GW207:=n3_;have GE207:=n4_;have NB206_207:=n5_;have NB207_206:=n6_;clear n0_ n1_ n2_ n3_ n4_ n5_ n6_;clear hb hbox hg;have hnb8:=NB206_207.out;have hnc8:=NB207_206.out;have hcz9_0:w7.cell? ⟨gb206,0,none⟩ = some (.slice A0_0 l0_0.length c0_0):=(zc BK206.out 0).trans rfl;have hcz9_1:w7.cell? ⟨gb206,1,none⟩ = some (.slice A0_1 l0_1.length c0_1):=(zc BK206.out 1).trans rfl;have hfz9_0:=zl BK206.out 0;have hfz9_1:=zl BK206.out 1;have hcz10_0:w7.cell? ⟨gb207,0,none⟩ = some (.slice A1_0 l1_0.length c1_0):=(zc BK207.out 0).trans rfl;have hcz10_1:w7.cell? ⟨gb207,1,none⟩ = some (.slice A1_1 l1_1.length c1_1):=(zc BK207.out 1).trans rfl;have hfz10_0:=zl BK207.out 0;have hfz10_1:=zl BK207.out 1)|((with_reducible refine gate_callee (f:=98) rfl ?_);refine goesL_ (some 10) rfl rfl Try.func98 (by kernel_rfl) rfl #[.slice A0_0 l0_0.length c0_0,.slice A1_0 l1_0.length c1_0] rfl (by (try simp only [zP,zS,zT]);first|done|rfl|(simp only [zR,zQ];rfl)) ?_;(with_reducible refine (spec_l2Order.calls k _ _ l0_0 _ _ l1_0 t208 _ ?side1 ?side2 ?side3 ?side4 A3.out).mono ?_);(case side1=>repeat (first|exact (zf HR0_0.out HB.out)|(with_reducible exact HR0_0.out)|(with_reducible refine zW ?_ _)|(with_reducible refine zX ?_ _)|(with_reducible refine zY ?_)));(case side2=>exact HC0_0.out);(case side3=>repeat (first|exact (zf HR1_0.out HB.out)|(with_reducible exact HR1_0.out)|(with_reducible refine zW ?_ _)|(with_reducible refine zX ?_ _)|(with_reducible refine zY ?_)));(case side4=>exact HC1_0.out);rintro e w' ⟨rfl,⟨nd,rfl⟩⟩;refine ⟨_,rfl,?_⟩)|((with_reducible refine gate_callee (f:=98) rfl ?_);refine goesL_ (some 18) rfl rfl Try.func98 (by kernel_rfl) rfl #[.slice A0_1 l0_1.length c0_1,.slice A1_1 l1_1.length c1_1] rfl (by (try simp only [zP,zS,zT]);first|done|rfl|(simp only [zR,zQ];rfl)) ?_;(with_reducible refine (spec_l2Order.calls k _ _ l0_1 _ _ l1_1 t209 _ ?side1 ?side2 ?side3 ?side4 A5.out).mono ?_);(case side1=>repeat (first|exact (zf HR0_1.out (by repeat (first|(with_reducible first|exact HB.out|apply zD|apply zB|apply zC|refine zI ?_ GE206.out|refine zI ?_ GE207.out)|exact HB.out)))|(with_reducible refine zW ?_ _)|(with_reducible refine zX ?_ _)|(with_reducible refine zY ?_)));(case side2=>exact HC0_1.out);(case side3=>repeat (first|exact (zf HR1_1.out (by repeat (first|(with_reducible first|exact HB.out|apply zD|apply zB|apply zC|refine zI ?_ GE206.out|refine zI ?_ GE207.out)|exact HB.out)))|(with_reducible refine zW ?_ _)|(with_reducible refine zX ?_ _)|(with_reducible refine zY ?_)));(case side4=>exact HC1_1.out);rintro e w' ⟨rfl,⟨nd,rfl⟩⟩;refine ⟨_,rfl,?_⟩))
  go_ret
  exact ⟨by first|rfl|(simp [errW_none,errW_some] <;> rfl)|(simp [*,errW_none,errW_some] <;> rfl),by repeat (first|(with_reducible first|exact HB.out|apply zD|apply zB|apply zC|refine zI ?_ GE206.out|refine zI ?_ GE207.out)|exact HB.out)⟩
 ·rw [if_neg c4] at H
  have c4b0:(t208 == 0) = false:=beq_eq_false_iff_ne.mpr c4
  have c4b1:(t208 != 0) = true:=bne_iff_ne.mpr c4
  obtain rfl:=zb H
  go_enter Try.func83,Try.ntmps83
  go_wp2_with (first|((with_reducible refine gate_dst (N:=2) rfl ?_);refine box_event ?hg (N:=2) ?hd (cs:=#[.slice A0_0 l0_0.length c0_0,.slice A0_1 l0_1.length c0_1]) (t:=33) ?hr ?_;(case hd=>rfl);(case hg=>rfl);(case hr=>first|(go_simp;done)|(go_simp;rfl));intro gb206 hg w11 hbox hb;have n0_:=zA (za (by repeat (first|(with_reducible first|exact HB.out|apply zD|apply zB|apply zC)|exact HB.out)) hb);have n1_:=zA (hbox);have n2_:=zA ((by rw [hg];exact (zZ (by repeat (first|(with_reducible first|exact HB.out|apply zD|apply zB|apply zC)|exact HB.out))):w.heap.size≤gb206));have n3_:=zA ((by rw [hg];exact (zZ (by repeat (first|(with_reducible first|exact HB.out|apply zD|apply zB|apply zC)|exact HB.out))):w.heap.size≤gb206));clear HB;have HB:=n0_;have BK206:=n1_;have GW206:=n2_;have GE206:=n3_;clear n0_ n1_ n2_ n3_;clear hb hbox hg)|((with_reducible refine gate_dst (N:=3) rfl ?_);refine box_event ?hg (N:=3) ?hd (cs:=#[.slice A1_0 l1_0.length c1_0,.slice A1_1 l1_1.length c1_1]) (t:=33) ?hr ?_;(case hd=>rfl);(case hg=>rfl);(case hr=>first|(go_simp;done)|(go_simp;rfl));intro gb207 hg w12 hbox hb;have n0_:=zA (zg (g:=gb206) (o:=.cells #[.slice A0_0 l0_0.length c0_0,.slice A0_1 l0_1.length c0_1] 33 (0,0)) (by (with_reducible repeat (first|refine zM ?_ _|refine zO ?_|refine zN ?_ _));exact BK206.out) hb);have n1_:=zA (za (by repeat (first|(with_reducible first|exact HB.out|apply zD|apply zB|apply zC|refine zI ?_ GE206.out)|exact HB.out)) hb);have n2_:=zA (hbox);have n3_:=zA ((by rw [hg];exact (zZ (by repeat (first|(with_reducible first|exact HB.out|apply zD|apply zB|apply zC|refine zI ?_ GE206.out)|exact HB.out))):w.heap.size≤gb207));have n4_:=zA ((by rw [hg];exact (zZ (by repeat (first|(with_reducible first|exact HB.out|apply zD|apply zB|apply zC|refine zI ?_ GE206.out)|exact HB.out))):w.heap.size≤gb207));have n5_:=zA ((by rw [hg];exact Nat.ne_of_lt (blk_lt (g:=gb206) (o:=.cells #[.slice A0_0 l0_0.length c0_0,.slice A0_1 l0_1.length c0_1] 33 (0,0)) (by (with_reducible repeat (first|refine zM ?_ _|refine zO ?_|refine zN ?_ _));exact BK206.out)):gb206≠gb207));have n6_:=zA ((by rw [hg];exact Nat.ne_of_gt (blk_lt (g:=gb206) (o:=.cells #[.slice A0_0 l0_0.length c0_0,.slice A0_1 l0_1.length c0_1] 33 (0,0)) (by (with_reducible repeat (first|refine zM ?_ _|refine zO ?_|refine zN ?_ _));exact BK206.out)):gb207≠gb206));clear BK206;clear HB;have BK206:=n0_;have HB:=n1_;have BK207:=n2_;have GW207:=n3_;have GE207:=n4_;have NB206_207:=n5_;have NB207_206:=n6_;clear n0_ n1_ n2_ n3_ n4_ n5_ n6_;clear hb hbox hg;have hnb13:=NB206_207.out;have hnc13:=NB207_206.out;have hcz14_0:w12.cell? ⟨gb206,0,none⟩ = some (.slice A0_0 l0_0.length c0_0):=(zc BK206.out 0).trans rfl;have hcz14_1:w12.cell? ⟨gb206,1,none⟩ = some (.slice A0_1 l0_1.length c0_1):=(zc BK206.out 1).trans rfl;have hfz14_0:=zl BK206.out 0;have hfz14_1:=zl BK206.out 1;have hcz15_0:w12.cell? ⟨gb207,0,none⟩ = some (.slice A1_0 l1_0.length c1_0):=(zc BK207.out 0).trans rfl;have hcz15_1:w12.cell? ⟨gb207,1,none⟩ = some (.slice A1_1 l1_1.length c1_1):=(zc BK207.out 1).trans rfl;have hfz15_0:=zl BK207.out 0;have hfz15_1:=zl BK207.out 1)|((with_reducible refine gate_callee (f:=98) rfl ?_);refine goesL_ (some 10) rfl rfl Try.func98 (by kernel_rfl) rfl #[.slice A0_0 l0_0.length c0_0,.slice A1_0 l1_0.length c1_0] rfl (by (try simp only [zP,zS,zT]);first|done|rfl|(simp only [zR,zQ];rfl)) ?_;(with_reducible refine (spec_l2Order.calls k _ _ l0_0 _ _ l1_0 t208 _ ?side1 ?side2 ?side3 ?side4 A3.out).mono ?_);(case side1=>repeat (first|exact (zf HR0_0.out HB.out)|(with_reducible exact HR0_0.out)|(with_reducible refine zW ?_ _)|(with_reducible refine zX ?_ _)|(with_reducible refine zY ?_)));(case side2=>exact HC0_0.out);(case side3=>repeat (first|exact (zf HR1_0.out HB.out)|(with_reducible exact HR1_0.out)|(with_reducible refine zW ?_ _)|(with_reducible refine zX ?_ _)|(with_reducible refine zY ?_)));(case side4=>exact HC1_0.out);rintro e w' ⟨rfl,⟨nd,rfl⟩⟩;refine ⟨_,rfl,?_⟩))
  go_ret
  exact ⟨by first|rfl|(simp [errW_none,errW_some] <;> rfl)|(simp [*,errW_none,errW_some] <;> rfl),by repeat (first|(with_reducible first|exact HB.out|apply zD|apply zB|apply zC|refine zI ?_ GE206.out|refine zI ?_ GE207.out)|exact HB.out)⟩

end Go.Proofs.Ytdaiohcgdpclnaa.Q
