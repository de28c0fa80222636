import Derived.Test.YtdaiohcgdpclnaaQ0
import Derived.Test.YtdaiohcgdpclnaaZ
namespace Go.Proofs.Ytdaiohcgdpclnaa.Q
open Go.RowKit Go.Proofs.YtdaiohcgdpclnaaW.PrintWords Go.Proofs.YtdaiohcgdpclnaaW.PrintLast Go.Proofs.YtdaiohcgdpclnaaW.PrintMore
attribute [local go_sem] max2_int min2_int max_two min_two max_three min_three max_four min_four   -- for this text's walks alone
set_option linter.unusedVariables false
set_option linter.unusedSimpArgs false

/-! ### slices_Index_int_int: function 89 -/
def slices_Index_int_int.l0:Nat→List Int→Int→Int→Int→Option (Int)
 | 0,_,_,_,_=>none
 | k+1,x0,x1,x7,x8=>if x8 < x7 then (if 0≤x8 then (if x8 < (x0.length:Int) then (if x1 = (rd x0 x8) then (some x8) else (slices_Index_int_int.l0 k x0 x1 x7 (wrap64 (x8+1)))) else (none)) else (none)) else (some (-1))
def slices_Index_int_int.f (k:Nat) (l0:List Int) (a1:Int):Option (Int):=slices_Index_int_int.l0 k l0 a1 (l0.length:Int) 0
theorem slices_Index_int_int.mono_l:∀ k,(∀ y0 y1 y2 y3,LeO (slices_Index_int_int.l0 k y0 y1 y2 y3) (slices_Index_int_int.l0 (k+1) y0 y1 y2 y3))
 | 0=>fun _ _ _ _ r h=>by simp [slices_Index_int_int.l0] at h
 | k+1=>by
  have ih0:=slices_Index_int_int.mono_l k
  ·intro y0 y1 y2 y3
   unfold slices_Index_int_int.l0
   repeat' first
   | (with_reducible exact ih0 _ _ _ _)
   | (with_reducible exact LeO.refl _)
   | (with_reducible exact za _)
   | (with_reducible refine zc ?_ ?_)
   | (with_reducible refine zb ?_ (fun _=>?_))
theorem slices_Index_int_int.mono:∀ a0 a1 k,LeO (slices_Index_int_int.f k a0 a1) (slices_Index_int_int.f (k+1) a0 a1):=by
 intro a0 a1 k
 have ih0:=slices_Index_int_int.mono_l k
 unfold slices_Index_int_int.f
 repeat' first
   | (with_reducible exact ih0 _ _ _ _)
   | (with_reducible exact LeO.refl _)
   | (with_reducible exact za _)
   | (with_reducible refine zc ?_ ?_)
   | (with_reducible refine zb ?_ (fun _=>?_))
set_option maxHeartbeats 8000000 in
set_option maxRecDepth 100000 in
theorem slices_Index_int_int.calls (k:Nat) (A0:Option Addr) (c0:Nat) (l0:List Int) (a1:Int) (r:Int) (w:World) (hr0:Kd.C (Kd.int .i64) w A0 l0.length l0) (hc0:l0.length≤c0) (h:slices_Index_int_int.f k l0 a1 = some r) :
  Calls Try.prog 89 #[.slice A0 l0.length c0,.int .i64 a1] w fun e w'=>e = .returned (.int .i64 r)∧Drawn0 w w':=by
 have HR0:=zA hr0
 have HC0:=zA hc0
 clear hr0 hc0
 have H:(slices_Index_int_int.l0 k l0 a1 (l0.length:Int) 0) = some r:=h
 clear h
 have H':=zA H
 clear H
 go_enter Try.func89,Try.ntmps89
 go_wp2
 go_loopg [8] k (fun kq v8 w' => ∃ (x8_1:Int),v8 = .int .i64 x8_1∧Aside0 (slices_Index_int_int.l0 kq l0 a1 (l0.length:Int) x8_1 = some r)∧Aside0 (kq≤k)∧Drawn0 w w')
 case atStart=>exact ⟨(0),(by first|rfl|(simp;done)|(simp [*];done)),H',⟨Nat.le_refl _⟩,by repeat (first|exact Drawn0.refl _|apply Drawn0.step)⟩
 case round =>
  clear H'
  (try clear p2)
  obtain ⟨x8_1,rfl,HA,HK1,⟨m1,rfl⟩⟩:=hrel
  cases gk with
  | zero=>exact absurd HA.out (by simp [slices_Index_int_int.l0])
  | succ k1 =>
   have H:=HA.out
   clear HA
   simp only [slices_Index_int_int.l0] at H
   by_cases c3:x8_1 < (l0.length:Int)
   ·rw [if_pos c3] at H
    have c3b0:decide (x8_1 < (l0.length:Int)) = true:=zO c3
    clear c3
    by_cases c4:0≤x8_1
    ·rw [if_pos c4] at H
     have c4b0:decide (0≤x8_1) = true:=zO c4
     clear c4
     by_cases c5:x8_1 < (l0.length:Int)
     ·rw [if_pos c5] at H
      have c5b0:decide (x8_1 < (l0.length:Int)) = true:=zO c5
      clear c5
      by_cases c6:a1 = (rd l0 x8_1)
      ·rw [if_pos c6] at H
       have c6b0:(a1 == (rd l0 x8_1)) = true:=beq_iff_eq.mpr c6
       have c6b1:(a1 != (rd l0 x8_1)) = false:=bne_eq_false_iff_eq.mpr c6
       clear c6
       obtain rfl:=zS H
       have p101:0≤(x8_1:Int):=zE (by with_reducible assumption)
       have q101:x8_1 < (l0.length:Int):=zE (by with_reducible assumption)
       obtain ⟨ad101,e101,hx101_0⟩:=Kd.at_int HR0.out x8_1 p101 q101
       cases e101
       replace p101:=eq_true p101
       replace q101:=eq_true q101
       go_wp2
       go_ret
       exact ⟨by first|rfl|(simp;done)|(simp [*];done),by repeat (first|exact Drawn0.refl _|apply Drawn0.step)⟩
      ·rw [if_neg c6] at H
       have c6b0:(a1 == (rd l0 x8_1)) = false:=beq_eq_false_iff_ne.mpr c6
       have c6b1:(a1 != (rd l0 x8_1)) = true:=bne_iff_ne.mpr c6
       have H':=zA H
       clear H
       have p101:0≤(x8_1:Int):=zE (by with_reducible assumption)
       have q101:x8_1 < (l0.length:Int):=zE (by with_reducible assumption)
       obtain ⟨ad101,e101,hx101_0⟩:=Kd.at_int HR0.out x8_1 p101 q101
       cases e101
       replace p101:=eq_true p101
       replace q101:=eq_true q101
       go_wp2
       go_roundg k1
       case measure=>have:=HK1.out;omega
       case rel=>exact ⟨(wrap64 (x8_1+1)),(by first|rfl|(simp;done)|(simp [*];done)),H',⟨by have:=HK1.out;omega⟩,by repeat (first|exact Drawn0.refl _|apply Drawn0.step)⟩
     ·rw [if_neg c5] at H
      exact absurd H (by simp)
    ·rw [if_neg c4] at H
     exact absurd H (by simp)
   ·rw [if_neg c3] at H
    have c3b0:decide (x8_1 < (l0.length:Int)) = false:=zP c3
    clear c3
    obtain rfl:=zS H
    go_wp2
    go_ret
    exact ⟨by first|rfl|(simp;done)|(simp [*];done),by repeat (first|exact Drawn0.refl _|apply Drawn0.step)⟩

/-! ### slices_Contains_int_int: function 91 -/
def slices_Contains_int_int.f (k:Nat) (l0:List Int) (a1:Int):Option (Bool):=(slices_Index_int_int.f k l0 a1).bind fun t102=>(some (decide (t102 ≥ 0)))
theorem slices_Contains_int_int.mono:∀ a0 a1 k,LeO (slices_Contains_int_int.f k a0 a1) (slices_Contains_int_int.f (k+1) a0 a1):=by
 intro a0 a1 k
 unfold slices_Contains_int_int.f
 repeat' first
   | (with_reducible exact slices_Index_int_int.mono _ _ _)
   | (with_reducible exact LeO.refl _)
   | (with_reducible exact za _)
   | (with_reducible refine zc ?_ ?_)
   | (with_reducible refine zb ?_ (fun _=>?_))
set_option maxHeartbeats 8000000 in
set_option maxRecDepth 100000 in
theorem slices_Contains_int_int.calls (k:Nat) (A0:Option Addr) (c0:Nat) (l0:List Int) (a1:Int) (r:Bool) (w:World) (hr0:Kd.C (Kd.int .i64) w A0 l0.length l0) (hc0:l0.length≤c0) (h:slices_Contains_int_int.f k l0 a1 = some r) :
  Calls Try.prog 91 #[.slice A0 l0.length c0,.int .i64 a1] w fun e w'=>e = .returned (.bool r)∧Drawn0 w w':=by
 have HR0:=zA hr0
 have HC0:=zA hc0
 clear hr0 hc0
 have H:((slices_Index_int_int.f k l0 a1).bind fun t102=>(some (decide (t102 ≥ 0)))) = some r:=h
 clear h
 replace H:=zz0 H
 obtain ⟨t102,A30,H⟩:=H
 try dsimp only at H
 have A3:=zA A30
 clear A30
 obtain rfl:=zS H
 go_enter Try.func91,Try.ntmps91
 go_wp2_with (first|((with_reducible refine gate_callee (f:=89) rfl ?_);refine goesL_ (some 7) rfl rfl Try.func89 (by kernel_rfl) rfl #[.slice A0 l0.length c0,.int .i64 a1] rfl (by (try simp only [zJ,zM,zN]);first|done|rfl|(simp only [zL,zK];rfl)) ?_;(with_reducible refine (slices_Index_int_int.calls k _ _ l0 a1 t102 _ ?side1 ?side2 A3.out).mono ?_);(case side1=>repeat (first|exact HR0.out|apply zC_));(case side2=>exact HC0.out);rintro e w' ⟨rfl,⟨nd,rfl⟩⟩;refine ⟨_,rfl,?_⟩))
 go_ret
 exact ⟨by first|rfl|(simp;done)|(simp [*];done),by repeat (first|exact Drawn0.refl _|apply Drawn0.step)⟩

/-- THE ONE PURE STATEMENT of slices_Contains_int_int: yours. -/
def slices_Contains_int_int.Pure:Prop := ∀ (l0:List Int) (a1:Int),l0.length≤maxLen→l0.length * 8≤140737488351232→(∀ x ∈ l0,(Lit.int .i64 x).wf = true)→(Lit.int .i64 a1).wf = true → ∃ k,slices_Contains_int_int.f k l0 a1 = some true
theorem slices_Contains_int_int.walk (P:slices_Contains_int_int.Pure) (a0:Option Addr) (len0 cap0:Nat) (z0:List Int) (a1:Int) (w:World) (w0:(a0 = none∧len0 = 0∧cap0 = 0∧z0 = []) ∨ ∃ x,a0 = some x∧len0≤cap0∧cap0≤maxLen∧z0.length = cap0∧(∀ i,i < z0.length→w.cell? (x.add i) = some (.int .i64 (z0.getD i 0))) ∧ ∀ n ∈ z0,(Lit.int .i64 n).wf = true) (y0:len0 * 8≤140737488351232) (w1:(Lit.int .i64 a1).wf = true) :
  Calls Try.prog 91 #[.slice a0 len0 cap0,.int .i64 a1] w fun e w'=>e = .returned (.bool true)∧Below w.heap.size w w':=by
 obtain ⟨l0,rfl,hr0,hm0,hw0,hc0⟩:=ReadsInt.ofRowC w0
 obtain ⟨k,h⟩:=P l0 a1 hm0 y0 hw0 w1
 refine (slices_Contains_int_int.calls k _ _ l0 a1 true w (Kd.C_of_reads (d:=(0:Int)) (h1:=fun _=>rfl) hr0) hc0 h).mono ?_
 rintro e w' ⟨rfl,hd⟩
 exact ⟨rfl,hd.below⟩

/-! ### slices_Equal_int_int: function 70 -/
def slices_Equal_int_int.l0:Nat→List Int→List Int→Int→Int→Option (Bool)
 | 0,_,_,_,_=>none
 | k+1,x0,x1,x12,x13=>if x13 < x12 then (if 0≤x13 then (if x13 < (x0.length:Int) then (if x13 < (x1.length:Int) then (if (rd x0 x13) = (rd x1 x13) then (slices_Equal_int_int.l0 k x0 x1 x12 (wrap64 (x13+1))) else (some false)) else (none)) else (none)) else (none)) else (some true)
def slices_Equal_int_int.f (k:Nat) (l0:List Int) (l1:List Int):Option (Bool):=if (l0.length:Int) = (l1.length:Int) then (slices_Equal_int_int.l0 k l0 l1 (l0.length:Int) 0) else (some false)
theorem slices_Equal_int_int.mono_l:∀ k,(∀ y0 y1 y2 y3,LeO (slices_Equal_int_int.l0 k y0 y1 y2 y3) (slices_Equal_int_int.l0 (k+1) y0 y1 y2 y3))
 | 0=>fun _ _ _ _ r h=>by simp [slices_Equal_int_int.l0] at h
 | k+1=>by
  have ih0:=slices_Equal_int_int.mono_l k
  ·intro y0 y1 y2 y3
   unfold slices_Equal_int_int.l0
   repeat' first
   | (with_reducible exact ih0 _ _ _ _)
   | (with_reducible exact LeO.refl _)
   | (with_reducible exact za _)
   | (with_reducible refine zc ?_ ?_)
   | (with_reducible refine zb ?_ (fun _=>?_))
theorem slices_Equal_int_int.mono:∀ a0 a1 k,LeO (slices_Equal_int_int.f k a0 a1) (slices_Equal_int_int.f (k+1) a0 a1):=by
 intro a0 a1 k
 have ih0:=slices_Equal_int_int.mono_l k
 unfold slices_Equal_int_int.f
 repeat' first
   | (with_reducible exact ih0 _ _ _ _)
   | (with_reducible exact LeO.refl _)
   | (with_reducible exact za _)
   | (with_reducible refine zc ?_ ?_)
   | (with_reducible refine zb ?_ (fun _=>?_))
set_option maxHeartbeats 8000000 in
set_option maxRecDepth 100000 in
theorem slices_Equal_int_int.calls (k:Nat) (A0:Option Addr) (c0:Nat) (l0:List Int) (A1:Option Addr) (c1:Nat) (l1:List Int) (r:Bool) (w:World) (hr0:Kd.C (Kd.int .i64) w A0 l0.length l0) (hc0:l0.length≤c0) (hr1:Kd.C (Kd.int .i64) w A1 l1.length l1) (hc1:l1.length≤c1) (h:slices_Equal_int_int.f k l0 l1 = some r) :
  Calls Try.prog 70 #[.slice A0 l0.length c0,.slice A1 l1.length c1] w fun e w'=>e = .returned (.bool r)∧Drawn0 w w':=by
 have HR0:=zA hr0
 have HC0:=zA hc0
 clear hr0 hc0
 have HR1:=zA hr1
 have HC1:=zA hc1
 clear hr1 hc1
 have H:(if (l0.length:Int) = (l1.length:Int) then (slices_Equal_int_int.l0 k l0 l1 (l0.length:Int) 0) else (some false)) = some r:=h
 clear h
 by_cases c3:(l0.length:Int) = (l1.length:Int)
 ·rw [if_pos c3] at H
  have c3b0:((l0.length:Int) == (l1.length:Int)) = true:=beq_iff_eq.mpr c3
  have c3b1:((l0.length:Int) != (l1.length:Int)) = false:=bne_eq_false_iff_eq.mpr c3
  have c3b2:(l0.length == l1.length) = true:=by first|simpa using c3|(simp at c3 ⊢;omega)
  clear c3
  have H':=zA H
  clear H
  go_enter Try.func70,Try.ntmps70
  go_wp2
  repeat (go_quiet (fail);try go_wp2)
  go_loopg [13] k (fun kq v13 w' => ∃ (x13_1:Int),v13 = .int .i64 x13_1∧Aside0 (slices_Equal_int_int.l0 kq l0 l1 (l0.length:Int) x13_1 = some r)∧Aside0 (kq≤k)∧Drawn0 w w')
  case atStart=>exact ⟨(0),(by first|rfl|(simp;done)|(simp [*];done)),H',⟨Nat.le_refl _⟩,by repeat (first|exact Drawn0.refl _|apply Drawn0.step)⟩
  case round =>
   clear H'
   (try clear c1);(try clear p2);(try clear c3);(try clear c3b0);(try clear c3b1);(try clear c3b2)
   obtain ⟨x13_1,rfl,HA,HK1,⟨m1,rfl⟩⟩:=hrel
   cases gk with
   | zero=>exact absurd HA.out (by simp [slices_Equal_int_int.l0])
   | succ k1 =>
    have H:=HA.out
    clear HA
    simp only [slices_Equal_int_int.l0] at H
    by_cases c4:x13_1 < (l0.length:Int)
    ·rw [if_pos c4] at H
     have c4b0:decide (x13_1 < (l0.length:Int)) = true:=zO c4
     clear c4
     by_cases c5:0≤x13_1
     ·rw [if_pos c5] at H
      have c5b0:decide (0≤x13_1) = true:=zO c5
      clear c5
      by_cases c6:x13_1 < (l0.length:Int)
      ·rw [if_pos c6] at H
       have c6b0:decide (x13_1 < (l0.length:Int)) = true:=zO c6
       clear c6
       by_cases c7:x13_1 < (l1.length:Int)
       ·rw [if_pos c7] at H
        have c7b0:decide (x13_1 < (l1.length:Int)) = true:=zO c7
        clear c7
        by_cases c8:(rd l0 x13_1) = (rd l1 x13_1)
        ·rw [if_pos c8] at H
         have c8b0:((rd l0 x13_1) == (rd l1 x13_1)) = true:=beq_iff_eq.mpr c8
         have c8b1:((rd l0 x13_1) != (rd l1 x13_1)) = false:=bne_eq_false_iff_eq.mpr c8
         clear c8
         have H':=zA H
         clear H
         have p103:0≤(x13_1:Int):=zE (by with_reducible assumption)
         have q103:x13_1 < (l0.length:Int):=zE (by with_reducible assumption)
         obtain ⟨ad103,e103,hx103_0⟩:=Kd.at_int HR0.out x13_1 p103 q103
         cases e103
         replace p103:=eq_true p103
         replace q103:=eq_true q103
         have p104:0≤(x13_1:Int):=zE (by with_reducible assumption)
         have q104:x13_1 < (l1.length:Int):=zE (by with_reducible assumption)
         obtain ⟨ad104,e104,hx104_0⟩:=Kd.at_int HR1.out x13_1 p104 q104
         cases e104
         replace p104:=eq_true p104
         replace q104:=eq_true q104
         go_wp2
         repeat (go_quiet (fail);try go_wp2)
         go_roundg k1
         case measure=>have:=HK1.out;omega
         case rel=>exact ⟨(wrap64 (x13_1+1)),(by first|rfl|(simp;done)|(simp [*];done)),H',⟨by have:=HK1.out;omega⟩,by repeat (first|exact Drawn0.refl _|apply Drawn0.step)⟩
        ·rw [if_neg c8] at H
         have c8b0:((rd l0 x13_1) == (rd l1 x13_1)) = false:=beq_eq_false_iff_ne.mpr c8
         have c8b1:((rd l0 x13_1) != (rd l1 x13_1)) = true:=bne_iff_ne.mpr c8
         obtain rfl:=zS H
         have p103:0≤(x13_1:Int):=zE (by with_reducible assumption)
         have q103:x13_1 < (l0.length:Int):=zE (by with_reducible assumption)
         obtain ⟨ad103,e103,hx103_0⟩:=Kd.at_int HR0.out x13_1 p103 q103
         cases e103
         replace p103:=eq_true p103
         replace q103:=eq_true q103
         have p104:0≤(x13_1:Int):=zE (by with_reducible assumption)
         have q104:x13_1 < (l1.length:Int):=zE (by with_reducible assumption)
         obtain ⟨ad104,e104,hx104_0⟩:=Kd.at_int HR1.out x13_1 p104 q104
         cases e104
         replace p104:=eq_true p104
         replace q104:=eq_true q104
         go_wp2
         repeat (go_quiet (fail);try go_wp2)
         go_ret
         exact ⟨by first|rfl|(simp;done)|(simp [*];done),by repeat (first|exact Drawn0.refl _|apply Drawn0.step)⟩
       ·rw [if_neg c7] at H
        exact absurd H (by simp)
      ·rw [if_neg c6] at H
       exact absurd H (by simp)
     ·rw [if_neg c5] at H
      exact absurd H (by simp)
    ·rw [if_neg c4] at H
     have c4b0:decide (x13_1 < (l0.length:Int)) = false:=zP c4
     clear c4
     obtain rfl:=zS H
     go_wp2
     repeat (go_quiet (fail);try go_wp2)
     go_ret
     exact ⟨by first|rfl|(simp;done)|(simp [*];done),by repeat (first|exact Drawn0.refl _|apply Drawn0.step)⟩
 ·rw [if_neg c3] at H
  have c3b0:((l0.length:Int) == (l1.length:Int)) = false:=beq_eq_false_iff_ne.mpr c3
  have c3b1:((l0.length:Int) != (l1.length:Int)) = true:=bne_iff_ne.mpr c3
  have c3b2:(l0.length == l1.length) = false:=by first|simpa using c3|(simp at c3 ⊢;omega)
  obtain rfl:=zS H
  go_enter Try.func70,Try.ntmps70
  go_wp2
  repeat (go_quiet (fail);try go_wp2)
  go_ret
  exact ⟨by first|rfl|(simp;done)|(simp [*];done),by repeat (first|exact Drawn0.refl _|apply Drawn0.step)⟩

/-- THE ONE PURE STATEMENT of slices_Equal_int_int: yours. -/
def slices_Equal_int_int.Pure:Prop := ∀ (l0:List Int) (l1:List Int),l0.length≤maxLen→l0.length * 8≤140737488351232→(∀ x ∈ l0,(Lit.int .i64 x).wf = true)→l1.length≤maxLen→l1.length * 8≤140737488351232→(∀ x ∈ l1,(Lit.int .i64 x).wf = true) → ∃ k,slices_Equal_int_int.f k l0 l1 = some true
theorem slices_Equal_int_int.walk (P:slices_Equal_int_int.Pure) (a0:Option Addr) (len0 cap0:Nat) (z0:List Int) (a1:Option Addr) (len1 cap1:Nat) (z1:List Int) (w:World) (w0:(a0 = none∧len0 = 0∧cap0 = 0∧z0 = []) ∨ ∃ x,a0 = some x∧len0≤cap0∧cap0≤maxLen∧z0.length = cap0∧(∀ i,i < z0.length→w.cell? (x.add i) = some (.int .i64 (z0.getD i 0))) ∧ ∀ n ∈ z0,(Lit.int .i64 n).wf = true) (y0:len0 * 8≤140737488351232) (w1:(a1 = none∧len1 = 0∧cap1 = 0∧z1 = []) ∨ ∃ x,a1 = some x∧len1≤cap1∧cap1≤maxLen∧z1.length = cap1∧(∀ i,i < z1.length→w.cell? (x.add i) = some (.int .i64 (z1.getD i 0))) ∧ ∀ n ∈ z1,(Lit.int .i64 n).wf = true) (y1:len1 * 8≤140737488351232) :
  Calls Try.prog 70 #[.slice a0 len0 cap0,.slice a1 len1 cap1] w fun e w'=>e = .returned (.bool true)∧Below w.heap.size w w':=by
 obtain ⟨l0,rfl,hr0,hm0,hw0,hc0⟩:=ReadsInt.ofRowC w0
 obtain ⟨l1,rfl,hr1,hm1,hw1,hc1⟩:=ReadsInt.ofRowC w1
 obtain ⟨k,h⟩:=P l0 l1 hm0 y0 hw0 hm1 y1 hw1
 refine (slices_Equal_int_int.calls k _ _ l0 _ _ l1 true w (Kd.C_of_reads (d:=(0:Int)) (h1:=fun _=>rfl) hr0) hc0 (Kd.C_of_reads (d:=(0:Int)) (h1:=fun _=>rfl) hr1) hc1 h).mono ?_
 rintro e w' ⟨rfl,hd⟩
 exact ⟨rfl,hd.below⟩

/-! ### impl_PermValid: function 79 (a section of my own) -/
def impl_PermValid.lp (p:List Int):Nat→Nat→List Bool→Bool
 | 0,_,_=>true
 | d+1,i,seen=>if rd p i < 0 then false else if (p.length:Int)≤rd p i then false else if rdOf false seen (rd p i) = true then false else impl_PermValid.lp p d (i+1) (seen.set (rd p i).toNat true)
def impl_PermValid.f (l0:List Int):Option Bool:=if l0.length < 1 then some false else if 12 < l0.length then some false else some (impl_PermValid.lp l0 l0.length 0 (List.replicate 12 false))
set_option maxHeartbeats 8000000 in
set_option maxRecDepth 100000 in
theorem impl_PermValid.calls (A0:Option Addr) (c0:Nat) (l0:List Int) (r:Bool) (w:World) (hr0:Kd.C (Kd.int .i64) w A0 l0.length l0) (hc0:l0.length≤c0) (h:impl_PermValid.f l0 = some r) :
  Calls Try.prog 79 #[.slice A0 l0.length c0] w fun e w'=>e = .returned (.bool r)∧Below w.heap.size w w':=by
 have HR0:=zA hr0
 have HC0:=zA hc0
 clear hr0 hc0
 have HB:=zA (Below.refl w.heap.size w)
 unfold impl_PermValid.f at h
 by_cases c1:l0.length < 1
 ·rw [if_pos c1] at h
  obtain rfl:=zS h
  clear h
  have c1b:decide (l0.length < 1) = true:=zO c1
  go_enter Try.func79,Try.ntmps79
  go_wp2
  go_ret
  exact ⟨rfl,by exact zB_ HB.out⟩
 ·rw [if_neg c1] at h
  have c1b:decide (l0.length < 1) = false:=zP c1
  by_cases c2:12 < l0.length
  ·rw [if_pos c2] at h
   obtain rfl:=zS h
   clear h
   have c2b:decide (12 < l0.length) = true:=zO c2
   go_enter Try.func79,Try.ntmps79
   go_wp2
   go_ret
   exact ⟨rfl,by exact zB_ HB.out⟩
  ·rw [if_neg c2] at h
   have c2b:decide (12 < l0.length) = false:=zP c2
   have c1c:decide ((l0.length:Int) < 1) = false:=zP (by omega)
   have c2c:decide ((12:Int) < l0.length) = false:=zP (by omega)
   have HL:=zA (show 1≤l0.length∧l0.length≤12 from ⟨by omega,by omega⟩)
   have H:=zS h
   clear h
   have H':=zA H
   clear H c1 c2
   go_enter Try.func79,Try.ntmps79
   go_wp2
   go_loopg [17] l0.length (fun d v17 wr => ∃ (x:Int) (seen:List Bool),v17 = .int .i64 x∧Aside0 (0≤x∧x+d = l0.length)∧Aside0 (impl_PermValid.lp l0 d x.toNat seen = r)∧Aside0 (seen.length = 12)∧Aside0 (wr.heap[w.heap.size]? = some (.cells (seen.map Value.bool).toArray 79 (0,0)))∧Aside0 (Below w.heap.size w wr))
   case atStart=>exact ⟨0,List.replicate 12 false,rfl,⟨by omega,by omega⟩,H',⟨rfl⟩,⟨heap_alloc_new w _⟩,⟨zD HB.out _⟩⟩
   case round =>
    clear H'
    obtain ⟨x,seen,rfl,HX,HA,HS,HG,HB'⟩:=hrel
    cases gk with
    | zero =>
     have c:decide (x < (l0.length:Int)) = false:=zP (by have:=HX.out;omega)
     have hr:r = true:=by have:=HA.out;simp only [impl_PermValid.lp] at this;exact this.symm
     subst hr
     go_wp2
     go_ret
     exact ⟨rfl,HB'.out⟩
    | succ d =>
     have H:=HA.out
     clear HA
     have hx0:0≤x:=HX.out.1
     have hx1:x < (l0.length:Int):=by have:=HX.out;omega
     obtain ⟨n,hn⟩:∃ n:Nat,x = n:=⟨x.toNat,by omega⟩
     obtain ⟨ad,e,hcell⟩:=Kd.at_int HR0.out x hx0 hx1
     cases e
     replace hcell:=(HB'.out.cell (zY w _ hcell)).trans hcell
     obtain ⟨v,hv⟩:∃ v,v = rd l0 x:=⟨_,rfl⟩
     have hcx:decide (x < (l0.length:Int)) = true:=zO hx1
     rw [← hv] at hcell
     have hxn:rd l0 x.toNat = v:=by rw [hv,Int.toNat_of_nonneg hx0]
     simp only [impl_PermValid.lp] at H
     rw [hxn] at H
     replace hx0:=eq_true hx0
     replace hx1:=eq_true hx1
     have HV:=zA hv
     clear hv hn hxn
     by_cases a1:v < 0
     ·rw [if_pos a1] at H
      have b1:decide (v < 0) = true:=zO a1
      subst H
      clear a1
      go_wp2
      go_ret
      exact ⟨rfl,HB'.out⟩
     ·rw [if_neg a1] at H
      have b1:decide (v < 0) = false:=zP a1
      by_cases a2:(l0.length:Int)≤v
      ·rw [if_pos a2] at H
       have b2:decide ((l0.length:Int)≤v) = true:=zO a2
       subst H
       clear a1 a2
       go_wp2
       go_ret
       exact ⟨rfl,HB'.out⟩
      ·rw [if_neg a2] at H
       have b2:decide ((l0.length:Int)≤v) = false:=zP a2
       have v0:0≤v:=by omega
       have v12:v < 12:=by have:=HL.out;omega
       have hvl:v.toNat < seen.length:=by have:=HS.out;omega
       have hc2:wr.cell? ⟨w.heap.size,v.toNat,none⟩ = some (.bool (rdOf false seen v)):=by
        rw [cell_of_row wr _ _ _ _ _ HG.out]
        simp [rdOf,List.getD_eq_getElem?_getD,hvl]
       have hf2:wr.frozen? ⟨w.heap.size,v.toNat,none⟩ = false:=frozen_of_row wr _ _ _ _ HG.out
       have HVL:=zA hvl
       have V0:=zA v0
       clear hvl a1 a2
       replace v0:=eq_true v0
       replace v12:=eq_true v12
       by_cases a3:rdOf false seen v = true
       ·rw [if_pos a3] at H
        rw [a3] at hc2
        subst H
        clear a3
        go_wp2
        go_ret
        exact ⟨rfl,HB'.out⟩
       ·rw [if_neg a3] at H
        rw [Bool.eq_false_iff.mpr a3] at hc2
        clear a3
        have H':=zA H
        clear H
        go_wp2
        go_roundg d
        case measure=>omega
        case rel =>
         have hw:wrap64 (x+1) = x+1:=by have:=HX.out;have:=HL.out;unfold wrap64;omega
         refine ⟨wrap64 (x+1),seen.set v.toNat true,rfl,⟨by rw [hw];have:=HX.out;omega⟩,⟨?_⟩,⟨by simp [HS.out]⟩,⟨?_⟩,⟨zF HB'.out (Nat.le_refl _)⟩⟩
         ·rw [hw,show (x+1).toNat = x.toNat+1 by have:=HX.out;omega]
          exact H'.out
         ·rw [heap_setCell_same wr _ _ _ _ _ HG.out]
          simp [List.map_set]

/-! ### slices_Max_int_int: function 80 (a section of my own) -/
def slices_Max_int_int.lp (p:List Int):Nat→Nat→Int→Int
 | 0,_,m=>m
 | d+1,i,m=>slices_Max_int_int.lp p d (i+1) (mx m (rd p i))
def slices_Max_int_int.f (l0:List Int):Option Int:=if l0.length < 1 then none else some (slices_Max_int_int.lp l0 (l0.length - 1) 1 (rd l0 0))
set_option maxHeartbeats 8000000 in
set_option maxRecDepth 100000 in
theorem slices_Max_int_int.calls (A0:Option Addr) (c0:Nat) (l0:List Int) (r:Int) (w:World) (hr0:Kd.C (Kd.int .i64) w A0 l0.length l0) (hc0:l0.length≤c0) (h:slices_Max_int_int.f l0 = some r) :
  Calls Try.prog 80 #[.slice A0 l0.length c0] w fun e w'=>e = .returned (.int .i64 r)∧Drawn0 w w':=by
 have HR0:=zA hr0
 have HC0:=zA hc0
 clear hr0 hc0
 unfold slices_Max_int_int.f at h
 by_cases c1:l0.length < 1
 ·rw [if_pos c1] at h;cases h
 ·rw [if_neg c1] at h
  have H':=zA (zS h)
  clear h
  have HN:=zA (HR0.out.2.1)
  have HL:=zA (show 1≤l0.length by omega)
  have c1b:decide ((l0.length:Int) < 1) = false:=zP (by omega)
  have c1d:decide (l0.length < 1) = false:=zP (by omega)
  have p0:(0:Int)≤0:=by omega
  have q0:(0:Int) < (l0.length:Int):=by omega
  obtain ⟨ad,e,hcell0⟩:=Kd.at_int HR0.out 0 p0 q0
  cases e
  have q00:0 < l0.length:=by omega
  clear c1
  have hz0:Int.toNat 0 = 0:=rfl
  rw [hz0,Addr.add_zero'] at hcell0
  clear hz0
  replace p0:=eq_true p0
  replace q0:=eq_true q0
  go_enter Try.func80,Try.ntmps80
  go_wp2
  go_loopg [3,4] (l0.length - 1) (fun d v3 v4 wr => ∃ (m x:Int),v3 = .int .i64 m∧v4 = .int .i64 x∧Aside0 (1≤x∧x+d = l0.length)∧Aside0 (slices_Max_int_int.lp l0 d x.toNat m = r)∧Drawn0 w wr)
  case atStart=>exact ⟨rd l0 0,1,rfl,rfl,⟨by have:=HL.out;omega⟩,H',Drawn0.refl _⟩
  case round =>
   clear H'
   obtain ⟨m,x,rfl,rfl,HX,HA,⟨nd,rfl⟩⟩:=hrel
   cases gk with
   | zero =>
    have c:decide (x < (l0.length:Int)) = false:=zP (by have:=HX.out;omega)
    have hr:m = r:=by have:=HA.out;simpa only [slices_Max_int_int.lp] using this
    subst hr
    go_wp2
    go_ret
    exact ⟨rfl,by repeat (first|exact Drawn0.refl _|apply Drawn0.step)⟩
   | succ d =>
    have H:=HA.out
    clear HA
    simp only [slices_Max_int_int.lp] at H
    have hx0:0≤x:=by have:=HX.out;omega
    have hx1:x < (l0.length:Int):=by have:=HX.out;omega
    rw [Int.toNat_of_nonneg hx0] at H
    obtain ⟨ad2,e2,hcell⟩:=Kd.at_int HR0.out x hx0 hx1
    cases e2
    have hw:wrap64 (x+1) = x+1:=by have:=HX.out;have:=HN.out;unfold wrap64;omega
    have HW:=zA hw
    clear hw
    replace hcell:=(Drawn0.below ⟨⟨nd,rfl⟩⟩:Below w.heap.size w (w.drewN nd)).cell (zY w _ hcell) |>.trans hcell
    have hcx:decide (x < (l0.length:Int)) = true:=zO hx1
    have H':=zA H
    clear H
    replace hx0:=eq_true hx0
    replace hx1:=eq_true hx1
    go_wp2
    all_goals
     go_roundg d
     case measure=>omega
     case rel =>
      refine ⟨mx m (rd l0 x),wrap64 (x+1),?_,rfl,⟨by rw [HW.out];have:=HX.out;omega⟩,⟨?_⟩,by repeat (first|exact Drawn0.refl _|apply Drawn0.step)⟩
      ·unfold mx
       first
       | rw [if_pos (by assumption)]
       | rw [if_neg (Int.not_lt.mpr (by assumption))]
      ·rw [HW.out,show (x+1).toNat = x.toNat+1 by have:=HX.out;omega]
       exact H'.out

/-! ### impl_still: function 71 -/
def impl_still.l0:Nat→List Int→Int→Int→Option (List Int)
 | 0,_,_,_=>none
 | k+1,x3,x8,x9=>if x9 < x8 then (if 0≤x9 then (if x9 < (x3.length:Int) then (impl_still.l0 k (x3.set (x9:Int).toNat x9) x8 (wrap64 (x9+1))) else (none)) else (none)) else (some x3)
def impl_still.f (k:Nat) (a0:Int):Option (List Int):=if 0≤a0 then (if (a0:Int).toNat≤35184372088832 then ((some (List.replicate (a0:Int).toNat 0:List Int)).bind fun y108=>(impl_still.l0 k y108 (y108.length:Int) 0)) else (none)) else (none)
theorem impl_still.mono_l:∀ k,(∀ y0 y1 y2,LeO (impl_still.l0 k y0 y1 y2) (impl_still.l0 (k+1) y0 y1 y2))
 | 0=>fun _ _ _ r h=>by simp [impl_still.l0] at h
 | k+1=>by
  have ih0:=impl_still.mono_l k
  ·intro y0 y1 y2
   unfold impl_still.l0
   repeat' first
   | (with_reducible exact ih0 _ _ _)
   | (with_reducible exact LeO.refl _)
   | (with_reducible exact za _)
   | (with_reducible refine zc ?_ ?_)
   | (with_reducible refine zb ?_ (fun _=>?_))
theorem impl_still.mono:∀ a0 k,LeO (impl_still.f k a0) (impl_still.f (k+1) a0):=by
 intro a0 k
 have ih0:=impl_still.mono_l k
 unfold impl_still.f
 repeat' first
   | (with_reducible exact ih0 _ _ _)
   | (with_reducible exact LeO.refl _)
   | (with_reducible exact za _)
   | (with_reducible refine zc ?_ ?_)
   | (with_reducible refine zb ?_ (fun _=>?_))
set_option maxHeartbeats 8000000 in
set_option maxRecDepth 100000 in
theorem impl_still.calls (k:Nat) (a0:Int) (r:List Int) (w:World) (h:impl_still.f k a0 = some r) :
  Calls Try.prog 71 #[.int .i64 a0] w fun e w' => ∃ v0_:Value,e = .returned (v0_)∧Kd.R (Kd.int .i64) 3 w' w.heap.size (fun _=>True) v0_ r∧Below w.heap.size w w':=by
 have HB:=zA (Below.refl w.heap.size w)
 have H:(if 0≤a0 then (if (a0:Int).toNat≤35184372088832 then ((some (List.replicate (a0:Int).toNat 0:List Int)).bind fun y108=>(impl_still.l0 k y108 (y108.length:Int) 0)) else (none)) else (none)) = some r:=h
 clear h
 by_cases c2:0≤a0
 ·rw [if_pos c2] at H
  have c2b0:=eq_true c2
  have c2b1:decide (0≤a0) = true:=zO c2
  clear c2
  by_cases c3:(a0:Int).toNat≤35184372088832
  ·rw [if_pos c3] at H
   have c3b0:=eq_true c3
   have c3b1:decide ((a0:Int).toNat≤35184372088832) = true:=zO c3
   clear c3
   obtain ⟨y108,hy108⟩:∃ y_:List Int,y_ = (List.replicate (a0:Int).toNat 0):=⟨_,rfl⟩
   replace H:(impl_still.l0 k y108 (y108.length:Int) 0) = some r:=by (try rw [hy108]);first|with_reducible exact H|with_reducible exact zS_ H|exact H
   have Ny108:=zA hy108
   clear hy108
   have H':=zA H
   clear H
   go_enter Try.func71,Try.ntmps71
   go_wp2_with (first|((with_reducible refine gate_dst (N:=6) rfl ?_);refine Kd.R_make (Kd.int .i64) _ 3 rfl (N:=6) rfl 31 _ _ rfl a0 rfl rfl Try.underlying31 (.int .i64 0) 8 info3 rfl (by decide) (by omega) 0 (ok:=fun _=>True) (okp:=fun _=>True) rfl (fun _ hk=>hk) trivial (zE (by with_reducible assumption)) (Nat.le_trans (Nat.mul_le_mul_right _ (zE (by with_reducible assumption):a0.toNat≤35184372088832)) (by omega)) (Below.refl _ _) (Nat.le_refl _) ?_;intro v109 w4 ho5 hb hg_ hnew_;clear hg_ hnew_;(first|rw [← Ny108.out] at ho5|(simp only [Int.reduceToNat] at ho5;rw [← Ny108.out] at ho5));have n0_:=zA (ze ho5 (zQ (by exact zB_ HB.out)));have n1_:=zA (zR (by exact zB_ HB.out) hb);clear HB;have HO110:=n0_;have HB:=n1_;clear n0_ n1_;clear hb ho5;obtain ⟨Ao6,co6,eo6⟩:=zg HO110.out;subst eo6))
   go_loopg [9] k (fun kq v9 w' => ∃ (x3_1:List Int) (x9_1:Int),v9 = .int .i64 x9_1∧Aside0 (impl_still.l0 kq x3_1 (y108.length:Int) x9_1 = some r)∧Aside0 (kq≤k)∧Aside0 (Kd.R (Kd.int .i64) 3 w' w.heap.size (fun _=>True) (.slice Ao6 y108.length co6) x3_1)∧Aside0 (Below w.heap.size w w'))
   case atStart=>exact ⟨(y108),(0),(by first|rfl|(simp;done)|(simp [*];done)),H',⟨Nat.le_refl _⟩,⟨by apply zR_;exact HO110.out⟩,⟨by exact zB_ HB.out⟩⟩
   case round =>
    clear H'
    (try clear c2);(try clear c2b0);(try clear c2b1);(try clear p2);(try clear c3);(try clear c3b0);(try clear c3b1)
    obtain ⟨x3_1,x9_1,rfl,HA,HK1,HO_3,HB⟩:=hrel
    have hl3_1:=(zU HO_3.out).1
    rw [hl3_1] at HO_3
    (try simp only [hl3_1])
    cases gk with
    | zero=>exact absurd HA.out (by simp [impl_still.l0])
    | succ k1 =>
     have H:=HA.out
     clear HA
     simp only [impl_still.l0] at H
     by_cases c7:x9_1 < (y108.length:Int)
     ·rw [if_pos c7] at H
      have c7b0:decide (x9_1 < (y108.length:Int)) = true:=zO c7
      clear c7
      by_cases c8:0≤x9_1
      ·rw [if_pos c8] at H
       have c8b0:decide (0≤x9_1) = true:=zO c8
       clear c8
       by_cases c9:x9_1 < (x3_1.length:Int)
       ·rw [if_pos c9] at H
        have c9b0:decide (x9_1 < (x3_1.length:Int)) = true:=zO c9
        clear c9
        obtain ⟨y111,hy111⟩:∃ y_:List Int,y_ = (x3_1.set (x9_1:Int).toNat x9_1):=⟨_,rfl⟩
        replace H:(impl_still.l0 k1 y111 (y108.length:Int) (wrap64 (x9_1+1))) = some r:=by (try rw [hy111]);first|with_reducible exact H|with_reducible exact zS_ H|exact H
        have Ny111:=zA hy111
        clear hy111
        have H':=zA H
        clear H
        have p10:0≤(x9_1:Int):=zE (by with_reducible assumption)
        have q10:(x9_1:Int) < ((x3_1.length:Int):Int):=zE (by with_reducible assumption)
        obtain ⟨go10,co10,eo10,gb10,gl10,cl10,HG10⟩:=Kd.R_form HO_3.out (by omega)
        (first|cases eo10|(injection eo10 with ea_ en_ ec_;(first|subst ea_|(injection ea_ with ea_;subst ea_));subst ec_;clear en_))
        have GB10:=zA gb10
        have GG10:=zA HG10
        clear gb10 gl10 HG10
        obtain ⟨hx10_0,hf10_0⟩:=Kd.R_celln 0 HO_3.out (x9_1:Int) p10 q10
        replace p10:=eq_true p10
        replace q10:=eq_true q10
        have HP11:=Kd.R_putg HO_3.out (x9_1:Int) x9_1
        go_wp2_with (first|((with_reducible refine gate_store (t:=3) (p:=15) rfl ?_);refine store_event (t:=3) (p:=15) (v:=?vo_w12) (w1:=(wr.setCell ⟨go10,(x9_1:Int).toNat,none⟩ (.int .i64 x9_1))) ?hg ?ho ?hn ?hr ?_;(case ho=>rfl);(case hg=>rfl);(case hn=>rfl);(case hr=>first|(go_simp;done)|(go_simp;rfl));intro w12 hw;have hg:wr.grownBy w12 (some go10):=(by rw [hw];exact HP11.2);have hp_:Kd.R (Kd.int .i64) 3 w12 w.heap.size (fun _=>True) (.slice (some ⟨go10,0,none⟩) x3_1.length co6) y111:=(by rw [hw,Ny111.out];exact HP11.1);clear HP11;have n0_:=zA (hp_);have n1_:=zA ((by rw [hw];exact zF (HB.out) GB10.out:Below w.heap.size w w12));clear HO_3;clear HB;have HO_3:=n0_;have HB:=n1_;clear n0_ n1_;clear hg hw hp_))
        (try simp only [← hl3_1])
        go_roundg k1
        case measure=>have:=HK1.out;omega
        case rel=>exact ⟨(y111),(wrap64 (x9_1+1)),(by first|rfl|(simp;done)|(simp [*];done)),H',⟨by have:=HK1.out;omega⟩,⟨by (try simp only [hl3_1]);apply zR_;exact HO_3.out⟩,⟨by exact zB_ HB.out⟩⟩
       ·rw [if_neg c9] at H
        exact absurd H (by simp)
      ·rw [if_neg c8] at H
       exact absurd H (by simp)
     ·rw [if_neg c7] at H
      have c7b0:decide (x9_1 < (y108.length:Int)) = false:=zP c7
      try have c7b9:decide (x9_1 < (x3_1.length:Int)) = false:=by rw [← hl3_1];exact c7b0
      clear c7
      obtain rfl:=zS H
      go_wp2
      go_ret
      exact ⟨_,by first|rfl|(simp [errW_none,errW_some] <;> rfl)|(simp [*,errW_none,errW_some] <;> rfl),by apply zR_;exact HO_3.out,by exact zB_ HB.out⟩
  ·rw [if_neg c3] at H
   exact absurd H (by simp)
 ·rw [if_neg c2] at H
  exact absurd H (by simp)

/-! ### impl_orbits: function 81 -/
mutual
def impl_orbits.l0:Nat→List (List Int)→List Int→Bool→Option (List Int)
 | 0,_,_,_=>none
 | k+1,x0,x3,x4=>if x4 = true then (impl_orbits.l1 k x0 x3 false x0 (x0.length:Int) 0) else (some x3)
def impl_orbits.l1:Nat→List (List Int)→List Int→Bool→List (List Int)→Int→Int→Option (List Int)
 | 0,_,_,_,_,_,_=>none
 | k+1,x0,x3,x4,x16,x17,x18=>if x18 < x17 then (if 0≤x18 then (if x18 < (x16.length:Int) then (impl_orbits.l2 k x0 x3 x4 x16 x17 x18 (rd_L1 x16 x18) ((rd_L1 x16 x18).length:Int) 0) else (none)) else (none)) else (impl_orbits.l0 k x0 x3 x4)
def impl_orbits.l2:Nat→List (List Int)→List Int→Bool→List (List Int)→Int→Int→List Int→Int→Int→Option (List Int)
 | 0,_,_,_,_,_,_,_,_,_=>none
 | k+1,x0,x3,x4,x16,x17,x18,x22,x23,x24=>if x24 < x23 then (if 0≤x24 then (if x24 < (x22.length:Int) then (if x24 < (x3.length:Int) then (if 0≤(rd x22 x24) then (if (rd x22 x24) < (x3.length:Int) then (if (rd x3 x24) = (mn (rd x3 x24) (rd x3 (rd x22 x24))) then (if (rd x3 (rd x22 x24)) = (mn (rd x3 x24) (rd x3 (rd x22 x24))) then (impl_orbits.l2 k x0 x3 x4 x16 x17 x18 x22 x23 (wrap64 (x24+1))) else (impl_orbits.l2 k x0 ((x3.set (x24:Int).toNat (mn (rd x3 x24) (rd x3 (rd x22 x24)))).set ((rd x22 x24):Int).toNat (mn (rd x3 x24) (rd x3 (rd x22 x24)))) true x16 x17 x18 x22 x23 (wrap64 (x24+1)))) else (impl_orbits.l2 k x0 ((x3.set (x24:Int).toNat (mn (rd x3 x24) (rd x3 (rd x22 x24)))).set ((rd x22 x24):Int).toNat (mn (rd x3 x24) (rd x3 (rd x22 x24)))) true x16 x17 x18 x22 x23 (wrap64 (x24+1)))) else (none)) else (none)) else (none)) else (none)) else (none)) else (impl_orbits.l1 k x0 x3 x4 x16 x17 (wrap64 (x18+1)))
end
def impl_orbits.f (k:Nat) (l0:List (List Int)):Option (List Int):=if 0 < (l0.length:Int) then ((impl_still.f k ((rd_L1 l0 0).length:Int)).bind fun t113=>(impl_orbits.l0 k l0 t113 true)) else (none)
theorem impl_orbits.mono_l:∀ k,(∀ y0 y1 y2,LeO (impl_orbits.l0 k y0 y1 y2) (impl_orbits.l0 (k+1) y0 y1 y2))∧(∀ y0 y1 y2 y3 y4 y5,LeO (impl_orbits.l1 k y0 y1 y2 y3 y4 y5) (impl_orbits.l1 (k+1) y0 y1 y2 y3 y4 y5))∧(∀ y0 y1 y2 y3 y4 y5 y6 y7 y8,LeO (impl_orbits.l2 k y0 y1 y2 y3 y4 y5 y6 y7 y8) (impl_orbits.l2 (k+1) y0 y1 y2 y3 y4 y5 y6 y7 y8))
 | 0=>⟨fun _ _ _ r h=>by simp [impl_orbits.l0] at h,fun _ _ _ _ _ _ r h=>by simp [impl_orbits.l1] at h,fun _ _ _ _ _ _ _ _ _ r h=>by simp [impl_orbits.l2] at h⟩
 | k+1=>by
  obtain ⟨ih0,ih1,ih2⟩:=impl_orbits.mono_l k
  refine ⟨?_,?_,?_⟩
  ·intro y0 y1 y2
   unfold impl_orbits.l0
   repeat' first
   | (with_reducible exact ih0 _ _ _)
   | (with_reducible exact ih1 _ _ _ _ _ _)
   | (with_reducible exact ih2 _ _ _ _ _ _ _ _ _)
   | (with_reducible exact impl_still.mono _ _)
   | (with_reducible exact LeO.refl _)
   | (with_reducible exact za _)
   | (with_reducible refine zc ?_ ?_)
   | (with_reducible refine zb ?_ (fun _=>?_))
  ·intro y0 y1 y2 y3 y4 y5
   unfold impl_orbits.l1
   repeat' first
   | (with_reducible exact ih0 _ _ _)
   | (with_reducible exact ih1 _ _ _ _ _ _)
   | (with_reducible exact ih2 _ _ _ _ _ _ _ _ _)
   | (with_reducible exact impl_still.mono _ _)
   | (with_reducible exact LeO.refl _)
   | (with_reducible exact za _)
   | (with_reducible refine zc ?_ ?_)
   | (with_reducible refine zb ?_ (fun _=>?_))
  ·intro y0 y1 y2 y3 y4 y5 y6 y7 y8
   unfold impl_orbits.l2
   repeat' first
   | (with_reducible exact ih0 _ _ _)
   | (with_reducible exact ih1 _ _ _ _ _ _)
   | (with_reducible exact ih2 _ _ _ _ _ _ _ _ _)
   | (with_reducible exact impl_still.mono _ _)
   | (with_reducible exact LeO.refl _)
   | (with_reducible exact za _)
   | (with_reducible refine zc ?_ ?_)
   | (with_reducible refine zb ?_ (fun _=>?_))
theorem impl_orbits.mono:∀ a0 k,LeO (impl_orbits.f k a0) (impl_orbits.f (k+1) a0):=by
 intro a0 k
 obtain ⟨ih0,ih1,ih2⟩:=impl_orbits.mono_l k
 unfold impl_orbits.f
 repeat' first
   | (with_reducible exact ih0 _ _ _)
   | (with_reducible exact ih1 _ _ _ _ _ _)
   | (with_reducible exact ih2 _ _ _ _ _ _ _ _ _)
   | (with_reducible exact impl_still.mono _ _)
   | (with_reducible exact LeO.refl _)
   | (with_reducible exact za _)
   | (with_reducible refine zc ?_ ?_)
   | (with_reducible refine zb ?_ (fun _=>?_))
set_option maxHeartbeats 8000000 in
set_option maxRecDepth 100000 in
theorem impl_orbits.calls (k:Nat) (A0:Option Addr) (c0:Nat) (l0:List (List Int)) (r:List Int) (w:World) (hr0:Kd.C (Kd.slice 3 (Kd.int .i64)) w A0 l0.length l0) (hc0:l0.length≤c0) (h:impl_orbits.f k l0 = some r) :
  Calls Try.prog 81 #[.slice A0 l0.length c0] w fun e w' => ∃ v0_:Value,e = .returned (v0_)∧Kd.R (Kd.int .i64) 3 w' w.heap.size (fun _=>True) v0_ r∧Below w.heap.size w w':=by
 have HR0:=zA hr0
 have HC0:=zA hc0
 clear hr0 hc0
 have HB:=zA (Below.refl w.heap.size w)
 have H:(if 0 < (l0.length:Int) then ((impl_still.f k ((rd_L1 l0 0).length:Int)).bind fun t113=>(impl_orbits.l0 k l0 t113 true)) else (none)) = some r:=h
 clear h
 by_cases c2:0 < (l0.length:Int)
 ·rw [if_pos c2] at H
  have c2b0:decide (0 < (l0.length:Int)) = true:=zO c2
  have c2b1:decide (0 < l0.length) = true:=zO (by omega)
  clear c2
  replace H:=zz0 H
  obtain ⟨t113,A30,H⟩:=H
  try dsimp only at H
  have A3:=zA A30
  clear A30
  have H':=zA H
  clear H
  have p112:0≤(0:Int):=(by omega)
  have q112:0 < (l0.length:Int):=zE (by with_reducible assumption)
  obtain ⟨ad112,A112_0,c112_0,e112,hx112_0,hl112_0,hi112_0⟩:=at_L1 HR0.out 0 p112 q112
  cases e112
  have qi112:(0 < l0.length) = True:=eq_true (by omega)
  (try rw [show ((0:Int)).toNat = 0 from rfl] at hx112_0)
  (try rw [Addr.add_zero'] at hx112_0)
  have HR112_0:=zA hi112_0
  have HC112_0:=zA hl112_0
  clear hi112_0 hl112_0
  replace p112:=eq_true p112
  replace q112:=eq_true q112
  go_enter Try.func81,Try.ntmps81
  go_wp2_with (first|(go_at_call 71;(with_reducible refine (impl_still.calls k ((rd_L1 l0 0).length:Int) t113 _ A3.out).mono ?_);rintro e w4 ⟨v114,rfl,ho0,hb⟩;have n0_:=zA (ze ho0 (zQ (by exact zB_ HB.out)));have n1_:=zA (zR (by exact zB_ HB.out) hb);clear HB;have HO115:=n0_;have HB:=n1_;clear n0_ n1_;(try clear hb);(try clear hb2);(try clear hk);(try clear hi);(try clear ho0)))
  repeat (go_quiet (fail);try go_wp2_with (first|(go_at_call 71;(with_reducible refine (impl_still.calls k ((rd_L1 l0 0).length:Int) t113 _ A3.out).mono ?_);rintro e w4 ⟨v114,rfl,ho0,hb⟩;have n0_:=zA (ze ho0 (zQ (by exact zB_ HB.out)));have n1_:=zA (zR (by exact zB_ HB.out) hb);clear HB;have HO115:=n0_;have HB:=n1_;clear n0_ n1_;(try clear hb);(try clear hb2);(try clear hk);(try clear hi);(try clear ho0))))
  go_loopg [4] k (fun kq v4 w' => ∃ (x3_1:List Int) (x4_1:Bool),v4 = .bool x4_1∧Aside0 (impl_orbits.l0 kq l0 x3_1 x4_1 = some r)∧Aside0 (kq≤k)∧Aside0 (Kd.R (Kd.int .i64) 3 w' w.heap.size (fun _=>True) v114 x3_1)∧Aside0 (Below w.heap.size w w'))
  case atStart=>exact ⟨(t113),(true),(by first|rfl|(simp;done)|(simp [*];done)),H',⟨Nat.le_refl _⟩,⟨by apply zR_;exact HO115.out⟩,⟨by exact zB_ HB.out⟩⟩
  case round =>
   clear H'
   (try clear c1);(try clear p1);(try clear q1);(try clear hx1);(try clear qi1);(try clear c2);(try clear c2b0);(try clear c2b1);(try clear p2);(try clear hx112_0);(try clear p112);(try clear q112)
   obtain ⟨x3_1,x4_1,rfl,HA,HK1,HO_3,HB⟩:=hrel
   cases gk with
   | zero=>exact absurd HA.out (by simp [impl_orbits.l0])
   | succ k1 =>
    have H:=HA.out
    clear HA
    simp only [impl_orbits.l0] at H
    by_cases c5:x4_1 = true
    ·subst c5
     rw [if_pos rfl] at H;try dsimp only at H
     have H':=zA H
     clear H
     go_wp2
     repeat (go_quiet (fail);try go_wp2)
     go_loopg [4,18] k1 (fun kq v4 v18 w' => ∃ (x3_2:List Int) (x4_2:Bool) (x18_2:Int),v4 = .bool x4_2∧v18 = .int .i64 x18_2∧Aside0 (impl_orbits.l1 kq l0 x3_2 x4_2 l0 (l0.length:Int) x18_2 = some r)∧Aside0 (kq≤k1)∧Aside0 (Kd.R (Kd.int .i64) 3 w' w.heap.size (fun _=>True) v114 x3_2)∧Aside0 (Below w.heap.size w w'))
     case atStart=>exact ⟨(x3_1),(false),(0),(by first|rfl|(simp;done)|(simp [*];done)),(by first|rfl|(simp;done)|(simp [*];done)),H',⟨Nat.le_refl _⟩,⟨by apply zR_;exact HO_3.out⟩,⟨by exact zB_ HB.out⟩⟩
     case round =>
      clear H'
      (try clear c1);(try clear p1);(try clear q1);(try clear hx1);(try clear qi1);(try clear c2);(try clear c2b0);(try clear c2b1);(try clear p2);(try clear c5);(try clear hx112_0);(try clear p1);(try clear p112);(try clear p2);(try clear q1);(try clear q112)
      obtain ⟨x3_2,x4_2,x18_2,rfl,rfl,HA,HK2,HO_3,HB⟩:=hrel
      cases gk with
      | zero=>exact absurd HA.out (by simp [impl_orbits.l1])
      | succ k2 =>
       have H:=HA.out
       clear HA
       simp only [impl_orbits.l1] at H
       by_cases c6:x18_2 < (l0.length:Int)
       ·rw [if_pos c6] at H
        have c6b0:decide (x18_2 < (l0.length:Int)) = true:=zO c6
        clear c6
        by_cases c7:0≤x18_2
        ·rw [if_pos c7] at H
         have c7b0:decide (0≤x18_2) = true:=zO c7
         clear c7
         by_cases c8:x18_2 < (l0.length:Int)
         ·rw [if_pos c8] at H
          have c8b0:decide (x18_2 < (l0.length:Int)) = true:=zO c8
          clear c8
          have H':=zA H
          clear H
          have p116:0≤(x18_2:Int):=zE (by with_reducible assumption)
          have q116:x18_2 < (l0.length:Int):=zE (by with_reducible assumption)
          obtain ⟨ad116,A116_0,c116_0,e116,hx116_0,hl116_0,hi116_0⟩:=at_L1 HR0.out x18_2 p116 q116
          obtain rfl:ad112 = ad116:=(by injection e116)
          replace hx116_0:=(HB.out.cell (zY w _ hx116_0)).trans hx116_0
          have HR116_0:=zA hi116_0
          have HC116_0:=zA hl116_0
          clear hi116_0 hl116_0
          replace p116:=eq_true p116
          replace q116:=eq_true q116
          go_wp2
          repeat (go_quiet (fail);try go_wp2)
          go_loopg [4,24] k2 (fun kq v4 v24 w' => ∃ (x3_3:List Int) (x4_3:Bool) (x24_3:Int),v4 = .bool x4_3∧v24 = .int .i64 x24_3∧Aside0 (impl_orbits.l2 kq l0 x3_3 x4_3 l0 (l0.length:Int) x18_2 (rd_L1 l0 x18_2) ((rd_L1 l0 x18_2).length:Int) x24_3 = some r)∧Aside0 (kq≤k2)∧Aside0 (Kd.R (Kd.int .i64) 3 w' w.heap.size (fun _=>True) v114 x3_3)∧Aside0 (Below w.heap.size w w'))
          case atStart=>exact ⟨(x3_2),(x4_2),(0),(by first|rfl|(simp;done)|(simp [*];done)),(by first|rfl|(simp;done)|(simp [*];done)),H',⟨Nat.le_refl _⟩,⟨by apply zR_;exact HO_3.out⟩,⟨by exact zB_ HB.out⟩⟩
          case round =>
           clear H'
           (try clear c1);(try clear p1);(try clear q1);(try clear hx1);(try clear qi1);(try clear c2);(try clear c2b0);(try clear c2b1);(try clear p2);(try clear c5);(try clear c6);(try clear c6b0);(try clear c7);(try clear c7b0);(try clear c8);(try clear c8b0);(try clear hx112_0);(try clear hx116_0);(try clear p1);(try clear p112);(try clear p116);(try clear p2);(try clear q1);(try clear q112);(try clear q116)
           obtain ⟨x3_3,x4_3,x24_3,rfl,rfl,HA,HK3,HO_3,HB⟩:=hrel
           cases gk with
           | zero=>exact absurd HA.out (by simp [impl_orbits.l2])
           | succ k3 =>
            have H:=HA.out
            clear HA
            simp only [impl_orbits.l2] at H
            by_cases c9:x24_3 < ((rd_L1 l0 x18_2).length:Int)
            ·rw [if_pos c9] at H
             have c9b0:decide (x24_3 < ((rd_L1 l0 x18_2).length:Int)) = true:=zO c9
             clear c9
             by_cases c10:0≤x24_3
             ·rw [if_pos c10] at H
              have c10b0:decide (0≤x24_3) = true:=zO c10
              clear c10
              by_cases c11:x24_3 < ((rd_L1 l0 x18_2).length:Int)
              ·rw [if_pos c11] at H
               have c11b0:decide (x24_3 < ((rd_L1 l0 x18_2).length:Int)) = true:=zO c11
               clear c11
               by_cases c12:x24_3 < (x3_3.length:Int)
               ·rw [if_pos c12] at H
                have c12b0:decide (x24_3 < (x3_3.length:Int)) = true:=zO c12
                clear c12
                by_cases c13:0≤(rd (rd_L1 l0 x18_2) x24_3)
                ·rw [if_pos c13] at H
                 have c13b0:decide (0≤(rd (rd_L1 l0 x18_2) x24_3)) = true:=zO c13
                 clear c13
                 by_cases c14:(rd (rd_L1 l0 x18_2) x24_3) < (x3_3.length:Int)
                 ·rw [if_pos c14] at H
                  have c14b0:decide ((rd (rd_L1 l0 x18_2) x24_3) < (x3_3.length:Int)) = true:=zO c14
                  clear c14
                  obtain ⟨ji15,hji15⟩:∃ j_:Int,(mn (rd x3_3 x24_3) (rd x3_3 (rd (rd_L1 l0 x18_2) x24_3))) = j_:=⟨_,rfl⟩
                  replace H:(if (rd x3_3 x24_3) = (ji15) then (if (rd x3_3 (rd (rd_L1 l0 x18_2) x24_3)) = (ji15) then (impl_orbits.l2 k3 l0 x3_3 x4_3 l0 (l0.length:Int) x18_2 (rd_L1 l0 x18_2) ((rd_L1 l0 x18_2).length:Int) (wrap64 (x24_3+1))) else (impl_orbits.l2 k3 l0 ((x3_3.set (x24_3:Int).toNat (ji15)).set ((rd (rd_L1 l0 x18_2) x24_3):Int).toNat (ji15)) true l0 (l0.length:Int) x18_2 (rd_L1 l0 x18_2) ((rd_L1 l0 x18_2).length:Int) (wrap64 (x24_3+1)))) else (impl_orbits.l2 k3 l0 ((x3_3.set (x24_3:Int).toNat (ji15)).set ((rd (rd_L1 l0 x18_2) x24_3):Int).toNat (ji15)) true l0 (l0.length:Int) x18_2 (rd_L1 l0 x18_2) ((rd_L1 l0 x18_2).length:Int) (wrap64 (x24_3+1)))) = some r:=by first|(rw [hji15] at H;exact H)|(simp only [hji15] at H ⊢;exact H)
                  have hji15_:(if (rd x3_3 (rd (rd_L1 l0 x18_2) x24_3)) < (rd x3_3 x24_3) then (rd x3_3 (rd (rd_L1 l0 x18_2) x24_3)) else (rd x3_3 x24_3)) = ji15:=hji15
                  by_cases c16:(rd x3_3 x24_3) = (ji15)
                  ·rw [if_pos c16] at H
                   have c16b0:((rd x3_3 x24_3) == (ji15)) = true:=beq_iff_eq.mpr c16
                   have c16b1:((rd x3_3 x24_3) != (ji15)) = false:=bne_eq_false_iff_eq.mpr c16
                   clear c16
                   by_cases c17:(rd x3_3 (rd (rd_L1 l0 x18_2) x24_3)) = (ji15)
                   ·rw [if_pos c17] at H
                    have c17b0:((rd x3_3 (rd (rd_L1 l0 x18_2) x24_3)) == (ji15)) = true:=beq_iff_eq.mpr c17
                    have c17b1:((rd x3_3 (rd (rd_L1 l0 x18_2) x24_3)) != (ji15)) = false:=bne_eq_false_iff_eq.mpr c17
                    clear c17
                    have H':=zA H
                    clear H
                    have p117:0≤(x24_3:Int):=zE (by with_reducible assumption)
                    have q117:x24_3 < ((rd_L1 l0 x18_2).length:Int):=zE (by with_reducible assumption)
                    obtain ⟨ad117,e117,hx117_0⟩:=Kd.at_int HR116_0.out x24_3 p117 q117
                    cases e117
                    replace hx117_0:=(HB.out.cell (zY w _ hx117_0)).trans hx117_0
                    replace p117:=eq_true p117
                    replace q117:=eq_true q117
                    obtain ⟨Ao18,co18,eo18⟩:=zg HO_3.out
                    subst eo18
                    have p118:0≤(x24_3:Int):=zE (by with_reducible assumption)
                    have q118:x24_3 < (x3_3.length:Int):=zE (by with_reducible assumption)
                    obtain ⟨ad118,e118,hx118_0⟩:=Kd.at_int (zU HO_3.out).2.2 x24_3 p118 q118
                    cases e118
                    replace p118:=eq_true p118
                    replace q118:=eq_true q118
                    have p119:0≤((rd (rd_L1 l0 x18_2) x24_3):Int):=zE (by with_reducible assumption)
                    have q119:(rd (rd_L1 l0 x18_2) x24_3) < (x3_3.length:Int):=zE (by with_reducible assumption)
                    obtain ⟨ad119,e119,hx119_0⟩:=Kd.at_int (zU HO_3.out).2.2 (rd (rd_L1 l0 x18_2) x24_3) p119 q119
                    obtain rfl:ad118 = ad119:=(by injection e119)
                    replace p119:=eq_true p119
                    replace q119:=eq_true q119
                    have p120:0≤(x24_3:Int):=zE (by with_reducible assumption)
                    have q120:x24_3 < (x3_3.length:Int):=zE (by with_reducible assumption)
                    obtain ⟨ad120,e120,hx120_0⟩:=Kd.at_int (zU HO_3.out).2.2 x24_3 p120 q120
                    obtain rfl:ad118 = ad120:=(by injection e120)
                    replace p120:=eq_true p120
                    replace q120:=eq_true q120
                    have p121:0≤((rd (rd_L1 l0 x18_2) x24_3):Int):=zE (by with_reducible assumption)
                    have q121:(rd (rd_L1 l0 x18_2) x24_3) < (x3_3.length:Int):=zE (by with_reducible assumption)
                    obtain ⟨ad121,e121,hx121_0⟩:=Kd.at_int (zU HO_3.out).2.2 (rd (rd_L1 l0 x18_2) x24_3) p121 q121
                    obtain rfl:ad118 = ad121:=(by injection e121)
                    replace p121:=eq_true p121
                    replace q121:=eq_true q121
                    go_wp2
                    repeat (go_quiet (fail);try go_wp2)
                    go_roundg k3
                    case measure=>have:=HK1.out;have:=HK2.out;have:=HK3.out;omega
                    case rel=>exact ⟨(x3_3),(x4_3),(wrap64 (x24_3+1)),(by first|rfl|(simp;done)|(simp [*];done)),(by first|rfl|(simp;done)|(simp [*];done)),H',⟨by have:=HK1.out;have:=HK2.out;have:=HK3.out;omega⟩,⟨by apply zR_;exact HO_3.out⟩,⟨by exact zB_ HB.out⟩⟩
                   ·rw [if_neg c17] at H
                    have c17b0:((rd x3_3 (rd (rd_L1 l0 x18_2) x24_3)) == (ji15)) = false:=beq_eq_false_iff_ne.mpr c17
                    have c17b1:((rd x3_3 (rd (rd_L1 l0 x18_2) x24_3)) != (ji15)) = true:=bne_iff_ne.mpr c17
                    obtain ⟨y122,hy122⟩:∃ y_:List Int,y_ = (x3_3.set (x24_3:Int).toNat (ji15)):=⟨_,rfl⟩
                    replace H:(impl_orbits.l2 k3 l0 (y122.set ((rd (rd_L1 l0 x18_2) x24_3):Int).toNat (ji15)) true l0 (l0.length:Int) x18_2 (rd_L1 l0 x18_2) ((rd_L1 l0 x18_2).length:Int) (wrap64 (x24_3+1))) = some r:=by (try rw [hy122]);first|with_reducible exact H|with_reducible exact zS_ H|exact H
                    have Ny122:=zA hy122
                    clear hy122
                    obtain ⟨y123,hy123⟩:∃ y_:List Int,y_ = (y122.set ((rd (rd_L1 l0 x18_2) x24_3):Int).toNat (ji15)):=⟨_,rfl⟩
                    replace H:(impl_orbits.l2 k3 l0 y123 true l0 (l0.length:Int) x18_2 (rd_L1 l0 x18_2) ((rd_L1 l0 x18_2).length:Int) (wrap64 (x24_3+1))) = some r:=by (try rw [hy123]);first|with_reducible exact H|with_reducible exact zS_ H|exact H
                    have Ny123:=zA hy123
                    clear hy123
                    have H':=zA H
                    clear H
                    have p117:0≤(x24_3:Int):=zE (by with_reducible assumption)
                    have q117:x24_3 < ((rd_L1 l0 x18_2).length:Int):=zE (by with_reducible assumption)
                    obtain ⟨ad117,e117,hx117_0⟩:=Kd.at_int HR116_0.out x24_3 p117 q117
                    cases e117
                    replace hx117_0:=(HB.out.cell (zY w _ hx117_0)).trans hx117_0
                    replace p117:=eq_true p117
                    replace q117:=eq_true q117
                    obtain ⟨Ao21,co21,eo21⟩:=zg HO_3.out
                    subst eo21
                    have p118:0≤(x24_3:Int):=zE (by with_reducible assumption)
                    have q118:x24_3 < (x3_3.length:Int):=zE (by with_reducible assumption)
                    obtain ⟨ad118,e118,hx118_0⟩:=Kd.at_int (zU HO_3.out).2.2 x24_3 p118 q118
                    cases e118
                    replace p118:=eq_true p118
                    replace q118:=eq_true q118
                    have p119:0≤((rd (rd_L1 l0 x18_2) x24_3):Int):=zE (by with_reducible assumption)
                    have q119:(rd (rd_L1 l0 x18_2) x24_3) < (x3_3.length:Int):=zE (by with_reducible assumption)
                    obtain ⟨ad119,e119,hx119_0⟩:=Kd.at_int (zU HO_3.out).2.2 (rd (rd_L1 l0 x18_2) x24_3) p119 q119
                    obtain rfl:ad118 = ad119:=(by injection e119)
                    replace p119:=eq_true p119
                    replace q119:=eq_true q119
                    have p120:0≤(x24_3:Int):=zE (by with_reducible assumption)
                    have q120:x24_3 < (x3_3.length:Int):=zE (by with_reducible assumption)
                    obtain ⟨ad120,e120,hx120_0⟩:=Kd.at_int (zU HO_3.out).2.2 x24_3 p120 q120
                    obtain rfl:ad118 = ad120:=(by injection e120)
                    replace p120:=eq_true p120
                    replace q120:=eq_true q120
                    have p121:0≤((rd (rd_L1 l0 x18_2) x24_3):Int):=zE (by with_reducible assumption)
                    have q121:(rd (rd_L1 l0 x18_2) x24_3) < (x3_3.length:Int):=zE (by with_reducible assumption)
                    obtain ⟨ad121,e121,hx121_0⟩:=Kd.at_int (zU HO_3.out).2.2 (rd (rd_L1 l0 x18_2) x24_3) p121 q121
                    obtain rfl:ad118 = ad121:=(by injection e121)
                    replace p121:=eq_true p121
                    replace q121:=eq_true q121
                    have p19:0≤(x24_3:Int):=zE (by with_reducible assumption)
                    have q19:(x24_3:Int) < ((x3_3.length:Int):Int):=zE (by with_reducible assumption)
                    obtain ⟨go19,co19,eo19,gb19,gl19,cl19,HG19⟩:=Kd.R_form HO_3.out (by omega)
                    (first|cases eo19|(injection eo19 with ea_ en_ ec_;(first|subst ea_|(injection ea_ with ea_;subst ea_));subst ec_;clear en_))
                    have GB19:=zA gb19
                    have GG19:=zA HG19
                    clear gb19 gl19 HG19
                    (first|simp only [add_plain] at hx118_0|skip)
                    (first|simp only [add_plain] at hx119_0|skip)
                    (first|simp only [add_plain] at hx120_0|skip)
                    (first|simp only [add_plain] at hx121_0|skip)
                    obtain ⟨hx19_0,hf19_0⟩:=Kd.R_celln 0 HO_3.out (x24_3:Int) p19 q19
                    replace p19:=eq_true p19
                    replace q19:=eq_true q19
                    have HP22:=Kd.R_putg HO_3.out (x24_3:Int) ji15
                    go_wp2_with (first|((with_reducible refine gate_store (t:=3) (p:=58) rfl ?_);(try ((first|(generalize hq_:World.drewN wr _ = wr)|(rw [drewN_self wr];generalize hq_:World.drewN wr _ = wr));have n0_:=zA (Kd.R_at hq_ HO_3.out);have n1_:=zA (below_at hq_ HB.out);clear hq_ HO_3 HB;have HO_3:=n0_;have HB:=n1_;clear n0_ n1_;(try (have HP22:=Kd.R_putg HO_3.out (x24_3:Int) ji15));(try (obtain ⟨hx19b_,hf19b_⟩:=Kd.R_celln 0 HO_3.out (x24_3:Int) (of_eq_true (by assumption)) (of_eq_true (by assumption))))));refine store_event (t:=3) (p:=58) (v:=?vo_w23) (w1:=(wr.setCell ⟨go19,(x24_3:Int).toNat,none⟩ (.int .i64 ji15))) ?hg ?ho ?hn ?hr ?_;(case ho=>rfl);(case hg=>rfl);(case hn=>rfl);(case hr=>first|(go_simp;done)|(go_simp;rfl)|(go_simp;congr 2;have hq9_:=hji15_;(try have c16q_:=beq_iff_eq.1 c16b0);split at hq9_ <;> (first|omega|simp_all)));intro w23 hw;have hg:wr.grownBy w23 (some go19):=(by rw [hw];exact HP22.2);have hp_:Kd.R (Kd.int .i64) 3 w23 w.heap.size (fun _=>True) (.slice (some ⟨go19,0,none⟩) x3_3.length co21) y122:=(by rw [hw,Ny122.out];exact HP22.1);clear HP22;have n0_:=zA (hp_);have n1_:=zA ((by rw [hw];exact zF (HB.out) GB19.out:Below w.heap.size w w23));clear HO_3;clear HB;have HO_3:=n0_;have HB:=n1_;clear n0_ n1_;clear hg hw hp_;have p20:0≤((rd (rd_L1 l0 x18_2) x24_3):Int):=zE (by with_reducible assumption);have q20:((rd (rd_L1 l0 x18_2) x24_3):Int) < ((x3_3.length:Int):Int):=zE (by with_reducible assumption);obtain ⟨hx20_0,hf20_0⟩:=Kd.R_celln 0 HO_3.out ((rd (rd_L1 l0 x18_2) x24_3):Int) p20 q20;replace p20:=eq_true p20;replace q20:=eq_true q20;obtain ⟨hy24_,hz24_⟩:=Kd.R_celln 0 HO_3.out ((rd (rd_L1 l0 x18_2) x24_3):Int) (zE (by with_reducible assumption)) (zE (by with_reducible assumption));have HP24:=Kd.R_putg HO_3.out ((rd (rd_L1 l0 x18_2) x24_3):Int) ji15)|((with_reducible refine gate_store (t:=3) (p:=59) rfl ?_);(try (rw [drewN_self w23];generalize hq_:World.drewN w23 _ = w23;have n0_:=zA (Kd.R_at hq_ HO_3.out);have n1_:=zA (below_at hq_ HB.out);clear hq_ HO_3 HB;have HO_3:=n0_;have HB:=n1_;clear n0_ n1_;(try (obtain ⟨hy24_,hz24_⟩:=Kd.R_celln 0 HO_3.out ((rd (rd_L1 l0 x18_2) x24_3):Int) (zE (by with_reducible assumption)) (zE (by with_reducible assumption))));(try (have HP24:=Kd.R_putg HO_3.out ((rd (rd_L1 l0 x18_2) x24_3):Int) ji15))));refine store_event (t:=3) (p:=59) (v:=?vo_w25) (w1:=(w23.setCell ⟨go19,((rd (rd_L1 l0 x18_2) x24_3):Int).toNat,none⟩ (.int .i64 ji15))) ?hg ?ho ?hn ?hr ?_;(case ho=>rfl);(case hg=>rfl);(case hn=>rfl);(case hr=>first|(go_simp;done)|(go_simp;rfl)|(go_simp;congr 2;have hq9_:=hji15_;(try have c16q_:=beq_iff_eq.1 c16b0);split at hq9_ <;> (first|omega|simp_all)));intro w25 hw;have hg:w23.grownBy w25 (some go19):=(by rw [hw];exact HP24.2);have hp_:Kd.R (Kd.int .i64) 3 w25 w.heap.size (fun _=>True) (.slice (some ⟨go19,0,none⟩) x3_3.length co21) y123:=(by rw [hw,Ny123.out];exact HP24.1);clear HP24;have n0_:=zA (hp_);have n1_:=zA ((by rw [hw];exact zF (HB.out) GB19.out:Below w.heap.size w w25));clear HO_3;clear HB;have HO_3:=n0_;have HB:=n1_;clear n0_ n1_;clear hg hw hp_))
                    repeat (go_quiet (first|((with_reducible refine gate_store (t:=3) (p:=58) rfl ?_);(try ((first|(generalize hq_:World.drewN wr _ = wr)|(rw [drewN_self wr];generalize hq_:World.drewN wr _ = wr));have n0_:=zA (Kd.R_at hq_ HO_3.out);have n1_:=zA (below_at hq_ HB.out);clear hq_ HO_3 HB;have HO_3:=n0_;have HB:=n1_;clear n0_ n1_;(try (have HP22:=Kd.R_putg HO_3.out (x24_3:Int) ji15));(try (obtain ⟨hx19b_,hf19b_⟩:=Kd.R_celln 0 HO_3.out (x24_3:Int) (of_eq_true (by assumption)) (of_eq_true (by assumption))))));refine store_event (t:=3) (p:=58) (v:=?vo_w23) (w1:=(wr.setCell ⟨go19,(x24_3:Int).toNat,none⟩ (.int .i64 ji15))) ?hg ?ho ?hn ?hr ?_;(case ho=>rfl);(case hg=>rfl);(case hn=>rfl);(case hr=>first|(go_simp;done)|(go_simp;rfl)|(go_simp;congr 2;have hq9_:=hji15_;(try have c16q_:=beq_iff_eq.1 c16b0);split at hq9_ <;> (first|omega|simp_all)));intro w23 hw;have hg:wr.grownBy w23 (some go19):=(by rw [hw];exact HP22.2);have hp_:Kd.R (Kd.int .i64) 3 w23 w.heap.size (fun _=>True) (.slice (some ⟨go19,0,none⟩) x3_3.length co21) y122:=(by rw [hw,Ny122.out];exact HP22.1);clear HP22;have n0_:=zA (hp_);have n1_:=zA ((by rw [hw];exact zF (HB.out) GB19.out:Below w.heap.size w w23));clear HO_3;clear HB;have HO_3:=n0_;have HB:=n1_;clear n0_ n1_;clear hg hw hp_;have p20:0≤((rd (rd_L1 l0 x18_2) x24_3):Int):=zE (by with_reducible assumption);have q20:((rd (rd_L1 l0 x18_2) x24_3):Int) < ((x3_3.length:Int):Int):=zE (by with_reducible assumption);obtain ⟨hx20_0,hf20_0⟩:=Kd.R_celln 0 HO_3.out ((rd (rd_L1 l0 x18_2) x24_3):Int) p20 q20;replace p20:=eq_true p20;replace q20:=eq_true q20;obtain ⟨hy24_,hz24_⟩:=Kd.R_celln 0 HO_3.out ((rd (rd_L1 l0 x18_2) x24_3):Int) (zE (by with_reducible assumption)) (zE (by with_reducible assumption));have HP24:=Kd.R_putg HO_3.out ((rd (rd_L1 l0 x18_2) x24_3):Int) ji15)|((with_reducible refine gate_store (t:=3) (p:=59) rfl ?_);(try (rw [drewN_self w23];generalize hq_:World.drewN w23 _ = w23;have n0_:=zA (Kd.R_at hq_ HO_3.out);have n1_:=zA (below_at hq_ HB.out);clear hq_ HO_3 HB;have HO_3:=n0_;have HB:=n1_;clear n0_ n1_;(try (obtain ⟨hy24_,hz24_⟩:=Kd.R_celln 0 HO_3.out ((rd (rd_L1 l0 x18_2) x24_3):Int) (zE (by with_reducible assumption)) (zE (by with_reducible assumption))));(try (have HP24:=Kd.R_putg HO_3.out ((rd (rd_L1 l0 x18_2) x24_3):Int) ji15))));refine store_event (t:=3) (p:=59) (v:=?vo_w25) (w1:=(w23.setCell ⟨go19,((rd (rd_L1 l0 x18_2) x24_3):Int).toNat,none⟩ (.int .i64 ji15))) ?hg ?ho ?hn ?hr ?_;(case ho=>rfl);(case hg=>rfl);(case hn=>rfl);(case hr=>first|(go_simp;done)|(go_simp;rfl)|(go_simp;congr 2;have hq9_:=hji15_;(try have c16q_:=beq_iff_eq.1 c16b0);split at hq9_ <;> (first|omega|simp_all)));intro w25 hw;have hg:w23.grownBy w25 (some go19):=(by rw [hw];exact HP24.2);have hp_:Kd.R (Kd.int .i64) 3 w25 w.heap.size (fun _=>True) (.slice (some ⟨go19,0,none⟩) x3_3.length co21) y123:=(by rw [hw,Ny123.out];exact HP24.1);clear HP24;have n0_:=zA (hp_);have n1_:=zA ((by rw [hw];exact zF (HB.out) GB19.out:Below w.heap.size w w25));clear HO_3;clear HB;have HO_3:=n0_;have HB:=n1_;clear n0_ n1_;clear hg hw hp_));try go_wp2_with (first|((with_reducible refine gate_store (t:=3) (p:=58) rfl ?_);(try ((first|(generalize hq_:World.drewN wr _ = wr)|(rw [drewN_self wr];generalize hq_:World.drewN wr _ = wr));have n0_:=zA (Kd.R_at hq_ HO_3.out);have n1_:=zA (below_at hq_ HB.out);clear hq_ HO_3 HB;have HO_3:=n0_;have HB:=n1_;clear n0_ n1_;(try (have HP22:=Kd.R_putg HO_3.out (x24_3:Int) ji15));(try (obtain ⟨hx19b_,hf19b_⟩:=Kd.R_celln 0 HO_3.out (x24_3:Int) (of_eq_true (by assumption)) (of_eq_true (by assumption))))));refine store_event (t:=3) (p:=58) (v:=?vo_w23) (w1:=(wr.setCell ⟨go19,(x24_3:Int).toNat,none⟩ (.int .i64 ji15))) ?hg ?ho ?hn ?hr ?_;(case ho=>rfl);(case hg=>rfl);(case hn=>rfl);(case hr=>first|(go_simp;done)|(go_simp;rfl)|(go_simp;congr 2;have hq9_:=hji15_;(try have c16q_:=beq_iff_eq.1 c16b0);split at hq9_ <;> (first|omega|simp_all)));intro w23 hw;have hg:wr.grownBy w23 (some go19):=(by rw [hw];exact HP22.2);have hp_:Kd.R (Kd.int .i64) 3 w23 w.heap.size (fun _=>True) (.slice (some ⟨go19,0,none⟩) x3_3.length co21) y122:=(by rw [hw,Ny122.out];exact HP22.1);clear HP22;have n0_:=zA (hp_);have n1_:=zA ((by rw [hw];exact zF (HB.out) GB19.out:Below w.heap.size w w23));clear HO_3;clear HB;have HO_3:=n0_;have HB:=n1_;clear n0_ n1_;clear hg hw hp_;have p20:0≤((rd (rd_L1 l0 x18_2) x24_3):Int):=zE (by with_reducible assumption);have q20:((rd (rd_L1 l0 x18_2) x24_3):Int) < ((x3_3.length:Int):Int):=zE (by with_reducible assumption);obtain ⟨hx20_0,hf20_0⟩:=Kd.R_celln 0 HO_3.out ((rd (rd_L1 l0 x18_2) x24_3):Int) p20 q20;replace p20:=eq_true p20;replace q20:=eq_true q20;obtain ⟨hy24_,hz24_⟩:=Kd.R_celln 0 HO_3.out ((rd (rd_L1 l0 x18_2) x24_3):Int) (zE (by with_reducible assumption)) (zE (by with_reducible assumption));have HP24:=Kd.R_putg HO_3.out ((rd (rd_L1 l0 x18_2) x24_3):Int) ji15)|((with_reducible refine gate_store (t:=3) (p:=59) rfl ?_);(try (rw [drewN_self w23];generalize hq_:World.drewN w23 _ = w23;have n0_:=zA (Kd.R_at hq_ HO_3.out);have n1_:=zA (below_at hq_ HB.out);clear hq_ HO_3 HB;have HO_3:=n0_;have HB:=n1_;clear n0_ n1_;(try (obtain ⟨hy24_,hz24_⟩:=Kd.R_celln 0 HO_3.out ((rd (rd_L1 l0 x18_2) x24_3):Int) (zE (by with_reducible assumption)) (zE (by with_reducible assumption))));(try (have HP24:=Kd.R_putg HO_3.out ((rd (rd_L1 l0 x18_2) x24_3):Int) ji15))));refine store_event (t:=3) (p:=59) (v:=?vo_w25) (w1:=(w23.setCell ⟨go19,((rd (rd_L1 l0 x18_2) x24_3):Int).toNat,none⟩ (.int .i64 ji15))) ?hg ?ho ?hn ?hr ?_;(case ho=>rfl);(case hg=>rfl);(case hn=>rfl);(case hr=>first|(go_simp;done)|(go_simp;rfl)|(go_simp;congr 2;have hq9_:=hji15_;(try have c16q_:=beq_iff_eq.1 c16b0);split at hq9_ <;> (first|omega|simp_all)));intro w25 hw;have hg:w23.grownBy w25 (some go19):=(by rw [hw];exact HP24.2);have hp_:Kd.R (Kd.int .i64) 3 w25 w.heap.size (fun _=>True) (.slice (some ⟨go19,0,none⟩) x3_3.length co21) y123:=(by rw [hw,Ny123.out];exact HP24.1);clear HP24;have n0_:=zA (hp_);have n1_:=zA ((by rw [hw];exact zF (HB.out) GB19.out:Below w.heap.size w w25));clear HO_3;clear HB;have HO_3:=n0_;have HB:=n1_;clear n0_ n1_;clear hg hw hp_)))
                    go_roundg k3
                    case measure=>have:=HK1.out;have:=HK2.out;have:=HK3.out;omega
                    case rel=>exact ⟨(y123),(true),(wrap64 (x24_3+1)),(by first|rfl|(simp;done)|(simp [*];done)),(by first|rfl|(simp;done)|(simp [*];done)),H',⟨by have:=HK1.out;have:=HK2.out;have:=HK3.out;omega⟩,⟨by apply zR_;exact HO_3.out⟩,⟨by exact zB_ HB.out⟩⟩
                  ·rw [if_neg c16] at H
                   have c16b0:((rd x3_3 x24_3) == (ji15)) = false:=beq_eq_false_iff_ne.mpr c16
                   have c16b1:((rd x3_3 x24_3) != (ji15)) = true:=bne_iff_ne.mpr c16
                   obtain ⟨y124,hy124⟩:∃ y_:List Int,y_ = (x3_3.set (x24_3:Int).toNat (ji15)):=⟨_,rfl⟩
                   replace H:(impl_orbits.l2 k3 l0 (y124.set ((rd (rd_L1 l0 x18_2) x24_3):Int).toNat (ji15)) true l0 (l0.length:Int) x18_2 (rd_L1 l0 x18_2) ((rd_L1 l0 x18_2).length:Int) (wrap64 (x24_3+1))) = some r:=by (try rw [hy124]);first|with_reducible exact H|with_reducible exact zS_ H|exact H
                   have Ny124:=zA hy124
                   clear hy124
                   obtain ⟨y125,hy125⟩:∃ y_:List Int,y_ = (y124.set ((rd (rd_L1 l0 x18_2) x24_3):Int).toNat (ji15)):=⟨_,rfl⟩
                   replace H:(impl_orbits.l2 k3 l0 y125 true l0 (l0.length:Int) x18_2 (rd_L1 l0 x18_2) ((rd_L1 l0 x18_2).length:Int) (wrap64 (x24_3+1))) = some r:=by (try rw [hy125]);first|with_reducible exact H|with_reducible exact zS_ H|exact H
                   have Ny125:=zA hy125
                   clear hy125
                   have H':=zA H
                   clear H
                   have p117:0≤(x24_3:Int):=zE (by with_reducible assumption)
                   have q117:x24_3 < ((rd_L1 l0 x18_2).length:Int):=zE (by with_reducible assumption)
                   obtain ⟨ad117,e117,hx117_0⟩:=Kd.at_int HR116_0.out x24_3 p117 q117
                   cases e117
                   replace hx117_0:=(HB.out.cell (zY w _ hx117_0)).trans hx117_0
                   replace p117:=eq_true p117
                   replace q117:=eq_true q117
                   obtain ⟨Ao28,co28,eo28⟩:=zg HO_3.out
                   subst eo28
                   have p118:0≤(x24_3:Int):=zE (by with_reducible assumption)
                   have q118:x24_3 < (x3_3.length:Int):=zE (by with_reducible assumption)
                   obtain ⟨ad118,e118,hx118_0⟩:=Kd.at_int (zU HO_3.out).2.2 x24_3 p118 q118
                   cases e118
                   replace p118:=eq_true p118
                   replace q118:=eq_true q118
                   have p119:0≤((rd (rd_L1 l0 x18_2) x24_3):Int):=zE (by with_reducible assumption)
                   have q119:(rd (rd_L1 l0 x18_2) x24_3) < (x3_3.length:Int):=zE (by with_reducible assumption)
                   obtain ⟨ad119,e119,hx119_0⟩:=Kd.at_int (zU HO_3.out).2.2 (rd (rd_L1 l0 x18_2) x24_3) p119 q119
                   obtain rfl:ad118 = ad119:=(by injection e119)
                   replace p119:=eq_true p119
                   replace q119:=eq_true q119
                   have p120:0≤(x24_3:Int):=zE (by with_reducible assumption)
                   have q120:x24_3 < (x3_3.length:Int):=zE (by with_reducible assumption)
                   obtain ⟨ad120,e120,hx120_0⟩:=Kd.at_int (zU HO_3.out).2.2 x24_3 p120 q120
                   obtain rfl:ad118 = ad120:=(by injection e120)
                   replace p120:=eq_true p120
                   replace q120:=eq_true q120
                   have p26:0≤(x24_3:Int):=zE (by with_reducible assumption)
                   have q26:(x24_3:Int) < ((x3_3.length:Int):Int):=zE (by with_reducible assumption)
                   obtain ⟨go26,co26,eo26,gb26,gl26,cl26,HG26⟩:=Kd.R_form HO_3.out (by omega)
                   (first|cases eo26|(injection eo26 with ea_ en_ ec_;(first|subst ea_|(injection ea_ with ea_;subst ea_));subst ec_;clear en_))
                   have GB26:=zA gb26
                   have GG26:=zA HG26
                   clear gb26 gl26 HG26
                   (first|simp only [add_plain] at hx118_0|skip)
                   (first|simp only [add_plain] at hx119_0|skip)
                   (first|simp only [add_plain] at hx120_0|skip)
                   obtain ⟨hx26_0,hf26_0⟩:=Kd.R_celln 0 HO_3.out (x24_3:Int) p26 q26
                   replace p26:=eq_true p26
                   replace q26:=eq_true q26
                   have HP29:=Kd.R_putg HO_3.out (x24_3:Int) ji15
                   go_wp2_with (first|((with_reducible refine gate_store (t:=3) (p:=58) rfl ?_);(try ((first|(generalize hq_:World.drewN wr _ = wr)|(rw [drewN_self wr];generalize hq_:World.drewN wr _ = wr));have n0_:=zA (Kd.R_at hq_ HO_3.out);have n1_:=zA (below_at hq_ HB.out);clear hq_ HO_3 HB;have HO_3:=n0_;have HB:=n1_;clear n0_ n1_;(try (have HP29:=Kd.R_putg HO_3.out (x24_3:Int) ji15));(try (obtain ⟨hx19b_,hf19b_⟩:=Kd.R_celln 0 HO_3.out (x24_3:Int) (of_eq_true (by assumption)) (of_eq_true (by assumption))))));refine store_event (t:=3) (p:=58) (v:=?vo_w30) (w1:=(wr.setCell ⟨go26,(x24_3:Int).toNat,none⟩ (.int .i64 ji15))) ?hg ?ho ?hn ?hr ?_;(case ho=>rfl);(case hg=>rfl);(case hn=>rfl);(case hr=>first|(go_simp;done)|(go_simp;rfl)|(go_simp;congr 2;have hq9_:=hji15_;(try have c16q_:=beq_iff_eq.1 c16b0);split at hq9_ <;> (first|omega|simp_all)));intro w30 hw;have hg:wr.grownBy w30 (some go26):=(by rw [hw];exact HP29.2);have hp_:Kd.R (Kd.int .i64) 3 w30 w.heap.size (fun _=>True) (.slice (some ⟨go26,0,none⟩) x3_3.length co28) y124:=(by rw [hw,Ny124.out];exact HP29.1);clear HP29;have n0_:=zA (hp_);have n1_:=zA ((by rw [hw];exact zF (HB.out) GB26.out:Below w.heap.size w w30));clear HO_3;clear HB;have HO_3:=n0_;have HB:=n1_;clear n0_ n1_;clear hg hw hp_;have p27:0≤((rd (rd_L1 l0 x18_2) x24_3):Int):=zE (by with_reducible assumption);have q27:((rd (rd_L1 l0 x18_2) x24_3):Int) < ((x3_3.length:Int):Int):=zE (by with_reducible assumption);obtain ⟨hx27_0,hf27_0⟩:=Kd.R_celln 0 HO_3.out ((rd (rd_L1 l0 x18_2) x24_3):Int) p27 q27;replace p27:=eq_true p27;replace q27:=eq_true q27;obtain ⟨hy31_,hz31_⟩:=Kd.R_celln 0 HO_3.out ((rd (rd_L1 l0 x18_2) x24_3):Int) (zE (by with_reducible assumption)) (zE (by with_reducible assumption));have HP31:=Kd.R_putg HO_3.out ((rd (rd_L1 l0 x18_2) x24_3):Int) ji15)|((with_reducible refine gate_store (t:=3) (p:=59) rfl ?_);(try (rw [drewN_self w30];generalize hq_:World.drewN w30 _ = w30;have n0_:=zA (Kd.R_at hq_ HO_3.out);have n1_:=zA (below_at hq_ HB.out);clear hq_ HO_3 HB;have HO_3:=n0_;have HB:=n1_;clear n0_ n1_;(try (obtain ⟨hy31_,hz31_⟩:=Kd.R_celln 0 HO_3.out ((rd (rd_L1 l0 x18_2) x24_3):Int) (zE (by with_reducible assumption)) (zE (by with_reducible assumption))));(try (have HP31:=Kd.R_putg HO_3.out ((rd (rd_L1 l0 x18_2) x24_3):Int) ji15))));refine store_event (t:=3) (p:=59) (v:=?vo_w32) (w1:=(w30.setCell ⟨go26,((rd (rd_L1 l0 x18_2) x24_3):Int).toNat,none⟩ (.int .i64 ji15))) ?hg ?ho ?hn ?hr ?_;(case ho=>rfl);(case hg=>rfl);(case hn=>rfl);(case hr=>first|(go_simp;done)|(go_simp;rfl)|(go_simp;congr 2;have hq9_:=hji15_;(try have c16q_:=beq_iff_eq.1 c16b0);split at hq9_ <;> (first|omega|simp_all)));intro w32 hw;have hg:w30.grownBy w32 (some go26):=(by rw [hw];exact HP31.2);have hp_:Kd.R (Kd.int .i64) 3 w32 w.heap.size (fun _=>True) (.slice (some ⟨go26,0,none⟩) x3_3.length co28) y125:=(by rw [hw,Ny125.out];exact HP31.1);clear HP31;have n0_:=zA (hp_);have n1_:=zA ((by rw [hw];exact zF (HB.out) GB26.out:Below w.heap.size w w32));clear HO_3;clear HB;have HO_3:=n0_;have HB:=n1_;clear n0_ n1_;clear hg hw hp_))
                   repeat (go_quiet (first|((with_reducible refine gate_store (t:=3) (p:=58) rfl ?_);(try ((first|(generalize hq_:World.drewN wr _ = wr)|(rw [drewN_self wr];generalize hq_:World.drewN wr _ = wr));have n0_:=zA (Kd.R_at hq_ HO_3.out);have n1_:=zA (below_at hq_ HB.out);clear hq_ HO_3 HB;have HO_3:=n0_;have HB:=n1_;clear n0_ n1_;(try (have HP29:=Kd.R_putg HO_3.out (x24_3:Int) ji15));(try (obtain ⟨hx19b_,hf19b_⟩:=Kd.R_celln 0 HO_3.out (x24_3:Int) (of_eq_true (by assumption)) (of_eq_true (by assumption))))));refine store_event (t:=3) (p:=58) (v:=?vo_w30) (w1:=(wr.setCell ⟨go26,(x24_3:Int).toNat,none⟩ (.int .i64 ji15))) ?hg ?ho ?hn ?hr ?_;(case ho=>rfl);(case hg=>rfl);(case hn=>rfl);(case hr=>first|(go_simp;done)|(go_simp;rfl)|(go_simp;congr 2;have hq9_:=hji15_;(try have c16q_:=beq_iff_eq.1 c16b0);split at hq9_ <;> (first|omega|simp_all)));intro w30 hw;have hg:wr.grownBy w30 (some go26):=(by rw [hw];exact HP29.2);have hp_:Kd.R (Kd.int .i64) 3 w30 w.heap.size (fun _=>True) (.slice (some ⟨go26,0,none⟩) x3_3.length co28) y124:=(by rw [hw,Ny124.out];exact HP29.1);clear HP29;have n0_:=zA (hp_);have n1_:=zA ((by rw [hw];exact zF (HB.out) GB26.out:Below w.heap.size w w30));clear HO_3;clear HB;have HO_3:=n0_;have HB:=n1_;clear n0_ n1_;clear hg hw hp_;have p27:0≤((rd (rd_L1 l0 x18_2) x24_3):Int):=zE (by with_reducible assumption);have q27:((rd (rd_L1 l0 x18_2) x24_3):Int) < ((x3_3.length:Int):Int):=zE (by with_reducible assumption);obtain ⟨hx27_0,hf27_0⟩:=Kd.R_celln 0 HO_3.out ((rd (rd_L1 l0 x18_2) x24_3):Int) p27 q27;replace p27:=eq_true p27;replace q27:=eq_true q27;obtain ⟨hy31_,hz31_⟩:=Kd.R_celln 0 HO_3.out ((rd (rd_L1 l0 x18_2) x24_3):Int) (zE (by with_reducible assumption)) (zE (by with_reducible assumption));have HP31:=Kd.R_putg HO_3.out ((rd (rd_L1 l0 x18_2) x24_3):Int) ji15)|((with_reducible refine gate_store (t:=3) (p:=59) rfl ?_);(try (rw [drewN_self w30];generalize hq_:World.drewN w30 _ = w30;have n0_:=zA (Kd.R_at hq_ HO_3.out);have n1_:=zA (below_at hq_ HB.out);clear hq_ HO_3 HB;have HO_3:=n0_;have HB:=n1_;clear n0_ n1_;(try (obtain ⟨hy31_,hz31_⟩:=Kd.R_celln 0 HO_3.out ((rd (rd_L1 l0 x18_2) x24_3):Int) (zE (by with_reducible assumption)) (zE (by with_reducible assumption))));(try (have HP31:=Kd.R_putg HO_3.out ((rd (rd_L1 l0 x18_2) x24_3):Int) ji15))));refine store_event (t:=3) (p:=59) (v:=?vo_w32) (w1:=(w30.setCell ⟨go26,((rd (rd_L1 l0 x18_2) x24_3):Int).toNat,none⟩ (.int .i64 ji15))) ?hg ?ho ?hn ?hr ?_;(case ho=>rfl);(case hg=>rfl);(case hn=>rfl);(case hr=>first|(go_simp;done)|(go_simp;rfl)|(go_simp;congr 2;have hq9_:=hji15_;(try have c16q_:=beq_iff_eq.1 c16b0);split at hq9_ <;> (first|omega|simp_all)));intro w32 hw;have hg:w30.grownBy w32 (some go26):=(by rw [hw];exact HP31.2);have hp_:Kd.R (Kd.int .i64) 3 w32 w.heap.size (fun _=>True) (.slice (some ⟨go26,0,none⟩) x3_3.length co28) y125:=(by rw [hw,Ny125.out];exact HP31.1);clear HP31;have n0_:=zA (hp_);have n1_:=zA ((by rw [hw];exact zF (HB.out) GB26.out:Below w.heap.size w w32));clear HO_3;clear HB;have HO_3:=n0_;have HB:=n1_;clear n0_ n1_;clear hg hw hp_));try go_wp2_with (first|((with_reducible refine gate_store (t:=3) (p:=58) rfl ?_);(try ((first|(generalize hq_:World.drewN wr _ = wr)|(rw [drewN_self wr];generalize hq_:World.drewN wr _ = wr));have n0_:=zA (Kd.R_at hq_ HO_3.out);have n1_:=zA (below_at hq_ HB.out);clear hq_ HO_3 HB;have HO_3:=n0_;have HB:=n1_;clear n0_ n1_;(try (have HP29:=Kd.R_putg HO_3.out (x24_3:Int) ji15));(try (obtain ⟨hx19b_,hf19b_⟩:=Kd.R_celln 0 HO_3.out (x24_3:Int) (of_eq_true (by assumption)) (of_eq_true (by assumption))))));refine store_event (t:=3) (p:=58) (v:=?vo_w30) (w1:=(wr.setCell ⟨go26,(x24_3:Int).toNat,none⟩ (.int .i64 ji15))) ?hg ?ho ?hn ?hr ?_;(case ho=>rfl);(case hg=>rfl);(case hn=>rfl);(case hr=>first|(go_simp;done)|(go_simp;rfl)|(go_simp;congr 2;have hq9_:=hji15_;(try have c16q_:=beq_iff_eq.1 c16b0);split at hq9_ <;> (first|omega|simp_all)));intro w30 hw;have hg:wr.grownBy w30 (some go26):=(by rw [hw];exact HP29.2);have hp_:Kd.R (Kd.int .i64) 3 w30 w.heap.size (fun _=>True) (.slice (some ⟨go26,0,none⟩) x3_3.length co28) y124:=(by rw [hw,Ny124.out];exact HP29.1);clear HP29;have n0_:=zA (hp_);have n1_:=zA ((by rw [hw];exact zF (HB.out) GB26.out:Below w.heap.size w w30));clear HO_3;clear HB;have HO_3:=n0_;have HB:=n1_;clear n0_ n1_;clear hg hw hp_;have p27:0≤((rd (rd_L1 l0 x18_2) x24_3):Int):=zE (by with_reducible assumption);have q27:((rd (rd_L1 l0 x18_2) x24_3):Int) < ((x3_3.length:Int):Int):=zE (by with_reducible assumption);obtain ⟨hx27_0,hf27_0⟩:=Kd.R_celln 0 HO_3.out ((rd (rd_L1 l0 x18_2) x24_3):Int) p27 q27;replace p27:=eq_true p27;replace q27:=eq_true q27;obtain ⟨hy31_,hz31_⟩:=Kd.R_celln 0 HO_3.out ((rd (rd_L1 l0 x18_2) x24_3):Int) (zE (by with_reducible assumption)) (zE (by with_reducible assumption));have HP31:=Kd.R_putg HO_3.out ((rd (rd_L1 l0 x18_2) x24_3):Int) ji15)|((with_reducible refine gate_store (t:=3) (p:=59) rfl ?_);(try (rw [drewN_self w30];generalize hq_:World.drewN w30 _ = w30;have n0_:=zA (Kd.R_at hq_ HO_3.out);have n1_:=zA (below_at hq_ HB.out);clear hq_ HO_3 HB;have HO_3:=n0_;have HB:=n1_;clear n0_ n1_;(try (obtain ⟨hy31_,hz31_⟩:=Kd.R_celln 0 HO_3.out ((rd (rd_L1 l0 x18_2) x24_3):Int) (zE (by with_reducible assumption)) (zE (by with_reducible assumption))));(try (have HP31:=Kd.R_putg HO_3.out ((rd (rd_L1 l0 x18_2) x24_3):Int) ji15))));refine store_event (t:=3) (p:=59) (v:=?vo_w32) (w1:=(w30.setCell ⟨go26,((rd (rd_L1 l0 x18_2) x24_3):Int).toNat,none⟩ (.int .i64 ji15))) ?hg ?ho ?hn ?hr ?_;(case ho=>rfl);(case hg=>rfl);(case hn=>rfl);(case hr=>first|(go_simp;done)|(go_simp;rfl)|(go_simp;congr 2;have hq9_:=hji15_;(try have c16q_:=beq_iff_eq.1 c16b0);split at hq9_ <;> (first|omega|simp_all)));intro w32 hw;have hg:w30.grownBy w32 (some go26):=(by rw [hw];exact HP31.2);have hp_:Kd.R (Kd.int .i64) 3 w32 w.heap.size (fun _=>True) (.slice (some ⟨go26,0,none⟩) x3_3.length co28) y125:=(by rw [hw,Ny125.out];exact HP31.1);clear HP31;have n0_:=zA (hp_);have n1_:=zA ((by rw [hw];exact zF (HB.out) GB26.out:Below w.heap.size w w32));clear HO_3;clear HB;have HO_3:=n0_;have HB:=n1_;clear n0_ n1_;clear hg hw hp_)))
                   go_roundg k3
                   case measure=>have:=HK1.out;have:=HK2.out;have:=HK3.out;omega
                   case rel=>exact ⟨(y125),(true),(wrap64 (x24_3+1)),(by first|rfl|(simp;done)|(simp [*];done)),(by first|rfl|(simp;done)|(simp [*];done)),H',⟨by have:=HK1.out;have:=HK2.out;have:=HK3.out;omega⟩,⟨by apply zR_;exact HO_3.out⟩,⟨by exact zB_ HB.out⟩⟩
                 ·rw [if_neg c14] at H
                  exact absurd H (by simp)
                ·rw [if_neg c13] at H
                 exact absurd H (by simp)
               ·rw [if_neg c12] at H
                exact absurd H (by simp)
              ·rw [if_neg c11] at H
               exact absurd H (by simp)
             ·rw [if_neg c10] at H
              exact absurd H (by simp)
            ·rw [if_neg c9] at H
             have c9b0:decide (x24_3 < ((rd_L1 l0 x18_2).length:Int)) = false:=zP c9
             clear c9
             have H':=zA H
             clear H
             go_wp2
             repeat (go_quiet (fail);try go_wp2)
             go_roundg k3
             case measure=>have:=HK1.out;have:=HK2.out;have:=HK3.out;omega
             case rel=>exact ⟨(x3_3),(x4_3),(wrap64 (x18_2+1)),(by first|rfl|(simp;done)|(simp [*];done)),(by first|rfl|(simp;done)|(simp [*];done)),H',⟨by have:=HK1.out;have:=HK2.out;have:=HK3.out;omega⟩,⟨by apply zR_;exact HO_3.out⟩,⟨by exact zB_ HB.out⟩⟩
         ·rw [if_neg c8] at H
          exact absurd H (by simp)
        ·rw [if_neg c7] at H
         exact absurd H (by simp)
       ·rw [if_neg c6] at H
        have c6b0:decide (x18_2 < (l0.length:Int)) = false:=zP c6
        clear c6
        have H':=zA H
        clear H
        go_wp2
        repeat (go_quiet (fail);try go_wp2)
        go_roundg k2
        case measure=>have:=HK1.out;have:=HK2.out;omega
        case rel=>exact ⟨(x3_2),(x4_2),(by first|rfl|(simp;done)|(simp [*];done)),H',⟨by have:=HK1.out;have:=HK2.out;omega⟩,⟨by apply zR_;exact HO_3.out⟩,⟨by exact zB_ HB.out⟩⟩
    ·replace c5:=Bool.eq_false_iff.mpr c5
     subst c5
     have H1:(some x3_1) = some r:=by rw [if_neg (show ¬ (false = true) by decide)] at H;exact H
     clear H
     have H:=H1
     clear H1
     obtain rfl:=zS H
     go_wp2
     repeat (go_quiet (fail);try go_wp2)
     go_ret
     exact ⟨_,by first|rfl|(simp [errW_none,errW_some] <;> rfl)|(simp [*,errW_none,errW_some] <;> rfl),by apply zR_;exact HO_3.out,by exact zB_ HB.out⟩
 ·rw [if_neg c2] at H
  exact absurd H (by simp)

/-! ### impl_MapValid: function 46 -/
mutual
def impl_MapValid.j0:Nat→Bool→List Int→List Int→Option (Bool)
 | 0,_,_,_=>none
 | k+1,x23,x127000,x127001=>if x23 = true then (some false) else (impl_MapValid.l0 k x127001 (x127001.length:Int) 0 x127000 x127001)
def impl_MapValid.l0:Nat→List Int→Int→Int→List Int→List Int→Option (Bool)
 | 0,_,_,_,_,_=>none
 | k+1,x25,x26,x27,x127000,x127001=>if x27 < x26 then (if 0≤x27 then (if x27 < (x25.length:Int) then (if (rd x25 x27) = x27 then (some false) else (if 0≤(rd x25 x27) then (if (rd x25 x27) < (x127001.length:Int) then (if (rd x127001 (rd x25 x27)) = x27 then (impl_MapValid.l0 k x25 x26 (wrap64 (x27+1)) x127000 x127001) else (some false)) else (none)) else (none))) else (none)) else (none)) else ((impl_orbits.f k (([x127000,x127001]:List (List Int)))).bind fun t134=>((slices_Max_int_int.f t134).bind fun t137=>(some (t137 == 0))))
end
def impl_MapValid.f (k:Nat) (l0_0:List Int) (l0_1:List Int):Option (Bool):=(impl_PermValid.f l0_0).bind fun t127=>(if t127 = true then ((impl_PermValid.f l0_1).bind fun t128=>(if t128 = true then (impl_MapValid.j0 k ((l0_0.length:Int) != (l0_1.length:Int)) l0_0 l0_1) else (impl_MapValid.j0 k true l0_0 l0_1))) else (impl_MapValid.j0 k true l0_0 l0_1))
theorem impl_MapValid.mono_l:∀ k,(∀ y0 y1 y2,LeO (impl_MapValid.j0 k y0 y1 y2) (impl_MapValid.j0 (k+1) y0 y1 y2))∧(∀ y0 y1 y2 y3 y4,LeO (impl_MapValid.l0 k y0 y1 y2 y3 y4) (impl_MapValid.l0 (k+1) y0 y1 y2 y3 y4))
 | 0=>⟨fun _ _ _ r h=>by simp [impl_MapValid.j0] at h,fun _ _ _ _ _ r h=>by simp [impl_MapValid.l0] at h⟩
 | k+1=>by
  obtain ⟨ih0,ih1⟩:=impl_MapValid.mono_l k
  refine ⟨?_,?_⟩
  ·intro y0 y1 y2
   unfold impl_MapValid.j0
   repeat' first
   | (with_reducible exact ih0 _ _ _)
   | (with_reducible exact ih1 _ _ _ _ _)
   | (with_reducible exact impl_orbits.mono _ _)
   | (with_reducible exact LeO.refl _)
   | (with_reducible exact za _)
   | (with_reducible refine zc ?_ ?_)
   | (with_reducible refine zb ?_ (fun _=>?_))
  ·intro y0 y1 y2 y3 y4
   unfold impl_MapValid.l0
   repeat' first
   | (with_reducible exact ih0 _ _ _)
   | (with_reducible exact ih1 _ _ _ _ _)
   | (with_reducible exact impl_orbits.mono _ _)
   | (with_reducible exact LeO.refl _)
   | (with_reducible exact za _)
   | (with_reducible refine zc ?_ ?_)
   | (with_reducible refine zb ?_ (fun _=>?_))
theorem impl_MapValid.mono:∀ a0 a1 k,LeO (impl_MapValid.f k a0 a1) (impl_MapValid.f (k+1) a0 a1):=by
 intro a0 a1 k
 obtain ⟨ih0,ih1⟩:=impl_MapValid.mono_l k
 unfold impl_MapValid.f
 repeat' first
   | (with_reducible exact ih0 _ _ _)
   | (with_reducible exact ih1 _ _ _ _ _)
   | (with_reducible exact impl_orbits.mono _ _)
   | (with_reducible exact LeO.refl _)
   | (with_reducible exact za _)
   | (with_reducible refine zc ?_ ?_)
   | (with_reducible refine zb ?_ (fun _=>?_))
set_option maxHeartbeats 8000000 in
set_option maxRecDepth 100000 in
theorem impl_MapValid.calls (k:Nat) (P0_0_:Nat→Prop) (A0_0:Option Addr) (c0_0:Nat) (l0_0:List Int) (P0_1_:Nat→Prop) (A0_1:Option Addr) (c0_1:Nat) (l0_1:List Int) (r:Bool) (w:World) (hs0_0:Kd.V (Kd.int .i64) 3 w w.heap.size (fun k_=>P0_0_ k_) (.slice A0_0 l0_0.length c0_0) l0_0) (hs0_1:Kd.V (Kd.int .i64) 3 w w.heap.size (fun k_=>P0_1_ k_) (.slice A0_1 l0_1.length c0_1) l0_1) (h:impl_MapValid.f k l0_0 l0_1 = some r) :
  Calls Try.prog 46 #[.agg #[.slice A0_0 l0_0.length c0_0,.slice A0_1 l0_1.length c0_1]] w fun e w'=>e = .returned (.bool r)∧Below w.heap.size w w':=by
 have hu33:=Try.underlying33
 have HO0_0:=zA (show Kd.V (Kd.int .i64) 3 w w.heap.size (fun k_=>((P0_0_ k_∨P0_1_ k_)∨w.heap.size≤k_)) (.slice A0_0 l0_0.length c0_0) l0_0 from Kd.V_mono hs0_0 (fun k_ hk=>.inl (.inl hk)))
 have HO0_1:=zA (show Kd.V (Kd.int .i64) 3 w w.heap.size (fun k_=>((P0_0_ k_∨P0_1_ k_)∨w.heap.size≤k_)) (.slice A0_1 l0_1.length c0_1) l0_1 from Kd.V_mono hs0_1 (fun k_ hk=>.inl (.inr hk)))
 have HB:=zA (Below.refl w.heap.size w)
 have H:((impl_PermValid.f l0_0).bind fun t127=>(if t127 = true then ((impl_PermValid.f l0_1).bind fun t128=>(if t128 = true then (impl_MapValid.j0 k ((l0_0.length:Int) != (l0_1.length:Int)) l0_0 l0_1) else (impl_MapValid.j0 k true l0_0 l0_1))) else (impl_MapValid.j0 k true l0_0 l0_1))) = some r:=h
 clear h
 have HC2:=zA H
 clear H
 go_enter Try.func46,Try.ntmps46
 go_upto_region 1 with (first|((with_reducible refine gate_dst (N:=1) rfl ?_);(try (refine gate_guard (by rfl) ?_;dsimp only));refine box_event ?hg (N:=1) ?hd (cs:=#[.slice A0_0 l0_0.length c0_0,.slice A0_1 l0_1.length c0_1]) (t:=33) ?hr ?_;(case hd=>rfl);(case hg=>rfl);(case hr=>first|(go_simp;done)|(go_simp;rfl));intro gb126 hg w3 hbox hb;have n0_:=zA (Kd.V_below (Kd.V_elderB (by apply zV_;exact HO0_0.out) gb126 (Nat.le_of_eq hg.symm)) hb);have n1_:=zA (Kd.V_below (Kd.V_elderB (by apply zV_;exact HO0_1.out) gb126 (Nat.le_of_eq hg.symm)) hb);have n2_:=zA (zR (by exact zB_ HB.out) hb);have n3_:=zA (hbox);have n4_:=zA ((by rw [hg];exact (zQ (by exact zB_ HB.out)):w.heap.size≤gb126));have n5_:=zA ((by rw [hg];exact (zQ (by exact zB_ HB.out)):w.heap.size≤gb126));clear HO0_0;clear HO0_1;clear HB;have HO0_0:=n0_;have HO0_1:=n1_;have HB:=n2_;have BK126:=n3_;have GW126:=n4_;have GE126:=n5_;clear n0_ n1_ n2_ n3_ n4_ n5_;clear hb hbox hg))
 (try simp only [Act.put,zP_])
 go_cut [23] (fun v23 wc => ∃ (kq:Nat) (x23_1:Bool),v23 = .bool x23_1∧Aside0 (impl_MapValid.j0 kq x23_1 l0_0 l0_1 = some r)∧Aside0 (kq≤k)∧Aside0 (Kd.V (Kd.int .i64) 3 wc w.heap.size (fun k_=>((P0_0_ k_∨P0_1_ k_)∨w.heap.size≤k_)∧k_≠gb126) (.slice A0_0 l0_0.length c0_0) l0_0)∧Aside0 (Kd.V (Kd.int .i64) 3 wc w.heap.size (fun k_=>((P0_0_ k_∨P0_1_ k_)∨w.heap.size≤k_)∧k_≠gb126) (.slice A0_1 l0_1.length c0_1) l0_1)∧Aside0 (wc.heap[gb126]? = some (.cells #[(.slice A0_0 l0_0.length c0_0),(.slice A0_1 l0_1.length c0_1)] 33 (0,0)))∧Aside0 (Below w.heap.size w wc))
 case first =>
  have H:=HC2.out
  clear HC2
  replace H:=zz0 H
  obtain ⟨t127,A40,H⟩:=H
  try dsimp only at H
  have A4:=zA A40
  clear A40
  by_cases c5:t127 = true
  ·subst c5
   rw [if_pos rfl] at H;try dsimp only at H
   replace H:=zz0 H
   obtain ⟨t128,A60,H⟩:=H
   try dsimp only at H
   have A6:=zA A60
   clear A60
   by_cases c7:t128 = true
   ·subst c7
    rw [if_pos rfl] at H;try dsimp only at H
    have H':=zA H
    clear H
    have hcz8_0:w3.cell? ⟨gb126,0,none⟩ = some (.slice A0_0 l0_0.length c0_0):=(zT BK126.out 0).trans rfl
    have hcz8_1:w3.cell? ⟨gb126,1,none⟩ = some (.slice A0_1 l0_1.length c0_1):=(zT BK126.out 1).trans rfl
    have hfz8_0:=zZ BK126.out 0
    have hfz8_1:=zZ BK126.out 1
    go_wp2_with (first|((with_reducible refine gate_callee (f:=79) rfl ?_);refine goesL_ (some 7) rfl rfl Try.func79 (by kernel_rfl) rfl #[.slice A0_0 l0_0.length c0_0] rfl (by (try simp only [zJ,zM,zN]);first|done|rfl|(simp only [zL,zK];rfl)) ?_;(with_reducible refine (impl_PermValid.calls _ _ l0_0 true _ ?side1 ?side2 A4.out).mono ?_);(case side1=>repeat (first|exact (Kd.V_reads' HO0_0.out).2.2|apply zC_));(case side2=>exact (Kd.V_reads' HO0_0.out).2.1);rintro e w9 ⟨rfl,hb⟩;refine ⟨_,rfl,?_⟩;have n0_:=zA (Kd.V_below (by apply zV_;exact HO0_0.out) hb);have n1_:=zA (Kd.V_below (by apply zV_;exact HO0_1.out) hb);have n2_:=zA (zX (g:=gb126) (o:=.cells #[.slice A0_0 l0_0.length c0_0,.slice A0_1 l0_1.length c0_1] 33 (0,0)) (by (with_reducible repeat (first|refine zG ?_ _|refine zI ?_|refine zH ?_ _));exact BK126.out) hb);have n3_:=zA (zR (by repeat (first|(with_reducible first|exact HB.out|apply zD|apply zB|apply zC|refine zF ?_ GE126.out)|exact HB.out)) hb);clear HO0_0;clear HO0_1;clear BK126;clear HB;have HO0_0:=n0_;have HO0_1:=n1_;have BK126:=n2_;have HB:=n3_;clear n0_ n1_ n2_ n3_;(try clear hb);(try clear hb2);(try clear hk);(try clear hi);have hcz10_0:w9.cell? ⟨gb126,0,none⟩ = some (.slice A0_0 l0_0.length c0_0):=(zT BK126.out 0).trans rfl;have hcz10_1:w9.cell? ⟨gb126,1,none⟩ = some (.slice A0_1 l0_1.length c0_1):=(zT BK126.out 1).trans rfl;have hfz10_0:=zZ BK126.out 0;have hfz10_1:=zZ BK126.out 1)|(go_at_call 79;(with_reducible refine (impl_PermValid.calls _ _ l0_1 true _ ?side1 ?side2 A6.out).mono ?_);(case side1=>repeat (first|exact (Kd.V_reads' HO0_1.out).2.2|apply zC_));(case side2=>exact (Kd.V_reads' HO0_1.out).2.1);rintro e w11 ⟨rfl,hb⟩;have n0_:=zA (Kd.V_below (by apply zV_;exact HO0_0.out) hb);have n1_:=zA (Kd.V_below (by apply zV_;exact HO0_1.out) hb);have n2_:=zA (zX (g:=gb126) (o:=.cells #[.slice A0_0 l0_0.length c0_0,.slice A0_1 l0_1.length c0_1] 33 (0,0)) (by (with_reducible repeat (first|refine zG ?_ _|refine zI ?_|refine zH ?_ _));exact BK126.out) hb);have n3_:=zA (zR (by repeat (first|(with_reducible first|exact HB.out|apply zD|apply zB|apply zC|refine zF ?_ GE126.out)|exact HB.out)) hb);clear HO0_0;clear HO0_1;clear BK126;clear HB;have HO0_0:=n0_;have HO0_1:=n1_;have BK126:=n2_;have HB:=n3_;clear n0_ n1_ n2_ n3_;(try clear hb);(try clear hb2);(try clear hk);(try clear hi);have hcz12_0:w11.cell? ⟨gb126,0,none⟩ = some (.slice A0_0 l0_0.length c0_0):=(zT BK126.out 0).trans rfl;have hcz12_1:w11.cell? ⟨gb126,1,none⟩ = some (.slice A0_1 l0_1.length c0_1):=(zT BK126.out 1).trans rfl;have hfz12_0:=zZ BK126.out 0;have hfz12_1:=zZ BK126.out 1))
    go_meet
    case rel=>exact ⟨_,(((l0_0.length:Int) != (l0_1.length:Int))),(by first|rfl|(simp;done)|(simp [*];done)),H',⟨by first|omega|exact Nat.le_refl _⟩,⟨by apply zV_;exact HO0_0.out⟩,⟨by apply zV_;exact HO0_1.out⟩,⟨by (with_reducible repeat (first|refine zG ?_ _|refine zI ?_|refine zH ?_ _));exact BK126.out⟩,⟨by repeat (first|(with_reducible first|exact HB.out|apply zD|apply zB|apply zC|refine zF ?_ GE126.out)|exact HB.out)⟩⟩
   ·replace c7:=Bool.eq_false_iff.mpr c7
    subst c7
    have H1:(impl_MapValid.j0 k true l0_0 l0_1) = some r:=by rw [if_neg (show ¬ (false = true) by decide)] at H;exact H
    clear H
    have H:=H1
    clear H1
    have H':=zA H
    clear H
    have hcz13_0:w3.cell? ⟨gb126,0,none⟩ = some (.slice A0_0 l0_0.length c0_0):=(zT BK126.out 0).trans rfl
    have hcz13_1:w3.cell? ⟨gb126,1,none⟩ = some (.slice A0_1 l0_1.length c0_1):=(zT BK126.out 1).trans rfl
    have hfz13_0:=zZ BK126.out 0
    have hfz13_1:=zZ BK126.out 1
    go_wp2_with (first|((with_reducible refine gate_callee (f:=79) rfl ?_);refine goesL_ (some 7) rfl rfl Try.func79 (by kernel_rfl) rfl #[.slice A0_0 l0_0.length c0_0] rfl (by (try simp only [zJ,zM,zN]);first|done|rfl|(simp only [zL,zK];rfl)) ?_;(with_reducible refine (impl_PermValid.calls _ _ l0_0 true _ ?side1 ?side2 A4.out).mono ?_);(case side1=>repeat (first|exact (Kd.V_reads' HO0_0.out).2.2|apply zC_));(case side2=>exact (Kd.V_reads' HO0_0.out).2.1);rintro e w14 ⟨rfl,hb⟩;refine ⟨_,rfl,?_⟩;have n0_:=zA (Kd.V_below (by apply zV_;exact HO0_0.out) hb);have n1_:=zA (Kd.V_below (by apply zV_;exact HO0_1.out) hb);have n2_:=zA (zX (g:=gb126) (o:=.cells #[.slice A0_0 l0_0.length c0_0,.slice A0_1 l0_1.length c0_1] 33 (0,0)) (by (with_reducible repeat (first|refine zG ?_ _|refine zI ?_|refine zH ?_ _));exact BK126.out) hb);have n3_:=zA (zR (by repeat (first|(with_reducible first|exact HB.out|apply zD|apply zB|apply zC|refine zF ?_ GE126.out)|exact HB.out)) hb);clear HO0_0;clear HO0_1;clear BK126;clear HB;have HO0_0:=n0_;have HO0_1:=n1_;have BK126:=n2_;have HB:=n3_;clear n0_ n1_ n2_ n3_;(try clear hb);(try clear hb2);(try clear hk);(try clear hi);have hcz15_0:w14.cell? ⟨gb126,0,none⟩ = some (.slice A0_0 l0_0.length c0_0):=(zT BK126.out 0).trans rfl;have hcz15_1:w14.cell? ⟨gb126,1,none⟩ = some (.slice A0_1 l0_1.length c0_1):=(zT BK126.out 1).trans rfl;have hfz15_0:=zZ BK126.out 0;have hfz15_1:=zZ BK126.out 1)|(go_at_call 79;(with_reducible refine (impl_PermValid.calls _ _ l0_1 false _ ?side1 ?side2 A6.out).mono ?_);(case side1=>repeat (first|exact (Kd.V_reads' HO0_1.out).2.2|apply zC_));(case side2=>exact (Kd.V_reads' HO0_1.out).2.1);rintro e w16 ⟨rfl,hb⟩;have n0_:=zA (Kd.V_below (by apply zV_;exact HO0_0.out) hb);have n1_:=zA (Kd.V_below (by apply zV_;exact HO0_1.out) hb);have n2_:=zA (zX (g:=gb126) (o:=.cells #[.slice A0_0 l0_0.length c0_0,.slice A0_1 l0_1.length c0_1] 33 (0,0)) (by (with_reducible repeat (first|refine zG ?_ _|refine zI ?_|refine zH ?_ _));exact BK126.out) hb);have n3_:=zA (zR (by repeat (first|(with_reducible first|exact HB.out|apply zD|apply zB|apply zC|refine zF ?_ GE126.out)|exact HB.out)) hb);clear HO0_0;clear HO0_1;clear BK126;clear HB;have HO0_0:=n0_;have HO0_1:=n1_;have BK126:=n2_;have HB:=n3_;clear n0_ n1_ n2_ n3_;(try clear hb);(try clear hb2);(try clear hk);(try clear hi)))
    go_meet
    case rel=>exact ⟨_,(true),(by first|rfl|(simp;done)|(simp [*];done)),H',⟨by first|omega|exact Nat.le_refl _⟩,⟨by apply zV_;exact HO0_0.out⟩,⟨by apply zV_;exact HO0_1.out⟩,⟨by (with_reducible repeat (first|refine zG ?_ _|refine zI ?_|refine zH ?_ _));exact BK126.out⟩,⟨by repeat (first|(with_reducible first|exact HB.out|apply zD|apply zB|apply zC|refine zF ?_ GE126.out)|exact HB.out)⟩⟩
  ·replace c5:=Bool.eq_false_iff.mpr c5
   subst c5
   have H1:(impl_MapValid.j0 k true l0_0 l0_1) = some r:=by rw [if_neg (show ¬ (false = true) by decide)] at H;exact H
   clear H
   have H:=H1
   clear H1
   have H':=zA H
   clear H
   have hcz17_0:w3.cell? ⟨gb126,0,none⟩ = some (.slice A0_0 l0_0.length c0_0):=(zT BK126.out 0).trans rfl
   have hcz17_1:w3.cell? ⟨gb126,1,none⟩ = some (.slice A0_1 l0_1.length c0_1):=(zT BK126.out 1).trans rfl
   have hfz17_0:=zZ BK126.out 0
   have hfz17_1:=zZ BK126.out 1
   go_wp2_with (first|((with_reducible refine gate_callee (f:=79) rfl ?_);refine goesL_ (some 7) rfl rfl Try.func79 (by kernel_rfl) rfl #[.slice A0_0 l0_0.length c0_0] rfl (by (try simp only [zJ,zM,zN]);first|done|rfl|(simp only [zL,zK];rfl)) ?_;(with_reducible refine (impl_PermValid.calls _ _ l0_0 false _ ?side1 ?side2 A4.out).mono ?_);(case side1=>repeat (first|exact (Kd.V_reads' HO0_0.out).2.2|apply zC_));(case side2=>exact (Kd.V_reads' HO0_0.out).2.1);rintro e w18 ⟨rfl,hb⟩;refine ⟨_,rfl,?_⟩;have n0_:=zA (Kd.V_below (by apply zV_;exact HO0_0.out) hb);have n1_:=zA (Kd.V_below (by apply zV_;exact HO0_1.out) hb);have n2_:=zA (zX (g:=gb126) (o:=.cells #[.slice A0_0 l0_0.length c0_0,.slice A0_1 l0_1.length c0_1] 33 (0,0)) (by (with_reducible repeat (first|refine zG ?_ _|refine zI ?_|refine zH ?_ _));exact BK126.out) hb);have n3_:=zA (zR (by repeat (first|(with_reducible first|exact HB.out|apply zD|apply zB|apply zC|refine zF ?_ GE126.out)|exact HB.out)) hb);clear HO0_0;clear HO0_1;clear BK126;clear HB;have HO0_0:=n0_;have HO0_1:=n1_;have BK126:=n2_;have HB:=n3_;clear n0_ n1_ n2_ n3_;(try clear hb);(try clear hb2);(try clear hk);(try clear hi)))
   go_meet
   case rel=>exact ⟨_,(true),(by first|rfl|(simp;done)|(simp [*];done)),H',⟨by first|omega|exact Nat.le_refl _⟩,⟨by apply zV_;exact HO0_0.out⟩,⟨by apply zV_;exact HO0_1.out⟩,⟨by (with_reducible repeat (first|refine zG ?_ _|refine zI ?_|refine zH ?_ _));exact BK126.out⟩,⟨by repeat (first|(with_reducible first|exact HB.out|apply zD|apply zB|apply zC|refine zF ?_ GE126.out)|exact HB.out)⟩⟩
 case rest =>
  clear HC2
  (try clear p2);(try clear c4);(try clear c5);(try clear c7);(try clear hcz10_0);(try clear hcz10_1);(try clear hcz12_0);(try clear hcz12_1);(try clear hcz13_0);(try clear hcz13_1);(try clear hcz15_0);(try clear hcz15_1);(try clear hcz17_0);(try clear hcz17_1);(try clear hcz8_0);(try clear hcz8_1);(try clear hfz10_0);(try clear hfz10_1);(try clear hfz12_0);(try clear hfz12_1);(try clear hfz13_0);(try clear hfz13_1);(try clear hfz15_0);(try clear hfz15_1);(try clear hfz17_0);(try clear hfz17_1);(try clear hfz8_0);(try clear hfz8_1)
  obtain ⟨kq,x23_1,rfl,HA,HJ1,HO_127000,HO_127001,BK126,HB⟩:=hcut
  cases kq with
  | zero=>exact absurd HA.out (by simp [impl_MapValid.j0])
  | succ kj1 =>
   have H:=HA.out
   clear HA
   simp only [impl_MapValid.j0] at H
   by_cases c19:x23_1 = true
   ·subst c19
    rw [if_pos rfl] at H;try dsimp only at H
    obtain rfl:=zS H
    go_wp2
    go_ret
    exact ⟨by first|rfl|(simp [errW_none,errW_some] <;> rfl)|(simp [*,errW_none,errW_some] <;> rfl),by repeat (first|(with_reducible first|exact HB.out|apply zD|apply zB|apply zC|refine zF ?_ GE126.out)|exact HB.out)⟩
   ·replace c19:=Bool.eq_false_iff.mpr c19
    subst c19
    have H1:(impl_MapValid.l0 kj1 l0_1 (l0_1.length:Int) 0 l0_0 l0_1) = some r:=by rw [if_neg (show ¬ (false = true) by decide)] at H;exact H
    clear H
    have H:=H1
    clear H1
    have H':=zA H
    clear H
    have hcz20_0:wc.cell? ⟨gb126,0,none⟩ = some (.slice A0_0 l0_0.length c0_0):=(zT BK126.out 0).trans rfl
    have hcz20_1:wc.cell? ⟨gb126,1,none⟩ = some (.slice A0_1 l0_1.length c0_1):=(zT BK126.out 1).trans rfl
    have hfz20_0:=zZ BK126.out 0
    have hfz20_1:=zZ BK126.out 1
    go_wp2
    go_loopg [27] kj1 (fun kq v27 w' => ∃ (x27_2:Int),v27 = .int .i64 x27_2∧Aside0 (impl_MapValid.l0 kq l0_1 (l0_1.length:Int) x27_2 l0_0 l0_1 = some r)∧Aside0 (kq≤kj1)∧Aside0 (Kd.V (Kd.int .i64) 3 w' w.heap.size (fun k_=>((P0_0_ k_∨P0_1_ k_)∨w.heap.size≤k_)∧k_≠gb126) (.slice A0_1 l0_1.length c0_1) l0_1)∧Aside0 (Kd.V (Kd.int .i64) 3 w' w.heap.size (fun k_=>((P0_0_ k_∨P0_1_ k_)∨w.heap.size≤k_)∧k_≠gb126) (.slice A0_0 l0_0.length c0_0) l0_0)∧Aside0 (Kd.V (Kd.int .i64) 3 w' w.heap.size (fun k_=>((P0_0_ k_∨P0_1_ k_)∨w.heap.size≤k_)∧k_≠gb126) (.slice A0_1 l0_1.length c0_1) l0_1)∧Aside0 (w'.heap[gb126]? = some (.cells #[(.slice A0_0 l0_0.length c0_0),(.slice A0_1 l0_1.length c0_1)] 33 (0,0)))∧Aside0 (Below w.heap.size w w'))
    case atStart=>exact ⟨(0),(by first|rfl|(simp;done)|(simp [*];done)),H',⟨Nat.le_refl _⟩,⟨by apply zV_;exact HO_127001.out⟩,⟨by apply zV_;exact HO_127000.out⟩,⟨by apply zV_;exact HO_127001.out⟩,⟨by (with_reducible repeat (first|refine zG ?_ _|refine zI ?_|refine zH ?_ _));exact BK126.out⟩,⟨by repeat (first|(with_reducible first|exact HB.out|apply zD|apply zB|apply zC|refine zF ?_ GE126.out)|exact HB.out)⟩⟩
    case round =>
     clear H'
     (try clear c1);(try clear p2);(try clear c4);(try clear c5);(try clear c7);(try clear c19);(try clear hcz10_0);(try clear hcz10_1);(try clear hcz12_0);(try clear hcz12_1);(try clear hcz13_0);(try clear hcz13_1);(try clear hcz15_0);(try clear hcz15_1);(try clear hcz17_0);(try clear hcz17_1);(try clear hcz20_0);(try clear hcz20_1);(try clear hcz8_0);(try clear hcz8_1);(try clear hfz10_0);(try clear hfz10_1);(try clear hfz12_0);(try clear hfz12_1);(try clear hfz13_0);(try clear hfz13_1);(try clear hfz15_0);(try clear hfz15_1);(try clear hfz17_0);(try clear hfz17_1);(try clear hfz20_0);(try clear hfz20_1);(try clear hfz8_0);(try clear hfz8_1);(try clear p2)
     obtain ⟨x27_2,rfl,HA,HK2,HO_25,HO_127000,HO_127001,BK126,HB⟩:=hrel
     cases gk with
     | zero=>exact absurd HA.out (by simp [impl_MapValid.l0])
     | succ k2 =>
      have H:=HA.out
      clear HA
      simp only [impl_MapValid.l0] at H
      by_cases c21:x27_2 < (l0_1.length:Int)
      ·rw [if_pos c21] at H
       have c21b0:decide (x27_2 < (l0_1.length:Int)) = true:=zO c21
       clear c21
       by_cases c22:0≤x27_2
       ·rw [if_pos c22] at H
        have c22b0:decide (0≤x27_2) = true:=zO c22
        clear c22
        by_cases c23:x27_2 < (l0_1.length:Int)
        ·rw [if_pos c23] at H
         have c23b0:decide (x27_2 < (l0_1.length:Int)) = true:=zO c23
         clear c23
         by_cases c24:(rd l0_1 x27_2) = x27_2
         ·rw [if_pos c24] at H
          have c24b0:((rd l0_1 x27_2) == x27_2) = true:=beq_iff_eq.mpr c24
          have c24b1:((rd l0_1 x27_2) != x27_2) = false:=bne_eq_false_iff_eq.mpr c24
          clear c24
          obtain rfl:=zS H
          have p129:0≤(x27_2:Int):=zE (by with_reducible assumption)
          have q129:x27_2 < (l0_1.length:Int):=zE (by with_reducible assumption)
          obtain ⟨ad129,e129,hx129_0⟩:=Kd.at_int (Kd.V_reads' HO_25.out).2.2 x27_2 p129 q129
          cases e129
          replace p129:=eq_true p129
          replace q129:=eq_true q129
          go_wp2
          go_ret
          exact ⟨by first|rfl|(simp [errW_none,errW_some] <;> rfl)|(simp [*,errW_none,errW_some] <;> rfl),by repeat (first|(with_reducible first|exact HB.out|apply zD|apply zB|apply zC|refine zF ?_ GE126.out)|exact HB.out)⟩
         ·rw [if_neg c24] at H
          have c24b0:((rd l0_1 x27_2) == x27_2) = false:=beq_eq_false_iff_ne.mpr c24
          have c24b1:((rd l0_1 x27_2) != x27_2) = true:=bne_iff_ne.mpr c24
          by_cases c25:0≤(rd l0_1 x27_2)
          ·rw [if_pos c25] at H
           have c25b0:decide (0≤(rd l0_1 x27_2)) = true:=zO c25
           clear c25
           by_cases c26:(rd l0_1 x27_2) < (l0_1.length:Int)
           ·rw [if_pos c26] at H
            have c26b0:decide ((rd l0_1 x27_2) < (l0_1.length:Int)) = true:=zO c26
            clear c26
            by_cases c27:(rd l0_1 (rd l0_1 x27_2)) = x27_2
            ·rw [if_pos c27] at H
             have c27b0:((rd l0_1 (rd l0_1 x27_2)) == x27_2) = true:=beq_iff_eq.mpr c27
             have c27b1:((rd l0_1 (rd l0_1 x27_2)) != x27_2) = false:=bne_eq_false_iff_eq.mpr c27
             clear c27
             have H':=zA H
             clear H
             have p129:0≤(x27_2:Int):=zE (by with_reducible assumption)
             have q129:x27_2 < (l0_1.length:Int):=zE (by with_reducible assumption)
             obtain ⟨ad129,e129,hx129_0⟩:=Kd.at_int (Kd.V_reads' HO_25.out).2.2 x27_2 p129 q129
             cases e129
             replace p129:=eq_true p129
             replace q129:=eq_true q129
             have hcz28_0:wr.cell? ⟨gb126,0,none⟩ = some (.slice A0_0 l0_0.length c0_0):=(zT BK126.out 0).trans rfl
             have hcz28_1:wr.cell? ⟨gb126,1,none⟩ = some (.slice (some ad129) l0_1.length c0_1):=(zT BK126.out 1).trans rfl
             have hfz28_0:=zZ BK126.out 0
             have hfz28_1:=zZ BK126.out 1
             have p130:0≤((rd l0_1 x27_2):Int):=zE (by with_reducible assumption)
             have q130:(rd l0_1 x27_2) < (l0_1.length:Int):=zE (by with_reducible assumption)
             obtain ⟨ad130,e130,hx130_0⟩:=Kd.at_int (Kd.V_reads' HO_127001.out).2.2 (rd l0_1 x27_2) p130 q130
             obtain rfl:ad129 = ad130:=(by injection e130)
             replace p130:=eq_true p130
             replace q130:=eq_true q130
             go_wp2
             go_roundg k2
             case measure=>have:=HJ1.out;have:=HK2.out;omega
             case rel=>exact ⟨(wrap64 (x27_2+1)),(by first|rfl|(simp;done)|(simp [*];done)),H',⟨by have:=HJ1.out;have:=HK2.out;omega⟩,⟨by apply zV_;exact HO_25.out⟩,⟨by apply zV_;exact HO_127000.out⟩,⟨by apply zV_;exact HO_127001.out⟩,⟨by (with_reducible repeat (first|refine zG ?_ _|refine zI ?_|refine zH ?_ _));exact BK126.out⟩,⟨by repeat (first|(with_reducible first|exact HB.out|apply zD|apply zB|apply zC|refine zF ?_ GE126.out)|exact HB.out)⟩⟩
            ·rw [if_neg c27] at H
             have c27b0:((rd l0_1 (rd l0_1 x27_2)) == x27_2) = false:=beq_eq_false_iff_ne.mpr c27
             have c27b1:((rd l0_1 (rd l0_1 x27_2)) != x27_2) = true:=bne_iff_ne.mpr c27
             obtain rfl:=zS H
             have p129:0≤(x27_2:Int):=zE (by with_reducible assumption)
             have q129:x27_2 < (l0_1.length:Int):=zE (by with_reducible assumption)
             obtain ⟨ad129,e129,hx129_0⟩:=Kd.at_int (Kd.V_reads' HO_25.out).2.2 x27_2 p129 q129
             cases e129
             replace p129:=eq_true p129
             replace q129:=eq_true q129
             have hcz29_0:wr.cell? ⟨gb126,0,none⟩ = some (.slice A0_0 l0_0.length c0_0):=(zT BK126.out 0).trans rfl
             have hcz29_1:wr.cell? ⟨gb126,1,none⟩ = some (.slice (some ad129) l0_1.length c0_1):=(zT BK126.out 1).trans rfl
             have hfz29_0:=zZ BK126.out 0
             have hfz29_1:=zZ BK126.out 1
             have p130:0≤((rd l0_1 x27_2):Int):=zE (by with_reducible assumption)
             have q130:(rd l0_1 x27_2) < (l0_1.length:Int):=zE (by with_reducible assumption)
             obtain ⟨ad130,e130,hx130_0⟩:=Kd.at_int (Kd.V_reads' HO_127001.out).2.2 (rd l0_1 x27_2) p130 q130
             obtain rfl:ad129 = ad130:=(by injection e130)
             replace p130:=eq_true p130
             replace q130:=eq_true q130
             go_wp2
             go_ret
             exact ⟨by first|rfl|(simp [errW_none,errW_some] <;> rfl)|(simp [*,errW_none,errW_some] <;> rfl),by repeat (first|(with_reducible first|exact HB.out|apply zD|apply zB|apply zC|refine zF ?_ GE126.out)|exact HB.out)⟩
           ·rw [if_neg c26] at H
            exact absurd H (by simp)
          ·rw [if_neg c25] at H
           exact absurd H (by simp)
        ·rw [if_neg c23] at H
         exact absurd H (by simp)
       ·rw [if_neg c22] at H
        exact absurd H (by simp)
      ·rw [if_neg c21] at H
       have c21b0:decide (x27_2 < (l0_1.length:Int)) = false:=zP c21
       clear c21
       obtain ⟨y131,hy131⟩:∃ y_:List (List Int),y_ = (([l0_0,l0_1]:List (List Int))):=⟨_,rfl⟩
       replace H:((impl_orbits.f k2 y131).bind fun t134=>((slices_Max_int_int.f t134).bind fun t137=>(some (t137 == 0)))) = some r:=by (try rw [hy131]);first|with_reducible exact H|with_reducible exact zS_ H|exact H
       have Ny131:=zA hy131
       clear hy131
       replace H:=zz0 H
       obtain ⟨t134,A300,H⟩:=H
       try dsimp only at H
       have A30:=zA A300
       clear A300
       replace H:=zz0 H
       obtain ⟨t137,A310,H⟩:=H
       try dsimp only at H
       have A31:=zA A310
       clear A310
       obtain rfl:=zS H
       have hcz32_0:wr.cell? ⟨gb126,0,none⟩ = some (.slice A0_0 l0_0.length c0_0):=(zT BK126.out 0).trans rfl
       have hcz32_1:wr.cell? ⟨gb126,1,none⟩ = some (.slice A0_1 l0_1.length c0_1):=(zT BK126.out 1).trans rfl
       have hfz32_0:=zZ BK126.out 0
       have hfz32_1:=zZ BK126.out 1
       go_wp2_with (first|((with_reducible refine gate_dst (N:=49) rfl ?_);(try (refine gate_guard (by rfl) ?_;dsimp only));refine Kd.N_lit (Kd.slice 3 (Kd.int .i64)) _ 31 ?hg (N':=49) ?hd (xs:=([l0_0,l0_1]:List (List Int))) (inner:=[.slice A0_0 l0_0.length c0_0,.slice A0_1 l0_1.length c0_1]) (ok:=(fun k_=>((P0_0_ k_∨P0_1_ k_)∨w.heap.size≤k_)∧k_≠gb126)) (okp:=(fun k_=>((P0_0_ k_∨P0_1_ k_)∨w.heap.size≤k_)∧k_≠gb126)) ?hr ?hp (fun _ hk=>hk) ((show ∀ k_,wr.heap.size≤k_→(fun k_=>((P0_0_ k_∨P0_1_ k_)∨w.heap.size≤k_)∧k_≠gb126) k_ from fun k_ hk=>⟨(.inr (Nat.le_trans (zQ (by repeat (first|(with_reducible first|exact HB.out|apply zD|apply zB|apply zC|refine zF ?_ GE126.out)|exact HB.out))) hk)),Kd.freshB (g:=gb126) (o:=.cells #[.slice A0_0 l0_0.length c0_0,.slice A0_1 l0_1.length c0_1] 33 (0,0)) (by (with_reducible repeat (first|refine zG ?_ _|refine zI ?_|refine zH ?_ _));exact BK126.out) k_ hk⟩) _ (Nat.le_refl _)) (Below.refl _ _) (Nat.le_refl _) (by simp) ?_;(case hd=>rfl);(case hg=>rfl);(case hr=>first|(go_simp;done)|(go_simp;rfl));(case hp=>exact (Reps.one (show Kd.FK (Kd.slice 3 (Kd.int .i64)) _ _ l0_0 [.slice A0_0 l0_0.length c0_0] from (Kd.FK_slice_mk (Kd.V_reads' (Kd.V_mono (ok':=(fun k_=>((P0_0_ k_∨P0_1_ k_)∨w.heap.size≤k_)∧k_≠gb126)) (HO_127000.out) (fun k_ hk=>⟨hk.1,hk.2⟩))).2.1 (Kd.V_F (Kd.V_mono (ok':=(fun k_=>((P0_0_ k_∨P0_1_ k_)∨w.heap.size≤k_)∧k_≠gb126)) (HO_127000.out) (fun k_ hk=>⟨hk.1,hk.2⟩))))) (Reps.one (show Kd.FK (Kd.slice 3 (Kd.int .i64)) _ _ l0_1 [.slice A0_1 l0_1.length c0_1] from (Kd.FK_slice_mk (Kd.V_reads' (Kd.V_mono (ok':=(fun k_=>((P0_0_ k_∨P0_1_ k_)∨w.heap.size≤k_)∧k_≠gb126)) (HO_127001.out) (fun k_ hk=>⟨hk.1,hk.2⟩))).2.1 (Kd.V_F (Kd.V_mono (ok':=(fun k_=>((P0_0_ k_∨P0_1_ k_)∨w.heap.size≤k_)∧k_≠gb126)) (HO_127001.out) (fun k_ hk=>⟨hk.1,hk.2⟩))))) (Reps.none _ _))));intro v132 w33 ho34 hb hg_ hnew_;clear hg_ hnew_;(first|rw [← Ny131.out] at ho34|(simp only [Int.reduceToNat] at ho34;rw [← Ny131.out] at ho34));have n0_:=zA (Kd.V_elder' (by apply zV_;exact HO_25.out) (Kd.N_base ho34) hb);have n1_:=zA (Kd.V_elder' (by apply zV_;exact HO_127000.out) (Kd.N_base ho34) hb);have n2_:=zA (Kd.V_elder' (by apply zV_;exact HO_127001.out) (Kd.N_base ho34) hb);have n3_:=zA (Kd.N_lower ho34 (zQ (by repeat (first|(with_reducible first|exact HB.out|apply zD|apply zB|apply zC|refine zF ?_ GE126.out)|exact HB.out))));have n4_:=zA (zX (g:=gb126) (o:=.cells #[.slice A0_0 l0_0.length c0_0,.slice A0_1 l0_1.length c0_1] 33 (0,0)) (by (with_reducible repeat (first|refine zG ?_ _|refine zI ?_|refine zH ?_ _));exact BK126.out) hb);have n5_:=zA (zR (by repeat (first|(with_reducible first|exact HB.out|apply zD|apply zB|apply zC|refine zF ?_ GE126.out)|exact HB.out)) hb);clear HO_25;clear HO_127000;clear HO_127001;clear BK126;clear HB;have HO_25:=n0_;have HO_127000:=n1_;have HO_127001:=n2_;have HO133:=n3_;have BK126:=n4_;have HB:=n5_;clear n0_ n1_ n2_ n3_ n4_ n5_;clear hb ho34;obtain ⟨Ao35,co35,eo35⟩:=Kd.N_slice HO133.out;subst eo35)|((with_reducible refine gate_callee (f:=81) rfl ?_);refine goesL_ (some 50) rfl rfl Try.func81 (by kernel_rfl) rfl #[.slice Ao35 y131.length co35] rfl (by (try simp only [zJ,zM,zN]);first|done|rfl|(simp only [zL,zK];rfl)) ?_;(with_reducible refine (impl_orbits.calls k2 _ _ y131 t134 _ ?side1 ?side2 A30.out).mono ?_);(case side1=>repeat (first|exact (Kd.N_reads' HO133.out).2.2|apply zC_));(case side2=>exact (Kd.N_reads' HO133.out).2.1);rintro e w36 ⟨v135,rfl,ho0,hb⟩;refine ⟨_,rfl,?_⟩;have n0_:=zA (Kd.V_elder' (by apply zV_;exact HO_25.out) (zd ho0) hb);have n1_:=zA (Kd.V_elder' (by apply zV_;exact HO_127000.out) (zd ho0) hb);have n2_:=zA (Kd.V_elder' (by apply zV_;exact HO_127001.out) (zd ho0) hb);have n3_:=zA (Kd.N_elder' (by apply zN_;exact HO133.out) (zd ho0) hb);have n4_:=zA (ze (Kd.R_newM (M:=fun k_=>(w.heap.size≤k_)) ho0 (zQ (by repeat (first|(with_reducible first|exact HB.out|apply zD|apply zB|apply zC|refine zF ?_ GE126.out)|exact HB.out))) (fun k_ h_=>h_)) (zQ (by repeat (first|(with_reducible first|exact HB.out|apply zD|apply zB|apply zC|refine zF ?_ GE126.out)|exact HB.out))));have n5_:=zA (zX (g:=gb126) (o:=.cells #[.slice A0_0 l0_0.length c0_0,.slice A0_1 l0_1.length c0_1] 33 (0,0)) (by (with_reducible repeat (first|refine zG ?_ _|refine zI ?_|refine zH ?_ _));exact BK126.out) hb);have n6_:=zA (zR (by repeat (first|(with_reducible first|exact HB.out|apply zD|apply zB|apply zC|refine zF ?_ GE126.out)|exact HB.out)) hb);clear HO_25;clear HO_127000;clear HO_127001;clear HO133;clear BK126;clear HB;have HO_25:=n0_;have HO_127000:=n1_;have HO_127001:=n2_;have HO133:=n3_;have HO136:=n4_;have BK126:=n5_;have HB:=n6_;clear n0_ n1_ n2_ n3_ n4_ n5_ n6_;(try clear hb);(try clear hb2);(try clear hk);(try clear hi);(try clear ho0);obtain ⟨Ao37,co37,eo37⟩:=zg HO136.out;subst eo37)|((with_reducible refine gate_callee (f:=80) rfl ?_);refine goesL_ (some 51) rfl rfl Try.func80 (by kernel_rfl) rfl #[.slice Ao37 t134.length co37] rfl (by (try simp only [zJ,zM,zN]);first|done|rfl|(simp only [zL,zK];rfl)) ?_;(with_reducible refine (slices_Max_int_int.calls _ _ t134 t137 _ ?side1 ?side2 A31.out).mono ?_);(case side1=>repeat (first|exact (zU HO136.out).2.2|apply zC_));(case side2=>exact (zU HO136.out).2.1);rintro e w' ⟨rfl,⟨nd,rfl⟩⟩;refine ⟨_,rfl,?_⟩))
       go_ret
       exact ⟨by first|rfl|(simp [errW_none,errW_some] <;> rfl)|(simp [*,errW_none,errW_some] <;> rfl),by repeat (first|(with_reducible first|exact HB.out|apply zD|apply zB|apply zC|refine zF ?_ GE126.out)|exact HB.out)⟩

end Go.Proofs.Ytdaiohcgdpclnaa.Q
