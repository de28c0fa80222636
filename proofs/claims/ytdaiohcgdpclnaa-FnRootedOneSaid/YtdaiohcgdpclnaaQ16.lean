import Derived.Test.YtdaiohcgdpclnaaQ0
import Derived.Test.YtdaiohcgdpclnaaQ15
import Derived.Deep.WholeRow
import Derived.Laws.CopyOwn
import Derived.Test.YtdaiohcgdpclnaaZ
namespace Go.Proofs.Ytdaiohcgdpclnaa.Q
open Go.RowKit Go.Proofs.YtdaiohcgdpclnaaW.PrintWords Go.Proofs.YtdaiohcgdpclnaaW.PrintLast Go.Proofs.YtdaiohcgdpclnaaW.PrintMore
attribute [local go_sem] max2_int min2_int max_two min_two max_three min_three max_four min_four   -- for this text's walks alone
set_option linter.unusedVariables false
set_option linter.unusedSimpArgs false

/-! ### spec_l6Rd_pick: function 57 -/
def spec_l6Rd_pick.j0:Nat→Int→Bool→List Int→Int→Option (Int × Int)
 | 0,_,_,_,_=>none
 | k+1,x1,x24,x1000,x1001=>if x24 = true then (some (0,x1001)) else (if (wrap64 (x1001 - 1)) < (x1000.length:Int) then (if 0≤(wrap64 (x1001 - 1)) then (if x1 = 0 then (none) else (some (Int.tmod (wrap64 (rd x1000 (wrap64 (x1001 - 1)))) x1,x1001))) else (none)) else (if (x1000.length:Int) = 0 then (none) else (if 0≤(Int.tmod (wrap64 (x1001 - 1)) (x1000.length:Int)) then (if (Int.tmod (wrap64 (x1001 - 1)) (x1000.length:Int)) < (x1000.length:Int) then (if 0≤(Int.tmod (wrap64 ((wrap64 ((wrap64 (x1001 - 1)) * 7))+3)) (x1000.length:Int)) then (if (Int.tmod (wrap64 ((wrap64 ((wrap64 (x1001 - 1)) * 7))+3)) (x1000.length:Int)) < (x1000.length:Int) then (if x1 = 0 then (none) else (some (Int.tmod (Go.bits .xor .i64 (wrap64 ((wrap64 ((wrap64 ((wrap64 ((wrap64 (rd x1000 (Int.tmod (wrap64 (x1001 - 1)) (x1000.length:Int)))) * 131))+(wrap64 ((wrap64 (rd x1000 (Int.tmod (wrap64 ((wrap64 ((wrap64 (x1001 - 1)) * 7))+3)) (x1000.length:Int)))) * 1117))))+(wrap64 ((wrap64 (x1001 - 1)) * 29))))+(wrap64 ((wrap64 (Int.tdiv (wrap64 (x1001 - 1)) (x1000.length:Int))) * 53)))) (wrap64 (Int.tdiv (wrap64 ((wrap64 ((wrap64 ((wrap64 ((wrap64 (rd x1000 (Int.tmod (wrap64 (x1001 - 1)) (x1000.length:Int)))) * 131))+(wrap64 ((wrap64 (rd x1000 (Int.tmod (wrap64 ((wrap64 ((wrap64 (x1001 - 1)) * 7))+3)) (x1000.length:Int)))) * 1117))))+(wrap64 ((wrap64 (x1001 - 1)) * 29))))+(wrap64 ((wrap64 (Int.tdiv (wrap64 (x1001 - 1)) (x1000.length:Int))) * 53)))) 64))) x1,x1001))) else (none)) else (none)) else (none)) else (none))))
def spec_l6Rd_pick.f (k:Nat) (s0_0:List Int) (s0_1:Int) (a1:Int):Option (Int × Int):=if a1 < 1 then (spec_l6Rd_pick.j0 k a1 true s0_0 (wrap64 (s0_1+1))) else (spec_l6Rd_pick.j0 k a1 ((s0_0.length:Int) == 0) s0_0 (wrap64 (s0_1+1)))
theorem spec_l6Rd_pick.mono_l:∀ k,(∀ y0 y1 y2 y3,LeO (spec_l6Rd_pick.j0 k y0 y1 y2 y3) (spec_l6Rd_pick.j0 (k+1) y0 y1 y2 y3))
 | 0=>fun _ _ _ _ r h=>by simp [spec_l6Rd_pick.j0] at h
 | k+1=>by
  have ih0:=spec_l6Rd_pick.mono_l k
  ·intro y0 y1 y2 y3
   unfold spec_l6Rd_pick.j0
   repeat' first
   | (with_reducible exact ih0 _ _ _ _)
   | (with_reducible exact LeO.refl _)
   | (with_reducible exact zm _)
   | (with_reducible refine zo ?_ ?_)
   | (with_reducible refine zn ?_ (fun _=>?_))
   | exact ih0 _ _ _ _
   | exact zm _
   | refine zo ?_ ?_
   | refine zn ?_ (fun _=>?_)
theorem spec_l6Rd_pick.mono:∀ a0 a1 a2 k,LeO (spec_l6Rd_pick.f k a0 a1 a2) (spec_l6Rd_pick.f (k+1) a0 a1 a2):=by
 intro a0 a1 a2 k
 have ih0:=spec_l6Rd_pick.mono_l k
 unfold spec_l6Rd_pick.f
 repeat' first
   | (with_reducible exact ih0 _ _ _ _)
   | (with_reducible exact LeO.refl _)
   | (with_reducible exact zm _)
   | (with_reducible refine zo ?_ ?_)
   | (with_reducible refine zn ?_ (fun _=>?_))
   | exact ih0 _ _ _ _
   | exact zm _
   | refine zo ?_ ?_
   | refine zn ?_ (fun _=>?_)
set_option maxHeartbeats 8000000 in
set_option maxRecDepth 100000 in
theorem spec_l6Rd_pick.calls (k:Nat) (g:Nat) (s0_0:List Int) (s0_1:Int) (a1:Int) (r1:Int) (r2:Int) (w0 w:World) (hI:IsS68 w0 w g s0_0 s0_1) (hB:Below w0.heap.size w0 w) (h:spec_l6Rd_pick.f k s0_0 s0_1 a1 = some (r1,r2)) :
  Calls Try.prog 57 #[.pointer (some ⟨g,0,none⟩),.int .i64 a1] w fun e w'=>e = .returned (.int .i64 r1)∧IsS68 w0 w' g s0_0 r2∧Below w0.heap.size w0 w'∧KeepBut w w' g none:=by
 have HI0:=zA hI
 have HK:=zA (KeepBut.refl w g none)
 have HL:=zA hB.size
 clear hI
 have HW0:=zA hB.size
 have HB:=zA hB
 clear hB
 have H:(if a1 < 1 then (spec_l6Rd_pick.j0 k a1 true s0_0 (wrap64 (s0_1+1))) else (spec_l6Rd_pick.j0 k a1 ((s0_0.length:Int) == 0) s0_0 (wrap64 (s0_1+1)))) = some (r1,r2):=h
 clear h
 have HC3:=zA H
 clear H
 obtain ⟨ASz4_0,cSz4_0,HGz4,hgz4,HSz4_0⟩:=HI0.out
 have hcz4_0:=cellS68_0 HGz4
 have hcz4_1:=cellS68_1 HGz4
 have hfz4_1:=zl HGz4 1
 clear HGz4 hgz4
 go_enter Try.func57,Try.ntmps57
 go_upto_region 2 with (fail)
 repeat (go_quiet (fail);go_upto_region 2 with (fail))
 go_cut [24] (fun v24 wc => ∃ (kq:Nat) (x24_2:Bool),v24 = .bool x24_2∧Aside0 (spec_l6Rd_pick.j0 kq a1 x24_2 s0_0 (wrap64 (s0_1+1)) = some (r1,r2))∧Aside0 (kq≤k)∧Aside0 (IsS68 w0 wc g s0_0 (wrap64 (s0_1+1)))∧Aside0 (KeepBut w wc g none)∧Aside0 (Below w0.heap.size w0 wc))
 case first =>
  have H:=HC3.out
  clear HC3
  by_cases c5:a1 < 1
  ·rw [if_pos c5] at H
   have c5b0:decide (a1 < 1) = true:=zU c5
   clear c5
   (first|rw [c5b0]|(simp only [i64_w,i32_w];rw [c5b0])|skip)
   have H':=zA H
   clear H
   go_wp2
   repeat (go_quiet (fail);try go_wp2)
   go_meet
   case rel=>exact ⟨_,(true),(by first|rfl|(simp;done)|(simp [*];done)),H',⟨by first|omega|exact Nat.le_refl _⟩,⟨by repeat (first|(with_reducible first|exact HI0.out|apply IsS68.alloc|apply IsS68.drewN|apply IsS68.drew|apply IsS68.set_1)|exact HI0.out)⟩,⟨by repeat (first|(with_reducible first|exact HK.out|apply KeepBut.set_|apply keep_drewN|apply keep_drew|apply keep_alloc)|exact HK.out)⟩,⟨by repeat (first|(with_reducible first|exact HB.out|apply zD|apply zB|apply zC|refine zI ?_ (IsS68.ge HI0.out))|exact HB.out)⟩⟩
  ·rw [if_neg c5] at H
   have c5b0:decide (a1 < 1) = false:=zV c5
   clear c5
   (first|rw [c5b0]|(simp only [i64_w,i32_w];rw [c5b0])|skip)
   have H':=zA H
   clear H
   obtain ⟨ASz6_0,cSz6_0,HGz6,hgz6,HSz6_0⟩:=HI0.out
   have hcz6_0:=cellS68_0 HGz6
   have hcz6_1:=cellS68_1 HGz6
   have hfz6_1:=zl HGz6 1
   clear HGz6 hgz6
   go_wp2
   repeat (go_quiet (fail);try go_wp2)
   go_meet
   case rel=>exact ⟨_,(((s0_0.length:Int) == 0)),(by first|rfl|(simp;done)|(simp [*];done)),H',⟨by first|omega|exact Nat.le_refl _⟩,⟨by repeat (first|(with_reducible first|exact HI0.out|apply IsS68.alloc|apply IsS68.drewN|apply IsS68.drew|apply IsS68.set_1)|exact HI0.out)⟩,⟨by repeat (first|(with_reducible first|exact HK.out|apply KeepBut.set_|apply keep_drewN|apply keep_drew|apply keep_alloc)|exact HK.out)⟩,⟨by repeat (first|(with_reducible first|exact HB.out|apply zD|apply zB|apply zC|refine zI ?_ (IsS68.ge HI0.out))|exact HB.out)⟩⟩
 case rest =>
  clear HC3
  try clear p2
  try clear c5
  try clear c5b0
  try clear p6
  try clear hcz4_0
  try clear hcz4_1
  try clear hcz6_0
  try clear hcz6_1
  try clear hfz4_1
  try clear hfz6_1
  obtain ⟨kq,x24_2,rfl,HA,HJ2,HI0,HK,HB⟩:=hcut
  cases kq with
  | zero=>exact absurd HA.out (by simp [spec_l6Rd_pick.j0])
  | succ kj2 =>
   have H:=HA.out
   clear HA
   simp only [spec_l6Rd_pick.j0] at H
   by_cases c7:x24_2 = true
   ·subst c7
    have H1:(some (0,(wrap64 (s0_1+1)))) = some (r1,r2):=by rw [if_pos rfl] at H;exact H
    clear H
    have H:=H1
    clear H1
    simp only [Option.some.injEq,Prod.mk.injEq] at H
    obtain ⟨rfl,rfl⟩:=H
    go_wp2
    repeat (go_quiet (fail);try go_wp2)
    go_ret
    exact ⟨by first|rfl|(simp [errW_none,errW_some] <;> rfl)|(simp [*,errW_none,errW_some] <;> rfl),by repeat (first|(with_reducible first|exact HI0.out|apply IsS68.alloc|apply IsS68.drewN|apply IsS68.drew|apply IsS68.set_1)|exact HI0.out),by repeat (first|(with_reducible first|exact HB.out|apply zD|apply zB|apply zC|refine zI ?_ (IsS68.ge HI0.out))|exact HB.out),by repeat (first|(with_reducible first|exact HK.out|apply KeepBut.set_|apply keep_drewN|apply keep_drew|apply keep_alloc)|exact HK.out)⟩
   ·replace c7:=Bool.eq_false_iff.mpr c7
    subst c7
    have H1:(if (wrap64 ((wrap64 (s0_1+1)) - 1)) < (s0_0.length:Int) then (if 0≤(wrap64 ((wrap64 (s0_1+1)) - 1)) then (if a1 = 0 then (none) else (some (Int.tmod (wrap64 (rd s0_0 (wrap64 ((wrap64 (s0_1+1)) - 1)))) a1,(wrap64 (s0_1+1))))) else (none)) else (if (s0_0.length:Int) = 0 then (none) else (if 0≤(Int.tmod (wrap64 ((wrap64 (s0_1+1)) - 1)) (s0_0.length:Int)) then (if (Int.tmod (wrap64 ((wrap64 (s0_1+1)) - 1)) (s0_0.length:Int)) < (s0_0.length:Int) then (if 0≤(Int.tmod (wrap64 ((wrap64 ((wrap64 ((wrap64 (s0_1+1)) - 1)) * 7))+3)) (s0_0.length:Int)) then (if (Int.tmod (wrap64 ((wrap64 ((wrap64 ((wrap64 (s0_1+1)) - 1)) * 7))+3)) (s0_0.length:Int)) < (s0_0.length:Int) then (if a1 = 0 then (none) else (some (Int.tmod (Go.bits .xor .i64 (wrap64 ((wrap64 ((wrap64 ((wrap64 ((wrap64 (rd s0_0 (Int.tmod (wrap64 ((wrap64 (s0_1+1)) - 1)) (s0_0.length:Int)))) * 131))+(wrap64 ((wrap64 (rd s0_0 (Int.tmod (wrap64 ((wrap64 ((wrap64 ((wrap64 (s0_1+1)) - 1)) * 7))+3)) (s0_0.length:Int)))) * 1117))))+(wrap64 ((wrap64 ((wrap64 (s0_1+1)) - 1)) * 29))))+(wrap64 ((wrap64 (Int.tdiv (wrap64 ((wrap64 (s0_1+1)) - 1)) (s0_0.length:Int))) * 53)))) (wrap64 (Int.tdiv (wrap64 ((wrap64 ((wrap64 ((wrap64 ((wrap64 (rd s0_0 (Int.tmod (wrap64 ((wrap64 (s0_1+1)) - 1)) (s0_0.length:Int)))) * 131))+(wrap64 ((wrap64 (rd s0_0 (Int.tmod (wrap64 ((wrap64 ((wrap64 ((wrap64 (s0_1+1)) - 1)) * 7))+3)) (s0_0.length:Int)))) * 1117))))+(wrap64 ((wrap64 ((wrap64 (s0_1+1)) - 1)) * 29))))+(wrap64 ((wrap64 (Int.tdiv (wrap64 ((wrap64 (s0_1+1)) - 1)) (s0_0.length:Int))) * 53)))) 64))) a1,(wrap64 (s0_1+1))))) else (none)) else (none)) else (none)) else (none)))) = some (r1,r2):=by rw [if_neg (show ¬ (false = true) by decide)] at H;exact H
    clear H
    have H:=H1
    clear H1
    by_cases c8:(wrap64 ((wrap64 (s0_1+1)) - 1)) < (s0_0.length:Int)
    ·rw [if_pos c8] at H
     have c8b0:decide ((wrap64 ((wrap64 (s0_1+1)) - 1)) < (s0_0.length:Int)) = true:=zU c8
     clear c8
     obtain ⟨ji9,hji9⟩:∃ j_:Int,(wrap64 ((wrap64 (s0_1+1)) - 1)) = j_:=⟨_,rfl⟩
     replace H:(if 0≤(ji9) then (if a1 = 0 then (none) else (some (Int.tmod (wrap64 (rd s0_0 (ji9))) a1,(wrap64 (s0_1+1))))) else (none)) = some (r1,r2):=by first|(rw [hji9] at H;exact H)|(simp only [hji9] at H ⊢;exact H)
     (try rw [hji9] at c8b0)
     have hji9w:(IntKind.i64.wrap ((wrap64 (s0_1+1)) - 1)) = ji9:=(i64_w _).trans hji9
     by_cases c10:0≤(ji9)
     ·rw [if_pos c10] at H
      have c10b0:decide (0≤(ji9)) = true:=zU c10
      clear c10
      by_cases c11:a1 = 0
      ·rw [if_pos c11] at H
       exact absurd H (by simp)
      ·rw [if_neg c11] at H
       have c11b0:(a1 == 0) = false:=beq_eq_false_iff_ne.mpr c11
       have c11b1:(a1 != 0) = true:=bne_iff_ne.mpr c11
       simp only [Option.some.injEq,Prod.mk.injEq] at H
       obtain ⟨rfl,rfl⟩:=H
       obtain ⟨ASz12_0,cSz12_0,HGz12,hgz12,HSz12_0⟩:=HI0.out
       have hcz12_0:=cellS68_0 HGz12
       have hcz12_1:=cellS68_1 HGz12
       have hfz12_1:=zl HGz12 1
       clear HGz12 hgz12
       have p499:0≤((ji9):Int):=zF (by first|(with_reducible assumption)|assumption)
       have q499:(ji9) < (s0_0.length:Int):=zF (by first|(with_reducible assumption)|assumption)
       obtain ⟨ad499,e499,hx499_0⟩:=Kd.at_int HSz12_0 (ji9) p499 q499
       cases e499
       replace hx499_0:=pw_cell_below HB.out hx499_0
       replace p499:=eq_true p499
       replace q499:=eq_true q499
       go_wp2
       repeat (go_quiet (fail);try go_wp2)
       go_ret
       exact ⟨by first|rfl|(simp [errW_none,errW_some] <;> rfl)|(simp only [← hji9];first|rfl|(simp [errW_none,errW_some] <;> rfl))|(simp [*,errW_none,errW_some] <;> rfl),by repeat (first|(with_reducible first|exact HI0.out|apply IsS68.alloc|apply IsS68.drewN|apply IsS68.drew|apply IsS68.set_1)|exact HI0.out),by repeat (first|(with_reducible first|exact HB.out|apply zD|apply zB|apply zC|refine zI ?_ (IsS68.ge HI0.out))|exact HB.out),by repeat (first|(with_reducible first|exact HK.out|apply KeepBut.set_|apply keep_drewN|apply keep_drew|apply keep_alloc)|exact HK.out)⟩
     ·rw [if_neg c10] at H
      exact absurd H (by simp)
    ·rw [if_neg c8] at H
     have c8b0:decide ((wrap64 ((wrap64 (s0_1+1)) - 1)) < (s0_0.length:Int)) = false:=zV c8
     clear c8
     by_cases c13:(s0_0.length:Int) = 0
     ·rw [if_pos c13] at H
      exact absurd H (by simp)
     ·rw [if_neg c13] at H
      have c13b0:((s0_0.length:Int) == 0) = false:=beq_eq_false_iff_ne.mpr c13
      have c13b1:((s0_0.length:Int) != 0) = true:=bne_iff_ne.mpr c13
      have c13b2:¬ (s0_0 = []):=fun h_=>c13 (by rw [h_];rfl)
      obtain ⟨ji14,hji14⟩:∃ j_:Int,(Int.tmod (wrap64 ((wrap64 (s0_1+1)) - 1)) (s0_0.length:Int)) = j_:=⟨_,rfl⟩
      replace H:(if 0≤(ji14) then (if (ji14) < (s0_0.length:Int) then (if 0≤(Int.tmod (wrap64 ((wrap64 ((wrap64 ((wrap64 (s0_1+1)) - 1)) * 7))+3)) (s0_0.length:Int)) then (if (Int.tmod (wrap64 ((wrap64 ((wrap64 ((wrap64 (s0_1+1)) - 1)) * 7))+3)) (s0_0.length:Int)) < (s0_0.length:Int) then (if a1 = 0 then (none) else (some (Int.tmod (Go.bits .xor .i64 (wrap64 ((wrap64 ((wrap64 ((wrap64 ((wrap64 (rd s0_0 (ji14))) * 131))+(wrap64 ((wrap64 (rd s0_0 (Int.tmod (wrap64 ((wrap64 ((wrap64 ((wrap64 (s0_1+1)) - 1)) * 7))+3)) (s0_0.length:Int)))) * 1117))))+(wrap64 ((wrap64 ((wrap64 (s0_1+1)) - 1)) * 29))))+(wrap64 ((wrap64 (Int.tdiv (wrap64 ((wrap64 (s0_1+1)) - 1)) (s0_0.length:Int))) * 53)))) (wrap64 (Int.tdiv (wrap64 ((wrap64 ((wrap64 ((wrap64 ((wrap64 (rd s0_0 (ji14))) * 131))+(wrap64 ((wrap64 (rd s0_0 (Int.tmod (wrap64 ((wrap64 ((wrap64 ((wrap64 (s0_1+1)) - 1)) * 7))+3)) (s0_0.length:Int)))) * 1117))))+(wrap64 ((wrap64 ((wrap64 (s0_1+1)) - 1)) * 29))))+(wrap64 ((wrap64 (Int.tdiv (wrap64 ((wrap64 (s0_1+1)) - 1)) (s0_0.length:Int))) * 53)))) 64))) a1,(wrap64 (s0_1+1))))) else (none)) else (none)) else (none)) else (none)) = some (r1,r2):=by first|(rw [hji14] at H;exact H)|(simp only [hji14] at H ⊢;exact H)
      by_cases c15:0≤(ji14)
      ·rw [if_pos c15] at H
       have c15b0:decide (0≤(ji14)) = true:=zU c15
       clear c15
       by_cases c16:(ji14) < (s0_0.length:Int)
       ·rw [if_pos c16] at H
        have c16b0:decide ((ji14) < (s0_0.length:Int)) = true:=zU c16
        clear c16
        obtain ⟨ji17,hji17⟩:∃ j_:Int,(Int.tmod (wrap64 ((wrap64 ((wrap64 ((wrap64 (s0_1+1)) - 1)) * 7))+3)) (s0_0.length:Int)) = j_:=⟨_,rfl⟩
        replace H:(if 0≤(ji17) then (if (ji17) < (s0_0.length:Int) then (if a1 = 0 then (none) else (some (Int.tmod (Go.bits .xor .i64 (wrap64 ((wrap64 ((wrap64 ((wrap64 ((wrap64 (rd s0_0 (ji14))) * 131))+(wrap64 ((wrap64 (rd s0_0 (ji17))) * 1117))))+(wrap64 ((wrap64 ((wrap64 (s0_1+1)) - 1)) * 29))))+(wrap64 ((wrap64 (Int.tdiv (wrap64 ((wrap64 (s0_1+1)) - 1)) (s0_0.length:Int))) * 53)))) (wrap64 (Int.tdiv (wrap64 ((wrap64 ((wrap64 ((wrap64 ((wrap64 (rd s0_0 (ji14))) * 131))+(wrap64 ((wrap64 (rd s0_0 (ji17))) * 1117))))+(wrap64 ((wrap64 ((wrap64 (s0_1+1)) - 1)) * 29))))+(wrap64 ((wrap64 (Int.tdiv (wrap64 ((wrap64 (s0_1+1)) - 1)) (s0_0.length:Int))) * 53)))) 64))) a1,(wrap64 (s0_1+1))))) else (none)) else (none)) = some (r1,r2):=by first|(rw [hji17] at H;exact H)|(simp only [hji17] at H ⊢;exact H)
        by_cases c18:0≤(ji17)
        ·rw [if_pos c18] at H
         have c18b0:decide (0≤(ji17)) = true:=zU c18
         clear c18
         by_cases c19:(ji17) < (s0_0.length:Int)
         ·rw [if_pos c19] at H
          have c19b0:decide ((ji17) < (s0_0.length:Int)) = true:=zU c19
          clear c19
          by_cases c20:a1 = 0
          ·rw [if_pos c20] at H
           exact absurd H (by simp)
          ·rw [if_neg c20] at H
           have c20b0:(a1 == 0) = false:=beq_eq_false_iff_ne.mpr c20
           have c20b1:(a1 != 0) = true:=bne_iff_ne.mpr c20
           simp only [Option.some.injEq,Prod.mk.injEq] at H
           obtain ⟨rfl,rfl⟩:=H
           obtain ⟨ASz21_0,cSz21_0,HGz21,hgz21,HSz21_0⟩:=HI0.out
           have hcz21_0:=cellS68_0 HGz21
           have hcz21_1:=cellS68_1 HGz21
           have hfz21_1:=zl HGz21 1
           clear HGz21 hgz21
           have p500:0≤((ji14):Int):=zF (by first|(with_reducible assumption)|assumption)
           have q500:(ji14) < (s0_0.length:Int):=zF (by first|(with_reducible assumption)|assumption)
           obtain ⟨ad500,e500,hx500_0⟩:=Kd.at_int HSz21_0 (ji14) p500 q500
           cases e500
           replace hx500_0:=pw_cell_below HB.out hx500_0
           replace p500:=eq_true p500
           replace q500:=eq_true q500
           have p501:0≤((ji17):Int):=zF (by first|(with_reducible assumption)|assumption)
           have q501:(ji17) < (s0_0.length:Int):=zF (by first|(with_reducible assumption)|assumption)
           obtain ⟨ad501,e501,hx501_0⟩:=Kd.at_int HSz21_0 (ji17) p501 q501
           obtain rfl:ad500 = ad501:=(by injection e501)
           replace hx501_0:=pw_cell_below HB.out hx501_0
           replace p501:=eq_true p501
           replace q501:=eq_true q501
           go_wp2
           repeat (go_quiet (fail);try go_wp2)
           go_ret
           exact ⟨by first|rfl|(simp [errW_none,errW_some] <;> rfl)|(simp only [← hji14, ← hji17];first|rfl|(simp [errW_none,errW_some] <;> rfl))|(simp [*,errW_none,errW_some] <;> rfl),by repeat (first|(with_reducible first|exact HI0.out|apply IsS68.alloc|apply IsS68.drewN|apply IsS68.drew|apply IsS68.set_1)|exact HI0.out),by repeat (first|(with_reducible first|exact HB.out|apply zD|apply zB|apply zC|refine zI ?_ (IsS68.ge HI0.out))|exact HB.out),by repeat (first|(with_reducible first|exact HK.out|apply KeepBut.set_|apply keep_drewN|apply keep_drew|apply keep_alloc)|exact HK.out)⟩
         ·rw [if_neg c19] at H
          exact absurd H (by simp)
        ·rw [if_neg c18] at H
         exact absurd H (by simp)
       ·rw [if_neg c16] at H
        exact absurd H (by simp)
      ·rw [if_neg c15] at H
       exact absurd H (by simp)

/-! ### spec_l91Edges: function 43 -/
def spec_l91Edges.f (k:Nat) (s0_0:List Int) (s0_1:Int) (a1:Int):Option (Int × Int × Int):=(spec_l6Rd_pick.f k s0_0 s0_1 16).bind fun bt502=>(if bt502.1 = 0 then ((some (([0,wrap64 (a1+1),(-1)]:List Int):List Int)).bind fun y504=>((spec_l6Rd_pick.f k s0_0 bt502.2 3).bind fun bt507=>(if 0≤bt507.1 then (if bt507.1 < (y504.length:Int) then ((spec_l6Rd_pick.f k s0_0 bt507.2 3).bind fun bt510=>(some (rd y504 bt507.1,wrap64 (bt510.1 - 1),bt510.2))) else (none)) else (none)))) else ((spec_l6Rd_pick.f k s0_0 bt502.2 a1).bind fun bt512=>((spec_l6Rd_pick.f k s0_0 bt512.2 3).bind fun bt514=>(some (wrap64 (1+bt512.1),bt514.1,bt514.2)))))
theorem spec_l91Edges.mono:∀ a0 a1 a2 k,LeO (spec_l91Edges.f k a0 a1 a2) (spec_l91Edges.f (k+1) a0 a1 a2):=by
 intro a0 a1 a2 k
 unfold spec_l91Edges.f
 repeat' first
   | (with_reducible exact spec_l6Rd_pick.mono _ _ _ _)
   | (with_reducible exact LeO.refl _)
   | (with_reducible exact zm _)
   | (with_reducible refine zo ?_ ?_)
   | (with_reducible refine zn ?_ (fun _=>?_))
   | exact spec_l6Rd_pick.mono _ _ _ _
   | exact zm _
   | refine zo ?_ ?_
   | refine zn ?_ (fun _=>?_)
def spec_l91Edges.T2:Bool × List (List Nat × List Nat):=(true,[([],[]),([0],[0]),([1],[1]),([],[]),([3],[3]),([2,4],[2,4]),([5],[5]),([],[]),([7,4],[7]),([8],[8]),([6,8,0,1,2,3,4,5,6],[6]),([9,10,0,1,2,3,4,5,6,7,8,9,10],[9])])
def spec_l91Edges.B2:List Nat:=[0,1,3,0,8,31,63,0,152,408,511,2047]
theorem spec_l91Edges.tab2:rtab .any (opsOf Try.f43 2) = spec_l91Edges.T2:=by kernel_rfl
theorem spec_l91Edges.bits2:waitsOk spec_l91Edges.T2.2 spec_l91Edges.B2 = true:=by kernel_rfl
set_option maxHeartbeats 8000000 in
set_option maxRecDepth 100000 in
theorem spec_l91Edges.calls (k:Nat) (g:Nat) (s0_0:List Int) (s0_1:Int) (a1:Int) (r1:Int) (r2:Int) (r3:Int) (w0 w:World) (hI:IsS68 w0 w g s0_0 s0_1) (hB:Below w0.heap.size w0 w) (h:spec_l91Edges.f k s0_0 s0_1 a1 = some (r1,r2,r3)) :
  Calls Try.prog 43 #[.pointer (some ⟨g,0,none⟩),.int .i64 a1] w fun e w'=>e = .returned (.tuple #[.int .i64 r1,.int .i64 r2])∧IsS68 w0 w' g s0_0 r3∧Below w0.heap.size w0 w'∧KeepBut w w' g none:=by
 have HI0:=zA hI
 have HK:=zA (KeepBut.refl w g none)
 have HL:=zA hB.size
 clear hI
 have HW0:=zA hB.size
 have HB:=zA hB
 clear hB
 have H:((spec_l6Rd_pick.f k s0_0 s0_1 16).bind fun bt502=>(if bt502.1 = 0 then ((some (([0,wrap64 (a1+1),(-1)]:List Int):List Int)).bind fun y504=>((spec_l6Rd_pick.f k s0_0 bt502.2 3).bind fun bt507=>(if 0≤bt507.1 then (if bt507.1 < (y504.length:Int) then ((spec_l6Rd_pick.f k s0_0 bt507.2 3).bind fun bt510=>(some (rd y504 bt507.1,wrap64 (bt510.1 - 1),bt510.2))) else (none)) else (none)))) else ((spec_l6Rd_pick.f k s0_0 bt502.2 a1).bind fun bt512=>((spec_l6Rd_pick.f k s0_0 bt512.2 3).bind fun bt514=>(some (wrap64 (1+bt512.1),bt514.1,bt514.2)))))) = some (r1,r2,r3):=h
 clear h
 replace H:=zz0 H
 obtain ⟨⟨t502,t503⟩,A30,H⟩:=H
 replace H:(if t502 = 0 then ((some (([0,wrap64 (a1+1),(-1)]:List Int):List Int)).bind fun y504=>((spec_l6Rd_pick.f k s0_0 t503 3).bind fun bt507=>(if 0≤bt507.1 then (if bt507.1 < (y504.length:Int) then ((spec_l6Rd_pick.f k s0_0 bt507.2 3).bind fun bt510=>(some (rd y504 bt507.1,wrap64 (bt510.1 - 1),bt510.2))) else (none)) else (none)))) else ((spec_l6Rd_pick.f k s0_0 t503 a1).bind fun bt512=>((spec_l6Rd_pick.f k s0_0 bt512.2 3).bind fun bt514=>(some (wrap64 (1+bt512.1),bt514.1,bt514.2))))) = some (r1,r2,r3):=H
 have A3:=zA A30
 clear A30
 by_cases c4:t502 = 0
 ·rw [if_pos c4] at H
  have c4b0:(t502 == 0) = true:=beq_iff_eq.mpr c4
  have c4b1:(t502 != 0) = false:=bne_eq_false_iff_eq.mpr c4
  clear c4
  obtain ⟨y504,hy504⟩:∃ y_:List Int,y_ = (([0,wrap64 (a1+1),(-1)]:List Int)):=⟨_,rfl⟩
  replace H:((spec_l6Rd_pick.f k s0_0 t503 3).bind fun bt507=>(if 0≤bt507.1 then (if bt507.1 < (y504.length:Int) then ((spec_l6Rd_pick.f k s0_0 bt507.2 3).bind fun bt510=>(some (rd y504 bt507.1,wrap64 (bt510.1 - 1),bt510.2))) else (none)) else (none))) = some (r1,r2,r3):=by first|(rw [hy504];with_reducible exact H)|(have H2_:=(Option.bind_some _ _).symm.trans H;rw [hy504];with_reducible exact H2_)|(have H2_:=(Option.bind_some _ _).symm.trans H;with_reducible exact H2_)|with_reducible exact H|(rw [hy504];exact H)|exact H
  have Ny504:=zA hy504
  clear hy504
  replace H:=zz0 H
  obtain ⟨⟨t507,t508⟩,A50,H⟩:=H
  replace H:(if 0≤t507 then (if t507 < (y504.length:Int) then ((spec_l6Rd_pick.f k s0_0 t508 3).bind fun bt510=>(some (rd y504 t507,wrap64 (bt510.1 - 1),bt510.2))) else (none)) else (none)) = some (r1,r2,r3):=H
  have A5:=zA A50
  clear A50
  by_cases c6:0≤t507
  ·rw [if_pos c6] at H
   have c6b0:decide (0≤t507) = true:=zU c6
   clear c6
   by_cases c7:t507 < (y504.length:Int)
   ·rw [if_pos c7] at H
    have c7b0:decide (t507 < (y504.length:Int)) = true:=zU c7
    clear c7
    replace H:=zz0 H
    obtain ⟨⟨t510,t511⟩,A80,H⟩:=H
    replace H:(some (rd y504 t507,wrap64 (t510 - 1),t511)) = some (r1,r2,r3):=H
    have A8:=zA A80
    clear A80
    simp only [Option.some.injEq,Prod.mk.injEq] at H
    obtain ⟨rfl,rfl,rfl⟩:=H
    go_enter Try.func43,Try.ntmps43
    try go_wp2_with (first|((with_reducible refine gate_callee (f:=57) rfl ?_);refine goesL_ (some 7) rfl rfl Try.func57 (by kernel_rfl) rfl #[.pointer (some ⟨g,0,none⟩),.int .i64 16] rfl (by (try simp only [zP,zS,zT]);first|done|rfl|(simp only [zR,zQ];rfl)) ?_;(with_reducible refine (spec_l6Rd_pick.calls k g s0_0 s0_1 16 t502 t503 w0 _ ?side1 ?side2 A3.out).mono ?_);(case side1=>repeat (first|(with_reducible first|exact HI0.out|apply IsS68.alloc|apply IsS68.drewN|apply IsS68.drew|apply IsS68.set_1)|exact HI0.out));(case side2=>repeat (first|(with_reducible first|exact HB.out|apply zD|apply zB|apply zC|refine zI ?_ (IsS68.ge HI0.out))|exact HB.out));rintro e w9 ⟨rfl,hi,hb,hk⟩;refine ⟨_,rfl,?_⟩;have n0_:=zA (KeepBut.trans (by repeat (first|(with_reducible first|exact HK.out|apply KeepBut.set_|apply keep_drewN|apply keep_drew|apply keep_alloc)|exact HK.out)) hk (.inl rfl));have n1_:=zA (hb);have n2_:=zA (hi);clear HK;clear HB;clear HI0;have HK:=n0_;have HB:=n1_;have HI0:=n2_;clear n0_ n1_ n2_;(try clear hb);(try clear hb2);(try clear hk);(try clear hi)))
    have pi509:(0≤(t507:Int)) = True:=eq_true (zF (by first|(with_reducible assumption)|assumption))
    have qi509:(t507 < (y504.length:Int)) = True:=eq_true (zF (by first|(with_reducible assumption)|assumption))
    have n0_:=zA (IsS68.drew HI0.out)
    have n1_:=zA (keep_drew HK.out)
    have n2_:=zA (zC HB.out)
    clear HI0
    clear HK
    clear HB
    have HI0:=n0_
    have HK:=n1_
    have HB:=n2_
    clear n0_ n1_ n2_
    refine start_ (n:=12) (S:=fun w'=>True) (ds:=[]) #[false,false,false,false,false,false,false,false,false,false,false,false] (by kernel_rfl) rfl rfl trivial (fun hHeld=>?_);refine with_tabW spec_l91Edges.tab2 spec_l91Edges.bits2 (fun HT_ HW_=>?_)
    generalize w9.drew = w10 at HI0 HK HB hHeld ⊢
    refine pure_ (i:=0) (N:=some 9) (v:=?_) (a':=?_) #[true,false,false,false,false,false,false,false,false,false,false,false] rfl rfl (any_of HT_.out (by kernel_rfl)) (fun _ _ _ h=>h) (Or.inl ⟨by rfl,?_⟩) ?_ ?_
    rotate_left
    ·intro w'
     go_simp
     with_reducible rfl
    rotate_left
    ·simp only [Act.put,zE,zG,zH,i64_w,i32_w]
     rfl
    refine pure_ (i:=3) (N:=some 12) (v:=?_) (a':=?_) #[true,false,false,true,false,false,false,false,false,false,false,false] rfl rfl (any_of HT_.out (by kernel_rfl)) (fun _ _ _ h=>h) (Or.inl ⟨by rfl,?_⟩) ?_ ?_
    rotate_left
    ·intro w'
     go_simp
     with_reducible rfl
    rotate_left
    ·simp only [Act.put,zE,zG,zH,i64_w,i32_w]
     rfl
    refine pure_ (i:=7) (N:=some 16) (v:=?_) (a':=?_) #[true,false,false,true,false,false,false,true,false,false,false,false] rfl rfl (any_of HT_.out (by kernel_rfl)) (fun _ _ _ h=>h) (Or.inl ⟨by rfl,?_⟩) ?_ ?_
    rotate_left
    ·intro w'
     go_simp
     with_reducible rfl
    rotate_left
    ·simp only [Act.put,zE,zG,zH,i64_w,i32_w]
     rfl
    refine inv_at [1,2,4,5,6,8,9,10,11] (fun a0_ b a w' => ∃ (v505:Value) (adz_v505:Addr) (m5_:Value),a = putSel a0_ b [(1,10,.int .i64 (wrap64 (a1+1))),(2,11,v505),(4,13,.int .i64 t507),(5,14,m5_),(6,15,.int .i64 (rd y504 t507)),(8,17,.int .i64 t510),(9,18,.int .i64 (wrap64 (t510 - 1))),(10,4,.int .i64 (rd y504 t507)),(11,5,.int .i64 (wrap64 (t510 - 1)))]∧(b 4 = false→IsS68 w0 w' g s0_0 t503)∧(KeepBut w w' g none)∧(Below w0.heap.size w0 w')∧(b 2 = true→Kd.R (Kd.int .i64) 3 w' w.heap.size (fun _=>True) v505 y504)∧(b 2 = true → ∃ c_,(v505:Value) = .slice (some adz_v505) y504.length c_)∧(b 4 = true→b 8 = false→IsS68 w0 w' g s0_0 t508)∧(b 8 = true→IsS68 w0 w' g s0_0 t511)∧(b 5 = true→(m5_:Value) = .pointer (some (adz_v505.add (t507).toNat)))) HT_.out HW_.out (by kernel_rfl) (by kernel_rfl) ?_ ?_ ?_
    ·exact ⟨.bool false,⟨0,0,none⟩,.bool false,by simp only [putSel,Bool.false_eq_true,if_false],fun _=>HI0.out,HK.out,HB.out,fun h_=>absurd h_ (by decide),fun h_=>absurd h_ (by decide),fun h_=>absurd h_ (by decide),fun h_=>absurd h_ (by decide),fun h_=>absurd h_ (by decide)⟩
    ·skip
     clear HB HI0 HK
     refine steps_cons ?_ ?_
     ·rintro b a w' ⟨v505,adz_v505,m5_,ha,Q_HI0,Q_HK,Q_HB,Q_HO506,Q_HA_HO506,Q_HI0_e4,Q_HI0_e8,Q_X5_⟩ hb_ hon hoff
      refine ⟨_,rfl,fun K hK=>?_⟩
      have e9:a.tmps[9]? = some (.int .i64 a1):=by rw [ha];exact (putSel_off rfl).trans rfl
      replace ha:=zA ha
      have HK:=zA Q_HK
      have HB:=zA Q_HB
      refine value_ (w1:=w') (v:=.int .i64 (wrap64 (a1+1))) (by rfl) rfl ?_ ?_
      ·go_simp
       (try simp only [i64_w])
       try rfl
      refine hK.out _ _ ⟨v505,adz_v505,m5_,(by rw [ha.out];exact putSel_upk 0 hb_ rfl rfl rfl),Q_HI0,Q_HK,Q_HB,fun h0_=>absurd ((hoff 2 (by kernel_rfl)).symm.trans h0_) (by decide),fun h0_=>absurd ((hoff 2 (by kernel_rfl)).symm.trans h0_) (by decide),Q_HI0_e4,Q_HI0_e8,fun h0_=>absurd ((hoff 5 (by kernel_rfl)).symm.trans h0_) (by decide)⟩
     refine steps_cons ?_ ?_
     ·rintro b a w' ⟨v505,adz_v505,m5_,ha,Q_HI0,Q_HK,Q_HB,Q_HO506,Q_HA_HO506,Q_HI0_e4,Q_HI0_e8,Q_X5_⟩ hb_ hon hoff
      refine ⟨_,rfl,fun K hK=>?_⟩
      have e10:a.tmps[10]? = some (.int .i64 (wrap64 (a1+1))):=by rw [ha];exact putSel_on (e:=(1,10,.int .i64 (wrap64 (a1+1)))) 0 rfl rfl (hon 1 (by kernel_rfl)) rfl
      replace ha:=zA ha
      have HK:=zA Q_HK
      have HB:=zA Q_HB
      refine Kd.R_lit_step (Kd.int .i64) _ 3 ?hg (N:=11) ?hd (xs:=([0,wrap64 (a1+1),(-1)]:List Int)) (inner:=[.int .i64 0,.int .i64 (wrap64 (a1+1)),.int .i64 (-1)]) (ok:=fun _=>True) (okp:=fun _=>True) ?hr ?hp (fun _ hk=>hk) trivial (Below.refl _ _) (Nat.le_refl _) (by simp) ?_;(case hd=>rfl);(case hg=>rfl);(case hr=>first|(go_simp;done)|(go_simp;rfl));(case hp=>exact (Reps.one (show Kd.M (Kd.int .i64) _ _ _ 0 [.int .i64 0] from rfl) (Reps.one (show Kd.M (Kd.int .i64) _ _ _ (wrap64 (a1+1)) [.int .i64 (wrap64 (a1+1))] from rfl) (Reps.one (show Kd.M (Kd.int .i64) _ _ _ (-1) [.int .i64 (-1)] from rfl) (Reps.none _ _)))))
      intro v505 w11 ho12 hb hg_ hnew_
      clear hg_ hnew_
      (first|rw [← Ny504.out] at ho12|(simp only [Int.reduceToNat] at ho12;rw [← Ny504.out] at ho12))
      have n0_:=zA (zq ho12 (keep_size (w:=w) (g:=g) (row:=none) (by repeat (first|(with_reducible first|exact HK.out|apply KeepBut.set_|apply keep_drewN|apply keep_drew|apply keep_alloc)|exact HK.out))))
      have n2_:=zA (KeepBut.trans (by repeat (first|(with_reducible first|exact HK.out|apply KeepBut.set_|apply keep_drewN|apply keep_drew|apply keep_alloc)|exact HK.out)) (KeepBut.of_below hb g none) (.inl rfl))
      have n3_:=zA (za (by repeat (first|(with_reducible first|exact HB.out|apply zD|apply zB|apply zC)|exact HB.out)) hb)
      have z_HI0:=fun (h0_:b 4 = false)=>(show IsS68 w0 w11 g s0_0 t503 from by first|exact (IsS68.below (by repeat (first|(with_reducible first|exact (Q_HI0 h0_)|apply IsS68.alloc|apply IsS68.drewN|apply IsS68.drew|apply IsS68.set_1)|exact (Q_HI0 h0_))) hb))
      have z_HI0_e4:=fun (h0_:b 4 = true) (h1_:b 8 = false)=>(show IsS68 w0 w11 g s0_0 t508 from by first|exact (IsS68.below (by repeat (first|(with_reducible first|exact (Q_HI0_e4 h0_ h1_)|apply IsS68.alloc|apply IsS68.drewN|apply IsS68.drew|apply IsS68.set_1)|exact (Q_HI0_e4 h0_ h1_))) hb))
      have z_HI0_e8:=fun (h0_:b 8 = true)=>(show IsS68 w0 w11 g s0_0 t511 from by first|exact (IsS68.below (by repeat (first|(with_reducible first|exact (Q_HI0_e8 h0_)|apply IsS68.alloc|apply IsS68.drewN|apply IsS68.drew|apply IsS68.set_1)|exact (Q_HI0_e8 h0_))) hb))
      clear HK
      clear HB
      have HO506:=n0_
      have HK:=n2_
      have HB:=n3_
      clear n0_ n2_ n3_
      clear hb ho12
      obtain ⟨Ao13,co13,eo13⟩:=zr HO506.out
      subst eo13
      obtain ⟨ado13,fo13,_⟩:=Kd.at_int (zd HO506.out).2.2 0 (by decide) (by rw [Ny504.out];simp)
      cases fo13
      refine hK.out _ _ ⟨.slice (some ado13) y504.length co13,ado13,m5_,(by rw [ha.out];exact putSel_upk 1 hb_ rfl rfl rfl),z_HI0,(by repeat (first|(with_reducible first|exact HK.out|apply KeepBut.set_|apply keep_drewN|apply keep_drew|apply keep_alloc)|exact HK.out)),(by repeat (first|(with_reducible first|exact HB.out|apply zD|apply zB|apply zC)|exact HB.out)),fun _=>(by (with_reducible repeat (first|apply zK|apply zJ|apply zL));exact HO506.out),fun _=>⟨_,rfl⟩,z_HI0_e4,z_HI0_e8,fun h0_=>absurd ((hoff 5 (by kernel_rfl)).symm.trans h0_) (by decide)⟩
     refine steps_cons ?_ ?_
     ·rintro b a w' ⟨v505,adz_v505,m5_,ha,Q_HI0,Q_HK,Q_HB,Q_HO506,Q_HA_HO506,Q_HI0_e4,Q_HI0_e8,Q_X5_⟩ hb_ hon hoff
      refine ⟨_,rfl,fun K hK=>?_⟩
      have e12:a.tmps[12]? = some (.pointer (some ⟨g,0,none⟩)):=by rw [ha];exact (putSel_off rfl).trans rfl
      replace ha:=zA ha
      have HI0:=zA (Q_HI0 hb_)
      have HK:=zA Q_HK
      have HB:=zA Q_HB
      refine goes_ Try.func57 (by kernel_rfl) rfl #[.pointer (some ⟨g,0,none⟩),.int .i64 3] (by rfl) rfl rfl (by first|(simp only [zP,zS,zT,Act.eval,Array.getD_eq_getD_getElem?,Option.getD_some,e12];done)|(simp only [zP,zS,zT,Act.eval,Array.getD_eq_getD_getElem?,Option.getD_some,e12];rfl)) ?_
      with_reducible refine (spec_l6Rd_pick.calls k g s0_0 t503 3 t507 t508 w0 _ ?side1 ?side2 A5.out).mono ?_
      (case side1=>repeat (first|(with_reducible first|exact HI0.out|apply IsS68.alloc|apply IsS68.drewN|apply IsS68.drew|apply IsS68.set_1)|exact HI0.out))
      (case side2=>repeat (first|(with_reducible first|exact HB.out|apply zD|apply zB|apply zC|refine zI ?_ (IsS68.ge HI0.out))|exact HB.out))
      rintro e w11 ⟨rfl,hi,hb,hk⟩
      refine ⟨_,rfl,?_⟩
      have n0_:=zA (KeepBut.trans (by repeat (first|(with_reducible first|exact HK.out|apply KeepBut.set_|apply keep_drewN|apply keep_drew|apply keep_alloc)|exact HK.out)) hk (.inl rfl))
      have n1_:=zA (hb)
      have n2_:=zA (hi)
      have z_HO506:=fun (h0_:b 2 = true)=>(show Kd.R (Kd.int .i64) 3 w11 w.heap.size (fun _=>True) v505 y504 from by first|exact (ze (Kd.R_keep (IsS68.apart (show IsS68 w0 _ g s0_0 t503 from by repeat (first|(with_reducible first|exact HI0.out|apply IsS68.alloc|apply IsS68.drewN|apply IsS68.drew|apply IsS68.set_1)|exact HI0.out)) (by (with_reducible repeat (first|apply zK|apply zJ|apply zL));exact (Q_HO506 h0_)) (by decide)) hk (fun _ h=>h.2)) (fun _ h=>h.1))|exact ze (ze (Kd.R_keep (IsS68.apart (show IsS68 w0 _ g s0_0 t503 from by repeat (first|(with_reducible first|exact HI0.out|apply IsS68.alloc|apply IsS68.drewN|apply IsS68.drew|apply IsS68.set_1)|exact HI0.out)) (by (with_reducible repeat (first|apply zK|apply zJ|apply zL));exact (Q_HO506 h0_)) (by decide)) hk (fun _ h=>h.2)) (fun _ h=>h.1)) (fun _ h_=>by first|trivial|exact h_|exact h_.1))
      clear HK
      clear HB
      clear HI0
      have HK:=n0_
      have HB:=n1_
      have HI0:=n2_
      clear n0_ n1_ n2_
      (try clear hb)
      (try clear hb2)
      (try clear hk)
      (try clear hi)
      refine hK.out _ _ ⟨v505,adz_v505,m5_,(by rw [ha.out];exact putSel_upk 2 hb_ rfl rfl rfl),fun h0_=>absurd ((up_self b 4).symm.trans h0_) (by decide),(by repeat (first|(with_reducible first|exact HK.out|apply KeepBut.set_|apply keep_drewN|apply keep_drew|apply keep_alloc)|exact HK.out)),(by repeat (first|(with_reducible first|exact HB.out|apply zD|apply zB|apply zC|refine zI ?_ (IsS68.ge HI0.out))|exact HB.out)),z_HO506,Q_HA_HO506,fun _ _=>(by repeat (first|(with_reducible first|exact HI0.out|apply IsS68.alloc|apply IsS68.drewN|apply IsS68.drew|apply IsS68.set_1)|exact HI0.out)),fun h0_=>absurd ((hoff 8 (by kernel_rfl)).symm.trans h0_) (by decide),fun h0_=>absurd ((hoff 5 (by kernel_rfl)).symm.trans h0_) (by decide)⟩
     refine steps_cons ?_ ?_
     ·rintro b a w' ⟨v505,adz_v505,m5_,ha,Q_HI0,Q_HK,Q_HB,Q_HO506,Q_HA_HO506,Q_HI0_e4,Q_HI0_e8,Q_X5_⟩ hb_ hon hoff
      refine ⟨_,rfl,fun K hK=>?_⟩
      have e11:a.tmps[11]? = some (v505):=by rw [ha];exact putSel_on (e:=(2,11,v505)) 1 rfl rfl (hon 2 (by kernel_rfl)) rfl
      have e13:a.tmps[13]? = some (.int .i64 t507):=by rw [ha];exact putSel_on (e:=(4,13,.int .i64 t507)) 2 rfl rfl (hon 4 (by kernel_rfl)) rfl
      replace ha:=zA ha
      have HK:=zA Q_HK
      have HB:=zA Q_HB
      have HO506:=zA (Q_HO506 (hon 2 (by kernel_rfl)))
      have HA_HO506:=zA (Q_HA_HO506 (hon 2 (by kernel_rfl)))
      obtain ⟨c_,hv_⟩:=HA_HO506.out
      rw [hv_] at e11
      refine value_ (w1:=w') (v:=.pointer (some (adz_v505.add (t507).toNat))) (by rfl) rfl ?_ ?_
      ·go_simp
       (try simp only [i64_w])
       try rfl
      refine hK.out _ _ ⟨v505,adz_v505,(.pointer (some (adz_v505.add (t507).toNat))),(by rw [ha.out];exact putSel_upk 3 hb_ rfl rfl rfl),fun h0_=>absurd ((hon 4 (by kernel_rfl)).symm.trans h0_) (by decide),Q_HK,Q_HB,Q_HO506,Q_HA_HO506,Q_HI0_e4,Q_HI0_e8,fun _=>rfl⟩
     refine steps_cons ?_ ?_
     ·rintro b a w' ⟨v505,adz_v505,m5_,ha,Q_HI0,Q_HK,Q_HB,Q_HO506,Q_HA_HO506,Q_HI0_e4,Q_HI0_e8,Q_X5_⟩ hb_ hon hoff
      refine ⟨_,rfl,fun K hK=>?_⟩
      have e14:a.tmps[14]? = some (m5_):=by rw [ha];exact putSel_on (e:=(5,14,m5_)) 3 rfl rfl (hon 5 (by kernel_rfl)) rfl
      rw [Q_X5_ (hon 5 (by kernel_rfl))] at e14
      replace ha:=zA ha
      have HK:=zA Q_HK
      have HB:=zA Q_HB
      have HO506:=zA (Q_HO506 (hon 2 (by kernel_rfl)))
      have HA_HO506:=zA (Q_HA_HO506 (hon 2 (by kernel_rfl)))
      obtain ⟨c_,hv_⟩:=HA_HO506.out
      have hF_:=HO506.out
      rw [hv_] at hF_
      obtain ⟨ad_,ea_,hx_⟩:=Kd.at_int (zd hF_).2.2 t507 (of_eq_true pi509) (of_eq_true qi509)
      cases ea_
      refine value_ (w1:=w') (v:=.int .i64 (rd y504 t507)) (by rfl) rfl ?_ ?_
      ·go_simp
       (try simp only [i64_w])
       try rfl
      refine hK.out _ _ ⟨v505,adz_v505,m5_,(by rw [ha.out];exact putSel_upk 4 hb_ rfl rfl rfl),fun h0_=>absurd ((hon 4 (by kernel_rfl)).symm.trans h0_) (by decide),Q_HK,Q_HB,Q_HO506,Q_HA_HO506,Q_HI0_e4,Q_HI0_e8,Q_X5_⟩
     refine steps_cons ?_ ?_
     ·rintro b a w' ⟨v505,adz_v505,m5_,ha,Q_HI0,Q_HK,Q_HB,Q_HO506,Q_HA_HO506,Q_HI0_e4,Q_HI0_e8,Q_X5_⟩ hb_ hon hoff
      refine ⟨_,rfl,fun K hK=>?_⟩
      have e16:a.tmps[16]? = some (.pointer (some ⟨g,0,none⟩)):=by rw [ha];exact (putSel_off rfl).trans rfl
      replace ha:=zA ha
      have HK:=zA Q_HK
      have HB:=zA Q_HB
      have HI0:=zA (Q_HI0_e4 (hon 4 (by kernel_rfl)) hb_)
      refine goes_ Try.func57 (by kernel_rfl) rfl #[.pointer (some ⟨g,0,none⟩),.int .i64 3] (by rfl) rfl rfl (by first|(simp only [zP,zS,zT,Act.eval,Array.getD_eq_getD_getElem?,Option.getD_some,e16];done)|(simp only [zP,zS,zT,Act.eval,Array.getD_eq_getD_getElem?,Option.getD_some,e16];rfl)) ?_
      with_reducible refine (spec_l6Rd_pick.calls k g s0_0 t508 3 t510 t511 w0 _ ?side1 ?side2 A8.out).mono ?_
      (case side1=>repeat (first|(with_reducible first|exact HI0.out|apply IsS68.alloc|apply IsS68.drewN|apply IsS68.drew|apply IsS68.set_1)|exact HI0.out))
      (case side2=>repeat (first|(with_reducible first|exact HB.out|apply zD|apply zB|apply zC|refine zI ?_ (IsS68.ge HI0.out))|exact HB.out))
      rintro e w13 ⟨rfl,hi,hb,hk⟩
      refine ⟨_,rfl,?_⟩
      have n0_:=zA (KeepBut.trans (by repeat (first|(with_reducible first|exact HK.out|apply KeepBut.set_|apply keep_drewN|apply keep_drew|apply keep_alloc)|exact HK.out)) hk (.inl rfl))
      have n1_:=zA (hb)
      have n2_:=zA (hi)
      have z_HO506:=fun (h0_:b 2 = true)=>(show Kd.R (Kd.int .i64) 3 w13 w.heap.size (fun _=>True) v505 y504 from by first|exact (ze (Kd.R_keep (IsS68.apart (show IsS68 w0 _ g s0_0 t508 from by repeat (first|(with_reducible first|exact HI0.out|apply IsS68.alloc|apply IsS68.drewN|apply IsS68.drew|apply IsS68.set_1)|exact HI0.out)) (by (with_reducible repeat (first|apply zK|apply zJ|apply zL));exact (Q_HO506 h0_)) (by decide)) hk (fun _ h=>h.2)) (fun _ h=>h.1))|exact ze (ze (Kd.R_keep (IsS68.apart (show IsS68 w0 _ g s0_0 t508 from by repeat (first|(with_reducible first|exact HI0.out|apply IsS68.alloc|apply IsS68.drewN|apply IsS68.drew|apply IsS68.set_1)|exact HI0.out)) (by (with_reducible repeat (first|apply zK|apply zJ|apply zL));exact (Q_HO506 h0_)) (by decide)) hk (fun _ h=>h.2)) (fun _ h=>h.1)) (fun _ h_=>by first|trivial|exact h_|exact h_.1))
      clear HK
      clear HB
      clear HI0
      have HK:=n0_
      have HB:=n1_
      have HI0:=n2_
      clear n0_ n1_ n2_
      (try clear hb)
      (try clear hb2)
      (try clear hk)
      (try clear hi)
      refine hK.out _ _ ⟨v505,adz_v505,m5_,(by rw [ha.out];exact putSel_upk 5 hb_ rfl rfl rfl),fun h0_=>absurd ((hon 4 (by kernel_rfl)).symm.trans h0_) (by decide),(by repeat (first|(with_reducible first|exact HK.out|apply KeepBut.set_|apply keep_drewN|apply keep_drew|apply keep_alloc)|exact HK.out)),(by repeat (first|(with_reducible first|exact HB.out|apply zD|apply zB|apply zC|refine zI ?_ (IsS68.ge HI0.out))|exact HB.out)),z_HO506,Q_HA_HO506,fun _ h1_=>absurd ((up_self b 8).symm.trans h1_) (by decide),fun _=>(by repeat (first|(with_reducible first|exact HI0.out|apply IsS68.alloc|apply IsS68.drewN|apply IsS68.drew|apply IsS68.set_1)|exact HI0.out)),Q_X5_⟩
     refine steps_cons ?_ ?_
     ·rintro b a w' ⟨v505,adz_v505,m5_,ha,Q_HI0,Q_HK,Q_HB,Q_HO506,Q_HA_HO506,Q_HI0_e4,Q_HI0_e8,Q_X5_⟩ hb_ hon hoff
      refine ⟨_,rfl,fun K hK=>?_⟩
      have e17:a.tmps[17]? = some (.int .i64 t510):=by rw [ha];exact putSel_on (e:=(8,17,.int .i64 t510)) 5 rfl rfl (hon 8 (by kernel_rfl)) rfl
      replace ha:=zA ha
      have HK:=zA Q_HK
      have HB:=zA Q_HB
      have HI0:=zA (Q_HI0_e8 (hon 8 (by kernel_rfl)))
      refine value_ (w1:=w') (v:=.int .i64 (wrap64 (t510 - 1))) (by rfl) rfl ?_ ?_
      ·go_simp
       (try simp only [i64_w])
       try rfl
      refine hK.out _ _ ⟨v505,adz_v505,m5_,(by rw [ha.out];exact putSel_upk 6 hb_ rfl rfl rfl),fun h0_=>absurd ((hon 4 (by kernel_rfl)).symm.trans h0_) (by decide),Q_HK,Q_HB,Q_HO506,Q_HA_HO506,fun _ h1_=>absurd ((hon 8 (by kernel_rfl)).symm.trans h1_) (by decide),Q_HI0_e8,Q_X5_⟩
     refine steps_cons ?_ ?_
     ·rintro b a w' ⟨v505,adz_v505,m5_,ha,Q_HI0,Q_HK,Q_HB,Q_HO506,Q_HA_HO506,Q_HI0_e4,Q_HI0_e8,Q_X5_⟩ hb_ hon hoff
      refine ⟨_,rfl,fun K hK=>?_⟩
      have e15:a.tmps[15]? = some (.int .i64 (rd y504 t507)):=by rw [ha];exact putSel_on (e:=(6,15,.int .i64 (rd y504 t507))) 4 rfl rfl (hon 6 (by kernel_rfl)) rfl
      replace ha:=zA ha
      have HK:=zA Q_HK
      have HB:=zA Q_HB
      have HO506:=zA (Q_HO506 (hon 2 (by kernel_rfl)))
      have HA_HO506:=zA (Q_HA_HO506 (hon 2 (by kernel_rfl)))
      have HI0:=zA (Q_HI0_e8 (hon 8 (by kernel_rfl)))
      refine value_ (w1:=w') (v:=.int .i64 (rd y504 t507)) (by rfl) rfl ?_ ?_
      ·go_simp
       (try simp only [i64_w])
       try rfl
      refine hK.out _ _ ⟨v505,adz_v505,m5_,(by rw [ha.out];exact putSel_upk 7 hb_ rfl rfl rfl),fun h0_=>absurd ((hon 4 (by kernel_rfl)).symm.trans h0_) (by decide),Q_HK,Q_HB,Q_HO506,Q_HA_HO506,fun _ h1_=>absurd ((hon 8 (by kernel_rfl)).symm.trans h1_) (by decide),Q_HI0_e8,Q_X5_⟩
     refine steps_cons ?_ ?_
     ·rintro b a w' ⟨v505,adz_v505,m5_,ha,Q_HI0,Q_HK,Q_HB,Q_HO506,Q_HA_HO506,Q_HI0_e4,Q_HI0_e8,Q_X5_⟩ hb_ hon hoff
      refine ⟨_,rfl,fun K hK=>?_⟩
      have e18:a.tmps[18]? = some (.int .i64 (wrap64 (t510 - 1))):=by rw [ha];exact putSel_on (e:=(9,18,.int .i64 (wrap64 (t510 - 1)))) 6 rfl rfl (hon 9 (by kernel_rfl)) rfl
      replace ha:=zA ha
      have HK:=zA Q_HK
      have HB:=zA Q_HB
      have HO506:=zA (Q_HO506 (hon 2 (by kernel_rfl)))
      have HA_HO506:=zA (Q_HA_HO506 (hon 2 (by kernel_rfl)))
      have HI0:=zA (Q_HI0_e8 (hon 8 (by kernel_rfl)))
      refine value_ (w1:=w') (v:=.int .i64 (wrap64 (t510 - 1))) (by rfl) rfl ?_ ?_
      ·go_simp
       (try simp only [i64_w])
       try rfl
      refine hK.out _ _ ⟨v505,adz_v505,m5_,(by rw [ha.out];exact putSel_upk 8 hb_ rfl rfl rfl),fun h0_=>absurd ((hon 4 (by kernel_rfl)).symm.trans h0_) (by decide),Q_HK,Q_HB,Q_HO506,Q_HA_HO506,fun _ h1_=>absurd ((hon 8 (by kernel_rfl)).symm.trans h1_) (by decide),Q_HI0_e8,Q_X5_⟩
     exact steps_nil
    rintro b a w16 hall ⟨v505,adz_v505,m5_,ha,Q_HI0,Q_HK,Q_HB,Q_HO506,Q_HA_HO506,Q_HI0_e4,Q_HI0_e8,Q_X5_⟩
    clear HB HI0 HK
    have hb1_:=hall 1 (by kernel_rfl)
    have hb2_:=hall 2 (by kernel_rfl)
    have hb4_:=hall 4 (by kernel_rfl)
    have hb5_:=hall 5 (by kernel_rfl)
    have hb6_:=hall 6 (by kernel_rfl)
    have hb8_:=hall 8 (by kernel_rfl)
    have hb9_:=hall 9 (by kernel_rfl)
    have hb10_:=hall 10 (by kernel_rfl)
    have hb11_:=hall 11 (by kernel_rfl)
    subst ha
    obtain rfl:=Q_X5_ hb5_
    simp only [putSel,hb1_,hb2_,hb4_,hb5_,hb6_,hb8_,hb9_,hb10_,hb11_,if_true,Act.put,zE,zG,zH]
    clear Q_HI0
    have HK:=zA Q_HK
    clear Q_HK
    have HB:=zA Q_HB
    clear Q_HB
    have HO506:=zA (Q_HO506 hb2_)
    clear Q_HO506
    have HA_HO506:=zA (Q_HA_HO506 hb2_)
    clear Q_HA_HO506
    clear Q_HI0_e4
    have HI0:=zA (Q_HI0_e8 hb8_)
    clear Q_HI0_e8
    clear hall hb1_ hb2_ hb4_ hb5_ hb6_ hb8_ hb9_ hb10_ hb11_
    obtain ⟨co17,eo17⟩:=HA_HO506.out
    clear HA_HO506
    subst eo17
    try go_wp2
    go_ret2
    exact ⟨by first|rfl|(simp [errW_none,errW_some] <;> rfl)|(simp [*,errW_none,errW_some] <;> rfl),by repeat (first|(with_reducible first|exact HI0.out|apply IsS68.alloc|apply IsS68.drewN|apply IsS68.drew|apply IsS68.set_1)|exact HI0.out),by repeat (first|(with_reducible first|exact HB.out|apply zD|apply zB|apply zC|refine zI ?_ (IsS68.ge HI0.out))|exact HB.out),by repeat (first|(with_reducible first|exact HK.out|apply KeepBut.set_|apply keep_drewN|apply keep_drew|apply keep_alloc)|exact HK.out)⟩
   ·rw [if_neg c7] at H
    exact absurd H (by simp)
  ·rw [if_neg c6] at H
   exact absurd H (by simp)
 ·rw [if_neg c4] at H
  have c4b0:(t502 == 0) = false:=beq_eq_false_iff_ne.mpr c4
  have c4b1:(t502 != 0) = true:=bne_iff_ne.mpr c4
  replace H:=zz0 H
  obtain ⟨⟨t512,t513⟩,A180,H⟩:=H
  replace H:((spec_l6Rd_pick.f k s0_0 t513 3).bind fun bt514=>(some (wrap64 (1+t512),bt514.1,bt514.2))) = some (r1,r2,r3):=H
  have A18:=zA A180
  clear A180
  replace H:=zz0 H
  obtain ⟨⟨t514,t515⟩,A190,H⟩:=H
  replace H:(some (wrap64 (1+t512),t514,t515)) = some (r1,r2,r3):=H
  have A19:=zA A190
  clear A190
  simp only [Option.some.injEq,Prod.mk.injEq] at H
  obtain ⟨rfl,rfl,rfl⟩:=H
  go_enter Try.func43,Try.ntmps43
  go_wp2_with (first|((with_reducible refine gate_callee (f:=57) rfl ?_);refine goesL_ (some 7) rfl rfl Try.func57 (by kernel_rfl) rfl #[.pointer (some ⟨g,0,none⟩),.int .i64 16] rfl (by (try simp only [zP,zS,zT]);first|done|rfl|(simp only [zR,zQ];rfl)) ?_;(with_reducible refine (spec_l6Rd_pick.calls k g s0_0 s0_1 16 t502 t503 w0 _ ?side1 ?side2 A3.out).mono ?_);(case side1=>repeat (first|(with_reducible first|exact HI0.out|apply IsS68.alloc|apply IsS68.drewN|apply IsS68.drew|apply IsS68.set_1)|exact HI0.out));(case side2=>repeat (first|(with_reducible first|exact HB.out|apply zD|apply zB|apply zC|refine zI ?_ (IsS68.ge HI0.out))|exact HB.out));rintro e w20 ⟨rfl,hi,hb,hk⟩;refine ⟨_,rfl,?_⟩;have n0_:=zA (KeepBut.trans (by repeat (first|(with_reducible first|exact HK.out|apply KeepBut.set_|apply keep_drewN|apply keep_drew|apply keep_alloc)|exact HK.out)) hk (.inl rfl));have n1_:=zA (hb);have n2_:=zA (hi);clear HK;clear HB;clear HI0;have HK:=n0_;have HB:=n1_;have HI0:=n2_;clear n0_ n1_ n2_;(try clear hb);(try clear hb2);(try clear hk);(try clear hi))|((with_reducible refine gate_callee (f:=57) rfl ?_);refine goesL_ (some 21) rfl rfl Try.func57 (by kernel_rfl) rfl #[.pointer (some ⟨g,0,none⟩),.int .i64 a1] rfl (by (try simp only [zP,zS,zT]);first|done|rfl|(simp only [zR,zQ];rfl)) ?_;(with_reducible refine (spec_l6Rd_pick.calls k g s0_0 t503 a1 t512 t513 w0 _ ?side1 ?side2 A18.out).mono ?_);(case side1=>repeat (first|(with_reducible first|exact HI0.out|apply IsS68.alloc|apply IsS68.drewN|apply IsS68.drew|apply IsS68.set_1)|exact HI0.out));(case side2=>repeat (first|(with_reducible first|exact HB.out|apply zD|apply zB|apply zC|refine zI ?_ (IsS68.ge HI0.out))|exact HB.out));rintro e w21 ⟨rfl,hi,hb,hk⟩;refine ⟨_,rfl,?_⟩;have n0_:=zA (KeepBut.trans (by repeat (first|(with_reducible first|exact HK.out|apply KeepBut.set_|apply keep_drewN|apply keep_drew|apply keep_alloc)|exact HK.out)) hk (.inl rfl));have n1_:=zA (hb);have n2_:=zA (hi);clear HK;clear HB;clear HI0;have HK:=n0_;have HB:=n1_;have HI0:=n2_;clear n0_ n1_ n2_;(try clear hb);(try clear hb2);(try clear hk);(try clear hi))|((with_reducible refine gate_callee (f:=57) rfl ?_);refine goesL_ (some 24) rfl rfl Try.func57 (by kernel_rfl) rfl #[.pointer (some ⟨g,0,none⟩),.int .i64 3] rfl (by (try simp only [zP,zS,zT]);first|done|rfl|(simp only [zR,zQ];rfl)) ?_;(with_reducible refine (spec_l6Rd_pick.calls k g s0_0 t513 3 t514 t515 w0 _ ?side1 ?side2 A19.out).mono ?_);(case side1=>repeat (first|(with_reducible first|exact HI0.out|apply IsS68.alloc|apply IsS68.drewN|apply IsS68.drew|apply IsS68.set_1)|exact HI0.out));(case side2=>repeat (first|(with_reducible first|exact HB.out|apply zD|apply zB|apply zC|refine zI ?_ (IsS68.ge HI0.out))|exact HB.out));rintro e w22 ⟨rfl,hi,hb,hk⟩;refine ⟨_,rfl,?_⟩;have n0_:=zA (KeepBut.trans (by repeat (first|(with_reducible first|exact HK.out|apply KeepBut.set_|apply keep_drewN|apply keep_drew|apply keep_alloc)|exact HK.out)) hk (.inl rfl));have n1_:=zA (hb);have n2_:=zA (hi);clear HK;clear HB;clear HI0;have HK:=n0_;have HB:=n1_;have HI0:=n2_;clear n0_ n1_ n2_;(try clear hb);(try clear hb2);(try clear hk);(try clear hi)))
  go_ret2
  exact ⟨by first|rfl|(simp [errW_none,errW_some] <;> rfl)|(simp [*,errW_none,errW_some] <;> rfl),by repeat (first|(with_reducible first|exact HI0.out|apply IsS68.alloc|apply IsS68.drewN|apply IsS68.drew|apply IsS68.set_1)|exact HI0.out),by repeat (first|(with_reducible first|exact HB.out|apply zD|apply zB|apply zC|refine zI ?_ (IsS68.ge HI0.out))|exact HB.out),by repeat (first|(with_reducible first|exact HK.out|apply KeepBut.set_|apply keep_drewN|apply keep_drew|apply keep_alloc)|exact HK.out)⟩

/-! ### spec_l6Open: function 44 -/
def spec_l6Open.f (l0:List Int):Option (List Int × Int):=if (l0.length:Int) > 2000 then (if 2000≤(l0.length:Int) then (some (l0.take 2000,0)) else (none)) else (some (l0,0))
set_option maxHeartbeats 8000000 in
set_option maxRecDepth 100000 in
theorem spec_l6Open.calls (A0:Option Addr) (c0:Nat) (l0:List Int) (r1:List Int) (r2:Int) (w0 w:World) (hB:Below w0.heap.size w0 w) (hr0:Kd.C (Kd.int .u8) w0 A0 l0.length l0) (hc0:l0.length≤c0) (h:spec_l6Open.f l0 = some (r1,r2)) :
  Calls Try.prog 44 #[.slice A0 l0.length c0] w fun e w' => ∃ g_:Nat,e = .returned (.pointer (some ⟨g_,0,none⟩))∧IsS68 w0 w' g_ r1 r2∧Below w0.heap.size w0 w'∧Below w.heap.size w w':=by
 have hu68:=Try.underlying68
 have HR0:=zA hr0
 have HC0:=zA hc0
 clear hr0 hc0
 have HBW:=zA (Below.refl w.heap.size w)
 have HW0:=zA hB.size
 have HB:=zA hB
 clear hB
 have H:(if (l0.length:Int) > 2000 then (if 2000≤(l0.length:Int) then (some (l0.take 2000,0)) else (none)) else (some (l0,0))) = some (r1,r2):=h
 clear h
 by_cases c2:(l0.length:Int) > 2000
 ·rw [if_pos c2] at H
  have c2b0:decide (2000 < (l0.length:Int)) = true:=zU c2
  have c2b1:decide (2000 < l0.length) = true:=zU (by omega)
  clear c2
  by_cases c3:2000≤(l0.length:Int)
  ·rw [if_pos c3] at H
   have c3b0:=eq_true c3
   have c3b1:decide (2000≤(l0.length:Int)) = true:=zU c3
   clear c3
   simp only [Option.some.injEq,Prod.mk.injEq] at H
   obtain ⟨rfl,rfl⟩:=H
   obtain ⟨i04,hi04,_,hsz4,_⟩:=info_parts info5
   obtain ⟨hcut4,hA4,hC4⟩:=print_take_of (P:=Try.prog) (Value.int .u8) 0 22 5 .i64 Try.underlying22 hi04 hsz4 A0 c0 l0 2000 (by omega) (zF (by first|(with_reducible assumption)|assumption)) HC0.out
   have HR516:=zA (Kd.C_of_reads (h1:=fun _=>rfl) (hA4 _ (Kd.reads_of_C HR0.out)))
   have HC516:=zA hC4
   clear hA4 hC4 hi04 hsz4
   go_enter Try.func44,Try.ntmps44
   go_wp2_with (first|((with_reducible refine gate_dst (N:=10) rfl ?_);refine box_event ?hg (N:=10) ?hd (cs:=#[.slice A0 (l0.take 2000).length c0,.int .i64 0]) (t:=68) ?hr ?_;(case hd=>rfl);(case hg=>rfl);(case hr=>first|(go_simp;done)|(go_simp;rfl));intro gb517 hg w5 hbox hb;have n0_:=zA (za HBW.out hb);have n1_:=zA (za (by repeat (first|(with_reducible first|exact HB.out|apply zD|apply zB|apply zC)|exact HB.out)) hb);have n2_:=zA (hbox);have n3_:=zA ((by rw [hg];exact (zZ (by repeat (first|(with_reducible first|exact HBW.out|apply zD|apply zB|apply zC)|exact HBW.out))):w.heap.size≤gb517));have n4_:=zA ((Nat.le_trans HW0.out (by rw [hg];exact (zZ (by repeat (first|(with_reducible first|exact HBW.out|apply zD|apply zB|apply zC)|exact HBW.out))):w.heap.size≤gb517):w0.heap.size≤gb517));clear HBW;clear HB;have HBW:=n0_;have HB:=n1_;have BK517:=n2_;have GW517:=n3_;have GE517:=n4_;clear n0_ n1_ n2_ n3_ n4_;clear hb hbox hg))
   go_ret
   exact ⟨_,rfl,(show IsS68 w0 _ gb517 (l0.take 2000) 0 from ⟨_,_,by (with_reducible repeat (first|refine zM ?_ _|refine zO ?_|refine zN ?_ _));exact BK517.out,GE517.out,HR516.out⟩),by repeat (first|(with_reducible first|exact HB.out|apply zD|apply zB|apply zC|refine zI ?_ GE517.out)|exact HB.out),by repeat (first|(with_reducible first|exact HBW.out|apply zD|apply zB|apply zC|refine zI ?_ GW517.out)|exact HBW.out)⟩
  ·rw [if_neg c3] at H
   exact absurd H (by simp)
 ·rw [if_neg c2] at H
  have c2b0:decide (2000 < (l0.length:Int)) = false:=zV c2
  have c2b1:decide (2000 < l0.length) = false:=zV (by omega)
  clear c2
  simp only [Option.some.injEq,Prod.mk.injEq] at H
  obtain ⟨rfl,rfl⟩:=H
  go_enter Try.func44,Try.ntmps44
  go_wp2_with (first|((with_reducible refine gate_dst (N:=10) rfl ?_);refine box_event ?hg (N:=10) ?hd (cs:=#[.slice A0 l0.length c0,.int .i64 0]) (t:=68) ?hr ?_;(case hd=>rfl);(case hg=>rfl);(case hr=>first|(go_simp;done)|(go_simp;rfl));intro gb518 hg w6 hbox hb;have n0_:=zA (za HBW.out hb);have n1_:=zA (za (by repeat (first|(with_reducible first|exact HB.out|apply zD|apply zB|apply zC)|exact HB.out)) hb);have n2_:=zA (hbox);have n3_:=zA ((by rw [hg];exact (zZ (by repeat (first|(with_reducible first|exact HBW.out|apply zD|apply zB|apply zC)|exact HBW.out))):w.heap.size≤gb518));have n4_:=zA ((Nat.le_trans HW0.out (by rw [hg];exact (zZ (by repeat (first|(with_reducible first|exact HBW.out|apply zD|apply zB|apply zC)|exact HBW.out))):w.heap.size≤gb518):w0.heap.size≤gb518));clear HBW;clear HB;have HBW:=n0_;have HB:=n1_;have BK518:=n2_;have GW518:=n3_;have GE518:=n4_;clear n0_ n1_ n2_ n3_ n4_;clear hb hbox hg))
  go_ret
  exact ⟨_,rfl,(show IsS68 w0 _ gb518 l0 0 from ⟨_,_,by (with_reducible repeat (first|refine zM ?_ _|refine zO ?_|refine zN ?_ _));exact BK518.out,GE518.out,HR0.out⟩),by repeat (first|(with_reducible first|exact HB.out|apply zD|apply zB|apply zC|refine zI ?_ GE518.out)|exact HB.out),by repeat (first|(with_reducible first|exact HBW.out|apply zD|apply zB|apply zC|refine zI ?_ GW518.out)|exact HBW.out)⟩

/-! ### spec_DrawRootedCount: function 31 -/
def spec_DrawRootedCount.f (k:Nat) (l0:List Int):Option (Int × Int):=(spec_l6Open.f l0).bind fun bt519=>((spec_l6Rd_pick.f k bt519.1 bt519.2 6).bind fun bt522=>(if bt522.1 = 0 then ((spec_l91Edges.f k bt519.1 bt522.2 3).bind fun bt524=>(some (bt524.1,bt524.2.1))) else ((spec_l91Edges.f k bt519.1 bt522.2 2).bind fun bt527=>(some (bt527.1,bt527.2.1)))))
theorem spec_DrawRootedCount.mono:∀ a0 k,LeO (spec_DrawRootedCount.f k a0) (spec_DrawRootedCount.f (k+1) a0):=by
 intro a0 k
 unfold spec_DrawRootedCount.f
 repeat' first
   | (with_reducible exact spec_l6Rd_pick.mono _ _ _ _)
   | (with_reducible exact spec_l91Edges.mono _ _ _ _)
   | (with_reducible exact LeO.refl _)
   | (with_reducible exact zm _)
   | (with_reducible refine zo ?_ ?_)
   | (with_reducible refine zn ?_ (fun _=>?_))
   | exact spec_l6Rd_pick.mono _ _ _ _
   | exact spec_l91Edges.mono _ _ _ _
   | exact zm _
   | refine zo ?_ ?_
   | refine zn ?_ (fun _=>?_)
set_option maxHeartbeats 8000000 in
set_option maxRecDepth 100000 in
theorem spec_DrawRootedCount.calls (k:Nat) (A0:Option Addr) (c0:Nat) (l0:List Int) (r1:Int) (r2:Int) (w:World) (hr0:Kd.C (Kd.int .u8) w A0 l0.length l0) (hc0:l0.length≤c0) (h:spec_DrawRootedCount.f k l0 = some (r1,r2)) :
  Calls Try.prog 31 #[.slice A0 l0.length c0] w fun e w'=>e = .returned (.tuple #[.int .i64 r1,.int .i64 r2])∧Below w.heap.size w w':=by
 have HR0:=zA hr0
 have HC0:=zA hc0
 clear hr0 hc0
 have HB:=zA (Below.refl w.heap.size w)
 have H:((spec_l6Open.f l0).bind fun bt519=>((spec_l6Rd_pick.f k bt519.1 bt519.2 6).bind fun bt522=>(if bt522.1 = 0 then ((spec_l91Edges.f k bt519.1 bt522.2 3).bind fun bt524=>(some (bt524.1,bt524.2.1))) else ((spec_l91Edges.f k bt519.1 bt522.2 2).bind fun bt527=>(some (bt527.1,bt527.2.1)))))) = some (r1,r2):=h
 clear h
 replace H:=zz0 H
 obtain ⟨⟨t519,t520⟩,A20,H⟩:=H
 replace H:((spec_l6Rd_pick.f k t519 t520 6).bind fun bt522=>(if bt522.1 = 0 then ((spec_l91Edges.f k t519 bt522.2 3).bind fun bt524=>(some (bt524.1,bt524.2.1))) else ((spec_l91Edges.f k t519 bt522.2 2).bind fun bt527=>(some (bt527.1,bt527.2.1))))) = some (r1,r2):=H
 have A2:=zA A20
 clear A20
 replace H:=zz0 H
 obtain ⟨⟨t522,t523⟩,A30,H⟩:=H
 replace H:(if t522 = 0 then ((spec_l91Edges.f k t519 t523 3).bind fun bt524=>(some (bt524.1,bt524.2.1))) else ((spec_l91Edges.f k t519 t523 2).bind fun bt527=>(some (bt527.1,bt527.2.1)))) = some (r1,r2):=H
 have A3:=zA A30
 clear A30
 by_cases c4:t522 = 0
 ·rw [if_pos c4] at H
  have c4b0:(t522 == 0) = true:=beq_iff_eq.mpr c4
  have c4b1:(t522 != 0) = false:=bne_eq_false_iff_eq.mpr c4
  clear c4
  replace H:=zz0 H
  obtain ⟨⟨t524,t525,t526⟩,A50,H⟩:=H
  replace H:(some (t524,t525)) = some (r1,r2):=H
  have A5:=zA A50
  clear A50
  simp only [Option.some.injEq,Prod.mk.injEq] at H
  obtain ⟨rfl,rfl⟩:=H
  go_enter Try.func31,Try.ntmps31
  go_wp2_with (first|((with_reducible refine gate_callee (f:=44) rfl ?_);refine goesL_ (some 6) rfl rfl Try.func44 (by kernel_rfl) rfl #[.slice A0 l0.length c0] rfl (by (try simp only [zP,zS,zT]);first|done|rfl|(simp only [zR,zQ];rfl)) ?_;(with_reducible refine (spec_l6Open.calls _ _ l0 t519 t520 w _ ?side1 ?side2 ?side3 A2.out).mono ?_);(case side1=>repeat (first|(with_reducible first|exact HB.out|apply zD|apply zB|apply zC)|exact HB.out));(case side2=>exact HR0.out);(case side3=>exact HC0.out);rintro e w6 ⟨g521,rfl,hi,hb,hb2⟩;refine ⟨_,rfl,?_⟩;have n0_:=zA (hb);have n1_:=zA (hi);clear HB;have HB:=n0_;have HI521:=n1_;clear n0_ n1_;(try clear hb);(try clear hb2);(try clear hk);(try clear hi))|((with_reducible refine gate_callee (f:=57) rfl ?_);refine goesL_ (some 8) rfl rfl Try.func57 (by kernel_rfl) rfl #[.pointer (some ⟨g521,0,none⟩),.int .i64 6] rfl (by (try simp only [zP,zS,zT]);first|done|rfl|(simp only [zR,zQ];rfl)) ?_;(with_reducible refine (spec_l6Rd_pick.calls k g521 t519 t520 6 t522 t523 w _ ?side1 ?side2 A3.out).mono ?_);(case side1=>repeat (first|(with_reducible first|exact HI521.out|apply IsS68.alloc|apply IsS68.drewN|apply IsS68.drew|apply IsS68.set_1)|exact HI521.out));(case side2=>repeat (first|(with_reducible first|exact HB.out|apply zD|apply zB|apply zC|refine zI ?_ (IsS68.ge HI521.out))|exact HB.out));rintro e w7 ⟨rfl,hi,hb,hk⟩;refine ⟨_,rfl,?_⟩;have n0_:=zA (hb);have n1_:=zA (hi);clear HB;clear HI521;have HB:=n0_;have HI521:=n1_;clear n0_ n1_;(try clear hb);(try clear hb2);(try clear hk);(try clear hi))|((with_reducible refine gate_callee (f:=43) rfl ?_);refine goesL_ (some 11) rfl rfl Try.func43 (by kernel_rfl) rfl #[.pointer (some ⟨g521,0,none⟩),.int .i64 3] rfl (by (try simp only [zP,zS,zT]);first|done|rfl|(simp only [zR,zQ];rfl)) ?_;(with_reducible refine (spec_l91Edges.calls k g521 t519 t523 3 t524 t525 t526 w _ ?side1 ?side2 A5.out).mono ?_);(case side1=>repeat (first|(with_reducible first|exact HI521.out|apply IsS68.alloc|apply IsS68.drewN|apply IsS68.drew|apply IsS68.set_1)|exact HI521.out));(case side2=>repeat (first|(with_reducible first|exact HB.out|apply zD|apply zB|apply zC|refine zI ?_ (IsS68.ge HI521.out))|exact HB.out));rintro e w8 ⟨rfl,hi,hb,hk⟩;refine ⟨_,rfl,?_⟩;have n0_:=zA (hb);have n1_:=zA (hi);clear HB;clear HI521;have HB:=n0_;have HI521:=n1_;clear n0_ n1_;(try clear hb);(try clear hb2);(try clear hk);(try clear hi)))
  go_ret2
  exact ⟨by first|rfl|(simp [errW_none,errW_some] <;> rfl)|(simp [*,errW_none,errW_some] <;> rfl),by repeat (first|(with_reducible first|exact HB.out|apply zD|apply zB|apply zC|refine zI ?_ (IsS68.ge HI521.out))|exact HB.out)⟩
 ·rw [if_neg c4] at H
  have c4b0:(t522 == 0) = false:=beq_eq_false_iff_ne.mpr c4
  have c4b1:(t522 != 0) = true:=bne_iff_ne.mpr c4
  replace H:=zz0 H
  obtain ⟨⟨t527,t528,t529⟩,A90,H⟩:=H
  replace H:(some (t527,t528)) = some (r1,r2):=H
  have A9:=zA A90
  clear A90
  simp only [Option.some.injEq,Prod.mk.injEq] at H
  obtain ⟨rfl,rfl⟩:=H
  go_enter Try.func31,Try.ntmps31
  go_wp2_with (first|((with_reducible refine gate_callee (f:=44) rfl ?_);refine goesL_ (some 6) rfl rfl Try.func44 (by kernel_rfl) rfl #[.slice A0 l0.length c0] rfl (by (try simp only [zP,zS,zT]);first|done|rfl|(simp only [zR,zQ];rfl)) ?_;(with_reducible refine (spec_l6Open.calls _ _ l0 t519 t520 w _ ?side1 ?side2 ?side3 A2.out).mono ?_);(case side1=>repeat (first|(with_reducible first|exact HB.out|apply zD|apply zB|apply zC)|exact HB.out));(case side2=>exact HR0.out);(case side3=>exact HC0.out);rintro e w10 ⟨g521,rfl,hi,hb,hb2⟩;refine ⟨_,rfl,?_⟩;have n0_:=zA (hb);have n1_:=zA (hi);clear HB;have HB:=n0_;have HI521:=n1_;clear n0_ n1_;(try clear hb);(try clear hb2);(try clear hk);(try clear hi))|((with_reducible refine gate_callee (f:=57) rfl ?_);refine goesL_ (some 8) rfl rfl Try.func57 (by kernel_rfl) rfl #[.pointer (some ⟨g521,0,none⟩),.int .i64 6] rfl (by (try simp only [zP,zS,zT]);first|done|rfl|(simp only [zR,zQ];rfl)) ?_;(with_reducible refine (spec_l6Rd_pick.calls k g521 t519 t520 6 t522 t523 w _ ?side1 ?side2 A3.out).mono ?_);(case side1=>repeat (first|(with_reducible first|exact HI521.out|apply IsS68.alloc|apply IsS68.drewN|apply IsS68.drew|apply IsS68.set_1)|exact HI521.out));(case side2=>repeat (first|(with_reducible first|exact HB.out|apply zD|apply zB|apply zC|refine zI ?_ (IsS68.ge HI521.out))|exact HB.out));rintro e w11 ⟨rfl,hi,hb,hk⟩;refine ⟨_,rfl,?_⟩;have n0_:=zA (hb);have n1_:=zA (hi);clear HB;clear HI521;have HB:=n0_;have HI521:=n1_;clear n0_ n1_;(try clear hb);(try clear hb2);(try clear hk);(try clear hi))|((with_reducible refine gate_callee (f:=43) rfl ?_);refine goesL_ (some 15) rfl rfl Try.func43 (by kernel_rfl) rfl #[.pointer (some ⟨g521,0,none⟩),.int .i64 2] rfl (by (try simp only [zP,zS,zT]);first|done|rfl|(simp only [zR,zQ];rfl)) ?_;(with_reducible refine (spec_l91Edges.calls k g521 t519 t523 2 t527 t528 t529 w _ ?side1 ?side2 A9.out).mono ?_);(case side1=>repeat (first|(with_reducible first|exact HI521.out|apply IsS68.alloc|apply IsS68.drewN|apply IsS68.drew|apply IsS68.set_1)|exact HI521.out));(case side2=>repeat (first|(with_reducible first|exact HB.out|apply zD|apply zB|apply zC|refine zI ?_ (IsS68.ge HI521.out))|exact HB.out));rintro e w12 ⟨rfl,hi,hb,hk⟩;refine ⟨_,rfl,?_⟩;have n0_:=zA (hb);have n1_:=zA (hi);clear HB;clear HI521;have HB:=n0_;have HI521:=n1_;clear n0_ n1_;(try clear hb);(try clear hb2);(try clear hk);(try clear hi)))
  go_ret2
  exact ⟨by first|rfl|(simp [errW_none,errW_some] <;> rfl)|(simp [*,errW_none,errW_some] <;> rfl),by repeat (first|(with_reducible first|exact HB.out|apply zD|apply zB|apply zC|refine zI ?_ (IsS68.ge HI521.out))|exact HB.out)⟩

end Go.Proofs.Ytdaiohcgdpclnaa.Q
