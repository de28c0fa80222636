import Derived.Test.YtonlecigglbohaaQ0
import Derived.Test.YtonlecigglbohaaZ
import Derived.Lib.Hide
import Derived.WalkSpells
namespace Go.Proofs.Ytonlecigglbohaa.Q
open Go.RowKit Go.Proofs.YtonlecigglbohaaW.PrintWords Go.Proofs.YtonlecigglbohaaW.PrintLast Go.Proofs.YtonlecigglbohaaW.PrintMore
attribute [local go_sem] max2_int min2_int max_two min_two max_three min_three max_four min_four   -- for this text's walks alone
set_option linter.unusedVariables false
set_option linter.unusedSimpArgs false

/-! ### impl_GluingValid: function 79 -/
mutual
def impl_GluingValid.j0:Nat→List Int→Bool→Option (Bool)
 | 0,_,_=>none
 | k+1,x0,x18=>if x18 = true then (some false) else (impl_GluingValid.l0 k x0 x0 (x0.length:Int) 0)
def impl_GluingValid.l0:Nat→List Int→List Int→Int→Int→Option (Bool)
 | 0,_,_,_,_=>none
 | k+1,x0,x19,x20,x21=>if x21 < x20 then (if 0≤x21 then (if x21 < (x19.length:Int) then (if (rd x19 x21) < 0 then (some false) else (if (rd x19 x21) ≥ (x0.length:Int) then (some false) else (if (rd x19 x21) = x21 then (some false) else (if 0≤(rd x19 x21) then (if (rd x19 x21) < (x0.length:Int) then (if (rd x0 (rd x19 x21)) = x21 then (impl_GluingValid.l0 k x0 x19 x20 (wrap64 (x21+1))) else (some false)) else (none)) else (none))))) else (none)) else (none)) else (some true)
end
def impl_GluingValid.f (k:Nat) (l0:List Int):Option (Bool):=if (l0.length:Int) < 2 then (impl_GluingValid.j0 k l0 true) else (if (l0.length:Int) > 10 then (impl_GluingValid.j0 k l0 true) else (impl_GluingValid.j0 k l0 (((l0.length:Int) % 2) != 0)))
theorem impl_GluingValid.mono_l:∀ k,(∀ y0 y1,LeO (impl_GluingValid.j0 k y0 y1) (impl_GluingValid.j0 (k+1) y0 y1))∧(∀ y0 y1 y2 y3,LeO (impl_GluingValid.l0 k y0 y1 y2 y3) (impl_GluingValid.l0 (k+1) y0 y1 y2 y3))
 | 0=>⟨fun _ _ r h=>by simp [impl_GluingValid.j0] at h,fun _ _ _ _ r h=>by simp [impl_GluingValid.l0] at h⟩
 | k+1=>by
  obtain ⟨ih0,ih1⟩:=impl_GluingValid.mono_l k
  refine ⟨?_,?_⟩
  ·intro y0 y1
   unfold impl_GluingValid.j0
   repeat' first
   | (with_reducible exact ih0 _ _)
   | (with_reducible exact ih1 _ _ _ _)
   | (with_reducible exact LeO.refl _)
   | (with_reducible exact za _)
   | (with_reducible refine zc ?_ ?_)
   | (with_reducible refine zb ?_ (fun _=>?_))
  ·intro y0 y1 y2 y3
   unfold impl_GluingValid.l0
   repeat' first
   | (with_reducible exact ih0 _ _)
   | (with_reducible exact ih1 _ _ _ _)
   | (with_reducible exact LeO.refl _)
   | (with_reducible exact za _)
   | (with_reducible refine zc ?_ ?_)
   | (with_reducible refine zb ?_ (fun _=>?_))
theorem impl_GluingValid.mono:∀ a0 k,LeO (impl_GluingValid.f k a0) (impl_GluingValid.f (k+1) a0):=by
 intro a0 k
 obtain ⟨ih0,ih1⟩:=impl_GluingValid.mono_l k
 unfold impl_GluingValid.f
 repeat' first
   | (with_reducible exact ih0 _ _)
   | (with_reducible exact ih1 _ _ _ _)
   | (with_reducible exact LeO.refl _)
   | (with_reducible exact za _)
   | (with_reducible refine zc ?_ ?_)
   | (with_reducible refine zb ?_ (fun _=>?_))
set_option maxHeartbeats 8000000 in
set_option maxRecDepth 100000 in
theorem impl_GluingValid.calls (k:Nat) (A0:Option Addr) (c0:Nat) (l0:List Int) (r:Bool) (w:World) (hr0:Kd.C (Kd.int .i64) w A0 l0.length l0) (hc0:l0.length≤c0) (h:impl_GluingValid.f k l0 = some r) :
  Calls Try.prog 79 #[.slice A0 l0.length c0] w fun e w'=>e = .returned (.bool r)∧Drawn0 w w':=by
 have HR0:=zA hr0
 have HC0:=zA hc0
 clear hr0 hc0
 have H:(if (l0.length:Int) < 2 then (impl_GluingValid.j0 k l0 true) else (if (l0.length:Int) > 10 then (impl_GluingValid.j0 k l0 true) else (impl_GluingValid.j0 k l0 (((l0.length:Int) % 2) != 0)))) = some r:=h
 clear h
 have HC2:=zA H
 clear H
 go_enter Try.func79,Try.ntmps79
 go_upto_region 1 with (fail)
 go_cut [18] (fun v18 wc => ∃ (kq:Nat) (x18_1:Bool),v18 = .bool x18_1∧Aside0 (impl_GluingValid.j0 kq l0 x18_1 = some r)∧Aside0 (kq≤k)∧Drawn0 w wc)
 case first =>
  have H:=HC2.out
  clear HC2
  by_cases c3:(l0.length:Int) < 2
  ·rw [if_pos c3] at H
   have c3b0:decide ((l0.length:Int) < 2) = true:=zO c3
   have c3b1:decide (l0.length < 2) = true:=zO (by omega)
   clear c3
   (first|rw [c3b0]|(simp only [i64_w,i32_w];rw [c3b0])|skip)
   have H':=zA H
   clear H
   go_wp2
   go_meet
   case rel=>exact ⟨_,(true),(by first|rfl|(simp;done)|(simp [*];done)),H',⟨by first|omega|exact Nat.le_refl _⟩,by repeat (first|exact Drawn0.refl _|apply Drawn0.step)⟩
  ·rw [if_neg c3] at H
   have c3b0:decide ((l0.length:Int) < 2) = false:=zP c3
   have c3b1:decide (l0.length < 2) = false:=zP (by omega)
   clear c3
   (first|rw [c3b0]|(simp only [i64_w,i32_w];rw [c3b0])|skip)
   by_cases c4:(l0.length:Int) > 10
   ·rw [if_pos c4] at H
    have c4b0:decide (10 < (l0.length:Int)) = true:=zO c4
    have c4b1:decide (10 < l0.length) = true:=zO (by omega)
    clear c4
    have H':=zA H
    clear H
    go_wp2
    go_meet
    case rel=>exact ⟨_,(true),(by first|rfl|(simp;done)|(simp [*];done)),H',⟨by first|omega|exact Nat.le_refl _⟩,by repeat (first|exact Drawn0.refl _|apply Drawn0.step)⟩
   ·rw [if_neg c4] at H
    have c4b0:decide (10 < (l0.length:Int)) = false:=zP c4
    have c4b1:decide (10 < l0.length) = false:=zP (by omega)
    clear c4
    have H':=zA H
    clear H
    go_wp2
    go_meet
    case rel=>exact ⟨_,((((l0.length:Int) % 2) != 0)),(by first|rfl|(simp;done)|(simp [*];done)),H',⟨by first|omega|exact Nat.le_refl _⟩,by repeat (first|exact Drawn0.refl _|apply Drawn0.step)⟩
 case rest =>
  clear HC2
  (try clear p2);(try clear c3);(try clear c3b0);(try clear c3b1);(try clear c4);(try clear c4b0);(try clear c4b1)
  obtain ⟨kq,x18_1,rfl,HA,HJ1,⟨mc1,rfl⟩⟩:=hcut
  cases kq with
  | zero=>exact absurd HA.out (by simp [impl_GluingValid.j0])
  | succ kj1 =>
   have H:=HA.out
   clear HA
   simp only [impl_GluingValid.j0] at H
   by_cases c5:x18_1 = true
   ·subst c5
    rw [if_pos rfl] at H;try dsimp only at H
    obtain rfl:=zS H
    go_wp2
    go_ret
    exact ⟨by first|rfl|(simp;done)|(simp [*];done),by repeat (first|exact Drawn0.refl _|apply Drawn0.step)⟩
   ·replace c5:=Bool.eq_false_iff.mpr c5
    subst c5
    have H1:(impl_GluingValid.l0 kj1 l0 l0 (l0.length:Int) 0) = some r:=by rw [if_neg (show ¬ (false = true) by decide)] at H;exact H
    clear H
    have H:=H1
    clear H1
    have H':=zA H
    clear H
    go_wp2
    go_loopg [21] kj1 (fun kq v21 w' => ∃ (x21_2:Int),v21 = .int .i64 x21_2∧Aside0 (impl_GluingValid.l0 kq l0 l0 (l0.length:Int) x21_2 = some r)∧Aside0 (kq≤kj1)∧Drawn0 w w')
    case atStart=>exact ⟨(0),(by first|rfl|(simp;done)|(simp [*];done)),H',⟨Nat.le_refl _⟩,by repeat (first|exact Drawn0.refl _|apply Drawn0.step)⟩
    case round =>
     clear H'
     (try clear c1);(try clear p2);(try clear c3);(try clear c3b0);(try clear c3b1);(try clear c4);(try clear c4b0);(try clear c4b1);(try clear c5);(try clear p2)
     obtain ⟨x21_2,rfl,HA,HK2,⟨m2,rfl⟩⟩:=hrel
     cases gk with
     | zero=>exact absurd HA.out (by simp [impl_GluingValid.l0])
     | succ k2 =>
      have H:=HA.out
      clear HA
      simp only [impl_GluingValid.l0] at H
      by_cases c6:x21_2 < (l0.length:Int)
      ·rw [if_pos c6] at H
       have c6b0:decide (x21_2 < (l0.length:Int)) = true:=zO c6
       clear c6
       by_cases c7:0≤x21_2
       ·rw [if_pos c7] at H
        have c7b0:decide (0≤x21_2) = true:=zO c7
        clear c7
        by_cases c8:x21_2 < (l0.length:Int)
        ·rw [if_pos c8] at H
         have c8b0:decide (x21_2 < (l0.length:Int)) = true:=zO c8
         clear c8
         by_cases c9:(rd l0 x21_2) < 0
         ·rw [if_pos c9] at H
          have c9b0:decide ((rd l0 x21_2) < 0) = true:=zO c9
          clear c9
          obtain rfl:=zS H
          have p101:0≤(x21_2:Int):=zE (by with_reducible assumption)
          have q101:x21_2 < (l0.length:Int):=zE (by with_reducible assumption)
          obtain ⟨ad101,e101,hx101_0⟩:=Kd.at_int HR0.out x21_2 p101 q101
          cases e101
          replace p101:=eq_true p101
          replace q101:=eq_true q101
          go_wp2
          go_ret
          exact ⟨by first|rfl|(simp;done)|(simp [*];done),by repeat (first|exact Drawn0.refl _|apply Drawn0.step)⟩
         ·rw [if_neg c9] at H
          have c9b0:decide ((rd l0 x21_2) < 0) = false:=zP c9
          clear c9
          by_cases c10:(rd l0 x21_2) ≥ (l0.length:Int)
          ·rw [if_pos c10] at H
           have c10b0:decide ((l0.length:Int)≤(rd l0 x21_2)) = true:=zO c10
           clear c10
           obtain rfl:=zS H
           have p101:0≤(x21_2:Int):=zE (by with_reducible assumption)
           have q101:x21_2 < (l0.length:Int):=zE (by with_reducible assumption)
           obtain ⟨ad101,e101,hx101_0⟩:=Kd.at_int HR0.out x21_2 p101 q101
           cases e101
           replace p101:=eq_true p101
           replace q101:=eq_true q101
           go_wp2
           go_ret
           exact ⟨by first|rfl|(simp;done)|(simp [*];done),by repeat (first|exact Drawn0.refl _|apply Drawn0.step)⟩
          ·rw [if_neg c10] at H
           have c10b0:decide ((l0.length:Int)≤(rd l0 x21_2)) = false:=zP c10
           clear c10
           by_cases c11:(rd l0 x21_2) = x21_2
           ·rw [if_pos c11] at H
            have c11b0:((rd l0 x21_2) == x21_2) = true:=beq_iff_eq.mpr c11
            have c11b1:((rd l0 x21_2) != x21_2) = false:=bne_eq_false_iff_eq.mpr c11
            clear c11
            obtain rfl:=zS H
            have p101:0≤(x21_2:Int):=zE (by with_reducible assumption)
            have q101:x21_2 < (l0.length:Int):=zE (by with_reducible assumption)
            obtain ⟨ad101,e101,hx101_0⟩:=Kd.at_int HR0.out x21_2 p101 q101
            cases e101
            replace p101:=eq_true p101
            replace q101:=eq_true q101
            go_wp2
            go_ret
            exact ⟨by first|rfl|(simp;done)|(simp [*];done),by repeat (first|exact Drawn0.refl _|apply Drawn0.step)⟩
           ·rw [if_neg c11] at H
            have c11b0:((rd l0 x21_2) == x21_2) = false:=beq_eq_false_iff_ne.mpr c11
            have c11b1:((rd l0 x21_2) != x21_2) = true:=bne_iff_ne.mpr c11
            by_cases c12:0≤(rd l0 x21_2)
            ·rw [if_pos c12] at H
             have c12b0:decide (0≤(rd l0 x21_2)) = true:=zO c12
             clear c12
             by_cases c13:(rd l0 x21_2) < (l0.length:Int)
             ·rw [if_pos c13] at H
              have c13b0:decide ((rd l0 x21_2) < (l0.length:Int)) = true:=zO c13
              clear c13
              by_cases c14:(rd l0 (rd l0 x21_2)) = x21_2
              ·rw [if_pos c14] at H
               have c14b0:((rd l0 (rd l0 x21_2)) == x21_2) = true:=beq_iff_eq.mpr c14
               have c14b1:((rd l0 (rd l0 x21_2)) != x21_2) = false:=bne_eq_false_iff_eq.mpr c14
               clear c14
               have H':=zA H
               clear H
               have p101:0≤(x21_2:Int):=zE (by with_reducible assumption)
               have q101:x21_2 < (l0.length:Int):=zE (by with_reducible assumption)
               obtain ⟨ad101,e101,hx101_0⟩:=Kd.at_int HR0.out x21_2 p101 q101
               cases e101
               replace p101:=eq_true p101
               replace q101:=eq_true q101
               have p102:0≤((rd l0 x21_2):Int):=zE (by with_reducible assumption)
               have q102:(rd l0 x21_2) < (l0.length:Int):=zE (by with_reducible assumption)
               obtain ⟨ad102,e102,hx102_0⟩:=Kd.at_int HR0.out (rd l0 x21_2) p102 q102
               obtain rfl:ad101 = ad102:=(by injection e102)
               replace p102:=eq_true p102
               replace q102:=eq_true q102
               go_wp2
               go_roundg k2
               case measure=>have:=HJ1.out;have:=HK2.out;omega
               case rel=>exact ⟨(wrap64 (x21_2+1)),(by first|rfl|(simp;done)|(simp [*];done)),H',⟨by have:=HJ1.out;have:=HK2.out;omega⟩,by repeat (first|exact Drawn0.refl _|apply Drawn0.step)⟩
              ·rw [if_neg c14] at H
               have c14b0:((rd l0 (rd l0 x21_2)) == x21_2) = false:=beq_eq_false_iff_ne.mpr c14
               have c14b1:((rd l0 (rd l0 x21_2)) != x21_2) = true:=bne_iff_ne.mpr c14
               obtain rfl:=zS H
               have p101:0≤(x21_2:Int):=zE (by with_reducible assumption)
               have q101:x21_2 < (l0.length:Int):=zE (by with_reducible assumption)
               obtain ⟨ad101,e101,hx101_0⟩:=Kd.at_int HR0.out x21_2 p101 q101
               cases e101
               replace p101:=eq_true p101
               replace q101:=eq_true q101
               have p102:0≤((rd l0 x21_2):Int):=zE (by with_reducible assumption)
               have q102:(rd l0 x21_2) < (l0.length:Int):=zE (by with_reducible assumption)
               obtain ⟨ad102,e102,hx102_0⟩:=Kd.at_int HR0.out (rd l0 x21_2) p102 q102
               obtain rfl:ad101 = ad102:=(by injection e102)
               replace p102:=eq_true p102
               replace q102:=eq_true q102
               go_wp2
               go_ret
               exact ⟨by first|rfl|(simp;done)|(simp [*];done),by repeat (first|exact Drawn0.refl _|apply Drawn0.step)⟩
             ·rw [if_neg c13] at H
              exact absurd H (by simp)
            ·rw [if_neg c12] at H
             exact absurd H (by simp)
        ·rw [if_neg c8] at H
         exact absurd H (by simp)
       ·rw [if_neg c7] at H
        exact absurd H (by simp)
      ·rw [if_neg c6] at H
       have c6b0:decide (x21_2 < (l0.length:Int)) = false:=zP c6
       clear c6
       obtain rfl:=zS H
       go_wp2
       go_ret
       exact ⟨by first|rfl|(simp;done)|(simp [*];done),by repeat (first|exact Drawn0.refl _|apply Drawn0.step)⟩

/-! ### impl_turnOf: function 81 -/
def impl_turnOf.l0:Nat→List Int→List Int→List Int→Int→Int→Option (List Int)
 | 0,_,_,_,_,_=>none
 | k+1,x0,x3,x9,x10,x11=>if x11 < x10 then (if 0≤x11 then (if x11 < (x9.length:Int) then (if (x0.length:Int) = 0 then (none) else (if x11 < (x3.length:Int) then (impl_turnOf.l0 k x0 (x3.set (x11:Int).toNat (Int.tmod (wrap64 ((rd x9 x11)+1)) (x0.length:Int))) x9 x10 (wrap64 (x11+1))) else (none))) else (none)) else (none)) else (some x3)
def impl_turnOf.f (k:Nat) (l0:List Int):Option (List Int):=if 0≤(l0.length:Int) then (if ((l0.length:Int):Int).toNat≤35184372088832 then (impl_turnOf.l0 k l0 (List.replicate ((l0.length:Int):Int).toNat 0) l0 (l0.length:Int) 0) else (none)) else (none)
theorem impl_turnOf.mono_l:∀ k,(∀ y0 y1 y2 y3 y4,LeO (impl_turnOf.l0 k y0 y1 y2 y3 y4) (impl_turnOf.l0 (k+1) y0 y1 y2 y3 y4))
 | 0=>fun _ _ _ _ _ r h=>by simp [impl_turnOf.l0] at h
 | k+1=>by
  have ih0:=impl_turnOf.mono_l k
  ·intro y0 y1 y2 y3 y4
   unfold impl_turnOf.l0
   repeat' first
   | (with_reducible exact ih0 _ _ _ _ _)
   | (with_reducible exact LeO.refl _)
   | (with_reducible exact za _)
   | (with_reducible refine zc ?_ ?_)
   | (with_reducible refine zb ?_ (fun _=>?_))
theorem impl_turnOf.mono:∀ a0 k,LeO (impl_turnOf.f k a0) (impl_turnOf.f (k+1) a0):=by
 intro a0 k
 have ih0:=impl_turnOf.mono_l k
 unfold impl_turnOf.f
 repeat' first
   | (with_reducible exact ih0 _ _ _ _ _)
   | (with_reducible exact LeO.refl _)
   | (with_reducible exact za _)
   | (with_reducible refine zc ?_ ?_)
   | (with_reducible refine zb ?_ (fun _=>?_))
set_option maxHeartbeats 8000000 in
set_option maxRecDepth 100000 in
theorem impl_turnOf.calls (k:Nat) (A0:Option Addr) (c0:Nat) (l0:List Int) (r:List Int) (w:World) (hr0:Kd.C (Kd.int .i64) w A0 l0.length l0) (hc0:l0.length≤c0) (h:impl_turnOf.f k l0 = some r) :
  Calls Try.prog 81 #[.slice A0 l0.length c0] w fun e w' => ∃ v0_:Value,e = .returned (v0_)∧Kd.R (Kd.int .i64) 3 w' w.heap.size (fun _=>True) v0_ r∧Below w.heap.size w w':=by
 have HR0:=zA hr0
 have HC0:=zA hc0
 clear hr0 hc0
 have HB:=zA (Below.refl w.heap.size w)
 have H:(if 0≤(l0.length:Int) then (if ((l0.length:Int):Int).toNat≤35184372088832 then (impl_turnOf.l0 k l0 (List.replicate ((l0.length:Int):Int).toNat 0) l0 (l0.length:Int) 0) else (none)) else (none)) = some r:=h
 clear h
 by_cases c2:0≤(l0.length:Int)
 ·rw [if_pos c2] at H
  have c2b0:=eq_true c2
  have c2b1:decide (0≤(l0.length:Int)) = true:=zO c2
  clear c2
  by_cases c3:((l0.length:Int):Int).toNat≤35184372088832
  ·rw [if_pos c3] at H
   have c3b0:=eq_true c3
   have c3b1:decide (((l0.length:Int):Int).toNat≤35184372088832) = true:=zO c3
   clear c3
   obtain ⟨y103,hy103⟩:∃ y_:List Int,y_ = (List.replicate ((l0.length:Int):Int).toNat 0):=⟨_,rfl⟩
   replace H:(impl_turnOf.l0 k l0 y103 l0 (l0.length:Int) 0) = some r:=by (try rw [hy103]);first|with_reducible exact H|with_reducible exact zS_ H|exact H
   have Ny103:=zA hy103
   clear hy103
   have H':=zA H
   clear H
   go_enter Try.func81,Try.ntmps81
   go_wp2_with (first|((with_reducible refine gate_dst (N:=8) rfl ?_);refine Kd.R_make (Kd.int .i64) _ 3 rfl (N:=8) rfl 23 _ _ rfl (l0.length:Int) rfl rfl Try.underlying23 (.int .i64 0) 8 info3 rfl (by decide) (by omega) 0 (ok:=fun _=>True) (okp:=fun _=>True) rfl (fun _ hk=>hk) trivial (zE (by with_reducible assumption)) (Nat.le_trans (Nat.mul_le_mul_right _ (zE (by with_reducible assumption):(l0.length:Int).toNat≤35184372088832)) (by omega)) (Below.refl _ _) (Nat.le_refl _) ?_;intro v104 w4 ho5 hb hg_ hnew_;clear hg_ hnew_;(first|rw [← Ny103.out] at ho5|(simp only [Int.reduceToNat] at ho5;rw [← Ny103.out] at ho5));have n0_:=zA (ze ho5 (zQ (by exact zB_ HB.out)));have n1_:=zA (zR (by exact zB_ HB.out) hb);clear HB;have HO105:=n0_;have HB:=n1_;clear n0_ n1_;clear hb ho5))
   go_loopg [11] k (fun kq v11 w' => ∃ (x3_1:List Int) (x11_1:Int),v11 = .int .i64 x11_1∧Aside0 (impl_turnOf.l0 kq l0 x3_1 l0 (l0.length:Int) x11_1 = some r)∧Aside0 (kq≤k)∧Aside0 (Kd.R (Kd.int .i64) 3 w' w.heap.size (fun _=>True) v104 x3_1)∧Aside0 (Below w.heap.size w w'))
   case atStart=>exact ⟨(y103),(0),(by first|rfl|(simp;done)|(simp [*];done)),H',⟨Nat.le_refl _⟩,⟨by apply zR_;exact HO105.out⟩,⟨by exact zB_ HB.out⟩⟩
   case round =>
    clear H'
    (try clear c2);(try clear c2b0);(try clear c2b1);(try clear p2);(try clear c3);(try clear c3b0);(try clear c3b1)
    obtain ⟨x3_1,x11_1,rfl,HA,HK1,HO_3,HB⟩:=hrel
    cases gk with
    | zero=>exact absurd HA.out (by simp [impl_turnOf.l0])
    | succ k1 =>
     have H:=HA.out
     clear HA
     simp only [impl_turnOf.l0] at H
     by_cases c6:x11_1 < (l0.length:Int)
     ·rw [if_pos c6] at H
      have c6b0:decide (x11_1 < (l0.length:Int)) = true:=zO c6
      clear c6
      by_cases c7:0≤x11_1
      ·rw [if_pos c7] at H
       have c7b0:decide (0≤x11_1) = true:=zO c7
       clear c7
       by_cases c8:x11_1 < (l0.length:Int)
       ·rw [if_pos c8] at H
        have c8b0:decide (x11_1 < (l0.length:Int)) = true:=zO c8
        clear c8
        by_cases c9:(l0.length:Int) = 0
        ·rw [if_pos c9] at H
         exact absurd H (by simp)
        ·rw [if_neg c9] at H
         have c9b0:((l0.length:Int) == 0) = false:=beq_eq_false_iff_ne.mpr c9
         have c9b1:((l0.length:Int) != 0) = true:=bne_iff_ne.mpr c9
         have c9b2:¬ (l0 = []):=fun h_=>c9 (by rw [h_];rfl)
         by_cases c10:x11_1 < (x3_1.length:Int)
         ·rw [if_pos c10] at H
          have c10b0:decide (x11_1 < (x3_1.length:Int)) = true:=zO c10
          clear c10
          obtain ⟨y107,hy107⟩:∃ y_:List Int,y_ = (x3_1.set (x11_1:Int).toNat (Int.tmod (wrap64 ((rd l0 x11_1)+1)) (l0.length:Int))):=⟨_,rfl⟩
          replace H:(impl_turnOf.l0 k1 l0 y107 l0 (l0.length:Int) (wrap64 (x11_1+1))) = some r:=by (try rw [hy107]);first|with_reducible exact H|with_reducible exact zS_ H|exact H
          have Ny107:=zA hy107
          clear hy107
          have H':=zA H
          clear H
          have p106:0≤(x11_1:Int):=zE (by with_reducible assumption)
          have q106:x11_1 < (l0.length:Int):=zE (by with_reducible assumption)
          obtain ⟨ad106,e106,hx106_0⟩:=Kd.at_int HR0.out x11_1 p106 q106
          cases e106
          replace hx106_0:=(HB.out.cell (zY w _ hx106_0)).trans hx106_0
          replace p106:=eq_true p106
          replace q106:=eq_true q106
          have p11:0≤(x11_1:Int):=zE (by with_reducible assumption)
          have q11:(x11_1:Int) < ((x3_1.length:Int):Int):=zE (by with_reducible assumption)
          obtain ⟨go11,co11,eo11,gb11,gl11,cl11,HG11⟩:=Kd.R_form HO_3.out (by omega)
          (first|cases eo11|(injection eo11 with ea_ en_ ec_;(first|subst ea_|(injection ea_ with ea_;subst ea_));subst ec_;clear en_))
          have GB11:=zA gb11
          have GG11:=zA HG11
          clear gb11 gl11 HG11
          obtain ⟨hx11_0,hf11_0⟩:=Kd.R_celln 0 HO_3.out (x11_1:Int) p11 q11
          replace p11:=eq_true p11
          replace q11:=eq_true q11
          have HP12:=Kd.R_putg HO_3.out (x11_1:Int) (Int.tmod (wrap64 ((rd l0 x11_1)+1)) (l0.length:Int))
          go_wp2_with (first|((with_reducible refine gate_store (t:=3) (p:=23) rfl ?_);refine store_event (t:=3) (p:=23) (v:=?vo_w13) (w1:=(wr.setCell ⟨go11,(x11_1:Int).toNat,none⟩ (.int .i64 (Int.tmod (wrap64 ((rd l0 x11_1)+1)) (l0.length:Int))))) ?hg ?ho ?hn ?hr ?_;(case ho=>rfl);(case hg=>rfl);(case hn=>rfl);(case hr=>first|(go_simp;done)|(go_simp;rfl));intro w13 hw;have hg:wr.grownBy w13 (some go11):=(by rw [hw];exact HP12.2);have hp_:Kd.R (Kd.int .i64) 3 w13 w.heap.size (fun _=>True) (.slice (some ⟨go11,0,none⟩) x3_1.length co11) y107:=(by rw [hw,Ny107.out];exact HP12.1);clear HP12;have n0_:=zA (hp_);have n1_:=zA ((by rw [hw];exact zF (HB.out) GB11.out:Below w.heap.size w w13));clear HO_3;clear HB;have HO_3:=n0_;have HB:=n1_;clear n0_ n1_;clear hg hw hp_))
          go_roundg k1
          case measure=>have:=HK1.out;omega
          case rel=>exact ⟨(y107),(wrap64 (x11_1+1)),(by first|rfl|(simp;done)|(simp [*];done)),H',⟨by have:=HK1.out;omega⟩,⟨by apply zR_;exact HO_3.out⟩,⟨by exact zB_ HB.out⟩⟩
         ·rw [if_neg c10] at H
          exact absurd H (by simp)
       ·rw [if_neg c8] at H
        exact absurd H (by simp)
      ·rw [if_neg c7] at H
       exact absurd H (by simp)
     ·rw [if_neg c6] at H
      have c6b0:decide (x11_1 < (l0.length:Int)) = false:=zP c6
      clear c6
      obtain rfl:=zS H
      go_wp2
      go_ret
      exact ⟨_,by first|rfl|(simp [errW_none,errW_some] <;> rfl)|(simp [*,errW_none,errW_some] <;> rfl),by apply zR_;exact HO_3.out,by exact zB_ HB.out⟩
  ·rw [if_neg c3] at H
   exact absurd H (by simp)
 ·rw [if_neg c2] at H
  exact absurd H (by simp)

/-! ### impl_GluingMap: function 18 -/
def impl_GluingMap.f (k:Nat) (l0:List Int):Option (List Int × List Int × Bool):=(impl_GluingValid.f k l0).bind fun t112=>(if t112 = true then ((impl_turnOf.f k l0).bind fun t113=>((slices_Clone_int_int.f l0).bind fun t116=>(some (t113,t116,true)))) else (some (([]:List Int),([]:List Int),false)))
theorem impl_GluingMap.mono:∀ a0 k,LeO (impl_GluingMap.f k a0) (impl_GluingMap.f (k+1) a0):=by
 intro a0 k
 unfold impl_GluingMap.f
 repeat' first
   | (with_reducible exact impl_GluingValid.mono _ _)
   | (with_reducible exact impl_turnOf.mono _ _)
   | (with_reducible exact LeO.refl _)
   | (with_reducible exact za _)
   | (with_reducible refine zc ?_ ?_)
   | (with_reducible refine zb ?_ (fun _=>?_))
set_option maxHeartbeats 8000000 in
set_option maxRecDepth 100000 in
theorem impl_GluingMap.calls (k:Nat) (A0:Option Addr) (c0:Nat) (l0:List Int) (r1:List Int) (r2:List Int) (r3:Bool) (w:World) (hr0:Kd.C (Kd.int .i64) w A0 l0.length l0) (hc0:l0.length≤c0) (h:impl_GluingMap.f k l0 = some (r1,r2,r3)) :
  Calls Try.prog 18 #[.slice A0 l0.length c0] w fun e w' => ∃ v0_ v1_:Value,e = .returned (.tuple #[.agg #[v0_,v1_],.bool r3])∧Kd.R (Kd.int .i64) 3 w' w.heap.size (fun k_=>some k_≠(v1_:Value).ownBlock) v0_ r1∧Kd.R (Kd.int .i64) 3 w' w.heap.size (fun k_=>some k_≠(v0_:Value).ownBlock) v1_ r2∧Below w.heap.size w w':=by
 have hu27:=Try.underlying27
 have HR0:=zA hr0
 have HC0:=zA hc0
 clear hr0 hc0
 have HB:=zA (Below.refl w.heap.size w)
 have H:((impl_GluingValid.f k l0).bind fun t112=>(if t112 = true then ((impl_turnOf.f k l0).bind fun t113=>((slices_Clone_int_int.f l0).bind fun t116=>(some (t113,t116,true)))) else (some (([]:List Int),([]:List Int),false)))) = some (r1,r2,r3):=h
 clear h
 replace H:=zz0 H
 obtain ⟨t112,A20,H⟩:=H
 try dsimp only at H
 have A2:=zA A20
 clear A20
 by_cases c3:t112 = true
 ·subst c3
  rw [if_pos rfl] at H;try dsimp only at H
  replace H:=zz0 H
  obtain ⟨t113,A40,H⟩:=H
  try dsimp only at H
  have A4:=zA A40
  clear A40
  replace H:=zz0 H
  obtain ⟨t116,A50,H⟩:=H
  try dsimp only at H
  have A5:=zA A50
  clear A50
  simp only [Option.some.injEq,Prod.mk.injEq] at H
  obtain ⟨rfl,rfl,rfl⟩:=H
  go_enter Try.func18,Try.ntmps18
  go_wp2_with (first|((with_reducible refine gate_dst (N:=2) rfl ?_);refine box_event ?hg (N:=2) ?hd (cs:=#[.slice none 0 0,.slice none 0 0]) (t:=27) ?hr ?_;(case hd=>rfl);(case hg=>rfl);(case hr=>first|(go_simp;done)|(go_simp;rfl));intro gb111 hg w6 hbox hb;have n0_:=zA (zR (by exact zB_ HB.out) hb);have n1_:=zA (hbox);have n2_:=zA ((by rw [hg];exact (zQ (by exact zB_ HB.out)):w.heap.size≤gb111));have n3_:=zA ((by rw [hg];exact (zQ (by exact zB_ HB.out)):w.heap.size≤gb111));clear HB;have HB:=n0_;have BK111:=n1_;have GW111:=n2_;have GE111:=n3_;clear n0_ n1_ n2_ n3_;clear hb hbox hg)|((with_reducible refine gate_callee (f:=79) rfl ?_);refine goesL_ (some 5) rfl rfl Try.func79 (by kernel_rfl) rfl #[.slice A0 l0.length c0] rfl (by (try simp only [zJ,zM,zN]);first|done|rfl|(simp only [zL,zK];rfl)) ?_;(with_reducible refine (impl_GluingValid.calls k _ _ l0 true _ ?side1 ?side2 A2.out).mono ?_);(case side1=>repeat (first|exact (zW HR0.out HB.out)|(with_reducible exact HR0.out)|apply zC_));(case side2=>exact HC0.out);rintro e w' ⟨rfl,⟨nd,rfl⟩⟩;refine ⟨_,rfl,?_⟩;(try (rw [drewN_self w6];generalize hq_:World.drewN w6 _ = w6;have n0_:Aside0 (w6.heap[gb111]? = some (.cells #[.slice none 0 0,.slice none 0 0] 27 (0,0))):=⟨by rw [← hq_];exact (by (with_reducible repeat (first|refine zG ?_ _|refine zI ?_|refine zH ?_ _));exact BK111.out)⟩;have n1_:Aside0 (Below w.heap.size w w6):=⟨by rw [← hq_];exact (by repeat (first|(with_reducible first|exact HB.out|apply zD|apply zB|apply zC|refine zF ?_ GE111.out)|exact HB.out))⟩;clear BK111 HB hq_;have BK111:=n0_;have HB:=n1_;clear n0_ n1_)))|((with_reducible refine gate_callee (f:=81) rfl ?_);refine goesL_ (some 9) rfl rfl Try.func81 (by kernel_rfl) rfl #[.slice A0 l0.length c0] rfl (by (try simp only [zJ,zM,zN]);first|done|rfl|(simp only [zL,zK];rfl)) ?_;(with_reducible refine (impl_turnOf.calls k _ _ l0 t113 _ ?side1 ?side2 A4.out).mono ?_);(case side1=>repeat (first|exact (zW HR0.out HB.out)|(with_reducible exact HR0.out)|apply zC_));(case side2=>exact HC0.out);rintro e w7 ⟨v114,rfl,ho0,hb⟩;refine ⟨_,rfl,?_⟩;have n0_:=zA (ze ho0 (zQ (by repeat (first|(with_reducible first|exact HB.out|apply zD|apply zB|apply zC|refine zF ?_ GE111.out)|exact HB.out))));have n1_:=zA (zX (g:=gb111) (o:=.cells #[.slice none 0 0,.slice none 0 0] 27 (0,0)) (by (with_reducible repeat (first|refine zG ?_ _|refine zI ?_|refine zH ?_ _));exact BK111.out) hb);have n2_:=zA (zR (by repeat (first|(with_reducible first|exact HB.out|apply zD|apply zB|apply zC|refine zF ?_ GE111.out)|exact HB.out)) hb);clear BK111;clear HB;have HO115:=n0_;have BK111:=n1_;have HB:=n2_;clear n0_ n1_ n2_;(try clear hb);(try clear hb2);(try clear hk);(try clear hi);(try clear ho0))|((with_reducible refine gate_callee (f:=85) rfl ?_);refine goesL_ (some 11) rfl rfl Try.func85 (by kernel_rfl) rfl #[.slice A0 l0.length c0] rfl (by (try simp only [zJ,zM,zN]);first|done|rfl|(simp only [zL,zK];rfl)) ?_;(with_reducible refine (slices_Clone_int_int.calls _ _ l0 t116 _ ?side1 ?side2 A5.out).mono ?_);(case side1=>repeat (first|exact (zW HR0.out HB.out)|(with_reducible exact HR0.out)|apply zC_));(case side2=>exact HC0.out);rintro e w8 ⟨v117,rfl,ho0,hb⟩;refine ⟨_,rfl,?_⟩;have n0_:=zA (Kd.R_elder' (by apply zR_;exact HO115.out) (zd ho0) hb);have n1_:=zA (ze (zh ho0 (Kd.R_lt (by apply zR_;exact HO115.out))) (zQ (by repeat (first|(with_reducible first|exact HB.out|apply zD|apply zB|apply zC|refine zF ?_ GE111.out)|exact HB.out))));have n2_:=zA (zX (g:=gb111) (o:=.cells #[.slice none 0 0,.slice none 0 0] 27 (0,0)) (by (with_reducible repeat (first|refine zG ?_ _|refine zI ?_|refine zH ?_ _));exact BK111.out) hb);have n3_:=zA (zR (by repeat (first|(with_reducible first|exact HB.out|apply zD|apply zB|apply zC|refine zF ?_ GE111.out)|exact HB.out)) hb);clear HO115;clear BK111;clear HB;have HO115:=n0_;have HO118:=n1_;have BK111:=n2_;have HB:=n3_;clear n0_ n1_ n2_ n3_;(try clear hb);(try clear hb2);(try clear hk);(try clear hi);(try clear ho0);obtain ⟨Ao9,co9,eo9⟩:=zg HO118.out;subst eo9;obtain ⟨Ao10,co10,eo10⟩:=zg HO115.out;subst eo10;have hcz11_0:w8.cell? ⟨gb111,0,none⟩ = some (.slice none 0 0):=(zT BK111.out 0).trans rfl;have hcz11_1:w8.cell? ⟨gb111,1,none⟩ = some (.slice none 0 0):=(zT BK111.out 1).trans rfl;have hfz11_0:=zZ BK111.out 0;have hfz11_1:=zZ BK111.out 1))
  refine bodyPost_ret (results_ct rfl _ _ gb111 27 #[.slice Ao10 t113.length co10,.slice Ao9 t116.length co9] (0,0) _ rfl (by (with_reducible repeat (first|refine zG ?_ _|refine zI ?_|refine zH ?_ _));refine blk_put (cs:=#[.slice Ao10 t113.length co10,.slice none 0 0]) ?_ 1 _ rfl;(with_reducible repeat (first|refine zG ?_ _|refine zI ?_|refine zH ?_ _));refine blk_put (cs:=#[.slice none 0 0,.slice none 0 0]) ?_ 0 _ rfl;(with_reducible repeat (first|refine zG ?_ _|refine zI ?_|refine zH ?_ _));exact BK111.out) Try.underlying27 rfl (by kernel_rfl)) rfl ?_
  exact ⟨_,_,by first|rfl|(simp [errW_none,errW_some] <;> rfl)|(simp [*,errW_none,errW_some] <;> rfl),by apply zR_;exact zV (Kd.R_far (p:=⟨gb111,1,none⟩) (Kd.R_far (p:=⟨gb111,0,none⟩) (Kd.R_types HO115.out BK111.out (by decide)) (fun _ hk=>hk.2) (.slice Ao10 t113.length co10)) (fun _ hk=>hk.2) (.slice Ao9 t116.length co9)) (fun _ hk=>hk.1.2),by apply zR_;exact zV (Kd.R_far (p:=⟨gb111,1,none⟩) (Kd.R_far (p:=⟨gb111,0,none⟩) (Kd.R_types HO118.out BK111.out (by decide)) (fun _ hk=>hk.2) (.slice Ao10 t113.length co10)) (fun _ hk=>hk.2) (.slice Ao9 t116.length co9)) (fun _ hk=>hk.1.2),by repeat (first|(with_reducible first|exact HB.out|apply zD|apply zB|apply zC|refine zF ?_ GE111.out)|exact HB.out)⟩
 ·replace c3:=Bool.eq_false_iff.mpr c3
  subst c3
  have H1:(some (([]:List Int),([]:List Int),false)) = some (r1,r2,r3):=by rw [if_neg (show ¬ (false = true) by decide)] at H;exact H
  clear H
  have H:=H1
  clear H1
  simp only [Option.some.injEq,Prod.mk.injEq] at H
  obtain ⟨rfl,rfl,rfl⟩:=H
  go_enter Try.func18,Try.ntmps18
  go_wp2_with (first|((with_reducible refine gate_dst (N:=2) rfl ?_);refine box_event ?hg (N:=2) ?hd (cs:=#[.slice none 0 0,.slice none 0 0]) (t:=27) ?hr ?_;(case hd=>rfl);(case hg=>rfl);(case hr=>first|(go_simp;done)|(go_simp;rfl));intro gb111 hg w12 hbox hb;have n0_:=zA (zR (by exact zB_ HB.out) hb);have n1_:=zA (hbox);have n2_:=zA ((by rw [hg];exact (zQ (by exact zB_ HB.out)):w.heap.size≤gb111));have n3_:=zA ((by rw [hg];exact (zQ (by exact zB_ HB.out)):w.heap.size≤gb111));clear HB;have HB:=n0_;have BK111:=n1_;have GW111:=n2_;have GE111:=n3_;clear n0_ n1_ n2_ n3_;clear hb hbox hg)|((with_reducible refine gate_callee (f:=79) rfl ?_);refine goesL_ (some 5) rfl rfl Try.func79 (by kernel_rfl) rfl #[.slice A0 l0.length c0] rfl (by (try simp only [zJ,zM,zN]);first|done|rfl|(simp only [zL,zK];rfl)) ?_;(with_reducible refine (impl_GluingValid.calls k _ _ l0 false _ ?side1 ?side2 A2.out).mono ?_);(case side1=>repeat (first|exact (zW HR0.out HB.out)|(with_reducible exact HR0.out)|apply zC_));(case side2=>exact HC0.out);rintro e w' ⟨rfl,⟨nd,rfl⟩⟩;refine ⟨_,rfl,?_⟩;(try (rw [drewN_self w12];generalize hq_:World.drewN w12 _ = w12;have n0_:Aside0 (w12.heap[gb111]? = some (.cells #[.slice none 0 0,.slice none 0 0] 27 (0,0))):=⟨by rw [← hq_];exact (by (with_reducible repeat (first|refine zG ?_ _|refine zI ?_|refine zH ?_ _));exact BK111.out)⟩;have n1_:Aside0 (Below w.heap.size w w12):=⟨by rw [← hq_];exact (by repeat (first|(with_reducible first|exact HB.out|apply zD|apply zB|apply zC|refine zF ?_ GE111.out)|exact HB.out))⟩;clear BK111 HB hq_;have BK111:=n0_;have HB:=n1_;clear n0_ n1_));have hcz13_0:w12.cell? ⟨gb111,0,none⟩ = some (.slice none 0 0):=(zT BK111.out 0).trans rfl;have hcz13_1:w12.cell? ⟨gb111,1,none⟩ = some (.slice none 0 0):=(zT BK111.out 1).trans rfl;have hfz13_0:=zZ BK111.out 0;have hfz13_1:=zZ BK111.out 1))
  refine bodyPost_ret (results_ct rfl _ _ gb111 27 #[.slice none 0 0,.slice none 0 0] (0,0) _ rfl (by (with_reducible repeat (first|refine zG ?_ _|refine zI ?_|refine zH ?_ _));refine blk_put (cs:=#[.slice none 0 0,.slice none 0 0]) ?_ 1 _ rfl;(with_reducible repeat (first|refine zG ?_ _|refine zI ?_|refine zH ?_ _));refine blk_put (cs:=#[.slice none 0 0,.slice none 0 0]) ?_ 0 _ rfl;(with_reducible repeat (first|refine zG ?_ _|refine zI ?_|refine zH ?_ _));exact BK111.out) Try.underlying27 rfl (by kernel_rfl)) rfl ?_
  exact ⟨_,_,by first|rfl|(simp [errW_none,errW_some] <;> rfl)|(simp [*,errW_none,errW_some] <;> rfl),by first|exact Kd.R_nil _ _ _ _ _|exact Kd.N_nil _ _ _ _ _|exact Kd.V_nil _ _ _ _ _|exact Kd.Q_nil _ _ _ _ _|exact Kd.S_nil _ _ _ _ _,by first|exact Kd.R_nil _ _ _ _ _|exact Kd.N_nil _ _ _ _ _|exact Kd.V_nil _ _ _ _ _|exact Kd.Q_nil _ _ _ _ _|exact Kd.S_nil _ _ _ _ _,by repeat (first|(with_reducible first|exact HB.out|apply zD|apply zB|apply zC|refine zF ?_ GE111.out)|exact HB.out)⟩

/-! ### laws_sameInts: function 25 -/
def laws_sameInts.l0:Nat→List Int→List Int→Int→Option (Bool)
 | 0,_,_,_=>none
 | k+1,x0,x1,x5=>if x5 < (x0.length:Int) then (if 0≤x5 then (if x5 < (x1.length:Int) then (if (rd x0 x5) = (rd x1 x5) then (laws_sameInts.l0 k x0 x1 (wrap64 (x5+1))) else (some false)) else (none)) else (none)) else (some true)
def laws_sameInts.f (k:Nat) (l0:List Int) (l1:List Int):Option (Bool):=if (l0.length:Int) = (l1.length:Int) then (laws_sameInts.l0 k l0 l1 0) else (some false)
theorem laws_sameInts.mono_l:∀ k,(∀ y0 y1 y2,LeO (laws_sameInts.l0 k y0 y1 y2) (laws_sameInts.l0 (k+1) y0 y1 y2))
 | 0=>fun _ _ _ r h=>by simp [laws_sameInts.l0] at h
 | k+1=>by
  have ih0:=laws_sameInts.mono_l k
  ·intro y0 y1 y2
   unfold laws_sameInts.l0
   repeat' first
   | (with_reducible exact ih0 _ _ _)
   | (with_reducible exact LeO.refl _)
   | (with_reducible exact za _)
   | (with_reducible refine zc ?_ ?_)
   | (with_reducible refine zb ?_ (fun _=>?_))
theorem laws_sameInts.mono:∀ a0 a1 k,LeO (laws_sameInts.f k a0 a1) (laws_sameInts.f (k+1) a0 a1):=by
 intro a0 a1 k
 have ih0:=laws_sameInts.mono_l k
 unfold laws_sameInts.f
 repeat' first
   | (with_reducible exact ih0 _ _ _)
   | (with_reducible exact LeO.refl _)
   | (with_reducible exact za _)
   | (with_reducible refine zc ?_ ?_)
   | (with_reducible refine zb ?_ (fun _=>?_))
set_option maxHeartbeats 8000000 in
set_option maxRecDepth 100000 in
theorem laws_sameInts.calls (k:Nat) (A0:Option Addr) (c0:Nat) (l0:List Int) (A1:Option Addr) (c1:Nat) (l1:List Int) (r:Bool) (w:World) (hr0:Kd.C (Kd.int .i64) w A0 l0.length l0) (hc0:l0.length≤c0) (hr1:Kd.C (Kd.int .i64) w A1 l1.length l1) (hc1:l1.length≤c1) (h:laws_sameInts.f k l0 l1 = some r) :
  Calls Try.prog 25 #[.slice A0 l0.length c0,.slice A1 l1.length c1] w fun e w'=>e = .returned (.bool r)∧Drawn0 w w':=by
 have HR0:=zA hr0
 have HC0:=zA hc0
 clear hr0 hc0
 have HR1:=zA hr1
 have HC1:=zA hc1
 clear hr1 hc1
 have H:(if (l0.length:Int) = (l1.length:Int) then (laws_sameInts.l0 k l0 l1 0) else (some false)) = some r:=h
 clear h
 by_cases c3:(l0.length:Int) = (l1.length:Int)
 ·rw [if_pos c3] at H
  have c3b0:((l0.length:Int) == (l1.length:Int)) = true:=beq_iff_eq.mpr c3
  have c3b1:((l0.length:Int) != (l1.length:Int)) = false:=bne_eq_false_iff_eq.mpr c3
  have c3b2:(l0.length == l1.length) = true:=by first|simpa using c3|(simp at c3 ⊢;omega)
  clear c3
  have H':=zA H
  clear H
  go_enter Try.func25,Try.ntmps25
  go_wp2
  repeat (go_quiet (fail);try go_wp2)
  go_loopg [5] k (fun kq v5 w' => ∃ (x5_1:Int),v5 = .int .i64 x5_1∧Aside0 (laws_sameInts.l0 kq l0 l1 x5_1 = some r)∧Aside0 (kq≤k)∧Drawn0 w w')
  case atStart=>exact ⟨(0),(by first|rfl|(simp;done)|(simp [*];done)),H',⟨Nat.le_refl _⟩,by repeat (first|exact Drawn0.refl _|apply Drawn0.step)⟩
  case round =>
   clear H'
   (try clear c1);(try clear c2);(try clear p2);(try clear c3);(try clear c3b0);(try clear c3b1);(try clear c3b2)
   obtain ⟨x5_1,rfl,HA,HK1,⟨m1,rfl⟩⟩:=hrel
   cases gk with
   | zero=>exact absurd HA.out (by simp [laws_sameInts.l0])
   | succ k1 =>
    have H:=HA.out
    clear HA
    simp only [laws_sameInts.l0] at H
    by_cases c4:x5_1 < (l0.length:Int)
    ·rw [if_pos c4] at H
     have c4b0:decide (x5_1 < (l0.length:Int)) = true:=zO c4
     clear c4
     by_cases c5:0≤x5_1
     ·rw [if_pos c5] at H
      have c5b0:decide (0≤x5_1) = true:=zO c5
      clear c5
      by_cases c6:x5_1 < (l1.length:Int)
      ·rw [if_pos c6] at H
       have c6b0:decide (x5_1 < (l1.length:Int)) = true:=zO c6
       clear c6
       by_cases c7:(rd l0 x5_1) = (rd l1 x5_1)
       ·rw [if_pos c7] at H
        have c7b0:((rd l0 x5_1) == (rd l1 x5_1)) = true:=beq_iff_eq.mpr c7
        have c7b1:((rd l0 x5_1) != (rd l1 x5_1)) = false:=bne_eq_false_iff_eq.mpr c7
        clear c7
        have H':=zA H
        clear H
        have p119:0≤(x5_1:Int):=zE (by with_reducible assumption)
        have q119:x5_1 < (l0.length:Int):=zE (by with_reducible assumption)
        obtain ⟨ad119,e119,hx119_0⟩:=Kd.at_int HR0.out x5_1 p119 q119
        cases e119
        replace p119:=eq_true p119
        replace q119:=eq_true q119
        have p120:0≤(x5_1:Int):=zE (by with_reducible assumption)
        have q120:x5_1 < (l1.length:Int):=zE (by with_reducible assumption)
        obtain ⟨ad120,e120,hx120_0⟩:=Kd.at_int HR1.out x5_1 p120 q120
        cases e120
        replace p120:=eq_true p120
        replace q120:=eq_true q120
        go_wp2
        repeat (go_quiet (fail);try go_wp2)
        go_roundg k1
        case measure=>have:=HK1.out;omega
        case rel=>exact ⟨(wrap64 (x5_1+1)),(by first|rfl|(simp;done)|(simp [*];done)),H',⟨by have:=HK1.out;omega⟩,by repeat (first|exact Drawn0.refl _|apply Drawn0.step)⟩
       ·rw [if_neg c7] at H
        have c7b0:((rd l0 x5_1) == (rd l1 x5_1)) = false:=beq_eq_false_iff_ne.mpr c7
        have c7b1:((rd l0 x5_1) != (rd l1 x5_1)) = true:=bne_iff_ne.mpr c7
        obtain rfl:=zS H
        have p119:0≤(x5_1:Int):=zE (by with_reducible assumption)
        have q119:x5_1 < (l0.length:Int):=zE (by with_reducible assumption)
        obtain ⟨ad119,e119,hx119_0⟩:=Kd.at_int HR0.out x5_1 p119 q119
        cases e119
        replace p119:=eq_true p119
        replace q119:=eq_true q119
        have p120:0≤(x5_1:Int):=zE (by with_reducible assumption)
        have q120:x5_1 < (l1.length:Int):=zE (by with_reducible assumption)
        obtain ⟨ad120,e120,hx120_0⟩:=Kd.at_int HR1.out x5_1 p120 q120
        cases e120
        replace p120:=eq_true p120
        replace q120:=eq_true q120
        go_wp2
        repeat (go_quiet (fail);try go_wp2)
        go_ret
        exact ⟨by first|rfl|(simp;done)|(simp [*];done),by repeat (first|exact Drawn0.refl _|apply Drawn0.step)⟩
      ·rw [if_neg c6] at H
       exact absurd H (by simp)
     ·rw [if_neg c5] at H
      exact absurd H (by simp)
    ·rw [if_neg c4] at H
     have c4b0:decide (x5_1 < (l0.length:Int)) = false:=zP c4
     clear c4
     obtain rfl:=zS H
     go_wp2
     repeat (go_quiet (fail);try go_wp2)
     go_ret
     exact ⟨by first|rfl|(simp;done)|(simp [*];done),by repeat (first|exact Drawn0.refl _|apply Drawn0.step)⟩
 ·rw [if_neg c3] at H
  have c3b0:((l0.length:Int) == (l1.length:Int)) = false:=beq_eq_false_iff_ne.mpr c3
  have c3b1:((l0.length:Int) != (l1.length:Int)) = true:=bne_iff_ne.mpr c3
  have c3b2:(l0.length == l1.length) = false:=by first|simpa using c3|(simp at c3 ⊢;omega)
  obtain rfl:=zS H
  go_enter Try.func25,Try.ntmps25
  go_wp2
  repeat (go_quiet (fail);try go_wp2)
  go_ret
  exact ⟨by first|rfl|(simp;done)|(simp [*];done),by repeat (first|exact Drawn0.refl _|apply Drawn0.step)⟩

/-! ### laws_sameMap: function 23 -/
def laws_sameMap.f (k:Nat) (l0_0:List Int) (l0_1:List Int) (l1_0:List Int) (l1_1:List Int):Option (Bool):=(laws_sameInts.f k l0_0 l1_0).bind fun t123=>(if t123 = true then ((laws_sameInts.f k l0_1 l1_1).bind fun t124=>(some t124)) else (some false))
theorem laws_sameMap.mono:∀ a0 a1 a2 a3 k,LeO (laws_sameMap.f k a0 a1 a2 a3) (laws_sameMap.f (k+1) a0 a1 a2 a3):=by
 intro a0 a1 a2 a3 k
 unfold laws_sameMap.f
 repeat' first
   | (with_reducible exact laws_sameInts.mono _ _ _)
   | (with_reducible exact LeO.refl _)
   | (with_reducible exact za _)
   | (with_reducible refine zc ?_ ?_)
   | (with_reducible refine zb ?_ (fun _=>?_))
set_option maxHeartbeats 8000000 in
set_option maxRecDepth 100000 in
theorem laws_sameMap.calls (k:Nat) (A0_0:Option Addr) (c0_0:Nat) (l0_0:List Int) (A0_1:Option Addr) (c0_1:Nat) (l0_1:List Int) (A1_0:Option Addr) (c1_0:Nat) (l1_0:List Int) (A1_1:Option Addr) (c1_1:Nat) (l1_1:List Int) (r:Bool) (w:World) (hr0_0:Kd.C (Kd.int .i64) w A0_0 l0_0.length l0_0) (hc0_0:l0_0.length≤c0_0) (hr0_1:Kd.C (Kd.int .i64) w A0_1 l0_1.length l0_1) (hc0_1:l0_1.length≤c0_1) (hr1_0:Kd.C (Kd.int .i64) w A1_0 l1_0.length l1_0) (hc1_0:l1_0.length≤c1_0) (hr1_1:Kd.C (Kd.int .i64) w A1_1 l1_1.length l1_1) (hc1_1:l1_1.length≤c1_1) (h:laws_sameMap.f k l0_0 l0_1 l1_0 l1_1 = some r) :
  Calls Try.prog 23 #[.agg #[.slice A0_0 l0_0.length c0_0,.slice A0_1 l0_1.length c0_1],.agg #[.slice A1_0 l1_0.length c1_0,.slice A1_1 l1_1.length c1_1]] w fun e w'=>e = .returned (.bool r)∧Below w.heap.size w w':=by
 have hu27:=Try.underlying27
 have HR0_0:=zA hr0_0
 have HC0_0:=zA hc0_0
 clear hr0_0 hc0_0
 have HR0_1:=zA hr0_1
 have HC0_1:=zA hc0_1
 clear hr0_1 hc0_1
 have HR1_0:=zA hr1_0
 have HC1_0:=zA hc1_0
 clear hr1_0 hc1_0
 have HR1_1:=zA hr1_1
 have HC1_1:=zA hc1_1
 clear hr1_1 hc1_1
 have HB:=zA (Below.refl w.heap.size w)
 have H:((laws_sameInts.f k l0_0 l1_0).bind fun t123=>(if t123 = true then ((laws_sameInts.f k l0_1 l1_1).bind fun t124=>(some t124)) else (some false))) = some r:=h
 clear h
 replace H:=zz0 H
 obtain ⟨t123,A30,H⟩:=H
 try dsimp only at H
 have A3:=zA A30
 clear A30
 by_cases c4:t123 = true
 ·subst c4
  rw [if_pos rfl] at H;try dsimp only at H
  replace H:=zz0 H
  obtain ⟨t124,A50,H⟩:=H
  try dsimp only at H
  have A5:=zA A50
  clear A50
  obtain rfl:=zS H
  go_enter Try.func23,Try.ntmps23
  go_wp2_with (first|((with_reducible refine gate_dst (N:=2) rfl ?_);refine box_event ?hg (N:=2) ?hd (cs:=#[.slice A0_0 l0_0.length c0_0,.slice A0_1 l0_1.length c0_1]) (t:=27) ?hr ?_;(case hd=>rfl);(case hg=>rfl);(case hr=>first|(go_simp;done)|(go_simp;rfl));intro gb121 hg w6 hbox hb;have n0_:=zA (zR (by exact zB_ HB.out) hb);have n1_:=zA (hbox);have n2_:=zA ((by rw [hg];exact (zQ (by exact zB_ HB.out)):w.heap.size≤gb121));have n3_:=zA ((by rw [hg];exact (zQ (by exact zB_ HB.out)):w.heap.size≤gb121));clear HB;have HB:=n0_;have BK121:=n1_;have GW121:=n2_;have GE121:=n3_;clear n0_ n1_ n2_ n3_;clear hb hbox hg)|((with_reducible refine gate_dst (N:=3) rfl ?_);refine box_event ?hg (N:=3) ?hd (cs:=#[.slice A1_0 l1_0.length c1_0,.slice A1_1 l1_1.length c1_1]) (t:=27) ?hr ?_;(case hd=>rfl);(case hg=>rfl);(case hr=>first|(go_simp;done)|(go_simp;rfl));intro gb122 hg w7 hbox hb;have n0_:=zA (zX (g:=gb121) (o:=.cells #[.slice A0_0 l0_0.length c0_0,.slice A0_1 l0_1.length c0_1] 27 (0,0)) (by (with_reducible repeat (first|refine zG ?_ _|refine zI ?_|refine zH ?_ _));exact BK121.out) hb);have n1_:=zA (zR (by repeat (first|(with_reducible first|exact HB.out|apply zD|apply zB|apply zC|refine zF ?_ GE121.out)|exact HB.out)) hb);have n2_:=zA (hbox);have n3_:=zA ((by rw [hg];exact (zQ (by repeat (first|(with_reducible first|exact HB.out|apply zD|apply zB|apply zC|refine zF ?_ GE121.out)|exact HB.out))):w.heap.size≤gb122));have n4_:=zA ((by rw [hg];exact (zQ (by repeat (first|(with_reducible first|exact HB.out|apply zD|apply zB|apply zC|refine zF ?_ GE121.out)|exact HB.out))):w.heap.size≤gb122));have n5_:=zA ((by rw [hg];exact Nat.ne_of_lt (blk_lt (g:=gb121) (o:=.cells #[.slice A0_0 l0_0.length c0_0,.slice A0_1 l0_1.length c0_1] 27 (0,0)) (by (with_reducible repeat (first|refine zG ?_ _|refine zI ?_|refine zH ?_ _));exact BK121.out)):gb121≠gb122));have n6_:=zA ((by rw [hg];exact Nat.ne_of_gt (blk_lt (g:=gb121) (o:=.cells #[.slice A0_0 l0_0.length c0_0,.slice A0_1 l0_1.length c0_1] 27 (0,0)) (by (with_reducible repeat (first|refine zG ?_ _|refine zI ?_|refine zH ?_ _));exact BK121.out)):gb122≠gb121));clear BK121;clear HB;have BK121:=n0_;have HB:=n1_;have BK122:=n2_;have GW122:=n3_;have GE122:=n4_;have NB121_122:=n5_;have NB122_121:=n6_;clear n0_ n1_ n2_ n3_ n4_ n5_ n6_;clear hb hbox hg;have hnb8:=NB121_122.out;have hnc8:=NB122_121.out;have hcz9_0:w7.cell? ⟨gb121,0,none⟩ = some (.slice A0_0 l0_0.length c0_0):=(zT BK121.out 0).trans rfl;have hcz9_1:w7.cell? ⟨gb121,1,none⟩ = some (.slice A0_1 l0_1.length c0_1):=(zT BK121.out 1).trans rfl;have hfz9_0:=zZ BK121.out 0;have hfz9_1:=zZ BK121.out 1;have hcz10_0:w7.cell? ⟨gb122,0,none⟩ = some (.slice A1_0 l1_0.length c1_0):=(zT BK122.out 0).trans rfl;have hcz10_1:w7.cell? ⟨gb122,1,none⟩ = some (.slice A1_1 l1_1.length c1_1):=(zT BK122.out 1).trans rfl;have hfz10_0:=zZ BK122.out 0;have hfz10_1:=zZ BK122.out 1)|((with_reducible refine gate_callee (f:=25) rfl ?_);refine goesL_ (some 9) rfl rfl Try.func25 (by kernel_rfl) rfl #[.slice A0_0 l0_0.length c0_0,.slice A1_0 l1_0.length c1_0] rfl (by (try simp only [zJ,zM,zN]);first|done|rfl|(simp only [zL,zK];rfl)) ?_;(with_reducible refine (laws_sameInts.calls k _ _ l0_0 _ _ l1_0 true _ ?side1 ?side2 ?side3 ?side4 A3.out).mono ?_);(case side1=>repeat (first|exact (zW HR0_0.out HB.out)|(with_reducible exact HR0_0.out)|apply zC_));(case side2=>exact HC0_0.out);(case side3=>repeat (first|exact (zW HR1_0.out HB.out)|(with_reducible exact HR1_0.out)|apply zC_));(case side4=>exact HC1_0.out);rintro e w' ⟨rfl,⟨nd,rfl⟩⟩;refine ⟨_,rfl,?_⟩)|(go_at_call 25;(with_reducible refine (laws_sameInts.calls k _ _ l0_1 _ _ l1_1 t124 _ ?side1 ?side2 ?side3 ?side4 A5.out).mono ?_);(case side1=>repeat (first|exact (zW HR0_1.out (by repeat (first|(with_reducible first|exact HB.out|apply zD|apply zB|apply zC|refine zF ?_ GE121.out|refine zF ?_ GE122.out)|exact HB.out)))|apply zC_));(case side2=>exact HC0_1.out);(case side3=>repeat (first|exact (zW HR1_1.out (by repeat (first|(with_reducible first|exact HB.out|apply zD|apply zB|apply zC|refine zF ?_ GE121.out|refine zF ?_ GE122.out)|exact HB.out)))|apply zC_));(case side4=>exact HC1_1.out);rintro e w' ⟨rfl,⟨nd,rfl⟩⟩))
  go_ret
  exact ⟨by first|rfl|(simp [errW_none,errW_some] <;> rfl)|(simp [*,errW_none,errW_some] <;> rfl),by repeat (first|(with_reducible first|exact HB.out|apply zD|apply zB|apply zC|refine zF ?_ GE121.out|refine zF ?_ GE122.out)|exact HB.out)⟩
 ·replace c4:=Bool.eq_false_iff.mpr c4
  subst c4
  have H1:(some false) = some r:=by rw [if_neg (show ¬ (false = true) by decide)] at H;exact H
  clear H
  have H:=H1
  clear H1
  obtain rfl:=zS H
  go_enter Try.func23,Try.ntmps23
  go_wp2_with (first|((with_reducible refine gate_dst (N:=2) rfl ?_);refine box_event ?hg (N:=2) ?hd (cs:=#[.slice A0_0 l0_0.length c0_0,.slice A0_1 l0_1.length c0_1]) (t:=27) ?hr ?_;(case hd=>rfl);(case hg=>rfl);(case hr=>first|(go_simp;done)|(go_simp;rfl));intro gb121 hg w11 hbox hb;have n0_:=zA (zR (by exact zB_ HB.out) hb);have n1_:=zA (hbox);have n2_:=zA ((by rw [hg];exact (zQ (by exact zB_ HB.out)):w.heap.size≤gb121));have n3_:=zA ((by rw [hg];exact (zQ (by exact zB_ HB.out)):w.heap.size≤gb121));clear HB;have HB:=n0_;have BK121:=n1_;have GW121:=n2_;have GE121:=n3_;clear n0_ n1_ n2_ n3_;clear hb hbox hg)|((with_reducible refine gate_dst (N:=3) rfl ?_);refine box_event ?hg (N:=3) ?hd (cs:=#[.slice A1_0 l1_0.length c1_0,.slice A1_1 l1_1.length c1_1]) (t:=27) ?hr ?_;(case hd=>rfl);(case hg=>rfl);(case hr=>first|(go_simp;done)|(go_simp;rfl));intro gb122 hg w12 hbox hb;have n0_:=zA (zX (g:=gb121) (o:=.cells #[.slice A0_0 l0_0.length c0_0,.slice A0_1 l0_1.length c0_1] 27 (0,0)) (by (with_reducible repeat (first|refine zG ?_ _|refine zI ?_|refine zH ?_ _));exact BK121.out) hb);have n1_:=zA (zR (by repeat (first|(with_reducible first|exact HB.out|apply zD|apply zB|apply zC|refine zF ?_ GE121.out)|exact HB.out)) hb);have n2_:=zA (hbox);have n3_:=zA ((by rw [hg];exact (zQ (by repeat (first|(with_reducible first|exact HB.out|apply zD|apply zB|apply zC|refine zF ?_ GE121.out)|exact HB.out))):w.heap.size≤gb122));have n4_:=zA ((by rw [hg];exact (zQ (by repeat (first|(with_reducible first|exact HB.out|apply zD|apply zB|apply zC|refine zF ?_ GE121.out)|exact HB.out))):w.heap.size≤gb122));have n5_:=zA ((by rw [hg];exact Nat.ne_of_lt (blk_lt (g:=gb121) (o:=.cells #[.slice A0_0 l0_0.length c0_0,.slice A0_1 l0_1.length c0_1] 27 (0,0)) (by (with_reducible repeat (first|refine zG ?_ _|refine zI ?_|refine zH ?_ _));exact BK121.out)):gb121≠gb122));have n6_:=zA ((by rw [hg];exact Nat.ne_of_gt (blk_lt (g:=gb121) (o:=.cells #[.slice A0_0 l0_0.length c0_0,.slice A0_1 l0_1.length c0_1] 27 (0,0)) (by (with_reducible repeat (first|refine zG ?_ _|refine zI ?_|refine zH ?_ _));exact BK121.out)):gb122≠gb121));clear BK121;clear HB;have BK121:=n0_;have HB:=n1_;have BK122:=n2_;have GW122:=n3_;have GE122:=n4_;have NB121_122:=n5_;have NB122_121:=n6_;clear n0_ n1_ n2_ n3_ n4_ n5_ n6_;clear hb hbox hg;have hnb13:=NB121_122.out;have hnc13:=NB122_121.out;have hcz14_0:w12.cell? ⟨gb121,0,none⟩ = some (.slice A0_0 l0_0.length c0_0):=(zT BK121.out 0).trans rfl;have hcz14_1:w12.cell? ⟨gb121,1,none⟩ = some (.slice A0_1 l0_1.length c0_1):=(zT BK121.out 1).trans rfl;have hfz14_0:=zZ BK121.out 0;have hfz14_1:=zZ BK121.out 1;have hcz15_0:w12.cell? ⟨gb122,0,none⟩ = some (.slice A1_0 l1_0.length c1_0):=(zT BK122.out 0).trans rfl;have hcz15_1:w12.cell? ⟨gb122,1,none⟩ = some (.slice A1_1 l1_1.length c1_1):=(zT BK122.out 1).trans rfl;have hfz15_0:=zZ BK122.out 0;have hfz15_1:=zZ BK122.out 1)|((with_reducible refine gate_callee (f:=25) rfl ?_);refine goesL_ (some 9) rfl rfl Try.func25 (by kernel_rfl) rfl #[.slice A0_0 l0_0.length c0_0,.slice A1_0 l1_0.length c1_0] rfl (by (try simp only [zJ,zM,zN]);first|done|rfl|(simp only [zL,zK];rfl)) ?_;(with_reducible refine (laws_sameInts.calls k _ _ l0_0 _ _ l1_0 false _ ?side1 ?side2 ?side3 ?side4 A3.out).mono ?_);(case side1=>repeat (first|exact (zW HR0_0.out HB.out)|(with_reducible exact HR0_0.out)|apply zC_));(case side2=>exact HC0_0.out);(case side3=>repeat (first|exact (zW HR1_0.out HB.out)|(with_reducible exact HR1_0.out)|apply zC_));(case side4=>exact HC1_0.out);rintro e w' ⟨rfl,⟨nd,rfl⟩⟩;refine ⟨_,rfl,?_⟩))
  go_ret
  exact ⟨by first|rfl|(simp [errW_none,errW_some] <;> rfl)|(simp [*,errW_none,errW_some] <;> rfl),by repeat (first|(with_reducible first|exact HB.out|apply zD|apply zB|apply zC|refine zF ?_ GE121.out|refine zF ?_ GE122.out)|exact HB.out)⟩

/-! ### impl_PermValid: function 94 (a section of my own) -/
def impl_PermValid.lp (p:List Int):Nat→Nat→List Bool→Bool
 | 0,_,_=>true
 | d+1,i,seen=>if rd p i < 0 then false else if (p.length:Int)≤rd p i then false else if rdOf false seen (rd p i) = true then false else impl_PermValid.lp p d (i+1) (seen.set (rd p i).toNat true)
def impl_PermValid.f (l0:List Int):Option Bool:=if l0.length < 1 then some false else if 12 < l0.length then some false else some (impl_PermValid.lp l0 l0.length 0 (List.replicate 12 false))
set_option maxHeartbeats 8000000 in
set_option maxRecDepth 100000 in
theorem impl_PermValid.calls (A0:Option Addr) (c0:Nat) (l0:List Int) (r:Bool) (w:World) (hr0:Kd.C (Kd.int .i64) w A0 l0.length l0) (hc0:l0.length≤c0) (h:impl_PermValid.f l0 = some r) :
  Calls Try.prog 94 #[.slice A0 l0.length c0] w fun e w'=>e = .returned (.bool r)∧Below w.heap.size w w':=by
 have HR0:=zA hr0
 have HC0:=zA hc0
 clear hr0 hc0
 have HB:=zA (Below.refl w.heap.size w)
 unfold impl_PermValid.f at h
 by_cases c1:l0.length < 1
 ·rw [if_pos c1] at h
  obtain rfl:=zS h
  clear h
  have c1b:decide (l0.length < 1) = true:=zO c1
  go_enter Try.func94,Try.ntmps94
  go_wp2
  go_ret
  exact ⟨rfl,by exact zB_ HB.out⟩
 ·rw [if_neg c1] at h
  have c1b:decide (l0.length < 1) = false:=zP c1
  by_cases c2:12 < l0.length
  ·rw [if_pos c2] at h
   obtain rfl:=zS h
   clear h
   have c2b:decide (12 < l0.length) = true:=zO c2
   go_enter Try.func94,Try.ntmps94
   go_wp2
   go_ret
   exact ⟨rfl,by exact zB_ HB.out⟩
  ·rw [if_neg c2] at h
   have c2b:decide (12 < l0.length) = false:=zP c2
   have c1c:decide ((l0.length:Int) < 1) = false:=zP (by omega)
   have c2c:decide ((12:Int) < l0.length) = false:=zP (by omega)
   have HL:=zA (show 1≤l0.length∧l0.length≤12 from ⟨by omega,by omega⟩)
   have H:=zS h
   clear h
   have H':=zA H
   clear H c1 c2
   go_enter Try.func94,Try.ntmps94
   go_wp2
   go_loopg [17] l0.length (fun d v17 wr => ∃ (x:Int) (seen:List Bool),v17 = .int .i64 x∧Aside0 (0≤x∧x+d = l0.length)∧Aside0 (impl_PermValid.lp l0 d x.toNat seen = r)∧Aside0 (seen.length = 12)∧Aside0 (wr.heap[w.heap.size]? = some (.cells (seen.map Value.bool).toArray 86 (0,0)))∧Aside0 (Below w.heap.size w wr))
   case atStart=>exact ⟨0,List.replicate 12 false,rfl,⟨by omega,by omega⟩,H',⟨rfl⟩,⟨heap_alloc_new w _⟩,⟨zD HB.out _⟩⟩
   case round =>
    clear H'
    obtain ⟨x,seen,rfl,HX,HA,HS,HG,HB'⟩:=hrel
    cases gk with
    | zero =>
     have c:decide (x < (l0.length:Int)) = false:=zP (by have:=HX.out;omega)
     have hr:r = true:=by have:=HA.out;simp only [impl_PermValid.lp] at this;exact this.symm
     subst hr
     go_wp2
     go_ret
     exact ⟨rfl,HB'.out⟩
    | succ d =>
     have H:=HA.out
     clear HA
     have hx0:0≤x:=HX.out.1
     have hx1:x < (l0.length:Int):=by have:=HX.out;omega
     obtain ⟨n,hn⟩:∃ n:Nat,x = n:=⟨x.toNat,by omega⟩
     obtain ⟨ad,e,hcell⟩:=Kd.at_int HR0.out x hx0 hx1
     cases e
     replace hcell:=(HB'.out.cell (zY w _ hcell)).trans hcell
     obtain ⟨v,hv⟩:∃ v,v = rd l0 x:=⟨_,rfl⟩
     have hcx:decide (x < (l0.length:Int)) = true:=zO hx1
     rw [← hv] at hcell
     have hxn:rd l0 x.toNat = v:=by rw [hv,Int.toNat_of_nonneg hx0]
     simp only [impl_PermValid.lp] at H
     rw [hxn] at H
     replace hx0:=eq_true hx0
     replace hx1:=eq_true hx1
     have HV:=zA hv
     clear hv hn hxn
     by_cases a1:v < 0
     ·rw [if_pos a1] at H
      have b1:decide (v < 0) = true:=zO a1
      subst H
      clear a1
      go_wp2
      go_ret
      exact ⟨rfl,HB'.out⟩
     ·rw [if_neg a1] at H
      have b1:decide (v < 0) = false:=zP a1
      by_cases a2:(l0.length:Int)≤v
      ·rw [if_pos a2] at H
       have b2:decide ((l0.length:Int)≤v) = true:=zO a2
       subst H
       clear a1 a2
       go_wp2
       go_ret
       exact ⟨rfl,HB'.out⟩
      ·rw [if_neg a2] at H
       have b2:decide ((l0.length:Int)≤v) = false:=zP a2
       have v0:0≤v:=by omega
       have v12:v < 12:=by have:=HL.out;omega
       have hvl:v.toNat < seen.length:=by have:=HS.out;omega
       have hc2:wr.cell? ⟨w.heap.size,v.toNat,none⟩ = some (.bool (rdOf false seen v)):=by
        rw [cell_of_row wr _ _ _ _ _ HG.out]
        simp [rdOf,List.getD_eq_getElem?_getD,hvl]
       have hf2:wr.frozen? ⟨w.heap.size,v.toNat,none⟩ = false:=frozen_of_row wr _ _ _ _ HG.out
       have HVL:=zA hvl
       have V0:=zA v0
       clear hvl a1 a2
       replace v0:=eq_true v0
       replace v12:=eq_true v12
       by_cases a3:rdOf false seen v = true
       ·rw [if_pos a3] at H
        rw [a3] at hc2
        subst H
        clear a3
        go_wp2
        go_ret
        exact ⟨rfl,HB'.out⟩
       ·rw [if_neg a3] at H
        rw [Bool.eq_false_iff.mpr a3] at hc2
        clear a3
        have H':=zA H
        clear H
        go_wp2
        go_roundg d
        case measure=>omega
        case rel =>
         have hw:wrap64 (x+1) = x+1:=by have:=HX.out;have:=HL.out;unfold wrap64;omega
         refine ⟨wrap64 (x+1),seen.set v.toNat true,rfl,⟨by rw [hw];have:=HX.out;omega⟩,⟨?_⟩,⟨by simp [HS.out]⟩,⟨?_⟩,⟨zF HB'.out (Nat.le_refl _)⟩⟩
         ·rw [hw,show (x+1).toNat = x.toNat+1 by have:=HX.out;omega]
          exact H'.out
         ·rw [heap_setCell_same wr _ _ _ _ _ HG.out]
          simp [List.map_set]

/-! ### slices_Max_int_int: function 95 (a section of my own) -/
def slices_Max_int_int.lp (p:List Int):Nat→Nat→Int→Int
 | 0,_,m=>m
 | d+1,i,m=>slices_Max_int_int.lp p d (i+1) (mx m (rd p i))
def slices_Max_int_int.f (l0:List Int):Option Int:=if l0.length < 1 then none else some (slices_Max_int_int.lp l0 (l0.length - 1) 1 (rd l0 0))
set_option maxHeartbeats 8000000 in
set_option maxRecDepth 100000 in
theorem slices_Max_int_int.calls (A0:Option Addr) (c0:Nat) (l0:List Int) (r:Int) (w:World) (hr0:Kd.C (Kd.int .i64) w A0 l0.length l0) (hc0:l0.length≤c0) (h:slices_Max_int_int.f l0 = some r) :
  Calls Try.prog 95 #[.slice A0 l0.length c0] w fun e w'=>e = .returned (.int .i64 r)∧Drawn0 w w':=by
 have HR0:=zA hr0
 have HC0:=zA hc0
 clear hr0 hc0
 unfold slices_Max_int_int.f at h
 by_cases c1:l0.length < 1
 ·rw [if_pos c1] at h;cases h
 ·rw [if_neg c1] at h
  have H':=zA (zS h)
  clear h
  have HN:=zA (HR0.out.2.1)
  have HL:=zA (show 1≤l0.length by omega)
  have c1b:decide ((l0.length:Int) < 1) = false:=zP (by omega)
  have c1d:decide (l0.length < 1) = false:=zP (by omega)
  have p0:(0:Int)≤0:=by omega
  have q0:(0:Int) < (l0.length:Int):=by omega
  obtain ⟨ad,e,hcell0⟩:=Kd.at_int HR0.out 0 p0 q0
  cases e
  have q00:0 < l0.length:=by omega
  clear c1
  have hz0:Int.toNat 0 = 0:=rfl
  rw [hz0,Addr.add_zero'] at hcell0
  clear hz0
  replace p0:=eq_true p0
  replace q0:=eq_true q0
  go_enter Try.func95,Try.ntmps95
  go_wp2
  go_loopg [3,4] (l0.length - 1) (fun d v3 v4 wr => ∃ (m x:Int),v3 = .int .i64 m∧v4 = .int .i64 x∧Aside0 (1≤x∧x+d = l0.length)∧Aside0 (slices_Max_int_int.lp l0 d x.toNat m = r)∧Drawn0 w wr)
  case atStart=>exact ⟨rd l0 0,1,rfl,rfl,⟨by have:=HL.out;omega⟩,H',Drawn0.refl _⟩
  case round =>
   clear H'
   obtain ⟨m,x,rfl,rfl,HX,HA,⟨nd,rfl⟩⟩:=hrel
   cases gk with
   | zero =>
    have c:decide (x < (l0.length:Int)) = false:=zP (by have:=HX.out;omega)
    have hr:m = r:=by have:=HA.out;simpa only [slices_Max_int_int.lp] using this
    subst hr
    go_wp2
    go_ret
    exact ⟨rfl,by repeat (first|exact Drawn0.refl _|apply Drawn0.step)⟩
   | succ d =>
    have H:=HA.out
    clear HA
    simp only [slices_Max_int_int.lp] at H
    have hx0:0≤x:=by have:=HX.out;omega
    have hx1:x < (l0.length:Int):=by have:=HX.out;omega
    rw [Int.toNat_of_nonneg hx0] at H
    obtain ⟨ad2,e2,hcell⟩:=Kd.at_int HR0.out x hx0 hx1
    cases e2
    have hw:wrap64 (x+1) = x+1:=by have:=HX.out;have:=HN.out;unfold wrap64;omega
    have HW:=zA hw
    clear hw
    replace hcell:=(Drawn0.below ⟨⟨nd,rfl⟩⟩:Below w.heap.size w (w.drewN nd)).cell (zY w _ hcell) |>.trans hcell
    have hcx:decide (x < (l0.length:Int)) = true:=zO hx1
    have H':=zA H
    clear H
    replace hx0:=eq_true hx0
    replace hx1:=eq_true hx1
    go_wp2
    all_goals
     go_roundg d
     case measure=>omega
     case rel =>
      refine ⟨mx m (rd l0 x),wrap64 (x+1),?_,rfl,⟨by rw [HW.out];have:=HX.out;omega⟩,⟨?_⟩,by repeat (first|exact Drawn0.refl _|apply Drawn0.step)⟩
      ·unfold mx
       first
       | rw [if_pos (by assumption)]
       | rw [if_neg (Int.not_lt.mpr (by assumption))]
      ·rw [HW.out,show (x+1).toNat = x.toNat+1 by have:=HX.out;omega]
       exact H'.out

/-! ### impl_still: function 128 -/
def impl_still.l0:Nat→List Int→Int→Int→Option (List Int)
 | 0,_,_,_=>none
 | k+1,x3,x8,x9=>if x9 < x8 then (if 0≤x9 then (if x9 < (x3.length:Int) then (impl_still.l0 k (x3.set (x9:Int).toNat x9) x8 (wrap64 (x9+1))) else (none)) else (none)) else (some x3)
def impl_still.f (k:Nat) (a0:Int):Option (List Int):=if 0≤a0 then (if (a0:Int).toNat≤35184372088832 then ((some (List.replicate (a0:Int).toNat 0:List Int)).bind fun y128=>(impl_still.l0 k y128 (y128.length:Int) 0)) else (none)) else (none)
theorem impl_still.mono_l:∀ k,(∀ y0 y1 y2,LeO (impl_still.l0 k y0 y1 y2) (impl_still.l0 (k+1) y0 y1 y2))
 | 0=>fun _ _ _ r h=>by simp [impl_still.l0] at h
 | k+1=>by
  have ih0:=impl_still.mono_l k
  ·intro y0 y1 y2
   unfold impl_still.l0
   repeat' first
   | (with_reducible exact ih0 _ _ _)
   | (with_reducible exact LeO.refl _)
   | (with_reducible exact za _)
   | (with_reducible refine zc ?_ ?_)
   | (with_reducible refine zb ?_ (fun _=>?_))
theorem impl_still.mono:∀ a0 k,LeO (impl_still.f k a0) (impl_still.f (k+1) a0):=by
 intro a0 k
 have ih0:=impl_still.mono_l k
 unfold impl_still.f
 repeat' first
   | (with_reducible exact ih0 _ _ _)
   | (with_reducible exact LeO.refl _)
   | (with_reducible exact za _)
   | (with_reducible refine zc ?_ ?_)
   | (with_reducible refine zb ?_ (fun _=>?_))
set_option maxHeartbeats 8000000 in
set_option maxRecDepth 100000 in
theorem impl_still.calls (k:Nat) (a0:Int) (r:List Int) (w:World) (h:impl_still.f k a0 = some r) :
  Calls Try.prog 128 #[.int .i64 a0] w fun e w' => ∃ v0_:Value,e = .returned (v0_)∧Kd.R (Kd.int .i64) 3 w' w.heap.size (fun _=>True) v0_ r∧Below w.heap.size w w':=by
 have HB:=zA (Below.refl w.heap.size w)
 have H:(if 0≤a0 then (if (a0:Int).toNat≤35184372088832 then ((some (List.replicate (a0:Int).toNat 0:List Int)).bind fun y128=>(impl_still.l0 k y128 (y128.length:Int) 0)) else (none)) else (none)) = some r:=h
 clear h
 by_cases c2:0≤a0
 ·rw [if_pos c2] at H
  have c2b0:=eq_true c2
  have c2b1:decide (0≤a0) = true:=zO c2
  clear c2
  by_cases c3:(a0:Int).toNat≤35184372088832
  ·rw [if_pos c3] at H
   have c3b0:=eq_true c3
   have c3b1:decide ((a0:Int).toNat≤35184372088832) = true:=zO c3
   clear c3
   obtain ⟨y128,hy128⟩:∃ y_:List Int,y_ = (List.replicate (a0:Int).toNat 0):=⟨_,rfl⟩
   replace H:(impl_still.l0 k y128 (y128.length:Int) 0) = some r:=by (try rw [hy128]);first|with_reducible exact H|with_reducible exact zS_ H|exact H
   have Ny128:=zA hy128
   clear hy128
   have H':=zA H
   clear H
   go_enter Try.func128,Try.ntmps128
   go_wp2_with (first|((with_reducible refine gate_dst (N:=6) rfl ?_);refine Kd.R_make (Kd.int .i64) _ 3 rfl (N:=6) rfl 23 _ _ rfl a0 rfl rfl Try.underlying23 (.int .i64 0) 8 info3 rfl (by decide) (by omega) 0 (ok:=fun _=>True) (okp:=fun _=>True) rfl (fun _ hk=>hk) trivial (zE (by with_reducible assumption)) (Nat.le_trans (Nat.mul_le_mul_right _ (zE (by with_reducible assumption):a0.toNat≤35184372088832)) (by omega)) (Below.refl _ _) (Nat.le_refl _) ?_;intro v129 w4 ho5 hb hg_ hnew_;clear hg_ hnew_;(first|rw [← Ny128.out] at ho5|(simp only [Int.reduceToNat] at ho5;rw [← Ny128.out] at ho5));have n0_:=zA (ze ho5 (zQ (by exact zB_ HB.out)));have n1_:=zA (zR (by exact zB_ HB.out) hb);clear HB;have HO130:=n0_;have HB:=n1_;clear n0_ n1_;clear hb ho5;obtain ⟨Ao6,co6,eo6⟩:=zg HO130.out;subst eo6))
   go_loopg [9] k (fun kq v9 w' => ∃ (x3_1:List Int) (x9_1:Int),v9 = .int .i64 x9_1∧Aside0 (impl_still.l0 kq x3_1 (y128.length:Int) x9_1 = some r)∧Aside0 (kq≤k)∧Aside0 (Kd.R (Kd.int .i64) 3 w' w.heap.size (fun _=>True) (.slice Ao6 y128.length co6) x3_1)∧Aside0 (Below w.heap.size w w'))
   case atStart=>exact ⟨(y128),(0),(by first|rfl|(simp;done)|(simp [*];done)),H',⟨Nat.le_refl _⟩,⟨by apply zR_;exact HO130.out⟩,⟨by exact zB_ HB.out⟩⟩
   case round =>
    clear H'
    (try clear c1);(try clear c2);(try clear c2b0);(try clear c2b1);(try clear p2);(try clear c3);(try clear c3b0);(try clear c3b1)
    obtain ⟨x3_1,x9_1,rfl,HA,HK1,HO_3,HB⟩:=hrel
    have hl3_1:=(zU HO_3.out).1
    rw [hl3_1] at HO_3
    (try simp only [hl3_1])
    cases gk with
    | zero=>exact absurd HA.out (by simp [impl_still.l0])
    | succ k1 =>
     have H:=HA.out
     clear HA
     simp only [impl_still.l0] at H
     by_cases c7:x9_1 < (y128.length:Int)
     ·rw [if_pos c7] at H
      have c7b0:decide (x9_1 < (y128.length:Int)) = true:=zO c7
      clear c7
      by_cases c8:0≤x9_1
      ·rw [if_pos c8] at H
       have c8b0:decide (0≤x9_1) = true:=zO c8
       clear c8
       by_cases c9:x9_1 < (x3_1.length:Int)
       ·rw [if_pos c9] at H
        have c9b0:decide (x9_1 < (x3_1.length:Int)) = true:=zO c9
        clear c9
        obtain ⟨y131,hy131⟩:∃ y_:List Int,y_ = (x3_1.set (x9_1:Int).toNat x9_1):=⟨_,rfl⟩
        replace H:(impl_still.l0 k1 y131 (y128.length:Int) (wrap64 (x9_1+1))) = some r:=by (try rw [hy131]);first|with_reducible exact H|with_reducible exact zS_ H|exact H
        have Ny131:=zA hy131
        clear hy131
        have H':=zA H
        clear H
        have p10:0≤(x9_1:Int):=zE (by with_reducible assumption)
        have q10:(x9_1:Int) < ((x3_1.length:Int):Int):=zE (by with_reducible assumption)
        obtain ⟨go10,co10,eo10,gb10,gl10,cl10,HG10⟩:=Kd.R_form HO_3.out (by omega)
        (first|cases eo10|(injection eo10 with ea_ en_ ec_;(first|subst ea_|(injection ea_ with ea_;subst ea_));subst ec_;clear en_))
        have GB10:=zA gb10
        have GG10:=zA HG10
        clear gb10 gl10 HG10
        obtain ⟨hx10_0,hf10_0⟩:=Kd.R_celln 0 HO_3.out (x9_1:Int) p10 q10
        replace p10:=eq_true p10
        replace q10:=eq_true q10
        have HP11:=Kd.R_putg HO_3.out (x9_1:Int) x9_1
        go_wp2_with (first|((with_reducible refine gate_store (t:=3) (p:=15) rfl ?_);refine store_event (t:=3) (p:=15) (v:=?vo_w12) (w1:=(wr.setCell ⟨go10,(x9_1:Int).toNat,none⟩ (.int .i64 x9_1))) ?hg ?ho ?hn ?hr ?_;(case ho=>rfl);(case hg=>rfl);(case hn=>rfl);(case hr=>first|(go_simp;done)|(go_simp;rfl));intro w12 hw;have hg:wr.grownBy w12 (some go10):=(by rw [hw];exact HP11.2);have hp_:Kd.R (Kd.int .i64) 3 w12 w.heap.size (fun _=>True) (.slice (some ⟨go10,0,none⟩) x3_1.length co6) y131:=(by rw [hw,Ny131.out];exact HP11.1);clear HP11;have n0_:=zA (hp_);have n1_:=zA ((by rw [hw];exact zF (HB.out) GB10.out:Below w.heap.size w w12));clear HO_3;clear HB;have HO_3:=n0_;have HB:=n1_;clear n0_ n1_;clear hg hw hp_))
        (try simp only [← hl3_1])
        go_roundg k1
        case measure=>have:=HK1.out;omega
        case rel=>exact ⟨(y131),(wrap64 (x9_1+1)),(by first|rfl|(simp;done)|(simp [*];done)),H',⟨by have:=HK1.out;omega⟩,⟨by (try simp only [hl3_1]);apply zR_;exact HO_3.out⟩,⟨by exact zB_ HB.out⟩⟩
       ·rw [if_neg c9] at H
        exact absurd H (by simp)
      ·rw [if_neg c8] at H
       exact absurd H (by simp)
     ·rw [if_neg c7] at H
      have c7b0:decide (x9_1 < (y128.length:Int)) = false:=zP c7
      try have c7b9:decide (x9_1 < (x3_1.length:Int)) = false:=by rw [← hl3_1];exact c7b0
      clear c7
      obtain rfl:=zS H
      go_wp2
      go_ret
      exact ⟨_,by first|rfl|(simp [errW_none,errW_some] <;> rfl)|(simp [*,errW_none,errW_some] <;> rfl),by apply zR_;exact HO_3.out,by exact zB_ HB.out⟩
  ·rw [if_neg c3] at H
   exact absurd H (by simp)
 ·rw [if_neg c2] at H
  exact absurd H (by simp)

/-! ### impl_orbits: function 96 -/
mutual
def impl_orbits.l0:Nat→List (List Int)→List Int→Bool→Option (List Int)
 | 0,_,_,_=>none
 | k+1,x0,x3,x4=>if x4 = true then (impl_orbits.l1 k x0 x3 false x0 (x0.length:Int) 0) else (some x3)
def impl_orbits.l1:Nat→List (List Int)→List Int→Bool→List (List Int)→Int→Int→Option (List Int)
 | 0,_,_,_,_,_,_=>none
 | k+1,x0,x3,x4,x16,x17,x18=>if x18 < x17 then (if 0≤x18 then (if x18 < (x16.length:Int) then (impl_orbits.l2 k x0 x3 x4 x16 x17 x18 (rd_L1 x16 x18) ((rd_L1 x16 x18).length:Int) 0) else (none)) else (none)) else (impl_orbits.l0 k x0 x3 x4)
def impl_orbits.l2:Nat→List (List Int)→List Int→Bool→List (List Int)→Int→Int→List Int→Int→Int→Option (List Int)
 | 0,_,_,_,_,_,_,_,_,_=>none
 | k+1,x0,x3,x4,x16,x17,x18,x22,x23,x24=>if x24 < x23 then (if 0≤x24 then (if x24 < (x22.length:Int) then (if x24 < (x3.length:Int) then (if 0≤(rd x22 x24) then (if (rd x22 x24) < (x3.length:Int) then (if (rd x3 x24) = (mn (rd x3 x24) (rd x3 (rd x22 x24))) then (if (rd x3 (rd x22 x24)) = (mn (rd x3 x24) (rd x3 (rd x22 x24))) then (impl_orbits.l2 k x0 x3 x4 x16 x17 x18 x22 x23 (wrap64 (x24+1))) else (impl_orbits.l2 k x0 ((x3.set (x24:Int).toNat (mn (rd x3 x24) (rd x3 (rd x22 x24)))).set ((rd x22 x24):Int).toNat (mn (rd x3 x24) (rd x3 (rd x22 x24)))) true x16 x17 x18 x22 x23 (wrap64 (x24+1)))) else (impl_orbits.l2 k x0 ((x3.set (x24:Int).toNat (mn (rd x3 x24) (rd x3 (rd x22 x24)))).set ((rd x22 x24):Int).toNat (mn (rd x3 x24) (rd x3 (rd x22 x24)))) true x16 x17 x18 x22 x23 (wrap64 (x24+1)))) else (none)) else (none)) else (none)) else (none)) else (none)) else (impl_orbits.l1 k x0 x3 x4 x16 x17 (wrap64 (x18+1)))
end
def impl_orbits.f (k:Nat) (l0:List (List Int)):Option (List Int):=if 0 < (l0.length:Int) then ((impl_still.f k ((rd_L1 l0 0).length:Int)).bind fun t133=>(impl_orbits.l0 k l0 t133 true)) else (none)
theorem impl_orbits.mono_l:∀ k,(∀ y0 y1 y2,LeO (impl_orbits.l0 k y0 y1 y2) (impl_orbits.l0 (k+1) y0 y1 y2))∧(∀ y0 y1 y2 y3 y4 y5,LeO (impl_orbits.l1 k y0 y1 y2 y3 y4 y5) (impl_orbits.l1 (k+1) y0 y1 y2 y3 y4 y5))∧(∀ y0 y1 y2 y3 y4 y5 y6 y7 y8,LeO (impl_orbits.l2 k y0 y1 y2 y3 y4 y5 y6 y7 y8) (impl_orbits.l2 (k+1) y0 y1 y2 y3 y4 y5 y6 y7 y8))
 | 0=>⟨fun _ _ _ r h=>by simp [impl_orbits.l0] at h,fun _ _ _ _ _ _ r h=>by simp [impl_orbits.l1] at h,fun _ _ _ _ _ _ _ _ _ r h=>by simp [impl_orbits.l2] at h⟩
 | k+1=>by
  obtain ⟨ih0,ih1,ih2⟩:=impl_orbits.mono_l k
  refine ⟨?_,?_,?_⟩
  ·intro y0 y1 y2
   unfold impl_orbits.l0
   repeat' first
   | (with_reducible exact ih0 _ _ _)
   | (with_reducible exact ih1 _ _ _ _ _ _)
   | (with_reducible exact ih2 _ _ _ _ _ _ _ _ _)
   | (with_reducible exact impl_still.mono _ _)
   | (with_reducible exact LeO.refl _)
   | (with_reducible exact za _)
   | (with_reducible refine zc ?_ ?_)
   | (with_reducible refine zb ?_ (fun _=>?_))
  ·intro y0 y1 y2 y3 y4 y5
   unfold impl_orbits.l1
   repeat' first
   | (with_reducible exact ih0 _ _ _)
   | (with_reducible exact ih1 _ _ _ _ _ _)
   | (with_reducible exact ih2 _ _ _ _ _ _ _ _ _)
   | (with_reducible exact impl_still.mono _ _)
   | (with_reducible exact LeO.refl _)
   | (with_reducible exact za _)
   | (with_reducible refine zc ?_ ?_)
   | (with_reducible refine zb ?_ (fun _=>?_))
  ·intro y0 y1 y2 y3 y4 y5 y6 y7 y8
   unfold impl_orbits.l2
   repeat' first
   | (with_reducible exact ih0 _ _ _)
   | (with_reducible exact ih1 _ _ _ _ _ _)
   | (with_reducible exact ih2 _ _ _ _ _ _ _ _ _)
   | (with_reducible exact impl_still.mono _ _)
   | (with_reducible exact LeO.refl _)
   | (with_reducible exact za _)
   | (with_reducible refine zc ?_ ?_)
   | (with_reducible refine zb ?_ (fun _=>?_))
theorem impl_orbits.mono:∀ a0 k,LeO (impl_orbits.f k a0) (impl_orbits.f (k+1) a0):=by
 intro a0 k
 obtain ⟨ih0,ih1,ih2⟩:=impl_orbits.mono_l k
 unfold impl_orbits.f
 repeat' first
   | (with_reducible exact ih0 _ _ _)
   | (with_reducible exact ih1 _ _ _ _ _ _)
   | (with_reducible exact ih2 _ _ _ _ _ _ _ _ _)
   | (with_reducible exact impl_still.mono _ _)
   | (with_reducible exact LeO.refl _)
   | (with_reducible exact za _)
   | (with_reducible refine zc ?_ ?_)
   | (with_reducible refine zb ?_ (fun _=>?_))
set_option maxHeartbeats 8000000 in
set_option maxRecDepth 100000 in
theorem impl_orbits.calls (k:Nat) (A0:Option Addr) (c0:Nat) (l0:List (List Int)) (r:List Int) (w:World) (hr0:Kd.C (Kd.slice 3 (Kd.int .i64)) w A0 l0.length l0) (hc0:l0.length≤c0) (h:impl_orbits.f k l0 = some r) :
  Calls Try.prog 96 #[.slice A0 l0.length c0] w fun e w' => ∃ v0_:Value,e = .returned (v0_)∧Kd.R (Kd.int .i64) 3 w' w.heap.size (fun _=>True) v0_ r∧Below w.heap.size w w':=by
 have HR0:=zA hr0
 have HC0:=zA hc0
 clear hr0 hc0
 have HB:=zA (Below.refl w.heap.size w)
 have H:(if 0 < (l0.length:Int) then ((impl_still.f k ((rd_L1 l0 0).length:Int)).bind fun t133=>(impl_orbits.l0 k l0 t133 true)) else (none)) = some r:=h
 clear h
 by_cases c2:0 < (l0.length:Int)
 ·rw [if_pos c2] at H
  have c2b0:decide (0 < (l0.length:Int)) = true:=zO c2
  have c2b1:decide (0 < l0.length) = true:=zO (by omega)
  clear c2
  replace H:=zz0 H
  obtain ⟨t133,A30,H⟩:=H
  try dsimp only at H
  have A3:=zA A30
  clear A30
  have H':=zA H
  clear H
  have p132:0≤(0:Int):=(by omega)
  have q132:0 < (l0.length:Int):=zE (by with_reducible assumption)
  obtain ⟨ad132,A132_0,c132_0,e132,hx132_0,hl132_0,hi132_0⟩:=at_L1 HR0.out 0 p132 q132
  cases e132
  have qi132:(0 < l0.length) = True:=eq_true (by omega)
  (try rw [show ((0:Int)).toNat = 0 from rfl] at hx132_0)
  (try rw [Addr.add_zero'] at hx132_0)
  have HR132_0:=zA hi132_0
  have HC132_0:=zA hl132_0
  clear hi132_0 hl132_0
  replace p132:=eq_true p132
  replace q132:=eq_true q132
  go_enter Try.func96,Try.ntmps96
  go_wp2_with (first|(go_at_call 128;(with_reducible refine (impl_still.calls k ((rd_L1 l0 0).length:Int) t133 _ A3.out).mono ?_);rintro e w4 ⟨v134,rfl,ho0,hb⟩;have n0_:=zA (ze ho0 (zQ (by exact zB_ HB.out)));have n1_:=zA (zR (by exact zB_ HB.out) hb);clear HB;have HO135:=n0_;have HB:=n1_;clear n0_ n1_;(try clear hb);(try clear hb2);(try clear hk);(try clear hi);(try clear ho0)))
  repeat (go_quiet (fail);try go_wp2_with (first|(go_at_call 128;(with_reducible refine (impl_still.calls k ((rd_L1 l0 0).length:Int) t133 _ A3.out).mono ?_);rintro e w4 ⟨v134,rfl,ho0,hb⟩;have n0_:=zA (ze ho0 (zQ (by exact zB_ HB.out)));have n1_:=zA (zR (by exact zB_ HB.out) hb);clear HB;have HO135:=n0_;have HB:=n1_;clear n0_ n1_;(try clear hb);(try clear hb2);(try clear hk);(try clear hi);(try clear ho0))))
  go_loopg [4] k (fun kq v4 w' => ∃ (x3_1:List Int) (x4_1:Bool),v4 = .bool x4_1∧Aside0 (impl_orbits.l0 kq l0 x3_1 x4_1 = some r)∧Aside0 (kq≤k)∧Aside0 (Kd.R (Kd.int .i64) 3 w' w.heap.size (fun _=>True) v134 x3_1)∧Aside0 (Below w.heap.size w w'))
  case atStart=>exact ⟨(t133),(true),(by first|rfl|(simp;done)|(simp [*];done)),H',⟨Nat.le_refl _⟩,⟨by apply zR_;exact HO135.out⟩,⟨by exact zB_ HB.out⟩⟩
  case round =>
   clear H'
   (try clear c1);(try clear p1);(try clear q1);(try clear hx1);(try clear qi1);(try clear c2);(try clear c2b0);(try clear c2b1);(try clear p2);(try clear hx132_0);(try clear p132);(try clear q132)
   obtain ⟨x3_1,x4_1,rfl,HA,HK1,HO_3,HB⟩:=hrel
   cases gk with
   | zero=>exact absurd HA.out (by simp [impl_orbits.l0])
   | succ k1 =>
    have H:=HA.out
    clear HA
    simp only [impl_orbits.l0] at H
    by_cases c5:x4_1 = true
    ·subst c5
     rw [if_pos rfl] at H;try dsimp only at H
     have H':=zA H
     clear H
     go_wp2
     repeat (go_quiet (fail);try go_wp2)
     go_loopg [4,18] k1 (fun kq v4 v18 w' => ∃ (x3_2:List Int) (x4_2:Bool) (x18_2:Int),v4 = .bool x4_2∧v18 = .int .i64 x18_2∧Aside0 (impl_orbits.l1 kq l0 x3_2 x4_2 l0 (l0.length:Int) x18_2 = some r)∧Aside0 (kq≤k1)∧Aside0 (Kd.R (Kd.int .i64) 3 w' w.heap.size (fun _=>True) v134 x3_2)∧Aside0 (Below w.heap.size w w'))
     case atStart=>exact ⟨(x3_1),(false),(0),(by first|rfl|(simp;done)|(simp [*];done)),(by first|rfl|(simp;done)|(simp [*];done)),H',⟨Nat.le_refl _⟩,⟨by apply zR_;exact HO_3.out⟩,⟨by exact zB_ HB.out⟩⟩
     case round =>
      clear H'
      (try clear c1);(try clear p1);(try clear q1);(try clear hx1);(try clear qi1);(try clear c2);(try clear c2b0);(try clear c2b1);(try clear p2);(try clear c5);(try clear hx132_0);(try clear p1);(try clear p132);(try clear p2);(try clear q1);(try clear q132)
      obtain ⟨x3_2,x4_2,x18_2,rfl,rfl,HA,HK2,HO_3,HB⟩:=hrel
      cases gk with
      | zero=>exact absurd HA.out (by simp [impl_orbits.l1])
      | succ k2 =>
       have H:=HA.out
       clear HA
       simp only [impl_orbits.l1] at H
       by_cases c6:x18_2 < (l0.length:Int)
       ·rw [if_pos c6] at H
        have c6b0:decide (x18_2 < (l0.length:Int)) = true:=zO c6
        clear c6
        by_cases c7:0≤x18_2
        ·rw [if_pos c7] at H
         have c7b0:decide (0≤x18_2) = true:=zO c7
         clear c7
         by_cases c8:x18_2 < (l0.length:Int)
         ·rw [if_pos c8] at H
          have c8b0:decide (x18_2 < (l0.length:Int)) = true:=zO c8
          clear c8
          have H':=zA H
          clear H
          have p136:0≤(x18_2:Int):=zE (by with_reducible assumption)
          have q136:x18_2 < (l0.length:Int):=zE (by with_reducible assumption)
          obtain ⟨ad136,A136_0,c136_0,e136,hx136_0,hl136_0,hi136_0⟩:=at_L1 HR0.out x18_2 p136 q136
          obtain rfl:ad132 = ad136:=(by injection e136)
          replace hx136_0:=(HB.out.cell (zY w _ hx136_0)).trans hx136_0
          have HR136_0:=zA hi136_0
          have HC136_0:=zA hl136_0
          clear hi136_0 hl136_0
          replace p136:=eq_true p136
          replace q136:=eq_true q136
          go_wp2
          repeat (go_quiet (fail);try go_wp2)
          go_loopg [4,24] k2 (fun kq v4 v24 w' => ∃ (x3_3:List Int) (x4_3:Bool) (x24_3:Int),v4 = .bool x4_3∧v24 = .int .i64 x24_3∧Aside0 (impl_orbits.l2 kq l0 x3_3 x4_3 l0 (l0.length:Int) x18_2 (rd_L1 l0 x18_2) ((rd_L1 l0 x18_2).length:Int) x24_3 = some r)∧Aside0 (kq≤k2)∧Aside0 (Kd.R (Kd.int .i64) 3 w' w.heap.size (fun _=>True) v134 x3_3)∧Aside0 (Below w.heap.size w w'))
          case atStart=>exact ⟨(x3_2),(x4_2),(0),(by first|rfl|(simp;done)|(simp [*];done)),(by first|rfl|(simp;done)|(simp [*];done)),H',⟨Nat.le_refl _⟩,⟨by apply zR_;exact HO_3.out⟩,⟨by exact zB_ HB.out⟩⟩
          case round =>
           clear H'
           (try clear c1);(try clear p1);(try clear q1);(try clear hx1);(try clear qi1);(try clear c2);(try clear c2b0);(try clear c2b1);(try clear p2);(try clear c5);(try clear c6);(try clear c6b0);(try clear c7);(try clear c7b0);(try clear c8);(try clear c8b0);(try clear hx132_0);(try clear hx136_0);(try clear p1);(try clear p132);(try clear p136);(try clear p2);(try clear q1);(try clear q132);(try clear q136)
           obtain ⟨x3_3,x4_3,x24_3,rfl,rfl,HA,HK3,HO_3,HB⟩:=hrel
           cases gk with
           | zero=>exact absurd HA.out (by simp [impl_orbits.l2])
           | succ k3 =>
            have H:=HA.out
            clear HA
            simp only [impl_orbits.l2] at H
            by_cases c9:x24_3 < ((rd_L1 l0 x18_2).length:Int)
            ·rw [if_pos c9] at H
             have c9b0:decide (x24_3 < ((rd_L1 l0 x18_2).length:Int)) = true:=zO c9
             clear c9
             by_cases c10:0≤x24_3
             ·rw [if_pos c10] at H
              have c10b0:decide (0≤x24_3) = true:=zO c10
              clear c10
              by_cases c11:x24_3 < ((rd_L1 l0 x18_2).length:Int)
              ·rw [if_pos c11] at H
               have c11b0:decide (x24_3 < ((rd_L1 l0 x18_2).length:Int)) = true:=zO c11
               clear c11
               by_cases c12:x24_3 < (x3_3.length:Int)
               ·rw [if_pos c12] at H
                have c12b0:decide (x24_3 < (x3_3.length:Int)) = true:=zO c12
                clear c12
                by_cases c13:0≤(rd (rd_L1 l0 x18_2) x24_3)
                ·rw [if_pos c13] at H
                 have c13b0:decide (0≤(rd (rd_L1 l0 x18_2) x24_3)) = true:=zO c13
                 clear c13
                 by_cases c14:(rd (rd_L1 l0 x18_2) x24_3) < (x3_3.length:Int)
                 ·rw [if_pos c14] at H
                  have c14b0:decide ((rd (rd_L1 l0 x18_2) x24_3) < (x3_3.length:Int)) = true:=zO c14
                  clear c14
                  obtain ⟨ji15,hji15⟩:∃ j_:Int,(mn (rd x3_3 x24_3) (rd x3_3 (rd (rd_L1 l0 x18_2) x24_3))) = j_:=⟨_,rfl⟩
                  replace H:(if (rd x3_3 x24_3) = (ji15) then (if (rd x3_3 (rd (rd_L1 l0 x18_2) x24_3)) = (ji15) then (impl_orbits.l2 k3 l0 x3_3 x4_3 l0 (l0.length:Int) x18_2 (rd_L1 l0 x18_2) ((rd_L1 l0 x18_2).length:Int) (wrap64 (x24_3+1))) else (impl_orbits.l2 k3 l0 ((x3_3.set (x24_3:Int).toNat (ji15)).set ((rd (rd_L1 l0 x18_2) x24_3):Int).toNat (ji15)) true l0 (l0.length:Int) x18_2 (rd_L1 l0 x18_2) ((rd_L1 l0 x18_2).length:Int) (wrap64 (x24_3+1)))) else (impl_orbits.l2 k3 l0 ((x3_3.set (x24_3:Int).toNat (ji15)).set ((rd (rd_L1 l0 x18_2) x24_3):Int).toNat (ji15)) true l0 (l0.length:Int) x18_2 (rd_L1 l0 x18_2) ((rd_L1 l0 x18_2).length:Int) (wrap64 (x24_3+1)))) = some r:=by first|(rw [hji15] at H;exact H)|(simp only [hji15] at H ⊢;exact H)
                  have hji15_:(if (rd x3_3 (rd (rd_L1 l0 x18_2) x24_3)) < (rd x3_3 x24_3) then (rd x3_3 (rd (rd_L1 l0 x18_2) x24_3)) else (rd x3_3 x24_3)) = ji15:=hji15
                  by_cases c16:(rd x3_3 x24_3) = (ji15)
                  ·rw [if_pos c16] at H
                   have c16b0:((rd x3_3 x24_3) == (ji15)) = true:=beq_iff_eq.mpr c16
                   have c16b1:((rd x3_3 x24_3) != (ji15)) = false:=bne_eq_false_iff_eq.mpr c16
                   clear c16
                   by_cases c17:(rd x3_3 (rd (rd_L1 l0 x18_2) x24_3)) = (ji15)
                   ·rw [if_pos c17] at H
                    have c17b0:((rd x3_3 (rd (rd_L1 l0 x18_2) x24_3)) == (ji15)) = true:=beq_iff_eq.mpr c17
                    have c17b1:((rd x3_3 (rd (rd_L1 l0 x18_2) x24_3)) != (ji15)) = false:=bne_eq_false_iff_eq.mpr c17
                    clear c17
                    have H':=zA H
                    clear H
                    have p137:0≤(x24_3:Int):=zE (by with_reducible assumption)
                    have q137:x24_3 < ((rd_L1 l0 x18_2).length:Int):=zE (by with_reducible assumption)
                    obtain ⟨ad137,e137,hx137_0⟩:=Kd.at_int HR136_0.out x24_3 p137 q137
                    cases e137
                    replace hx137_0:=(HB.out.cell (zY w _ hx137_0)).trans hx137_0
                    replace p137:=eq_true p137
                    replace q137:=eq_true q137
                    obtain ⟨Ao18,co18,eo18⟩:=zg HO_3.out
                    subst eo18
                    have p138:0≤(x24_3:Int):=zE (by with_reducible assumption)
                    have q138:x24_3 < (x3_3.length:Int):=zE (by with_reducible assumption)
                    obtain ⟨ad138,e138,hx138_0⟩:=Kd.at_int (zU HO_3.out).2.2 x24_3 p138 q138
                    cases e138
                    replace p138:=eq_true p138
                    replace q138:=eq_true q138
                    have p139:0≤((rd (rd_L1 l0 x18_2) x24_3):Int):=zE (by with_reducible assumption)
                    have q139:(rd (rd_L1 l0 x18_2) x24_3) < (x3_3.length:Int):=zE (by with_reducible assumption)
                    obtain ⟨ad139,e139,hx139_0⟩:=Kd.at_int (zU HO_3.out).2.2 (rd (rd_L1 l0 x18_2) x24_3) p139 q139
                    obtain rfl:ad138 = ad139:=(by injection e139)
                    replace p139:=eq_true p139
                    replace q139:=eq_true q139
                    have p140:0≤(x24_3:Int):=zE (by with_reducible assumption)
                    have q140:x24_3 < (x3_3.length:Int):=zE (by with_reducible assumption)
                    obtain ⟨ad140,e140,hx140_0⟩:=Kd.at_int (zU HO_3.out).2.2 x24_3 p140 q140
                    obtain rfl:ad138 = ad140:=(by injection e140)
                    replace p140:=eq_true p140
                    replace q140:=eq_true q140
                    have p141:0≤((rd (rd_L1 l0 x18_2) x24_3):Int):=zE (by with_reducible assumption)
                    have q141:(rd (rd_L1 l0 x18_2) x24_3) < (x3_3.length:Int):=zE (by with_reducible assumption)
                    obtain ⟨ad141,e141,hx141_0⟩:=Kd.at_int (zU HO_3.out).2.2 (rd (rd_L1 l0 x18_2) x24_3) p141 q141
                    obtain rfl:ad138 = ad141:=(by injection e141)
                    replace p141:=eq_true p141
                    replace q141:=eq_true q141
                    go_wp2
                    repeat (go_quiet (fail);try go_wp2)
                    go_roundg k3
                    case measure=>have:=HK1.out;have:=HK2.out;have:=HK3.out;omega
                    case rel=>exact ⟨(x3_3),(x4_3),(wrap64 (x24_3+1)),(by first|rfl|(simp;done)|(simp [*];done)),(by first|rfl|(simp;done)|(simp [*];done)),H',⟨by have:=HK1.out;have:=HK2.out;have:=HK3.out;omega⟩,⟨by apply zR_;exact HO_3.out⟩,⟨by exact zB_ HB.out⟩⟩
                   ·rw [if_neg c17] at H
                    have c17b0:((rd x3_3 (rd (rd_L1 l0 x18_2) x24_3)) == (ji15)) = false:=beq_eq_false_iff_ne.mpr c17
                    have c17b1:((rd x3_3 (rd (rd_L1 l0 x18_2) x24_3)) != (ji15)) = true:=bne_iff_ne.mpr c17
                    obtain ⟨y142,hy142⟩:∃ y_:List Int,y_ = (x3_3.set (x24_3:Int).toNat (ji15)):=⟨_,rfl⟩
                    replace H:(impl_orbits.l2 k3 l0 (y142.set ((rd (rd_L1 l0 x18_2) x24_3):Int).toNat (ji15)) true l0 (l0.length:Int) x18_2 (rd_L1 l0 x18_2) ((rd_L1 l0 x18_2).length:Int) (wrap64 (x24_3+1))) = some r:=by (try rw [hy142]);first|with_reducible exact H|with_reducible exact zS_ H|exact H
                    have Ny142:=zA hy142
                    clear hy142
                    obtain ⟨y143,hy143⟩:∃ y_:List Int,y_ = (y142.set ((rd (rd_L1 l0 x18_2) x24_3):Int).toNat (ji15)):=⟨_,rfl⟩
                    replace H:(impl_orbits.l2 k3 l0 y143 true l0 (l0.length:Int) x18_2 (rd_L1 l0 x18_2) ((rd_L1 l0 x18_2).length:Int) (wrap64 (x24_3+1))) = some r:=by (try rw [hy143]);first|with_reducible exact H|with_reducible exact zS_ H|exact H
                    have Ny143:=zA hy143
                    clear hy143
                    have H':=zA H
                    clear H
                    have p137:0≤(x24_3:Int):=zE (by with_reducible assumption)
                    have q137:x24_3 < ((rd_L1 l0 x18_2).length:Int):=zE (by with_reducible assumption)
                    obtain ⟨ad137,e137,hx137_0⟩:=Kd.at_int HR136_0.out x24_3 p137 q137
                    cases e137
                    replace hx137_0:=(HB.out.cell (zY w _ hx137_0)).trans hx137_0
                    replace p137:=eq_true p137
                    replace q137:=eq_true q137
                    obtain ⟨Ao21,co21,eo21⟩:=zg HO_3.out
                    subst eo21
                    have p138:0≤(x24_3:Int):=zE (by with_reducible assumption)
                    have q138:x24_3 < (x3_3.length:Int):=zE (by with_reducible assumption)
                    obtain ⟨ad138,e138,hx138_0⟩:=Kd.at_int (zU HO_3.out).2.2 x24_3 p138 q138
                    cases e138
                    replace p138:=eq_true p138
                    replace q138:=eq_true q138
                    have p139:0≤((rd (rd_L1 l0 x18_2) x24_3):Int):=zE (by with_reducible assumption)
                    have q139:(rd (rd_L1 l0 x18_2) x24_3) < (x3_3.length:Int):=zE (by with_reducible assumption)
                    obtain ⟨ad139,e139,hx139_0⟩:=Kd.at_int (zU HO_3.out).2.2 (rd (rd_L1 l0 x18_2) x24_3) p139 q139
                    obtain rfl:ad138 = ad139:=(by injection e139)
                    replace p139:=eq_true p139
                    replace q139:=eq_true q139
                    have p140:0≤(x24_3:Int):=zE (by with_reducible assumption)
                    have q140:x24_3 < (x3_3.length:Int):=zE (by with_reducible assumption)
                    obtain ⟨ad140,e140,hx140_0⟩:=Kd.at_int (zU HO_3.out).2.2 x24_3 p140 q140
                    obtain rfl:ad138 = ad140:=(by injection e140)
                    replace p140:=eq_true p140
                    replace q140:=eq_true q140
                    have p141:0≤((rd (rd_L1 l0 x18_2) x24_3):Int):=zE (by with_reducible assumption)
                    have q141:(rd (rd_L1 l0 x18_2) x24_3) < (x3_3.length:Int):=zE (by with_reducible assumption)
                    obtain ⟨ad141,e141,hx141_0⟩:=Kd.at_int (zU HO_3.out).2.2 (rd (rd_L1 l0 x18_2) x24_3) p141 q141
                    obtain rfl:ad138 = ad141:=(by injection e141)
                    replace p141:=eq_true p141
                    replace q141:=eq_true q141
                    have p19:0≤(x24_3:Int):=zE (by with_reducible assumption)
                    have q19:(x24_3:Int) < ((x3_3.length:Int):Int):=zE (by with_reducible assumption)
                    obtain ⟨go19,co19,eo19,gb19,gl19,cl19,HG19⟩:=Kd.R_form HO_3.out (by omega)
                    (first|cases eo19|(injection eo19 with ea_ en_ ec_;(first|subst ea_|(injection ea_ with ea_;subst ea_));subst ec_;clear en_))
                    have GB19:=zA gb19
                    have GG19:=zA HG19
                    clear gb19 gl19 HG19
                    (first|simp only [add_plain] at hx138_0|skip)
                    (first|simp only [add_plain] at hx139_0|skip)
                    (first|simp only [add_plain] at hx140_0|skip)
                    (first|simp only [add_plain] at hx141_0|skip)
                    obtain ⟨hx19_0,hf19_0⟩:=Kd.R_celln 0 HO_3.out (x24_3:Int) p19 q19
                    replace p19:=eq_true p19
                    replace q19:=eq_true q19
                    have HP22:=Kd.R_putg HO_3.out (x24_3:Int) ji15
                    go_wp2_with (first|((with_reducible refine gate_store (t:=3) (p:=58) rfl ?_);(try ((first|(generalize hq_:World.drewN wr _ = wr)|(rw [drewN_self wr];generalize hq_:World.drewN wr _ = wr));have n0_:=zA (Kd.R_at hq_ HO_3.out);have n1_:=zA (below_at hq_ HB.out);clear hq_ HO_3 HB;have HO_3:=n0_;have HB:=n1_;clear n0_ n1_;(try (have HP22:=Kd.R_putg HO_3.out (x24_3:Int) ji15));(try (obtain ⟨hx19b_,hf19b_⟩:=Kd.R_celln 0 HO_3.out (x24_3:Int) (of_eq_true (by assumption)) (of_eq_true (by assumption))))));refine store_event (t:=3) (p:=58) (v:=?vo_w23) (w1:=(wr.setCell ⟨go19,(x24_3:Int).toNat,none⟩ (.int .i64 ji15))) ?hg ?ho ?hn ?hr ?_;(case ho=>rfl);(case hg=>rfl);(case hn=>rfl);(case hr=>first|(go_simp;done)|(go_simp;rfl)|(go_simp;congr 2;have hq9_:=hji15_;(try have c16q_:=beq_iff_eq.1 c16b0);split at hq9_ <;> (first|omega|simp_all)));intro w23 hw;have hg:wr.grownBy w23 (some go19):=(by rw [hw];exact HP22.2);have hp_:Kd.R (Kd.int .i64) 3 w23 w.heap.size (fun _=>True) (.slice (some ⟨go19,0,none⟩) x3_3.length co21) y142:=(by rw [hw,Ny142.out];exact HP22.1);clear HP22;have n0_:=zA (hp_);have n1_:=zA ((by rw [hw];exact zF (HB.out) GB19.out:Below w.heap.size w w23));clear HO_3;clear HB;have HO_3:=n0_;have HB:=n1_;clear n0_ n1_;clear hg hw hp_;have p20:0≤((rd (rd_L1 l0 x18_2) x24_3):Int):=zE (by with_reducible assumption);have q20:((rd (rd_L1 l0 x18_2) x24_3):Int) < ((x3_3.length:Int):Int):=zE (by with_reducible assumption);obtain ⟨hx20_0,hf20_0⟩:=Kd.R_celln 0 HO_3.out ((rd (rd_L1 l0 x18_2) x24_3):Int) p20 q20;replace p20:=eq_true p20;replace q20:=eq_true q20;obtain ⟨hy24_,hz24_⟩:=Kd.R_celln 0 HO_3.out ((rd (rd_L1 l0 x18_2) x24_3):Int) (zE (by with_reducible assumption)) (zE (by with_reducible assumption));have HP24:=Kd.R_putg HO_3.out ((rd (rd_L1 l0 x18_2) x24_3):Int) ji15)|((with_reducible refine gate_store (t:=3) (p:=59) rfl ?_);(try (rw [drewN_self w23];generalize hq_:World.drewN w23 _ = w23;have n0_:=zA (Kd.R_at hq_ HO_3.out);have n1_:=zA (below_at hq_ HB.out);clear hq_ HO_3 HB;have HO_3:=n0_;have HB:=n1_;clear n0_ n1_;(try (obtain ⟨hy24_,hz24_⟩:=Kd.R_celln 0 HO_3.out ((rd (rd_L1 l0 x18_2) x24_3):Int) (zE (by with_reducible assumption)) (zE (by with_reducible assumption))));(try (have HP24:=Kd.R_putg HO_3.out ((rd (rd_L1 l0 x18_2) x24_3):Int) ji15))));refine store_event (t:=3) (p:=59) (v:=?vo_w25) (w1:=(w23.setCell ⟨go19,((rd (rd_L1 l0 x18_2) x24_3):Int).toNat,none⟩ (.int .i64 ji15))) ?hg ?ho ?hn ?hr ?_;(case ho=>rfl);(case hg=>rfl);(case hn=>rfl);(case hr=>first|(go_simp;done)|(go_simp;rfl)|(go_simp;congr 2;have hq9_:=hji15_;(try have c16q_:=beq_iff_eq.1 c16b0);split at hq9_ <;> (first|omega|simp_all)));intro w25 hw;have hg:w23.grownBy w25 (some go19):=(by rw [hw];exact HP24.2);have hp_:Kd.R (Kd.int .i64) 3 w25 w.heap.size (fun _=>True) (.slice (some ⟨go19,0,none⟩) x3_3.length co21) y143:=(by rw [hw,Ny143.out];exact HP24.1);clear HP24;have n0_:=zA (hp_);have n1_:=zA ((by rw [hw];exact zF (HB.out) GB19.out:Below w.heap.size w w25));clear HO_3;clear HB;have HO_3:=n0_;have HB:=n1_;clear n0_ n1_;clear hg hw hp_))
                    repeat (go_quiet (first|((with_reducible refine gate_store (t:=3) (p:=58) rfl ?_);(try ((first|(generalize hq_:World.drewN wr _ = wr)|(rw [drewN_self wr];generalize hq_:World.drewN wr _ = wr));have n0_:=zA (Kd.R_at hq_ HO_3.out);have n1_:=zA (below_at hq_ HB.out);clear hq_ HO_3 HB;have HO_3:=n0_;have HB:=n1_;clear n0_ n1_;(try (have HP22:=Kd.R_putg HO_3.out (x24_3:Int) ji15));(try (obtain ⟨hx19b_,hf19b_⟩:=Kd.R_celln 0 HO_3.out (x24_3:Int) (of_eq_true (by assumption)) (of_eq_true (by assumption))))));refine store_event (t:=3) (p:=58) (v:=?vo_w23) (w1:=(wr.setCell ⟨go19,(x24_3:Int).toNat,none⟩ (.int .i64 ji15))) ?hg ?ho ?hn ?hr ?_;(case ho=>rfl);(case hg=>rfl);(case hn=>rfl);(case hr=>first|(go_simp;done)|(go_simp;rfl)|(go_simp;congr 2;have hq9_:=hji15_;(try have c16q_:=beq_iff_eq.1 c16b0);split at hq9_ <;> (first|omega|simp_all)));intro w23 hw;have hg:wr.grownBy w23 (some go19):=(by rw [hw];exact HP22.2);have hp_:Kd.R (Kd.int .i64) 3 w23 w.heap.size (fun _=>True) (.slice (some ⟨go19,0,none⟩) x3_3.length co21) y142:=(by rw [hw,Ny142.out];exact HP22.1);clear HP22;have n0_:=zA (hp_);have n1_:=zA ((by rw [hw];exact zF (HB.out) GB19.out:Below w.heap.size w w23));clear HO_3;clear HB;have HO_3:=n0_;have HB:=n1_;clear n0_ n1_;clear hg hw hp_;have p20:0≤((rd (rd_L1 l0 x18_2) x24_3):Int):=zE (by with_reducible assumption);have q20:((rd (rd_L1 l0 x18_2) x24_3):Int) < ((x3_3.length:Int):Int):=zE (by with_reducible assumption);obtain ⟨hx20_0,hf20_0⟩:=Kd.R_celln 0 HO_3.out ((rd (rd_L1 l0 x18_2) x24_3):Int) p20 q20;replace p20:=eq_true p20;replace q20:=eq_true q20;obtain ⟨hy24_,hz24_⟩:=Kd.R_celln 0 HO_3.out ((rd (rd_L1 l0 x18_2) x24_3):Int) (zE (by with_reducible assumption)) (zE (by with_reducible assumption));have HP24:=Kd.R_putg HO_3.out ((rd (rd_L1 l0 x18_2) x24_3):Int) ji15)|((with_reducible refine gate_store (t:=3) (p:=59) rfl ?_);(try (rw [drewN_self w23];generalize hq_:World.drewN w23 _ = w23;have n0_:=zA (Kd.R_at hq_ HO_3.out);have n1_:=zA (below_at hq_ HB.out);clear hq_ HO_3 HB;have HO_3:=n0_;have HB:=n1_;clear n0_ n1_;(try (obtain ⟨hy24_,hz24_⟩:=Kd.R_celln 0 HO_3.out ((rd (rd_L1 l0 x18_2) x24_3):Int) (zE (by with_reducible assumption)) (zE (by with_reducible assumption))));(try (have HP24:=Kd.R_putg HO_3.out ((rd (rd_L1 l0 x18_2) x24_3):Int) ji15))));refine store_event (t:=3) (p:=59) (v:=?vo_w25) (w1:=(w23.setCell ⟨go19,((rd (rd_L1 l0 x18_2) x24_3):Int).toNat,none⟩ (.int .i64 ji15))) ?hg ?ho ?hn ?hr ?_;(case ho=>rfl);(case hg=>rfl);(case hn=>rfl);(case hr=>first|(go_simp;done)|(go_simp;rfl)|(go_simp;congr 2;have hq9_:=hji15_;(try have c16q_:=beq_iff_eq.1 c16b0);split at hq9_ <;> (first|omega|simp_all)));intro w25 hw;have hg:w23.grownBy w25 (some go19):=(by rw [hw];exact HP24.2);have hp_:Kd.R (Kd.int .i64) 3 w25 w.heap.size (fun _=>True) (.slice (some ⟨go19,0,none⟩) x3_3.length co21) y143:=(by rw [hw,Ny143.out];exact HP24.1);clear HP24;have n0_:=zA (hp_);have n1_:=zA ((by rw [hw];exact zF (HB.out) GB19.out:Below w.heap.size w w25));clear HO_3;clear HB;have HO_3:=n0_;have HB:=n1_;clear n0_ n1_;clear hg hw hp_));try go_wp2_with (first|((with_reducible refine gate_store (t:=3) (p:=58) rfl ?_);(try ((first|(generalize hq_:World.drewN wr _ = wr)|(rw [drewN_self wr];generalize hq_:World.drewN wr _ = wr));have n0_:=zA (Kd.R_at hq_ HO_3.out);have n1_:=zA (below_at hq_ HB.out);clear hq_ HO_3 HB;have HO_3:=n0_;have HB:=n1_;clear n0_ n1_;(try (have HP22:=Kd.R_putg HO_3.out (x24_3:Int) ji15));(try (obtain ⟨hx19b_,hf19b_⟩:=Kd.R_celln 0 HO_3.out (x24_3:Int) (of_eq_true (by assumption)) (of_eq_true (by assumption))))));refine store_event (t:=3) (p:=58) (v:=?vo_w23) (w1:=(wr.setCell ⟨go19,(x24_3:Int).toNat,none⟩ (.int .i64 ji15))) ?hg ?ho ?hn ?hr ?_;(case ho=>rfl);(case hg=>rfl);(case hn=>rfl);(case hr=>first|(go_simp;done)|(go_simp;rfl)|(go_simp;congr 2;have hq9_:=hji15_;(try have c16q_:=beq_iff_eq.1 c16b0);split at hq9_ <;> (first|omega|simp_all)));intro w23 hw;have hg:wr.grownBy w23 (some go19):=(by rw [hw];exact HP22.2);have hp_:Kd.R (Kd.int .i64) 3 w23 w.heap.size (fun _=>True) (.slice (some ⟨go19,0,none⟩) x3_3.length co21) y142:=(by rw [hw,Ny142.out];exact HP22.1);clear HP22;have n0_:=zA (hp_);have n1_:=zA ((by rw [hw];exact zF (HB.out) GB19.out:Below w.heap.size w w23));clear HO_3;clear HB;have HO_3:=n0_;have HB:=n1_;clear n0_ n1_;clear hg hw hp_;have p20:0≤((rd (rd_L1 l0 x18_2) x24_3):Int):=zE (by with_reducible assumption);have q20:((rd (rd_L1 l0 x18_2) x24_3):Int) < ((x3_3.length:Int):Int):=zE (by with_reducible assumption);obtain ⟨hx20_0,hf20_0⟩:=Kd.R_celln 0 HO_3.out ((rd (rd_L1 l0 x18_2) x24_3):Int) p20 q20;replace p20:=eq_true p20;replace q20:=eq_true q20;obtain ⟨hy24_,hz24_⟩:=Kd.R_celln 0 HO_3.out ((rd (rd_L1 l0 x18_2) x24_3):Int) (zE (by with_reducible assumption)) (zE (by with_reducible assumption));have HP24:=Kd.R_putg HO_3.out ((rd (rd_L1 l0 x18_2) x24_3):Int) ji15)|((with_reducible refine gate_store (t:=3) (p:=59) rfl ?_);(try (rw [drewN_self w23];generalize hq_:World.drewN w23 _ = w23;have n0_:=zA (Kd.R_at hq_ HO_3.out);have n1_:=zA (below_at hq_ HB.out);clear hq_ HO_3 HB;have HO_3:=n0_;have HB:=n1_;clear n0_ n1_;(try (obtain ⟨hy24_,hz24_⟩:=Kd.R_celln 0 HO_3.out ((rd (rd_L1 l0 x18_2) x24_3):Int) (zE (by with_reducible assumption)) (zE (by with_reducible assumption))));(try (have HP24:=Kd.R_putg HO_3.out ((rd (rd_L1 l0 x18_2) x24_3):Int) ji15))));refine store_event (t:=3) (p:=59) (v:=?vo_w25) (w1:=(w23.setCell ⟨go19,((rd (rd_L1 l0 x18_2) x24_3):Int).toNat,none⟩ (.int .i64 ji15))) ?hg ?ho ?hn ?hr ?_;(case ho=>rfl);(case hg=>rfl);(case hn=>rfl);(case hr=>first|(go_simp;done)|(go_simp;rfl)|(go_simp;congr 2;have hq9_:=hji15_;(try have c16q_:=beq_iff_eq.1 c16b0);split at hq9_ <;> (first|omega|simp_all)));intro w25 hw;have hg:w23.grownBy w25 (some go19):=(by rw [hw];exact HP24.2);have hp_:Kd.R (Kd.int .i64) 3 w25 w.heap.size (fun _=>True) (.slice (some ⟨go19,0,none⟩) x3_3.length co21) y143:=(by rw [hw,Ny143.out];exact HP24.1);clear HP24;have n0_:=zA (hp_);have n1_:=zA ((by rw [hw];exact zF (HB.out) GB19.out:Below w.heap.size w w25));clear HO_3;clear HB;have HO_3:=n0_;have HB:=n1_;clear n0_ n1_;clear hg hw hp_)))
                    go_roundg k3
                    case measure=>have:=HK1.out;have:=HK2.out;have:=HK3.out;omega
                    case rel=>exact ⟨(y143),(true),(wrap64 (x24_3+1)),(by first|rfl|(simp;done)|(simp [*];done)),(by first|rfl|(simp;done)|(simp [*];done)),H',⟨by have:=HK1.out;have:=HK2.out;have:=HK3.out;omega⟩,⟨by apply zR_;exact HO_3.out⟩,⟨by exact zB_ HB.out⟩⟩
                  ·rw [if_neg c16] at H
                   have c16b0:((rd x3_3 x24_3) == (ji15)) = false:=beq_eq_false_iff_ne.mpr c16
                   have c16b1:((rd x3_3 x24_3) != (ji15)) = true:=bne_iff_ne.mpr c16
                   obtain ⟨y144,hy144⟩:∃ y_:List Int,y_ = (x3_3.set (x24_3:Int).toNat (ji15)):=⟨_,rfl⟩
                   replace H:(impl_orbits.l2 k3 l0 (y144.set ((rd (rd_L1 l0 x18_2) x24_3):Int).toNat (ji15)) true l0 (l0.length:Int) x18_2 (rd_L1 l0 x18_2) ((rd_L1 l0 x18_2).length:Int) (wrap64 (x24_3+1))) = some r:=by (try rw [hy144]);first|with_reducible exact H|with_reducible exact zS_ H|exact H
                   have Ny144:=zA hy144
                   clear hy144
                   obtain ⟨y145,hy145⟩:∃ y_:List Int,y_ = (y144.set ((rd (rd_L1 l0 x18_2) x24_3):Int).toNat (ji15)):=⟨_,rfl⟩
                   replace H:(impl_orbits.l2 k3 l0 y145 true l0 (l0.length:Int) x18_2 (rd_L1 l0 x18_2) ((rd_L1 l0 x18_2).length:Int) (wrap64 (x24_3+1))) = some r:=by (try rw [hy145]);first|with_reducible exact H|with_reducible exact zS_ H|exact H
                   have Ny145:=zA hy145
                   clear hy145
                   have H':=zA H
                   clear H
                   have p137:0≤(x24_3:Int):=zE (by with_reducible assumption)
                   have q137:x24_3 < ((rd_L1 l0 x18_2).length:Int):=zE (by with_reducible assumption)
                   obtain ⟨ad137,e137,hx137_0⟩:=Kd.at_int HR136_0.out x24_3 p137 q137
                   cases e137
                   replace hx137_0:=(HB.out.cell (zY w _ hx137_0)).trans hx137_0
                   replace p137:=eq_true p137
                   replace q137:=eq_true q137
                   obtain ⟨Ao28,co28,eo28⟩:=zg HO_3.out
                   subst eo28
                   have p138:0≤(x24_3:Int):=zE (by with_reducible assumption)
                   have q138:x24_3 < (x3_3.length:Int):=zE (by with_reducible assumption)
                   obtain ⟨ad138,e138,hx138_0⟩:=Kd.at_int (zU HO_3.out).2.2 x24_3 p138 q138
                   cases e138
                   replace p138:=eq_true p138
                   replace q138:=eq_true q138
                   have p139:0≤((rd (rd_L1 l0 x18_2) x24_3):Int):=zE (by with_reducible assumption)
                   have q139:(rd (rd_L1 l0 x18_2) x24_3) < (x3_3.length:Int):=zE (by with_reducible assumption)
                   obtain ⟨ad139,e139,hx139_0⟩:=Kd.at_int (zU HO_3.out).2.2 (rd (rd_L1 l0 x18_2) x24_3) p139 q139
                   obtain rfl:ad138 = ad139:=(by injection e139)
                   replace p139:=eq_true p139
                   replace q139:=eq_true q139
                   have p140:0≤(x24_3:Int):=zE (by with_reducible assumption)
                   have q140:x24_3 < (x3_3.length:Int):=zE (by with_reducible assumption)
                   obtain ⟨ad140,e140,hx140_0⟩:=Kd.at_int (zU HO_3.out).2.2 x24_3 p140 q140
                   obtain rfl:ad138 = ad140:=(by injection e140)
                   replace p140:=eq_true p140
                   replace q140:=eq_true q140
                   have p26:0≤(x24_3:Int):=zE (by with_reducible assumption)
                   have q26:(x24_3:Int) < ((x3_3.length:Int):Int):=zE (by with_reducible assumption)
                   obtain ⟨go26,co26,eo26,gb26,gl26,cl26,HG26⟩:=Kd.R_form HO_3.out (by omega)
                   (first|cases eo26|(injection eo26 with ea_ en_ ec_;(first|subst ea_|(injection ea_ with ea_;subst ea_));subst ec_;clear en_))
                   have GB26:=zA gb26
                   have GG26:=zA HG26
                   clear gb26 gl26 HG26
                   (first|simp only [add_plain] at hx138_0|skip)
                   (first|simp only [add_plain] at hx139_0|skip)
                   (first|simp only [add_plain] at hx140_0|skip)
                   obtain ⟨hx26_0,hf26_0⟩:=Kd.R_celln 0 HO_3.out (x24_3:Int) p26 q26
                   replace p26:=eq_true p26
                   replace q26:=eq_true q26
                   have HP29:=Kd.R_putg HO_3.out (x24_3:Int) ji15
                   go_wp2_with (first|((with_reducible refine gate_store (t:=3) (p:=58) rfl ?_);(try ((first|(generalize hq_:World.drewN wr _ = wr)|(rw [drewN_self wr];generalize hq_:World.drewN wr _ = wr));have n0_:=zA (Kd.R_at hq_ HO_3.out);have n1_:=zA (below_at hq_ HB.out);clear hq_ HO_3 HB;have HO_3:=n0_;have HB:=n1_;clear n0_ n1_;(try (have HP29:=Kd.R_putg HO_3.out (x24_3:Int) ji15));(try (obtain ⟨hx19b_,hf19b_⟩:=Kd.R_celln 0 HO_3.out (x24_3:Int) (of_eq_true (by assumption)) (of_eq_true (by assumption))))));refine store_event (t:=3) (p:=58) (v:=?vo_w30) (w1:=(wr.setCell ⟨go26,(x24_3:Int).toNat,none⟩ (.int .i64 ji15))) ?hg ?ho ?hn ?hr ?_;(case ho=>rfl);(case hg=>rfl);(case hn=>rfl);(case hr=>first|(go_simp;done)|(go_simp;rfl)|(go_simp;congr 2;have hq9_:=hji15_;(try have c16q_:=beq_iff_eq.1 c16b0);split at hq9_ <;> (first|omega|simp_all)));intro w30 hw;have hg:wr.grownBy w30 (some go26):=(by rw [hw];exact HP29.2);have hp_:Kd.R (Kd.int .i64) 3 w30 w.heap.size (fun _=>True) (.slice (some ⟨go26,0,none⟩) x3_3.length co28) y144:=(by rw [hw,Ny144.out];exact HP29.1);clear HP29;have n0_:=zA (hp_);have n1_:=zA ((by rw [hw];exact zF (HB.out) GB26.out:Below w.heap.size w w30));clear HO_3;clear HB;have HO_3:=n0_;have HB:=n1_;clear n0_ n1_;clear hg hw hp_;have p27:0≤((rd (rd_L1 l0 x18_2) x24_3):Int):=zE (by with_reducible assumption);have q27:((rd (rd_L1 l0 x18_2) x24_3):Int) < ((x3_3.length:Int):Int):=zE (by with_reducible assumption);obtain ⟨hx27_0,hf27_0⟩:=Kd.R_celln 0 HO_3.out ((rd (rd_L1 l0 x18_2) x24_3):Int) p27 q27;replace p27:=eq_true p27;replace q27:=eq_true q27;obtain ⟨hy31_,hz31_⟩:=Kd.R_celln 0 HO_3.out ((rd (rd_L1 l0 x18_2) x24_3):Int) (zE (by with_reducible assumption)) (zE (by with_reducible assumption));have HP31:=Kd.R_putg HO_3.out ((rd (rd_L1 l0 x18_2) x24_3):Int) ji15)|((with_reducible refine gate_store (t:=3) (p:=59) rfl ?_);(try (rw [drewN_self w30];generalize hq_:World.drewN w30 _ = w30;have n0_:=zA (Kd.R_at hq_ HO_3.out);have n1_:=zA (below_at hq_ HB.out);clear hq_ HO_3 HB;have HO_3:=n0_;have HB:=n1_;clear n0_ n1_;(try (obtain ⟨hy31_,hz31_⟩:=Kd.R_celln 0 HO_3.out ((rd (rd_L1 l0 x18_2) x24_3):Int) (zE (by with_reducible assumption)) (zE (by with_reducible assumption))));(try (have HP31:=Kd.R_putg HO_3.out ((rd (rd_L1 l0 x18_2) x24_3):Int) ji15))));refine store_event (t:=3) (p:=59) (v:=?vo_w32) (w1:=(w30.setCell ⟨go26,((rd (rd_L1 l0 x18_2) x24_3):Int).toNat,none⟩ (.int .i64 ji15))) ?hg ?ho ?hn ?hr ?_;(case ho=>rfl);(case hg=>rfl);(case hn=>rfl);(case hr=>first|(go_simp;done)|(go_simp;rfl)|(go_simp;congr 2;have hq9_:=hji15_;(try have c16q_:=beq_iff_eq.1 c16b0);split at hq9_ <;> (first|omega|simp_all)));intro w32 hw;have hg:w30.grownBy w32 (some go26):=(by rw [hw];exact HP31.2);have hp_:Kd.R (Kd.int .i64) 3 w32 w.heap.size (fun _=>True) (.slice (some ⟨go26,0,none⟩) x3_3.length co28) y145:=(by rw [hw,Ny145.out];exact HP31.1);clear HP31;have n0_:=zA (hp_);have n1_:=zA ((by rw [hw];exact zF (HB.out) GB26.out:Below w.heap.size w w32));clear HO_3;clear HB;have HO_3:=n0_;have HB:=n1_;clear n0_ n1_;clear hg hw hp_))
                   repeat (go_quiet (first|((with_reducible refine gate_store (t:=3) (p:=58) rfl ?_);(try ((first|(generalize hq_:World.drewN wr _ = wr)|(rw [drewN_self wr];generalize hq_:World.drewN wr _ = wr));have n0_:=zA (Kd.R_at hq_ HO_3.out);have n1_:=zA (below_at hq_ HB.out);clear hq_ HO_3 HB;have HO_3:=n0_;have HB:=n1_;clear n0_ n1_;(try (have HP29:=Kd.R_putg HO_3.out (x24_3:Int) ji15));(try (obtain ⟨hx19b_,hf19b_⟩:=Kd.R_celln 0 HO_3.out (x24_3:Int) (of_eq_true (by assumption)) (of_eq_true (by assumption))))));refine store_event (t:=3) (p:=58) (v:=?vo_w30) (w1:=(wr.setCell ⟨go26,(x24_3:Int).toNat,none⟩ (.int .i64 ji15))) ?hg ?ho ?hn ?hr ?_;(case ho=>rfl);(case hg=>rfl);(case hn=>rfl);(case hr=>first|(go_simp;done)|(go_simp;rfl)|(go_simp;congr 2;have hq9_:=hji15_;(try have c16q_:=beq_iff_eq.1 c16b0);split at hq9_ <;> (first|omega|simp_all)));intro w30 hw;have hg:wr.grownBy w30 (some go26):=(by rw [hw];exact HP29.2);have hp_:Kd.R (Kd.int .i64) 3 w30 w.heap.size (fun _=>True) (.slice (some ⟨go26,0,none⟩) x3_3.length co28) y144:=(by rw [hw,Ny144.out];exact HP29.1);clear HP29;have n0_:=zA (hp_);have n1_:=zA ((by rw [hw];exact zF (HB.out) GB26.out:Below w.heap.size w w30));clear HO_3;clear HB;have HO_3:=n0_;have HB:=n1_;clear n0_ n1_;clear hg hw hp_;have p27:0≤((rd (rd_L1 l0 x18_2) x24_3):Int):=zE (by with_reducible assumption);have q27:((rd (rd_L1 l0 x18_2) x24_3):Int) < ((x3_3.length:Int):Int):=zE (by with_reducible assumption);obtain ⟨hx27_0,hf27_0⟩:=Kd.R_celln 0 HO_3.out ((rd (rd_L1 l0 x18_2) x24_3):Int) p27 q27;replace p27:=eq_true p27;replace q27:=eq_true q27;obtain ⟨hy31_,hz31_⟩:=Kd.R_celln 0 HO_3.out ((rd (rd_L1 l0 x18_2) x24_3):Int) (zE (by with_reducible assumption)) (zE (by with_reducible assumption));have HP31:=Kd.R_putg HO_3.out ((rd (rd_L1 l0 x18_2) x24_3):Int) ji15)|((with_reducible refine gate_store (t:=3) (p:=59) rfl ?_);(try (rw [drewN_self w30];generalize hq_:World.drewN w30 _ = w30;have n0_:=zA (Kd.R_at hq_ HO_3.out);have n1_:=zA (below_at hq_ HB.out);clear hq_ HO_3 HB;have HO_3:=n0_;have HB:=n1_;clear n0_ n1_;(try (obtain ⟨hy31_,hz31_⟩:=Kd.R_celln 0 HO_3.out ((rd (rd_L1 l0 x18_2) x24_3):Int) (zE (by with_reducible assumption)) (zE (by with_reducible assumption))));(try (have HP31:=Kd.R_putg HO_3.out ((rd (rd_L1 l0 x18_2) x24_3):Int) ji15))));refine store_event (t:=3) (p:=59) (v:=?vo_w32) (w1:=(w30.setCell ⟨go26,((rd (rd_L1 l0 x18_2) x24_3):Int).toNat,none⟩ (.int .i64 ji15))) ?hg ?ho ?hn ?hr ?_;(case ho=>rfl);(case hg=>rfl);(case hn=>rfl);(case hr=>first|(go_simp;done)|(go_simp;rfl)|(go_simp;congr 2;have hq9_:=hji15_;(try have c16q_:=beq_iff_eq.1 c16b0);split at hq9_ <;> (first|omega|simp_all)));intro w32 hw;have hg:w30.grownBy w32 (some go26):=(by rw [hw];exact HP31.2);have hp_:Kd.R (Kd.int .i64) 3 w32 w.heap.size (fun _=>True) (.slice (some ⟨go26,0,none⟩) x3_3.length co28) y145:=(by rw [hw,Ny145.out];exact HP31.1);clear HP31;have n0_:=zA (hp_);have n1_:=zA ((by rw [hw];exact zF (HB.out) GB26.out:Below w.heap.size w w32));clear HO_3;clear HB;have HO_3:=n0_;have HB:=n1_;clear n0_ n1_;clear hg hw hp_));try go_wp2_with (first|((with_reducible refine gate_store (t:=3) (p:=58) rfl ?_);(try ((first|(generalize hq_:World.drewN wr _ = wr)|(rw [drewN_self wr];generalize hq_:World.drewN wr _ = wr));have n0_:=zA (Kd.R_at hq_ HO_3.out);have n1_:=zA (below_at hq_ HB.out);clear hq_ HO_3 HB;have HO_3:=n0_;have HB:=n1_;clear n0_ n1_;(try (have HP29:=Kd.R_putg HO_3.out (x24_3:Int) ji15));(try (obtain ⟨hx19b_,hf19b_⟩:=Kd.R_celln 0 HO_3.out (x24_3:Int) (of_eq_true (by assumption)) (of_eq_true (by assumption))))));refine store_event (t:=3) (p:=58) (v:=?vo_w30) (w1:=(wr.setCell ⟨go26,(x24_3:Int).toNat,none⟩ (.int .i64 ji15))) ?hg ?ho ?hn ?hr ?_;(case ho=>rfl);(case hg=>rfl);(case hn=>rfl);(case hr=>first|(go_simp;done)|(go_simp;rfl)|(go_simp;congr 2;have hq9_:=hji15_;(try have c16q_:=beq_iff_eq.1 c16b0);split at hq9_ <;> (first|omega|simp_all)));intro w30 hw;have hg:wr.grownBy w30 (some go26):=(by rw [hw];exact HP29.2);have hp_:Kd.R (Kd.int .i64) 3 w30 w.heap.size (fun _=>True) (.slice (some ⟨go26,0,none⟩) x3_3.length co28) y144:=(by rw [hw,Ny144.out];exact HP29.1);clear HP29;have n0_:=zA (hp_);have n1_:=zA ((by rw [hw];exact zF (HB.out) GB26.out:Below w.heap.size w w30));clear HO_3;clear HB;have HO_3:=n0_;have HB:=n1_;clear n0_ n1_;clear hg hw hp_;have p27:0≤((rd (rd_L1 l0 x18_2) x24_3):Int):=zE (by with_reducible assumption);have q27:((rd (rd_L1 l0 x18_2) x24_3):Int) < ((x3_3.length:Int):Int):=zE (by with_reducible assumption);obtain ⟨hx27_0,hf27_0⟩:=Kd.R_celln 0 HO_3.out ((rd (rd_L1 l0 x18_2) x24_3):Int) p27 q27;replace p27:=eq_true p27;replace q27:=eq_true q27;obtain ⟨hy31_,hz31_⟩:=Kd.R_celln 0 HO_3.out ((rd (rd_L1 l0 x18_2) x24_3):Int) (zE (by with_reducible assumption)) (zE (by with_reducible assumption));have HP31:=Kd.R_putg HO_3.out ((rd (rd_L1 l0 x18_2) x24_3):Int) ji15)|((with_reducible refine gate_store (t:=3) (p:=59) rfl ?_);(try (rw [drewN_self w30];generalize hq_:World.drewN w30 _ = w30;have n0_:=zA (Kd.R_at hq_ HO_3.out);have n1_:=zA (below_at hq_ HB.out);clear hq_ HO_3 HB;have HO_3:=n0_;have HB:=n1_;clear n0_ n1_;(try (obtain ⟨hy31_,hz31_⟩:=Kd.R_celln 0 HO_3.out ((rd (rd_L1 l0 x18_2) x24_3):Int) (zE (by with_reducible assumption)) (zE (by with_reducible assumption))));(try (have HP31:=Kd.R_putg HO_3.out ((rd (rd_L1 l0 x18_2) x24_3):Int) ji15))));refine store_event (t:=3) (p:=59) (v:=?vo_w32) (w1:=(w30.setCell ⟨go26,((rd (rd_L1 l0 x18_2) x24_3):Int).toNat,none⟩ (.int .i64 ji15))) ?hg ?ho ?hn ?hr ?_;(case ho=>rfl);(case hg=>rfl);(case hn=>rfl);(case hr=>first|(go_simp;done)|(go_simp;rfl)|(go_simp;congr 2;have hq9_:=hji15_;(try have c16q_:=beq_iff_eq.1 c16b0);split at hq9_ <;> (first|omega|simp_all)));intro w32 hw;have hg:w30.grownBy w32 (some go26):=(by rw [hw];exact HP31.2);have hp_:Kd.R (Kd.int .i64) 3 w32 w.heap.size (fun _=>True) (.slice (some ⟨go26,0,none⟩) x3_3.length co28) y145:=(by rw [hw,Ny145.out];exact HP31.1);clear HP31;have n0_:=zA (hp_);have n1_:=zA ((by rw [hw];exact zF (HB.out) GB26.out:Below w.heap.size w w32));clear HO_3;clear HB;have HO_3:=n0_;have HB:=n1_;clear n0_ n1_;clear hg hw hp_)))
                   go_roundg k3
                   case measure=>have:=HK1.out;have:=HK2.out;have:=HK3.out;omega
                   case rel=>exact ⟨(y145),(true),(wrap64 (x24_3+1)),(by first|rfl|(simp;done)|(simp [*];done)),(by first|rfl|(simp;done)|(simp [*];done)),H',⟨by have:=HK1.out;have:=HK2.out;have:=HK3.out;omega⟩,⟨by apply zR_;exact HO_3.out⟩,⟨by exact zB_ HB.out⟩⟩
                 ·rw [if_neg c14] at H
                  exact absurd H (by simp)
                ·rw [if_neg c13] at H
                 exact absurd H (by simp)
               ·rw [if_neg c12] at H
                exact absurd H (by simp)
              ·rw [if_neg c11] at H
               exact absurd H (by simp)
             ·rw [if_neg c10] at H
              exact absurd H (by simp)
            ·rw [if_neg c9] at H
             have c9b0:decide (x24_3 < ((rd_L1 l0 x18_2).length:Int)) = false:=zP c9
             clear c9
             have H':=zA H
             clear H
             go_wp2
             repeat (go_quiet (fail);try go_wp2)
             go_roundg k3
             case measure=>have:=HK1.out;have:=HK2.out;have:=HK3.out;omega
             case rel=>exact ⟨(x3_3),(x4_3),(wrap64 (x18_2+1)),(by first|rfl|(simp;done)|(simp [*];done)),(by first|rfl|(simp;done)|(simp [*];done)),H',⟨by have:=HK1.out;have:=HK2.out;have:=HK3.out;omega⟩,⟨by apply zR_;exact HO_3.out⟩,⟨by exact zB_ HB.out⟩⟩
         ·rw [if_neg c8] at H
          exact absurd H (by simp)
        ·rw [if_neg c7] at H
         exact absurd H (by simp)
       ·rw [if_neg c6] at H
        have c6b0:decide (x18_2 < (l0.length:Int)) = false:=zP c6
        clear c6
        have H':=zA H
        clear H
        go_wp2
        repeat (go_quiet (fail);try go_wp2)
        go_roundg k2
        case measure=>have:=HK1.out;have:=HK2.out;omega
        case rel=>exact ⟨(x3_2),(x4_2),(by first|rfl|(simp;done)|(simp [*];done)),H',⟨by have:=HK1.out;have:=HK2.out;omega⟩,⟨by apply zR_;exact HO_3.out⟩,⟨by exact zB_ HB.out⟩⟩
    ·replace c5:=Bool.eq_false_iff.mpr c5
     subst c5
     have H1:(some x3_1) = some r:=by rw [if_neg (show ¬ (false = true) by decide)] at H;exact H
     clear H
     have H:=H1
     clear H1
     obtain rfl:=zS H
     go_wp2
     repeat (go_quiet (fail);try go_wp2)
     go_ret
     exact ⟨_,by first|rfl|(simp [errW_none,errW_some] <;> rfl)|(simp [*,errW_none,errW_some] <;> rfl),by apply zR_;exact HO_3.out,by exact zB_ HB.out⟩
 ·rw [if_neg c2] at H
  exact absurd H (by simp)

end Go.Proofs.Ytonlecigglbohaa.Q
