import Derived.Test.YtdaiohcgdpclnaaQ0
import Derived.Test.YtdaiohcgdpclnaaQ14
import Derived.Test.YtdaiohcgdpclnaaQ15
import Derived.Test.YtdaiohcgdpclnaaQ16
import Derived.Deep.WholeRow
import Derived.Laws.CopyOwn
import Derived.Test.YtdaiohcgdpclnaaZ
namespace Go.Proofs.Ytdaiohcgdpclnaa.Q
open Go.RowKit Go.Proofs.YtdaiohcgdpclnaaW.PrintWords Go.Proofs.YtdaiohcgdpclnaaW.PrintLast Go.Proofs.YtdaiohcgdpclnaaW.PrintMore
attribute [local go_sem] max2_int min2_int max_two min_two max_three min_three max_four min_four   -- for this text's walks alone
set_option linter.unusedVariables false
set_option linter.unusedSimpArgs false

/-! ### spec_DrawRootedOne: function 36 -/
def spec_DrawRootedOne.f (k:Nat) (l0:List Int):Option (Int × Int):=(spec_DrawRootedCount.f k l0).bind fun bt530=>(some (bt530.1,bt530.2))
theorem spec_DrawRootedOne.mono:∀ a0 k,LeO (spec_DrawRootedOne.f k a0) (spec_DrawRootedOne.f (k+1) a0):=by
 intro a0 k
 unfold spec_DrawRootedOne.f
 repeat' first
   | (with_reducible exact spec_DrawRootedCount.mono _ _)
   | (with_reducible exact LeO.refl _)
   | (with_reducible exact zm _)
   | (with_reducible refine zo ?_ ?_)
   | (with_reducible refine zn ?_ (fun _=>?_))
   | exact spec_DrawRootedCount.mono _ _
   | exact zm _
   | refine zo ?_ ?_
   | refine zn ?_ (fun _=>?_)
set_option maxHeartbeats 8000000 in
set_option maxRecDepth 100000 in
theorem spec_DrawRootedOne.calls (k:Nat) (A0:Option Addr) (c0:Nat) (l0:List Int) (r1:Int) (r2:Int) (w:World) (hr0:Kd.C (Kd.int .u8) w A0 l0.length l0) (hc0:l0.length≤c0) (h:spec_DrawRootedOne.f k l0 = some (r1,r2)) :
  Calls Try.prog 36 #[.slice A0 l0.length c0] w fun e w'=>e = .returned (.tuple #[.int .i64 r1,.int .i64 r2])∧Below w.heap.size w w':=by
 have HR0:=zA hr0
 have HC0:=zA hc0
 clear hr0 hc0
 have HB:=zA (Below.refl w.heap.size w)
 have H:((spec_DrawRootedCount.f k l0).bind fun bt530=>(some (bt530.1,bt530.2))) = some (r1,r2):=h
 clear h
 replace H:=zz0 H
 obtain ⟨⟨t530,t531⟩,A20,H⟩:=H
 replace H:(some (t530,t531)) = some (r1,r2):=H
 have A2:=zA A20
 clear A20
 simp only [Option.some.injEq,Prod.mk.injEq] at H
 obtain ⟨rfl,rfl⟩:=H
 go_enter Try.func36,Try.ntmps36
 go_wp2_with (first|((with_reducible refine gate_callee (f:=31) rfl ?_);refine goesL_ (some 5) rfl rfl Try.func31 (by kernel_rfl) rfl #[.slice A0 l0.length c0] rfl (by (try simp only [zP,zS,zT]);first|done|rfl|(simp only [zR,zQ];rfl)) ?_;(with_reducible refine (spec_DrawRootedCount.calls k _ _ l0 t530 t531 _ ?side1 ?side2 A2.out).mono ?_);(case side1=>repeat (first|exact HR0.out|(with_reducible refine zW ?_ _)|(with_reducible refine zX ?_ _)|(with_reducible refine zY ?_)));(case side2=>exact HC0.out);rintro e w3 ⟨rfl,hb⟩;refine ⟨_,rfl,?_⟩;have n0_:=zA (za (by repeat (first|(with_reducible first|exact HB.out|apply zD|apply zB|apply zC)|exact HB.out)) hb);clear HB;have HB:=n0_;clear n0_;(try clear hb);(try clear hb2);(try clear hk);(try clear hi)))
 go_ret2
 exact ⟨by first|rfl|(simp [errW_none,errW_some] <;> rfl)|(simp [*,errW_none,errW_some] <;> rfl),by repeat (first|(with_reducible first|exact HB.out|apply zD|apply zB|apply zC)|exact HB.out)⟩

/-! ### impl_GluingRun: function 37 (a section of my own) -/
def impl_GluingRun.at_ (T:List Int) (n:Nat):Int:=T.getD n 0
def impl_GluingRun.s1 (T:List Int) (k h:Int):Int:=wrap64 (wrap64 (2 * wrap64 (wrap64 (2 * k) - 1)) * impl_GluingRun.at_ T ((wrap64 (k - 1)).toNat * 6+h.toNat))
def impl_GluingRun.s2 (T:List Int) (k h:Int):Int:=wrap64 (impl_GluingRun.s1 T k h+wrap64 (wrap64 (wrap64 (wrap64 (wrap64 (2 * k) - 1) * wrap64 (k - 1)) * wrap64 (wrap64 (2 * k) - 3)) * impl_GluingRun.at_ T ((wrap64 (k - 2)).toNat * 6+(wrap64 (h - 1)).toNat)))
def impl_GluingRun.put (T:List Int) (k h s:Int):List Int:=T.set (k.toNat * 6+h.toNat) (wrap64 (Int.tdiv s (wrap64 (k+1))))
def impl_GluingRun.rowl (k:Int):Nat→List Int→Int→List Int
  | 0,T,_=>T
  | d+1,T,h=>if 2≤k then (if 1≤h then impl_GluingRun.rowl k d (impl_GluingRun.put T k h (impl_GluingRun.s2 T k h)) (h+1) else impl_GluingRun.rowl k d (impl_GluingRun.put T k h (impl_GluingRun.s1 T k h)) (h+1)) else impl_GluingRun.rowl k d (impl_GluingRun.put T k h (impl_GluingRun.s1 T k h)) (h+1)
def impl_GluingRun.lp (g1:Nat):Nat→List Int→Int→List Int
  | 0,T,_=>T
  | d+1,T,k=>impl_GluingRun.lp g1 d (impl_GluingRun.rowl k g1 T 0) (k+1)
def impl_GluingRun.f (a0:Int) (a1:Int):Option Int:=if a0 < 0 then some (-1) else if a0 > 9 then some (-1) else if a1 < 0 then some (-1) else if a1 > 5 then some (-1) else
  some (impl_GluingRun.at_ (impl_GluingRun.lp (a1.toNat+1) a0.toNat ((List.replicate 60 0).set 0 1) 1) (a0.toNat * 6+a1.toNat))
theorem impl_GluingRun.put_len (T:List Int) (k h s:Int):(impl_GluingRun.put T k h s).length = T.length:=by simp [impl_GluingRun.put]
theorem impl_GluingRun.cellT {W:World} {g:Nat} {T:List Int} {t:TypeId} (h:W.heap[g]? = some (.cells (T.map (Value.int .i64)).toArray t (0,0))) (n:Nat) (hn:n < T.length) :
    W.cell? ⟨g,n,none⟩ = some (.int .i64 (impl_GluingRun.at_ T n)):=by
  rw [cell_of_row W g n _ _ _ h]
  simp [impl_GluingRun.at_,List.getD_eq_getElem?_getD,hn]
def impl_GluingRun.Z:Array Value:=((List.replicate 60 (0:Int)).map (Value.int .i64)).toArray
theorem impl_GluingRun.built1:(Try.prog.built 58 []).isSome = true:=by kernel_rfl
theorem impl_GluingRun.built2:(Try.prog.built 58 []).getD #[] = impl_GluingRun.Z:=by kernel_rfl
theorem impl_GluingRun.infoZ:(Try.prog.info? 58).map (·.size) = some impl_GluingRun.Z.size:=by kernel_rfl
theorem impl_GluingRun.oneZ:impl_GluingRun.Z.all (·.oneCell') = true:=by kernel_rfl
set_option maxHeartbeats 8000000 in
set_option maxRecDepth 100000 in
theorem impl_GluingRun.calls (a0:Int) (a1:Int) (r:Int) (w:World) (h:impl_GluingRun.f a0 a1 = some r) :
    Calls Try.prog 37 #[.int .i64 a0,.int .i64 a1] w fun e w'=>e = .returned (.int .i64 r)∧Below w.heap.size w w':=by
  have HB:=zA (Below.refl w.heap.size w)
  unfold impl_GluingRun.f at h
  by_cases c1:a0 < 0
  · rw [if_pos c1] at h
    obtain rfl:=zb h
    have b1:decide (a0 < 0) = true:=zU c1
    clear h c1
    go_enter Try.func37,Try.ntmps37
    go_wp2
    go_ret
    exact ⟨rfl,HB.out⟩
  rw [if_neg c1] at h
  have b1:decide (a0 < 0) = false:=zV c1
  by_cases c2:a0 > 9
  · rw [if_pos c2] at h
    obtain rfl:=zb h
    have b2:decide (9 < a0) = true:=zU c2
    clear h c1 c2
    go_enter Try.func37,Try.ntmps37
    go_wp2
    go_ret
    exact ⟨rfl,HB.out⟩
  rw [if_neg c2] at h
  have b2:decide (9 < a0) = false:=zV c2
  by_cases c3:a1 < 0
  · rw [if_pos c3] at h
    obtain rfl:=zb h
    have b3:decide (a1 < 0) = true:=zU c3
    clear h c1 c2 c3
    go_enter Try.func37,Try.ntmps37
    go_wp2
    go_ret
    exact ⟨rfl,HB.out⟩
  rw [if_neg c3] at h
  have b3:decide (a1 < 0) = false:=zV c3
  by_cases c4:a1 > 5
  · rw [if_pos c4] at h
    obtain rfl:=zb h
    have b4:decide (5 < a1) = true:=zU c4
    clear h c1 c2 c3 c4
    go_enter Try.func37,Try.ntmps37
    go_wp2
    go_ret
    exact ⟨rfl,HB.out⟩
  rw [if_neg c4] at h
  have b4:decide (5 < a1) = false:=zV c4
  have HN:=zA (show 0≤a0∧a0≤9∧0≤a1∧a1≤5 by omega)
  have HR:=zA (zb h)
  clear h c1 c2 c3 c4
  go_enter Try.func37,Try.ntmps37
  go_upto_region 4 with (first
    | ((with_reducible refine gate_dst (N:=23) rfl ?_);refine wpList_build rfl 58 #[] rfl impl_GluingRun.built1 ?_;rw [show (Try.prog.built 58 (Array.map (fun x=>(x.1,x.2)) (#[]:Array (Nat × Value))).toList) = Try.prog.built 58 [] from rfl,impl_GluingRun.built2])
    | ((with_reducible refine gate_dst (N:=5) rfl ?_);refine box_event rfl (N:=5) rfl (cs:=impl_GluingRun.Z) (t:=58) ?hr ?_;(case hr=>first|(go_simp;done)|(go_simp;rfl));intro g hg w1 hblk hb)
    | ((with_reducible refine gate_store (t:=58) (p:=5) rfl ?_);refine wpList_store_row rfl 58 (.tmp 5) (.tmp 23) rfl g impl_GluingRun.Z rfl rfl 58 impl_GluingRun.Z hblk impl_GluingRun.infoZ rfl impl_GluingRun.oneZ ?_))
  simp only [Act.put,zE,zH,zG]
  go_cut [5] (fun v5 wc=>v5 = .pointer (some ⟨g,0,none⟩) ∧ ∃ T:List Int,Aside0 (T = (List.replicate 60 0).set 0 1)∧Aside0 (wc.heap[g]? = some (.cells (T.map (Value.int .i64)).toArray 58 (0,0)))∧Aside0 (Below w.heap.size w wc))
  case first =>
    have hW:(w1.setRow g impl_GluingRun.Z).heap[g]? = some (.cells impl_GluingRun.Z 58 (0,0)):=setRow_heap _ _ _ _ _ _ hblk
    have hB:Below w.heap.size w (w1.setRow g impl_GluingRun.Z):=below_setRow hb (by rw [hg];exact Nat.le_refl _) _
    generalize w1.setRow g impl_GluingRun.Z = W1 at hW hB ⊢
    have hc:W1.cell? ⟨g,0,none⟩ = some (.int .i64 0):=cell_of_row W1 g 0 _ _ _ hW
    have hf:W1.frozen? ⟨g,0,none⟩ = false:=frozen_of_row W1 g 0 _ _ hW
    have HW:=zA hW
    have HB1:=zA hB
    have HB0:=zA hb
    have HK0:=zA hblk
    have HG:=zA hg
    clear hW hB hb hblk hg
    go_wp2
    go_meet
    case rel=>exact ⟨rfl,_,⟨rfl⟩,⟨heap_setCell_same W1 g 0 _ _ _ HW.out⟩,⟨zI HB1.out (by rw [HG.out];exact Nat.le_refl _)⟩⟩
  case rest =>
    obtain ⟨rfl,T,HT,HG,HBc⟩:=hcut
    have HG0:=zA hg
    clear hg hb hblk
    go_wp2
    go_loopg [6,7,8] a0.toNat (fun d v6 v7 v8 wr => ∃ (k:Int) (T:List Int),v6 = .int .i64 k∧Aside0 (1≤k∧k+d = a0+1)∧Aside0 (T.length = 60)∧Aside0 (impl_GluingRun.at_ (impl_GluingRun.lp (a1.toNat+1) d T k) (a0.toNat * 6+a1.toNat) = r)∧Aside0 (wr.heap[g]? = some (.cells (T.map (Value.int .i64)).toArray 58 (0,0)))∧Aside0 (Below w.heap.size w wr))
    case atStart=>exact ⟨1,T,rfl,⟨by omega,by have:=HN.out;omega⟩,⟨by rw [HT.out];rfl⟩,⟨by rw [HT.out];exact HR.out⟩,HG,HBc⟩
    case round =>
      clear HT HG HBc HR T
      obtain ⟨k,T,rfl,HX,HT,HA,HG,HBc⟩:=hrel
      cases gk with
      | zero =>
        have ck:decide (k≤a0) = false:=zV (by have:=HX.out;omega)
        have i1:(0≤a0) = True:=eq_true (by have:=HN.out;omega)
        have i2:(a0 < 10) = True:=eq_true (by have:=HN.out;omega)
        have i3:(0≤a1) = True:=eq_true (by have:=HN.out;omega)
        have i4:(a1 < 6) = True:=eq_true (by have:=HN.out;omega)
        have hcell:=impl_GluingRun.cellT HG.out (a0.toNat * 6+a1.toNat) (by have:=HN.out;rw [HT.out];omega)
        have hr:impl_GluingRun.at_ T (a0.toNat * 6+a1.toNat) = r:=HA.out
        rw [hr] at hcell
        clear hr
        go_wp2
        go_ret
        exact ⟨rfl,HBc.out⟩
      | succ d =>
        have ck:decide (k≤a0) = true:=zU (by have:=HX.out;omega)
        have HK:=zA (show 1≤k∧k≤9 by have:=HX.out;have:=HN.out;omega)
        go_wp2
        go_loopg [7,8] (a1.toNat+1) (fun e v7 v8 wr => ∃ (h:Int) (T1:List Int),v7 = .int .i64 h∧Aside0 (0≤h∧h+e = a1+1)∧Aside0 (T1.length = 60)∧Aside0 (impl_GluingRun.rowl k e T1 h = impl_GluingRun.rowl k (a1.toNat+1) T 0)∧Aside0 (wr.heap[g]? = some (.cells (T1.map (Value.int .i64)).toArray 58 (0,0)))∧Aside0 (Below w.heap.size w wr))
        case atStart=>exact ⟨0,T,rfl,⟨by omega,by have:=HN.out;omega⟩,HT,⟨rfl⟩,HG,HBc⟩
        case round =>
          clear HG HBc HT
          obtain ⟨h,T1,rfl,HY,HT,HE,HG,HBc⟩:=hrel
          cases gk with
          | zero =>
            have ch:decide (h≤a1) = false:=zV (by have:=HY.out;omega)
            have HW:=zA (show wrap64 (k+1) = k+1 by have:=HK.out;unfold wrap64;omega)
            go_wp2
            go_roundg d
            case measure=>omega
            case rel=>exact ⟨wrap64 (k+1),T1,rfl,⟨by rw [HW.out];have:=HX.out;omega,by rw [HW.out];have:=HX.out;omega⟩,HT,⟨by rw [HW.out];have h1:=HA.out;simp only [impl_GluingRun.lp] at h1;have h2:=HE.out;simp only [impl_GluingRun.rowl] at h2;rw [h2];exact h1⟩,HG,HBc⟩
          | succ e =>
            have ch:decide (h≤a1) = true:=zU (by have:=HY.out;omega)
            have HH:=zA (show 0≤h∧h≤5 by have:=HY.out;have:=HN.out;omega)
            have HW:=zA (show wrap64 (h+1) = h+1 by have:=HH.out;unfold wrap64;omega)
            have HE1:=zA (show wrap64 (k+1) = k+1 by have:=HK.out;unfold wrap64;omega)
            have HE2:=zA (show wrap64 (k - 1) = k - 1 by have:=HK.out;unfold wrap64;omega)
            have HE3:=zA (show wrap64 (k - 2) = k - 2 by have:=HK.out;unfold wrap64;omega)
            have HE4:=zA (show wrap64 (h - 1) = h - 1 by have:=HH.out;unfold wrap64;omega)
            have i1:(0≤wrap64 (k - 1)) = True:=eq_true (by rw [HE2.out];have:=HK.out;omega)
            have i2:(wrap64 (k - 1) < 10) = True:=eq_true (by rw [HE2.out];have:=HK.out;omega)
            have i3:(0≤h) = True:=eq_true HH.out.1
            have i4:(h < 6) = True:=eq_true (by have:=HH.out;omega)
            have i5:(0≤k) = True:=eq_true (by have:=HK.out;omega)
            have i6:(k < 10) = True:=eq_true (by have:=HK.out;omega)
            have i7:(wrap64 (k+1) == 0) = false:=beq_eq_false_iff_ne.mpr (by rw [HE1.out];have:=HK.out;omega)
            have i8:¬ (wrap64 (k+1) = 0):=by rw [HE1.out];have:=HK.out;omega
            have hcA:=impl_GluingRun.cellT HG.out ((wrap64 (k - 1)).toNat * 6+h.toNat) (by rw [HT.out,HE2.out];have:=HK.out;have:=HH.out;omega)
            have hcS:=impl_GluingRun.cellT HG.out (k.toNat * 6+h.toNat) (by rw [HT.out];have:=HK.out;have:=HH.out;omega)
            have hfS:wr.frozen? ⟨g,k.toNat * 6+h.toNat,none⟩ = false:=frozen_of_row wr _ _ _ _ HG.out
            have hE:=HE.out
            simp only [impl_GluingRun.rowl] at hE
            by_cases c2:2≤k
            · rw [if_pos c2] at hE
              have d2:decide (2≤k) = true:=zU c2
              by_cases c1:1≤h
              · rw [if_pos c1] at hE
                have d1:decide (1≤h) = true:=zU c1
                have HE':=zA hE
                have j1:(0≤wrap64 (k - 2)) = True:=eq_true (by rw [HE3.out];omega)
                have j2:(wrap64 (k - 2) < 10) = True:=eq_true (by rw [HE3.out];have:=HK.out;omega)
                have j3:(0≤wrap64 (h - 1)) = True:=eq_true (by rw [HE4.out];omega)
                have j4:(wrap64 (h - 1) < 6) = True:=eq_true (by rw [HE4.out];have:=HH.out;omega)
                have hcB:=impl_GluingRun.cellT HG.out ((wrap64 (k - 2)).toNat * 6+(wrap64 (h - 1)).toNat) (by rw [HT.out,HE3.out,HE4.out];have:=HK.out;have:=HH.out;omega)
                clear hE HE c1 c2
                go_upto_region 14 with (fail)
                rw [show wrap64 (wrap64 (wrap64 (2 * wrap64 (wrap64 (2 * k) - 1)) * impl_GluingRun.at_ T1 ((wrap64 (k - 1)).toNat * 6+h.toNat))+wrap64 (wrap64 (wrap64 (wrap64 (wrap64 (2 * k) - 1) * wrap64 (k - 1)) * wrap64 (wrap64 (2 * k) - 3)) * impl_GluingRun.at_ T1 ((wrap64 (k - 2)).toNat * 6+(wrap64 (h - 1)).toNat))) = impl_GluingRun.s2 T1 k h from rfl]
                obtain ⟨s,HS⟩:∃ s,Aside0 (impl_GluingRun.s2 T1 k h = s):=⟨_,⟨rfl⟩⟩
                rw [HS.out]
                go_region
                go_wp2
                go_roundg e
                case measure=>omega
                case rel =>
                  refine ⟨wrap64 (h+1),impl_GluingRun.put T1 k h s,rfl,⟨by rw [HW.out];have:=HY.out;omega,by rw [HW.out];have:=HY.out;omega⟩,⟨by rw [impl_GluingRun.put_len];exact HT.out⟩,⟨by rw [HW.out, ← HS.out];exact HE'.out⟩,⟨?_⟩,⟨?_⟩⟩
                  · have h1:=heap_setCell_same wr g (k.toNat * 6+h.toNat) _ _ (.int .i64 (wrap64 (Int.tdiv s (wrap64 (k+1))))) HG.out
                    rw [zE, ← List.map_set] at h1
                    exact h1
                  · exact zC (zI HBc.out (by rw [HG0.out];exact Nat.le_refl _))
              · rw [if_neg c1] at hE
                have d1:decide (1≤h) = false:=zV c1
                have HE':=zA hE
                clear hE HE c1 c2
                go_upto_region 14 with (fail)
                rw [show wrap64 (wrap64 (2 * wrap64 (wrap64 (2 * k) - 1)) * impl_GluingRun.at_ T1 ((wrap64 (k - 1)).toNat * 6+h.toNat)) = impl_GluingRun.s1 T1 k h from rfl]
                obtain ⟨s,HS⟩:∃ s,Aside0 (impl_GluingRun.s1 T1 k h = s):=⟨_,⟨rfl⟩⟩
                rw [HS.out]
                go_region
                go_wp2
                go_roundg e
                case measure=>omega
                case rel =>
                  refine ⟨wrap64 (h+1),impl_GluingRun.put T1 k h s,rfl,⟨by rw [HW.out];have:=HY.out;omega,by rw [HW.out];have:=HY.out;omega⟩,⟨by rw [impl_GluingRun.put_len];exact HT.out⟩,⟨by rw [HW.out, ← HS.out];exact HE'.out⟩,⟨?_⟩,⟨?_⟩⟩
                  · have h1:=heap_setCell_same wr g (k.toNat * 6+h.toNat) _ _ (.int .i64 (wrap64 (Int.tdiv s (wrap64 (k+1))))) HG.out
                    rw [zE, ← List.map_set] at h1
                    exact h1
                  · exact zC (zI HBc.out (by rw [HG0.out];exact Nat.le_refl _))
            · rw [if_neg c2] at hE
              have d2:decide (2≤k) = false:=zV c2
              have HE':=zA hE
              clear hE HE c2
              go_upto_region 14 with (fail)
              rw [show wrap64 (wrap64 (2 * wrap64 (wrap64 (2 * k) - 1)) * impl_GluingRun.at_ T1 ((wrap64 (k - 1)).toNat * 6+h.toNat)) = impl_GluingRun.s1 T1 k h from rfl]
              obtain ⟨s,HS⟩:∃ s,Aside0 (impl_GluingRun.s1 T1 k h = s):=⟨_,⟨rfl⟩⟩
              rw [HS.out]
              go_region
              go_wp2
              go_roundg e
              case measure=>omega
              case rel =>
                refine ⟨wrap64 (h+1),impl_GluingRun.put T1 k h s,rfl,⟨by rw [HW.out];have:=HY.out;omega,by rw [HW.out];have:=HY.out;omega⟩,⟨by rw [impl_GluingRun.put_len];exact HT.out⟩,⟨by rw [HW.out, ← HS.out];exact HE'.out⟩,⟨?_⟩,⟨?_⟩⟩
                · have h1:=heap_setCell_same wr g (k.toNat * 6+h.toNat) _ _ (.int .i64 (wrap64 (Int.tdiv s (wrap64 (k+1))))) HG.out
                  rw [zE, ← List.map_set] at h1
                  exact h1
                · exact zC (zI HBc.out (by rw [HG0.out];exact Nat.le_refl _))

/-! ### impl_choose: function 61 -/
mutual
def impl_choose.j0:Nat→Int→Int→Bool→Option (Int)
 | 0,_,_,_=>none
 | k+1,x0,x1,x13=>if x13 = true then (some 0) else (impl_choose.l0 k x0 x1 1 1)
def impl_choose.l0:Nat→Int→Int→Int→Int→Option (Int)
 | 0,_,_,_,_=>none
 | k+1,x0,x1,x5,x6=>if x6≤x1 then (if x6 = 0 then (none) else (impl_choose.l0 k x0 x1 (wrap64 (Int.tdiv (wrap64 (x5 * (wrap64 ((wrap64 (x0 - x1))+x6)))) x6)) (wrap64 (x6+1)))) else (some x5)
end
def impl_choose.f (k:Nat) (a0:Int) (a1:Int):Option (Int):=if a1 < 0 then (impl_choose.j0 k a0 a1 true) else (impl_choose.j0 k a0 a1 (decide (a1 > a0)))
theorem impl_choose.mono_l:∀ k,(∀ y0 y1 y2,LeO (impl_choose.j0 k y0 y1 y2) (impl_choose.j0 (k+1) y0 y1 y2))∧(∀ y0 y1 y2 y3,LeO (impl_choose.l0 k y0 y1 y2 y3) (impl_choose.l0 (k+1) y0 y1 y2 y3))
 | 0=>⟨fun _ _ _ r h=>by simp [impl_choose.j0] at h,fun _ _ _ _ r h=>by simp [impl_choose.l0] at h⟩
 | k+1=>by
  obtain ⟨ih0,ih1⟩:=impl_choose.mono_l k
  refine ⟨?_,?_⟩
  ·intro y0 y1 y2
   unfold impl_choose.j0
   repeat' first
   | (with_reducible exact ih0 _ _ _)
   | (with_reducible exact ih1 _ _ _ _)
   | (with_reducible exact LeO.refl _)
   | (with_reducible exact zm _)
   | (with_reducible refine zo ?_ ?_)
   | (with_reducible refine zn ?_ (fun _=>?_))
   | exact ih0 _ _ _
   | exact ih1 _ _ _ _
   | exact zm _
   | refine zo ?_ ?_
   | refine zn ?_ (fun _=>?_)
  ·intro y0 y1 y2 y3
   unfold impl_choose.l0
   repeat' first
   | (with_reducible exact ih0 _ _ _)
   | (with_reducible exact ih1 _ _ _ _)
   | (with_reducible exact LeO.refl _)
   | (with_reducible exact zm _)
   | (with_reducible refine zo ?_ ?_)
   | (with_reducible refine zn ?_ (fun _=>?_))
   | exact ih0 _ _ _
   | exact ih1 _ _ _ _
   | exact zm _
   | refine zo ?_ ?_
   | refine zn ?_ (fun _=>?_)
theorem impl_choose.mono:∀ a0 a1 k,LeO (impl_choose.f k a0 a1) (impl_choose.f (k+1) a0 a1):=by
 intro a0 a1 k
 obtain ⟨ih0,ih1⟩:=impl_choose.mono_l k
 unfold impl_choose.f
 repeat' first
   | (with_reducible exact ih0 _ _ _)
   | (with_reducible exact ih1 _ _ _ _)
   | (with_reducible exact LeO.refl _)
   | (with_reducible exact zm _)
   | (with_reducible refine zo ?_ ?_)
   | (with_reducible refine zn ?_ (fun _=>?_))
   | exact ih0 _ _ _
   | exact ih1 _ _ _ _
   | exact zm _
   | refine zo ?_ ?_
   | refine zn ?_ (fun _=>?_)
set_option maxHeartbeats 8000000 in
set_option maxRecDepth 100000 in
theorem impl_choose.calls (k:Nat) (a0:Int) (a1:Int) (r:Int) (w:World) (h:impl_choose.f k a0 a1 = some r) :
  Calls Try.prog 61 #[.int .i64 a0,.int .i64 a1] w fun e w'=>e = .returned (.int .i64 r)∧Drawn0 w w':=by
 have H:(if a1 < 0 then (impl_choose.j0 k a0 a1 true) else (impl_choose.j0 k a0 a1 (decide (a1 > a0)))) = some r:=h
 clear h
 have HC3:=zA H
 clear H
 go_enter Try.func61,Try.ntmps61
 go_upto_region 1 with (fail)
 go_cut [13] (fun v13 wc => ∃ (kq:Nat) (x13_2:Bool),v13 = .bool x13_2∧Aside0 (impl_choose.j0 kq a0 a1 x13_2 = some r)∧Aside0 (kq≤k)∧Drawn0 w wc)
 case first =>
  have H:=HC3.out
  clear HC3
  by_cases c4:a1 < 0
  ·rw [if_pos c4] at H
   have c4b0:decide (a1 < 0) = true:=zU c4
   clear c4
   (first|rw [c4b0]|(simp only [i64_w,i32_w];rw [c4b0])|skip)
   have H':=zA H
   clear H
   go_wp2
   go_meet
   case rel=>exact ⟨_,(true),(by first|rfl|(simp;done)|(simp [*];done)),H',⟨by first|omega|exact Nat.le_refl _⟩,by repeat (first|exact Drawn0.refl _|apply Drawn0.step)⟩
  ·rw [if_neg c4] at H
   have c4b0:decide (a1 < 0) = false:=zV c4
   clear c4
   (first|rw [c4b0]|(simp only [i64_w,i32_w];rw [c4b0])|skip)
   have H':=zA H
   clear H
   go_wp2
   go_meet
   case rel=>exact ⟨_,(decide (a1 > a0)),(by first|rfl|(simp;done)|(simp [*];done)),H',⟨by first|omega|exact Nat.le_refl _⟩,by repeat (first|exact Drawn0.refl _|apply Drawn0.step)⟩
 case rest =>
  clear HC3
  try clear p2
  try clear c4
  try clear c4b0
  obtain ⟨kq,x13_2,rfl,HA,HJ2,⟨mc2,rfl⟩⟩:=hcut
  cases kq with
  | zero=>exact absurd HA.out (by simp [impl_choose.j0])
  | succ kj2 =>
   have H:=HA.out
   clear HA
   simp only [impl_choose.j0] at H
   by_cases c5:x13_2 = true
   ·subst c5
    have H1:(some 0) = some r:=by rw [if_pos rfl] at H;exact H
    clear H
    have H:=H1
    clear H1
    obtain rfl:=zb H
    go_wp2
    go_ret
    exact ⟨by first|rfl|(simp;done)|(simp [*];done),by repeat (first|exact Drawn0.refl _|apply Drawn0.step)⟩
   ·replace c5:=Bool.eq_false_iff.mpr c5
    subst c5
    have H1:(impl_choose.l0 kj2 a0 a1 1 1) = some r:=by rw [if_neg (show ¬ (false = true) by decide)] at H;exact H
    clear H
    have H:=H1
    clear H1
    have H':=zA H
    clear H
    go_wp2
    go_loopg [5,6] kj2 (fun kq v5 v6 w' => ∃ (x5_2:Int) (x6_2:Int),v5 = .int .i64 x5_2∧v6 = .int .i64 x6_2∧Aside0 (impl_choose.l0 kq a0 a1 x5_2 x6_2 = some r)∧Aside0 (kq≤kj2)∧Drawn0 w w')
    case atStart=>exact ⟨(1),(1),(by first|rfl|(simp;done)|(simp [*];done)),(by first|rfl|(simp;done)|(simp [*];done)),H',⟨Nat.le_refl _⟩,by repeat (first|exact Drawn0.refl _|apply Drawn0.step)⟩
    case round =>
     clear H'
     try clear c2
     try clear p2
     try clear c4
     try clear c4b0
     try clear c5
     try clear p2
     obtain ⟨x5_2,x6_2,rfl,rfl,HA,HK2,⟨m2,rfl⟩⟩:=hrel
     cases gk with
     | zero=>exact absurd HA.out (by simp [impl_choose.l0])
     | succ k2 =>
      have H:=HA.out
      clear HA
      simp only [impl_choose.l0] at H
      by_cases c6:x6_2≤a1
      ·rw [if_pos c6] at H
       have c6b0:decide (x6_2≤a1) = true:=zU c6
       clear c6
       by_cases c7:x6_2 = 0
       ·rw [if_pos c7] at H
        exact absurd H (by simp)
       ·rw [if_neg c7] at H
        have c7b0:(x6_2 == 0) = false:=beq_eq_false_iff_ne.mpr c7
        have c7b1:(x6_2 != 0) = true:=bne_iff_ne.mpr c7
        have H':=zA H
        clear H
        go_wp2
        go_roundg k2
        case measure=>have:=HJ2.out;have:=HK2.out;omega
        case rel=>exact ⟨(wrap64 (Int.tdiv (wrap64 (x5_2 * (wrap64 ((wrap64 (a0 - a1))+x6_2)))) x6_2)),(wrap64 (x6_2+1)),(by first|rfl|(simp;done)|(simp [*];done)),(by first|rfl|(simp;done)|(simp [*];done)),H',⟨by have:=HJ2.out;have:=HK2.out;omega⟩,by repeat (first|exact Drawn0.refl _|apply Drawn0.step)⟩
      ·rw [if_neg c6] at H
       have c6b0:decide (x6_2≤a1) = false:=zV c6
       clear c6
       obtain rfl:=zb H
       go_wp2
       go_ret
       exact ⟨by first|rfl|(simp;done)|(simp [*];done),by repeat (first|exact Drawn0.refl _|apply Drawn0.step)⟩

/-! ### impl_RootedTrees: function 38 -/
def impl_RootedTrees.f (k:Nat) (a0:Int):Option (Int):=if a0 < 0 then (some (-1)) else (if a0 > 12 then (some (-1)) else ((impl_choose.f k (wrap64 (2 * a0)) a0).bind fun t535=>(if (wrap64 (a0+1)) = 0 then (none) else (some (wrap64 (Int.tdiv t535 (wrap64 (a0+1))))))))
theorem impl_RootedTrees.mono:∀ a0 k,LeO (impl_RootedTrees.f k a0) (impl_RootedTrees.f (k+1) a0):=by
 intro a0 k
 unfold impl_RootedTrees.f
 repeat' first
   | (with_reducible exact impl_choose.mono _ _ _)
   | (with_reducible exact LeO.refl _)
   | (with_reducible exact zm _)
   | (with_reducible refine zo ?_ ?_)
   | (with_reducible refine zn ?_ (fun _=>?_))
   | exact impl_choose.mono _ _ _
   | exact zm _
   | refine zo ?_ ?_
   | refine zn ?_ (fun _=>?_)
set_option maxHeartbeats 8000000 in
set_option maxRecDepth 100000 in
theorem impl_RootedTrees.calls (k:Nat) (a0:Int) (r:Int) (w:World) (h:impl_RootedTrees.f k a0 = some r) :
  Calls Try.prog 38 #[.int .i64 a0] w fun e w'=>e = .returned (.int .i64 r)∧Drawn0 w w':=by
 have H:(if a0 < 0 then (some (-1)) else (if a0 > 12 then (some (-1)) else ((impl_choose.f k (wrap64 (2 * a0)) a0).bind fun t535=>(if (wrap64 (a0+1)) = 0 then (none) else (some (wrap64 (Int.tdiv t535 (wrap64 (a0+1))))))))) = some r:=h
 clear h
 by_cases c2:a0 < 0
 ·rw [if_pos c2] at H
  have c2b0:decide (a0 < 0) = true:=zU c2
  clear c2
  obtain rfl:=zb H
  go_enter Try.func38,Try.ntmps38
  go_wp2
  go_ret
  exact ⟨by first|rfl|(simp;done)|(simp [*];done),by repeat (first|exact Drawn0.refl _|apply Drawn0.step)⟩
 ·rw [if_neg c2] at H
  have c2b0:decide (a0 < 0) = false:=zV c2
  clear c2
  by_cases c3:a0 > 12
  ·rw [if_pos c3] at H
   have c3b0:decide (12 < a0) = true:=zU c3
   clear c3
   obtain rfl:=zb H
   go_enter Try.func38,Try.ntmps38
   go_wp2
   go_ret
   exact ⟨by first|rfl|(simp;done)|(simp [*];done),by repeat (first|exact Drawn0.refl _|apply Drawn0.step)⟩
  ·rw [if_neg c3] at H
   have c3b0:decide (12 < a0) = false:=zV c3
   clear c3
   replace H:=zz0 H
   obtain ⟨t535,A40,H⟩:=H
   replace H:(if (wrap64 (a0+1)) = 0 then (none) else (some (wrap64 (Int.tdiv t535 (wrap64 (a0+1)))))) = some r:=H
   have A4:=zA A40
   clear A40
   by_cases c5:(wrap64 (a0+1)) = 0
   ·rw [if_pos c5] at H
    exact absurd H (by simp)
   ·rw [if_neg c5] at H
    have c5b0:((wrap64 (a0+1)) == 0) = false:=beq_eq_false_iff_ne.mpr c5
    have c5b1:((wrap64 (a0+1)) != 0) = true:=bne_iff_ne.mpr c5
    obtain rfl:=zb H
    go_enter Try.func38,Try.ntmps38
    go_wp2_with (first|((with_reducible refine gate_callee (f:=61) rfl ?_);refine goesL_ (some 12) rfl rfl Try.func61 (by kernel_rfl) rfl #[.int .i64 (wrap64 (2 * a0)),.int .i64 a0] rfl (by (try simp only [zP,zS,zT]);first|done|rfl|(simp only [zR,zQ];rfl)) ?_;(with_reducible refine (impl_choose.calls k (wrap64 (2 * a0)) a0 t535 _ A4.out).mono ?_);rintro e w' ⟨rfl,⟨nd,rfl⟩⟩;refine ⟨_,rfl,?_⟩))
    go_ret
    exact ⟨by first|rfl|(simp;done)|(simp [*];done),by repeat (first|exact Drawn0.refl _|apply Drawn0.step)⟩

/-! ### laws_FnRootedOne: function 12 -/
def laws_FnRootedOne.j0:Nat→Int→Int→Int→Int→Bool→Option (Bool)
 | 0,_,_,_,_,_=>none
 | k+1,x3,x4,x5,x6,x28=>if x28 = true then (some (x5 == x6)) else ((impl_GluingRun.f x3 x4).bind fun t540=>(if t540 = (-1) then (if x4 > 0 then (some true) else ((impl_RootedTrees.f k x3).bind fun t541=>(some (x5 == t541)))) else (if t540 = x5 then (if x4 > 0 then (some true) else ((impl_RootedTrees.f k x3).bind fun t542=>(some (x5 == t542)))) else (some false))))
def laws_FnRootedOne.f (k:Nat) (l0:List Int):Option (Bool):=if (l0.length:Int) > 1048576 then (some true) else ((spec_DrawRootedOne.f k l0).bind fun bt536=>((impl_RootedOne.f k bt536.1 bt536.2).bind fun t538=>((spec_RootedOne.f k bt536.1 bt536.2).bind fun t539=>(if t538 = t539 then (laws_FnRootedOne.j0 k bt536.1 bt536.2 t538 t539 (decide (t538 < 0))) else (laws_FnRootedOne.j0 k bt536.1 bt536.2 t538 t539 true)))))
theorem laws_FnRootedOne.mono_l:∀ k,(∀ y0 y1 y2 y3 y4,LeO (laws_FnRootedOne.j0 k y0 y1 y2 y3 y4) (laws_FnRootedOne.j0 (k+1) y0 y1 y2 y3 y4))
 | 0=>fun _ _ _ _ _ r h=>by simp [laws_FnRootedOne.j0] at h
 | k+1=>by
  have ih0:=laws_FnRootedOne.mono_l k
  ·intro y0 y1 y2 y3 y4
   unfold laws_FnRootedOne.j0
   repeat' first
   | (with_reducible exact ih0 _ _ _ _ _)
   | (with_reducible exact impl_RootedOne.mono _ _ _)
   | (with_reducible exact impl_RootedTrees.mono _ _)
   | (with_reducible exact spec_DrawRootedOne.mono _ _)
   | (with_reducible exact spec_RootedOne.mono _ _ _)
   | (with_reducible exact LeO.refl _)
   | (with_reducible exact zm _)
   | (with_reducible refine zo ?_ ?_)
   | (with_reducible refine zn ?_ (fun _=>?_))
   | exact ih0 _ _ _ _ _
   | exact impl_RootedOne.mono _ _ _
   | exact impl_RootedTrees.mono _ _
   | exact spec_DrawRootedOne.mono _ _
   | exact spec_RootedOne.mono _ _ _
   | exact zm _
   | refine zo ?_ ?_
   | refine zn ?_ (fun _=>?_)
theorem laws_FnRootedOne.mono:∀ a0 k,LeO (laws_FnRootedOne.f k a0) (laws_FnRootedOne.f (k+1) a0):=by
 intro a0 k
 have ih0:=laws_FnRootedOne.mono_l k
 unfold laws_FnRootedOne.f
 repeat' first
   | (with_reducible exact ih0 _ _ _ _ _)
   | (with_reducible exact impl_RootedOne.mono _ _ _)
   | (with_reducible exact impl_RootedTrees.mono _ _)
   | (with_reducible exact spec_DrawRootedOne.mono _ _)
   | (with_reducible exact spec_RootedOne.mono _ _ _)
   | (with_reducible exact LeO.refl _)
   | (with_reducible exact zm _)
   | (with_reducible refine zo ?_ ?_)
   | (with_reducible refine zn ?_ (fun _=>?_))
   | exact ih0 _ _ _ _ _
   | exact impl_RootedOne.mono _ _ _
   | exact impl_RootedTrees.mono _ _
   | exact spec_DrawRootedOne.mono _ _
   | exact spec_RootedOne.mono _ _ _
   | exact zm _
   | refine zo ?_ ?_
   | refine zn ?_ (fun _=>?_)
set_option maxHeartbeats 8000000 in
set_option maxRecDepth 100000 in
theorem laws_FnRootedOne.calls (k:Nat) (A0:Option Addr) (c0:Nat) (l0:List Int) (r:Bool) (w:World) (hr0:Kd.C (Kd.int .u8) w A0 l0.length l0) (hc0:l0.length≤c0) (h:laws_FnRootedOne.f k l0 = some r) :
  Calls Try.prog 12 #[.slice A0 l0.length c0] w fun e w'=>e = .returned (.bool r)∧Below w.heap.size w w':=by
 have HR0:=zA hr0
 have HC0:=zA hc0
 clear hr0 hc0
 have HB:=zA (Below.refl w.heap.size w)
 have H:(if (l0.length:Int) > 1048576 then (some true) else ((spec_DrawRootedOne.f k l0).bind fun bt536=>((impl_RootedOne.f k bt536.1 bt536.2).bind fun t538=>((spec_RootedOne.f k bt536.1 bt536.2).bind fun t539=>(if t538 = t539 then (laws_FnRootedOne.j0 k bt536.1 bt536.2 t538 t539 (decide (t538 < 0))) else (laws_FnRootedOne.j0 k bt536.1 bt536.2 t538 t539 true)))))) = some r:=h
 clear h
 by_cases c2:(l0.length:Int) > 1048576
 ·rw [if_pos c2] at H
  have c2b0:decide (1048576 < (l0.length:Int)) = true:=zU c2
  have c2b1:decide (1048576 < l0.length) = true:=zU (by omega)
  clear c2
  obtain rfl:=zb H
  go_enter Try.func12,Try.ntmps12
  go_wp2
  go_ret
  exact ⟨by first|rfl|(simp [errW_none,errW_some] <;> rfl)|(simp [*,errW_none,errW_some] <;> rfl),by repeat (first|(with_reducible first|exact HB.out|apply zD|apply zB|apply zC)|exact HB.out)⟩
 ·rw [if_neg c2] at H
  have c2b0:decide (1048576 < (l0.length:Int)) = false:=zV c2
  have c2b1:decide (1048576 < l0.length) = false:=zV (by omega)
  clear c2
  replace H:=zz0 H
  obtain ⟨⟨t536,t537⟩,A30,H⟩:=H
  replace H:((impl_RootedOne.f k t536 t537).bind fun t538=>((spec_RootedOne.f k t536 t537).bind fun t539=>(if t538 = t539 then (laws_FnRootedOne.j0 k t536 t537 t538 t539 (decide (t538 < 0))) else (laws_FnRootedOne.j0 k t536 t537 t538 t539 true)))) = some r:=H
  have A3:=zA A30
  clear A30
  replace H:=zz0 H
  obtain ⟨t538,A40,H⟩:=H
  replace H:((spec_RootedOne.f k t536 t537).bind fun t539=>(if t538 = t539 then (laws_FnRootedOne.j0 k t536 t537 t538 t539 (decide (t538 < 0))) else (laws_FnRootedOne.j0 k t536 t537 t538 t539 true))) = some r:=H
  have A4:=zA A40
  clear A40
  replace H:=zz0 H
  obtain ⟨t539,A50,H⟩:=H
  replace H:(if t538 = t539 then (laws_FnRootedOne.j0 k t536 t537 t538 t539 (decide (t538 < 0))) else (laws_FnRootedOne.j0 k t536 t537 t538 t539 true)) = some r:=H
  have A5:=zA A50
  clear A50
  have HC6:=zA H
  clear H
  go_enter Try.func12,Try.ntmps12
  go_upto_region 6 with (first|((with_reducible refine gate_callee (f:=36) rfl ?_);refine goesL_ (some 13) rfl rfl Try.func36 (by kernel_rfl) rfl #[.slice A0 l0.length c0] rfl (by (try simp only [zP,zS,zT]);first|done|rfl|(simp only [zR,zQ];rfl)) ?_;(with_reducible refine (spec_DrawRootedOne.calls k _ _ l0 t536 t537 _ ?side1 ?side2 A3.out).mono ?_);(case side1=>repeat (first|exact HR0.out|(with_reducible refine zW ?_ _)|(with_reducible refine zX ?_ _)|(with_reducible refine zY ?_)));(case side2=>exact HC0.out);rintro e w7 ⟨rfl,hb⟩;refine ⟨_,rfl,?_⟩;have n0_:=zA (za (by repeat (first|(with_reducible first|exact HB.out|apply zD|apply zB|apply zC)|exact HB.out)) hb);clear HB;have HB:=n0_;clear n0_;(try clear hb);(try clear hb2);(try clear hk);(try clear hi))|((with_reducible refine gate_callee (f:=30) rfl ?_);refine goesL_ (some 18) rfl rfl Try.func30 (by kernel_rfl) rfl #[.int .i64 t536,.int .i64 t537] rfl (by (try simp only [zP,zS,zT]);first|done|rfl|(simp only [zR,zQ];rfl)) ?_;(with_reducible refine (impl_RootedOne.calls k t536 t537 t538 _ A4.out).mono ?_);rintro e w8 ⟨rfl,hb⟩;refine ⟨_,rfl,?_⟩;have n0_:=zA (za (by repeat (first|(with_reducible first|exact HB.out|apply zD|apply zB|apply zC)|exact HB.out)) hb);clear HB;have HB:=n0_;clear n0_;(try clear hb);(try clear hb2);(try clear hk);(try clear hi))|((with_reducible refine gate_callee (f:=29) rfl ?_);refine goesL_ (some 21) rfl rfl Try.func29 (by kernel_rfl) rfl #[.int .i64 t536,.int .i64 t537] rfl (by (try simp only [zP,zS,zT]);first|done|rfl|(simp only [zR,zQ];rfl)) ?_;(with_reducible refine (spec_RootedOne.calls k t536 t537 t539 _ A5.out).mono ?_);rintro e w9 ⟨rfl,hb⟩;refine ⟨_,rfl,?_⟩;have n0_:=zA (za (by repeat (first|(with_reducible first|exact HB.out|apply zD|apply zB|apply zC)|exact HB.out)) hb);clear HB;have HB:=n0_;clear n0_;(try clear hb);(try clear hb2);(try clear hk);(try clear hi)))
  (try simp only [Act.put,zE,zG,zH])
  go_cut [28] (fun v28 wc => ∃ (kq:Nat) (x28_5:Bool),v28 = .bool x28_5∧Aside0 (laws_FnRootedOne.j0 kq t536 t537 t538 t539 x28_5 = some r)∧Aside0 (kq≤k)∧Aside0 (Below w.heap.size w wc))
  case first =>
   have H:=HC6.out
   clear HC6
   by_cases c10:t538 = t539
   ·rw [if_pos c10] at H
    have c10b0:(t538 == t539) = true:=beq_iff_eq.mpr c10
    have c10b1:(t538 != t539) = false:=bne_eq_false_iff_eq.mpr c10
    clear c10
    (first|rw [c10b0]|(simp only [i64_w,i32_w];rw [c10b0])|skip)
    have H':=zA H
    clear H
    go_wp2
    go_meet
    case rel=>exact ⟨_,(decide (t538 < 0)),(by first|rfl|(simp;done)|(simp [*];done)),H',⟨by first|omega|exact Nat.le_refl _⟩,⟨by repeat (first|(with_reducible first|exact HB.out|apply zD|apply zB|apply zC)|exact HB.out)⟩⟩
   ·rw [if_neg c10] at H
    have c10b0:(t538 == t539) = false:=beq_eq_false_iff_ne.mpr c10
    have c10b1:(t538 != t539) = true:=bne_iff_ne.mpr c10
    (first|rw [c10b0]|(simp only [i64_w,i32_w];rw [c10b0])|skip)
    have H':=zA H
    clear H
    go_wp2
    go_meet
    case rel=>exact ⟨_,(true),(by first|rfl|(simp;done)|(simp [*];done)),H',⟨by first|omega|exact Nat.le_refl _⟩,⟨by repeat (first|(with_reducible first|exact HB.out|apply zD|apply zB|apply zC)|exact HB.out)⟩⟩
  case rest =>
   clear HC6
   try clear c1
   try clear c2
   try clear c2b0
   try clear c2b1
   try clear p2
   try clear c3
   try clear c10
   try clear c10b0
   try clear c10b1
   obtain ⟨kq,x28_5,rfl,HA,HJ5,HB⟩:=hcut
   cases kq with
   | zero=>exact absurd HA.out (by simp [laws_FnRootedOne.j0])
   | succ kj5 =>
    have H:=HA.out
    clear HA
    simp only [laws_FnRootedOne.j0] at H
    by_cases c11:x28_5 = true
    ·subst c11
     have H1:(some (t538 == t539)) = some r:=by rw [if_pos rfl] at H;exact H
     clear H
     have H:=H1
     clear H1
     obtain rfl:=zb H
     go_wp2
     go_ret
     exact ⟨by first|rfl|(simp [errW_none,errW_some] <;> rfl)|(simp [*,errW_none,errW_some] <;> rfl),by repeat (first|(with_reducible first|exact HB.out|apply zD|apply zB|apply zC)|exact HB.out)⟩
    ·replace c11:=Bool.eq_false_iff.mpr c11
     subst c11
     have H1:((impl_GluingRun.f t536 t537).bind fun t540=>(if t540 = (-1) then (if t537 > 0 then (some true) else ((impl_RootedTrees.f kj5 t536).bind fun t541=>(some (t538 == t541)))) else (if t540 = t538 then (if t537 > 0 then (some true) else ((impl_RootedTrees.f kj5 t536).bind fun t542=>(some (t538 == t542)))) else (some false)))) = some r:=by rw [if_neg (show ¬ (false = true) by decide)] at H;exact H
     clear H
     have H:=H1
     clear H1
     replace H:=zz0 H
     obtain ⟨t540,A120,H⟩:=H
     replace H:(if t540 = (-1) then (if t537 > 0 then (some true) else ((impl_RootedTrees.f kj5 t536).bind fun t541=>(some (t538 == t541)))) else (if t540 = t538 then (if t537 > 0 then (some true) else ((impl_RootedTrees.f kj5 t536).bind fun t542=>(some (t538 == t542)))) else (some false))) = some r:=H
     have A12:=zA A120
     clear A120
     by_cases c13:t540 = (-1)
     ·rw [if_pos c13] at H
      have c13b0:(t540 == (-1)) = true:=beq_iff_eq.mpr c13
      have c13b1:(t540 != (-1)) = false:=bne_eq_false_iff_eq.mpr c13
      clear c13
      by_cases c14:t537 > 0
      ·rw [if_pos c14] at H
       have c14b0:decide (0 < t537) = true:=zU c14
       clear c14
       obtain rfl:=zb H
       go_wp2_with (first|((with_reducible refine gate_callee (f:=37) rfl ?_);refine goesL_ (some 34) rfl rfl Try.func37 (by kernel_rfl) rfl #[.int .i64 t536,.int .i64 t537] rfl (by (try simp only [zP,zS,zT]);first|done|rfl|(simp only [zR,zQ];rfl)) ?_;(with_reducible refine (impl_GluingRun.calls t536 t537 t540 _ A12.out).mono ?_);rintro e w15 ⟨rfl,hb⟩;refine ⟨_,rfl,?_⟩;have n0_:=zA (za (by repeat (first|(with_reducible first|exact HB.out|apply zD|apply zB|apply zC)|exact HB.out)) hb);clear HB;have HB:=n0_;clear n0_;(try clear hb);(try clear hb2);(try clear hk);(try clear hi)))
       go_ret
       exact ⟨by first|rfl|(simp [errW_none,errW_some] <;> rfl)|(simp [*,errW_none,errW_some] <;> rfl),by repeat (first|(with_reducible first|exact HB.out|apply zD|apply zB|apply zC)|exact HB.out)⟩
      ·rw [if_neg c14] at H
       have c14b0:decide (0 < t537) = false:=zV c14
       clear c14
       replace H:=zz0 H
       obtain ⟨t541,A160,H⟩:=H
       replace H:(some (t538 == t541)) = some r:=H
       have A16:=zA A160
       clear A160
       obtain rfl:=zb H
       go_wp2_with (first|((with_reducible refine gate_callee (f:=37) rfl ?_);refine goesL_ (some 34) rfl rfl Try.func37 (by kernel_rfl) rfl #[.int .i64 t536,.int .i64 t537] rfl (by (try simp only [zP,zS,zT]);first|done|rfl|(simp only [zR,zQ];rfl)) ?_;(with_reducible refine (impl_GluingRun.calls t536 t537 t540 _ A12.out).mono ?_);rintro e w17 ⟨rfl,hb⟩;refine ⟨_,rfl,?_⟩;have n0_:=zA (za (by repeat (first|(with_reducible first|exact HB.out|apply zD|apply zB|apply zC)|exact HB.out)) hb);clear HB;have HB:=n0_;clear n0_;(try clear hb);(try clear hb2);(try clear hk);(try clear hi))|(go_at_call 38;(with_reducible refine (impl_RootedTrees.calls kj5 t536 t541 _ A16.out).mono ?_);rintro e w' ⟨rfl,⟨nd,rfl⟩⟩))
       go_ret
       exact ⟨by first|rfl|(simp [errW_none,errW_some] <;> rfl)|(simp [*,errW_none,errW_some] <;> rfl),by repeat (first|(with_reducible first|exact HB.out|apply zD|apply zB|apply zC)|exact HB.out)⟩
     ·rw [if_neg c13] at H
      have c13b0:(t540 == (-1)) = false:=beq_eq_false_iff_ne.mpr c13
      have c13b1:(t540 != (-1)) = true:=bne_iff_ne.mpr c13
      by_cases c18:t540 = t538
      ·rw [if_pos c18] at H
       have c18b0:(t540 == t538) = true:=beq_iff_eq.mpr c18
       have c18b1:(t540 != t538) = false:=bne_eq_false_iff_eq.mpr c18
       clear c18
       by_cases c19:t537 > 0
       ·rw [if_pos c19] at H
        have c19b0:decide (0 < t537) = true:=zU c19
        clear c19
        obtain rfl:=zb H
        go_wp2_with (first|((with_reducible refine gate_callee (f:=37) rfl ?_);refine goesL_ (some 34) rfl rfl Try.func37 (by kernel_rfl) rfl #[.int .i64 t536,.int .i64 t537] rfl (by (try simp only [zP,zS,zT]);first|done|rfl|(simp only [zR,zQ];rfl)) ?_;(with_reducible refine (impl_GluingRun.calls t536 t537 t540 _ A12.out).mono ?_);rintro e w20 ⟨rfl,hb⟩;refine ⟨_,rfl,?_⟩;have n0_:=zA (za (by repeat (first|(with_reducible first|exact HB.out|apply zD|apply zB|apply zC)|exact HB.out)) hb);clear HB;have HB:=n0_;clear n0_;(try clear hb);(try clear hb2);(try clear hk);(try clear hi)))
        go_ret
        exact ⟨by first|rfl|(simp [errW_none,errW_some] <;> rfl)|(simp [*,errW_none,errW_some] <;> rfl),by repeat (first|(with_reducible first|exact HB.out|apply zD|apply zB|apply zC)|exact HB.out)⟩
       ·rw [if_neg c19] at H
        have c19b0:decide (0 < t537) = false:=zV c19
        clear c19
        replace H:=zz0 H
        obtain ⟨t542,A210,H⟩:=H
        replace H:(some (t538 == t542)) = some r:=H
        have A21:=zA A210
        clear A210
        obtain rfl:=zb H
        go_wp2_with (first|((with_reducible refine gate_callee (f:=37) rfl ?_);refine goesL_ (some 34) rfl rfl Try.func37 (by kernel_rfl) rfl #[.int .i64 t536,.int .i64 t537] rfl (by (try simp only [zP,zS,zT]);first|done|rfl|(simp only [zR,zQ];rfl)) ?_;(with_reducible refine (impl_GluingRun.calls t536 t537 t540 _ A12.out).mono ?_);rintro e w22 ⟨rfl,hb⟩;refine ⟨_,rfl,?_⟩;have n0_:=zA (za (by repeat (first|(with_reducible first|exact HB.out|apply zD|apply zB|apply zC)|exact HB.out)) hb);clear HB;have HB:=n0_;clear n0_;(try clear hb);(try clear hb2);(try clear hk);(try clear hi))|(go_at_call 38;(with_reducible refine (impl_RootedTrees.calls kj5 t536 t542 _ A21.out).mono ?_);rintro e w' ⟨rfl,⟨nd,rfl⟩⟩))
        go_ret
        exact ⟨by first|rfl|(simp [errW_none,errW_some] <;> rfl)|(simp [*,errW_none,errW_some] <;> rfl),by repeat (first|(with_reducible first|exact HB.out|apply zD|apply zB|apply zC)|exact HB.out)⟩
      ·rw [if_neg c18] at H
       have c18b0:(t540 == t538) = false:=beq_eq_false_iff_ne.mpr c18
       have c18b1:(t540 != t538) = true:=bne_iff_ne.mpr c18
       obtain rfl:=zb H
       go_wp2_with (first|((with_reducible refine gate_callee (f:=37) rfl ?_);refine goesL_ (some 34) rfl rfl Try.func37 (by kernel_rfl) rfl #[.int .i64 t536,.int .i64 t537] rfl (by (try simp only [zP,zS,zT]);first|done|rfl|(simp only [zR,zQ];rfl)) ?_;(with_reducible refine (impl_GluingRun.calls t536 t537 t540 _ A12.out).mono ?_);rintro e w23 ⟨rfl,hb⟩;refine ⟨_,rfl,?_⟩;have n0_:=zA (za (by repeat (first|(with_reducible first|exact HB.out|apply zD|apply zB|apply zC)|exact HB.out)) hb);clear HB;have HB:=n0_;clear n0_;(try clear hb);(try clear hb2);(try clear hk);(try clear hi)))
       go_ret
       exact ⟨by first|rfl|(simp [errW_none,errW_some] <;> rfl)|(simp [*,errW_none,errW_some] <;> rfl),by repeat (first|(with_reducible first|exact HB.out|apply zD|apply zB|apply zC)|exact HB.out)⟩

/-- THE ONE PURE STATEMENT of laws_FnRootedOne: yours. -/
def laws_FnRootedOne.Pure:Prop := ∀ (l0:List Int),l0.length≤maxLen→l0.length * 1≤140737488351232→(∀ x ∈ l0,(Lit.int .u8 x).wf = true) → ∃ k,laws_FnRootedOne.f k l0 = some true
theorem laws_FnRootedOne.walk (P:laws_FnRootedOne.Pure) (a0:Option Addr) (len0 cap0:Nat) (z0:List Int) (w:World) (w0:(a0 = none∧len0 = 0∧cap0 = 0∧z0 = []) ∨ ∃ x,a0 = some x∧len0≤cap0∧cap0≤maxLen∧z0.length = cap0∧(∀ i,i < z0.length→w.cell? (x.add i) = some (.int .u8 (z0.getD i 0))) ∧ ∀ n ∈ z0,(Lit.int .u8 n).wf = true) (y0:len0 * 1≤140737488351232) :
  Calls Try.prog 12 #[.slice a0 len0 cap0] w fun e w'=>e = .returned (.bool true)∧Below w.heap.size w w':=by
 obtain ⟨l0,rfl,hr0,hm0,hw0,hc0⟩:=ReadsInt.ofRowC w0
 obtain ⟨k,h⟩:=P l0 hm0 y0 hw0
 refine (laws_FnRootedOne.calls k _ _ l0 true w (Kd.C_of_reads (d:=(0:Int)) (h1:=fun _=>rfl) hr0) hc0 h).mono ?_
 rintro e w' ⟨rfl,hd⟩
 exact ⟨rfl,hd⟩

end Go.Proofs.Ytdaiohcgdpclnaa.Q
