import Derived.Test.YtdaiohcgdpclnaaQ0
import Derived.Test.YtdaiohcgdpclnaaQ11
import Derived.Test.YtdaiohcgdpclnaaQ16
import Derived.Test.YtdaiohcgdpclnaaQ5
import Derived.Deep.WholeRow
import Derived.Laws.CopyOwn
import Derived.Test.YtdaiohcgdpclnaaZ
namespace Go.Proofs.Ytdaiohcgdpclnaa.Q
open Go.RowKit Go.Proofs.YtdaiohcgdpclnaaW.PrintWords Go.Proofs.YtdaiohcgdpclnaaW.PrintLast Go.Proofs.YtdaiohcgdpclnaaW.PrintMore
attribute [local go_sem] max2_int min2_int max_two min_two max_three min_three max_four min_four   -- for this text's walks alone
set_option linter.unusedVariables false
set_option linter.unusedSimpArgs false

/-! ### spec_RootedCount: function 28 -/
def spec_RootedCount.f (k:Nat) (a0:Int) (a1:Int):Option (Int):=(spec_l6In.f a0 1 3).bind fun t543=>(if t543 = true then (if a1 < 0 then (some (-1)) else ((spec_l3All.f k a0 a1).bind fun t544=>(some (t544.length:Int)))) else (some (-1)))
theorem spec_RootedCount.mono:∀ a0 a1 k,LeO (spec_RootedCount.f k a0 a1) (spec_RootedCount.f (k+1) a0 a1):=by
 intro a0 a1 k
 unfold spec_RootedCount.f
 repeat' first
   | (with_reducible exact spec_l3All.mono _ _ _)
   | (with_reducible exact LeO.refl _)
   | (with_reducible exact zm _)
   | (with_reducible refine zo ?_ ?_)
   | (with_reducible refine zn ?_ (fun _=>?_))
   | exact spec_l3All.mono _ _ _
   | exact zm _
   | refine zo ?_ ?_
   | refine zn ?_ (fun _=>?_)
set_option maxHeartbeats 8000000 in
set_option maxRecDepth 100000 in
theorem spec_RootedCount.calls (k:Nat) (a0:Int) (a1:Int) (r:Int) (w:World) (h:spec_RootedCount.f k a0 a1 = some r) :
  Calls Try.prog 28 #[.int .i64 a0,.int .i64 a1] w fun e w'=>e = .returned (.int .i64 r)∧Below w.heap.size w w':=by
 have HB:=zA (Below.refl w.heap.size w)
 have H:((spec_l6In.f a0 1 3).bind fun t543=>(if t543 = true then (if a1 < 0 then (some (-1)) else ((spec_l3All.f k a0 a1).bind fun t544=>(some (t544.length:Int)))) else (some (-1)))) = some r:=h
 clear h
 replace H:=zz0 H
 obtain ⟨t543,A30,H⟩:=H
 replace H:(if t543 = true then (if a1 < 0 then (some (-1)) else ((spec_l3All.f k a0 a1).bind fun t544=>(some (t544.length:Int)))) else (some (-1))) = some r:=H
 have A3:=zA A30
 clear A30
 by_cases c4:t543 = true
 ·subst c4
  have H1:(if a1 < 0 then (some (-1)) else ((spec_l3All.f k a0 a1).bind fun t544=>(some (t544.length:Int)))) = some r:=by rw [if_pos rfl] at H;exact H
  clear H
  have H:=H1
  clear H1
  by_cases c5:a1 < 0
  ·rw [if_pos c5] at H
   have c5b0:decide (a1 < 0) = true:=zU c5
   clear c5
   obtain rfl:=zb H
   go_enter Try.func28,Try.ntmps28
   go_wp2_with (first|((with_reducible refine gate_callee (f:=40) rfl ?_);refine goesL_ (some 6) rfl rfl Try.func40 (by kernel_rfl) rfl #[.int .i64 a0,.int .i64 1,.int .i64 3] rfl (by (try simp only [zP,zS,zT]);first|done|rfl|(simp only [zR,zQ];rfl)) ?_;(with_reducible refine (spec_l6In.calls a0 1 3 true _ A3.out).mono ?_);rintro e w' ⟨rfl,⟨nd,rfl⟩⟩;refine ⟨_,rfl,?_⟩))
   go_ret
   exact ⟨by first|rfl|(simp [errW_none,errW_some] <;> rfl)|(simp [*,errW_none,errW_some] <;> rfl),by repeat (first|(with_reducible first|exact HB.out|apply zD|apply zB|apply zC)|exact HB.out)⟩
  ·rw [if_neg c5] at H
   have c5b0:decide (a1 < 0) = false:=zV c5
   clear c5
   replace H:=zz0 H
   obtain ⟨t544,A60,H⟩:=H
   replace H:(some (t544.length:Int)) = some r:=H
   have A6:=zA A60
   clear A60
   obtain rfl:=zb H
   go_enter Try.func28,Try.ntmps28
   go_wp2_with (first|((with_reducible refine gate_callee (f:=40) rfl ?_);refine goesL_ (some 6) rfl rfl Try.func40 (by kernel_rfl) rfl #[.int .i64 a0,.int .i64 1,.int .i64 3] rfl (by (try simp only [zP,zS,zT]);first|done|rfl|(simp only [zR,zQ];rfl)) ?_;(with_reducible refine (spec_l6In.calls a0 1 3 true _ A3.out).mono ?_);rintro e w' ⟨rfl,⟨nd,rfl⟩⟩;refine ⟨_,rfl,?_⟩)|((with_reducible refine gate_callee (f:=45) rfl ?_);refine goesL_ (some 14) rfl rfl Try.func45 (by kernel_rfl) rfl #[.int .i64 a0,.int .i64 a1] rfl (by (try simp only [zP,zS,zT]);first|done|rfl|(simp only [zR,zQ];rfl)) ?_;(with_reducible refine (spec_l3All.calls k a0 a1 t544 _ A6.out).mono ?_);rintro e w7 ⟨v545,rfl,ho0,hb⟩;refine ⟨_,rfl,?_⟩;have n0_:=zA (Kd.V_lower (Kd.V_mono (ok':=fun k_=>True) ho0 (fun k_ hk_=>trivial)) (zZ (by repeat (first|(with_reducible first|exact HB.out|apply zD|apply zB|apply zC)|exact HB.out))));have n1_:=zA (za (by repeat (first|(with_reducible first|exact HB.out|apply zD|apply zB|apply zC)|exact HB.out)) hb);clear HB;have HO546:=n0_;have HB:=n1_;clear n0_ n1_;(try clear hb);(try clear hb2);(try clear hk);(try clear hi);(try clear ho0);obtain ⟨Ao8,co8,eo8⟩:=Kd.V_slice HO546.out;subst eo8))
   go_ret
   exact ⟨by first|rfl|(simp [errW_none,errW_some] <;> rfl)|(simp [*,errW_none,errW_some] <;> rfl),by repeat (first|(with_reducible first|exact HB.out|apply zD|apply zB|apply zC)|exact HB.out)⟩
 ·replace c4:=Bool.eq_false_iff.mpr c4
  subst c4
  have H1:(some (-1)) = some r:=by rw [if_neg (show ¬ (false = true) by decide)] at H;exact H
  clear H
  have H:=H1
  clear H1
  obtain rfl:=zb H
  go_enter Try.func28,Try.ntmps28
  go_wp2_with (first|((with_reducible refine gate_callee (f:=40) rfl ?_);refine goesL_ (some 6) rfl rfl Try.func40 (by kernel_rfl) rfl #[.int .i64 a0,.int .i64 1,.int .i64 3] rfl (by (try simp only [zP,zS,zT]);first|done|rfl|(simp only [zR,zQ];rfl)) ?_;(with_reducible refine (spec_l6In.calls a0 1 3 false _ A3.out).mono ?_);rintro e w' ⟨rfl,⟨nd,rfl⟩⟩;refine ⟨_,rfl,?_⟩))
  go_ret
  exact ⟨by first|rfl|(simp [errW_none,errW_some] <;> rfl)|(simp [*,errW_none,errW_some] <;> rfl),by repeat (first|(with_reducible first|exact HB.out|apply zD|apply zB|apply zC)|exact HB.out)⟩

/-! ### impl_RootedRun: function 32 (a section of my own) -/
def impl_RootedRun.at_ (T:List Int) (n:Nat):Int:=T.getD n 0
def impl_RootedRun.s1 (T:List Int) (n h:Int):Int:=wrap64 (wrap64 (4 * wrap64 (wrap64 (4 * n) - 2)) * impl_RootedRun.at_ T ((wrap64 (n - 1)).toNat * 6+h.toNat))
def impl_RootedRun.s2 (T:List Int) (n h:Int):Int:=wrap64 (impl_RootedRun.s1 T n h+wrap64 (wrap64 (wrap64 (wrap64 (wrap64 (2 * n) - 3) * wrap64 (wrap64 (2 * n) - 2)) * wrap64 (wrap64 (2 * n) - 1)) * impl_RootedRun.at_ T ((wrap64 (n - 2)).toNat * 6+(wrap64 (h - 1)).toNat)))
def impl_RootedRun.s0 (T:List Int) (n h:Int):Int:=if 2≤n then (if 1≤h then impl_RootedRun.s2 T n h else impl_RootedRun.s1 T n h) else impl_RootedRun.s1 T n h
def impl_RootedRun.term (T:List Int) (n h k i:Int):Int:=wrap64 (wrap64 (wrap64 (wrap64 (6 * wrap64 (wrap64 (2 * k) - 1)) * wrap64 (wrap64 (2 * wrap64 (n - k)) - 1)) * impl_RootedRun.at_ T ((wrap64 (k - 1)).toNat * 6+i.toNat)) * impl_RootedRun.at_ T ((wrap64 (wrap64 (n - k) - 1)).toNat * 6+(wrap64 (h - i)).toNat))
def impl_RootedRun.il (T:List Int) (n h k:Int):Nat→Int→Int→Int
  | 0,s,_=>s
  | d+1,s,i=>impl_RootedRun.il T n h k d (wrap64 (s+impl_RootedRun.term T n h k i)) (i+1)
def impl_RootedRun.kl (T:List Int) (n h:Int):Nat→Int→Int→Int
  | 0,s,_=>s
  | d+1,s,k=>impl_RootedRun.kl T n h d (impl_RootedRun.il T n h k (h.toNat+1) s 0) (k+1)
def impl_RootedRun.put (T:List Int) (k h s:Int):List Int:=T.set (k.toNat * 6+h.toNat) (wrap64 (Int.tdiv s (wrap64 (2 * wrap64 (k+1)))))
def impl_RootedRun.rowl (n:Int):Nat→List Int→Int→List Int
  | 0,T,_=>T
  | d+1,T,h=>impl_RootedRun.rowl n d (impl_RootedRun.put T n h (impl_RootedRun.kl T n h (n - 1).toNat (impl_RootedRun.s0 T n h) 1)) (h+1)
def impl_RootedRun.lp (g1:Nat):Nat→List Int→Int→List Int
  | 0,T,_=>T
  | d+1,T,k=>impl_RootedRun.lp g1 d (impl_RootedRun.rowl k g1 T 0) (k+1)
def impl_RootedRun.f (a0:Int) (a1:Int):Option Int:=if a0 < 0 then some (-1) else if a0 > 9 then some (-1) else if a1 < 0 then some (-1) else if a1 > 5 then some (-1) else
  some (impl_RootedRun.at_ (impl_RootedRun.lp (a1.toNat+1) a0.toNat ((List.replicate 60 0).set 0 1) 1) (a0.toNat * 6+a1.toNat))
theorem impl_RootedRun.put_len (T:List Int) (k h s:Int):(impl_RootedRun.put T k h s).length = T.length:=by simp [impl_RootedRun.put]
theorem impl_RootedRun.cellT {W:World} {g:Nat} {T:List Int} {t:TypeId} (h:W.heap[g]? = some (.cells (T.map (Value.int .i64)).toArray t (0,0))) (n:Nat) (hn:n < T.length) :
    W.cell? ⟨g,n,none⟩ = some (.int .i64 (impl_RootedRun.at_ T n)):=by
  rw [cell_of_row W g n _ _ _ h]
  simp [impl_RootedRun.at_,List.getD_eq_getElem?_getD,hn]
def impl_RootedRun.Z:Array Value:=((List.replicate 60 (0:Int)).map (Value.int .i64)).toArray
theorem impl_RootedRun.built1:(Try.prog.built 58 []).isSome = true:=by kernel_rfl
theorem impl_RootedRun.built2:(Try.prog.built 58 []).getD #[] = impl_RootedRun.Z:=by kernel_rfl
theorem impl_RootedRun.infoZ:(Try.prog.info? 58).map (·.size) = some impl_RootedRun.Z.size:=by kernel_rfl
theorem impl_RootedRun.oneZ:impl_RootedRun.Z.all (·.oneCell') = true:=by kernel_rfl
set_option maxHeartbeats 8000000 in
set_option maxRecDepth 100000 in
theorem impl_RootedRun.calls (a0:Int) (a1:Int) (r:Int) (w:World) (h:impl_RootedRun.f a0 a1 = some r) :
    Calls Try.prog 32 #[.int .i64 a0,.int .i64 a1] w fun e w'=>e = .returned (.int .i64 r)∧Below w.heap.size w w':=by
  have HB:=zA (Below.refl w.heap.size w)
  unfold impl_RootedRun.f at h
  by_cases c1:a0 < 0
  · rw [if_pos c1] at h
    obtain rfl:=zb h
    have b1:decide (a0 < 0) = true:=zU c1
    clear h c1
    go_enter Try.func32,Try.ntmps32
    go_wp2
    go_ret
    exact ⟨rfl,HB.out⟩
  rw [if_neg c1] at h
  have b1:decide (a0 < 0) = false:=zV c1
  by_cases c2:a0 > 9
  · rw [if_pos c2] at h
    obtain rfl:=zb h
    have b2:decide (9 < a0) = true:=zU c2
    clear h c1 c2
    go_enter Try.func32,Try.ntmps32
    go_wp2
    go_ret
    exact ⟨rfl,HB.out⟩
  rw [if_neg c2] at h
  have b2:decide (9 < a0) = false:=zV c2
  by_cases c3:a1 < 0
  · rw [if_pos c3] at h
    obtain rfl:=zb h
    have b3:decide (a1 < 0) = true:=zU c3
    clear h c1 c2 c3
    go_enter Try.func32,Try.ntmps32
    go_wp2
    go_ret
    exact ⟨rfl,HB.out⟩
  rw [if_neg c3] at h
  have b3:decide (a1 < 0) = false:=zV c3
  by_cases c4:a1 > 5
  · rw [if_pos c4] at h
    obtain rfl:=zb h
    have b4:decide (5 < a1) = true:=zU c4
    clear h c1 c2 c3 c4
    go_enter Try.func32,Try.ntmps32
    go_wp2
    go_ret
    exact ⟨rfl,HB.out⟩
  rw [if_neg c4] at h
  have b4:decide (5 < a1) = false:=zV c4
  have HN:=zA (show 0≤a0∧a0≤9∧0≤a1∧a1≤5 by omega)
  have HR:=zA (zb h)
  clear h c1 c2 c3 c4
  go_enter Try.func32,Try.ntmps32
  go_upto_region 4 with (first
    | ((with_reducible refine gate_dst (N:=25) rfl ?_);refine wpList_build rfl 58 #[] rfl impl_RootedRun.built1 ?_;rw [show (Try.prog.built 58 (Array.map (fun x=>(x.1,x.2)) (#[]:Array (Nat × Value))).toList) = Try.prog.built 58 [] from rfl,impl_RootedRun.built2])
    | ((with_reducible refine gate_dst (N:=5) rfl ?_);refine box_event rfl (N:=5) rfl (cs:=impl_RootedRun.Z) (t:=58) ?hr ?_;(case hr=>first|(go_simp;done)|(go_simp;rfl));intro g hg w1 hblk hb)
    | ((with_reducible refine gate_store (t:=58) (p:=5) rfl ?_);refine wpList_store_row rfl 58 (.tmp 5) (.tmp 25) rfl g impl_RootedRun.Z rfl rfl 58 impl_RootedRun.Z hblk impl_RootedRun.infoZ rfl impl_RootedRun.oneZ ?_))
  simp only [Act.put,zE,zH,zG]
  go_cut [5] (fun v5 wc=>v5 = .pointer (some ⟨g,0,none⟩) ∧ ∃ T:List Int,Aside0 (T = (List.replicate 60 0).set 0 1)∧Aside0 (wc.heap[g]? = some (.cells (T.map (Value.int .i64)).toArray 58 (0,0)))∧Aside0 (Below w.heap.size w wc))
  case first =>
    have hW:(w1.setRow g impl_RootedRun.Z).heap[g]? = some (.cells impl_RootedRun.Z 58 (0,0)):=setRow_heap _ _ _ _ _ _ hblk
    have hB:Below w.heap.size w (w1.setRow g impl_RootedRun.Z):=below_setRow hb (by rw [hg];exact Nat.le_refl _) _
    generalize w1.setRow g impl_RootedRun.Z = W1 at hW hB ⊢
    have hc:W1.cell? ⟨g,0,none⟩ = some (.int .i64 0):=cell_of_row W1 g 0 _ _ _ hW
    have hf:W1.frozen? ⟨g,0,none⟩ = false:=frozen_of_row W1 g 0 _ _ hW
    have HW:=zA hW
    have HB1:=zA hB
    have HB0:=zA hb
    have HK0:=zA hblk
    have HG:=zA hg
    clear hW hB hb hblk hg
    go_wp2
    go_meet
    case rel=>exact ⟨rfl,_,⟨rfl⟩,⟨heap_setCell_same W1 g 0 _ _ _ HW.out⟩,⟨zI HB1.out (by rw [HG.out];exact Nat.le_refl _)⟩⟩
  case rest =>
    obtain ⟨rfl,T,HT,HG,HBc⟩:=hcut
    have HG0:=zA hg
    clear hg hb hblk
    go_wp2
    go_loopg [6,7,8,9,10] a0.toNat (fun d v6 v7 v8 v9 v10 wr => ∃ (k:Int) (T:List Int),v6 = .int .i64 k∧Aside0 (1≤k∧k+d = a0+1)∧Aside0 (T.length = 60)∧Aside0 (impl_RootedRun.at_ (impl_RootedRun.lp (a1.toNat+1) d T k) (a0.toNat * 6+a1.toNat) = r)∧Aside0 (wr.heap[g]? = some (.cells (T.map (Value.int .i64)).toArray 58 (0,0)))∧Aside0 (Below w.heap.size w wr))
    case atStart=>exact ⟨1,T,rfl,⟨by omega,by have:=HN.out;omega⟩,⟨by rw [HT.out];rfl⟩,⟨by rw [HT.out];exact HR.out⟩,HG,HBc⟩
    case round =>
      clear HT HG HBc HR T
      obtain ⟨k,T,rfl,HX,HT,HA,HG,HBc⟩:=hrel
      cases gk with
      | zero =>
        have ck:decide (k≤a0) = false:=zV (by have:=HX.out;omega)
        have i1:(0≤a0) = True:=eq_true (by have:=HN.out;omega)
        have i2:(a0 < 10) = True:=eq_true (by have:=HN.out;omega)
        have i3:(0≤a1) = True:=eq_true (by have:=HN.out;omega)
        have i4:(a1 < 6) = True:=eq_true (by have:=HN.out;omega)
        have hcell:=impl_RootedRun.cellT HG.out (a0.toNat * 6+a1.toNat) (by have:=HN.out;rw [HT.out];omega)
        have hr:impl_RootedRun.at_ T (a0.toNat * 6+a1.toNat) = r:=HA.out
        rw [hr] at hcell
        clear hr
        go_wp2
        go_ret
        exact ⟨rfl,HBc.out⟩
      | succ d =>
        have ck:decide (k≤a0) = true:=zU (by have:=HX.out;omega)
        have HK:=zA (show 1≤k∧k≤9 by have:=HX.out;have:=HN.out;omega)
        go_wp2
        go_loopg [7,8,9,10] (a1.toNat+1) (fun e v7 v8 v9 v10 wr => ∃ (h:Int) (T1:List Int),v7 = .int .i64 h∧Aside0 (0≤h∧h+e = a1+1)∧Aside0 (T1.length = 60)∧Aside0 (impl_RootedRun.rowl k e T1 h = impl_RootedRun.rowl k (a1.toNat+1) T 0)∧Aside0 (wr.heap[g]? = some (.cells (T1.map (Value.int .i64)).toArray 58 (0,0)))∧Aside0 (Below w.heap.size w wr))
        case atStart=>exact ⟨0,T,rfl,⟨by omega,by have:=HN.out;omega⟩,HT,⟨rfl⟩,HG,HBc⟩
        case round =>
          clear HG HBc HT
          obtain ⟨h,T1,rfl,HY,HT,HE,HG,HBc⟩:=hrel
          cases gk with
          | zero =>
            have ch:decide (h≤a1) = false:=zV (by have:=HY.out;omega)
            have HW:=zA (show wrap64 (k+1) = k+1 by have:=HK.out;unfold wrap64;omega)
            go_wp2
            go_roundg d
            case measure=>omega
            case rel=>exact ⟨wrap64 (k+1),T1,rfl,⟨by rw [HW.out];have:=HX.out;omega,by rw [HW.out];have:=HX.out;omega⟩,HT,⟨by rw [HW.out];have h1:=HA.out;simp only [impl_RootedRun.lp] at h1;have h2:=HE.out;simp only [impl_RootedRun.rowl] at h2;rw [h2];exact h1⟩,HG,HBc⟩
          | succ e =>
            have ch:decide (h≤a1) = true:=zU (by have:=HY.out;omega)
            have HH:=zA (show 0≤h∧h≤5 by have:=HY.out;have:=HN.out;omega)
            have HW:=zA (show wrap64 (h+1) = h+1 by have:=HH.out;unfold wrap64;omega)
            have HE1:=zA (show wrap64 (2 * wrap64 (k+1)) = 2 * (k+1) by have:=HK.out;unfold wrap64;omega)
            have HE2:=zA (show wrap64 (k - 1) = k - 1 by have:=HK.out;unfold wrap64;omega)
            have HE3:=zA (show wrap64 (k - 2) = k - 2 by have:=HK.out;unfold wrap64;omega)
            have HE4:=zA (show wrap64 (h - 1) = h - 1 by have:=HH.out;unfold wrap64;omega)
            have i1:(0≤wrap64 (k - 1)) = True:=eq_true (by rw [HE2.out];have:=HK.out;omega)
            have i2:(wrap64 (k - 1) < 10) = True:=eq_true (by rw [HE2.out];have:=HK.out;omega)
            have i3:(0≤h) = True:=eq_true HH.out.1
            have i4:(h < 6) = True:=eq_true (by have:=HH.out;omega)
            have i5:(0≤k) = True:=eq_true (by have:=HK.out;omega)
            have i6:(k < 10) = True:=eq_true (by have:=HK.out;omega)
            have i7:(wrap64 (2 * wrap64 (k+1)) == 0) = false:=beq_eq_false_iff_ne.mpr (by rw [HE1.out];have:=HK.out;omega)
            have i8:¬ (wrap64 (2 * wrap64 (k+1)) = 0):=by rw [HE1.out];have:=HK.out;omega
            have hcA:=impl_RootedRun.cellT HG.out ((wrap64 (k - 1)).toNat * 6+h.toNat) (by rw [HT.out,HE2.out];have:=HK.out;have:=HH.out;omega)
            have hcB:=impl_RootedRun.cellT HG.out ((wrap64 (k - 2)).toNat * 6+(wrap64 (h - 1)).toNat) (by rw [HT.out,HE3.out,HE4.out];have:=HK.out;have:=HH.out;omega)
            have hE:=HE.out
            simp only [impl_RootedRun.rowl] at hE
            have HE':=zA hE
            clear hE HE
            have dd:(decide (2≤k) = true∧decide (1≤h) = true∧(0≤wrap64 (k - 2)) = True∧(wrap64 (k - 2) < 10) = True∧(0≤wrap64 (h - 1)) = True∧(wrap64 (h - 1) < 6) = True∧impl_RootedRun.s0 T1 k h = impl_RootedRun.s2 T1 k h)∨(decide (2≤k) = true∧decide (1≤h) = false∧impl_RootedRun.s0 T1 k h = impl_RootedRun.s1 T1 k h)∨(decide (2≤k) = false∧impl_RootedRun.s0 T1 k h = impl_RootedRun.s1 T1 k h):=by
              unfold impl_RootedRun.s0
              by_cases c2:2≤k
              · rw [if_pos c2]
                by_cases c1:1≤h
                · rw [if_pos c1]
                  exact .inl ⟨zU c2,zU c1,eq_true (by rw [HE3.out];omega),eq_true (by rw [HE3.out];have:=HK.out;omega),eq_true (by rw [HE4.out];omega),eq_true (by rw [HE4.out];have:=HH.out;omega),rfl⟩
                · rw [if_neg c1]
                  exact .inr (.inl ⟨zU c2,zV c1,rfl⟩)
              · rw [if_neg c2]
                exact .inr (.inr ⟨zV c2,rfl⟩)
            have E0:∃ s,Aside0 (impl_RootedRun.s0 T1 k h = s):=⟨_,⟨rfl⟩⟩
            obtain ⟨s,HS⟩:=E0
            rcases dd with ⟨d2,d1,j1,j2,j3,j4,e0⟩|⟨d2,d1,e0⟩|⟨d2,e0⟩
            all_goals
              replace e0:=zA e0
              go_upto_region 14 with (fail)
              first
                | rw [show wrap64 (wrap64 (wrap64 (4 * wrap64 (wrap64 (4 * k) - 2)) * impl_RootedRun.at_ T1 ((wrap64 (k - 1)).toNat * 6+h.toNat))+wrap64 (wrap64 (wrap64 (wrap64 (wrap64 (2 * k) - 3) * wrap64 (wrap64 (2 * k) - 2)) * wrap64 (wrap64 (2 * k) - 1)) * impl_RootedRun.at_ T1 ((wrap64 (k - 2)).toNat * 6+(wrap64 (h - 1)).toNat))) = impl_RootedRun.s2 T1 k h from rfl, ← e0.out,HS.out]
                | rw [show wrap64 (wrap64 (4 * wrap64 (wrap64 (4 * k) - 2)) * impl_RootedRun.at_ T1 ((wrap64 (k - 1)).toNat * 6+h.toNat)) = impl_RootedRun.s1 T1 k h from rfl, ← e0.out,HS.out]
              clear d2 e0 hcA hcB
              try clear d1
              try clear j1 j2 j3 j4
              go_wp2
              go_loopg [8,9,10] (k - 1).toNat (fun q v8 v9 v10 wr => ∃ (s' k':Int),v8 = .int .i64 s'∧v9 = .int .i64 k'∧Aside0 (1≤k'∧k'+q = k)∧Aside0 (impl_RootedRun.kl T1 k h q s' k' = impl_RootedRun.kl T1 k h (k - 1).toNat s 1)∧Aside0 (wr.heap[g]? = some (.cells (T1.map (Value.int .i64)).toArray 58 (0,0)))∧Aside0 (Below w.heap.size w wr))
              case atStart=>exact ⟨s,1,rfl,rfl,⟨by omega,by have:=HK.out;omega⟩,⟨rfl⟩,HG,HBc⟩
              case round =>
                clear HG HBc
                obtain ⟨s',k',rfl,rfl,HZ,HL,HG,HBc⟩:=hrel
                cases gk with
                | zero =>
                  have ck':decide (k' < k) = false:=zV (by have:=HZ.out;omega)
                  have hcS:=impl_RootedRun.cellT HG.out (k.toNat * 6+h.toNat) (by rw [HT.out];have:=HK.out;have:=HH.out;omega)
                  have hfS:wr.frozen? ⟨g,k.toNat * 6+h.toNat,none⟩ = false:=frozen_of_row wr _ _ _ _ HG.out
                  go_upto_region 21 with (fail)
                  go_region
                  go_wp2
                  go_roundg e
                  case measure=>omega
                  case rel =>
                    refine ⟨wrap64 (h+1),impl_RootedRun.put T1 k h s',rfl,⟨by rw [HW.out];have:=HY.out;omega,by rw [HW.out];have:=HY.out;omega⟩,⟨by rw [impl_RootedRun.put_len];exact HT.out⟩,⟨?_⟩,⟨?_⟩,⟨?_⟩⟩
                    · rw [HW.out]
                      have h1:=HE'.out
                      have h2:=HL.out
                      simp only [impl_RootedRun.kl] at h2
                      rw [HS.out, ← h2] at h1
                      exact h1
                    · have h1:=heap_setCell_same wr g (k.toNat * 6+h.toNat) _ _ (.int .i64 (wrap64 (Int.tdiv s' (wrap64 (2 * wrap64 (k+1)))))) HG.out
                      rw [zE, ← List.map_set] at h1
                      exact h1
                    · exact zC (zI HBc.out (by rw [HG0.out];exact Nat.le_refl _))
                | succ q =>
                  have ck':decide (k' < k) = true:=zU (by have:=HZ.out;omega)
                  go_wp2
                  go_loopg [8,10] (h.toNat+1) (fun p v8 v10 wr => ∃ (s2 i:Int),v8 = .int .i64 s2∧v10 = .int .i64 i∧Aside0 (0≤i∧i+p = h+1)∧Aside0 (impl_RootedRun.il T1 k h k' p s2 i = impl_RootedRun.il T1 k h k' (h.toNat+1) s' 0)∧Aside0 (wr.heap[g]? = some (.cells (T1.map (Value.int .i64)).toArray 58 (0,0)))∧Aside0 (Below w.heap.size w wr))
                  case atStart=>exact ⟨s',0,rfl,rfl,⟨by omega,by have:=HH.out;omega⟩,⟨rfl⟩,HG,HBc⟩
                  case round =>
                    clear HG HBc
                    obtain ⟨s2,i,rfl,rfl,HI,HM,HG,HBc⟩:=hrel
                    cases gk with
                    | zero =>
                      have ci:decide (i≤h) = false:=zV (by have:=HI.out;omega)
                      have HW2:=zA (show wrap64 (k'+1) = k'+1 by have:=HK.out;have:=HZ.out;unfold wrap64;omega)
                      go_wp2
                      go_roundg q
                      case measure=>omega
                      case rel =>
                        refine ⟨s2,wrap64 (k'+1),rfl,rfl,⟨by rw [HW2.out];have:=HZ.out;omega,by rw [HW2.out];have:=HZ.out;omega⟩,⟨?_⟩,HG,HBc⟩
                        rw [HW2.out]
                        have h1:=HL.out
                        simp only [impl_RootedRun.kl] at h1
                        have h2:=HM.out
                        simp only [impl_RootedRun.il] at h2
                        rw [h2]
                        exact h1
                    | succ p =>
                      have ci:decide (i≤h) = true:=zU (by have:=HI.out;omega)
                      have HW3:=zA (show wrap64 (i+1) = i+1 by have:=HI.out;have:=HH.out;unfold wrap64;omega)
                      have HV1:=zA (show wrap64 (k' - 1) = k' - 1 by have:=HK.out;have:=HZ.out;unfold wrap64;omega)
                      have HV2:=zA (show wrap64 (wrap64 (k - k') - 1) = k - k' - 1 by have:=HK.out;have:=HZ.out;unfold wrap64;omega)
                      have HV3:=zA (show wrap64 (h - i) = h - i by have:=HI.out;have:=HH.out;unfold wrap64;omega)
                      have m1:(0≤wrap64 (k' - 1)) = True:=eq_true (by rw [HV1.out];have:=HZ.out;omega)
                      have m2:(wrap64 (k' - 1) < 10) = True:=eq_true (by rw [HV1.out];have:=HZ.out;have:=HK.out;omega)
                      have m3:(0≤i) = True:=eq_true HI.out.1
                      have m4:(i < 6) = True:=eq_true (by have:=HI.out;have:=HH.out;omega)
                      have m5:(0≤wrap64 (wrap64 (k - k') - 1)) = True:=eq_true (by rw [HV2.out];have:=HZ.out;omega)
                      have m6:(wrap64 (wrap64 (k - k') - 1) < 10) = True:=eq_true (by rw [HV2.out];have:=HZ.out;have:=HK.out;omega)
                      have m7:(0≤wrap64 (h - i)) = True:=eq_true (by rw [HV3.out];have:=HI.out;omega)
                      have m8:(wrap64 (h - i) < 6) = True:=eq_true (by rw [HV3.out];have:=HI.out;have:=HH.out;omega)
                      have hcC:=impl_RootedRun.cellT HG.out ((wrap64 (k' - 1)).toNat * 6+i.toNat) (by rw [HT.out,HV1.out];have:=HK.out;have:=HZ.out;have:=HI.out;have:=HH.out;omega)
                      have hcD:=impl_RootedRun.cellT HG.out ((wrap64 (wrap64 (k - k') - 1)).toNat * 6+(wrap64 (h - i)).toNat) (by rw [HT.out,HV2.out,HV3.out];have:=HK.out;have:=HZ.out;have:=HI.out;have:=HH.out;omega)
                      go_upto_region 20 with (fail)
                      go_region
                      go_wp2
                      go_roundg p
                      case measure=>omega
                      case rel =>
                        refine ⟨wrap64 (s2+impl_RootedRun.term T1 k h k' i),wrap64 (i+1),rfl,rfl,⟨by rw [HW3.out];have:=HI.out;omega,by rw [HW3.out];have:=HI.out;omega⟩,⟨?_⟩,⟨?_⟩,⟨?_⟩⟩
                        · rw [HW3.out]
                          have h1:=HM.out
                          simp only [impl_RootedRun.il] at h1
                          exact h1
                        · exact HG.out
                        · exact zC HBc.out

/-! ### laws_FnCount: function 9 -/
def laws_FnCount.f (k:Nat) (l0:List Int):Option (Bool):=if (l0.length:Int) > 1048576 then (some true) else ((spec_DrawRootedCount.f k l0).bind fun bt550=>((impl_RootedCount.f bt550.1 bt550.2).bind fun t552=>((spec_RootedCount.f k bt550.1 bt550.2).bind fun t553=>(if t552 = t553 then (if t552 < 0 then (some (t552 == t553)) else ((impl_RootedRun.f bt550.1 bt550.2).bind fun t554=>(if t554 = (-1) then (if (wrap64 (2 * bt550.2))≤bt550.1 then (some true) else (some (t552 == 0))) else (if t554 = t552 then (if (wrap64 (2 * bt550.2))≤bt550.1 then (some true) else (some (t552 == 0))) else (some false))))) else (some (t552 == t553))))))
theorem laws_FnCount.mono:∀ a0 k,LeO (laws_FnCount.f k a0) (laws_FnCount.f (k+1) a0):=by
 intro a0 k
 unfold laws_FnCount.f
 repeat' first
   | (with_reducible exact spec_DrawRootedCount.mono _ _)
   | (with_reducible exact spec_RootedCount.mono _ _ _)
   | (with_reducible exact LeO.refl _)
   | (with_reducible exact zm _)
   | (with_reducible refine zo ?_ ?_)
   | (with_reducible refine zn ?_ (fun _=>?_))
   | exact spec_DrawRootedCount.mono _ _
   | exact spec_RootedCount.mono _ _ _
   | exact zm _
   | refine zo ?_ ?_
   | refine zn ?_ (fun _=>?_)
set_option maxHeartbeats 8000000 in
set_option maxRecDepth 100000 in
theorem laws_FnCount.calls (k:Nat) (A0:Option Addr) (c0:Nat) (l0:List Int) (r:Bool) (w:World) (hr0:Kd.C (Kd.int .u8) w A0 l0.length l0) (hc0:l0.length≤c0) (h:laws_FnCount.f k l0 = some r) :
  Calls Try.prog 9 #[.slice A0 l0.length c0] w fun e w'=>e = .returned (.bool r)∧Below w.heap.size w w':=by
 have HR0:=zA hr0
 have HC0:=zA hc0
 clear hr0 hc0
 have HB:=zA (Below.refl w.heap.size w)
 have H:(if (l0.length:Int) > 1048576 then (some true) else ((spec_DrawRootedCount.f k l0).bind fun bt550=>((impl_RootedCount.f bt550.1 bt550.2).bind fun t552=>((spec_RootedCount.f k bt550.1 bt550.2).bind fun t553=>(if t552 = t553 then (if t552 < 0 then (some (t552 == t553)) else ((impl_RootedRun.f bt550.1 bt550.2).bind fun t554=>(if t554 = (-1) then (if (wrap64 (2 * bt550.2))≤bt550.1 then (some true) else (some (t552 == 0))) else (if t554 = t552 then (if (wrap64 (2 * bt550.2))≤bt550.1 then (some true) else (some (t552 == 0))) else (some false))))) else (some (t552 == t553))))))) = some r:=h
 clear h
 by_cases c2:(l0.length:Int) > 1048576
 ·rw [if_pos c2] at H
  have c2b0:decide (1048576 < (l0.length:Int)) = true:=zU c2
  have c2b1:decide (1048576 < l0.length) = true:=zU (by omega)
  clear c2
  obtain rfl:=zb H
  go_enter Try.func9,Try.ntmps9
  go_wp2
  go_ret
  exact ⟨by first|rfl|(simp [errW_none,errW_some] <;> rfl)|(simp [*,errW_none,errW_some] <;> rfl),by repeat (first|(with_reducible first|exact HB.out|apply zD|apply zB|apply zC)|exact HB.out)⟩
 ·rw [if_neg c2] at H
  have c2b0:decide (1048576 < (l0.length:Int)) = false:=zV c2
  have c2b1:decide (1048576 < l0.length) = false:=zV (by omega)
  clear c2
  replace H:=zz0 H
  obtain ⟨⟨t550,t551⟩,A30,H⟩:=H
  replace H:((impl_RootedCount.f t550 t551).bind fun t552=>((spec_RootedCount.f k t550 t551).bind fun t553=>(if t552 = t553 then (if t552 < 0 then (some (t552 == t553)) else ((impl_RootedRun.f t550 t551).bind fun t554=>(if t554 = (-1) then (if (wrap64 (2 * t551))≤t550 then (some true) else (some (t552 == 0))) else (if t554 = t552 then (if (wrap64 (2 * t551))≤t550 then (some true) else (some (t552 == 0))) else (some false))))) else (some (t552 == t553))))) = some r:=H
  have A3:=zA A30
  clear A30
  replace H:=zz0 H
  obtain ⟨t552,A40,H⟩:=H
  replace H:((spec_RootedCount.f k t550 t551).bind fun t553=>(if t552 = t553 then (if t552 < 0 then (some (t552 == t553)) else ((impl_RootedRun.f t550 t551).bind fun t554=>(if t554 = (-1) then (if (wrap64 (2 * t551))≤t550 then (some true) else (some (t552 == 0))) else (if t554 = t552 then (if (wrap64 (2 * t551))≤t550 then (some true) else (some (t552 == 0))) else (some false))))) else (some (t552 == t553)))) = some r:=H
  have A4:=zA A40
  clear A40
  replace H:=zz0 H
  obtain ⟨t553,A50,H⟩:=H
  replace H:(if t552 = t553 then (if t552 < 0 then (some (t552 == t553)) else ((impl_RootedRun.f t550 t551).bind fun t554=>(if t554 = (-1) then (if (wrap64 (2 * t551))≤t550 then (some true) else (some (t552 == 0))) else (if t554 = t552 then (if (wrap64 (2 * t551))≤t550 then (some true) else (some (t552 == 0))) else (some false))))) else (some (t552 == t553))) = some r:=H
  have A5:=zA A50
  clear A50
  by_cases c6:t552 = t553
  ·rw [if_pos c6] at H
   have c6b0:(t552 == t553) = true:=beq_iff_eq.mpr c6
   have c6b1:(t552 != t553) = false:=bne_eq_false_iff_eq.mpr c6
   clear c6
   by_cases c7:t552 < 0
   ·rw [if_pos c7] at H
    have c7b0:decide (t552 < 0) = true:=zU c7
    clear c7
    obtain rfl:=zb H
    go_enter Try.func9,Try.ntmps9
    go_wp2_with (first|((with_reducible refine gate_callee (f:=31) rfl ?_);refine goesL_ (some 13) rfl rfl Try.func31 (by kernel_rfl) rfl #[.slice A0 l0.length c0] rfl (by (try simp only [zP,zS,zT]);first|done|rfl|(simp only [zR,zQ];rfl)) ?_;(with_reducible refine (spec_DrawRootedCount.calls k _ _ l0 t550 t551 _ ?side1 ?side2 A3.out).mono ?_);(case side1=>repeat (first|exact HR0.out|(with_reducible refine zW ?_ _)|(with_reducible refine zX ?_ _)|(with_reducible refine zY ?_)));(case side2=>exact HC0.out);rintro e w8 ⟨rfl,hb⟩;refine ⟨_,rfl,?_⟩;have n0_:=zA (za (by repeat (first|(with_reducible first|exact HB.out|apply zD|apply zB|apply zC)|exact HB.out)) hb);clear HB;have HB:=n0_;clear n0_;(try clear hb);(try clear hb2);(try clear hk);(try clear hi))|((with_reducible refine gate_callee (f:=16) rfl ?_);refine goesL_ (some 18) rfl rfl Try.func16 (by kernel_rfl) rfl #[.int .i64 t550,.int .i64 t551] rfl (by (try simp only [zP,zS,zT]);first|done|rfl|(simp only [zR,zQ];rfl)) ?_;(with_reducible refine (impl_RootedCount.calls t550 t551 t552 _ A4.out).mono ?_);rintro e w9 ⟨rfl,hb⟩;refine ⟨_,rfl,?_⟩;have n0_:=zA (za (by repeat (first|(with_reducible first|exact HB.out|apply zD|apply zB|apply zC)|exact HB.out)) hb);clear HB;have HB:=n0_;clear n0_;(try clear hb);(try clear hb2);(try clear hk);(try clear hi))|((with_reducible refine gate_callee (f:=28) rfl ?_);refine goesL_ (some 21) rfl rfl Try.func28 (by kernel_rfl) rfl #[.int .i64 t550,.int .i64 t551] rfl (by (try simp only [zP,zS,zT]);first|done|rfl|(simp only [zR,zQ];rfl)) ?_;(with_reducible refine (spec_RootedCount.calls k t550 t551 t553 _ A5.out).mono ?_);rintro e w10 ⟨rfl,hb⟩;refine ⟨_,rfl,?_⟩;have n0_:=zA (za (by repeat (first|(with_reducible first|exact HB.out|apply zD|apply zB|apply zC)|exact HB.out)) hb);clear HB;have HB:=n0_;clear n0_;(try clear hb);(try clear hb2);(try clear hk);(try clear hi)))
    go_ret
    exact ⟨by first|rfl|(simp [errW_none,errW_some] <;> rfl)|(simp [*,errW_none,errW_some] <;> rfl),by repeat (first|(with_reducible first|exact HB.out|apply zD|apply zB|apply zC)|exact HB.out)⟩
   ·rw [if_neg c7] at H
    have c7b0:decide (t552 < 0) = false:=zV c7
    clear c7
    replace H:=zz0 H
    obtain ⟨t554,A110,H⟩:=H
    replace H:(if t554 = (-1) then (if (wrap64 (2 * t551))≤t550 then (some true) else (some (t552 == 0))) else (if t554 = t552 then (if (wrap64 (2 * t551))≤t550 then (some true) else (some (t552 == 0))) else (some false))) = some r:=H
    have A11:=zA A110
    clear A110
    by_cases c12:t554 = (-1)
    ·rw [if_pos c12] at H
     have c12b0:(t554 == (-1)) = true:=beq_iff_eq.mpr c12
     have c12b1:(t554 != (-1)) = false:=bne_eq_false_iff_eq.mpr c12
     clear c12
     by_cases c13:(wrap64 (2 * t551))≤t550
     ·rw [if_pos c13] at H
      have c13b0:decide ((wrap64 (2 * t551))≤t550) = true:=zU c13
      clear c13
      obtain rfl:=zb H
      go_enter Try.func9,Try.ntmps9
      go_wp2_with (first|((with_reducible refine gate_callee (f:=31) rfl ?_);refine goesL_ (some 13) rfl rfl Try.func31 (by kernel_rfl) rfl #[.slice A0 l0.length c0] rfl (by (try simp only [zP,zS,zT]);first|done|rfl|(simp only [zR,zQ];rfl)) ?_;(with_reducible refine (spec_DrawRootedCount.calls k _ _ l0 t550 t551 _ ?side1 ?side2 A3.out).mono ?_);(case side1=>repeat (first|exact HR0.out|(with_reducible refine zW ?_ _)|(with_reducible refine zX ?_ _)|(with_reducible refine zY ?_)));(case side2=>exact HC0.out);rintro e w14 ⟨rfl,hb⟩;refine ⟨_,rfl,?_⟩;have n0_:=zA (za (by repeat (first|(with_reducible first|exact HB.out|apply zD|apply zB|apply zC)|exact HB.out)) hb);clear HB;have HB:=n0_;clear n0_;(try clear hb);(try clear hb2);(try clear hk);(try clear hi))|((with_reducible refine gate_callee (f:=16) rfl ?_);refine goesL_ (some 18) rfl rfl Try.func16 (by kernel_rfl) rfl #[.int .i64 t550,.int .i64 t551] rfl (by (try simp only [zP,zS,zT]);first|done|rfl|(simp only [zR,zQ];rfl)) ?_;(with_reducible refine (impl_RootedCount.calls t550 t551 t552 _ A4.out).mono ?_);rintro e w15 ⟨rfl,hb⟩;refine ⟨_,rfl,?_⟩;have n0_:=zA (za (by repeat (first|(with_reducible first|exact HB.out|apply zD|apply zB|apply zC)|exact HB.out)) hb);clear HB;have HB:=n0_;clear n0_;(try clear hb);(try clear hb2);(try clear hk);(try clear hi))|((with_reducible refine gate_callee (f:=28) rfl ?_);refine goesL_ (some 21) rfl rfl Try.func28 (by kernel_rfl) rfl #[.int .i64 t550,.int .i64 t551] rfl (by (try simp only [zP,zS,zT]);first|done|rfl|(simp only [zR,zQ];rfl)) ?_;(with_reducible refine (spec_RootedCount.calls k t550 t551 t553 _ A5.out).mono ?_);rintro e w16 ⟨rfl,hb⟩;refine ⟨_,rfl,?_⟩;have n0_:=zA (za (by repeat (first|(with_reducible first|exact HB.out|apply zD|apply zB|apply zC)|exact HB.out)) hb);clear HB;have HB:=n0_;clear n0_;(try clear hb);(try clear hb2);(try clear hk);(try clear hi))|((with_reducible refine gate_callee (f:=32) rfl ?_);refine goesL_ (some 34) rfl rfl Try.func32 (by kernel_rfl) rfl #[.int .i64 t550,.int .i64 t551] rfl (by (try simp only [zP,zS,zT]);first|done|rfl|(simp only [zR,zQ];rfl)) ?_;(with_reducible refine (impl_RootedRun.calls t550 t551 t554 _ A11.out).mono ?_);rintro e w17 ⟨rfl,hb⟩;refine ⟨_,rfl,?_⟩;have n0_:=zA (za (by repeat (first|(with_reducible first|exact HB.out|apply zD|apply zB|apply zC)|exact HB.out)) hb);clear HB;have HB:=n0_;clear n0_;(try clear hb);(try clear hb2);(try clear hk);(try clear hi)))
      go_ret
      exact ⟨by first|rfl|(simp [errW_none,errW_some] <;> rfl)|(simp [*,errW_none,errW_some] <;> rfl),by repeat (first|(with_reducible first|exact HB.out|apply zD|apply zB|apply zC)|exact HB.out)⟩
     ·rw [if_neg c13] at H
      have c13b0:decide ((wrap64 (2 * t551))≤t550) = false:=zV c13
      clear c13
      obtain rfl:=zb H
      go_enter Try.func9,Try.ntmps9
      go_wp2_with (first|((with_reducible refine gate_callee (f:=31) rfl ?_);refine goesL_ (some 13) rfl rfl Try.func31 (by kernel_rfl) rfl #[.slice A0 l0.length c0] rfl (by (try simp only [zP,zS,zT]);first|done|rfl|(simp only [zR,zQ];rfl)) ?_;(with_reducible refine (spec_DrawRootedCount.calls k _ _ l0 t550 t551 _ ?side1 ?side2 A3.out).mono ?_);(case side1=>repeat (first|exact HR0.out|(with_reducible refine zW ?_ _)|(with_reducible refine zX ?_ _)|(with_reducible refine zY ?_)));(case side2=>exact HC0.out);rintro e w18 ⟨rfl,hb⟩;refine ⟨_,rfl,?_⟩;have n0_:=zA (za (by repeat (first|(with_reducible first|exact HB.out|apply zD|apply zB|apply zC)|exact HB.out)) hb);clear HB;have HB:=n0_;clear n0_;(try clear hb);(try clear hb2);(try clear hk);(try clear hi))|((with_reducible refine gate_callee (f:=16) rfl ?_);refine goesL_ (some 18) rfl rfl Try.func16 (by kernel_rfl) rfl #[.int .i64 t550,.int .i64 t551] rfl (by (try simp only [zP,zS,zT]);first|done|rfl|(simp only [zR,zQ];rfl)) ?_;(with_reducible refine (impl_RootedCount.calls t550 t551 t552 _ A4.out).mono ?_);rintro e w19 ⟨rfl,hb⟩;refine ⟨_,rfl,?_⟩;have n0_:=zA (za (by repeat (first|(with_reducible first|exact HB.out|apply zD|apply zB|apply zC)|exact HB.out)) hb);clear HB;have HB:=n0_;clear n0_;(try clear hb);(try clear hb2);(try clear hk);(try clear hi))|((with_reducible refine gate_callee (f:=28) rfl ?_);refine goesL_ (some 21) rfl rfl Try.func28 (by kernel_rfl) rfl #[.int .i64 t550,.int .i64 t551] rfl (by (try simp only [zP,zS,zT]);first|done|rfl|(simp only [zR,zQ];rfl)) ?_;(with_reducible refine (spec_RootedCount.calls k t550 t551 t553 _ A5.out).mono ?_);rintro e w20 ⟨rfl,hb⟩;refine ⟨_,rfl,?_⟩;have n0_:=zA (za (by repeat (first|(with_reducible first|exact HB.out|apply zD|apply zB|apply zC)|exact HB.out)) hb);clear HB;have HB:=n0_;clear n0_;(try clear hb);(try clear hb2);(try clear hk);(try clear hi))|((with_reducible refine gate_callee (f:=32) rfl ?_);refine goesL_ (some 34) rfl rfl Try.func32 (by kernel_rfl) rfl #[.int .i64 t550,.int .i64 t551] rfl (by (try simp only [zP,zS,zT]);first|done|rfl|(simp only [zR,zQ];rfl)) ?_;(with_reducible refine (impl_RootedRun.calls t550 t551 t554 _ A11.out).mono ?_);rintro e w21 ⟨rfl,hb⟩;refine ⟨_,rfl,?_⟩;have n0_:=zA (za (by repeat (first|(with_reducible first|exact HB.out|apply zD|apply zB|apply zC)|exact HB.out)) hb);clear HB;have HB:=n0_;clear n0_;(try clear hb);(try clear hb2);(try clear hk);(try clear hi)))
      go_ret
      exact ⟨by first|rfl|(simp [errW_none,errW_some] <;> rfl)|(simp [*,errW_none,errW_some] <;> rfl),by repeat (first|(with_reducible first|exact HB.out|apply zD|apply zB|apply zC)|exact HB.out)⟩
    ·rw [if_neg c12] at H
     have c12b0:(t554 == (-1)) = false:=beq_eq_false_iff_ne.mpr c12
     have c12b1:(t554 != (-1)) = true:=bne_iff_ne.mpr c12
     by_cases c22:t554 = t552
     ·rw [if_pos c22] at H
      have c22b0:(t554 == t552) = true:=beq_iff_eq.mpr c22
      have c22b1:(t554 != t552) = false:=bne_eq_false_iff_eq.mpr c22
      clear c22
      by_cases c23:(wrap64 (2 * t551))≤t550
      ·rw [if_pos c23] at H
       have c23b0:decide ((wrap64 (2 * t551))≤t550) = true:=zU c23
       clear c23
       obtain rfl:=zb H
       go_enter Try.func9,Try.ntmps9
       go_wp2_with (first|((with_reducible refine gate_callee (f:=31) rfl ?_);refine goesL_ (some 13) rfl rfl Try.func31 (by kernel_rfl) rfl #[.slice A0 l0.length c0] rfl (by (try simp only [zP,zS,zT]);first|done|rfl|(simp only [zR,zQ];rfl)) ?_;(with_reducible refine (spec_DrawRootedCount.calls k _ _ l0 t550 t551 _ ?side1 ?side2 A3.out).mono ?_);(case side1=>repeat (first|exact HR0.out|(with_reducible refine zW ?_ _)|(with_reducible refine zX ?_ _)|(with_reducible refine zY ?_)));(case side2=>exact HC0.out);rintro e w24 ⟨rfl,hb⟩;refine ⟨_,rfl,?_⟩;have n0_:=zA (za (by repeat (first|(with_reducible first|exact HB.out|apply zD|apply zB|apply zC)|exact HB.out)) hb);clear HB;have HB:=n0_;clear n0_;(try clear hb);(try clear hb2);(try clear hk);(try clear hi))|((with_reducible refine gate_callee (f:=16) rfl ?_);refine goesL_ (some 18) rfl rfl Try.func16 (by kernel_rfl) rfl #[.int .i64 t550,.int .i64 t551] rfl (by (try simp only [zP,zS,zT]);first|done|rfl|(simp only [zR,zQ];rfl)) ?_;(with_reducible refine (impl_RootedCount.calls t550 t551 t552 _ A4.out).mono ?_);rintro e w25 ⟨rfl,hb⟩;refine ⟨_,rfl,?_⟩;have n0_:=zA (za (by repeat (first|(with_reducible first|exact HB.out|apply zD|apply zB|apply zC)|exact HB.out)) hb);clear HB;have HB:=n0_;clear n0_;(try clear hb);(try clear hb2);(try clear hk);(try clear hi))|((with_reducible refine gate_callee (f:=28) rfl ?_);refine goesL_ (some 21) rfl rfl Try.func28 (by kernel_rfl) rfl #[.int .i64 t550,.int .i64 t551] rfl (by (try simp only [zP,zS,zT]);first|done|rfl|(simp only [zR,zQ];rfl)) ?_;(with_reducible refine (spec_RootedCount.calls k t550 t551 t553 _ A5.out).mono ?_);rintro e w26 ⟨rfl,hb⟩;refine ⟨_,rfl,?_⟩;have n0_:=zA (za (by repeat (first|(with_reducible first|exact HB.out|apply zD|apply zB|apply zC)|exact HB.out)) hb);clear HB;have HB:=n0_;clear n0_;(try clear hb);(try clear hb2);(try clear hk);(try clear hi))|((with_reducible refine gate_callee (f:=32) rfl ?_);refine goesL_ (some 34) rfl rfl Try.func32 (by kernel_rfl) rfl #[.int .i64 t550,.int .i64 t551] rfl (by (try simp only [zP,zS,zT]);first|done|rfl|(simp only [zR,zQ];rfl)) ?_;(with_reducible refine (impl_RootedRun.calls t550 t551 t554 _ A11.out).mono ?_);rintro e w27 ⟨rfl,hb⟩;refine ⟨_,rfl,?_⟩;have n0_:=zA (za (by repeat (first|(with_reducible first|exact HB.out|apply zD|apply zB|apply zC)|exact HB.out)) hb);clear HB;have HB:=n0_;clear n0_;(try clear hb);(try clear hb2);(try clear hk);(try clear hi)))
       go_ret
       exact ⟨by first|rfl|(simp [errW_none,errW_some] <;> rfl)|(simp [*,errW_none,errW_some] <;> rfl),by repeat (first|(with_reducible first|exact HB.out|apply zD|apply zB|apply zC)|exact HB.out)⟩
      ·rw [if_neg c23] at H
       have c23b0:decide ((wrap64 (2 * t551))≤t550) = false:=zV c23
       clear c23
       obtain rfl:=zb H
       go_enter Try.func9,Try.ntmps9
       go_wp2_with (first|((with_reducible refine gate_callee (f:=31) rfl ?_);refine goesL_ (some 13) rfl rfl Try.func31 (by kernel_rfl) rfl #[.slice A0 l0.length c0] rfl (by (try simp only [zP,zS,zT]);first|done|rfl|(simp only [zR,zQ];rfl)) ?_;(with_reducible refine (spec_DrawRootedCount.calls k _ _ l0 t550 t551 _ ?side1 ?side2 A3.out).mono ?_);(case side1=>repeat (first|exact HR0.out|(with_reducible refine zW ?_ _)|(with_reducible refine zX ?_ _)|(with_reducible refine zY ?_)));(case side2=>exact HC0.out);rintro e w28 ⟨rfl,hb⟩;refine ⟨_,rfl,?_⟩;have n0_:=zA (za (by repeat (first|(with_reducible first|exact HB.out|apply zD|apply zB|apply zC)|exact HB.out)) hb);clear HB;have HB:=n0_;clear n0_;(try clear hb);(try clear hb2);(try clear hk);(try clear hi))|((with_reducible refine gate_callee (f:=16) rfl ?_);refine goesL_ (some 18) rfl rfl Try.func16 (by kernel_rfl) rfl #[.int .i64 t550,.int .i64 t551] rfl (by (try simp only [zP,zS,zT]);first|done|rfl|(simp only [zR,zQ];rfl)) ?_;(with_reducible refine (impl_RootedCount.calls t550 t551 t552 _ A4.out).mono ?_);rintro e w29 ⟨rfl,hb⟩;refine ⟨_,rfl,?_⟩;have n0_:=zA (za (by repeat (first|(with_reducible first|exact HB.out|apply zD|apply zB|apply zC)|exact HB.out)) hb);clear HB;have HB:=n0_;clear n0_;(try clear hb);(try clear hb2);(try clear hk);(try clear hi))|((with_reducible refine gate_callee (f:=28) rfl ?_);refine goesL_ (some 21) rfl rfl Try.func28 (by kernel_rfl) rfl #[.int .i64 t550,.int .i64 t551] rfl (by (try simp only [zP,zS,zT]);first|done|rfl|(simp only [zR,zQ];rfl)) ?_;(with_reducible refine (spec_RootedCount.calls k t550 t551 t553 _ A5.out).mono ?_);rintro e w30 ⟨rfl,hb⟩;refine ⟨_,rfl,?_⟩;have n0_:=zA (za (by repeat (first|(with_reducible first|exact HB.out|apply zD|apply zB|apply zC)|exact HB.out)) hb);clear HB;have HB:=n0_;clear n0_;(try clear hb);(try clear hb2);(try clear hk);(try clear hi))|((with_reducible refine gate_callee (f:=32) rfl ?_);refine goesL_ (some 34) rfl rfl Try.func32 (by kernel_rfl) rfl #[.int .i64 t550,.int .i64 t551] rfl (by (try simp only [zP,zS,zT]);first|done|rfl|(simp only [zR,zQ];rfl)) ?_;(with_reducible refine (impl_RootedRun.calls t550 t551 t554 _ A11.out).mono ?_);rintro e w31 ⟨rfl,hb⟩;refine ⟨_,rfl,?_⟩;have n0_:=zA (za (by repeat (first|(with_reducible first|exact HB.out|apply zD|apply zB|apply zC)|exact HB.out)) hb);clear HB;have HB:=n0_;clear n0_;(try clear hb);(try clear hb2);(try clear hk);(try clear hi)))
       go_ret
       exact ⟨by first|rfl|(simp [errW_none,errW_some] <;> rfl)|(simp [*,errW_none,errW_some] <;> rfl),by repeat (first|(with_reducible first|exact HB.out|apply zD|apply zB|apply zC)|exact HB.out)⟩
     ·rw [if_neg c22] at H
      have c22b0:(t554 == t552) = false:=beq_eq_false_iff_ne.mpr c22
      have c22b1:(t554 != t552) = true:=bne_iff_ne.mpr c22
      obtain rfl:=zb H
      go_enter Try.func9,Try.ntmps9
      go_wp2_with (first|((with_reducible refine gate_callee (f:=31) rfl ?_);refine goesL_ (some 13) rfl rfl Try.func31 (by kernel_rfl) rfl #[.slice A0 l0.length c0] rfl (by (try simp only [zP,zS,zT]);first|done|rfl|(simp only [zR,zQ];rfl)) ?_;(with_reducible refine (spec_DrawRootedCount.calls k _ _ l0 t550 t551 _ ?side1 ?side2 A3.out).mono ?_);(case side1=>repeat (first|exact HR0.out|(with_reducible refine zW ?_ _)|(with_reducible refine zX ?_ _)|(with_reducible refine zY ?_)));(case side2=>exact HC0.out);rintro e w32 ⟨rfl,hb⟩;refine ⟨_,rfl,?_⟩;have n0_:=zA (za (by repeat (first|(with_reducible first|exact HB.out|apply zD|apply zB|apply zC)|exact HB.out)) hb);clear HB;have HB:=n0_;clear n0_;(try clear hb);(try clear hb2);(try clear hk);(try clear hi))|((with_reducible refine gate_callee (f:=16) rfl ?_);refine goesL_ (some 18) rfl rfl Try.func16 (by kernel_rfl) rfl #[.int .i64 t550,.int .i64 t551] rfl (by (try simp only [zP,zS,zT]);first|done|rfl|(simp only [zR,zQ];rfl)) ?_;(with_reducible refine (impl_RootedCount.calls t550 t551 t552 _ A4.out).mono ?_);rintro e w33 ⟨rfl,hb⟩;refine ⟨_,rfl,?_⟩;have n0_:=zA (za (by repeat (first|(with_reducible first|exact HB.out|apply zD|apply zB|apply zC)|exact HB.out)) hb);clear HB;have HB:=n0_;clear n0_;(try clear hb);(try clear hb2);(try clear hk);(try clear hi))|((with_reducible refine gate_callee (f:=28) rfl ?_);refine goesL_ (some 21) rfl rfl Try.func28 (by kernel_rfl) rfl #[.int .i64 t550,.int .i64 t551] rfl (by (try simp only [zP,zS,zT]);first|done|rfl|(simp only [zR,zQ];rfl)) ?_;(with_reducible refine (spec_RootedCount.calls k t550 t551 t553 _ A5.out).mono ?_);rintro e w34 ⟨rfl,hb⟩;refine ⟨_,rfl,?_⟩;have n0_:=zA (za (by repeat (first|(with_reducible first|exact HB.out|apply zD|apply zB|apply zC)|exact HB.out)) hb);clear HB;have HB:=n0_;clear n0_;(try clear hb);(try clear hb2);(try clear hk);(try clear hi))|((with_reducible refine gate_callee (f:=32) rfl ?_);refine goesL_ (some 34) rfl rfl Try.func32 (by kernel_rfl) rfl #[.int .i64 t550,.int .i64 t551] rfl (by (try simp only [zP,zS,zT]);first|done|rfl|(simp only [zR,zQ];rfl)) ?_;(with_reducible refine (impl_RootedRun.calls t550 t551 t554 _ A11.out).mono ?_);rintro e w35 ⟨rfl,hb⟩;refine ⟨_,rfl,?_⟩;have n0_:=zA (za (by repeat (first|(with_reducible first|exact HB.out|apply zD|apply zB|apply zC)|exact HB.out)) hb);clear HB;have HB:=n0_;clear n0_;(try clear hb);(try clear hb2);(try clear hk);(try clear hi)))
      go_ret
      exact ⟨by first|rfl|(simp [errW_none,errW_some] <;> rfl)|(simp [*,errW_none,errW_some] <;> rfl),by repeat (first|(with_reducible first|exact HB.out|apply zD|apply zB|apply zC)|exact HB.out)⟩
  ·rw [if_neg c6] at H
   have c6b0:(t552 == t553) = false:=beq_eq_false_iff_ne.mpr c6
   have c6b1:(t552 != t553) = true:=bne_iff_ne.mpr c6
   obtain rfl:=zb H
   go_enter Try.func9,Try.ntmps9
   go_wp2_with (first|((with_reducible refine gate_callee (f:=31) rfl ?_);refine goesL_ (some 13) rfl rfl Try.func31 (by kernel_rfl) rfl #[.slice A0 l0.length c0] rfl (by (try simp only [zP,zS,zT]);first|done|rfl|(simp only [zR,zQ];rfl)) ?_;(with_reducible refine (spec_DrawRootedCount.calls k _ _ l0 t550 t551 _ ?side1 ?side2 A3.out).mono ?_);(case side1=>repeat (first|exact HR0.out|(with_reducible refine zW ?_ _)|(with_reducible refine zX ?_ _)|(with_reducible refine zY ?_)));(case side2=>exact HC0.out);rintro e w36 ⟨rfl,hb⟩;refine ⟨_,rfl,?_⟩;have n0_:=zA (za (by repeat (first|(with_reducible first|exact HB.out|apply zD|apply zB|apply zC)|exact HB.out)) hb);clear HB;have HB:=n0_;clear n0_;(try clear hb);(try clear hb2);(try clear hk);(try clear hi))|((with_reducible refine gate_callee (f:=16) rfl ?_);refine goesL_ (some 18) rfl rfl Try.func16 (by kernel_rfl) rfl #[.int .i64 t550,.int .i64 t551] rfl (by (try simp only [zP,zS,zT]);first|done|rfl|(simp only [zR,zQ];rfl)) ?_;(with_reducible refine (impl_RootedCount.calls t550 t551 t552 _ A4.out).mono ?_);rintro e w37 ⟨rfl,hb⟩;refine ⟨_,rfl,?_⟩;have n0_:=zA (za (by repeat (first|(with_reducible first|exact HB.out|apply zD|apply zB|apply zC)|exact HB.out)) hb);clear HB;have HB:=n0_;clear n0_;(try clear hb);(try clear hb2);(try clear hk);(try clear hi))|((with_reducible refine gate_callee (f:=28) rfl ?_);refine goesL_ (some 21) rfl rfl Try.func28 (by kernel_rfl) rfl #[.int .i64 t550,.int .i64 t551] rfl (by (try simp only [zP,zS,zT]);first|done|rfl|(simp only [zR,zQ];rfl)) ?_;(with_reducible refine (spec_RootedCount.calls k t550 t551 t553 _ A5.out).mono ?_);rintro e w38 ⟨rfl,hb⟩;refine ⟨_,rfl,?_⟩;have n0_:=zA (za (by repeat (first|(with_reducible first|exact HB.out|apply zD|apply zB|apply zC)|exact HB.out)) hb);clear HB;have HB:=n0_;clear n0_;(try clear hb);(try clear hb2);(try clear hk);(try clear hi)))
   go_ret
   exact ⟨by first|rfl|(simp [errW_none,errW_some] <;> rfl)|(simp [*,errW_none,errW_some] <;> rfl),by repeat (first|(with_reducible first|exact HB.out|apply zD|apply zB|apply zC)|exact HB.out)⟩

/-- THE ONE PURE STATEMENT of laws_FnCount: yours. -/
def laws_FnCount.Pure:Prop := ∀ (l0:List Int),l0.length≤maxLen→l0.length * 1≤140737488351232→(∀ x ∈ l0,(Lit.int .u8 x).wf = true) → ∃ k,laws_FnCount.f k l0 = some true
theorem laws_FnCount.walk (P:laws_FnCount.Pure) (a0:Option Addr) (len0 cap0:Nat) (z0:List Int) (w:World) (w0:(a0 = none∧len0 = 0∧cap0 = 0∧z0 = []) ∨ ∃ x,a0 = some x∧len0≤cap0∧cap0≤maxLen∧z0.length = cap0∧(∀ i,i < z0.length→w.cell? (x.add i) = some (.int .u8 (z0.getD i 0))) ∧ ∀ n ∈ z0,(Lit.int .u8 n).wf = true) (y0:len0 * 1≤140737488351232) :
  Calls Try.prog 9 #[.slice a0 len0 cap0] w fun e w'=>e = .returned (.bool true)∧Below w.heap.size w w':=by
 obtain ⟨l0,rfl,hr0,hm0,hw0,hc0⟩:=ReadsInt.ofRowC w0
 obtain ⟨k,h⟩:=P l0 hm0 y0 hw0
 refine (laws_FnCount.calls k _ _ l0 true w (Kd.C_of_reads (d:=(0:Int)) (h1:=fun _=>rfl) hr0) hc0 h).mono ?_
 rintro e w' ⟨rfl,hd⟩
 exact ⟨rfl,hd⟩

end Go.Proofs.Ytdaiohcgdpclnaa.Q
