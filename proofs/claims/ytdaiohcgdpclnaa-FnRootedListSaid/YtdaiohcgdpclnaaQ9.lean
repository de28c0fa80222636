import Derived.Test.YtdaiohcgdpclnaaQ0
import Derived.Test.YtdaiohcgdpclnaaQ2
import Derived.Test.YtdaiohcgdpclnaaQ4
import Derived.Test.YtdaiohcgdpclnaaQ8
import Derived.Test.YtdaiohcgdpclnaaZ
namespace Go.Proofs.Ytdaiohcgdpclnaa.Q
open Go.RowKit Go.Proofs.YtdaiohcgdpclnaaW.PrintWords Go.Proofs.YtdaiohcgdpclnaaW.PrintLast Go.Proofs.YtdaiohcgdpclnaaW.PrintMore
attribute [local go_sem] max2_int min2_int max_two min_two max_three min_three max_four min_four   -- for this text's walks alone
set_option linter.unusedVariables false
set_option linter.unusedSimpArgs false

/-! ### spec_RootedList: function 19 -/
def spec_RootedList.f (k:Nat) (a0:Int) (a1:Int):Option ((List (S33)) × Bool):=(spec_l6In.f a0 1 2).bind fun t505=>(if t505 = true then (if a1 < 0 then (some ((([]:List (S33))),false)) else ((spec_l3All.f k a0 a1).bind fun t509=>(some (t509,true)))) else (some ((([]:List (S33))),false)))
theorem spec_RootedList.mono:∀ a0 a1 k,LeO (spec_RootedList.f k a0 a1) (spec_RootedList.f (k+1) a0 a1):=by
 intro a0 a1 k
 unfold spec_RootedList.f
 repeat' first
   | (with_reducible exact spec_l3All.mono _ _ _)
   | (with_reducible exact LeO.refl _)
   | (with_reducible exact za _)
   | (with_reducible refine zc ?_ ?_)
   | (with_reducible refine zb ?_ (fun _=>?_))
set_option maxHeartbeats 8000000 in
set_option maxRecDepth 100000 in
theorem spec_RootedList.calls (k:Nat) (a0:Int) (a1:Int) (r1:List (S33)) (r2:Bool) (w:World) (h:spec_RootedList.f k a0 a1 = some (r1,r2)) :
  Calls Try.prog 19 #[.int .i64 a0,.int .i64 a1] w fun e w' => ∃ v0_:Value,e = .returned (.tuple #[v0_,.bool r2])∧Kd.V k33 33 w' w.heap.size (fun k_=>(w.heap.size≤k_)) v0_ r1∧Below w.heap.size w w':=by
 have HB:=zA (Below.refl w.heap.size w)
 have H:((spec_l6In.f a0 1 2).bind fun t505=>(if t505 = true then (if a1 < 0 then (some ((([]:List (S33))),false)) else ((spec_l3All.f k a0 a1).bind fun t509=>(some (t509,true)))) else (some ((([]:List (S33))),false)))) = some (r1,r2):=h
 clear h
 replace H:=zz0 H
 obtain ⟨t505,A30,H⟩:=H
 try dsimp only at H
 have A3:=zA A30
 clear A30
 by_cases c4:t505 = true
 ·subst c4
  rw [if_pos rfl] at H;try dsimp only at H
  by_cases c5:a1 < 0
  ·rw [if_pos c5] at H
   have c5b0:decide (a1 < 0) = true:=zO c5
   clear c5
   obtain ⟨y506,hy506⟩:∃ y_:List (S33),y_ = (([]:List (S33))):=⟨_,rfl⟩
   replace H:(some (y506,false)) = some (r1,r2):=by (try rw [hy506]);first|with_reducible exact H|with_reducible exact zS_ H|exact H
   have Ny506:=zA hy506
   clear hy506
   simp only [Option.some.injEq,Prod.mk.injEq] at H
   obtain ⟨rfl,rfl⟩:=H
   go_enter Try.func19,Try.ntmps19
   go_wp2_with (first|((with_reducible refine gate_callee (f:=40) rfl ?_);refine goesL_ (some 7) rfl rfl Try.func40 (by kernel_rfl) rfl #[.int .i64 a0,.int .i64 1,.int .i64 2] rfl (by (try simp only [zJ,zM,zN]);first|done|rfl|(simp only [zL,zK];rfl)) ?_;(with_reducible refine (spec_l6In.calls a0 1 2 true _ A3.out).mono ?_);rintro e w' ⟨rfl,⟨nd,rfl⟩⟩;refine ⟨_,rfl,?_⟩)|((with_reducible refine gate_dst (N:=13) rfl ?_);refine Kd.S_lit k33 _ 33 ?hg (N:=13) ?hd (xs:=([]:List (S33))) (inner:=[]) (ok:=fun _=>True) (okp:=fun _=>True) ?hr ?hp (fun _ hk=>hk) trivial (Below.refl _ _) (Nat.le_refl _) (by simp) ?_;(case hd=>rfl);(case hg=>rfl);(case hr=>first|(go_simp;done)|(go_simp;rfl));(case hp=>exact (Reps.none _ _));intro v507 w6 ho7 hb hg_ hnew_;clear hg_ hnew_;(first|rw [← Ny506.out] at ho7|(simp only [Int.reduceToNat] at ho7;rw [← Ny506.out] at ho7));have n0_:=zA (Kd.S_lower (Kd.S_newM (M:=fun k_=>(w.heap.size≤k_)) ho7 (zQ (by exact zB_ HB.out)) (fun k_ h_=>h_)) (zQ (by exact zB_ HB.out)));have n1_:=zA (zR (by exact zB_ HB.out) hb);clear HB;have HO508:=n0_;have HB:=n1_;clear n0_ n1_;clear hb ho7))
   go_ret2
   exact ⟨_,by first|rfl|(simp [errW_none,errW_some] <;> rfl)|(simp [*,errW_none,errW_some] <;> rfl),Kd.S_V (by (with_reducible repeat (first|apply Kd.S_alloc|apply Kd.S_drewN|apply Kd.S_drew));exact Kd.S_mono HO508.out (fun _ hk=>hk.1)),by exact zB_ HB.out⟩
  ·rw [if_neg c5] at H
   have c5b0:decide (a1 < 0) = false:=zP c5
   clear c5
   replace H:=zz0 H
   obtain ⟨t509,A80,H⟩:=H
   try dsimp only at H
   have A8:=zA A80
   clear A80
   simp only [Option.some.injEq,Prod.mk.injEq] at H
   obtain ⟨rfl,rfl⟩:=H
   go_enter Try.func19,Try.ntmps19
   go_wp2_with (first|((with_reducible refine gate_callee (f:=40) rfl ?_);refine goesL_ (some 7) rfl rfl Try.func40 (by kernel_rfl) rfl #[.int .i64 a0,.int .i64 1,.int .i64 2] rfl (by (try simp only [zJ,zM,zN]);first|done|rfl|(simp only [zL,zK];rfl)) ?_;(with_reducible refine (spec_l6In.calls a0 1 2 true _ A3.out).mono ?_);rintro e w' ⟨rfl,⟨nd,rfl⟩⟩;refine ⟨_,rfl,?_⟩)|((with_reducible refine gate_callee (f:=45) rfl ?_);refine goesL_ (some 16) rfl rfl Try.func45 (by kernel_rfl) rfl #[.int .i64 a0,.int .i64 a1] rfl (by (try simp only [zJ,zM,zN]);first|done|rfl|(simp only [zL,zK];rfl)) ?_;(with_reducible refine (spec_l3All.calls k a0 a1 t509 _ A8.out).mono ?_);rintro e w9 ⟨v510,rfl,ho0,hb⟩;refine ⟨_,rfl,?_⟩;have n0_:=zA (Kd.V_lower (Kd.V_mono (ok':=fun k_=>(w.heap.size≤k_)) ho0 (fun k_ hk_=>(Nat.le_trans (zQ (by exact zB_ HB.out)) hk_))) (zQ (by exact zB_ HB.out)));have n1_:=zA (zR (by exact zB_ HB.out) hb);clear HB;have HO511:=n0_;have HB:=n1_;clear n0_ n1_;(try clear hb);(try clear hb2);(try clear hk);(try clear hi);(try clear ho0)))
   go_ret2
   exact ⟨_,by first|rfl|(simp [errW_none,errW_some] <;> rfl)|(simp [*,errW_none,errW_some] <;> rfl),by apply zV_;exact HO511.out,by exact zB_ HB.out⟩
 ·replace c4:=Bool.eq_false_iff.mpr c4
  subst c4
  have H1:(some ((([]:List (S33))),false)) = some (r1,r2):=by rw [if_neg (show ¬ (false = true) by decide)] at H;exact H
  clear H
  have H:=H1
  clear H1
  obtain ⟨y512,hy512⟩:∃ y_:List (S33),y_ = (([]:List (S33))):=⟨_,rfl⟩
  replace H:(some (y512,false)) = some (r1,r2):=by (try rw [hy512]);first|with_reducible exact H|with_reducible exact zS_ H|exact H
  have Ny512:=zA hy512
  clear hy512
  simp only [Option.some.injEq,Prod.mk.injEq] at H
  obtain ⟨rfl,rfl⟩:=H
  go_enter Try.func19,Try.ntmps19
  go_wp2_with (first|((with_reducible refine gate_callee (f:=40) rfl ?_);refine goesL_ (some 7) rfl rfl Try.func40 (by kernel_rfl) rfl #[.int .i64 a0,.int .i64 1,.int .i64 2] rfl (by (try simp only [zJ,zM,zN]);first|done|rfl|(simp only [zL,zK];rfl)) ?_;(with_reducible refine (spec_l6In.calls a0 1 2 false _ A3.out).mono ?_);rintro e w' ⟨rfl,⟨nd,rfl⟩⟩;refine ⟨_,rfl,?_⟩)|((with_reducible refine gate_dst (N:=13) rfl ?_);refine Kd.S_lit k33 _ 33 ?hg (N:=13) ?hd (xs:=([]:List (S33))) (inner:=[]) (ok:=fun _=>True) (okp:=fun _=>True) ?hr ?hp (fun _ hk=>hk) trivial (Below.refl _ _) (Nat.le_refl _) (by simp) ?_;(case hd=>rfl);(case hg=>rfl);(case hr=>first|(go_simp;done)|(go_simp;rfl));(case hp=>exact (Reps.none _ _));intro v513 w10 ho11 hb hg_ hnew_;clear hg_ hnew_;(first|rw [← Ny512.out] at ho11|(simp only [Int.reduceToNat] at ho11;rw [← Ny512.out] at ho11));have n0_:=zA (Kd.S_lower (Kd.S_newM (M:=fun k_=>(w.heap.size≤k_)) ho11 (zQ (by exact zB_ HB.out)) (fun k_ h_=>h_)) (zQ (by exact zB_ HB.out)));have n1_:=zA (zR (by exact zB_ HB.out) hb);clear HB;have HO514:=n0_;have HB:=n1_;clear n0_ n1_;clear hb ho11))
  go_ret2
  exact ⟨_,by first|rfl|(simp [errW_none,errW_some] <;> rfl)|(simp [*,errW_none,errW_some] <;> rfl),Kd.S_V (by (with_reducible repeat (first|apply Kd.S_alloc|apply Kd.S_drewN|apply Kd.S_drew));exact Kd.S_mono HO514.out (fun _ hk=>hk.1)),by exact zB_ HB.out⟩

/-! ### laws_sameInts: function 51 -/
def laws_sameInts.l0:Nat→List Int→List Int→Int→Option (Bool)
 | 0,_,_,_=>none
 | k+1,x0,x1,x5=>if x5 < (x0.length:Int) then (if 0≤x5 then (if x5 < (x1.length:Int) then (if (rd x0 x5) = (rd x1 x5) then (laws_sameInts.l0 k x0 x1 (wrap64 (x5+1))) else (some false)) else (none)) else (none)) else (some true)
def laws_sameInts.f (k:Nat) (l0:List Int) (l1:List Int):Option (Bool):=if (l0.length:Int) = (l1.length:Int) then (laws_sameInts.l0 k l0 l1 0) else (some false)
theorem laws_sameInts.mono_l:∀ k,(∀ y0 y1 y2,LeO (laws_sameInts.l0 k y0 y1 y2) (laws_sameInts.l0 (k+1) y0 y1 y2))
 | 0=>fun _ _ _ r h=>by simp [laws_sameInts.l0] at h
 | k+1=>by
  have ih0:=laws_sameInts.mono_l k
  ·intro y0 y1 y2
   unfold laws_sameInts.l0
   repeat' first
   | (with_reducible exact ih0 _ _ _)
   | (with_reducible exact LeO.refl _)
   | (with_reducible exact za _)
   | (with_reducible refine zc ?_ ?_)
   | (with_reducible refine zb ?_ (fun _=>?_))
theorem laws_sameInts.mono:∀ a0 a1 k,LeO (laws_sameInts.f k a0 a1) (laws_sameInts.f (k+1) a0 a1):=by
 intro a0 a1 k
 have ih0:=laws_sameInts.mono_l k
 unfold laws_sameInts.f
 repeat' first
   | (with_reducible exact ih0 _ _ _)
   | (with_reducible exact LeO.refl _)
   | (with_reducible exact za _)
   | (with_reducible refine zc ?_ ?_)
   | (with_reducible refine zb ?_ (fun _=>?_))
set_option maxHeartbeats 8000000 in
set_option maxRecDepth 100000 in
theorem laws_sameInts.calls (k:Nat) (A0:Option Addr) (c0:Nat) (l0:List Int) (A1:Option Addr) (c1:Nat) (l1:List Int) (r:Bool) (w:World) (hr0:Kd.C (Kd.int .i64) w A0 l0.length l0) (hc0:l0.length≤c0) (hr1:Kd.C (Kd.int .i64) w A1 l1.length l1) (hc1:l1.length≤c1) (h:laws_sameInts.f k l0 l1 = some r) :
  Calls Try.prog 51 #[.slice A0 l0.length c0,.slice A1 l1.length c1] w fun e w'=>e = .returned (.bool r)∧Drawn0 w w':=by
 have HR0:=zA hr0
 have HC0:=zA hc0
 clear hr0 hc0
 have HR1:=zA hr1
 have HC1:=zA hc1
 clear hr1 hc1
 have H:(if (l0.length:Int) = (l1.length:Int) then (laws_sameInts.l0 k l0 l1 0) else (some false)) = some r:=h
 clear h
 by_cases c3:(l0.length:Int) = (l1.length:Int)
 ·rw [if_pos c3] at H
  have c3b0:((l0.length:Int) == (l1.length:Int)) = true:=beq_iff_eq.mpr c3
  have c3b1:((l0.length:Int) != (l1.length:Int)) = false:=bne_eq_false_iff_eq.mpr c3
  have c3b2:(l0.length == l1.length) = true:=by first|simpa using c3|(simp at c3 ⊢;omega)
  clear c3
  have H':=zA H
  clear H
  go_enter Try.func51,Try.ntmps51
  go_wp2
  repeat (go_quiet (fail);try go_wp2)
  go_loopg [5] k (fun kq v5 w' => ∃ (x5_1:Int),v5 = .int .i64 x5_1∧Aside0 (laws_sameInts.l0 kq l0 l1 x5_1 = some r)∧Aside0 (kq≤k)∧Drawn0 w w')
  case atStart=>exact ⟨(0),(by first|rfl|(simp;done)|(simp [*];done)),H',⟨Nat.le_refl _⟩,by repeat (first|exact Drawn0.refl _|apply Drawn0.step)⟩
  case round =>
   clear H'
   (try clear c1);(try clear p2);(try clear c3);(try clear c3b0);(try clear c3b1);(try clear c3b2)
   obtain ⟨x5_1,rfl,HA,HK1,⟨m1,rfl⟩⟩:=hrel
   cases gk with
   | zero=>exact absurd HA.out (by simp [laws_sameInts.l0])
   | succ k1 =>
    have H:=HA.out
    clear HA
    simp only [laws_sameInts.l0] at H
    by_cases c4:x5_1 < (l0.length:Int)
    ·rw [if_pos c4] at H
     have c4b0:decide (x5_1 < (l0.length:Int)) = true:=zO c4
     clear c4
     by_cases c5:0≤x5_1
     ·rw [if_pos c5] at H
      have c5b0:decide (0≤x5_1) = true:=zO c5
      clear c5
      by_cases c6:x5_1 < (l1.length:Int)
      ·rw [if_pos c6] at H
       have c6b0:decide (x5_1 < (l1.length:Int)) = true:=zO c6
       clear c6
       by_cases c7:(rd l0 x5_1) = (rd l1 x5_1)
       ·rw [if_pos c7] at H
        have c7b0:((rd l0 x5_1) == (rd l1 x5_1)) = true:=beq_iff_eq.mpr c7
        have c7b1:((rd l0 x5_1) != (rd l1 x5_1)) = false:=bne_eq_false_iff_eq.mpr c7
        clear c7
        have H':=zA H
        clear H
        have p515:0≤(x5_1:Int):=zE (by with_reducible assumption)
        have q515:x5_1 < (l0.length:Int):=zE (by with_reducible assumption)
        obtain ⟨ad515,e515,hx515_0⟩:=Kd.at_int HR0.out x5_1 p515 q515
        cases e515
        replace p515:=eq_true p515
        replace q515:=eq_true q515
        have p516:0≤(x5_1:Int):=zE (by with_reducible assumption)
        have q516:x5_1 < (l1.length:Int):=zE (by with_reducible assumption)
        obtain ⟨ad516,e516,hx516_0⟩:=Kd.at_int HR1.out x5_1 p516 q516
        cases e516
        replace p516:=eq_true p516
        replace q516:=eq_true q516
        go_wp2
        repeat (go_quiet (fail);try go_wp2)
        go_roundg k1
        case measure=>have:=HK1.out;omega
        case rel=>exact ⟨(wrap64 (x5_1+1)),(by first|rfl|(simp;done)|(simp [*];done)),H',⟨by have:=HK1.out;omega⟩,by repeat (first|exact Drawn0.refl _|apply Drawn0.step)⟩
       ·rw [if_neg c7] at H
        have c7b0:((rd l0 x5_1) == (rd l1 x5_1)) = false:=beq_eq_false_iff_ne.mpr c7
        have c7b1:((rd l0 x5_1) != (rd l1 x5_1)) = true:=bne_iff_ne.mpr c7
        obtain rfl:=zS H
        have p515:0≤(x5_1:Int):=zE (by with_reducible assumption)
        have q515:x5_1 < (l0.length:Int):=zE (by with_reducible assumption)
        obtain ⟨ad515,e515,hx515_0⟩:=Kd.at_int HR0.out x5_1 p515 q515
        cases e515
        replace p515:=eq_true p515
        replace q515:=eq_true q515
        have p516:0≤(x5_1:Int):=zE (by with_reducible assumption)
        have q516:x5_1 < (l1.length:Int):=zE (by with_reducible assumption)
        obtain ⟨ad516,e516,hx516_0⟩:=Kd.at_int HR1.out x5_1 p516 q516
        cases e516
        replace p516:=eq_true p516
        replace q516:=eq_true q516
        go_wp2
        repeat (go_quiet (fail);try go_wp2)
        go_ret
        exact ⟨by first|rfl|(simp;done)|(simp [*];done),by repeat (first|exact Drawn0.refl _|apply Drawn0.step)⟩
      ·rw [if_neg c6] at H
       exact absurd H (by simp)
     ·rw [if_neg c5] at H
      exact absurd H (by simp)
    ·rw [if_neg c4] at H
     have c4b0:decide (x5_1 < (l0.length:Int)) = false:=zP c4
     clear c4
     obtain rfl:=zS H
     go_wp2
     repeat (go_quiet (fail);try go_wp2)
     go_ret
     exact ⟨by first|rfl|(simp;done)|(simp [*];done),by repeat (first|exact Drawn0.refl _|apply Drawn0.step)⟩
 ·rw [if_neg c3] at H
  have c3b0:((l0.length:Int) == (l1.length:Int)) = false:=beq_eq_false_iff_ne.mpr c3
  have c3b1:((l0.length:Int) != (l1.length:Int)) = true:=bne_iff_ne.mpr c3
  have c3b2:(l0.length == l1.length) = false:=by first|simpa using c3|(simp at c3 ⊢;omega)
  obtain rfl:=zS H
  go_enter Try.func51,Try.ntmps51
  go_wp2
  repeat (go_quiet (fail);try go_wp2)
  go_ret
  exact ⟨by first|rfl|(simp;done)|(simp [*];done),by repeat (first|exact Drawn0.refl _|apply Drawn0.step)⟩

/-! ### laws_sameMap: function 23 -/
def laws_sameMap.f (k:Nat) (l0_0:List Int) (l0_1:List Int) (l1_0:List Int) (l1_1:List Int):Option (Bool):=(laws_sameInts.f k l0_0 l1_0).bind fun t519=>(if t519 = true then ((laws_sameInts.f k l0_1 l1_1).bind fun t520=>(some t520)) else (some false))
theorem laws_sameMap.mono:∀ a0 a1 a2 a3 k,LeO (laws_sameMap.f k a0 a1 a2 a3) (laws_sameMap.f (k+1) a0 a1 a2 a3):=by
 intro a0 a1 a2 a3 k
 unfold laws_sameMap.f
 repeat' first
   | (with_reducible exact laws_sameInts.mono _ _ _)
   | (with_reducible exact LeO.refl _)
   | (with_reducible exact za _)
   | (with_reducible refine zc ?_ ?_)
   | (with_reducible refine zb ?_ (fun _=>?_))
set_option maxHeartbeats 8000000 in
set_option maxRecDepth 100000 in
theorem laws_sameMap.calls (k:Nat) (A0_0:Option Addr) (c0_0:Nat) (l0_0:List Int) (A0_1:Option Addr) (c0_1:Nat) (l0_1:List Int) (A1_0:Option Addr) (c1_0:Nat) (l1_0:List Int) (A1_1:Option Addr) (c1_1:Nat) (l1_1:List Int) (r:Bool) (w:World) (hr0_0:Kd.C (Kd.int .i64) w A0_0 l0_0.length l0_0) (hc0_0:l0_0.length≤c0_0) (hr0_1:Kd.C (Kd.int .i64) w A0_1 l0_1.length l0_1) (hc0_1:l0_1.length≤c0_1) (hr1_0:Kd.C (Kd.int .i64) w A1_0 l1_0.length l1_0) (hc1_0:l1_0.length≤c1_0) (hr1_1:Kd.C (Kd.int .i64) w A1_1 l1_1.length l1_1) (hc1_1:l1_1.length≤c1_1) (h:laws_sameMap.f k l0_0 l0_1 l1_0 l1_1 = some r) :
  Calls Try.prog 23 #[.agg #[.slice A0_0 l0_0.length c0_0,.slice A0_1 l0_1.length c0_1],.agg #[.slice A1_0 l1_0.length c1_0,.slice A1_1 l1_1.length c1_1]] w fun e w'=>e = .returned (.bool r)∧Below w.heap.size w w':=by
 have hu33:=Try.underlying33
 have HR0_0:=zA hr0_0
 have HC0_0:=zA hc0_0
 clear hr0_0 hc0_0
 have HR0_1:=zA hr0_1
 have HC0_1:=zA hc0_1
 clear hr0_1 hc0_1
 have HR1_0:=zA hr1_0
 have HC1_0:=zA hc1_0
 clear hr1_0 hc1_0
 have HR1_1:=zA hr1_1
 have HC1_1:=zA hc1_1
 clear hr1_1 hc1_1
 have HB:=zA (Below.refl w.heap.size w)
 have H:((laws_sameInts.f k l0_0 l1_0).bind fun t519=>(if t519 = true then ((laws_sameInts.f k l0_1 l1_1).bind fun t520=>(some t520)) else (some false))) = some r:=h
 clear h
 replace H:=zz0 H
 obtain ⟨t519,A30,H⟩:=H
 try dsimp only at H
 have A3:=zA A30
 clear A30
 by_cases c4:t519 = true
 ·subst c4
  rw [if_pos rfl] at H;try dsimp only at H
  replace H:=zz0 H
  obtain ⟨t520,A50,H⟩:=H
  try dsimp only at H
  have A5:=zA A50
  clear A50
  obtain rfl:=zS H
  go_enter Try.func23,Try.ntmps23
  go_wp2_with (first|((with_reducible refine gate_dst (N:=2) rfl ?_);refine box_event ?hg (N:=2) ?hd (cs:=#[.slice A0_0 l0_0.length c0_0,.slice A0_1 l0_1.length c0_1]) (t:=33) ?hr ?_;(case hd=>rfl);(case hg=>rfl);(case hr=>first|(go_simp;done)|(go_simp;rfl));intro gb517 hg w6 hbox hb;have n0_:=zA (zR (by exact zB_ HB.out) hb);have n1_:=zA (hbox);have n2_:=zA ((by rw [hg];exact (zQ (by exact zB_ HB.out)):w.heap.size≤gb517));have n3_:=zA ((by rw [hg];exact (zQ (by exact zB_ HB.out)):w.heap.size≤gb517));clear HB;have HB:=n0_;have BK517:=n1_;have GW517:=n2_;have GE517:=n3_;clear n0_ n1_ n2_ n3_;clear hb hbox hg)|((with_reducible refine gate_dst (N:=3) rfl ?_);refine box_event ?hg (N:=3) ?hd (cs:=#[.slice A1_0 l1_0.length c1_0,.slice A1_1 l1_1.length c1_1]) (t:=33) ?hr ?_;(case hd=>rfl);(case hg=>rfl);(case hr=>first|(go_simp;done)|(go_simp;rfl));intro gb518 hg w7 hbox hb;have n0_:=zA (zX (g:=gb517) (o:=.cells #[.slice A0_0 l0_0.length c0_0,.slice A0_1 l0_1.length c0_1] 33 (0,0)) (by (with_reducible repeat (first|refine zG ?_ _|refine zI ?_|refine zH ?_ _));exact BK517.out) hb);have n1_:=zA (zR (by repeat (first|(with_reducible first|exact HB.out|apply zD|apply zB|apply zC|refine zF ?_ GE517.out)|exact HB.out)) hb);have n2_:=zA (hbox);have n3_:=zA ((by rw [hg];exact (zQ (by repeat (first|(with_reducible first|exact HB.out|apply zD|apply zB|apply zC|refine zF ?_ GE517.out)|exact HB.out))):w.heap.size≤gb518));have n4_:=zA ((by rw [hg];exact (zQ (by repeat (first|(with_reducible first|exact HB.out|apply zD|apply zB|apply zC|refine zF ?_ GE517.out)|exact HB.out))):w.heap.size≤gb518));have n5_:=zA ((by rw [hg];exact Nat.ne_of_lt (blk_lt (g:=gb517) (o:=.cells #[.slice A0_0 l0_0.length c0_0,.slice A0_1 l0_1.length c0_1] 33 (0,0)) (by (with_reducible repeat (first|refine zG ?_ _|refine zI ?_|refine zH ?_ _));exact BK517.out)):gb517≠gb518));have n6_:=zA ((by rw [hg];exact Nat.ne_of_gt (blk_lt (g:=gb517) (o:=.cells #[.slice A0_0 l0_0.length c0_0,.slice A0_1 l0_1.length c0_1] 33 (0,0)) (by (with_reducible repeat (first|refine zG ?_ _|refine zI ?_|refine zH ?_ _));exact BK517.out)):gb518≠gb517));clear BK517;clear HB;have BK517:=n0_;have HB:=n1_;have BK518:=n2_;have GW518:=n3_;have GE518:=n4_;have NB517_518:=n5_;have NB518_517:=n6_;clear n0_ n1_ n2_ n3_ n4_ n5_ n6_;clear hb hbox hg;have hnb8:=NB517_518.out;have hnc8:=NB518_517.out;have hcz9_0:w7.cell? ⟨gb517,0,none⟩ = some (.slice A0_0 l0_0.length c0_0):=(zT BK517.out 0).trans rfl;have hcz9_1:w7.cell? ⟨gb517,1,none⟩ = some (.slice A0_1 l0_1.length c0_1):=(zT BK517.out 1).trans rfl;have hfz9_0:=zZ BK517.out 0;have hfz9_1:=zZ BK517.out 1;have hcz10_0:w7.cell? ⟨gb518,0,none⟩ = some (.slice A1_0 l1_0.length c1_0):=(zT BK518.out 0).trans rfl;have hcz10_1:w7.cell? ⟨gb518,1,none⟩ = some (.slice A1_1 l1_1.length c1_1):=(zT BK518.out 1).trans rfl;have hfz10_0:=zZ BK518.out 0;have hfz10_1:=zZ BK518.out 1)|((with_reducible refine gate_callee (f:=51) rfl ?_);refine goesL_ (some 9) rfl rfl Try.func51 (by kernel_rfl) rfl #[.slice A0_0 l0_0.length c0_0,.slice A1_0 l1_0.length c1_0] rfl (by (try simp only [zJ,zM,zN]);first|done|rfl|(simp only [zL,zK];rfl)) ?_;(with_reducible refine (laws_sameInts.calls k _ _ l0_0 _ _ l1_0 true _ ?side1 ?side2 ?side3 ?side4 A3.out).mono ?_);(case side1=>repeat (first|exact (zW HR0_0.out HB.out)|(with_reducible exact HR0_0.out)|apply zC_));(case side2=>exact HC0_0.out);(case side3=>repeat (first|exact (zW HR1_0.out HB.out)|(with_reducible exact HR1_0.out)|apply zC_));(case side4=>exact HC1_0.out);rintro e w' ⟨rfl,⟨nd,rfl⟩⟩;refine ⟨_,rfl,?_⟩)|(go_at_call 51;(with_reducible refine (laws_sameInts.calls k _ _ l0_1 _ _ l1_1 t520 _ ?side1 ?side2 ?side3 ?side4 A5.out).mono ?_);(case side1=>repeat (first|exact (zW HR0_1.out (by repeat (first|(with_reducible first|exact HB.out|apply zD|apply zB|apply zC|refine zF ?_ GE517.out|refine zF ?_ GE518.out)|exact HB.out)))|apply zC_));(case side2=>exact HC0_1.out);(case side3=>repeat (first|exact (zW HR1_1.out (by repeat (first|(with_reducible first|exact HB.out|apply zD|apply zB|apply zC|refine zF ?_ GE517.out|refine zF ?_ GE518.out)|exact HB.out)))|apply zC_));(case side4=>exact HC1_1.out);rintro e w' ⟨rfl,⟨nd,rfl⟩⟩))
  go_ret
  exact ⟨by first|rfl|(simp [errW_none,errW_some] <;> rfl)|(simp [*,errW_none,errW_some] <;> rfl),by repeat (first|(with_reducible first|exact HB.out|apply zD|apply zB|apply zC|refine zF ?_ GE517.out|refine zF ?_ GE518.out)|exact HB.out)⟩
 ·replace c4:=Bool.eq_false_iff.mpr c4
  subst c4
  have H1:(some false) = some r:=by rw [if_neg (show ¬ (false = true) by decide)] at H;exact H
  clear H
  have H:=H1
  clear H1
  obtain rfl:=zS H
  go_enter Try.func23,Try.ntmps23
  go_wp2_with (first|((with_reducible refine gate_dst (N:=2) rfl ?_);refine box_event ?hg (N:=2) ?hd (cs:=#[.slice A0_0 l0_0.length c0_0,.slice A0_1 l0_1.length c0_1]) (t:=33) ?hr ?_;(case hd=>rfl);(case hg=>rfl);(case hr=>first|(go_simp;done)|(go_simp;rfl));intro gb517 hg w11 hbox hb;have n0_:=zA (zR (by exact zB_ HB.out) hb);have n1_:=zA (hbox);have n2_:=zA ((by rw [hg];exact (zQ (by exact zB_ HB.out)):w.heap.size≤gb517));have n3_:=zA ((by rw [hg];exact (zQ (by exact zB_ HB.out)):w.heap.size≤gb517));clear HB;have HB:=n0_;have BK517:=n1_;have GW517:=n2_;have GE517:=n3_;clear n0_ n1_ n2_ n3_;clear hb hbox hg)|((with_reducible refine gate_dst (N:=3) rfl ?_);refine box_event ?hg (N:=3) ?hd (cs:=#[.slice A1_0 l1_0.length c1_0,.slice A1_1 l1_1.length c1_1]) (t:=33) ?hr ?_;(case hd=>rfl);(case hg=>rfl);(case hr=>first|(go_simp;done)|(go_simp;rfl));intro gb518 hg w12 hbox hb;have n0_:=zA (zX (g:=gb517) (o:=.cells #[.slice A0_0 l0_0.length c0_0,.slice A0_1 l0_1.length c0_1] 33 (0,0)) (by (with_reducible repeat (first|refine zG ?_ _|refine zI ?_|refine zH ?_ _));exact BK517.out) hb);have n1_:=zA (zR (by repeat (first|(with_reducible first|exact HB.out|apply zD|apply zB|apply zC|refine zF ?_ GE517.out)|exact HB.out)) hb);have n2_:=zA (hbox);have n3_:=zA ((by rw [hg];exact (zQ (by repeat (first|(with_reducible first|exact HB.out|apply zD|apply zB|apply zC|refine zF ?_ GE517.out)|exact HB.out))):w.heap.size≤gb518));have n4_:=zA ((by rw [hg];exact (zQ (by repeat (first|(with_reducible first|exact HB.out|apply zD|apply zB|apply zC|refine zF ?_ GE517.out)|exact HB.out))):w.heap.size≤gb518));have n5_:=zA ((by rw [hg];exact Nat.ne_of_lt (blk_lt (g:=gb517) (o:=.cells #[.slice A0_0 l0_0.length c0_0,.slice A0_1 l0_1.length c0_1] 33 (0,0)) (by (with_reducible repeat (first|refine zG ?_ _|refine zI ?_|refine zH ?_ _));exact BK517.out)):gb517≠gb518));have n6_:=zA ((by rw [hg];exact Nat.ne_of_gt (blk_lt (g:=gb517) (o:=.cells #[.slice A0_0 l0_0.length c0_0,.slice A0_1 l0_1.length c0_1] 33 (0,0)) (by (with_reducible repeat (first|refine zG ?_ _|refine zI ?_|refine zH ?_ _));exact BK517.out)):gb518≠gb517));clear BK517;clear HB;have BK517:=n0_;have HB:=n1_;have BK518:=n2_;have GW518:=n3_;have GE518:=n4_;have NB517_518:=n5_;have NB518_517:=n6_;clear n0_ n1_ n2_ n3_ n4_ n5_ n6_;clear hb hbox hg;have hnb13:=NB517_518.out;have hnc13:=NB518_517.out;have hcz14_0:w12.cell? ⟨gb517,0,none⟩ = some (.slice A0_0 l0_0.length c0_0):=(zT BK517.out 0).trans rfl;have hcz14_1:w12.cell? ⟨gb517,1,none⟩ = some (.slice A0_1 l0_1.length c0_1):=(zT BK517.out 1).trans rfl;have hfz14_0:=zZ BK517.out 0;have hfz14_1:=zZ BK517.out 1;have hcz15_0:w12.cell? ⟨gb518,0,none⟩ = some (.slice A1_0 l1_0.length c1_0):=(zT BK518.out 0).trans rfl;have hcz15_1:w12.cell? ⟨gb518,1,none⟩ = some (.slice A1_1 l1_1.length c1_1):=(zT BK518.out 1).trans rfl;have hfz15_0:=zZ BK518.out 0;have hfz15_1:=zZ BK518.out 1)|((with_reducible refine gate_callee (f:=51) rfl ?_);refine goesL_ (some 9) rfl rfl Try.func51 (by kernel_rfl) rfl #[.slice A0_0 l0_0.length c0_0,.slice A1_0 l1_0.length c1_0] rfl (by (try simp only [zJ,zM,zN]);first|done|rfl|(simp only [zL,zK];rfl)) ?_;(with_reducible refine (laws_sameInts.calls k _ _ l0_0 _ _ l1_0 false _ ?side1 ?side2 ?side3 ?side4 A3.out).mono ?_);(case side1=>repeat (first|exact (zW HR0_0.out HB.out)|(with_reducible exact HR0_0.out)|apply zC_));(case side2=>exact HC0_0.out);(case side3=>repeat (first|exact (zW HR1_0.out HB.out)|(with_reducible exact HR1_0.out)|apply zC_));(case side4=>exact HC1_0.out);rintro e w' ⟨rfl,⟨nd,rfl⟩⟩;refine ⟨_,rfl,?_⟩))
  go_ret
  exact ⟨by first|rfl|(simp [errW_none,errW_some] <;> rfl)|(simp [*,errW_none,errW_some] <;> rfl),by repeat (first|(with_reducible first|exact HB.out|apply zD|apply zB|apply zC|refine zF ?_ GE517.out|refine zF ?_ GE518.out)|exact HB.out)⟩

/-! ### laws_sameMaps: function 20 -/
def laws_sameMaps.l0:Nat→List (S33)→List (S33)→Int→Option (Bool)
 | 0,_,_,_=>none
 | k+1,x0,x1,x5=>if x5 < (x0.length:Int) then (if 0≤x5 then (if x5 < (x1.length:Int) then ((laws_sameMap.f k ((rd_T33 x0 x5).f0) ((rd_T33 x0 x5).f1) ((rd_T33 x1 x5).f0) ((rd_T33 x1 x5).f1)).bind fun t523=>(if t523 = true then (laws_sameMaps.l0 k x0 x1 (wrap64 (x5+1))) else (some false))) else (none)) else (none)) else (some true)
def laws_sameMaps.f (k:Nat) (l0:List (S33)) (l1:List (S33)):Option (Bool):=if (l0.length:Int) = (l1.length:Int) then (laws_sameMaps.l0 k l0 l1 0) else (some false)
theorem laws_sameMaps.mono_l:∀ k,(∀ y0 y1 y2,LeO (laws_sameMaps.l0 k y0 y1 y2) (laws_sameMaps.l0 (k+1) y0 y1 y2))
 | 0=>fun _ _ _ r h=>by simp [laws_sameMaps.l0] at h
 | k+1=>by
  have ih0:=laws_sameMaps.mono_l k
  ·intro y0 y1 y2
   unfold laws_sameMaps.l0
   repeat' first
   | (with_reducible exact ih0 _ _ _)
   | (with_reducible exact laws_sameMap.mono _ _ _ _ _)
   | (with_reducible exact LeO.refl _)
   | (with_reducible exact za _)
   | (with_reducible refine zc ?_ ?_)
   | (with_reducible refine zb ?_ (fun _=>?_))
theorem laws_sameMaps.mono:∀ a0 a1 k,LeO (laws_sameMaps.f k a0 a1) (laws_sameMaps.f (k+1) a0 a1):=by
 intro a0 a1 k
 have ih0:=laws_sameMaps.mono_l k
 unfold laws_sameMaps.f
 repeat' first
   | (with_reducible exact ih0 _ _ _)
   | (with_reducible exact laws_sameMap.mono _ _ _ _ _)
   | (with_reducible exact LeO.refl _)
   | (with_reducible exact za _)
   | (with_reducible refine zc ?_ ?_)
   | (with_reducible refine zb ?_ (fun _=>?_))
def laws_sameMaps.T6:Bool × List (List Nat × List Nat):=(true,[([],[]),([],[]),([0,1],[0,1]),([2],[2]),([],[]),([],[]),([4,5],[4,5]),([6],[6]),([3,7],[3,7]),([8],[8])])
def laws_sameMaps.B6:List Nat:=[0,0,3,7,0,0,48,112,255,511]
theorem laws_sameMaps.tab6:rtab .any (opsOf Try.f20 6) = laws_sameMaps.T6:=by kernel_rfl
theorem laws_sameMaps.bits6:waitsOk laws_sameMaps.T6.2 laws_sameMaps.B6 = true:=by kernel_rfl
set_option maxHeartbeats 8000000 in
set_option maxRecDepth 100000 in
theorem laws_sameMaps.calls (k:Nat) (A0:Option Addr) (c0:Nat) (l0:List (S33)) (A1:Option Addr) (c1:Nat) (l1:List (S33)) (r:Bool) (w:World) (hr0:Kd.C k33 w A0 l0.length l0) (hc0:l0.length≤c0) (hr1:Kd.C k33 w A1 l1.length l1) (hc1:l1.length≤c1) (h:laws_sameMaps.f k l0 l1 = some r) :
  Calls Try.prog 20 #[.slice A0 l0.length c0,.slice A1 l1.length c1] w fun e w'=>e = .returned (.bool r)∧Below w.heap.size w w':=by
 have hu33:=Try.underlying33
 have HR0:=zA hr0
 have HC0:=zA hc0
 clear hr0 hc0
 have HR1:=zA hr1
 have HC1:=zA hc1
 clear hr1 hc1
 have HB:=zA (Below.refl w.heap.size w)
 have H:(if (l0.length:Int) = (l1.length:Int) then (laws_sameMaps.l0 k l0 l1 0) else (some false)) = some r:=h
 clear h
 by_cases c3:(l0.length:Int) = (l1.length:Int)
 ·rw [if_pos c3] at H
  have c3b0:((l0.length:Int) == (l1.length:Int)) = true:=beq_iff_eq.mpr c3
  have c3b1:((l0.length:Int) != (l1.length:Int)) = false:=bne_eq_false_iff_eq.mpr c3
  have c3b2:(l0.length == l1.length) = true:=by first|simpa using c3|(simp at c3 ⊢;omega)
  clear c3
  have H':=zA H
  clear H
  go_enter Try.func20,Try.ntmps20
  go_wp2
  go_loopg [5] k (fun kq v5 w' => ∃ (x5_1:Int),v5 = .int .i64 x5_1∧Aside0 (laws_sameMaps.l0 kq l0 l1 x5_1 = some r)∧Aside0 (kq≤k)∧Aside0 (Below w.heap.size w w'))
  case atStart=>exact ⟨(0),(by first|rfl|(simp;done)|(simp [*];done)),H',⟨Nat.le_refl _⟩,⟨by exact zB_ HB.out⟩⟩
  case round =>
   clear H'
   (try clear c1);(try clear c2);(try clear p2);(try clear c3);(try clear c3b0);(try clear c3b1);(try clear c3b2)
   obtain ⟨x5_1,rfl,HA,HK1,HB⟩:=hrel
   cases gk with
   | zero=>exact absurd HA.out (by simp [laws_sameMaps.l0])
   | succ k1 =>
    have H:=HA.out
    clear HA
    simp only [laws_sameMaps.l0] at H
    by_cases c4:x5_1 < (l0.length:Int)
    ·rw [if_pos c4] at H
     have c4b0:decide (x5_1 < (l0.length:Int)) = true:=zO c4
     clear c4
     by_cases c5:0≤x5_1
     ·rw [if_pos c5] at H
      have c5b0:decide (0≤x5_1) = true:=zO c5
      clear c5
      by_cases c6:x5_1 < (l1.length:Int)
      ·rw [if_pos c6] at H
       have c6b0:decide (x5_1 < (l1.length:Int)) = true:=zO c6
       clear c6
       replace H:=zz0 H
       obtain ⟨t523,A70,H⟩:=H
       try dsimp only at H
       have A7:=zA A70
       clear A70
       by_cases c8:t523 = true
       ·subst c8
        rw [if_pos rfl] at H;try dsimp only at H
        have H':=zA H
        clear H
        try go_wp2
        have n0_:=zA (zC HB.out)
        clear HB
        have HB:=n0_
        clear n0_
        have p521:0≤(x5_1:Int):=zE (by with_reducible assumption)
        have q521:x5_1 < (l0.length:Int):=zE (by with_reducible assumption)
        obtain ⟨ad521,A521_0,c521_0,A521_1,c521_1,e521,hx521_0,hx521_1,hl521_0,hi521_0,hl521_1,hi521_1⟩:=at_T33 HR0.out x5_1 p521 q521
        have hw521_1:=hx521_1
        have hw521_0:=hx521_0
        cases e521
        replace hx521_0:=(HB.out.cell (zY w _ hx521_0)).trans hx521_0
        replace hx521_1:=(HB.out.cell (zY w _ hx521_1)).trans hx521_1
        have HR521_0:=zA hi521_0
        have HC521_0:=zA hl521_0
        clear hi521_0 hl521_0
        have HR521_1:=zA hi521_1
        have HC521_1:=zA hl521_1
        clear hi521_1 hl521_1
        replace p521:=eq_true p521
        replace q521:=eq_true q521
        have p522:0≤(x5_1:Int):=zE (by with_reducible assumption)
        have q522:x5_1 < (l1.length:Int):=zE (by with_reducible assumption)
        obtain ⟨ad522,A522_0,c522_0,A522_1,c522_1,e522,hx522_0,hx522_1,hl522_0,hi522_0,hl522_1,hi522_1⟩:=at_T33 HR1.out x5_1 p522 q522
        have hw522_1:=hx522_1
        have hw522_0:=hx522_0
        cases e522
        replace hx522_0:=(HB.out.cell (zY w _ hx522_0)).trans hx522_0
        replace hx522_1:=(HB.out.cell (zY w _ hx522_1)).trans hx522_1
        have HR522_0:=zA hi522_0
        have HC522_0:=zA hl522_0
        clear hi522_0 hl522_0
        have HR522_1:=zA hi522_1
        have HC522_1:=zA hl522_1
        clear hi522_1 hl522_1
        replace p522:=eq_true p522
        replace q522:=eq_true q522
        refine start_ (n:=10) (S:=fun w'=>w'.cell? (ad521.add ((x5_1).toNat * 2)) = some (.slice A521_0 ((rd_T33 l0 x5_1).f0).length c521_0)∧w'.cell? ⟨(ad521.add ((x5_1).toNat * 2)).block,(ad521.add ((x5_1).toNat * 2)).off+1,none⟩ = some (.slice A521_1 ((rd_T33 l0 x5_1).f1).length c521_1)∧w'.cell? (ad522.add ((x5_1).toNat * 2)) = some (.slice A522_0 ((rd_T33 l1 x5_1).f0).length c522_0)∧w'.cell? ⟨(ad522.add ((x5_1).toNat * 2)).block,(ad522.add ((x5_1).toNat * 2)).off+1,none⟩ = some (.slice A522_1 ((rd_T33 l1 x5_1).f1).length c522_1)) (ds:=[]) #[zf,zf,zf,zf,zf,zf,zf,zf,zf,zf] (by kernel_rfl) rfl rfl ⟨((HB.out.cell (zY w _ hw521_0)).trans hw521_0),((HB.out.cell (zY w _ hw521_1)).trans hw521_1),((HB.out.cell (zY w _ hw522_0)).trans hw522_0),((HB.out.cell (zY w _ hw522_1)).trans hw522_1)⟩ (fun hHeld=>?_);refine with_tabW laws_sameMaps.tab6 laws_sameMaps.bits6 (fun HT_ HW_=>?_)
        generalize wr.drew = w9 at HB HR521_0 HR521_1 HR522_0 HR522_1 hx521_0 hx521_1 hx522_0 hx522_1 hHeld ⊢
        refine pure_ (i:=0) (N:=some 17) (v:=?_) (a':=?_) #[zt,zf,zf,zf,zf,zf,zf,zf,zf,zf] rfl rfl (any_of HT_.out (by kernel_rfl)) (fun _ _ _ h=>h) (Or.inl ⟨by rfl,?_⟩) ?_ ?_
        rotate_left
        ·intro w'
         go_simp
         with_reducible rfl
        rotate_left
        ·simp only [Act.put,zP_,i64_w]
         rfl
        refine pure_ (i:=1) (N:=some 18) (v:=?_) (a':=?_) #[zt,zt,zf,zf,zf,zf,zf,zf,zf,zf] rfl rfl (any_of HT_.out (by kernel_rfl)) (fun _ _ _ h=>h) (Or.inl ⟨by rfl,?_⟩) ?_ ?_
        rotate_left
        ·intro w'
         go_simp
         with_reducible rfl
        rotate_left
        ·simp only [Act.put,zP_,i64_w]
         rfl
        refine pure_ (i:=2) (N:=some 19) (v:=?_) (a':=?_) #[zt,zt,zt,zf,zf,zf,zf,zf,zf,zf] rfl rfl (any_of HT_.out (by kernel_rfl)) (fun _ _ _ h=>h) (Or.inl ⟨by rfl,?_⟩) ?_ ?_
        rotate_left
        ·intro w'
         go_simp
         with_reducible rfl
        rotate_left
        ·simp only [Act.put,zP_,i64_w]
         rfl
        refine pure_ (i:=4) (N:=some 21) (v:=?_) (a':=?_) #[zt,zt,zt,zf,zt,zf,zf,zf,zf,zf] rfl rfl (any_of HT_.out (by kernel_rfl)) (fun _ _ _ h=>h) (Or.inl ⟨by rfl,?_⟩) ?_ ?_
        rotate_left
        ·intro w'
         go_simp
         with_reducible rfl
        rotate_left
        ·simp only [Act.put,zP_,i64_w]
         rfl
        refine pure_ (i:=5) (N:=some 22) (v:=?_) (a':=?_) #[zt,zt,zt,zf,zt,zt,zf,zf,zf,zf] rfl rfl (any_of HT_.out (by kernel_rfl)) (fun _ _ _ h=>h) (Or.inl ⟨by rfl,?_⟩) ?_ ?_
        rotate_left
        ·intro w'
         go_simp
         with_reducible rfl
        rotate_left
        ·simp only [Act.put,zP_,i64_w]
         rfl
        refine pure_ (i:=6) (N:=some 23) (v:=?_) (a':=?_) #[zt,zt,zt,zf,zt,zt,zt,zf,zf,zf] rfl rfl (any_of HT_.out (by kernel_rfl)) (fun _ _ _ h=>h) (Or.inl ⟨by rfl,?_⟩) ?_ ?_
        rotate_left
        ·intro w'
         go_simp
         with_reducible rfl
        rotate_left
        ·simp only [Act.put,zP_,i64_w]
         rfl
        refine take_ (i:=3) (N:=some 20) (v:=?_) (a':=?_) #[zt,zt,zt,zt,zt,zt,zt,zf,zf,zf] rfl rfl (take_ofW HT_.out HW_.out (by kernel_rfl)) (fun _ _ _ h=>h) (Or.inl ⟨by rfl,?_⟩) hHeld ?_ ?_
        rotate_left
        ·rintro w' ⟨s0,s1,s2,s3⟩
         go_simp
         with_reducible rfl
        rotate_left
        ·simp only [Act.put,zP_,i64_w]
         rfl
        refine take_ (i:=7) (N:=some 24) (v:=?_) (a':=?_) #[zt,zt,zt,zt,zt,zt,zt,zt,zf,zf] rfl rfl (take_ofW HT_.out HW_.out (by kernel_rfl)) (fun _ _ _ h=>h) (Or.inl ⟨by rfl,?_⟩) hHeld ?_ ?_
        rotate_left
        ·rintro w' ⟨s0,s1,s2,s3⟩
         go_simp
         with_reducible rfl
        rotate_left
        ·simp only [Act.put,zP_,i64_w]
         rfl
        refine one_ (i:=8) (N:=some 25) #[zt,zt,zt,zt,zt,zt,zt,zt,zt,zf] rfl rfl (one_of HT_.out (by kernel_rfl)) (by decide) (fun K hK=>?_)
        refine goes_ Try.func23 (by kernel_rfl) rfl #[.agg #[.slice A521_0 ((rd_T33 l0 x5_1).f0).length c521_0,.slice A521_1 ((rd_T33 l0 x5_1).f1).length c521_1],.agg #[.slice A522_0 ((rd_T33 l1 x5_1).f0).length c522_0,.slice A522_1 ((rd_T33 l1 x5_1).f1).length c522_1]] (by rfl) rfl rfl (by (try simp only [zJ,zM,zN]);first|done|rfl|(simp only [zL,zK];rfl)) ?_
        with_reducible refine (laws_sameMap.calls k1 _ _ ((rd_T33 l0 x5_1).f0) _ _ ((rd_T33 l0 x5_1).f1) _ _ ((rd_T33 l1 x5_1).f0) _ _ ((rd_T33 l1 x5_1).f1) true _ ?side1 ?side2 ?side3 ?side4 ?side5 ?side6 ?side7 ?side8 A7.out).mono ?_
        (case side1=>repeat (first|exact (zW HR521_0.out HB.out)|(with_reducible exact HR521_0.out)|apply zC_))
        (case side2=>exact HC521_0.out)
        (case side3=>repeat (first|exact (zW HR521_1.out HB.out)|(with_reducible exact HR521_1.out)|apply zC_))
        (case side4=>exact HC521_1.out)
        (case side5=>repeat (first|exact (zW HR522_0.out HB.out)|(with_reducible exact HR522_0.out)|apply zC_))
        (case side6=>exact HC522_0.out)
        (case side7=>repeat (first|exact (zW HR522_1.out HB.out)|(with_reducible exact HR522_1.out)|apply zC_))
        (case side8=>exact HC522_1.out)
        rintro e w10 ⟨rfl,hb⟩
        refine ⟨_,rfl,?_⟩
        have n0_:=zA (zR (by exact zB_ HB.out) hb)
        clear HB
        have HB:=n0_
        clear n0_
        (try clear hb);(try clear hb2);(try clear hk);(try clear hi)
        refine hK.out _ _ ⟨((HB.out.cell (zY w _ hw521_0)).trans hw521_0),((HB.out.cell (zY w _ hw521_1)).trans hw521_1),((HB.out.cell (zY w _ hw522_0)).trans hw522_0),((HB.out.cell (zY w _ hw522_1)).trans hw522_1)⟩ (fun hHeld=>?_)
        clear hK K
        refine norm_ (a':=?_) ?_ ?_
        rotate_left
        ·show Act.put _ (some 25) _ = _
         simp only [Act.put,zP_,i64_w]
         rfl
        refine pure_ (i:=9) (N:=some 26) (v:=?_) (a':=?_) #[zt,zt,zt,zt,zt,zt,zt,zt,zt,zt] rfl rfl (any_of HT_.out (by kernel_rfl)) (fun _ _ _ h=>h) (Or.inl ⟨by rfl,?_⟩) ?_ ?_
        rotate_left
        ·intro w'
         go_simp
         with_reducible rfl
        rotate_left
        ·simp only [Act.put,zP_,i64_w]
         rfl
        refine done_ (done_of HT_.out (by kernel_rfl)) ?_
        try go_wp2
        go_roundg k1
        case measure=>have:=HK1.out;omega
        case rel=>exact ⟨(wrap64 (x5_1+1)),(by first|rfl|(simp;done)|(simp [*];done)),H',⟨by have:=HK1.out;omega⟩,⟨by exact zB_ HB.out⟩⟩
       ·replace c8:=Bool.eq_false_iff.mpr c8
        subst c8
        have H1:(some false) = some r:=by rw [if_neg (show ¬ (false = true) by decide)] at H;exact H
        clear H
        have H:=H1
        clear H1
        obtain rfl:=zS H
        try go_wp2
        have n0_:=zA (zC HB.out)
        clear HB
        have HB:=n0_
        clear n0_
        have p521:0≤(x5_1:Int):=zE (by with_reducible assumption)
        have q521:x5_1 < (l0.length:Int):=zE (by with_reducible assumption)
        obtain ⟨ad521,A521_0,c521_0,A521_1,c521_1,e521,hx521_0,hx521_1,hl521_0,hi521_0,hl521_1,hi521_1⟩:=at_T33 HR0.out x5_1 p521 q521
        have hw521_1:=hx521_1
        have hw521_0:=hx521_0
        cases e521
        replace hx521_0:=(HB.out.cell (zY w _ hx521_0)).trans hx521_0
        replace hx521_1:=(HB.out.cell (zY w _ hx521_1)).trans hx521_1
        have HR521_0:=zA hi521_0
        have HC521_0:=zA hl521_0
        clear hi521_0 hl521_0
        have HR521_1:=zA hi521_1
        have HC521_1:=zA hl521_1
        clear hi521_1 hl521_1
        replace p521:=eq_true p521
        replace q521:=eq_true q521
        have p522:0≤(x5_1:Int):=zE (by with_reducible assumption)
        have q522:x5_1 < (l1.length:Int):=zE (by with_reducible assumption)
        obtain ⟨ad522,A522_0,c522_0,A522_1,c522_1,e522,hx522_0,hx522_1,hl522_0,hi522_0,hl522_1,hi522_1⟩:=at_T33 HR1.out x5_1 p522 q522
        have hw522_1:=hx522_1
        have hw522_0:=hx522_0
        cases e522
        replace hx522_0:=(HB.out.cell (zY w _ hx522_0)).trans hx522_0
        replace hx522_1:=(HB.out.cell (zY w _ hx522_1)).trans hx522_1
        have HR522_0:=zA hi522_0
        have HC522_0:=zA hl522_0
        clear hi522_0 hl522_0
        have HR522_1:=zA hi522_1
        have HC522_1:=zA hl522_1
        clear hi522_1 hl522_1
        replace p522:=eq_true p522
        replace q522:=eq_true q522
        refine start_ (n:=10) (S:=fun w'=>w'.cell? (ad521.add ((x5_1).toNat * 2)) = some (.slice A521_0 ((rd_T33 l0 x5_1).f0).length c521_0)∧w'.cell? ⟨(ad521.add ((x5_1).toNat * 2)).block,(ad521.add ((x5_1).toNat * 2)).off+1,none⟩ = some (.slice A521_1 ((rd_T33 l0 x5_1).f1).length c521_1)∧w'.cell? (ad522.add ((x5_1).toNat * 2)) = some (.slice A522_0 ((rd_T33 l1 x5_1).f0).length c522_0)∧w'.cell? ⟨(ad522.add ((x5_1).toNat * 2)).block,(ad522.add ((x5_1).toNat * 2)).off+1,none⟩ = some (.slice A522_1 ((rd_T33 l1 x5_1).f1).length c522_1)) (ds:=[]) #[zf,zf,zf,zf,zf,zf,zf,zf,zf,zf] (by kernel_rfl) rfl rfl ⟨((HB.out.cell (zY w _ hw521_0)).trans hw521_0),((HB.out.cell (zY w _ hw521_1)).trans hw521_1),((HB.out.cell (zY w _ hw522_0)).trans hw522_0),((HB.out.cell (zY w _ hw522_1)).trans hw522_1)⟩ (fun hHeld=>?_);refine with_tabW laws_sameMaps.tab6 laws_sameMaps.bits6 (fun HT_ HW_=>?_)
        generalize wr.drew = w11 at HB HR521_0 HR521_1 HR522_0 HR522_1 hx521_0 hx521_1 hx522_0 hx522_1 hHeld ⊢
        refine pure_ (i:=0) (N:=some 17) (v:=?_) (a':=?_) #[zt,zf,zf,zf,zf,zf,zf,zf,zf,zf] rfl rfl (any_of HT_.out (by kernel_rfl)) (fun _ _ _ h=>h) (Or.inl ⟨by rfl,?_⟩) ?_ ?_
        rotate_left
        ·intro w'
         go_simp
         with_reducible rfl
        rotate_left
        ·simp only [Act.put,zP_,i64_w]
         rfl
        refine pure_ (i:=1) (N:=some 18) (v:=?_) (a':=?_) #[zt,zt,zf,zf,zf,zf,zf,zf,zf,zf] rfl rfl (any_of HT_.out (by kernel_rfl)) (fun _ _ _ h=>h) (Or.inl ⟨by rfl,?_⟩) ?_ ?_
        rotate_left
        ·intro w'
         go_simp
         with_reducible rfl
        rotate_left
        ·simp only [Act.put,zP_,i64_w]
         rfl
        refine pure_ (i:=2) (N:=some 19) (v:=?_) (a':=?_) #[zt,zt,zt,zf,zf,zf,zf,zf,zf,zf] rfl rfl (any_of HT_.out (by kernel_rfl)) (fun _ _ _ h=>h) (Or.inl ⟨by rfl,?_⟩) ?_ ?_
        rotate_left
        ·intro w'
         go_simp
         with_reducible rfl
        rotate_left
        ·simp only [Act.put,zP_,i64_w]
         rfl
        refine pure_ (i:=4) (N:=some 21) (v:=?_) (a':=?_) #[zt,zt,zt,zf,zt,zf,zf,zf,zf,zf] rfl rfl (any_of HT_.out (by kernel_rfl)) (fun _ _ _ h=>h) (Or.inl ⟨by rfl,?_⟩) ?_ ?_
        rotate_left
        ·intro w'
         go_simp
         with_reducible rfl
        rotate_left
        ·simp only [Act.put,zP_,i64_w]
         rfl
        refine pure_ (i:=5) (N:=some 22) (v:=?_) (a':=?_) #[zt,zt,zt,zf,zt,zt,zf,zf,zf,zf] rfl rfl (any_of HT_.out (by kernel_rfl)) (fun _ _ _ h=>h) (Or.inl ⟨by rfl,?_⟩) ?_ ?_
        rotate_left
        ·intro w'
         go_simp
         with_reducible rfl
        rotate_left
        ·simp only [Act.put,zP_,i64_w]
         rfl
        refine pure_ (i:=6) (N:=some 23) (v:=?_) (a':=?_) #[zt,zt,zt,zf,zt,zt,zt,zf,zf,zf] rfl rfl (any_of HT_.out (by kernel_rfl)) (fun _ _ _ h=>h) (Or.inl ⟨by rfl,?_⟩) ?_ ?_
        rotate_left
        ·intro w'
         go_simp
         with_reducible rfl
        rotate_left
        ·simp only [Act.put,zP_,i64_w]
         rfl
        refine take_ (i:=3) (N:=some 20) (v:=?_) (a':=?_) #[zt,zt,zt,zt,zt,zt,zt,zf,zf,zf] rfl rfl (take_ofW HT_.out HW_.out (by kernel_rfl)) (fun _ _ _ h=>h) (Or.inl ⟨by rfl,?_⟩) hHeld ?_ ?_
        rotate_left
        ·rintro w' ⟨s0,s1,s2,s3⟩
         go_simp
         with_reducible rfl
        rotate_left
        ·simp only [Act.put,zP_,i64_w]
         rfl
        refine take_ (i:=7) (N:=some 24) (v:=?_) (a':=?_) #[zt,zt,zt,zt,zt,zt,zt,zt,zf,zf] rfl rfl (take_ofW HT_.out HW_.out (by kernel_rfl)) (fun _ _ _ h=>h) (Or.inl ⟨by rfl,?_⟩) hHeld ?_ ?_
        rotate_left
        ·rintro w' ⟨s0,s1,s2,s3⟩
         go_simp
         with_reducible rfl
        rotate_left
        ·simp only [Act.put,zP_,i64_w]
         rfl
        refine one_ (i:=8) (N:=some 25) #[zt,zt,zt,zt,zt,zt,zt,zt,zt,zf] rfl rfl (one_of HT_.out (by kernel_rfl)) (by decide) (fun K hK=>?_)
        refine goes_ Try.func23 (by kernel_rfl) rfl #[.agg #[.slice A521_0 ((rd_T33 l0 x5_1).f0).length c521_0,.slice A521_1 ((rd_T33 l0 x5_1).f1).length c521_1],.agg #[.slice A522_0 ((rd_T33 l1 x5_1).f0).length c522_0,.slice A522_1 ((rd_T33 l1 x5_1).f1).length c522_1]] (by rfl) rfl rfl (by (try simp only [zJ,zM,zN]);first|done|rfl|(simp only [zL,zK];rfl)) ?_
        with_reducible refine (laws_sameMap.calls k1 _ _ ((rd_T33 l0 x5_1).f0) _ _ ((rd_T33 l0 x5_1).f1) _ _ ((rd_T33 l1 x5_1).f0) _ _ ((rd_T33 l1 x5_1).f1) false _ ?side1 ?side2 ?side3 ?side4 ?side5 ?side6 ?side7 ?side8 A7.out).mono ?_
        (case side1=>repeat (first|exact (zW HR521_0.out HB.out)|(with_reducible exact HR521_0.out)|apply zC_))
        (case side2=>exact HC521_0.out)
        (case side3=>repeat (first|exact (zW HR521_1.out HB.out)|(with_reducible exact HR521_1.out)|apply zC_))
        (case side4=>exact HC521_1.out)
        (case side5=>repeat (first|exact (zW HR522_0.out HB.out)|(with_reducible exact HR522_0.out)|apply zC_))
        (case side6=>exact HC522_0.out)
        (case side7=>repeat (first|exact (zW HR522_1.out HB.out)|(with_reducible exact HR522_1.out)|apply zC_))
        (case side8=>exact HC522_1.out)
        rintro e w12 ⟨rfl,hb⟩
        refine ⟨_,rfl,?_⟩
        have n0_:=zA (zR (by exact zB_ HB.out) hb)
        clear HB
        have HB:=n0_
        clear n0_
        (try clear hb);(try clear hb2);(try clear hk);(try clear hi)
        refine hK.out _ _ ⟨((HB.out.cell (zY w _ hw521_0)).trans hw521_0),((HB.out.cell (zY w _ hw521_1)).trans hw521_1),((HB.out.cell (zY w _ hw522_0)).trans hw522_0),((HB.out.cell (zY w _ hw522_1)).trans hw522_1)⟩ (fun hHeld=>?_)
        clear hK K
        refine norm_ (a':=?_) ?_ ?_
        rotate_left
        ·show Act.put _ (some 25) _ = _
         simp only [Act.put,zP_,i64_w]
         rfl
        refine pure_ (i:=9) (N:=some 26) (v:=?_) (a':=?_) #[zt,zt,zt,zt,zt,zt,zt,zt,zt,zt] rfl rfl (any_of HT_.out (by kernel_rfl)) (fun _ _ _ h=>h) (Or.inl ⟨by rfl,?_⟩) ?_ ?_
        rotate_left
        ·intro w'
         go_simp
         with_reducible rfl
        rotate_left
        ·simp only [Act.put,zP_,i64_w]
         rfl
        refine done_ (done_of HT_.out (by kernel_rfl)) ?_
        try go_wp2
        go_ret
        exact ⟨by first|rfl|(simp [errW_none,errW_some] <;> rfl)|(simp [*,errW_none,errW_some] <;> rfl),by exact zB_ HB.out⟩
      ·rw [if_neg c6] at H
       exact absurd H (by simp)
     ·rw [if_neg c5] at H
      exact absurd H (by simp)
    ·rw [if_neg c4] at H
     have c4b0:decide (x5_1 < (l0.length:Int)) = false:=zP c4
     clear c4
     obtain rfl:=zS H
     go_wp2
     go_ret
     exact ⟨by first|rfl|(simp [errW_none,errW_some] <;> rfl)|(simp [*,errW_none,errW_some] <;> rfl),by exact zB_ HB.out⟩
 ·rw [if_neg c3] at H
  have c3b0:((l0.length:Int) == (l1.length:Int)) = false:=beq_eq_false_iff_ne.mpr c3
  have c3b1:((l0.length:Int) != (l1.length:Int)) = true:=bne_iff_ne.mpr c3
  have c3b2:(l0.length == l1.length) = false:=by first|simpa using c3|(simp at c3 ⊢;omega)
  obtain rfl:=zS H
  go_enter Try.func20,Try.ntmps20
  go_wp2
  go_ret
  exact ⟨by first|rfl|(simp [errW_none,errW_some] <;> rfl)|(simp [*,errW_none,errW_some] <;> rfl),by exact zB_ HB.out⟩

/-! ### impl_back: function 82 -/
def impl_back.l0:Nat→List Int→List Int→Int→Int→Option (List Int)
 | 0,_,_,_,_=>none
 | k+1,x3,x9,x10,x11=>if x11 < x10 then (if 0≤x11 then (if x11 < (x9.length:Int) then (if 0≤(rd x9 x11) then (if (rd x9 x11) < (x3.length:Int) then (impl_back.l0 k (x3.set ((rd x9 x11):Int).toNat x11) x9 x10 (wrap64 (x11+1))) else (none)) else (none)) else (none)) else (none)) else (some x3)
def impl_back.f (k:Nat) (l0:List Int):Option (List Int):=if 0≤(l0.length:Int) then (if ((l0.length:Int):Int).toNat≤35184372088832 then (impl_back.l0 k (List.replicate ((l0.length:Int):Int).toNat 0) l0 (l0.length:Int) 0) else (none)) else (none)
theorem impl_back.mono_l:∀ k,(∀ y0 y1 y2 y3,LeO (impl_back.l0 k y0 y1 y2 y3) (impl_back.l0 (k+1) y0 y1 y2 y3))
 | 0=>fun _ _ _ _ r h=>by simp [impl_back.l0] at h
 | k+1=>by
  have ih0:=impl_back.mono_l k
  ·intro y0 y1 y2 y3
   unfold impl_back.l0
   repeat' first
   | (with_reducible exact ih0 _ _ _ _)
   | (with_reducible exact LeO.refl _)
   | (with_reducible exact za _)
   | (with_reducible refine zc ?_ ?_)
   | (with_reducible refine zb ?_ (fun _=>?_))
theorem impl_back.mono:∀ a0 k,LeO (impl_back.f k a0) (impl_back.f (k+1) a0):=by
 intro a0 k
 have ih0:=impl_back.mono_l k
 unfold impl_back.f
 repeat' first
   | (with_reducible exact ih0 _ _ _ _)
   | (with_reducible exact LeO.refl _)
   | (with_reducible exact za _)
   | (with_reducible refine zc ?_ ?_)
   | (with_reducible refine zb ?_ (fun _=>?_))
set_option maxHeartbeats 8000000 in
set_option maxRecDepth 100000 in
theorem impl_back.calls (k:Nat) (A0:Option Addr) (c0:Nat) (l0:List Int) (r:List Int) (w:World) (hr0:Kd.C (Kd.int .i64) w A0 l0.length l0) (hc0:l0.length≤c0) (h:impl_back.f k l0 = some r) :
  Calls Try.prog 82 #[.slice A0 l0.length c0] w fun e w' => ∃ v0_:Value,e = .returned (v0_)∧Kd.R (Kd.int .i64) 3 w' w.heap.size (fun _=>True) v0_ r∧Below w.heap.size w w':=by
 have HR0:=zA hr0
 have HC0:=zA hc0
 clear hr0 hc0
 have HB:=zA (Below.refl w.heap.size w)
 have H:(if 0≤(l0.length:Int) then (if ((l0.length:Int):Int).toNat≤35184372088832 then (impl_back.l0 k (List.replicate ((l0.length:Int):Int).toNat 0) l0 (l0.length:Int) 0) else (none)) else (none)) = some r:=h
 clear h
 by_cases c2:0≤(l0.length:Int)
 ·rw [if_pos c2] at H
  have c2b0:=eq_true c2
  have c2b1:decide (0≤(l0.length:Int)) = true:=zO c2
  clear c2
  by_cases c3:((l0.length:Int):Int).toNat≤35184372088832
  ·rw [if_pos c3] at H
   have c3b0:=eq_true c3
   have c3b1:decide (((l0.length:Int):Int).toNat≤35184372088832) = true:=zO c3
   clear c3
   obtain ⟨y524,hy524⟩:∃ y_:List Int,y_ = (List.replicate ((l0.length:Int):Int).toNat 0):=⟨_,rfl⟩
   replace H:(impl_back.l0 k y524 l0 (l0.length:Int) 0) = some r:=by (try rw [hy524]);first|with_reducible exact H|with_reducible exact zS_ H|exact H
   have Ny524:=zA hy524
   clear hy524
   have H':=zA H
   clear H
   go_enter Try.func82,Try.ntmps82
   go_wp2_with (first|((with_reducible refine gate_dst (N:=8) rfl ?_);refine Kd.R_make (Kd.int .i64) _ 3 rfl (N:=8) rfl 31 _ _ rfl (l0.length:Int) rfl rfl Try.underlying31 (.int .i64 0) 8 info3 rfl (by decide) (by omega) 0 (ok:=fun _=>True) (okp:=fun _=>True) rfl (fun _ hk=>hk) trivial (zE (by with_reducible assumption)) (Nat.le_trans (Nat.mul_le_mul_right _ (zE (by with_reducible assumption):(l0.length:Int).toNat≤35184372088832)) (by omega)) (Below.refl _ _) (Nat.le_refl _) ?_;intro v525 w4 ho5 hb hg_ hnew_;clear hg_ hnew_;(first|rw [← Ny524.out] at ho5|(simp only [Int.reduceToNat] at ho5;rw [← Ny524.out] at ho5));have n0_:=zA (ze ho5 (zQ (by exact zB_ HB.out)));have n1_:=zA (zR (by exact zB_ HB.out) hb);clear HB;have HO526:=n0_;have HB:=n1_;clear n0_ n1_;clear hb ho5))
   go_loopg [11] k (fun kq v11 w' => ∃ (x3_1:List Int) (x11_1:Int),v11 = .int .i64 x11_1∧Aside0 (impl_back.l0 kq x3_1 l0 (l0.length:Int) x11_1 = some r)∧Aside0 (kq≤k)∧Aside0 (Kd.R (Kd.int .i64) 3 w' w.heap.size (fun _=>True) v525 x3_1)∧Aside0 (Below w.heap.size w w'))
   case atStart=>exact ⟨(y524),(0),(by first|rfl|(simp;done)|(simp [*];done)),H',⟨Nat.le_refl _⟩,⟨by apply zR_;exact HO526.out⟩,⟨by exact zB_ HB.out⟩⟩
   case round =>
    clear H'
    (try clear c2);(try clear c2b0);(try clear c2b1);(try clear p2);(try clear c3);(try clear c3b0);(try clear c3b1)
    obtain ⟨x3_1,x11_1,rfl,HA,HK1,HO_3,HB⟩:=hrel
    cases gk with
    | zero=>exact absurd HA.out (by simp [impl_back.l0])
    | succ k1 =>
     have H:=HA.out
     clear HA
     simp only [impl_back.l0] at H
     by_cases c6:x11_1 < (l0.length:Int)
     ·rw [if_pos c6] at H
      have c6b0:decide (x11_1 < (l0.length:Int)) = true:=zO c6
      clear c6
      by_cases c7:0≤x11_1
      ·rw [if_pos c7] at H
       have c7b0:decide (0≤x11_1) = true:=zO c7
       clear c7
       by_cases c8:x11_1 < (l0.length:Int)
       ·rw [if_pos c8] at H
        have c8b0:decide (x11_1 < (l0.length:Int)) = true:=zO c8
        clear c8
        by_cases c9:0≤(rd l0 x11_1)
        ·rw [if_pos c9] at H
         have c9b0:decide (0≤(rd l0 x11_1)) = true:=zO c9
         clear c9
         by_cases c10:(rd l0 x11_1) < (x3_1.length:Int)
         ·rw [if_pos c10] at H
          have c10b0:decide ((rd l0 x11_1) < (x3_1.length:Int)) = true:=zO c10
          clear c10
          obtain ⟨y528,hy528⟩:∃ y_:List Int,y_ = (x3_1.set ((rd l0 x11_1):Int).toNat x11_1):=⟨_,rfl⟩
          replace H:(impl_back.l0 k1 y528 l0 (l0.length:Int) (wrap64 (x11_1+1))) = some r:=by (try rw [hy528]);first|with_reducible exact H|with_reducible exact zS_ H|exact H
          have Ny528:=zA hy528
          clear hy528
          have H':=zA H
          clear H
          have p527:0≤(x11_1:Int):=zE (by with_reducible assumption)
          have q527:x11_1 < (l0.length:Int):=zE (by with_reducible assumption)
          obtain ⟨ad527,e527,hx527_0⟩:=Kd.at_int HR0.out x11_1 p527 q527
          cases e527
          replace hx527_0:=(HB.out.cell (zY w _ hx527_0)).trans hx527_0
          replace p527:=eq_true p527
          replace q527:=eq_true q527
          have p11:0≤((rd l0 x11_1):Int):=zE (by with_reducible assumption)
          have q11:((rd l0 x11_1):Int) < ((x3_1.length:Int):Int):=zE (by with_reducible assumption)
          obtain ⟨go11,co11,eo11,gb11,gl11,cl11,HG11⟩:=Kd.R_form HO_3.out (by omega)
          (first|cases eo11|(injection eo11 with ea_ en_ ec_;(first|subst ea_|(injection ea_ with ea_;subst ea_));subst ec_;clear en_))
          have GB11:=zA gb11
          have GG11:=zA HG11
          clear gb11 gl11 HG11
          obtain ⟨hx11_0,hf11_0⟩:=Kd.R_celln 0 HO_3.out ((rd l0 x11_1):Int) p11 q11
          replace p11:=eq_true p11
          replace q11:=eq_true q11
          have HP12:=Kd.R_putg HO_3.out ((rd l0 x11_1):Int) x11_1
          go_wp2_with (first|((with_reducible refine gate_store (t:=3) (p:=19) rfl ?_);refine store_event (t:=3) (p:=19) (v:=?vo_w13) (w1:=(wr.setCell ⟨go11,((rd l0 x11_1):Int).toNat,none⟩ (.int .i64 x11_1))) ?hg ?ho ?hn ?hr ?_;(case ho=>rfl);(case hg=>rfl);(case hn=>rfl);(case hr=>first|(go_simp;done)|(go_simp;rfl));intro w13 hw;have hg:wr.grownBy w13 (some go11):=(by rw [hw];exact HP12.2);have hp_:Kd.R (Kd.int .i64) 3 w13 w.heap.size (fun _=>True) (.slice (some ⟨go11,0,none⟩) x3_1.length co11) y528:=(by rw [hw,Ny528.out];exact HP12.1);clear HP12;have n0_:=zA (hp_);have n1_:=zA ((by rw [hw];exact zF (HB.out) GB11.out:Below w.heap.size w w13));clear HO_3;clear HB;have HO_3:=n0_;have HB:=n1_;clear n0_ n1_;clear hg hw hp_))
          go_roundg k1
          case measure=>have:=HK1.out;omega
          case rel=>exact ⟨(y528),(wrap64 (x11_1+1)),(by first|rfl|(simp;done)|(simp [*];done)),H',⟨by have:=HK1.out;omega⟩,⟨by apply zR_;exact HO_3.out⟩,⟨by exact zB_ HB.out⟩⟩
         ·rw [if_neg c10] at H
          exact absurd H (by simp)
        ·rw [if_neg c9] at H
         exact absurd H (by simp)
       ·rw [if_neg c8] at H
        exact absurd H (by simp)
      ·rw [if_neg c7] at H
       exact absurd H (by simp)
     ·rw [if_neg c6] at H
      have c6b0:decide (x11_1 < (l0.length:Int)) = false:=zP c6
      clear c6
      obtain rfl:=zS H
      go_wp2
      go_ret
      exact ⟨_,by first|rfl|(simp [errW_none,errW_some] <;> rfl)|(simp [*,errW_none,errW_some] <;> rfl),by apply zR_;exact HO_3.out,by exact zB_ HB.out⟩
  ·rw [if_neg c3] at H
   exact absurd H (by simp)
 ·rw [if_neg c2] at H
  exact absurd H (by simp)

/-! ### impl_renamed: function 47 -/
def impl_renamed.f (k:Nat) (l0_0:List Int) (l0_1:List Int) (l1:List Int):Option (List Int × List Int):=(impl_back.f k l1).bind fun t531=>((impl_mul.f k t531 l0_0).bind fun t534=>((impl_mul.f k t534 l1).bind fun t537=>((impl_back.f k l1).bind fun t540=>((impl_mul.f k t540 l0_1).bind fun t543=>((impl_mul.f k t543 l1).bind fun t546=>(some (t537,t546)))))))
theorem impl_renamed.mono:∀ a0 a1 a2 k,LeO (impl_renamed.f k a0 a1 a2) (impl_renamed.f (k+1) a0 a1 a2):=by
 intro a0 a1 a2 k
 unfold impl_renamed.f
 repeat' first
   | (with_reducible exact impl_back.mono _ _)
   | (with_reducible exact impl_mul.mono _ _ _)
   | (with_reducible exact LeO.refl _)
   | (with_reducible exact za _)
   | (with_reducible refine zc ?_ ?_)
   | (with_reducible refine zb ?_ (fun _=>?_))
def impl_renamed.T1:Bool × List (List Nat × List Nat):=(true,[([],[]),([0],[0]),([],[]),([2],[2]),([1,3,1],[1,3]),([],[]),([4,5,4],[4,5]),([],[]),([7,6],[7]),([],[]),([9],[9]),([8,10,8],[8,10]),([],[]),([11,12,11],[11,12]),([6,13],[6,13]),([14,13,0,1,2,3,4,5,6,7,8,9,10,11,12,13,14],[14])])
def impl_renamed.B1:List Nat:=[0,1,0,4,15,0,63,0,255,0,512,2047,0,8191,16383,32767]
theorem impl_renamed.tab1:rtab .any (opsOf Try.f47 1) = impl_renamed.T1:=by kernel_rfl
theorem impl_renamed.bits1:waitsOk impl_renamed.T1.2 impl_renamed.B1 = true:=by kernel_rfl
set_option maxHeartbeats 8000000 in
set_option maxRecDepth 100000 in
theorem impl_renamed.calls (k:Nat) (A0_0:Option Addr) (c0_0:Nat) (l0_0:List Int) (A0_1:Option Addr) (c0_1:Nat) (l0_1:List Int) (A1:Option Addr) (c1:Nat) (l1:List Int) (r1:List Int) (r2:List Int) (w:World) (hr0_0:Kd.C (Kd.int .i64) w A0_0 l0_0.length l0_0) (hc0_0:l0_0.length≤c0_0) (hr0_1:Kd.C (Kd.int .i64) w A0_1 l0_1.length l0_1) (hc0_1:l0_1.length≤c0_1) (hr1:Kd.C (Kd.int .i64) w A1 l1.length l1) (hc1:l1.length≤c1) (h:impl_renamed.f k l0_0 l0_1 l1 = some (r1,r2)) :
  Calls Try.prog 47 #[.agg #[.slice A0_0 l0_0.length c0_0,.slice A0_1 l0_1.length c0_1],.slice A1 l1.length c1] w fun e w' => ∃ v0_ v1_:Value,e = .returned (.agg #[v0_,v1_])∧Kd.R (Kd.int .i64) 3 w' w.heap.size (fun k_=>some k_≠(v1_:Value).ownBlock) v0_ r1∧Kd.R (Kd.int .i64) 3 w' w.heap.size (fun k_=>some k_≠(v0_:Value).ownBlock) v1_ r2∧Below w.heap.size w w':=by
 have hu33:=Try.underlying33
 have HR0_0:=zA hr0_0
 have HC0_0:=zA hc0_0
 clear hr0_0 hc0_0
 have HR0_1:=zA hr0_1
 have HC0_1:=zA hc0_1
 clear hr0_1 hc0_1
 have HR1:=zA hr1
 have HC1:=zA hc1
 clear hr1 hc1
 have HB:=zA (Below.refl w.heap.size w)
 have H:((impl_back.f k l1).bind fun t531=>((impl_mul.f k t531 l0_0).bind fun t534=>((impl_mul.f k t534 l1).bind fun t537=>((impl_back.f k l1).bind fun t540=>((impl_mul.f k t540 l0_1).bind fun t543=>((impl_mul.f k t543 l1).bind fun t546=>(some (t537,t546)))))))) = some (r1,r2):=h
 clear h
 replace H:=zz0 H
 obtain ⟨t531,A30,H⟩:=H
 try dsimp only at H
 have A3:=zA A30
 clear A30
 replace H:=zz0 H
 obtain ⟨t534,A40,H⟩:=H
 try dsimp only at H
 have A4:=zA A40
 clear A40
 replace H:=zz0 H
 obtain ⟨t537,A50,H⟩:=H
 try dsimp only at H
 have A5:=zA A50
 clear A50
 replace H:=zz0 H
 obtain ⟨t540,A60,H⟩:=H
 try dsimp only at H
 have A6:=zA A60
 clear A60
 replace H:=zz0 H
 obtain ⟨t543,A70,H⟩:=H
 try dsimp only at H
 have A7:=zA A70
 clear A70
 replace H:=zz0 H
 obtain ⟨t546,A80,H⟩:=H
 try dsimp only at H
 have A8:=zA A80
 clear A80
 simp only [Option.some.injEq,Prod.mk.injEq] at H
 obtain ⟨rfl,rfl⟩:=H
 go_enter Try.func47,Try.ntmps47
 try go_wp2_with (first|((with_reducible refine gate_dst (N:=2) rfl ?_);refine box_event ?hg (N:=2) ?hd (cs:=#[.slice A0_0 l0_0.length c0_0,.slice A0_1 l0_1.length c0_1]) (t:=33) ?hr ?_;(case hd=>rfl);(case hg=>rfl);(case hr=>first|(go_simp;done)|(go_simp;rfl));intro gb529 hg w9 hbox hb;have n0_:=zA (zR (by exact zB_ HB.out) hb);have n1_:=zA (hbox);have n2_:=zA ((by rw [hg];exact (zQ (by exact zB_ HB.out)):w.heap.size≤gb529));have n3_:=zA ((by rw [hg];exact (zQ (by exact zB_ HB.out)):w.heap.size≤gb529));clear HB;have HB:=n0_;have BK529:=n1_;have GW529:=n2_;have GE529:=n3_;clear n0_ n1_ n2_ n3_;clear hb hbox hg)|((with_reducible refine gate_dst (N:=4) rfl ?_);refine box_event ?hg (N:=4) ?hd (cs:=#[.slice none 0 0,.slice none 0 0]) (t:=33) ?hr ?_;(case hd=>rfl);(case hg=>rfl);(case hr=>first|(go_simp;done)|(go_simp;rfl));intro gb530 hg w10 hbox hb;have n0_:=zA (zX (g:=gb529) (o:=.cells #[.slice A0_0 l0_0.length c0_0,.slice A0_1 l0_1.length c0_1] 33 (0,0)) (by (with_reducible repeat (first|refine zG ?_ _|refine zI ?_|refine zH ?_ _));exact BK529.out) hb);have n1_:=zA (zR (by repeat (first|(with_reducible first|exact HB.out|apply zD|apply zB|apply zC|refine zF ?_ GE529.out)|exact HB.out)) hb);have n2_:=zA (hbox);have n3_:=zA ((by rw [hg];exact (zQ (by repeat (first|(with_reducible first|exact HB.out|apply zD|apply zB|apply zC|refine zF ?_ GE529.out)|exact HB.out))):w.heap.size≤gb530));have n4_:=zA ((by rw [hg];exact (zQ (by repeat (first|(with_reducible first|exact HB.out|apply zD|apply zB|apply zC|refine zF ?_ GE529.out)|exact HB.out))):w.heap.size≤gb530));have n5_:=zA ((by rw [hg];exact Nat.ne_of_lt (blk_lt (g:=gb529) (o:=.cells #[.slice A0_0 l0_0.length c0_0,.slice A0_1 l0_1.length c0_1] 33 (0,0)) (by (with_reducible repeat (first|refine zG ?_ _|refine zI ?_|refine zH ?_ _));exact BK529.out)):gb529≠gb530));have n6_:=zA ((by rw [hg];exact Nat.ne_of_gt (blk_lt (g:=gb529) (o:=.cells #[.slice A0_0 l0_0.length c0_0,.slice A0_1 l0_1.length c0_1] 33 (0,0)) (by (with_reducible repeat (first|refine zG ?_ _|refine zI ?_|refine zH ?_ _));exact BK529.out)):gb530≠gb529));clear BK529;clear HB;have BK529:=n0_;have HB:=n1_;have BK530:=n2_;have GW530:=n3_;have GE530:=n4_;have NB529_530:=n5_;have NB530_529:=n6_;clear n0_ n1_ n2_ n3_ n4_ n5_ n6_;clear hb hbox hg))
 have n0_:=zA (zI BK529.out)
 have n1_:=zA (zI BK530.out)
 have n2_:=zA (zC HB.out)
 clear BK529 BK530 HB
 have BK529:=n0_
 have BK530:=n1_
 have HB:=n2_
 clear n0_ n1_ n2_
 refine start_ (n:=16) (S:=fun w'=>w'.cell? ⟨gb529,0,none⟩ = some (.slice A0_0 l0_0.length c0_0)∧w'.cell? ⟨gb529,1,none⟩ = some (.slice A0_1 l0_1.length c0_1)) (ds:=[]) #[zf,zf,zf,zf,zf,zf,zf,zf,zf,zf,zf,zf,zf,zf,zf,zf] (by kernel_rfl) rfl rfl ⟨(zT BK529.out 0).trans rfl,(zT BK529.out 1).trans rfl⟩ (fun hHeld=>?_);refine with_tabW impl_renamed.tab1 impl_renamed.bits1 (fun HT_ HW_=>?_)
 generalize w10.drew = w11 at BK529 BK530 HB hHeld ⊢
 refine pure_ (i:=0) (N:=some 5) (v:=?_) (a':=?_) #[zt,zf,zf,zf,zf,zf,zf,zf,zf,zf,zf,zf,zf,zf,zf,zf] rfl rfl (any_of HT_.out (by kernel_rfl)) (fun _ _ _ h=>h) (Or.inl ⟨by rfl,?_⟩) ?_ ?_
 rotate_left
 ·intro w'
  go_simp
  with_reducible rfl
 rotate_left
 ·simp only [Act.put,zP_,i64_w]
  rfl
 refine pure_ (i:=2) (N:=some 7) (v:=?_) (a':=?_) #[zt,zf,zt,zf,zf,zf,zf,zf,zf,zf,zf,zf,zf,zf,zf,zf] rfl rfl (any_of HT_.out (by kernel_rfl)) (fun _ _ _ h=>h) (Or.inl ⟨by rfl,?_⟩) ?_ ?_
 rotate_left
 ·intro w'
  go_simp
  with_reducible rfl
 rotate_left
 ·simp only [Act.put,zP_,i64_w]
  rfl
 refine pure_ (i:=5) (N:=some 10) (v:=?_) (a':=?_) #[zt,zf,zt,zf,zf,zt,zf,zf,zf,zf,zf,zf,zf,zf,zf,zf] rfl rfl (any_of HT_.out (by kernel_rfl)) (fun _ _ _ h=>h) (Or.inl ⟨by rfl,?_⟩) ?_ ?_
 rotate_left
 ·intro w'
  go_simp
  with_reducible rfl
 rotate_left
 ·simp only [Act.put,zP_,i64_w]
  rfl
 refine pure_ (i:=7) (N:=some 12) (v:=?_) (a':=?_) #[zt,zf,zt,zf,zf,zt,zf,zt,zf,zf,zf,zf,zf,zf,zf,zf] rfl rfl (any_of HT_.out (by kernel_rfl)) (fun _ _ _ h=>h) (Or.inl ⟨by rfl,?_⟩) ?_ ?_
 rotate_left
 ·intro w'
  go_simp
  with_reducible rfl
 rotate_left
 ·simp only [Act.put,zP_,i64_w]
  rfl
 refine pure_ (i:=9) (N:=some 14) (v:=?_) (a':=?_) #[zt,zf,zt,zf,zf,zt,zf,zt,zf,zt,zf,zf,zf,zf,zf,zf] rfl rfl (any_of HT_.out (by kernel_rfl)) (fun _ _ _ h=>h) (Or.inl ⟨by rfl,?_⟩) ?_ ?_
 rotate_left
 ·intro w'
  go_simp
  with_reducible rfl
 rotate_left
 ·simp only [Act.put,zP_,i64_w]
  rfl
 refine pure_ (i:=12) (N:=some 17) (v:=?_) (a':=?_) #[zt,zf,zt,zf,zf,zt,zf,zt,zf,zt,zf,zf,zt,zf,zf,zf] rfl rfl (any_of HT_.out (by kernel_rfl)) (fun _ _ _ h=>h) (Or.inl ⟨by rfl,?_⟩) ?_ ?_
 rotate_left
 ·intro w'
  go_simp
  with_reducible rfl
 rotate_left
 ·simp only [Act.put,zP_,i64_w]
  rfl
 refine take_ (i:=3) (N:=some 8) (v:=?_) (a':=?_) #[zt,zf,zt,zt,zf,zt,zf,zt,zf,zt,zf,zf,zt,zf,zf,zf] rfl rfl (take_ofW HT_.out HW_.out (by kernel_rfl)) (fun _ _ _ h=>h) (Or.inl ⟨by rfl,?_⟩) hHeld ?_ ?_
 rotate_left
 ·rintro w' ⟨s0,s1⟩
  go_simp
  with_reducible rfl
 rotate_left
 ·simp only [Act.put,zP_,i64_w]
  rfl
 refine take_ (i:=10) (N:=some 15) (v:=?_) (a':=?_) #[zt,zf,zt,zt,zf,zt,zf,zt,zf,zt,zt,zf,zt,zf,zf,zf] rfl rfl (take_ofW HT_.out HW_.out (by kernel_rfl)) (fun _ _ _ h=>h) (Or.inl ⟨by rfl,?_⟩) hHeld ?_ ?_
 rotate_left
 ·rintro w' ⟨s0,s1⟩
  go_simp
  with_reducible rfl
 rotate_left
 ·simp only [Act.put,zP_,i64_w]
  rfl
 refine one_ (i:=1) (N:=some 6) #[zt,zt,zt,zt,zf,zt,zf,zt,zf,zt,zt,zf,zt,zf,zf,zf] rfl rfl (one_of HT_.out (by kernel_rfl)) (by decide) (fun K hK=>?_)
 refine goes_ Try.func82 (by kernel_rfl) rfl #[.slice A1 l1.length c1] (by rfl) rfl rfl (by (try simp only [zJ,zM,zN]);first|done|rfl|(simp only [zL,zK];rfl)) ?_
 with_reducible refine (impl_back.calls k _ _ l1 t531 _ ?side1 ?side2 A3.out).mono ?_
 (case side1=>repeat (first|exact (zW HR1.out HB.out)|(with_reducible exact HR1.out)|apply zC_))
 (case side2=>exact HC1.out)
 rintro e w12 ⟨v532,rfl,ho0,hb⟩
 refine ⟨_,rfl,?_⟩
 have n0_:=zA (ze ho0 (zQ (by repeat (first|(with_reducible first|exact HB.out|apply zD|apply zB|apply zC|refine zF ?_ GE529.out|refine zF ?_ GE530.out)|exact HB.out))))
 have n1_:=zA (zX (g:=gb529) (o:=.cells #[.slice A0_0 l0_0.length c0_0,.slice A0_1 l0_1.length c0_1] 33 (0,0)) (by (with_reducible repeat (first|refine zG ?_ _|refine zI ?_|refine zH ?_ _));exact BK529.out) hb)
 have n2_:=zA (zX (g:=gb530) (o:=.cells #[.slice none 0 0,.slice none 0 0] 33 (0,0)) (by (with_reducible repeat (first|refine zG ?_ _|refine zI ?_|refine zH ?_ _));exact BK530.out) hb)
 have n3_:=zA (zR (by repeat (first|(with_reducible first|exact HB.out|apply zD|apply zB|apply zC|refine zF ?_ GE529.out|refine zF ?_ GE530.out)|exact HB.out)) hb)
 clear BK529 BK530 HB
 have HO533:=n0_
 have BK529:=n1_
 have BK530:=n2_
 have HB:=n3_
 clear n0_ n1_ n2_ n3_
 (try clear hb);(try clear hb2);(try clear hk);(try clear hi);(try clear ho0)
 obtain ⟨Ao13,co13,eo13⟩:=zg HO533.out
 (first|subst eo13|(injection eo13 with f1_ f2_ f3_;have f4_:=f1_.symm;have f5_:=f3_.symm;clear f1_ f2_ f3_;subst f4_;subst f5_))
 refine hK.out _ _ ⟨(zT BK529.out 0).trans rfl,(zT BK529.out 1).trans rfl⟩ (fun hHeld=>?_)
 clear hK K
 refine norm_ (a':=?_) ?_ ?_
 rotate_left
 ·show Act.put _ (some 6) _ = _
  simp only [Act.put,zP_,i64_w]
  rfl
 refine one_ (i:=4) (N:=some 9) #[zt,zt,zt,zt,zt,zt,zf,zt,zf,zt,zt,zf,zt,zf,zf,zf] rfl rfl (one_of HT_.out (by kernel_rfl)) (by decide) (fun K hK=>?_)
 refine goes_ Try.func49 (by kernel_rfl) rfl #[.slice Ao13 t531.length co13,.slice A0_0 l0_0.length c0_0] (by rfl) rfl rfl (by (try simp only [zJ,zM,zN]);first|done|rfl|(simp only [zL,zK];rfl)) ?_
 with_reducible refine (impl_mul.calls k _ _ t531 _ _ l0_0 t534 _ ?side1 ?side2 ?side3 ?side4 A4.out).mono ?_
 (case side1=>repeat (first|exact (zU HO533.out).2.2|apply zC_))
 (case side2=>exact (zU HO533.out).2.1)
 (case side3=>repeat (first|exact (zW HR0_0.out HB.out)|(with_reducible exact HR0_0.out)|apply zC_))
 (case side4=>exact HC0_0.out)
 rintro e w14 ⟨v535,rfl,ho0,hb⟩
 refine ⟨_,rfl,?_⟩
 have n0_:=zA (Kd.R_elder' (by apply zR_;exact HO533.out) (zd ho0) hb)
 have n1_:=zA (ze (Kd.R_new' ho0 (Kd.R_lt (by apply zR_;exact HO533.out))) (zQ (by repeat (first|(with_reducible first|exact HB.out|apply zD|apply zB|apply zC|refine zF ?_ GE529.out|refine zF ?_ GE530.out)|exact HB.out))))
 have n2_:=zA (zX (g:=gb529) (o:=.cells #[.slice A0_0 l0_0.length c0_0,.slice A0_1 l0_1.length c0_1] 33 (0,0)) (by (with_reducible repeat (first|refine zG ?_ _|refine zI ?_|refine zH ?_ _));exact BK529.out) hb)
 have n3_:=zA (zX (g:=gb530) (o:=.cells #[.slice none 0 0,.slice none 0 0] 33 (0,0)) (by (with_reducible repeat (first|refine zG ?_ _|refine zI ?_|refine zH ?_ _));exact BK530.out) hb)
 have n4_:=zA (zR (by repeat (first|(with_reducible first|exact HB.out|apply zD|apply zB|apply zC|refine zF ?_ GE529.out|refine zF ?_ GE530.out)|exact HB.out)) hb)
 clear HO533 BK529 BK530 HB
 have HO533:=n0_
 have HO536:=n1_
 have BK529:=n2_
 have BK530:=n3_
 have HB:=n4_
 clear n0_ n1_ n2_ n3_ n4_
 (try clear hb);(try clear hb2);(try clear hk);(try clear hi);(try clear ho0)
 obtain ⟨Ao15,co15,eo15⟩:=zg HO536.out
 (first|subst eo15|(injection eo15 with f1_ f2_ f3_;have f4_:=f1_.symm;have f5_:=f3_.symm;clear f1_ f2_ f3_;subst f4_;subst f5_))
 refine hK.out _ _ ⟨(zT BK529.out 0).trans rfl,(zT BK529.out 1).trans rfl⟩ (fun hHeld=>?_)
 clear hK K
 refine norm_ (a':=?_) ?_ ?_
 rotate_left
 ·show Act.put _ (some 9) _ = _
  simp only [Act.put,zP_,i64_w]
  rfl
 refine one_ (i:=6) (N:=some 11) #[zt,zt,zt,zt,zt,zt,zt,zt,zf,zt,zt,zf,zt,zf,zf,zf] rfl rfl (one_of HT_.out (by kernel_rfl)) (by decide) (fun K hK=>?_)
 refine goes_ Try.func49 (by kernel_rfl) rfl #[.slice Ao15 t534.length co15,.slice A1 l1.length c1] (by rfl) rfl rfl (by (try simp only [zJ,zM,zN]);first|done|rfl|(simp only [zL,zK];rfl)) ?_
 with_reducible refine (impl_mul.calls k _ _ t534 _ _ l1 t537 _ ?side1 ?side2 ?side3 ?side4 A5.out).mono ?_
 (case side1=>repeat (first|exact (zU HO536.out).2.2|apply zC_))
 (case side2=>exact (zU HO536.out).2.1)
 (case side3=>repeat (first|exact (zW HR1.out HB.out)|(with_reducible exact HR1.out)|apply zC_))
 (case side4=>exact HC1.out)
 rintro e w16 ⟨v538,rfl,ho0,hb⟩
 refine ⟨_,rfl,?_⟩
 have n0_:=zA (Kd.R_elder' (by apply zR_;exact HO533.out) (zd ho0) hb)
 have n1_:=zA (Kd.R_elder' (by apply zR_;exact HO536.out) (zd ho0) hb)
 have n2_:=zA (ze (Kd.R_new' (Kd.R_new' ho0 (Kd.R_lt (by apply zR_;exact HO533.out))) (Kd.R_lt (by apply zR_;exact HO536.out))) (zQ (by repeat (first|(with_reducible first|exact HB.out|apply zD|apply zB|apply zC|refine zF ?_ GE529.out|refine zF ?_ GE530.out)|exact HB.out))))
 have n3_:=zA (zX (g:=gb529) (o:=.cells #[.slice A0_0 l0_0.length c0_0,.slice A0_1 l0_1.length c0_1] 33 (0,0)) (by (with_reducible repeat (first|refine zG ?_ _|refine zI ?_|refine zH ?_ _));exact BK529.out) hb)
 have n4_:=zA (zX (g:=gb530) (o:=.cells #[.slice none 0 0,.slice none 0 0] 33 (0,0)) (by (with_reducible repeat (first|refine zG ?_ _|refine zI ?_|refine zH ?_ _));exact BK530.out) hb)
 have n5_:=zA (zR (by repeat (first|(with_reducible first|exact HB.out|apply zD|apply zB|apply zC|refine zF ?_ GE529.out|refine zF ?_ GE530.out)|exact HB.out)) hb)
 clear HO533 HO536 BK529 BK530 HB
 have HO533:=n0_
 have HO536:=n1_
 have HO539:=n2_
 have BK529:=n3_
 have BK530:=n4_
 have HB:=n5_
 clear n0_ n1_ n2_ n3_ n4_ n5_
 (try clear hb);(try clear hb2);(try clear hk);(try clear hi);(try clear ho0)
 refine hK.out _ _ ⟨(zT BK529.out 0).trans rfl,(zT BK529.out 1).trans rfl⟩ (fun hHeld=>?_)
 clear hK K
 refine norm_ (a':=?_) ?_ ?_
 rotate_left
 ·show Act.put _ (some 11) _ = _
  simp only [Act.put,zP_,i64_w]
  rfl
 refine one_ (i:=8) (N:=some 13) #[zt,zt,zt,zt,zt,zt,zt,zt,zt,zt,zt,zf,zt,zf,zf,zf] rfl rfl (one_of HT_.out (by kernel_rfl)) (by decide) (fun K hK=>?_)
 refine goes_ Try.func82 (by kernel_rfl) rfl #[.slice A1 l1.length c1] (by rfl) rfl rfl (by (try simp only [zJ,zM,zN]);first|done|rfl|(simp only [zL,zK];rfl)) ?_
 with_reducible refine (impl_back.calls k _ _ l1 t540 _ ?side1 ?side2 A6.out).mono ?_
 (case side1=>repeat (first|exact (zW HR1.out HB.out)|(with_reducible exact HR1.out)|apply zC_))
 (case side2=>exact HC1.out)
 rintro e w17 ⟨v541,rfl,ho0,hb⟩
 refine ⟨_,rfl,?_⟩
 have n0_:=zA (Kd.R_elder' (by apply zR_;exact HO533.out) (zd ho0) hb)
 have n1_:=zA (Kd.R_elder' (by apply zR_;exact HO536.out) (zd ho0) hb)
 have n2_:=zA (Kd.R_elder' (by apply zR_;exact HO539.out) (zd ho0) hb)
 have n3_:=zA (ze (Kd.R_new' (Kd.R_new' (Kd.R_new' ho0 (Kd.R_lt (by apply zR_;exact HO533.out))) (Kd.R_lt (by apply zR_;exact HO536.out))) (Kd.R_lt (by apply zR_;exact HO539.out))) (zQ (by repeat (first|(with_reducible first|exact HB.out|apply zD|apply zB|apply zC|refine zF ?_ GE529.out|refine zF ?_ GE530.out)|exact HB.out))))
 have n4_:=zA (zX (g:=gb529) (o:=.cells #[.slice A0_0 l0_0.length c0_0,.slice A0_1 l0_1.length c0_1] 33 (0,0)) (by (with_reducible repeat (first|refine zG ?_ _|refine zI ?_|refine zH ?_ _));exact BK529.out) hb)
 have n5_:=zA (zX (g:=gb530) (o:=.cells #[.slice none 0 0,.slice none 0 0] 33 (0,0)) (by (with_reducible repeat (first|refine zG ?_ _|refine zI ?_|refine zH ?_ _));exact BK530.out) hb)
 have n6_:=zA (zR (by repeat (first|(with_reducible first|exact HB.out|apply zD|apply zB|apply zC|refine zF ?_ GE529.out|refine zF ?_ GE530.out)|exact HB.out)) hb)
 clear HO533 HO536 HO539 BK529 BK530 HB
 have HO533:=n0_
 have HO536:=n1_
 have HO539:=n2_
 have HO542:=n3_
 have BK529:=n4_
 have BK530:=n5_
 have HB:=n6_
 clear n0_ n1_ n2_ n3_ n4_ n5_ n6_
 (try clear hb);(try clear hb2);(try clear hk);(try clear hi);(try clear ho0)
 obtain ⟨Ao18,co18,eo18⟩:=zg HO542.out
 (first|subst eo18|(injection eo18 with f1_ f2_ f3_;have f4_:=f1_.symm;have f5_:=f3_.symm;clear f1_ f2_ f3_;subst f4_;subst f5_))
 refine hK.out _ _ ⟨(zT BK529.out 0).trans rfl,(zT BK529.out 1).trans rfl⟩ (fun hHeld=>?_)
 clear hK K
 refine norm_ (a':=?_) ?_ ?_
 rotate_left
 ·show Act.put _ (some 13) _ = _
  simp only [Act.put,zP_,i64_w]
  rfl
 refine one_ (i:=11) (N:=some 16) #[zt,zt,zt,zt,zt,zt,zt,zt,zt,zt,zt,zt,zt,zf,zf,zf] rfl rfl (one_of HT_.out (by kernel_rfl)) (by decide) (fun K hK=>?_)
 refine goes_ Try.func49 (by kernel_rfl) rfl #[.slice Ao18 t540.length co18,.slice A0_1 l0_1.length c0_1] (by rfl) rfl rfl (by (try simp only [zJ,zM,zN]);first|done|rfl|(simp only [zL,zK];rfl)) ?_
 with_reducible refine (impl_mul.calls k _ _ t540 _ _ l0_1 t543 _ ?side1 ?side2 ?side3 ?side4 A7.out).mono ?_
 (case side1=>repeat (first|exact (zU HO542.out).2.2|apply zC_))
 (case side2=>exact (zU HO542.out).2.1)
 (case side3=>repeat (first|exact (zW HR0_1.out HB.out)|(with_reducible exact HR0_1.out)|apply zC_))
 (case side4=>exact HC0_1.out)
 rintro e w19 ⟨v544,rfl,ho0,hb⟩
 refine ⟨_,rfl,?_⟩
 have n0_:=zA (Kd.R_elder' (by apply zR_;exact HO533.out) (zd ho0) hb)
 have n1_:=zA (Kd.R_elder' (by apply zR_;exact HO536.out) (zd ho0) hb)
 have n2_:=zA (Kd.R_elder' (by apply zR_;exact HO539.out) (zd ho0) hb)
 have n3_:=zA (Kd.R_elder' (by apply zR_;exact HO542.out) (zd ho0) hb)
 have n4_:=zA (ze (Kd.R_new' (Kd.R_new' (Kd.R_new' (Kd.R_new' ho0 (Kd.R_lt (by apply zR_;exact HO533.out))) (Kd.R_lt (by apply zR_;exact HO536.out))) (Kd.R_lt (by apply zR_;exact HO539.out))) (Kd.R_lt (by apply zR_;exact HO542.out))) (zQ (by repeat (first|(with_reducible first|exact HB.out|apply zD|apply zB|apply zC|refine zF ?_ GE529.out|refine zF ?_ GE530.out)|exact HB.out))))
 have n5_:=zA (zX (g:=gb529) (o:=.cells #[.slice A0_0 l0_0.length c0_0,.slice A0_1 l0_1.length c0_1] 33 (0,0)) (by (with_reducible repeat (first|refine zG ?_ _|refine zI ?_|refine zH ?_ _));exact BK529.out) hb)
 have n6_:=zA (zX (g:=gb530) (o:=.cells #[.slice none 0 0,.slice none 0 0] 33 (0,0)) (by (with_reducible repeat (first|refine zG ?_ _|refine zI ?_|refine zH ?_ _));exact BK530.out) hb)
 have n7_:=zA (zR (by repeat (first|(with_reducible first|exact HB.out|apply zD|apply zB|apply zC|refine zF ?_ GE529.out|refine zF ?_ GE530.out)|exact HB.out)) hb)
 clear HO533 HO536 HO539 HO542 BK529 BK530 HB
 have HO533:=n0_
 have HO536:=n1_
 have HO539:=n2_
 have HO542:=n3_
 have HO545:=n4_
 have BK529:=n5_
 have BK530:=n6_
 have HB:=n7_
 clear n0_ n1_ n2_ n3_ n4_ n5_ n6_ n7_
 (try clear hb);(try clear hb2);(try clear hk);(try clear hi);(try clear ho0)
 obtain ⟨Ao20,co20,eo20⟩:=zg HO545.out
 (first|subst eo20|(injection eo20 with f1_ f2_ f3_;have f4_:=f1_.symm;have f5_:=f3_.symm;clear f1_ f2_ f3_;subst f4_;subst f5_))
 refine hK.out _ _ ⟨(zT BK529.out 0).trans rfl,(zT BK529.out 1).trans rfl⟩ (fun hHeld=>?_)
 clear hK K
 refine norm_ (a':=?_) ?_ ?_
 rotate_left
 ·show Act.put _ (some 16) _ = _
  simp only [Act.put,zP_,i64_w]
  rfl
 refine one_ (i:=13) (N:=some 18) #[zt,zt,zt,zt,zt,zt,zt,zt,zt,zt,zt,zt,zt,zt,zf,zf] rfl rfl (one_of HT_.out (by kernel_rfl)) (by decide) (fun K hK=>?_)
 refine goes_ Try.func49 (by kernel_rfl) rfl #[.slice Ao20 t543.length co20,.slice A1 l1.length c1] (by rfl) rfl rfl (by (try simp only [zJ,zM,zN]);first|done|rfl|(simp only [zL,zK];rfl)) ?_
 with_reducible refine (impl_mul.calls k _ _ t543 _ _ l1 t546 _ ?side1 ?side2 ?side3 ?side4 A8.out).mono ?_
 (case side1=>repeat (first|exact (zU HO545.out).2.2|apply zC_))
 (case side2=>exact (zU HO545.out).2.1)
 (case side3=>repeat (first|exact (zW HR1.out HB.out)|(with_reducible exact HR1.out)|apply zC_))
 (case side4=>exact HC1.out)
 rintro e w21 ⟨v547,rfl,ho0,hb⟩
 refine ⟨_,rfl,?_⟩
 have n0_:=zA (Kd.R_elder' (by apply zR_;exact HO533.out) (zd ho0) hb)
 have n1_:=zA (Kd.R_elder' (by apply zR_;exact HO536.out) (zd ho0) hb)
 have n2_:=zA (Kd.R_elder' (by apply zR_;exact HO539.out) (zd ho0) hb)
 have n3_:=zA (Kd.R_elder' (by apply zR_;exact HO542.out) (zd ho0) hb)
 have n4_:=zA (Kd.R_elder' (by apply zR_;exact HO545.out) (zd ho0) hb)
 have n5_:=zA (ze (Kd.R_new' (Kd.R_new' (Kd.R_new' (Kd.R_new' (Kd.R_new' ho0 (Kd.R_lt (by apply zR_;exact HO533.out))) (Kd.R_lt (by apply zR_;exact HO536.out))) (Kd.R_lt (by apply zR_;exact HO539.out))) (Kd.R_lt (by apply zR_;exact HO542.out))) (Kd.R_lt (by apply zR_;exact HO545.out))) (zQ (by repeat (first|(with_reducible first|exact HB.out|apply zD|apply zB|apply zC|refine zF ?_ GE529.out|refine zF ?_ GE530.out)|exact HB.out))))
 have n6_:=zA (zX (g:=gb529) (o:=.cells #[.slice A0_0 l0_0.length c0_0,.slice A0_1 l0_1.length c0_1] 33 (0,0)) (by (with_reducible repeat (first|refine zG ?_ _|refine zI ?_|refine zH ?_ _));exact BK529.out) hb)
 have n7_:=zA (zX (g:=gb530) (o:=.cells #[.slice none 0 0,.slice none 0 0] 33 (0,0)) (by (with_reducible repeat (first|refine zG ?_ _|refine zI ?_|refine zH ?_ _));exact BK530.out) hb)
 have n8_:=zA (zR (by repeat (first|(with_reducible first|exact HB.out|apply zD|apply zB|apply zC|refine zF ?_ GE529.out|refine zF ?_ GE530.out)|exact HB.out)) hb)
 clear HO533 HO536 HO539 HO542 HO545 BK529 BK530 HB
 have HO533:=n0_
 have HO536:=n1_
 have HO539:=n2_
 have HO542:=n3_
 have HO545:=n4_
 have HO548:=n5_
 have BK529:=n6_
 have BK530:=n7_
 have HB:=n8_
 clear n0_ n1_ n2_ n3_ n4_ n5_ n6_ n7_ n8_
 (try clear hb);(try clear hb2);(try clear hk);(try clear hi);(try clear ho0)
 obtain ⟨Ao22,co22,eo22⟩:=zg HO548.out
 (first|subst eo22|(injection eo22 with f1_ f2_ f3_;have f4_:=f1_.symm;have f5_:=f3_.symm;clear f1_ f2_ f3_;subst f4_;subst f5_))
 obtain ⟨Ao23,co23,eo23⟩:=zg HO539.out
 (first|subst eo23|(injection eo23 with f1_ f2_ f3_;have f4_:=f1_.symm;have f5_:=f3_.symm;clear f1_ f2_ f3_;subst f4_;subst f5_))
 refine hK.out _ _ ⟨(zT BK529.out 0).trans rfl,(zT BK529.out 1).trans rfl⟩ (fun hHeld=>?_)
 clear hK K
 refine norm_ (a':=?_) ?_ ?_
 rotate_left
 ·show Act.put _ (some 18) _ = _
  simp only [Act.put,zP_,i64_w]
  rfl
 refine pure_ (i:=14) (N:=some 19) (v:=?_) (a':=?_) #[zt,zt,zt,zt,zt,zt,zt,zt,zt,zt,zt,zt,zt,zt,zt,zf] rfl rfl (any_of HT_.out (by kernel_rfl)) (fun _ _ _ h=>h) (Or.inl ⟨by rfl,?_⟩) ?_ ?_
 rotate_left
 ·intro w'
  go_simp
  with_reducible rfl
 rotate_left
 ·simp only [Act.put,zP_,i64_w]
  rfl
 refine one_ (i:=15) (N:=none) #[zt,zt,zt,zt,zt,zt,zt,zt,zt,zt,zt,zt,zt,zt,zt,zt] rfl rfl (one_of HT_.out (by kernel_rfl)) (by decide) (fun K hK=>?_)
 have hs24:w21.cell? ⟨gb530,0,none⟩ = some (.slice none 0 0):=(zT BK530.out 0).trans rfl
 have hfs24:=zZ BK530.out 0
 have hns24_0:=NB529_530.out
 have hms24_0:=NB530_529.out
 have hs25:w21.cell? ⟨gb530,1,none⟩ = some (.slice none 0 0):=(zT BK530.out 1).trans rfl
 have hfs25:=zZ BK530.out 1
 have hns25_0:=NB529_530.out
 have hms25_0:=NB530_529.out
 refine skip_ (w1:=?_) (by rfl) rfl ?_ ?_
 rotate_left
 ·go_simp
  rfl
 refine hK.out _ _ ⟨((cell_far (p:=⟨gb530,_,none⟩) NB529_530.out _).trans (((cell_far (p:=⟨gb530,_,none⟩) NB529_530.out _).trans (hHeld.1)))),((cell_far (p:=⟨gb530,_,none⟩) NB529_530.out _).trans (((cell_far (p:=⟨gb530,_,none⟩) NB529_530.out _).trans (hHeld.2))))⟩ (fun hHeld=>?_)
 clear hK K
 refine done_ (done_of HT_.out (by kernel_rfl)) ?_
 try go_wp2
 refine bodyPost_ret (results_cell_row rfl _ _ gb530 33 #[.slice Ao23 t537.length co23,.slice Ao22 t546.length co22] (0,0) _ rfl (by (with_reducible repeat (first|refine zG ?_ _|refine zI ?_|refine zH ?_ _));refine blk_put (cs:=#[.slice Ao23 t537.length co23,.slice none 0 0]) ?_ 1 _ rfl;(with_reducible repeat (first|refine zG ?_ _|refine zI ?_|refine zH ?_ _));refine blk_put (cs:=#[.slice none 0 0,.slice none 0 0]) ?_ 0 _ rfl;(with_reducible repeat (first|refine zG ?_ _|refine zI ?_|refine zH ?_ _));exact BK530.out) Try.underlying33 rfl (by kernel_rfl)) rfl ?_
 exact ⟨_,_,by first|rfl|(simp [errW_none,errW_some] <;> rfl)|(simp [*,errW_none,errW_some] <;> rfl),by apply zR_;exact zV (Kd.R_far (p:=⟨gb530,1,none⟩) (Kd.R_far (p:=⟨gb530,0,none⟩) (Kd.R_types HO539.out BK530.out (by decide)) (fun _ hk=>hk.2) (.slice Ao23 t537.length co23)) (fun _ hk=>hk.2) (.slice Ao22 t546.length co22)) (fun _ hk=>hk.1.2),by apply zR_;exact zV (Kd.R_far (p:=⟨gb530,1,none⟩) (Kd.R_far (p:=⟨gb530,0,none⟩) (Kd.R_types HO548.out BK530.out (by decide)) (fun _ hk=>hk.2) (.slice Ao23 t537.length co23)) (fun _ hk=>hk.2) (.slice Ao22 t546.length co22)) (fun _ hk=>hk.1.1.1.2),by repeat (first|(with_reducible first|exact HB.out|apply zD|apply zB|apply zC|refine zF ?_ GE529.out|refine zF ?_ GE530.out)|exact HB.out)⟩

end Go.Proofs.Ytdaiohcgdpclnaa.Q
