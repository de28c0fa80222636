import Derived.Test.YtdaiohcgdpclnaaQ0
import Derived.Test.YtdaiohcgdpclnaaQ10
import Derived.Test.YtdaiohcgdpclnaaQ3
import Derived.Test.YtdaiohcgdpclnaaQ7
import Derived.Test.YtdaiohcgdpclnaaZ
namespace Go.Proofs.Ytdaiohcgdpclnaa.Q
open Go.RowKit Go.Proofs.YtdaiohcgdpclnaaW.PrintWords Go.Proofs.YtdaiohcgdpclnaaW.PrintLast Go.Proofs.YtdaiohcgdpclnaaW.PrintMore
attribute [local go_sem] max2_int min2_int max_two min_two max_three min_three max_four min_four   -- for this text's walks alone
set_option linter.unusedVariables false
set_option linter.unusedSimpArgs false

/-! ### spec_RootedList: function 19 -/
def spec_RootedList.f (k:Nat) (a0:Int) (a1:Int):Option ((List (S33)) × Bool):=(spec_l6In.f a0 1 2).bind fun t476=>(if t476 = true then (if a1 < 0 then (some ((([]:List (S33))),false)) else ((spec_l3All.f k a0 a1).bind fun t480=>(some (t480,true)))) else (some ((([]:List (S33))),false)))
theorem spec_RootedList.mono:∀ a0 a1 k,LeO (spec_RootedList.f k a0 a1) (spec_RootedList.f (k+1) a0 a1):=by
 intro a0 a1 k
 unfold spec_RootedList.f
 repeat' first
   | (with_reducible exact spec_l3All.mono _ _ _)
   | (with_reducible exact LeO.refl _)
   | (with_reducible exact zZ _)
   | (with_reducible refine zb ?_ ?_)
   | (with_reducible refine za ?_ (fun _=>?_))
set_option maxHeartbeats 8000000 in
set_option maxRecDepth 100000 in
theorem spec_RootedList.calls (k:Nat) (a0:Int) (a1:Int) (r1:List (S33)) (r2:Bool) (w:World) (h:spec_RootedList.f k a0 a1 = some (r1,r2)) :
  Calls Try.prog 19 #[.int .i64 a0,.int .i64 a1] w fun e w' => ∃ v0_:Value,e = .returned (.tuple #[v0_,.bool r2])∧Kd.V k33 33 w' w.heap.size (fun k_=>(w.heap.size≤k_)) v0_ r1∧Below w.heap.size w w':=by
 have HB:=zA (Below.refl w.heap.size w)
 have H:((spec_l6In.f a0 1 2).bind fun t476=>(if t476 = true then (if a1 < 0 then (some ((([]:List (S33))),false)) else ((spec_l3All.f k a0 a1).bind fun t480=>(some (t480,true)))) else (some ((([]:List (S33))),false)))) = some (r1,r2):=h
 clear h
 replace H:=zz0 H
 obtain ⟨t476,A30,H⟩:=H
 try dsimp only at H
 have A3:=zA A30
 clear A30
 by_cases c4:t476 = true
 ·subst c4
  rw [if_pos rfl] at H;try dsimp only at H
  by_cases c5:a1 < 0
  ·rw [if_pos c5] at H
   have c5b0:decide (a1 < 0) = true:=zO c5
   clear c5
   obtain ⟨y477,hy477⟩:∃ y_:List (S33),y_ = (([]:List (S33))):=⟨_,rfl⟩
   replace H:(some (y477,false)) = some (r1,r2):=by (try rw [hy477]);first|with_reducible exact H|with_reducible exact zS_ H|exact H
   have Ny477:=zA hy477
   clear hy477
   simp only [Option.some.injEq,Prod.mk.injEq] at H
   obtain ⟨rfl,rfl⟩:=H
   go_enter Try.func19,Try.ntmps19
   go_wp2_with (first|((with_reducible refine gate_callee (f:=40) rfl ?_);refine goesL_ (some 7) rfl rfl Try.func40 (by kernel_rfl) rfl #[.int .i64 a0,.int .i64 1,.int .i64 2] rfl (by (try simp only [zJ,zM,zN]);first|done|rfl|(simp only [zL,zK];rfl)) ?_;(with_reducible refine (spec_l6In.calls a0 1 2 true _ A3.out).mono ?_);rintro e w' ⟨rfl,⟨nd,rfl⟩⟩;refine ⟨_,rfl,?_⟩)|((with_reducible refine gate_dst (N:=13) rfl ?_);refine Kd.S_lit k33 _ 33 ?hg (N:=13) ?hd (xs:=([]:List (S33))) (inner:=[]) (ok:=fun _=>True) (okp:=fun _=>True) ?hr ?hp (fun _ hk=>hk) trivial (Below.refl _ _) (Nat.le_refl _) (by simp) ?_;(case hd=>rfl);(case hg=>rfl);(case hr=>first|(go_simp;done)|(go_simp;rfl));(case hp=>exact (Reps.none _ _));intro v478 w6 ho7 hb hg_ hnew_;clear hg_ hnew_;(first|rw [← Ny477.out] at ho7|(simp only [Int.reduceToNat] at ho7;rw [← Ny477.out] at ho7));have n0_:=zA (Kd.S_lower (Kd.S_newM (M:=fun k_=>(w.heap.size≤k_)) ho7 (zQ (by exact zB_ HB.out)) (fun k_ h_=>h_)) (zQ (by exact zB_ HB.out)));have n1_:=zA (zR (by exact zB_ HB.out) hb);clear HB;have HO479:=n0_;have HB:=n1_;clear n0_ n1_;clear hb ho7))
   go_ret2
   exact ⟨_,by first|rfl|(simp [errW_none,errW_some] <;> rfl)|(simp [*,errW_none,errW_some] <;> rfl),Kd.S_V (by (with_reducible repeat (first|apply Kd.S_alloc|apply Kd.S_drewN|apply Kd.S_drew));exact Kd.S_mono HO479.out (fun _ hk=>hk.1)),by exact zB_ HB.out⟩
  ·rw [if_neg c5] at H
   have c5b0:decide (a1 < 0) = false:=zP c5
   clear c5
   replace H:=zz0 H
   obtain ⟨t480,A80,H⟩:=H
   try dsimp only at H
   have A8:=zA A80
   clear A80
   simp only [Option.some.injEq,Prod.mk.injEq] at H
   obtain ⟨rfl,rfl⟩:=H
   go_enter Try.func19,Try.ntmps19
   go_wp2_with (first|((with_reducible refine gate_callee (f:=40) rfl ?_);refine goesL_ (some 7) rfl rfl Try.func40 (by kernel_rfl) rfl #[.int .i64 a0,.int .i64 1,.int .i64 2] rfl (by (try simp only [zJ,zM,zN]);first|done|rfl|(simp only [zL,zK];rfl)) ?_;(with_reducible refine (spec_l6In.calls a0 1 2 true _ A3.out).mono ?_);rintro e w' ⟨rfl,⟨nd,rfl⟩⟩;refine ⟨_,rfl,?_⟩)|((with_reducible refine gate_callee (f:=45) rfl ?_);refine goesL_ (some 16) rfl rfl Try.func45 (by kernel_rfl) rfl #[.int .i64 a0,.int .i64 a1] rfl (by (try simp only [zJ,zM,zN]);first|done|rfl|(simp only [zL,zK];rfl)) ?_;(with_reducible refine (spec_l3All.calls k a0 a1 t480 _ A8.out).mono ?_);rintro e w9 ⟨v481,rfl,ho0,hb⟩;refine ⟨_,rfl,?_⟩;have n0_:=zA (Kd.V_lower (Kd.V_mono (ok':=fun k_=>(w.heap.size≤k_)) ho0 (fun k_ hk_=>(Nat.le_trans (zQ (by exact zB_ HB.out)) hk_))) (zQ (by exact zB_ HB.out)));have n1_:=zA (zR (by exact zB_ HB.out) hb);clear HB;have HO482:=n0_;have HB:=n1_;clear n0_ n1_;(try clear hb);(try clear hb2);(try clear hk);(try clear hi);(try clear ho0)))
   go_ret2
   exact ⟨_,by first|rfl|(simp [errW_none,errW_some] <;> rfl)|(simp [*,errW_none,errW_some] <;> rfl),by apply zV_;exact HO482.out,by exact zB_ HB.out⟩
 ·replace c4:=Bool.eq_false_iff.mpr c4
  subst c4
  have H1:(some ((([]:List (S33))),false)) = some (r1,r2):=by rw [if_neg (show ¬ (false = true) by decide)] at H;exact H
  clear H
  have H:=H1
  clear H1
  obtain ⟨y483,hy483⟩:∃ y_:List (S33),y_ = (([]:List (S33))):=⟨_,rfl⟩
  replace H:(some (y483,false)) = some (r1,r2):=by (try rw [hy483]);first|with_reducible exact H|with_reducible exact zS_ H|exact H
  have Ny483:=zA hy483
  clear hy483
  simp only [Option.some.injEq,Prod.mk.injEq] at H
  obtain ⟨rfl,rfl⟩:=H
  go_enter Try.func19,Try.ntmps19
  go_wp2_with (first|((with_reducible refine gate_callee (f:=40) rfl ?_);refine goesL_ (some 7) rfl rfl Try.func40 (by kernel_rfl) rfl #[.int .i64 a0,.int .i64 1,.int .i64 2] rfl (by (try simp only [zJ,zM,zN]);first|done|rfl|(simp only [zL,zK];rfl)) ?_;(with_reducible refine (spec_l6In.calls a0 1 2 false _ A3.out).mono ?_);rintro e w' ⟨rfl,⟨nd,rfl⟩⟩;refine ⟨_,rfl,?_⟩)|((with_reducible refine gate_dst (N:=13) rfl ?_);refine Kd.S_lit k33 _ 33 ?hg (N:=13) ?hd (xs:=([]:List (S33))) (inner:=[]) (ok:=fun _=>True) (okp:=fun _=>True) ?hr ?hp (fun _ hk=>hk) trivial (Below.refl _ _) (Nat.le_refl _) (by simp) ?_;(case hd=>rfl);(case hg=>rfl);(case hr=>first|(go_simp;done)|(go_simp;rfl));(case hp=>exact (Reps.none _ _));intro v484 w10 ho11 hb hg_ hnew_;clear hg_ hnew_;(first|rw [← Ny483.out] at ho11|(simp only [Int.reduceToNat] at ho11;rw [← Ny483.out] at ho11));have n0_:=zA (Kd.S_lower (Kd.S_newM (M:=fun k_=>(w.heap.size≤k_)) ho11 (zQ (by exact zB_ HB.out)) (fun k_ h_=>h_)) (zQ (by exact zB_ HB.out)));have n1_:=zA (zR (by exact zB_ HB.out) hb);clear HB;have HO485:=n0_;have HB:=n1_;clear n0_ n1_;clear hb ho11))
  go_ret2
  exact ⟨_,by first|rfl|(simp [errW_none,errW_some] <;> rfl)|(simp [*,errW_none,errW_some] <;> rfl),Kd.S_V (by (with_reducible repeat (first|apply Kd.S_alloc|apply Kd.S_drewN|apply Kd.S_drew));exact Kd.S_mono HO485.out (fun _ hk=>hk.1)),by exact zB_ HB.out⟩

/-! ### laws_eqIntS: function 86 -/
def laws_eqIntS.l0:Nat→List Int→List Int→Int→Option (Bool)
 | 0,_,_,_=>none
 | k+1,x0,x1,x5=>if x5 < (x0.length:Int) then (if 0≤x5 then (if x5 < (x1.length:Int) then (if (rd x0 x5) = (rd x1 x5) then (laws_eqIntS.l0 k x0 x1 (wrap64 (x5+1))) else (some false)) else (none)) else (none)) else (some true)
def laws_eqIntS.f (k:Nat) (l0:List Int) (l1:List Int):Option (Bool):=if (l0.length:Int) = (l1.length:Int) then (laws_eqIntS.l0 k l0 l1 0) else (some false)
theorem laws_eqIntS.mono_l:∀ k,(∀ y0 y1 y2,LeO (laws_eqIntS.l0 k y0 y1 y2) (laws_eqIntS.l0 (k+1) y0 y1 y2))
 | 0=>fun _ _ _ r h=>by simp [laws_eqIntS.l0] at h
 | k+1=>by
  have ih0:=laws_eqIntS.mono_l k
  ·intro y0 y1 y2
   unfold laws_eqIntS.l0
   repeat' first
   | (with_reducible exact ih0 _ _ _)
   | (with_reducible exact LeO.refl _)
   | (with_reducible exact zZ _)
   | (with_reducible refine zb ?_ ?_)
   | (with_reducible refine za ?_ (fun _=>?_))
theorem laws_eqIntS.mono:∀ a0 a1 k,LeO (laws_eqIntS.f k a0 a1) (laws_eqIntS.f (k+1) a0 a1):=by
 intro a0 a1 k
 have ih0:=laws_eqIntS.mono_l k
 unfold laws_eqIntS.f
 repeat' first
   | (with_reducible exact ih0 _ _ _)
   | (with_reducible exact LeO.refl _)
   | (with_reducible exact zZ _)
   | (with_reducible refine zb ?_ ?_)
   | (with_reducible refine za ?_ (fun _=>?_))
set_option maxHeartbeats 8000000 in
set_option maxRecDepth 100000 in
theorem laws_eqIntS.calls (k:Nat) (A0:Option Addr) (c0:Nat) (l0:List Int) (A1:Option Addr) (c1:Nat) (l1:List Int) (r:Bool) (w:World) (hr0:Kd.C (Kd.int .i64) w A0 l0.length l0) (hc0:l0.length≤c0) (hr1:Kd.C (Kd.int .i64) w A1 l1.length l1) (hc1:l1.length≤c1) (h:laws_eqIntS.f k l0 l1 = some r) :
  Calls Try.prog 86 #[.slice A0 l0.length c0,.slice A1 l1.length c1] w fun e w'=>e = .returned (.bool r)∧Drawn0 w w':=by
 have HR0:=zA hr0
 have HC0:=zA hc0
 clear hr0 hc0
 have HR1:=zA hr1
 have HC1:=zA hc1
 clear hr1 hc1
 have H:(if (l0.length:Int) = (l1.length:Int) then (laws_eqIntS.l0 k l0 l1 0) else (some false)) = some r:=h
 clear h
 by_cases c3:(l0.length:Int) = (l1.length:Int)
 ·rw [if_pos c3] at H
  have c3b0:((l0.length:Int) == (l1.length:Int)) = true:=beq_iff_eq.mpr c3
  have c3b1:((l0.length:Int) != (l1.length:Int)) = false:=bne_eq_false_iff_eq.mpr c3
  have c3b2:(l0.length == l1.length) = true:=by first|simpa using c3|(simp at c3 ⊢;omega)
  clear c3
  have H':=zA H
  clear H
  go_enter Try.func86,Try.ntmps86
  go_wp2
  repeat (go_quiet (fail);try go_wp2)
  go_loopg [5] k (fun kq v5 w' => ∃ (x5_1:Int),v5 = .int .i64 x5_1∧Aside0 (laws_eqIntS.l0 kq l0 l1 x5_1 = some r)∧Aside0 (kq≤k)∧Drawn0 w w')
  case atStart=>exact ⟨(0),(by first|rfl|(simp;done)|(simp [*];done)),H',⟨Nat.le_refl _⟩,by repeat (first|exact Drawn0.refl _|apply Drawn0.step)⟩
  case round =>
   clear H'
   (try clear c1);(try clear p2);(try clear c3);(try clear c3b0);(try clear c3b1);(try clear c3b2)
   obtain ⟨x5_1,rfl,HA,HK1,⟨m1,rfl⟩⟩:=hrel
   cases gk with
   | zero=>exact absurd HA.out (by simp [laws_eqIntS.l0])
   | succ k1 =>
    have H:=HA.out
    clear HA
    simp only [laws_eqIntS.l0] at H
    by_cases c4:x5_1 < (l0.length:Int)
    ·rw [if_pos c4] at H
     have c4b0:decide (x5_1 < (l0.length:Int)) = true:=zO c4
     clear c4
     by_cases c5:0≤x5_1
     ·rw [if_pos c5] at H
      have c5b0:decide (0≤x5_1) = true:=zO c5
      clear c5
      by_cases c6:x5_1 < (l1.length:Int)
      ·rw [if_pos c6] at H
       have c6b0:decide (x5_1 < (l1.length:Int)) = true:=zO c6
       clear c6
       by_cases c7:(rd l0 x5_1) = (rd l1 x5_1)
       ·rw [if_pos c7] at H
        have c7b0:((rd l0 x5_1) == (rd l1 x5_1)) = true:=beq_iff_eq.mpr c7
        have c7b1:((rd l0 x5_1) != (rd l1 x5_1)) = false:=bne_eq_false_iff_eq.mpr c7
        clear c7
        have H':=zA H
        clear H
        have p486:0≤(x5_1:Int):=zE (by with_reducible assumption)
        have q486:x5_1 < (l0.length:Int):=zE (by with_reducible assumption)
        obtain ⟨ad486,e486,hx486_0⟩:=Kd.at_int HR0.out x5_1 p486 q486
        cases e486
        replace p486:=eq_true p486
        replace q486:=eq_true q486
        have p487:0≤(x5_1:Int):=zE (by with_reducible assumption)
        have q487:x5_1 < (l1.length:Int):=zE (by with_reducible assumption)
        obtain ⟨ad487,e487,hx487_0⟩:=Kd.at_int HR1.out x5_1 p487 q487
        cases e487
        replace p487:=eq_true p487
        replace q487:=eq_true q487
        go_wp2
        repeat (go_quiet (fail);try go_wp2)
        go_roundg k1
        case measure=>have:=HK1.out;omega
        case rel=>exact ⟨(wrap64 (x5_1+1)),(by first|rfl|(simp;done)|(simp [*];done)),H',⟨by have:=HK1.out;omega⟩,by repeat (first|exact Drawn0.refl _|apply Drawn0.step)⟩
       ·rw [if_neg c7] at H
        have c7b0:((rd l0 x5_1) == (rd l1 x5_1)) = false:=beq_eq_false_iff_ne.mpr c7
        have c7b1:((rd l0 x5_1) != (rd l1 x5_1)) = true:=bne_iff_ne.mpr c7
        obtain rfl:=zS H
        have p486:0≤(x5_1:Int):=zE (by with_reducible assumption)
        have q486:x5_1 < (l0.length:Int):=zE (by with_reducible assumption)
        obtain ⟨ad486,e486,hx486_0⟩:=Kd.at_int HR0.out x5_1 p486 q486
        cases e486
        replace p486:=eq_true p486
        replace q486:=eq_true q486
        have p487:0≤(x5_1:Int):=zE (by with_reducible assumption)
        have q487:x5_1 < (l1.length:Int):=zE (by with_reducible assumption)
        obtain ⟨ad487,e487,hx487_0⟩:=Kd.at_int HR1.out x5_1 p487 q487
        cases e487
        replace p487:=eq_true p487
        replace q487:=eq_true q487
        go_wp2
        repeat (go_quiet (fail);try go_wp2)
        go_ret
        exact ⟨by first|rfl|(simp;done)|(simp [*];done),by repeat (first|exact Drawn0.refl _|apply Drawn0.step)⟩
      ·rw [if_neg c6] at H
       exact absurd H (by simp)
     ·rw [if_neg c5] at H
      exact absurd H (by simp)
    ·rw [if_neg c4] at H
     have c4b0:decide (x5_1 < (l0.length:Int)) = false:=zP c4
     clear c4
     obtain rfl:=zS H
     go_wp2
     repeat (go_quiet (fail);try go_wp2)
     go_ret
     exact ⟨by first|rfl|(simp;done)|(simp [*];done),by repeat (first|exact Drawn0.refl _|apply Drawn0.step)⟩
 ·rw [if_neg c3] at H
  have c3b0:((l0.length:Int) == (l1.length:Int)) = false:=beq_eq_false_iff_ne.mpr c3
  have c3b1:((l0.length:Int) != (l1.length:Int)) = true:=bne_iff_ne.mpr c3
  have c3b2:(l0.length == l1.length) = false:=by first|simpa using c3|(simp at c3 ⊢;omega)
  obtain rfl:=zS H
  go_enter Try.func86,Try.ntmps86
  go_wp2
  repeat (go_quiet (fail);try go_wp2)
  go_ret
  exact ⟨by first|rfl|(simp;done)|(simp [*];done),by repeat (first|exact Drawn0.refl _|apply Drawn0.step)⟩

/-! ### laws_eqMap: function 58 -/
def laws_eqMap.f (k:Nat) (l0_0:List Int) (l0_1:List Int) (l1_0:List Int) (l1_1:List Int):Option (Bool):=(laws_eqIntS.f k l0_0 l1_0).bind fun t490=>(if t490 = true then ((laws_eqIntS.f k l0_1 l1_1).bind fun t491=>(if t491 = true then (some true) else (some false))) else (some false))
theorem laws_eqMap.mono:∀ a0 a1 a2 a3 k,LeO (laws_eqMap.f k a0 a1 a2 a3) (laws_eqMap.f (k+1) a0 a1 a2 a3):=by
 intro a0 a1 a2 a3 k
 unfold laws_eqMap.f
 repeat' first
   | (with_reducible exact laws_eqIntS.mono _ _ _)
   | (with_reducible exact LeO.refl _)
   | (with_reducible exact zZ _)
   | (with_reducible refine zb ?_ ?_)
   | (with_reducible refine za ?_ (fun _=>?_))
set_option maxHeartbeats 8000000 in
set_option maxRecDepth 100000 in
theorem laws_eqMap.calls (k:Nat) (A0_0:Option Addr) (c0_0:Nat) (l0_0:List Int) (A0_1:Option Addr) (c0_1:Nat) (l0_1:List Int) (A1_0:Option Addr) (c1_0:Nat) (l1_0:List Int) (A1_1:Option Addr) (c1_1:Nat) (l1_1:List Int) (r:Bool) (w:World) (hr0_0:Kd.C (Kd.int .i64) w A0_0 l0_0.length l0_0) (hc0_0:l0_0.length≤c0_0) (hr0_1:Kd.C (Kd.int .i64) w A0_1 l0_1.length l0_1) (hc0_1:l0_1.length≤c0_1) (hr1_0:Kd.C (Kd.int .i64) w A1_0 l1_0.length l1_0) (hc1_0:l1_0.length≤c1_0) (hr1_1:Kd.C (Kd.int .i64) w A1_1 l1_1.length l1_1) (hc1_1:l1_1.length≤c1_1) (h:laws_eqMap.f k l0_0 l0_1 l1_0 l1_1 = some r) :
  Calls Try.prog 58 #[.agg #[.slice A0_0 l0_0.length c0_0,.slice A0_1 l0_1.length c0_1],.agg #[.slice A1_0 l1_0.length c1_0,.slice A1_1 l1_1.length c1_1]] w fun e w'=>e = .returned (.bool r)∧Below w.heap.size w w':=by
 have hu33:=Try.underlying33
 have HR0_0:=zA hr0_0
 have HC0_0:=zA hc0_0
 clear hr0_0 hc0_0
 have HR0_1:=zA hr0_1
 have HC0_1:=zA hc0_1
 clear hr0_1 hc0_1
 have HR1_0:=zA hr1_0
 have HC1_0:=zA hc1_0
 clear hr1_0 hc1_0
 have HR1_1:=zA hr1_1
 have HC1_1:=zA hc1_1
 clear hr1_1 hc1_1
 have HB:=zA (Below.refl w.heap.size w)
 have H:((laws_eqIntS.f k l0_0 l1_0).bind fun t490=>(if t490 = true then ((laws_eqIntS.f k l0_1 l1_1).bind fun t491=>(if t491 = true then (some true) else (some false))) else (some false))) = some r:=h
 clear h
 replace H:=zz0 H
 obtain ⟨t490,A30,H⟩:=H
 try dsimp only at H
 have A3:=zA A30
 clear A30
 by_cases c4:t490 = true
 ·subst c4
  rw [if_pos rfl] at H;try dsimp only at H
  replace H:=zz0 H
  obtain ⟨t491,A50,H⟩:=H
  try dsimp only at H
  have A5:=zA A50
  clear A50
  by_cases c6:t491 = true
  ·subst c6
   rw [if_pos rfl] at H;try dsimp only at H
   obtain rfl:=zS H
   go_enter Try.func58,Try.ntmps58
   go_wp2_with (first|((with_reducible refine gate_dst (N:=2) rfl ?_);refine box_event ?hg (N:=2) ?hd (cs:=#[.slice A0_0 l0_0.length c0_0,.slice A0_1 l0_1.length c0_1]) (t:=33) ?hr ?_;(case hd=>rfl);(case hg=>rfl);(case hr=>first|(go_simp;done)|(go_simp;rfl));intro gb488 hg w7 hbox hb;have n0_:=zA (zR (by exact zB_ HB.out) hb);have n1_:=zA (hbox);have n2_:=zA ((by rw [hg];exact (zQ (by exact zB_ HB.out)):w.heap.size≤gb488));have n3_:=zA ((by rw [hg];exact (zQ (by exact zB_ HB.out)):w.heap.size≤gb488));clear HB;have HB:=n0_;have BK488:=n1_;have GW488:=n2_;have GE488:=n3_;clear n0_ n1_ n2_ n3_;clear hb hbox hg)|((with_reducible refine gate_dst (N:=3) rfl ?_);refine box_event ?hg (N:=3) ?hd (cs:=#[.slice A1_0 l1_0.length c1_0,.slice A1_1 l1_1.length c1_1]) (t:=33) ?hr ?_;(case hd=>rfl);(case hg=>rfl);(case hr=>first|(go_simp;done)|(go_simp;rfl));intro gb489 hg w8 hbox hb;have n0_:=zA (blk_below (g:=gb488) (o:=.cells #[.slice A0_0 l0_0.length c0_0,.slice A0_1 l0_1.length c0_1] 33 (0,0)) (by (with_reducible repeat (first|refine zG ?_ _|refine zI ?_|refine zH ?_ _));exact BK488.out) hb);have n1_:=zA (zR (by repeat (first|(with_reducible first|exact HB.out|apply zD|apply zB|apply zC|refine zF ?_ GE488.out)|exact HB.out)) hb);have n2_:=zA (hbox);have n3_:=zA ((by rw [hg];exact (zQ (by repeat (first|(with_reducible first|exact HB.out|apply zD|apply zB|apply zC|refine zF ?_ GE488.out)|exact HB.out))):w.heap.size≤gb489));have n4_:=zA ((by rw [hg];exact (zQ (by repeat (first|(with_reducible first|exact HB.out|apply zD|apply zB|apply zC|refine zF ?_ GE488.out)|exact HB.out))):w.heap.size≤gb489));have n5_:=zA ((by rw [hg];exact Nat.ne_of_lt (blk_lt (g:=gb488) (o:=.cells #[.slice A0_0 l0_0.length c0_0,.slice A0_1 l0_1.length c0_1] 33 (0,0)) (by (with_reducible repeat (first|refine zG ?_ _|refine zI ?_|refine zH ?_ _));exact BK488.out)):gb488≠gb489));have n6_:=zA ((by rw [hg];exact Nat.ne_of_gt (blk_lt (g:=gb488) (o:=.cells #[.slice A0_0 l0_0.length c0_0,.slice A0_1 l0_1.length c0_1] 33 (0,0)) (by (with_reducible repeat (first|refine zG ?_ _|refine zI ?_|refine zH ?_ _));exact BK488.out)):gb489≠gb488));clear BK488;clear HB;have BK488:=n0_;have HB:=n1_;have BK489:=n2_;have GW489:=n3_;have GE489:=n4_;have NB488_489:=n5_;have NB489_488:=n6_;clear n0_ n1_ n2_ n3_ n4_ n5_ n6_;clear hb hbox hg;have hnb9:=NB488_489.out;have hnc9:=NB489_488.out;have hcz10_0:w8.cell? ⟨gb488,0,none⟩ = some (.slice A0_0 l0_0.length c0_0):=(zT BK488.out 0).trans rfl;have hcz10_1:w8.cell? ⟨gb488,1,none⟩ = some (.slice A0_1 l0_1.length c0_1):=(zT BK488.out 1).trans rfl;have hfz10_0:=zY BK488.out 0;have hfz10_1:=zY BK488.out 1;have hcz11_0:w8.cell? ⟨gb489,0,none⟩ = some (.slice A1_0 l1_0.length c1_0):=(zT BK489.out 0).trans rfl;have hcz11_1:w8.cell? ⟨gb489,1,none⟩ = some (.slice A1_1 l1_1.length c1_1):=(zT BK489.out 1).trans rfl;have hfz11_0:=zY BK489.out 0;have hfz11_1:=zY BK489.out 1)|((with_reducible refine gate_callee (f:=86) rfl ?_);refine goesL_ (some 9) rfl rfl Try.func86 (by kernel_rfl) rfl #[.slice A0_0 l0_0.length c0_0,.slice A1_0 l1_0.length c1_0] rfl (by (try simp only [zJ,zM,zN]);first|done|rfl|(simp only [zL,zK];rfl)) ?_;(with_reducible refine (laws_eqIntS.calls k _ _ l0_0 _ _ l1_0 true _ ?side1 ?side2 ?side3 ?side4 A3.out).mono ?_);(case side1=>repeat (first|exact (zW HR0_0.out HB.out)|(with_reducible exact HR0_0.out)|apply zC_));(case side2=>exact HC0_0.out);(case side3=>repeat (first|exact (zW HR1_0.out HB.out)|(with_reducible exact HR1_0.out)|apply zC_));(case side4=>exact HC1_0.out);rintro e w' ⟨rfl,⟨nd,rfl⟩⟩;refine ⟨_,rfl,?_⟩)|((with_reducible refine gate_callee (f:=86) rfl ?_);refine goesL_ (some 15) rfl rfl Try.func86 (by kernel_rfl) rfl #[.slice A0_1 l0_1.length c0_1,.slice A1_1 l1_1.length c1_1] rfl (by (try simp only [zJ,zM,zN]);first|done|rfl|(simp only [zL,zK];rfl)) ?_;(with_reducible refine (laws_eqIntS.calls k _ _ l0_1 _ _ l1_1 true _ ?side1 ?side2 ?side3 ?side4 A5.out).mono ?_);(case side1=>repeat (first|exact (zW HR0_1.out (by repeat (first|(with_reducible first|exact HB.out|apply zD|apply zB|apply zC|refine zF ?_ GE488.out|refine zF ?_ GE489.out)|exact HB.out)))|apply zC_));(case side2=>exact HC0_1.out);(case side3=>repeat (first|exact (zW HR1_1.out (by repeat (first|(with_reducible first|exact HB.out|apply zD|apply zB|apply zC|refine zF ?_ GE488.out|refine zF ?_ GE489.out)|exact HB.out)))|apply zC_));(case side4=>exact HC1_1.out);rintro e w' ⟨rfl,⟨nd,rfl⟩⟩;refine ⟨_,rfl,?_⟩))
   go_ret
   exact ⟨by first|rfl|(simp [errW_none,errW_some] <;> rfl)|(simp [*,errW_none,errW_some] <;> rfl),by repeat (first|(with_reducible first|exact HB.out|apply zD|apply zB|apply zC|refine zF ?_ GE488.out|refine zF ?_ GE489.out)|exact HB.out)⟩
  ·replace c6:=Bool.eq_false_iff.mpr c6
   subst c6
   have H1:(some false) = some r:=by rw [if_neg (show ¬ (false = true) by decide)] at H;exact H
   clear H
   have H:=H1
   clear H1
   obtain rfl:=zS H
   go_enter Try.func58,Try.ntmps58
   go_wp2_with (first|((with_reducible refine gate_dst (N:=2) rfl ?_);refine box_event ?hg (N:=2) ?hd (cs:=#[.slice A0_0 l0_0.length c0_0,.slice A0_1 l0_1.length c0_1]) (t:=33) ?hr ?_;(case hd=>rfl);(case hg=>rfl);(case hr=>first|(go_simp;done)|(go_simp;rfl));intro gb488 hg w12 hbox hb;have n0_:=zA (zR (by exact zB_ HB.out) hb);have n1_:=zA (hbox);have n2_:=zA ((by rw [hg];exact (zQ (by exact zB_ HB.out)):w.heap.size≤gb488));have n3_:=zA ((by rw [hg];exact (zQ (by exact zB_ HB.out)):w.heap.size≤gb488));clear HB;have HB:=n0_;have BK488:=n1_;have GW488:=n2_;have GE488:=n3_;clear n0_ n1_ n2_ n3_;clear hb hbox hg)|((with_reducible refine gate_dst (N:=3) rfl ?_);refine box_event ?hg (N:=3) ?hd (cs:=#[.slice A1_0 l1_0.length c1_0,.slice A1_1 l1_1.length c1_1]) (t:=33) ?hr ?_;(case hd=>rfl);(case hg=>rfl);(case hr=>first|(go_simp;done)|(go_simp;rfl));intro gb489 hg w13 hbox hb;have n0_:=zA (blk_below (g:=gb488) (o:=.cells #[.slice A0_0 l0_0.length c0_0,.slice A0_1 l0_1.length c0_1] 33 (0,0)) (by (with_reducible repeat (first|refine zG ?_ _|refine zI ?_|refine zH ?_ _));exact BK488.out) hb);have n1_:=zA (zR (by repeat (first|(with_reducible first|exact HB.out|apply zD|apply zB|apply zC|refine zF ?_ GE488.out)|exact HB.out)) hb);have n2_:=zA (hbox);have n3_:=zA ((by rw [hg];exact (zQ (by repeat (first|(with_reducible first|exact HB.out|apply zD|apply zB|apply zC|refine zF ?_ GE488.out)|exact HB.out))):w.heap.size≤gb489));have n4_:=zA ((by rw [hg];exact (zQ (by repeat (first|(with_reducible first|exact HB.out|apply zD|apply zB|apply zC|refine zF ?_ GE488.out)|exact HB.out))):w.heap.size≤gb489));have n5_:=zA ((by rw [hg];exact Nat.ne_of_lt (blk_lt (g:=gb488) (o:=.cells #[.slice A0_0 l0_0.length c0_0,.slice A0_1 l0_1.length c0_1] 33 (0,0)) (by (with_reducible repeat (first|refine zG ?_ _|refine zI ?_|refine zH ?_ _));exact BK488.out)):gb488≠gb489));have n6_:=zA ((by rw [hg];exact Nat.ne_of_gt (blk_lt (g:=gb488) (o:=.cells #[.slice A0_0 l0_0.length c0_0,.slice A0_1 l0_1.length c0_1] 33 (0,0)) (by (with_reducible repeat (first|refine zG ?_ _|refine zI ?_|refine zH ?_ _));exact BK488.out)):gb489≠gb488));clear BK488;clear HB;have BK488:=n0_;have HB:=n1_;have BK489:=n2_;have GW489:=n3_;have GE489:=n4_;have NB488_489:=n5_;have NB489_488:=n6_;clear n0_ n1_ n2_ n3_ n4_ n5_ n6_;clear hb hbox hg;have hnb14:=NB488_489.out;have hnc14:=NB489_488.out;have hcz15_0:w13.cell? ⟨gb488,0,none⟩ = some (.slice A0_0 l0_0.length c0_0):=(zT BK488.out 0).trans rfl;have hcz15_1:w13.cell? ⟨gb488,1,none⟩ = some (.slice A0_1 l0_1.length c0_1):=(zT BK488.out 1).trans rfl;have hfz15_0:=zY BK488.out 0;have hfz15_1:=zY BK488.out 1;have hcz16_0:w13.cell? ⟨gb489,0,none⟩ = some (.slice A1_0 l1_0.length c1_0):=(zT BK489.out 0).trans rfl;have hcz16_1:w13.cell? ⟨gb489,1,none⟩ = some (.slice A1_1 l1_1.length c1_1):=(zT BK489.out 1).trans rfl;have hfz16_0:=zY BK489.out 0;have hfz16_1:=zY BK489.out 1)|((with_reducible refine gate_callee (f:=86) rfl ?_);refine goesL_ (some 9) rfl rfl Try.func86 (by kernel_rfl) rfl #[.slice A0_0 l0_0.length c0_0,.slice A1_0 l1_0.length c1_0] rfl (by (try simp only [zJ,zM,zN]);first|done|rfl|(simp only [zL,zK];rfl)) ?_;(with_reducible refine (laws_eqIntS.calls k _ _ l0_0 _ _ l1_0 true _ ?side1 ?side2 ?side3 ?side4 A3.out).mono ?_);(case side1=>repeat (first|exact (zW HR0_0.out HB.out)|(with_reducible exact HR0_0.out)|apply zC_));(case side2=>exact HC0_0.out);(case side3=>repeat (first|exact (zW HR1_0.out HB.out)|(with_reducible exact HR1_0.out)|apply zC_));(case side4=>exact HC1_0.out);rintro e w' ⟨rfl,⟨nd,rfl⟩⟩;refine ⟨_,rfl,?_⟩)|((with_reducible refine gate_callee (f:=86) rfl ?_);refine goesL_ (some 15) rfl rfl Try.func86 (by kernel_rfl) rfl #[.slice A0_1 l0_1.length c0_1,.slice A1_1 l1_1.length c1_1] rfl (by (try simp only [zJ,zM,zN]);first|done|rfl|(simp only [zL,zK];rfl)) ?_;(with_reducible refine (laws_eqIntS.calls k _ _ l0_1 _ _ l1_1 false _ ?side1 ?side2 ?side3 ?side4 A5.out).mono ?_);(case side1=>repeat (first|exact (zW HR0_1.out (by repeat (first|(with_reducible first|exact HB.out|apply zD|apply zB|apply zC|refine zF ?_ GE488.out|refine zF ?_ GE489.out)|exact HB.out)))|apply zC_));(case side2=>exact HC0_1.out);(case side3=>repeat (first|exact (zW HR1_1.out (by repeat (first|(with_reducible first|exact HB.out|apply zD|apply zB|apply zC|refine zF ?_ GE488.out|refine zF ?_ GE489.out)|exact HB.out)))|apply zC_));(case side4=>exact HC1_1.out);rintro e w' ⟨rfl,⟨nd,rfl⟩⟩;refine ⟨_,rfl,?_⟩))
   go_ret
   exact ⟨by first|rfl|(simp [errW_none,errW_some] <;> rfl)|(simp [*,errW_none,errW_some] <;> rfl),by repeat (first|(with_reducible first|exact HB.out|apply zD|apply zB|apply zC|refine zF ?_ GE488.out|refine zF ?_ GE489.out)|exact HB.out)⟩
 ·replace c4:=Bool.eq_false_iff.mpr c4
  subst c4
  have H1:(some false) = some r:=by rw [if_neg (show ¬ (false = true) by decide)] at H;exact H
  clear H
  have H:=H1
  clear H1
  obtain rfl:=zS H
  go_enter Try.func58,Try.ntmps58
  go_wp2_with (first|((with_reducible refine gate_dst (N:=2) rfl ?_);refine box_event ?hg (N:=2) ?hd (cs:=#[.slice A0_0 l0_0.length c0_0,.slice A0_1 l0_1.length c0_1]) (t:=33) ?hr ?_;(case hd=>rfl);(case hg=>rfl);(case hr=>first|(go_simp;done)|(go_simp;rfl));intro gb488 hg w17 hbox hb;have n0_:=zA (zR (by exact zB_ HB.out) hb);have n1_:=zA (hbox);have n2_:=zA ((by rw [hg];exact (zQ (by exact zB_ HB.out)):w.heap.size≤gb488));have n3_:=zA ((by rw [hg];exact (zQ (by exact zB_ HB.out)):w.heap.size≤gb488));clear HB;have HB:=n0_;have BK488:=n1_;have GW488:=n2_;have GE488:=n3_;clear n0_ n1_ n2_ n3_;clear hb hbox hg)|((with_reducible refine gate_dst (N:=3) rfl ?_);refine box_event ?hg (N:=3) ?hd (cs:=#[.slice A1_0 l1_0.length c1_0,.slice A1_1 l1_1.length c1_1]) (t:=33) ?hr ?_;(case hd=>rfl);(case hg=>rfl);(case hr=>first|(go_simp;done)|(go_simp;rfl));intro gb489 hg w18 hbox hb;have n0_:=zA (blk_below (g:=gb488) (o:=.cells #[.slice A0_0 l0_0.length c0_0,.slice A0_1 l0_1.length c0_1] 33 (0,0)) (by (with_reducible repeat (first|refine zG ?_ _|refine zI ?_|refine zH ?_ _));exact BK488.out) hb);have n1_:=zA (zR (by repeat (first|(with_reducible first|exact HB.out|apply zD|apply zB|apply zC|refine zF ?_ GE488.out)|exact HB.out)) hb);have n2_:=zA (hbox);have n3_:=zA ((by rw [hg];exact (zQ (by repeat (first|(with_reducible first|exact HB.out|apply zD|apply zB|apply zC|refine zF ?_ GE488.out)|exact HB.out))):w.heap.size≤gb489));have n4_:=zA ((by rw [hg];exact (zQ (by repeat (first|(with_reducible first|exact HB.out|apply zD|apply zB|apply zC|refine zF ?_ GE488.out)|exact HB.out))):w.heap.size≤gb489));have n5_:=zA ((by rw [hg];exact Nat.ne_of_lt (blk_lt (g:=gb488) (o:=.cells #[.slice A0_0 l0_0.length c0_0,.slice A0_1 l0_1.length c0_1] 33 (0,0)) (by (with_reducible repeat (first|refine zG ?_ _|refine zI ?_|refine zH ?_ _));exact BK488.out)):gb488≠gb489));have n6_:=zA ((by rw [hg];exact Nat.ne_of_gt (blk_lt (g:=gb488) (o:=.cells #[.slice A0_0 l0_0.length c0_0,.slice A0_1 l0_1.length c0_1] 33 (0,0)) (by (with_reducible repeat (first|refine zG ?_ _|refine zI ?_|refine zH ?_ _));exact BK488.out)):gb489≠gb488));clear BK488;clear HB;have BK488:=n0_;have HB:=n1_;have BK489:=n2_;have GW489:=n3_;have GE489:=n4_;have NB488_489:=n5_;have NB489_488:=n6_;clear n0_ n1_ n2_ n3_ n4_ n5_ n6_;clear hb hbox hg;have hnb19:=NB488_489.out;have hnc19:=NB489_488.out;have hcz20_0:w18.cell? ⟨gb488,0,none⟩ = some (.slice A0_0 l0_0.length c0_0):=(zT BK488.out 0).trans rfl;have hcz20_1:w18.cell? ⟨gb488,1,none⟩ = some (.slice A0_1 l0_1.length c0_1):=(zT BK488.out 1).trans rfl;have hfz20_0:=zY BK488.out 0;have hfz20_1:=zY BK488.out 1;have hcz21_0:w18.cell? ⟨gb489,0,none⟩ = some (.slice A1_0 l1_0.length c1_0):=(zT BK489.out 0).trans rfl;have hcz21_1:w18.cell? ⟨gb489,1,none⟩ = some (.slice A1_1 l1_1.length c1_1):=(zT BK489.out 1).trans rfl;have hfz21_0:=zY BK489.out 0;have hfz21_1:=zY BK489.out 1)|((with_reducible refine gate_callee (f:=86) rfl ?_);refine goesL_ (some 9) rfl rfl Try.func86 (by kernel_rfl) rfl #[.slice A0_0 l0_0.length c0_0,.slice A1_0 l1_0.length c1_0] rfl (by (try simp only [zJ,zM,zN]);first|done|rfl|(simp only [zL,zK];rfl)) ?_;(with_reducible refine (laws_eqIntS.calls k _ _ l0_0 _ _ l1_0 false _ ?side1 ?side2 ?side3 ?side4 A3.out).mono ?_);(case side1=>repeat (first|exact (zW HR0_0.out HB.out)|(with_reducible exact HR0_0.out)|apply zC_));(case side2=>exact HC0_0.out);(case side3=>repeat (first|exact (zW HR1_0.out HB.out)|(with_reducible exact HR1_0.out)|apply zC_));(case side4=>exact HC1_0.out);rintro e w' ⟨rfl,⟨nd,rfl⟩⟩;refine ⟨_,rfl,?_⟩))
  go_ret
  exact ⟨by first|rfl|(simp [errW_none,errW_some] <;> rfl)|(simp [*,errW_none,errW_some] <;> rfl),by repeat (first|(with_reducible first|exact HB.out|apply zD|apply zB|apply zC|refine zF ?_ GE488.out|refine zF ?_ GE489.out)|exact HB.out)⟩

/-! ### laws_eqMapS: function 33 -/
def laws_eqMapS.l0:Nat→List (S33)→List (S33)→Int→Option (Bool)
 | 0,_,_,_=>none
 | k+1,x0,x1,x5=>if x5 < (x0.length:Int) then (if 0≤x5 then (if x5 < (x1.length:Int) then ((laws_eqMap.f k ((rd_T33 x0 x5).f0) ((rd_T33 x0 x5).f1) ((rd_T33 x1 x5).f0) ((rd_T33 x1 x5).f1)).bind fun t494=>(if t494 = true then (laws_eqMapS.l0 k x0 x1 (wrap64 (x5+1))) else (some false))) else (none)) else (none)) else (some true)
def laws_eqMapS.f (k:Nat) (l0:List (S33)) (l1:List (S33)):Option (Bool):=if (l0.length:Int) = (l1.length:Int) then (laws_eqMapS.l0 k l0 l1 0) else (some false)
theorem laws_eqMapS.mono_l:∀ k,(∀ y0 y1 y2,LeO (laws_eqMapS.l0 k y0 y1 y2) (laws_eqMapS.l0 (k+1) y0 y1 y2))
 | 0=>fun _ _ _ r h=>by simp [laws_eqMapS.l0] at h
 | k+1=>by
  have ih0:=laws_eqMapS.mono_l k
  ·intro y0 y1 y2
   unfold laws_eqMapS.l0
   repeat' first
   | (with_reducible exact ih0 _ _ _)
   | (with_reducible exact laws_eqMap.mono _ _ _ _ _)
   | (with_reducible exact LeO.refl _)
   | (with_reducible exact zZ _)
   | (with_reducible refine zb ?_ ?_)
   | (with_reducible refine za ?_ (fun _=>?_))
theorem laws_eqMapS.mono:∀ a0 a1 k,LeO (laws_eqMapS.f k a0 a1) (laws_eqMapS.f (k+1) a0 a1):=by
 intro a0 a1 k
 have ih0:=laws_eqMapS.mono_l k
 unfold laws_eqMapS.f
 repeat' first
   | (with_reducible exact ih0 _ _ _)
   | (with_reducible exact laws_eqMap.mono _ _ _ _ _)
   | (with_reducible exact LeO.refl _)
   | (with_reducible exact zZ _)
   | (with_reducible refine zb ?_ ?_)
   | (with_reducible refine za ?_ (fun _=>?_))
def laws_eqMapS.T6:Bool × List (List Nat × List Nat):=(true,[([],[]),([],[]),([0,1],[0,1]),([2],[2]),([],[]),([],[]),([4,5],[4,5]),([6],[6]),([3,7],[3,7]),([8],[8])])
def laws_eqMapS.B6:List Nat:=[0,0,3,7,0,0,48,112,255,511]
theorem laws_eqMapS.tab6:rtab .any (opsOf Try.f33 6) = laws_eqMapS.T6:=by kernel_rfl
theorem laws_eqMapS.bits6:waitsOk laws_eqMapS.T6.2 laws_eqMapS.B6 = true:=by kernel_rfl
set_option maxHeartbeats 8000000 in
set_option maxRecDepth 100000 in
theorem laws_eqMapS.calls (k:Nat) (A0:Option Addr) (c0:Nat) (l0:List (S33)) (A1:Option Addr) (c1:Nat) (l1:List (S33)) (r:Bool) (w:World) (hr0:Kd.C k33 w A0 l0.length l0) (hc0:l0.length≤c0) (hr1:Kd.C k33 w A1 l1.length l1) (hc1:l1.length≤c1) (h:laws_eqMapS.f k l0 l1 = some r) :
  Calls Try.prog 33 #[.slice A0 l0.length c0,.slice A1 l1.length c1] w fun e w'=>e = .returned (.bool r)∧Below w.heap.size w w':=by
 have hu33:=Try.underlying33
 have HR0:=zA hr0
 have HC0:=zA hc0
 clear hr0 hc0
 have HR1:=zA hr1
 have HC1:=zA hc1
 clear hr1 hc1
 have HB:=zA (Below.refl w.heap.size w)
 have H:(if (l0.length:Int) = (l1.length:Int) then (laws_eqMapS.l0 k l0 l1 0) else (some false)) = some r:=h
 clear h
 by_cases c3:(l0.length:Int) = (l1.length:Int)
 ·rw [if_pos c3] at H
  have c3b0:((l0.length:Int) == (l1.length:Int)) = true:=beq_iff_eq.mpr c3
  have c3b1:((l0.length:Int) != (l1.length:Int)) = false:=bne_eq_false_iff_eq.mpr c3
  have c3b2:(l0.length == l1.length) = true:=by first|simpa using c3|(simp at c3 ⊢;omega)
  clear c3
  have H':=zA H
  clear H
  go_enter Try.func33,Try.ntmps33
  go_wp2
  go_loopg [5] k (fun kq v5 w' => ∃ (x5_1:Int),v5 = .int .i64 x5_1∧Aside0 (laws_eqMapS.l0 kq l0 l1 x5_1 = some r)∧Aside0 (kq≤k)∧Aside0 (Below w.heap.size w w'))
  case atStart=>exact ⟨(0),(by first|rfl|(simp;done)|(simp [*];done)),H',⟨Nat.le_refl _⟩,⟨by exact zB_ HB.out⟩⟩
  case round =>
   clear H'
   (try clear c1);(try clear p2);(try clear c3);(try clear c3b0);(try clear c3b1);(try clear c3b2)
   obtain ⟨x5_1,rfl,HA,HK1,HB⟩:=hrel
   cases gk with
   | zero=>exact absurd HA.out (by simp [laws_eqMapS.l0])
   | succ k1 =>
    have H:=HA.out
    clear HA
    simp only [laws_eqMapS.l0] at H
    by_cases c4:x5_1 < (l0.length:Int)
    ·rw [if_pos c4] at H
     have c4b0:decide (x5_1 < (l0.length:Int)) = true:=zO c4
     clear c4
     by_cases c5:0≤x5_1
     ·rw [if_pos c5] at H
      have c5b0:decide (0≤x5_1) = true:=zO c5
      clear c5
      by_cases c6:x5_1 < (l1.length:Int)
      ·rw [if_pos c6] at H
       have c6b0:decide (x5_1 < (l1.length:Int)) = true:=zO c6
       clear c6
       replace H:=zz0 H
       obtain ⟨t494,A70,H⟩:=H
       try dsimp only at H
       have A7:=zA A70
       clear A70
       by_cases c8:t494 = true
       ·subst c8
        rw [if_pos rfl] at H;try dsimp only at H
        have H':=zA H
        clear H
        try go_wp2
        have n0_:=zA (zC HB.out)
        clear HB
        have HB:=n0_
        clear n0_
        have p492:0≤(x5_1:Int):=zE (by with_reducible assumption)
        have q492:x5_1 < (l0.length:Int):=zE (by with_reducible assumption)
        obtain ⟨ad492,A492_0,c492_0,A492_1,c492_1,e492,hx492_0,hx492_1,hl492_0,hi492_0,hl492_1,hi492_1⟩:=at_T33 HR0.out x5_1 p492 q492
        have hw492_1:=hx492_1
        have hw492_0:=hx492_0
        cases e492
        replace hx492_0:=(HB.out.cell (zX w _ hx492_0)).trans hx492_0
        replace hx492_1:=(HB.out.cell (zX w _ hx492_1)).trans hx492_1
        have HR492_0:=zA hi492_0
        have HC492_0:=zA hl492_0
        clear hi492_0 hl492_0
        have HR492_1:=zA hi492_1
        have HC492_1:=zA hl492_1
        clear hi492_1 hl492_1
        replace p492:=eq_true p492
        replace q492:=eq_true q492
        have p493:0≤(x5_1:Int):=zE (by with_reducible assumption)
        have q493:x5_1 < (l1.length:Int):=zE (by with_reducible assumption)
        obtain ⟨ad493,A493_0,c493_0,A493_1,c493_1,e493,hx493_0,hx493_1,hl493_0,hi493_0,hl493_1,hi493_1⟩:=at_T33 HR1.out x5_1 p493 q493
        have hw493_1:=hx493_1
        have hw493_0:=hx493_0
        cases e493
        replace hx493_0:=(HB.out.cell (zX w _ hx493_0)).trans hx493_0
        replace hx493_1:=(HB.out.cell (zX w _ hx493_1)).trans hx493_1
        have HR493_0:=zA hi493_0
        have HC493_0:=zA hl493_0
        clear hi493_0 hl493_0
        have HR493_1:=zA hi493_1
        have HC493_1:=zA hl493_1
        clear hi493_1 hl493_1
        replace p493:=eq_true p493
        replace q493:=eq_true q493
        refine start_ (n:=10) (S:=fun w'=>w'.cell? (ad492.add ((x5_1).toNat * 2)) = some (.slice A492_0 ((rd_T33 l0 x5_1).f0).length c492_0)∧w'.cell? ⟨(ad492.add ((x5_1).toNat * 2)).block,(ad492.add ((x5_1).toNat * 2)).off+1,none⟩ = some (.slice A492_1 ((rd_T33 l0 x5_1).f1).length c492_1)∧w'.cell? (ad493.add ((x5_1).toNat * 2)) = some (.slice A493_0 ((rd_T33 l1 x5_1).f0).length c493_0)∧w'.cell? ⟨(ad493.add ((x5_1).toNat * 2)).block,(ad493.add ((x5_1).toNat * 2)).off+1,none⟩ = some (.slice A493_1 ((rd_T33 l1 x5_1).f1).length c493_1)) (ds:=[]) #[zf,zf,zf,zf,zf,zf,zf,zf,zf,zf] (by kernel_rfl) rfl rfl ⟨((HB.out.cell (zX w _ hw492_0)).trans hw492_0),((HB.out.cell (zX w _ hw492_1)).trans hw492_1),((HB.out.cell (zX w _ hw493_0)).trans hw493_0),((HB.out.cell (zX w _ hw493_1)).trans hw493_1)⟩ (fun hHeld=>?_);refine with_tabW laws_eqMapS.tab6 laws_eqMapS.bits6 (fun HT_ HW_=>?_)
        generalize wr.drew = w9 at HB HR492_0 HR492_1 HR493_0 HR493_1 hx492_0 hx492_1 hx493_0 hx493_1 hHeld ⊢
        refine pure_ (i:=0) (N:=some 17) (v:=?_) (a':=?_) #[zt,zf,zf,zf,zf,zf,zf,zf,zf,zf] rfl rfl (any_of HT_.out (by kernel_rfl)) (fun _ _ _ h=>h) (Or.inl ⟨by rfl,?_⟩) ?_ ?_
        rotate_left
        ·intro w'
         go_simp
         with_reducible rfl
        rotate_left
        ·simp only [Act.put,zP_,i64_w]
         rfl
        refine pure_ (i:=1) (N:=some 18) (v:=?_) (a':=?_) #[zt,zt,zf,zf,zf,zf,zf,zf,zf,zf] rfl rfl (any_of HT_.out (by kernel_rfl)) (fun _ _ _ h=>h) (Or.inl ⟨by rfl,?_⟩) ?_ ?_
        rotate_left
        ·intro w'
         go_simp
         with_reducible rfl
        rotate_left
        ·simp only [Act.put,zP_,i64_w]
         rfl
        refine pure_ (i:=2) (N:=some 19) (v:=?_) (a':=?_) #[zt,zt,zt,zf,zf,zf,zf,zf,zf,zf] rfl rfl (any_of HT_.out (by kernel_rfl)) (fun _ _ _ h=>h) (Or.inl ⟨by rfl,?_⟩) ?_ ?_
        rotate_left
        ·intro w'
         go_simp
         with_reducible rfl
        rotate_left
        ·simp only [Act.put,zP_,i64_w]
         rfl
        refine pure_ (i:=4) (N:=some 21) (v:=?_) (a':=?_) #[zt,zt,zt,zf,zt,zf,zf,zf,zf,zf] rfl rfl (any_of HT_.out (by kernel_rfl)) (fun _ _ _ h=>h) (Or.inl ⟨by rfl,?_⟩) ?_ ?_
        rotate_left
        ·intro w'
         go_simp
         with_reducible rfl
        rotate_left
        ·simp only [Act.put,zP_,i64_w]
         rfl
        refine pure_ (i:=5) (N:=some 22) (v:=?_) (a':=?_) #[zt,zt,zt,zf,zt,zt,zf,zf,zf,zf] rfl rfl (any_of HT_.out (by kernel_rfl)) (fun _ _ _ h=>h) (Or.inl ⟨by rfl,?_⟩) ?_ ?_
        rotate_left
        ·intro w'
         go_simp
         with_reducible rfl
        rotate_left
        ·simp only [Act.put,zP_,i64_w]
         rfl
        refine pure_ (i:=6) (N:=some 23) (v:=?_) (a':=?_) #[zt,zt,zt,zf,zt,zt,zt,zf,zf,zf] rfl rfl (any_of HT_.out (by kernel_rfl)) (fun _ _ _ h=>h) (Or.inl ⟨by rfl,?_⟩) ?_ ?_
        rotate_left
        ·intro w'
         go_simp
         with_reducible rfl
        rotate_left
        ·simp only [Act.put,zP_,i64_w]
         rfl
        refine take_ (i:=3) (N:=some 20) (v:=?_) (a':=?_) #[zt,zt,zt,zt,zt,zt,zt,zf,zf,zf] rfl rfl (take_ofW HT_.out HW_.out (by kernel_rfl)) (fun _ _ _ h=>h) (Or.inl ⟨by rfl,?_⟩) hHeld ?_ ?_
        rotate_left
        ·rintro w' ⟨s0,s1,s2,s3⟩
         go_simp
         with_reducible rfl
        rotate_left
        ·simp only [Act.put,zP_,i64_w]
         rfl
        refine take_ (i:=7) (N:=some 24) (v:=?_) (a':=?_) #[zt,zt,zt,zt,zt,zt,zt,zt,zf,zf] rfl rfl (take_ofW HT_.out HW_.out (by kernel_rfl)) (fun _ _ _ h=>h) (Or.inl ⟨by rfl,?_⟩) hHeld ?_ ?_
        rotate_left
        ·rintro w' ⟨s0,s1,s2,s3⟩
         go_simp
         with_reducible rfl
        rotate_left
        ·simp only [Act.put,zP_,i64_w]
         rfl
        refine one_ (i:=8) (N:=some 25) #[zt,zt,zt,zt,zt,zt,zt,zt,zt,zf] rfl rfl (one_of HT_.out (by kernel_rfl)) (by decide) (fun K hK=>?_)
        refine goes_ Try.func58 (by kernel_rfl) rfl #[.agg #[.slice A492_0 ((rd_T33 l0 x5_1).f0).length c492_0,.slice A492_1 ((rd_T33 l0 x5_1).f1).length c492_1],.agg #[.slice A493_0 ((rd_T33 l1 x5_1).f0).length c493_0,.slice A493_1 ((rd_T33 l1 x5_1).f1).length c493_1]] (by rfl) rfl rfl (by (try simp only [zJ,zM,zN]);first|done|rfl|(simp only [zL,zK];rfl)) ?_
        with_reducible refine (laws_eqMap.calls k1 _ _ ((rd_T33 l0 x5_1).f0) _ _ ((rd_T33 l0 x5_1).f1) _ _ ((rd_T33 l1 x5_1).f0) _ _ ((rd_T33 l1 x5_1).f1) true _ ?side1 ?side2 ?side3 ?side4 ?side5 ?side6 ?side7 ?side8 A7.out).mono ?_
        (case side1=>repeat (first|exact (zW HR492_0.out HB.out)|(with_reducible exact HR492_0.out)|apply zC_))
        (case side2=>exact HC492_0.out)
        (case side3=>repeat (first|exact (zW HR492_1.out HB.out)|(with_reducible exact HR492_1.out)|apply zC_))
        (case side4=>exact HC492_1.out)
        (case side5=>repeat (first|exact (zW HR493_0.out HB.out)|(with_reducible exact HR493_0.out)|apply zC_))
        (case side6=>exact HC493_0.out)
        (case side7=>repeat (first|exact (zW HR493_1.out HB.out)|(with_reducible exact HR493_1.out)|apply zC_))
        (case side8=>exact HC493_1.out)
        rintro e w10 ⟨rfl,hb⟩
        refine ⟨_,rfl,?_⟩
        have n0_:=zA (zR (by exact zB_ HB.out) hb)
        clear HB
        have HB:=n0_
        clear n0_
        (try clear hb);(try clear hb2);(try clear hk);(try clear hi)
        refine hK.out _ _ ⟨((HB.out.cell (zX w _ hw492_0)).trans hw492_0),((HB.out.cell (zX w _ hw492_1)).trans hw492_1),((HB.out.cell (zX w _ hw493_0)).trans hw493_0),((HB.out.cell (zX w _ hw493_1)).trans hw493_1)⟩ (fun hHeld=>?_)
        clear hK K
        refine norm_ (a':=?_) ?_ ?_
        rotate_left
        ·show Act.put _ (some 25) _ = _
         simp only [Act.put,zP_,i64_w]
         rfl
        refine pure_ (i:=9) (N:=some 26) (v:=?_) (a':=?_) #[zt,zt,zt,zt,zt,zt,zt,zt,zt,zt] rfl rfl (any_of HT_.out (by kernel_rfl)) (fun _ _ _ h=>h) (Or.inl ⟨by rfl,?_⟩) ?_ ?_
        rotate_left
        ·intro w'
         go_simp
         with_reducible rfl
        rotate_left
        ·simp only [Act.put,zP_,i64_w]
         rfl
        refine done_ (done_of HT_.out (by kernel_rfl)) ?_
        try go_wp2
        go_roundg k1
        case measure=>have:=HK1.out;omega
        case rel=>exact ⟨(wrap64 (x5_1+1)),(by first|rfl|(simp;done)|(simp [*];done)),H',⟨by have:=HK1.out;omega⟩,⟨by exact zB_ HB.out⟩⟩
       ·replace c8:=Bool.eq_false_iff.mpr c8
        subst c8
        have H1:(some false) = some r:=by rw [if_neg (show ¬ (false = true) by decide)] at H;exact H
        clear H
        have H:=H1
        clear H1
        obtain rfl:=zS H
        try go_wp2
        have n0_:=zA (zC HB.out)
        clear HB
        have HB:=n0_
        clear n0_
        have p492:0≤(x5_1:Int):=zE (by with_reducible assumption)
        have q492:x5_1 < (l0.length:Int):=zE (by with_reducible assumption)
        obtain ⟨ad492,A492_0,c492_0,A492_1,c492_1,e492,hx492_0,hx492_1,hl492_0,hi492_0,hl492_1,hi492_1⟩:=at_T33 HR0.out x5_1 p492 q492
        have hw492_1:=hx492_1
        have hw492_0:=hx492_0
        cases e492
        replace hx492_0:=(HB.out.cell (zX w _ hx492_0)).trans hx492_0
        replace hx492_1:=(HB.out.cell (zX w _ hx492_1)).trans hx492_1
        have HR492_0:=zA hi492_0
        have HC492_0:=zA hl492_0
        clear hi492_0 hl492_0
        have HR492_1:=zA hi492_1
        have HC492_1:=zA hl492_1
        clear hi492_1 hl492_1
        replace p492:=eq_true p492
        replace q492:=eq_true q492
        have p493:0≤(x5_1:Int):=zE (by with_reducible assumption)
        have q493:x5_1 < (l1.length:Int):=zE (by with_reducible assumption)
        obtain ⟨ad493,A493_0,c493_0,A493_1,c493_1,e493,hx493_0,hx493_1,hl493_0,hi493_0,hl493_1,hi493_1⟩:=at_T33 HR1.out x5_1 p493 q493
        have hw493_1:=hx493_1
        have hw493_0:=hx493_0
        cases e493
        replace hx493_0:=(HB.out.cell (zX w _ hx493_0)).trans hx493_0
        replace hx493_1:=(HB.out.cell (zX w _ hx493_1)).trans hx493_1
        have HR493_0:=zA hi493_0
        have HC493_0:=zA hl493_0
        clear hi493_0 hl493_0
        have HR493_1:=zA hi493_1
        have HC493_1:=zA hl493_1
        clear hi493_1 hl493_1
        replace p493:=eq_true p493
        replace q493:=eq_true q493
        refine start_ (n:=10) (S:=fun w'=>w'.cell? (ad492.add ((x5_1).toNat * 2)) = some (.slice A492_0 ((rd_T33 l0 x5_1).f0).length c492_0)∧w'.cell? ⟨(ad492.add ((x5_1).toNat * 2)).block,(ad492.add ((x5_1).toNat * 2)).off+1,none⟩ = some (.slice A492_1 ((rd_T33 l0 x5_1).f1).length c492_1)∧w'.cell? (ad493.add ((x5_1).toNat * 2)) = some (.slice A493_0 ((rd_T33 l1 x5_1).f0).length c493_0)∧w'.cell? ⟨(ad493.add ((x5_1).toNat * 2)).block,(ad493.add ((x5_1).toNat * 2)).off+1,none⟩ = some (.slice A493_1 ((rd_T33 l1 x5_1).f1).length c493_1)) (ds:=[]) #[zf,zf,zf,zf,zf,zf,zf,zf,zf,zf] (by kernel_rfl) rfl rfl ⟨((HB.out.cell (zX w _ hw492_0)).trans hw492_0),((HB.out.cell (zX w _ hw492_1)).trans hw492_1),((HB.out.cell (zX w _ hw493_0)).trans hw493_0),((HB.out.cell (zX w _ hw493_1)).trans hw493_1)⟩ (fun hHeld=>?_);refine with_tabW laws_eqMapS.tab6 laws_eqMapS.bits6 (fun HT_ HW_=>?_)
        generalize wr.drew = w11 at HB HR492_0 HR492_1 HR493_0 HR493_1 hx492_0 hx492_1 hx493_0 hx493_1 hHeld ⊢
        refine pure_ (i:=0) (N:=some 17) (v:=?_) (a':=?_) #[zt,zf,zf,zf,zf,zf,zf,zf,zf,zf] rfl rfl (any_of HT_.out (by kernel_rfl)) (fun _ _ _ h=>h) (Or.inl ⟨by rfl,?_⟩) ?_ ?_
        rotate_left
        ·intro w'
         go_simp
         with_reducible rfl
        rotate_left
        ·simp only [Act.put,zP_,i64_w]
         rfl
        refine pure_ (i:=1) (N:=some 18) (v:=?_) (a':=?_) #[zt,zt,zf,zf,zf,zf,zf,zf,zf,zf] rfl rfl (any_of HT_.out (by kernel_rfl)) (fun _ _ _ h=>h) (Or.inl ⟨by rfl,?_⟩) ?_ ?_
        rotate_left
        ·intro w'
         go_simp
         with_reducible rfl
        rotate_left
        ·simp only [Act.put,zP_,i64_w]
         rfl
        refine pure_ (i:=2) (N:=some 19) (v:=?_) (a':=?_) #[zt,zt,zt,zf,zf,zf,zf,zf,zf,zf] rfl rfl (any_of HT_.out (by kernel_rfl)) (fun _ _ _ h=>h) (Or.inl ⟨by rfl,?_⟩) ?_ ?_
        rotate_left
        ·intro w'
         go_simp
         with_reducible rfl
        rotate_left
        ·simp only [Act.put,zP_,i64_w]
         rfl
        refine pure_ (i:=4) (N:=some 21) (v:=?_) (a':=?_) #[zt,zt,zt,zf,zt,zf,zf,zf,zf,zf] rfl rfl (any_of HT_.out (by kernel_rfl)) (fun _ _ _ h=>h) (Or.inl ⟨by rfl,?_⟩) ?_ ?_
        rotate_left
        ·intro w'
         go_simp
         with_reducible rfl
        rotate_left
        ·simp only [Act.put,zP_,i64_w]
         rfl
        refine pure_ (i:=5) (N:=some 22) (v:=?_) (a':=?_) #[zt,zt,zt,zf,zt,zt,zf,zf,zf,zf] rfl rfl (any_of HT_.out (by kernel_rfl)) (fun _ _ _ h=>h) (Or.inl ⟨by rfl,?_⟩) ?_ ?_
        rotate_left
        ·intro w'
         go_simp
         with_reducible rfl
        rotate_left
        ·simp only [Act.put,zP_,i64_w]
         rfl
        refine pure_ (i:=6) (N:=some 23) (v:=?_) (a':=?_) #[zt,zt,zt,zf,zt,zt,zt,zf,zf,zf] rfl rfl (any_of HT_.out (by kernel_rfl)) (fun _ _ _ h=>h) (Or.inl ⟨by rfl,?_⟩) ?_ ?_
        rotate_left
        ·intro w'
         go_simp
         with_reducible rfl
        rotate_left
        ·simp only [Act.put,zP_,i64_w]
         rfl
        refine take_ (i:=3) (N:=some 20) (v:=?_) (a':=?_) #[zt,zt,zt,zt,zt,zt,zt,zf,zf,zf] rfl rfl (take_ofW HT_.out HW_.out (by kernel_rfl)) (fun _ _ _ h=>h) (Or.inl ⟨by rfl,?_⟩) hHeld ?_ ?_
        rotate_left
        ·rintro w' ⟨s0,s1,s2,s3⟩
         go_simp
         with_reducible rfl
        rotate_left
        ·simp only [Act.put,zP_,i64_w]
         rfl
        refine take_ (i:=7) (N:=some 24) (v:=?_) (a':=?_) #[zt,zt,zt,zt,zt,zt,zt,zt,zf,zf] rfl rfl (take_ofW HT_.out HW_.out (by kernel_rfl)) (fun _ _ _ h=>h) (Or.inl ⟨by rfl,?_⟩) hHeld ?_ ?_
        rotate_left
        ·rintro w' ⟨s0,s1,s2,s3⟩
         go_simp
         with_reducible rfl
        rotate_left
        ·simp only [Act.put,zP_,i64_w]
         rfl
        refine one_ (i:=8) (N:=some 25) #[zt,zt,zt,zt,zt,zt,zt,zt,zt,zf] rfl rfl (one_of HT_.out (by kernel_rfl)) (by decide) (fun K hK=>?_)
        refine goes_ Try.func58 (by kernel_rfl) rfl #[.agg #[.slice A492_0 ((rd_T33 l0 x5_1).f0).length c492_0,.slice A492_1 ((rd_T33 l0 x5_1).f1).length c492_1],.agg #[.slice A493_0 ((rd_T33 l1 x5_1).f0).length c493_0,.slice A493_1 ((rd_T33 l1 x5_1).f1).length c493_1]] (by rfl) rfl rfl (by (try simp only [zJ,zM,zN]);first|done|rfl|(simp only [zL,zK];rfl)) ?_
        with_reducible refine (laws_eqMap.calls k1 _ _ ((rd_T33 l0 x5_1).f0) _ _ ((rd_T33 l0 x5_1).f1) _ _ ((rd_T33 l1 x5_1).f0) _ _ ((rd_T33 l1 x5_1).f1) false _ ?side1 ?side2 ?side3 ?side4 ?side5 ?side6 ?side7 ?side8 A7.out).mono ?_
        (case side1=>repeat (first|exact (zW HR492_0.out HB.out)|(with_reducible exact HR492_0.out)|apply zC_))
        (case side2=>exact HC492_0.out)
        (case side3=>repeat (first|exact (zW HR492_1.out HB.out)|(with_reducible exact HR492_1.out)|apply zC_))
        (case side4=>exact HC492_1.out)
        (case side5=>repeat (first|exact (zW HR493_0.out HB.out)|(with_reducible exact HR493_0.out)|apply zC_))
        (case side6=>exact HC493_0.out)
        (case side7=>repeat (first|exact (zW HR493_1.out HB.out)|(with_reducible exact HR493_1.out)|apply zC_))
        (case side8=>exact HC493_1.out)
        rintro e w12 ⟨rfl,hb⟩
        refine ⟨_,rfl,?_⟩
        have n0_:=zA (zR (by exact zB_ HB.out) hb)
        clear HB
        have HB:=n0_
        clear n0_
        (try clear hb);(try clear hb2);(try clear hk);(try clear hi)
        refine hK.out _ _ ⟨((HB.out.cell (zX w _ hw492_0)).trans hw492_0),((HB.out.cell (zX w _ hw492_1)).trans hw492_1),((HB.out.cell (zX w _ hw493_0)).trans hw493_0),((HB.out.cell (zX w _ hw493_1)).trans hw493_1)⟩ (fun hHeld=>?_)
        clear hK K
        refine norm_ (a':=?_) ?_ ?_
        rotate_left
        ·show Act.put _ (some 25) _ = _
         simp only [Act.put,zP_,i64_w]
         rfl
        refine pure_ (i:=9) (N:=some 26) (v:=?_) (a':=?_) #[zt,zt,zt,zt,zt,zt,zt,zt,zt,zt] rfl rfl (any_of HT_.out (by kernel_rfl)) (fun _ _ _ h=>h) (Or.inl ⟨by rfl,?_⟩) ?_ ?_
        rotate_left
        ·intro w'
         go_simp
         with_reducible rfl
        rotate_left
        ·simp only [Act.put,zP_,i64_w]
         rfl
        refine done_ (done_of HT_.out (by kernel_rfl)) ?_
        try go_wp2
        go_ret
        exact ⟨by first|rfl|(simp [errW_none,errW_some] <;> rfl)|(simp [*,errW_none,errW_some] <;> rfl),by exact zB_ HB.out⟩
      ·rw [if_neg c6] at H
       exact absurd H (by simp)
     ·rw [if_neg c5] at H
      exact absurd H (by simp)
    ·rw [if_neg c4] at H
     have c4b0:decide (x5_1 < (l0.length:Int)) = false:=zP c4
     clear c4
     obtain rfl:=zS H
     go_wp2
     go_ret
     exact ⟨by first|rfl|(simp [errW_none,errW_some] <;> rfl)|(simp [*,errW_none,errW_some] <;> rfl),by exact zB_ HB.out⟩
 ·rw [if_neg c3] at H
  have c3b0:((l0.length:Int) == (l1.length:Int)) = false:=beq_eq_false_iff_ne.mpr c3
  have c3b1:((l0.length:Int) != (l1.length:Int)) = true:=bne_iff_ne.mpr c3
  have c3b2:(l0.length == l1.length) = false:=by first|simpa using c3|(simp at c3 ⊢;omega)
  obtain rfl:=zS H
  go_enter Try.func33,Try.ntmps33
  go_wp2
  go_ret
  exact ⟨by first|rfl|(simp [errW_none,errW_some] <;> rfl)|(simp [*,errW_none,errW_some] <;> rfl),by exact zB_ HB.out⟩

/-! ### laws_markIntS: function 59 -/
def laws_markIntS.l0:Nat→List Int→Int→Int→Option (Int × List Int)
 | 0,_,_,_=>none
 | k+1,x0,x1,x5=>if x5 < (x0.length:Int) then (if 0≤x5 then (laws_markIntS.l0 k (x0.set (x5:Int).toNat x1) (wrap64 (x1+1)) (wrap64 (x5+1))) else (none)) else (some (x1,x0))
def laws_markIntS.f (k:Nat) (l0:List Int) (a1:Int):Option (Int × List Int):=laws_markIntS.l0 k l0 a1 0
theorem laws_markIntS.mono_l:∀ k,(∀ y0 y1 y2,LeO (laws_markIntS.l0 k y0 y1 y2) (laws_markIntS.l0 (k+1) y0 y1 y2))
 | 0=>fun _ _ _ r h=>by simp [laws_markIntS.l0] at h
 | k+1=>by
  have ih0:=laws_markIntS.mono_l k
  ·intro y0 y1 y2
   unfold laws_markIntS.l0
   repeat' first
   | (with_reducible exact ih0 _ _ _)
   | (with_reducible exact LeO.refl _)
   | (with_reducible exact zZ _)
   | (with_reducible refine zb ?_ ?_)
   | (with_reducible refine za ?_ (fun _=>?_))
theorem laws_markIntS.mono:∀ a0 a1 k,LeO (laws_markIntS.f k a0 a1) (laws_markIntS.f (k+1) a0 a1):=by
 intro a0 a1 k
 have ih0:=laws_markIntS.mono_l k
 unfold laws_markIntS.f
 repeat' first
   | (with_reducible exact ih0 _ _ _)
   | (with_reducible exact LeO.refl _)
   | (with_reducible exact zZ _)
   | (with_reducible refine zb ?_ ?_)
   | (with_reducible refine za ?_ (fun _=>?_))
set_option maxHeartbeats 8000000 in
set_option maxRecDepth 100000 in
theorem laws_markIntS.calls (k:Nat) (P0_:Nat→Prop) (u9000_:Value) (l0:List Int) (a1:Int) (r1:Int) (r2:List Int) (w0 w:World) (hB:Below w0.heap.size w0 w) (ho0:Kd.R (Kd.int .i64) 3 w w0.heap.size P0_ u9000_ l0) (h:laws_markIntS.f k l0 a1 = some (r1,r2)) :
  Calls Try.prog 59 #[u9000_,.int .i64 a1] w fun e w'=>e = .returned (.int .i64 r1)∧Kd.R (Kd.int .i64) 3 w' w0.heap.size (fun k_=>(P0_ k_∨w.heap.size≤k_)) u9000_ r2∧Below w0.heap.size w0 w'∧Kept w w' (fun k_=>P0_ k_):=by
 have HO0:=zA (show Kd.R (Kd.int .i64) 3 w w0.heap.size (fun k_=>(P0_ k_∨w.heap.size≤k_)) u9000_ l0 from zV ho0 (fun k_ hk=>(.inl hk)))
 have HK:=zA (Kept.refl w (fun k_=>P0_ k_))
 have HW0:=zA hB.size
 have HB:=zA hB
 clear hB
 have H:(laws_markIntS.l0 k l0 a1 0) = some (r1,r2):=h
 clear h
 have H':=zA H
 clear H
 go_enter Try.func59,Try.ntmps59
 go_wp2
 go_loopg [1,5] k (fun kq v1 v5 w' => ∃ (x0_1:List Int) (x1_1:Int) (x5_1:Int),v1 = .int .i64 x1_1∧v5 = .int .i64 x5_1∧Aside0 (laws_markIntS.l0 kq x0_1 x1_1 x5_1 = some (r1,r2))∧Aside0 (kq≤k)∧Aside0 (Kd.R (Kd.int .i64) 3 w' w0.heap.size (fun k_=>(P0_ k_∨w.heap.size≤k_)) u9000_ x0_1)∧Aside0 (Kept w w' (fun k_=>P0_ k_))∧Aside0 (Below w0.heap.size w0 w'))
 case atStart=>exact ⟨(l0),(a1),(0),(by first|rfl|(simp;done)|(simp [*];done)),(by first|rfl|(simp;done)|(simp [*];done)),H',⟨Nat.le_refl _⟩,⟨by apply zR_;exact HO0.out⟩,⟨by repeat (first|(with_reducible first|exact HK.out|apply Kept.alloc|apply Kept.drewN|apply Kept.drew)|exact HK.out)⟩,⟨by exact zB_ HB.out⟩⟩
 case round =>
  clear H'
  (try clear p2)
  obtain ⟨x0_1,x1_1,x5_1,rfl,rfl,HA,HK1,HO_0,HK,HB⟩:=hrel
  cases gk with
  | zero=>exact absurd HA.out (by simp [laws_markIntS.l0])
  | succ k1 =>
   have H:=HA.out
   clear HA
   simp only [laws_markIntS.l0] at H
   by_cases c3:x5_1 < (x0_1.length:Int)
   ·rw [if_pos c3] at H
    have c3b0:decide (x5_1 < (x0_1.length:Int)) = true:=zO c3
    clear c3
    by_cases c4:0≤x5_1
    ·rw [if_pos c4] at H
     have c4b0:decide (0≤x5_1) = true:=zO c4
     clear c4
     obtain ⟨y495,hy495⟩:∃ y_:List Int,y_ = (x0_1.set (x5_1:Int).toNat x1_1):=⟨_,rfl⟩
     replace H:(laws_markIntS.l0 k1 y495 (wrap64 (x1_1+1)) (wrap64 (x5_1+1))) = some (r1,r2):=by (try rw [hy495]);first|with_reducible exact H|with_reducible exact zS_ H|exact H
     have Ny495:=zA hy495
     clear hy495
     have H':=zA H
     clear H
     obtain ⟨Ao6,co6,eo6⟩:=zd HO_0.out
     subst eo6
     have p5:0≤(x5_1:Int):=zE (by with_reducible assumption)
     have q5:(x5_1:Int) < ((x0_1.length:Int):Int):=zE (by with_reducible assumption)
     obtain ⟨go5,co5,eo5,gb5,gl5,cl5,HG5⟩:=Kd.R_form HO_0.out (by omega)
     (first|cases eo5|(injection eo5 with ea_ en_ ec_;(first|subst ea_|(injection ea_ with ea_;subst ea_));subst ec_;clear en_))
     have GB5:=zA gb5
     have GG5:=zA HG5
     clear gb5 gl5 HG5
     have HMgo5:=zA (show (P0_ go5∨w.heap.size≤go5) from (HO_0.out.1 _ rfl))
     obtain ⟨hx5_0,hf5_0⟩:=Kd.R_celln 0 HO_0.out (x5_1:Int) p5 q5
     replace p5:=eq_true p5
     replace q5:=eq_true q5
     have HP7:=Kd.R_putg HO_0.out (x5_1:Int) x1_1
     go_wp2_with (first|((with_reducible refine gate_store (t:=3) (p:=15) rfl ?_);refine store_event (t:=3) (p:=15) (v:=?vo_w8) (w1:=(wr.setCell ⟨go5,(x5_1:Int).toNat,none⟩ (.int .i64 x1_1))) ?hg ?ho ?hn ?hr ?_;(case ho=>rfl);(case hg=>rfl);(case hn=>rfl);(case hr=>first|(go_simp;done)|(go_simp;rfl));intro w8 hw;have hg:wr.grownBy w8 (some go5):=(by rw [hw];exact HP7.2);have hp_:Kd.R (Kd.int .i64) 3 w8 w0.heap.size (fun k_=>(P0_ k_∨w.heap.size≤k_)) (.slice (some ⟨go5,0,none⟩) x0_1.length co6) y495:=(by rw [hw,Ny495.out];exact HP7.1);clear HP7;have n0_:=zA (hp_);have n1_:=zA ((by rw [hw];exact zF (HB.out) GB5.out:Below w0.heap.size w0 w8));have n2_:=zA (Kept.of_grown (S:=(fun k_=>P0_ k_)) hg (by repeat (first|(with_reducible first|exact HK.out|apply Kept.alloc|apply Kept.drewN|apply Kept.drew)|exact HK.out)) (fun k_ e_=>(HO_0.out.1 k_ e_)));clear HO_0;clear HB;clear HK;have HO_0:=n0_;have HB:=n1_;have HK:=n2_;clear n0_ n1_ n2_;clear hg hw hp_))
     go_roundg k1
     case measure=>have:=HK1.out;omega
     case rel=>exact ⟨(y495),(wrap64 (x1_1+1)),(wrap64 (x5_1+1)),(by first|rfl|(simp;done)|(simp [*];done)),(by first|rfl|(simp;done)|(simp [*];done)),H',⟨by have:=HK1.out;omega⟩,⟨by apply zR_;exact HO_0.out⟩,⟨by repeat (first|(with_reducible first|exact HK.out|apply Kept.alloc|apply Kept.drewN|apply Kept.drew)|exact HK.out)⟩,⟨by exact zB_ HB.out⟩⟩
    ·rw [if_neg c4] at H
     exact absurd H (by simp)
   ·rw [if_neg c3] at H
    have c3b0:decide (x5_1 < (x0_1.length:Int)) = false:=zP c3
    clear c3
    simp only [Option.some.injEq,Prod.mk.injEq] at H
    obtain ⟨rfl,rfl⟩:=H
    obtain ⟨Ao9,co9,eo9⟩:=zd HO_0.out
    subst eo9
    go_wp2
    go_ret
    exact ⟨by first|rfl|(simp [errW_none,errW_some] <;> rfl)|(simp [*,errW_none,errW_some] <;> rfl),by apply zR_;exact HO_0.out,by exact zB_ HB.out,by repeat (first|(with_reducible first|exact HK.out|apply Kept.alloc|apply Kept.drewN|apply Kept.drew)|exact HK.out)⟩

/-! ### laws_markMapS: function 34 (a section of my own) -/
def laws_markMapS.all:List S33→Int→Option (List S33 × Int)
 | [],k=>some ([],k)
 | x :: xs,k=>(laws_markIntS.f 60 x.f0 k).bind fun r=>(laws_markIntS.f 60 x.f1 r.1).bind fun q=>if r.2.length = x.f0.length∧q.2.length = x.f1.length then (laws_markMapS.all xs q.1).bind fun s=>some (⟨r.2,q.2⟩ :: s.1,s.2) else none
theorem laws_markMapS.all_cons (x:S33) (xs m:List S33) (k k1:Int) (h:laws_markMapS.all (x :: xs) k = some (m,k1)):∃ r1 r2 q1 q2 m2,laws_markIntS.f 60 x.f0 k = some (r1,r2)∧laws_markIntS.f 60 x.f1 r1 = some (q1,q2)∧(r2.length = x.f0.length∧q2.length = x.f1.length)∧laws_markMapS.all xs q1 = some (m2,k1)∧m = ⟨r2,q2⟩ :: m2:=by
 simp only [laws_markMapS.all] at h
 obtain ⟨⟨r1,r2⟩,hr,h⟩:=zz0 h
 obtain ⟨⟨q1,q2⟩,hq,h⟩:=zz0 h
 simp only at h hq
 by_cases c:r2.length = x.f0.length∧q2.length = x.f1.length
 ·rw [if_pos c] at h
  obtain ⟨⟨m2,k2⟩,hm,h⟩:=zz0 h
  obtain ⟨rfl,rfl⟩:=Prod.mk.inj (zS h)
  exact ⟨r1,r2,q1,q2,m2,hr,hq,c,hm,rfl⟩
 ·rw [if_neg c] at h;cases h
/-- all rows in line -/
def laws_markMapS.flat:List S33→List (List Int)
 | []=>[]
 | x :: xs=>x.f0 :: x.f1 :: laws_markMapS.flat xs
theorem laws_markMapS.flat_app:∀ a b:List S33,laws_markMapS.flat (a ++ b) = laws_markMapS.flat a ++ laws_markMapS.flat b
 | [],_=>rfl
 | x :: xs,b=>by simp [laws_markMapS.flat,laws_markMapS.flat_app xs b]
theorem laws_markMapS.flat_len:∀ a:List S33,(laws_markMapS.flat a).length = a.length * 2
 | []=>rfl
 | x :: xs=>by simp [laws_markMapS.flat,laws_markMapS.flat_len xs];omega
theorem laws_markMapS.flat0:∀ (a:List S33) (j:Nat),(laws_markMapS.flat a).getD (j * 2) [] = (a.getD j ⟨[],[]⟩).f0
 | [],j=>by simp [laws_markMapS.flat]
 | x :: xs,0=>rfl
 | x :: xs,j+1=>by
  rw [show (j+1) * 2 = j * 2+1+1 by omega]
  show (laws_markMapS.flat xs).getD (j * 2) [] = (xs.getD j ⟨[],[]⟩).f0
  exact laws_markMapS.flat0 xs j
theorem laws_markMapS.flat1:∀ (a:List S33) (j:Nat),(laws_markMapS.flat a).getD (j * 2+1) [] = (a.getD j ⟨[],[]⟩).f1
 | [],j=>by simp [laws_markMapS.flat]
 | x :: xs,0=>rfl
 | x :: xs,j+1=>by
  rw [show (j+1) * 2+1 = j * 2+1+1+1 by omega]
  show (laws_markMapS.flat xs).getD (j * 2+1) [] = (xs.getD j ⟨[],[]⟩).f1
  exact laws_markMapS.flat1 xs j
theorem laws_markMapS.cell {W W':World} {a:Addr} {v:Value} (h:W'.heap[a.block]? = W.heap[a.block]?) (hc:W.cell? a = some v):W'.cell? a = some v:=by
 simpa [World.cell?,h] using hc
theorem laws_markMapS.two_at (a:List (List Int)) (r y:List Int) (t:List (List Int)) (j:Nat) (h:j≠a.length):(a ++ r :: t).getD j [] = (a ++ y :: t).getD j []:=by
 simp only [List.getD_eq_getElem?_getD]
 by_cases hlt:j < a.length
 ·rw [List.getElem?_append_left hlt,List.getElem?_append_left hlt]
 ·have hle:a.length≤j:=Nat.le_of_not_lt hlt
  rw [List.getElem?_append_right hle,List.getElem?_append_right hle]
  obtain ⟨q,hq⟩:∃ q,j - a.length = q+1:=⟨j - a.length - 1,by omega⟩
  rw [hq];rfl
theorem laws_markMapS.at_len (a:List (List Int)) (r:List Int) (t:List (List Int)):(a ++ r :: t).getD a.length [] = r:=by
 rw [List.getD_eq_getElem?_getD,List.getElem?_append_right (Nat.le_refl _),Nat.sub_self];rfl
/-- where the rows lie, and what they hold -/
structure laws_markMapS.Rows (W:World) (base:Nat) (b n:Nat) (f:Nat→Nat) (v:Nat→Value) (rows:List (List Int)):Prop where
 cell:∀ j,j < n→W.cell? ⟨b,j,none⟩ = some (v j)
 row:∀ j,j < n→Kd.R (Kd.int .i64) 3 W base (fun k=>k≠b∧f k = j) (v j) (rows.getD j [])
/-- a row written anew -/
theorem laws_markMapS.step {W W':World} {base b n:Nat} {f:Nat→Nat} {v:Nat→Value} {a t:List (List Int)} {y r:List Int} (h:laws_markMapS.Rows W base b n f v (a ++ y :: t)) (ha:a.length < n) (ho:Kd.R (Kd.int .i64) 3 W' base (fun k=>(k≠b∧f k = a.length)∨W.heap.size≤k) (v a.length) r) (hk:Kept W W' (fun k=>k≠b∧f k = a.length)):laws_markMapS.Rows W' base b n f v (a ++ r :: t):=by
 refine ⟨fun j hj=>?_,fun j hj=>?_⟩
 ·have hc:=h.cell j hj
  exact laws_markMapS.cell (hk.2 b (zX W _ hc) (fun h=>h.1 rfl)) hc
 ·by_cases e:j = a.length
  ·subst e
   rw [laws_markMapS.at_len]
   exact zV (Kd.R_tight rfl ho) (fun k hk=>(h.row _ hj).1 k hk.symm)
  ·rw [laws_markMapS.two_at a r y t j e]
   exact Kd.R_step (h.row j hj) (fun k hk1 hlt=>hk.2 k hlt (fun h=>e (hk1.2.symm.trans h.2)))
theorem laws_markMapS.rows_of (l:List S33) (ad:Addr) (c base:Nat) (w:World) (HS:Kd.S impl_rooted.kS 33 w base (fun _=>True) (.slice (some ad) l.length c) l):∃ b f v,ad = ⟨b,0,none⟩∧laws_markMapS.Rows w base b (l.length * 2) f v (laws_markMapS.flat l):=by
 obtain ⟨b,rfl⟩:=Kd.R_head (Kd.S_R HS)
 obtain ⟨f,hR⟩:=HS
 have hel:∀ j:Nat, ∃ u:Value × Value,j < l.length→(w.cell? ⟨b,j * 2,none⟩ = some u.1∧w.cell? ⟨b,j * 2+1,none⟩ = some u.2)∧Kd.R (Kd.int .i64) 3 w base (fun k=>(k≠b∧f k = j)∧some k≠u.2.ownBlock) u.1 (l.getD j ⟨[],[]⟩).f0∧Kd.R (Kd.int .i64) 3 w base (fun k=>(k≠b∧f k = j)∧some k≠u.1.ownBlock) u.2 (l.getD j ⟨[],[]⟩).f1:=by
  intro j
  by_cases hj:j < l.length
  ·rw [show l.length = l.zipIdx.length by simp] at hR
   obtain ⟨cs_,hcl,hM,hcc⟩:=Kd.R_getA hR (⟨[],[]⟩,0) (j:Int) (by omega) (by simpa using hj)
   have e:l.zipIdx.getD (j:Int).toNat (⟨[],[]⟩,0) = (l.getD j ⟨[],[]⟩,j):=by
    rw [Int.toNat_natCast,List.getD_eq_getElem?_getD,List.getD_eq_getElem?_getD,List.getElem?_zipIdx,List.getElem?_eq_getElem hj]
    simp
   rw [e] at hM
   obtain ⟨u0,u1,rfl,h0,h1⟩:=hM
   have fix:∀ k,(True∧some k≠(Value.slice (some ⟨b,0,none⟩) l.zipIdx.length c).ownBlock)∧f k = j→k≠b∧f k = j:=fun k hk=>⟨fun e=>hk.1.2 (by rw [e];simp [Value.ownBlock]),hk.2⟩
   refine ⟨(u0,u1),fun _=>⟨⟨?_,?_⟩,zV h0 (fun k hk=>⟨fix k hk.1,hk.2⟩),zV h1 (fun k hk=>⟨fix k hk.1,hk.2⟩)⟩⟩
   ·have h:=hcc 0 u0 rfl
    rw [Int.toNat_natCast,add_at] at h
    have e2:0+(j * (Kd.tag f impl_rooted.kS).sz+0) = j * 2:=by show 0+(j * 2+0) = j * 2;omega
    rw [e2] at h
    exact h
   ·have h:=hcc 1 u1 rfl
    rw [Int.toNat_natCast,add_at] at h
    have e2:0+(j * (Kd.tag f impl_rooted.kS).sz+1) = j * 2+1:=by show 0+(j * 2+1) = j * 2+1;omega
    rw [e2] at h
    exact h
  ·exact ⟨(.bool false,.bool false),fun h=>absurd h hj⟩
 obtain ⟨v,hv⟩:=Classical.axiomOfChoice hel
 have hg:∀ k:Nat, ∃ m:Nat,(some k = (v (f k)).2.ownBlock→m = f k * 2+1)∧(some k≠(v (f k)).2.ownBlock→m = f k * 2):=by
  intro k
  by_cases h:some k = (v (f k)).2.ownBlock
  ·exact ⟨_,fun _=>rfl,fun g=>absurd h g⟩
  ·exact ⟨_,fun g=>absurd g h,fun _=>rfl⟩
 obtain ⟨g,hg⟩:=Classical.axiomOfChoice hg
 refine ⟨b,g,fun m=>if m % 2 = 0 then (v (m / 2)).1 else (v (m / 2)).2,rfl,⟨fun m hm=>?_,fun m hm=>?_⟩⟩
 ·have hq:=hv (m / 2) (by omega)
  by_cases e:m % 2 = 0
  ·rw [if_pos e, ← hq.1.1,show m / 2 * 2 = m by omega]
  ·rw [if_neg e, ← hq.1.2,show m / 2 * 2+1 = m by omega]
 ·have hq:=hv (m / 2) (by omega)
  by_cases e:m % 2 = 0
  ·rw [if_pos e]
   have h:=laws_markMapS.flat0 l (m / 2)
   rw [show m / 2 * 2 = m by omega] at h
   rw [h]
   refine zV hq.2.1 (fun k hk=>⟨hk.1.1,?_⟩)
   have:=(hg k).2 (by rw [hk.1.2];exact hk.2)
   rw [this,hk.1.2];omega
  ·rw [if_neg e]
   have h:=laws_markMapS.flat1 l (m / 2)
   rw [show m / 2 * 2+1 = m by omega] at h
   rw [h]
   refine zV (Kd.R_tight2 rfl hq.2.2) (fun k hk=>⟨hk.2.1.1,?_⟩)
   have:=(hg k).1 (by rw [hk.2.1.2];exact hk.1)
   rw [this,hk.2.1.2];omega
theorem laws_markMapS.reads (m:List S33) (b base:Nat) (f:Nat→Nat) (v:Nat→Value) (W:World) (hm:m.length≤9223372036854775807) (h:laws_markMapS.Rows W base b (m.length * 2) f v (laws_markMapS.flat m)):Kd.C k33 W (some ⟨b,0,none⟩) m.length m:=by
 refine ⟨rfl,hm,fun hn=>⟨_,rfl,fun j p hj=>?_⟩⟩
 obtain ⟨hjl,hjp⟩:=List.getElem?_eq_some_iff.1 hj
 have hr0:=h.row (j * 2) (by omega)
 have hr1:=h.row (j * 2+1) (by omega)
 have e:m.getD j ⟨[],[]⟩ = p:=by rw [List.getD_eq_getElem?_getD,hj];rfl
 rw [laws_markMapS.flat0,e] at hr0
 rw [laws_markMapS.flat1,e] at hr1
 obtain ⟨A0,c0,hv0⟩:=zd hr0
 obtain ⟨A1,c1,hv1⟩:=zd hr1
 rw [hv0] at hr0
 rw [hv1] at hr1
 refine ⟨[.slice A0 p.f0.length c0,.slice A1 p.f1.length c1],rfl,k33_mk W p (zU hr0).2.1 (zU hr0).2.2 (zU hr1).2.1 (zU hr1).2.2,fun i u hi=>?_⟩
 obtain ⟨hil,hiu⟩:=List.getElem?_eq_some_iff.1 hi
 show W.cell? (Addr.add ⟨b,0,none⟩ (j * 2+i)) = _
 rw [add_at,Nat.zero_add]
 have h2:i = 0∨i = 1:=by simp at hil;omega
 rcases h2 with rfl|rfl
 ·have hu:u = v (j * 2):=by rw [hv0];simpa using hiu.symm
  rw [hu]
  exact h.cell (j * 2) (by omega)
 ·have hu:u = v (j * 2+1):=by rw [hv1];simpa using hiu.symm
  rw [hu]
  exact h.cell (j * 2+1) (by omega)
set_option maxHeartbeats 16000000 in
set_option maxRecDepth 100000 in
theorem laws_markMapS.marks (l m:List S33) (k0 k1:Int) (h:laws_markMapS.all l k0 = some (m,k1)) (hl:l.length≤1000000) (ad:Addr) (c:Nat) (w w0:World) (HS:Kd.S impl_rooted.kS 33 w w0.heap.size (fun _=>True) (.slice (some ad) l.length c) l) (HB:Below w0.heap.size w0 w) :
  Calls Try.prog 34 #[.slice (some ad) l.length c,.int .i64 k0] w fun e w'=>e = .returned (.int .i64 k1)∧(m.length = l.length∧Kd.C k33 w' (some ad) m.length m)∧Below w0.heap.size w0 w':=by
 obtain ⟨b,f,v,rfl,hrows⟩:=laws_markMapS.rows_of l ad c _ w HS
 have HROWS:=zA hrows
 have HALL:=zA h
 have HB0:=zA HB
 have HL:=zA hl
 clear hrows h HS HB hl
 go_enter Try.func34,Try.ntmps34
 go_wp2
 go_loopg [1,5] l.length (fun d v1 v5 wr => ∃ (i k:Int) (m1 m2:List S33),v1 = .int .i64 k∧v5 = .int .i64 i∧Aside0 (0≤i∧i.toNat+d = l.length∧m1.length = i.toNat)∧Aside0 (laws_markMapS.all (l.drop i.toNat) k = some (m2,k1)∧m1 ++ m2 = m)∧Aside0 (laws_markMapS.Rows wr w0.heap.size b (l.length * 2) f v (laws_markMapS.flat m1 ++ laws_markMapS.flat (l.drop i.toNat)))∧Aside0 (Below w0.heap.size w0 wr))
 case atStart=>exact ⟨0,k0,[],m,rfl,rfl,⟨by omega,by simp,rfl⟩,⟨by simpa using HALL.out,rfl⟩,⟨by simpa [laws_markMapS.flat] using HROWS.out⟩,HB0⟩
 case round =>
  clear HROWS HALL HB0
  obtain ⟨i,k,m1,m2,rfl,rfl,HI,HE,HR,HB⟩:=hrel
  cases gk with
  | zero =>
   have hci:decide (i < (l.length:Int)) = false:=zP (by have:=HI.out;omega)
   have he:=HE.out
   rw [List.drop_eq_nil_of_le (by have:=HI.out;omega)] at he
   obtain ⟨e1,e2⟩:=Prod.mk.inj (zS he.1)
   have hr:=HR.out
   rw [List.drop_eq_nil_of_le (by have:=HI.out;omega),show laws_markMapS.flat [] = [] from rfl,List.append_nil] at hr
   have e3:m1 = m:=by rw [← he.2, ← e1,List.append_nil]
   have e4:m.length = l.length:=by rw [← e3];have:=HI.out;omega
   rw [e3, ← e4] at hr
   have HZ:=zA (show m.length = l.length∧Kd.C k33 wr (some ⟨b,0,none⟩) m.length m from ⟨e4,laws_markMapS.reads m b _ f v wr (by rw [e4];have:=HL.out;omega) hr⟩)
   have HK:=zA e2
   clear he e1 e2 e3 e4 hr HR HE
   go_wp2
   go_ret
   exact ⟨by rw [HK.out];rfl,HZ.out,HB.out⟩
  | succ d =>
   have hci:decide (i < (l.length:Int)) = true:=zO (by have:=HI.out;omega)
   have hE:=HE.out
   obtain ⟨y,hy⟩:∃ y,y = l.getD i.toNat ⟨[],[]⟩:=⟨_,rfl⟩
   have hd:l.drop i.toNat = y :: l.drop (i.toNat+1):=by
    rw [hy,List.drop_eq_getElem_cons (by have:=HI.out;omega),List.getD_eq_getElem?_getD,List.getElem?_eq_getElem (by have:=HI.out;omega),Option.getD_some]
   rw [hd] at hE
   obtain ⟨r1,r2,q1,q2,m3,hr,hq,hlen,hall,e2⟩:=laws_markMapS.all_cons _ _ _ _ _ hE.1
   have hR:=HR.out
   rw [hd] at hR
   have fl:=laws_markMapS.flat_len m1
   have hii:(laws_markMapS.flat m1).length = i.toNat * 2:=by have:=HI.out;omega
   have hin:i.toNat * 2+1 < l.length * 2:=by have:=HI.out;omega
   have hrow:=hR.row (i.toNat * 2) (by omega)
   rw [← hii,show laws_markMapS.flat (y :: l.drop (i.toNat+1)) = y.f0 :: y.f1 :: laws_markMapS.flat (l.drop (i.toNat+1)) from rfl,laws_markMapS.at_len,hii] at hrow
   have hcell:=hR.cell (i.toNat * 2) (by omega)
   obtain ⟨Ai,ci,hvi⟩:=zd hrow
   have hsl:wr.cell? ⟨b,i.toNat * 2,none⟩ = some (.slice Ai y.f0.length ci):=by rw [← hvi];exact hcell
   have HVI:=zA hvi
   have HMK:=zA (And.intro (And.intro hr hq) hlen)
   have HN:=zA (show laws_markMapS.all (l.drop (i.toNat+1)) q1 = some (m3,k1)∧(m1 ++ [⟨r2,q2⟩]) ++ m3 = m from ⟨hall,by rw [List.append_assoc, ← hE.2,e2];rfl⟩)
   have HWI:=zA (show wrap64 (i+1) = i+1 by have:=HI.out;have:=HL.out;unfold wrap64;omega)
   have HOY:Aside0 (Kd.R (Kd.int .i64) 3 wr w0.heap.size (fun k=>k≠b∧f k = i.toNat * 2) (.slice Ai y.f0.length ci) y.f0):=⟨by rw [← hvi];exact hrow⟩
   have HRR:=zA (show laws_markMapS.Rows wr w0.heap.size b (l.length * 2) f v (laws_markMapS.flat m1 ++ y.f0 :: y.f1 :: laws_markMapS.flat (l.drop (i.toNat+1))) from hR)
   have HII:=zA (And.intro hii hin)
   have i1:(0≤i) = True:=eq_true HI.out.1
   have i2:(i < (l.length:Int)) = True:=eq_true (by have:=HI.out;omega)
   clear hE hr hq hlen hall e2 hrow hcell hvi HE hd hy hR HR fl hii hin
   go_upto_region 5 with (go_at_call 59;refine (laws_markIntS.calls 60 _ _ y.f0 k r1 r2 w0 wr HB.out HOY.out HMK.out.1.1).mono ?_;rintro e w1 ⟨rfl,ho,hb,hk⟩;have HO1:=zA ho;have HB1:=zA hb;have HK1:=zA hk;clear ho hb hk)
   have hst:=laws_markMapS.step (r:=r2) HRR.out (by have:=HII.out;omega) (by rw [HII.out.1,HVI.out];exact HO1.out) (by rw [HII.out.1];exact HK1.out)
   have hst2:laws_markMapS.Rows w1 w0.heap.size b (l.length * 2) f v ((laws_markMapS.flat m1 ++ [r2]) ++ y.f1 :: laws_markMapS.flat (l.drop (i.toNat+1))):=by rw [List.append_assoc];exact hst
   have hl2:(laws_markMapS.flat m1 ++ [r2]).length = i.toNat * 2+1:=by rw [List.length_append,HII.out.1];rfl
   have hrow2:=hst2.row (i.toNat * 2+1) HII.out.2
   rw [← hl2,laws_markMapS.at_len,hl2] at hrow2
   have hcell2:=hst2.cell (i.toNat * 2+1) HII.out.2
   obtain ⟨Aj,cj,hvj⟩:=zd hrow2
   have hsl2:w1.cell? ⟨b,i.toNat * 2+1,none⟩ = some (.slice Aj y.f1.length cj):=by rw [← hvj];exact hcell2
   have HVJ:=zA hvj
   have HOZ:Aside0 (Kd.R (Kd.int .i64) 3 w1 w0.heap.size (fun k=>k≠b∧f k = i.toNat * 2+1) (.slice Aj y.f1.length cj) y.f1):=⟨by rw [← hvj];exact hrow2⟩
   have HST:=zA hst2
   have HL2:=zA hl2
   clear hsl hst hst2 hl2 hrow2 hcell2 hvj HRR HOY HO1 HK1 HVI
   go_wp2_with (go_at_call 59;refine (laws_markIntS.calls 60 _ _ y.f1 r1 q1 q2 w0 w1 HB1.out HOZ.out HMK.out.1.2).mono ?_;rintro e w2 ⟨rfl,ho,hb,hk⟩;have HO2:=zA ho;have HB2:=zA hb;have HK2:=zA hk;clear ho hb hk)
   go_roundg d
   case measure=>omega
   case rel =>
    refine ⟨i+1,q1,m1 ++ [⟨r2,q2⟩],m3,rfl,by rw [HWI.out],⟨by have:=HI.out;omega,by have:=HI.out;omega,by have:=HI.out;simp;omega⟩,⟨by rw [show (i+1).toNat = i.toNat+1 by have:=HI.out;omega];exact HN.out.1,HN.out.2⟩,⟨?_⟩,HB2⟩
    rw [show (i+1).toNat = i.toNat+1 by have:=HI.out;omega]
    have h3:=laws_markMapS.step (r:=q2) HST.out (by rw [HL2.out];exact HII.out.2) (by rw [HL2.out,HVJ.out];exact HO2.out) (by rw [HL2.out];exact HK2.out)
    rw [laws_markMapS.flat_app,show laws_markMapS.flat [(⟨r2,q2⟩:S33)] = [r2,q2] from rfl]
    rw [show (laws_markMapS.flat m1 ++ [r2]) ++ q2 :: laws_markMapS.flat (l.drop (i.toNat+1)) = (laws_markMapS.flat m1 ++ [r2,q2]) ++ laws_markMapS.flat (l.drop (i.toNat+1)) by simp] at h3
    exact h3
set_option maxHeartbeats 16000000 in
set_option maxRecDepth 100000 in
theorem laws_markMapS.marksA (l m:List S33) (k0 k1:Int) (h:laws_markMapS.all l k0 = some (m,k1)) (hl:l.length≤1000000) (A:Option Addr) (c:Nat) (w w0:World) (HS:Kd.S impl_rooted.kS 33 w w0.heap.size (fun _=>True) (.slice A l.length c) l) (HB:Below w0.heap.size w0 w) :
  Calls Try.prog 34 #[.slice A l.length c,.int .i64 k0] w fun e w'=>e = .returned (.int .i64 k1)∧(m.length = l.length∧Kd.C k33 w' A m.length m)∧Below w0.heap.size w0 w':=by
 cases A with
 | some ad=>exact laws_markMapS.marks l m k0 k1 h hl ad c w w0 HS HB
 | none =>
  have h0:l = []:=by
   cases l with
   | nil=>rfl
   | cons x xs =>
    obtain ⟨g,cap,e,_⟩:=Kd.S_form HS (by simp)
    injection e with e _ _
    cases e
  subst h0
  obtain ⟨e1,e2⟩:=Prod.mk.inj (zS h)
  subst e1
  subst e2
  have HB0:=zA HB
  clear h hl HS HB
  go_enter Try.func34,Try.ntmps34
  go_wp2
  go_loopg [1,5] 0 (fun d v1 v5 wr=>v1 = .int .i64 k0∧v5 = .int .i64 0∧Aside0 (wr = w))
  case atStart=>exact ⟨rfl,rfl,⟨rfl⟩⟩
  case round =>
   obtain ⟨rfl,rfl,hw⟩:=hrel
   obtain rfl:=hw.out
   clear hw
   go_wp2
   go_ret
   exact ⟨by first|rfl|trivial,⟨by first|trivial|rfl,Kd.C_nil _ _⟩,HB0.out⟩

/-! ### laws_heldIntS: function 60 -/
def laws_heldIntS.l0:Nat→List Int→Int→Int→Option (Int)
 | 0,_,_,_=>none
 | k+1,x0,x1,x5=>if x5 < (x0.length:Int) then (if 0≤x5 then (if (rd x0 x5) = x1 then (laws_heldIntS.l0 k x0 (wrap64 (x1+1)) (wrap64 (x5+1))) else (some (-1))) else (none)) else (some x1)
def laws_heldIntS.f (k:Nat) (l0:List Int) (a1:Int):Option (Int):=laws_heldIntS.l0 k l0 a1 0
theorem laws_heldIntS.mono_l:∀ k,(∀ y0 y1 y2,LeO (laws_heldIntS.l0 k y0 y1 y2) (laws_heldIntS.l0 (k+1) y0 y1 y2))
 | 0=>fun _ _ _ r h=>by simp [laws_heldIntS.l0] at h
 | k+1=>by
  have ih0:=laws_heldIntS.mono_l k
  ·intro y0 y1 y2
   unfold laws_heldIntS.l0
   repeat' first
   | (with_reducible exact ih0 _ _ _)
   | (with_reducible exact LeO.refl _)
   | (with_reducible exact zZ _)
   | (with_reducible refine zb ?_ ?_)
   | (with_reducible refine za ?_ (fun _=>?_))
theorem laws_heldIntS.mono:∀ a0 a1 k,LeO (laws_heldIntS.f k a0 a1) (laws_heldIntS.f (k+1) a0 a1):=by
 intro a0 a1 k
 have ih0:=laws_heldIntS.mono_l k
 unfold laws_heldIntS.f
 repeat' first
   | (with_reducible exact ih0 _ _ _)
   | (with_reducible exact LeO.refl _)
   | (with_reducible exact zZ _)
   | (with_reducible refine zb ?_ ?_)
   | (with_reducible refine za ?_ (fun _=>?_))
set_option maxHeartbeats 8000000 in
set_option maxRecDepth 100000 in
theorem laws_heldIntS.calls (k:Nat) (A0:Option Addr) (c0:Nat) (l0:List Int) (a1:Int) (r:Int) (w:World) (hr0:Kd.C (Kd.int .i64) w A0 l0.length l0) (hc0:l0.length≤c0) (h:laws_heldIntS.f k l0 a1 = some r) :
  Calls Try.prog 60 #[.slice A0 l0.length c0,.int .i64 a1] w fun e w'=>e = .returned (.int .i64 r)∧Drawn0 w w':=by
 have HR0:=zA hr0
 have HC0:=zA hc0
 clear hr0 hc0
 have H:(laws_heldIntS.l0 k l0 a1 0) = some r:=h
 clear h
 have H':=zA H
 clear H
 go_enter Try.func60,Try.ntmps60
 go_wp2
 go_loopg [1,5] k (fun kq v1 v5 w' => ∃ (x1_1:Int) (x5_1:Int),v1 = .int .i64 x1_1∧v5 = .int .i64 x5_1∧Aside0 (laws_heldIntS.l0 kq l0 x1_1 x5_1 = some r)∧Aside0 (kq≤k)∧Drawn0 w w')
 case atStart=>exact ⟨(a1),(0),(by first|rfl|(simp;done)|(simp [*];done)),(by first|rfl|(simp;done)|(simp [*];done)),H',⟨Nat.le_refl _⟩,by repeat (first|exact Drawn0.refl _|apply Drawn0.step)⟩
 case round =>
  clear H'
  (try clear p2)
  obtain ⟨x1_1,x5_1,rfl,rfl,HA,HK1,⟨m1,rfl⟩⟩:=hrel
  cases gk with
  | zero=>exact absurd HA.out (by simp [laws_heldIntS.l0])
  | succ k1 =>
   have H:=HA.out
   clear HA
   simp only [laws_heldIntS.l0] at H
   by_cases c3:x5_1 < (l0.length:Int)
   ·rw [if_pos c3] at H
    have c3b0:decide (x5_1 < (l0.length:Int)) = true:=zO c3
    clear c3
    by_cases c4:0≤x5_1
    ·rw [if_pos c4] at H
     have c4b0:decide (0≤x5_1) = true:=zO c4
     clear c4
     by_cases c5:(rd l0 x5_1) = x1_1
     ·rw [if_pos c5] at H
      have c5b0:((rd l0 x5_1) == x1_1) = true:=beq_iff_eq.mpr c5
      have c5b1:((rd l0 x5_1) != x1_1) = false:=bne_eq_false_iff_eq.mpr c5
      clear c5
      have H':=zA H
      clear H
      have p501:0≤(x5_1:Int):=zE (by with_reducible assumption)
      have q501:x5_1 < (l0.length:Int):=zE (by with_reducible assumption)
      obtain ⟨ad501,e501,hx501_0⟩:=Kd.at_int HR0.out x5_1 p501 q501
      cases e501
      replace p501:=eq_true p501
      replace q501:=eq_true q501
      go_wp2
      go_roundg k1
      case measure=>have:=HK1.out;omega
      case rel=>exact ⟨(wrap64 (x1_1+1)),(wrap64 (x5_1+1)),(by first|rfl|(simp;done)|(simp [*];done)),(by first|rfl|(simp;done)|(simp [*];done)),H',⟨by have:=HK1.out;omega⟩,by repeat (first|exact Drawn0.refl _|apply Drawn0.step)⟩
     ·rw [if_neg c5] at H
      have c5b0:((rd l0 x5_1) == x1_1) = false:=beq_eq_false_iff_ne.mpr c5
      have c5b1:((rd l0 x5_1) != x1_1) = true:=bne_iff_ne.mpr c5
      obtain rfl:=zS H
      have p501:0≤(x5_1:Int):=zE (by with_reducible assumption)
      have q501:x5_1 < (l0.length:Int):=zE (by with_reducible assumption)
      obtain ⟨ad501,e501,hx501_0⟩:=Kd.at_int HR0.out x5_1 p501 q501
      cases e501
      replace p501:=eq_true p501
      replace q501:=eq_true q501
      go_wp2
      go_ret
      exact ⟨by first|rfl|(simp;done)|(simp [*];done),by repeat (first|exact Drawn0.refl _|apply Drawn0.step)⟩
    ·rw [if_neg c4] at H
     exact absurd H (by simp)
   ·rw [if_neg c3] at H
    have c3b0:decide (x5_1 < (l0.length:Int)) = false:=zP c3
    clear c3
    obtain rfl:=zS H
    go_wp2
    go_ret
    exact ⟨by first|rfl|(simp;done)|(simp [*];done),by repeat (first|exact Drawn0.refl _|apply Drawn0.step)⟩

/-! ### laws_heldMapS: function 35 -/
def laws_heldMapS.l0:Nat→List (S33)→Int→Int→Option (Int)
 | 0,_,_,_=>none
 | k+1,x0,x1,x5=>if x5 < (x0.length:Int) then (if 0≤x5 then ((laws_heldIntS.f k ((rd_T33 x0 x5).f0) x1).bind fun t503=>(if t503 < 0 then (some (-1)) else ((laws_heldIntS.f k ((rd_T33 x0 x5).f1) t503).bind fun t505=>(if t505 < 0 then (some (-1)) else (laws_heldMapS.l0 k x0 t505 (wrap64 (x5+1))))))) else (none)) else (some x1)
def laws_heldMapS.f (k:Nat) (l0:List (S33)) (a1:Int):Option (Int):=laws_heldMapS.l0 k l0 a1 0
theorem laws_heldMapS.mono_l:∀ k,(∀ y0 y1 y2,LeO (laws_heldMapS.l0 k y0 y1 y2) (laws_heldMapS.l0 (k+1) y0 y1 y2))
 | 0=>fun _ _ _ r h=>by simp [laws_heldMapS.l0] at h
 | k+1=>by
  have ih0:=laws_heldMapS.mono_l k
  ·intro y0 y1 y2
   unfold laws_heldMapS.l0
   repeat' first
   | (with_reducible exact ih0 _ _ _)
   | (with_reducible exact laws_heldIntS.mono _ _ _)
   | (with_reducible exact LeO.refl _)
   | (with_reducible exact zZ _)
   | (with_reducible refine zb ?_ ?_)
   | (with_reducible refine za ?_ (fun _=>?_))
theorem laws_heldMapS.mono:∀ a0 a1 k,LeO (laws_heldMapS.f k a0 a1) (laws_heldMapS.f (k+1) a0 a1):=by
 intro a0 a1 k
 have ih0:=laws_heldMapS.mono_l k
 unfold laws_heldMapS.f
 repeat' first
   | (with_reducible exact ih0 _ _ _)
   | (with_reducible exact laws_heldIntS.mono _ _ _)
   | (with_reducible exact LeO.refl _)
   | (with_reducible exact zZ _)
   | (with_reducible refine zb ?_ ?_)
   | (with_reducible refine za ?_ (fun _=>?_))
set_option maxHeartbeats 8000000 in
set_option maxRecDepth 100000 in
theorem laws_heldMapS.calls (k:Nat) (A0:Option Addr) (c0:Nat) (l0:List (S33)) (a1:Int) (r:Int) (w:World) (hr0:Kd.C k33 w A0 l0.length l0) (hc0:l0.length≤c0) (h:laws_heldMapS.f k l0 a1 = some r) :
  Calls Try.prog 35 #[.slice A0 l0.length c0,.int .i64 a1] w fun e w'=>e = .returned (.int .i64 r)∧Drawn0 w w':=by
 have HR0:=zA hr0
 have HC0:=zA hc0
 clear hr0 hc0
 have H:(laws_heldMapS.l0 k l0 a1 0) = some r:=h
 clear h
 have H':=zA H
 clear H
 go_enter Try.func35,Try.ntmps35
 go_wp2
 go_loopg [1,5] k (fun kq v1 v5 w' => ∃ (x1_1:Int) (x5_1:Int),v1 = .int .i64 x1_1∧v5 = .int .i64 x5_1∧Aside0 (laws_heldMapS.l0 kq l0 x1_1 x5_1 = some r)∧Aside0 (kq≤k)∧Drawn0 w w')
 case atStart=>exact ⟨(a1),(0),(by first|rfl|(simp;done)|(simp [*];done)),(by first|rfl|(simp;done)|(simp [*];done)),H',⟨Nat.le_refl _⟩,by repeat (first|exact Drawn0.refl _|apply Drawn0.step)⟩
 case round =>
  clear H'
  (try clear p2)
  obtain ⟨x1_1,x5_1,rfl,rfl,HA,HK1,⟨m1,rfl⟩⟩:=hrel
  cases gk with
  | zero=>exact absurd HA.out (by simp [laws_heldMapS.l0])
  | succ k1 =>
   have H:=HA.out
   clear HA
   simp only [laws_heldMapS.l0] at H
   by_cases c3:x5_1 < (l0.length:Int)
   ·rw [if_pos c3] at H
    have c3b0:decide (x5_1 < (l0.length:Int)) = true:=zO c3
    clear c3
    by_cases c4:0≤x5_1
    ·rw [if_pos c4] at H
     have c4b0:decide (0≤x5_1) = true:=zO c4
     clear c4
     replace H:=zz0 H
     obtain ⟨t503,A50,H⟩:=H
     try dsimp only at H
     have A5:=zA A50
     clear A50
     by_cases c6:t503 < 0
     ·rw [if_pos c6] at H
      have c6b0:decide (t503 < 0) = true:=zO c6
      clear c6
      obtain rfl:=zS H
      have p502:0≤(x5_1:Int):=zE (by with_reducible assumption)
      have q502:x5_1 < (l0.length:Int):=zE (by with_reducible assumption)
      obtain ⟨ad502,A502_0,c502_0,A502_1,c502_1,e502,hx502_0,hx502_1,hl502_0,hi502_0,hl502_1,hi502_1⟩:=at_T33 HR0.out x5_1 p502 q502
      cases e502
      have HR502_0:=zA hi502_0
      have HC502_0:=zA hl502_0
      clear hi502_0 hl502_0
      have HR502_1:=zA hi502_1
      have HC502_1:=zA hl502_1
      clear hi502_1 hl502_1
      replace p502:=eq_true p502
      replace q502:=eq_true q502
      go_wp2_with (first|((with_reducible refine gate_callee (f:=60) rfl ?_);refine goesL_ (some 18) rfl rfl Try.func60 (by kernel_rfl) rfl #[.slice A502_0 ((rd_T33 l0 x5_1).f0).length c502_0,.int .i64 x1_1] rfl (by (try simp only [zJ,zM,zN]);first|done|rfl|(simp only [zL,zK];rfl)) ?_;(with_reducible refine (laws_heldIntS.calls k1 _ _ ((rd_T33 l0 x5_1).f0) x1_1 t503 _ ?side1 ?side2 A5.out).mono ?_);(case side1=>repeat (first|exact HR502_0.out|apply zC_));(case side2=>exact HC502_0.out);rintro e w' ⟨rfl,⟨nd,rfl⟩⟩;refine ⟨_,rfl,?_⟩))
      go_ret
      exact ⟨by first|rfl|(simp;done)|(simp [*];done),by repeat (first|exact Drawn0.refl _|apply Drawn0.step)⟩
     ·rw [if_neg c6] at H
      have c6b0:decide (t503 < 0) = false:=zP c6
      clear c6
      replace H:=zz0 H
      obtain ⟨t505,A70,H⟩:=H
      try dsimp only at H
      have A7:=zA A70
      clear A70
      by_cases c8:t505 < 0
      ·rw [if_pos c8] at H
       have c8b0:decide (t505 < 0) = true:=zO c8
       clear c8
       obtain rfl:=zS H
       have p502:0≤(x5_1:Int):=zE (by with_reducible assumption)
       have q502:x5_1 < (l0.length:Int):=zE (by with_reducible assumption)
       obtain ⟨ad502,A502_0,c502_0,A502_1,c502_1,e502,hx502_0,hx502_1,hl502_0,hi502_0,hl502_1,hi502_1⟩:=at_T33 HR0.out x5_1 p502 q502
       cases e502
       have HR502_0:=zA hi502_0
       have HC502_0:=zA hl502_0
       clear hi502_0 hl502_0
       have HR502_1:=zA hi502_1
       have HC502_1:=zA hl502_1
       clear hi502_1 hl502_1
       replace p502:=eq_true p502
       replace q502:=eq_true q502
       go_wp2_with (first|((with_reducible refine gate_callee (f:=60) rfl ?_);refine goesL_ (some 18) rfl rfl Try.func60 (by kernel_rfl) rfl #[.slice A502_0 ((rd_T33 l0 x5_1).f0).length c502_0,.int .i64 x1_1] rfl (by (try simp only [zJ,zM,zN]);first|done|rfl|(simp only [zL,zK];rfl)) ?_;(with_reducible refine (laws_heldIntS.calls k1 _ _ ((rd_T33 l0 x5_1).f0) x1_1 t503 _ ?side1 ?side2 A5.out).mono ?_);(case side1=>repeat (first|exact HR502_0.out|apply zC_));(case side2=>exact HC502_0.out);rintro e w' ⟨rfl,⟨nd,rfl⟩⟩;refine ⟨_,rfl,?_⟩;have p504:0≤(x5_1:Int):=zE (by with_reducible assumption);have q504:x5_1 < (l0.length:Int):=zE (by with_reducible assumption);obtain ⟨ad504,A504_0,c504_0,A504_1,c504_1,e504,hx504_0,hx504_1,hl504_0,hi504_0,hl504_1,hi504_1⟩:=at_T33 HR0.out x5_1 p504 q504;obtain rfl:ad502 = ad504:=(by injection e504);have HR504_0:=zA hi504_0;have HC504_0:=zA hl504_0;clear hi504_0 hl504_0;have HR504_1:=zA hi504_1;have HC504_1:=zA hl504_1;clear hi504_1 hl504_1;replace p504:=eq_true p504;replace q504:=eq_true q504;have ea_:=zS (hx502_0.symm.trans hx504_0);injection ea_ with ea_ en_ ec_;subst ea_;subst ec_;clear en_;have ea_:=zS (hx502_1.symm.trans hx504_1);injection ea_ with ea_ en_ ec_;subst ea_;subst ec_;clear en_)|((with_reducible refine gate_callee (f:=60) rfl ?_);refine goesL_ (some 27) rfl rfl Try.func60 (by kernel_rfl) rfl #[.slice A502_1 ((rd_T33 l0 x5_1).f1).length c502_1,.int .i64 t503] rfl (by (try simp only [zJ,zM,zN]);first|done|rfl|(simp only [zL,zK];rfl)) ?_;(with_reducible refine (laws_heldIntS.calls k1 _ _ ((rd_T33 l0 x5_1).f1) t503 t505 _ ?side1 ?side2 A7.out).mono ?_);(case side1=>repeat (first|exact HR504_1.out|apply zC_));(case side2=>exact HC504_1.out);rintro e w' ⟨rfl,⟨nd,rfl⟩⟩;refine ⟨_,rfl,?_⟩))
       go_ret
       exact ⟨by first|rfl|(simp;done)|(simp [*];done),by repeat (first|exact Drawn0.refl _|apply Drawn0.step)⟩
      ·rw [if_neg c8] at H
       have c8b0:decide (t505 < 0) = false:=zP c8
       clear c8
       have H':=zA H
       clear H
       have p502:0≤(x5_1:Int):=zE (by with_reducible assumption)
       have q502:x5_1 < (l0.length:Int):=zE (by with_reducible assumption)
       obtain ⟨ad502,A502_0,c502_0,A502_1,c502_1,e502,hx502_0,hx502_1,hl502_0,hi502_0,hl502_1,hi502_1⟩:=at_T33 HR0.out x5_1 p502 q502
       cases e502
       have HR502_0:=zA hi502_0
       have HC502_0:=zA hl502_0
       clear hi502_0 hl502_0
       have HR502_1:=zA hi502_1
       have HC502_1:=zA hl502_1
       clear hi502_1 hl502_1
       replace p502:=eq_true p502
       replace q502:=eq_true q502
       go_wp2_with (first|((with_reducible refine gate_callee (f:=60) rfl ?_);refine goesL_ (some 18) rfl rfl Try.func60 (by kernel_rfl) rfl #[.slice A502_0 ((rd_T33 l0 x5_1).f0).length c502_0,.int .i64 x1_1] rfl (by (try simp only [zJ,zM,zN]);first|done|rfl|(simp only [zL,zK];rfl)) ?_;(with_reducible refine (laws_heldIntS.calls k1 _ _ ((rd_T33 l0 x5_1).f0) x1_1 t503 _ ?side1 ?side2 A5.out).mono ?_);(case side1=>repeat (first|exact HR502_0.out|apply zC_));(case side2=>exact HC502_0.out);rintro e w' ⟨rfl,⟨nd,rfl⟩⟩;refine ⟨_,rfl,?_⟩;have p504:0≤(x5_1:Int):=zE (by with_reducible assumption);have q504:x5_1 < (l0.length:Int):=zE (by with_reducible assumption);obtain ⟨ad504,A504_0,c504_0,A504_1,c504_1,e504,hx504_0,hx504_1,hl504_0,hi504_0,hl504_1,hi504_1⟩:=at_T33 HR0.out x5_1 p504 q504;obtain rfl:ad502 = ad504:=(by injection e504);have HR504_0:=zA hi504_0;have HC504_0:=zA hl504_0;clear hi504_0 hl504_0;have HR504_1:=zA hi504_1;have HC504_1:=zA hl504_1;clear hi504_1 hl504_1;replace p504:=eq_true p504;replace q504:=eq_true q504;have ea_:=zS (hx502_0.symm.trans hx504_0);injection ea_ with ea_ en_ ec_;subst ea_;subst ec_;clear en_;have ea_:=zS (hx502_1.symm.trans hx504_1);injection ea_ with ea_ en_ ec_;subst ea_;subst ec_;clear en_)|((with_reducible refine gate_callee (f:=60) rfl ?_);refine goesL_ (some 27) rfl rfl Try.func60 (by kernel_rfl) rfl #[.slice A502_1 ((rd_T33 l0 x5_1).f1).length c502_1,.int .i64 t503] rfl (by (try simp only [zJ,zM,zN]);first|done|rfl|(simp only [zL,zK];rfl)) ?_;(with_reducible refine (laws_heldIntS.calls k1 _ _ ((rd_T33 l0 x5_1).f1) t503 t505 _ ?side1 ?side2 A7.out).mono ?_);(case side1=>repeat (first|exact HR504_1.out|apply zC_));(case side2=>exact HC504_1.out);rintro e w' ⟨rfl,⟨nd,rfl⟩⟩;refine ⟨_,rfl,?_⟩))
       go_roundg k1
       case measure=>have:=HK1.out;omega
       case rel=>exact ⟨(t505),(wrap64 (x5_1+1)),(by first|rfl|(simp;done)|(simp [*];done)),(by first|rfl|(simp;done)|(simp [*];done)),H',⟨by have:=HK1.out;omega⟩,by repeat (first|exact Drawn0.refl _|apply Drawn0.step)⟩
    ·rw [if_neg c4] at H
     exact absurd H (by simp)
   ·rw [if_neg c3] at H
    have c3b0:decide (x5_1 < (l0.length:Int)) = false:=zP c3
    clear c3
    obtain rfl:=zS H
    go_wp2
    go_ret
    exact ⟨by first|rfl|(simp;done)|(simp [*];done),by repeat (first|exact Drawn0.refl _|apply Drawn0.step)⟩

end Go.Proofs.Ytdaiohcgdpclnaa.Q
