import Derived.Test.YtdaiohcgdpclnaaQ0
import Derived.Test.YtdaiohcgdpclnaaZ
namespace Go.Proofs.Ytdaiohcgdpclnaa.Q
open Go.RowKit Go.Proofs.YtdaiohcgdpclnaaW.PrintWords Go.Proofs.YtdaiohcgdpclnaaW.PrintLast Go.Proofs.YtdaiohcgdpclnaaW.PrintMore
attribute [local go_sem] max2_int min2_int max_two min_two max_three min_three max_four min_four   -- for this text's walks alone
set_option linter.unusedVariables false
set_option linter.unusedSimpArgs false

/-! ### spec_l2Order: function 98 -/
def spec_l2Order.l0:Nat→List Int→List Int→Int→Option (Int)
 | 0,_,_,_=>none
 | k+1,x0,x1,x5=>if x5 < (x0.length:Int) then (if 0≤x5 then (if x5 < (x1.length:Int) then (if (rd x0 x5) < (rd x1 x5) then (some (-1)) else (if (rd x0 x5) > (rd x1 x5) then (some 1) else (spec_l2Order.l0 k x0 x1 (wrap64 (x5+1))))) else (none)) else (none)) else (some 0)
def spec_l2Order.f (k:Nat) (l0:List Int) (l1:List Int):Option (Int):=spec_l2Order.l0 k l0 l1 0
theorem spec_l2Order.mono_l:∀ k,(∀ y0 y1 y2,LeO (spec_l2Order.l0 k y0 y1 y2) (spec_l2Order.l0 (k+1) y0 y1 y2))
 | 0=>fun _ _ _ r h=>by simp [spec_l2Order.l0] at h
 | k+1=>by
  have ih0:=spec_l2Order.mono_l k
  ·intro y0 y1 y2
   unfold spec_l2Order.l0
   repeat' first
   | (with_reducible exact ih0 _ _ _)
   | (with_reducible exact LeO.refl _)
   | (with_reducible exact za _)
   | (with_reducible refine zc ?_ ?_)
   | (with_reducible refine zb ?_ (fun _=>?_))
theorem spec_l2Order.mono:∀ a0 a1 k,LeO (spec_l2Order.f k a0 a1) (spec_l2Order.f (k+1) a0 a1):=by
 intro a0 a1 k
 have ih0:=spec_l2Order.mono_l k
 unfold spec_l2Order.f
 repeat' first
   | (with_reducible exact ih0 _ _ _)
   | (with_reducible exact LeO.refl _)
   | (with_reducible exact za _)
   | (with_reducible refine zc ?_ ?_)
   | (with_reducible refine zb ?_ (fun _=>?_))
set_option maxHeartbeats 8000000 in
set_option maxRecDepth 100000 in
theorem spec_l2Order.calls (k:Nat) (A0:Option Addr) (c0:Nat) (l0:List Int) (A1:Option Addr) (c1:Nat) (l1:List Int) (r:Int) (w:World) (hr0:Kd.C (Kd.int .i64) w A0 l0.length l0) (hc0:l0.length≤c0) (hr1:Kd.C (Kd.int .i64) w A1 l1.length l1) (hc1:l1.length≤c1) (h:spec_l2Order.f k l0 l1 = some r) :
  Calls Try.prog 98 #[.slice A0 l0.length c0,.slice A1 l1.length c1] w fun e w'=>e = .returned (.int .i64 r)∧Drawn0 w w':=by
 have HR0:=zA hr0
 have HC0:=zA hc0
 clear hr0 hc0
 have HR1:=zA hr1
 have HC1:=zA hc1
 clear hr1 hc1
 have H:(spec_l2Order.l0 k l0 l1 0) = some r:=h
 clear h
 have H':=zA H
 clear H
 go_enter Try.func98,Try.ntmps98
 go_wp2
 repeat (go_quiet (fail);try go_wp2)
 go_loopg [5] k (fun kq v5 w' => ∃ (x5_1:Int),v5 = .int .i64 x5_1∧Aside0 (spec_l2Order.l0 kq l0 l1 x5_1 = some r)∧Aside0 (kq≤k)∧Drawn0 w w')
 case atStart=>exact ⟨(0),(by first|rfl|(simp;done)|(simp [*];done)),H',⟨Nat.le_refl _⟩,by repeat (first|exact Drawn0.refl _|apply Drawn0.step)⟩
 case round =>
  clear H'
  (try clear c1);(try clear p2)
  obtain ⟨x5_1,rfl,HA,HK1,⟨m1,rfl⟩⟩:=hrel
  cases gk with
  | zero=>exact absurd HA.out (by simp [spec_l2Order.l0])
  | succ k1 =>
   have H:=HA.out
   clear HA
   simp only [spec_l2Order.l0] at H
   by_cases c3:x5_1 < (l0.length:Int)
   ·rw [if_pos c3] at H
    have c3b0:decide (x5_1 < (l0.length:Int)) = true:=zO c3
    clear c3
    by_cases c4:0≤x5_1
    ·rw [if_pos c4] at H
     have c4b0:decide (0≤x5_1) = true:=zO c4
     clear c4
     by_cases c5:x5_1 < (l1.length:Int)
     ·rw [if_pos c5] at H
      have c5b0:decide (x5_1 < (l1.length:Int)) = true:=zO c5
      clear c5
      by_cases c6:(rd l0 x5_1) < (rd l1 x5_1)
      ·rw [if_pos c6] at H
       have c6b0:decide ((rd l0 x5_1) < (rd l1 x5_1)) = true:=zO c6
       clear c6
       obtain rfl:=zS H
       have p307:0≤(x5_1:Int):=zE (by with_reducible assumption)
       have q307:x5_1 < (l0.length:Int):=zE (by with_reducible assumption)
       obtain ⟨ad307,e307,hx307_0⟩:=Kd.at_int HR0.out x5_1 p307 q307
       cases e307
       replace p307:=eq_true p307
       replace q307:=eq_true q307
       have p308:0≤(x5_1:Int):=zE (by with_reducible assumption)
       have q308:x5_1 < (l1.length:Int):=zE (by with_reducible assumption)
       obtain ⟨ad308,e308,hx308_0⟩:=Kd.at_int HR1.out x5_1 p308 q308
       cases e308
       replace p308:=eq_true p308
       replace q308:=eq_true q308
       go_wp2
       repeat (go_quiet (fail);try go_wp2)
       go_ret
       exact ⟨by first|rfl|(simp;done)|(simp [*];done),by repeat (first|exact Drawn0.refl _|apply Drawn0.step)⟩
      ·rw [if_neg c6] at H
       have c6b0:decide ((rd l0 x5_1) < (rd l1 x5_1)) = false:=zP c6
       clear c6
       by_cases c7:(rd l0 x5_1) > (rd l1 x5_1)
       ·rw [if_pos c7] at H
        have c7b0:decide ((rd l1 x5_1) < (rd l0 x5_1)) = true:=zO c7
        clear c7
        obtain rfl:=zS H
        have p307:0≤(x5_1:Int):=zE (by with_reducible assumption)
        have q307:x5_1 < (l0.length:Int):=zE (by with_reducible assumption)
        obtain ⟨ad307,e307,hx307_0⟩:=Kd.at_int HR0.out x5_1 p307 q307
        cases e307
        replace p307:=eq_true p307
        replace q307:=eq_true q307
        have p308:0≤(x5_1:Int):=zE (by with_reducible assumption)
        have q308:x5_1 < (l1.length:Int):=zE (by with_reducible assumption)
        obtain ⟨ad308,e308,hx308_0⟩:=Kd.at_int HR1.out x5_1 p308 q308
        cases e308
        replace p308:=eq_true p308
        replace q308:=eq_true q308
        have p309:0≤(x5_1:Int):=zE (by with_reducible assumption)
        have q309:x5_1 < (l0.length:Int):=zE (by with_reducible assumption)
        obtain ⟨ad309,e309,hx309_0⟩:=Kd.at_int HR0.out x5_1 p309 q309
        obtain rfl:ad307 = ad309:=(by injection e309)
        replace p309:=eq_true p309
        replace q309:=eq_true q309
        have p310:0≤(x5_1:Int):=zE (by with_reducible assumption)
        have q310:x5_1 < (l1.length:Int):=zE (by with_reducible assumption)
        obtain ⟨ad310,e310,hx310_0⟩:=Kd.at_int HR1.out x5_1 p310 q310
        obtain rfl:ad308 = ad310:=(by injection e310)
        replace p310:=eq_true p310
        replace q310:=eq_true q310
        go_wp2
        repeat (go_quiet (fail);try go_wp2)
        go_ret
        exact ⟨by first|rfl|(simp;done)|(simp [*];done),by repeat (first|exact Drawn0.refl _|apply Drawn0.step)⟩
       ·rw [if_neg c7] at H
        have c7b0:decide ((rd l1 x5_1) < (rd l0 x5_1)) = false:=zP c7
        clear c7
        have H':=zA H
        clear H
        have p307:0≤(x5_1:Int):=zE (by with_reducible assumption)
        have q307:x5_1 < (l0.length:Int):=zE (by with_reducible assumption)
        obtain ⟨ad307,e307,hx307_0⟩:=Kd.at_int HR0.out x5_1 p307 q307
        cases e307
        replace p307:=eq_true p307
        replace q307:=eq_true q307
        have p308:0≤(x5_1:Int):=zE (by with_reducible assumption)
        have q308:x5_1 < (l1.length:Int):=zE (by with_reducible assumption)
        obtain ⟨ad308,e308,hx308_0⟩:=Kd.at_int HR1.out x5_1 p308 q308
        cases e308
        replace p308:=eq_true p308
        replace q308:=eq_true q308
        have p309:0≤(x5_1:Int):=zE (by with_reducible assumption)
        have q309:x5_1 < (l0.length:Int):=zE (by with_reducible assumption)
        obtain ⟨ad309,e309,hx309_0⟩:=Kd.at_int HR0.out x5_1 p309 q309
        obtain rfl:ad307 = ad309:=(by injection e309)
        replace p309:=eq_true p309
        replace q309:=eq_true q309
        have p310:0≤(x5_1:Int):=zE (by with_reducible assumption)
        have q310:x5_1 < (l1.length:Int):=zE (by with_reducible assumption)
        obtain ⟨ad310,e310,hx310_0⟩:=Kd.at_int HR1.out x5_1 p310 q310
        obtain rfl:ad308 = ad310:=(by injection e310)
        replace p310:=eq_true p310
        replace q310:=eq_true q310
        go_wp2
        repeat (go_quiet (fail);try go_wp2)
        go_roundg k1
        case measure=>have:=HK1.out;omega
        case rel=>exact ⟨(wrap64 (x5_1+1)),(by first|rfl|(simp;done)|(simp [*];done)),H',⟨by have:=HK1.out;omega⟩,by repeat (first|exact Drawn0.refl _|apply Drawn0.step)⟩
     ·rw [if_neg c5] at H
      exact absurd H (by simp)
    ·rw [if_neg c4] at H
     exact absurd H (by simp)
   ·rw [if_neg c3] at H
    have c3b0:decide (x5_1 < (l0.length:Int)) = false:=zP c3
    clear c3
    obtain rfl:=zS H
    go_wp2
    repeat (go_quiet (fail);try go_wp2)
    go_ret
    exact ⟨by first|rfl|(simp;done)|(simp [*];done),by repeat (first|exact Drawn0.refl _|apply Drawn0.step)⟩

/-! ### spec_l2Before: function 83 -/
def spec_l2Before.f (k:Nat) (l0_0:List Int) (l0_1:List Int) (l1_0:List Int) (l1_1:List Int):Option (Int):=(spec_l2Order.f k l0_0 l1_0).bind fun t313=>(if t313 = 0 then ((spec_l2Order.f k l0_1 l1_1).bind fun t314=>(some t314)) else (some t313))
theorem spec_l2Before.mono:∀ a0 a1 a2 a3 k,LeO (spec_l2Before.f k a0 a1 a2 a3) (spec_l2Before.f (k+1) a0 a1 a2 a3):=by
 intro a0 a1 a2 a3 k
 unfold spec_l2Before.f
 repeat' first
   | (with_reducible exact spec_l2Order.mono _ _ _)
   | (with_reducible exact LeO.refl _)
   | (with_reducible exact za _)
   | (with_reducible refine zc ?_ ?_)
   | (with_reducible refine zb ?_ (fun _=>?_))
set_option maxHeartbeats 8000000 in
set_option maxRecDepth 100000 in
theorem spec_l2Before.calls (k:Nat) (A0_0:Option Addr) (c0_0:Nat) (l0_0:List Int) (A0_1:Option Addr) (c0_1:Nat) (l0_1:List Int) (A1_0:Option Addr) (c1_0:Nat) (l1_0:List Int) (A1_1:Option Addr) (c1_1:Nat) (l1_1:List Int) (r:Int) (w:World) (hr0_0:Kd.C (Kd.int .i64) w A0_0 l0_0.length l0_0) (hc0_0:l0_0.length≤c0_0) (hr0_1:Kd.C (Kd.int .i64) w A0_1 l0_1.length l0_1) (hc0_1:l0_1.length≤c0_1) (hr1_0:Kd.C (Kd.int .i64) w A1_0 l1_0.length l1_0) (hc1_0:l1_0.length≤c1_0) (hr1_1:Kd.C (Kd.int .i64) w A1_1 l1_1.length l1_1) (hc1_1:l1_1.length≤c1_1) (h:spec_l2Before.f k l0_0 l0_1 l1_0 l1_1 = some r) :
  Calls Try.prog 83 #[.agg #[.slice A0_0 l0_0.length c0_0,.slice A0_1 l0_1.length c0_1],.agg #[.slice A1_0 l1_0.length c1_0,.slice A1_1 l1_1.length c1_1]] w fun e w'=>e = .returned (.int .i64 r)∧Below w.heap.size w w':=by
 have hu33:=Try.underlying33
 have HR0_0:=zA hr0_0
 have HC0_0:=zA hc0_0
 clear hr0_0 hc0_0
 have HR0_1:=zA hr0_1
 have HC0_1:=zA hc0_1
 clear hr0_1 hc0_1
 have HR1_0:=zA hr1_0
 have HC1_0:=zA hc1_0
 clear hr1_0 hc1_0
 have HR1_1:=zA hr1_1
 have HC1_1:=zA hc1_1
 clear hr1_1 hc1_1
 have HB:=zA (Below.refl w.heap.size w)
 have H:((spec_l2Order.f k l0_0 l1_0).bind fun t313=>(if t313 = 0 then ((spec_l2Order.f k l0_1 l1_1).bind fun t314=>(some t314)) else (some t313))) = some r:=h
 clear h
 replace H:=zz0 H
 obtain ⟨t313,A30,H⟩:=H
 try dsimp only at H
 have A3:=zA A30
 clear A30
 by_cases c4:t313 = 0
 ·rw [if_pos c4] at H
  have c4b0:(t313 == 0) = true:=beq_iff_eq.mpr c4
  have c4b1:(t313 != 0) = false:=bne_eq_false_iff_eq.mpr c4
  clear c4
  replace H:=zz0 H
  obtain ⟨t314,A50,H⟩:=H
  try dsimp only at H
  have A5:=zA A50
  clear A50
  obtain rfl:=zS H
  go_enter Try.func83,Try.ntmps83
  go_wp2_with (first|((with_reducible refine gate_dst (N:=2) rfl ?_);refine box_event ?hg (N:=2) ?hd (cs:=#[.slice A0_0 l0_0.length c0_0,.slice A0_1 l0_1.length c0_1]) (t:=33) ?hr ?_;(case hd=>rfl);(case hg=>rfl);(case hr=>first|(go_simp;done)|(go_simp;rfl));intro gb311 hg w6 hbox hb;have n0_:=zA (zR (by exact zB_ HB.out) hb);have n1_:=zA (hbox);have n2_:=zA ((by rw [hg];exact (zQ (by exact zB_ HB.out)):w.heap.size≤gb311));have n3_:=zA ((by rw [hg];exact (zQ (by exact zB_ HB.out)):w.heap.size≤gb311));clear HB;have HB:=n0_;have BK311:=n1_;have GW311:=n2_;have GE311:=n3_;clear n0_ n1_ n2_ n3_;clear hb hbox hg)|((with_reducible refine gate_dst (N:=3) rfl ?_);refine box_event ?hg (N:=3) ?hd (cs:=#[.slice A1_0 l1_0.length c1_0,.slice A1_1 l1_1.length c1_1]) (t:=33) ?hr ?_;(case hd=>rfl);(case hg=>rfl);(case hr=>first|(go_simp;done)|(go_simp;rfl));intro gb312 hg w7 hbox hb;have n0_:=zA (zX (g:=gb311) (o:=.cells #[.slice A0_0 l0_0.length c0_0,.slice A0_1 l0_1.length c0_1] 33 (0,0)) (by (with_reducible repeat (first|refine zG ?_ _|refine zI ?_|refine zH ?_ _));exact BK311.out) hb);have n1_:=zA (zR (by repeat (first|(with_reducible first|exact HB.out|apply zD|apply zB|apply zC|refine zF ?_ GE311.out)|exact HB.out)) hb);have n2_:=zA (hbox);have n3_:=zA ((by rw [hg];exact (zQ (by repeat (first|(with_reducible first|exact HB.out|apply zD|apply zB|apply zC|refine zF ?_ GE311.out)|exact HB.out))):w.heap.size≤gb312));have n4_:=zA ((by rw [hg];exact (zQ (by repeat (first|(with_reducible first|exact HB.out|apply zD|apply zB|apply zC|refine zF ?_ GE311.out)|exact HB.out))):w.heap.size≤gb312));have n5_:=zA ((by rw [hg];exact Nat.ne_of_lt (blk_lt (g:=gb311) (o:=.cells #[.slice A0_0 l0_0.length c0_0,.slice A0_1 l0_1.length c0_1] 33 (0,0)) (by (with_reducible repeat (first|refine zG ?_ _|refine zI ?_|refine zH ?_ _));exact BK311.out)):gb311≠gb312));have n6_:=zA ((by rw [hg];exact Nat.ne_of_gt (blk_lt (g:=gb311) (o:=.cells #[.slice A0_0 l0_0.length c0_0,.slice A0_1 l0_1.length c0_1] 33 (0,0)) (by (with_reducible repeat (first|refine zG ?_ _|refine zI ?_|refine zH ?_ _));exact BK311.out)):gb312≠gb311));clear BK311;clear HB;have BK311:=n0_;have HB:=n1_;have BK312:=n2_;have GW312:=n3_;have GE312:=n4_;have NB311_312:=n5_;have NB312_311:=n6_;clear n0_ n1_ n2_ n3_ n4_ n5_ n6_;clear hb hbox hg;have hnb8:=NB311_312.out;have hnc8:=NB312_311.out;have hcz9_0:w7.cell? ⟨gb311,0,none⟩ = some (.slice A0_0 l0_0.length c0_0):=(zT BK311.out 0).trans rfl;have hcz9_1:w7.cell? ⟨gb311,1,none⟩ = some (.slice A0_1 l0_1.length c0_1):=(zT BK311.out 1).trans rfl;have hfz9_0:=zZ BK311.out 0;have hfz9_1:=zZ BK311.out 1;have hcz10_0:w7.cell? ⟨gb312,0,none⟩ = some (.slice A1_0 l1_0.length c1_0):=(zT BK312.out 0).trans rfl;have hcz10_1:w7.cell? ⟨gb312,1,none⟩ = some (.slice A1_1 l1_1.length c1_1):=(zT BK312.out 1).trans rfl;have hfz10_0:=zZ BK312.out 0;have hfz10_1:=zZ BK312.out 1)|((with_reducible refine gate_callee (f:=98) rfl ?_);refine goesL_ (some 10) rfl rfl Try.func98 (by kernel_rfl) rfl #[.slice A0_0 l0_0.length c0_0,.slice A1_0 l1_0.length c1_0] rfl (by (try simp only [zJ,zM,zN]);first|done|rfl|(simp only [zL,zK];rfl)) ?_;(with_reducible refine (spec_l2Order.calls k _ _ l0_0 _ _ l1_0 t313 _ ?side1 ?side2 ?side3 ?side4 A3.out).mono ?_);(case side1=>repeat (first|exact (zW HR0_0.out HB.out)|(with_reducible exact HR0_0.out)|apply zC_));(case side2=>exact HC0_0.out);(case side3=>repeat (first|exact (zW HR1_0.out HB.out)|(with_reducible exact HR1_0.out)|apply zC_));(case side4=>exact HC1_0.out);rintro e w' ⟨rfl,⟨nd,rfl⟩⟩;refine ⟨_,rfl,?_⟩)|((with_reducible refine gate_callee (f:=98) rfl ?_);refine goesL_ (some 18) rfl rfl Try.func98 (by kernel_rfl) rfl #[.slice A0_1 l0_1.length c0_1,.slice A1_1 l1_1.length c1_1] rfl (by (try simp only [zJ,zM,zN]);first|done|rfl|(simp only [zL,zK];rfl)) ?_;(with_reducible refine (spec_l2Order.calls k _ _ l0_1 _ _ l1_1 t314 _ ?side1 ?side2 ?side3 ?side4 A5.out).mono ?_);(case side1=>repeat (first|exact (zW HR0_1.out (by repeat (first|(with_reducible first|exact HB.out|apply zD|apply zB|apply zC|refine zF ?_ GE311.out|refine zF ?_ GE312.out)|exact HB.out)))|apply zC_));(case side2=>exact HC0_1.out);(case side3=>repeat (first|exact (zW HR1_1.out (by repeat (first|(with_reducible first|exact HB.out|apply zD|apply zB|apply zC|refine zF ?_ GE311.out|refine zF ?_ GE312.out)|exact HB.out)))|apply zC_));(case side4=>exact HC1_1.out);rintro e w' ⟨rfl,⟨nd,rfl⟩⟩;refine ⟨_,rfl,?_⟩))
  go_ret
  exact ⟨by first|rfl|(simp [errW_none,errW_some] <;> rfl)|(simp [*,errW_none,errW_some] <;> rfl),by repeat (first|(with_reducible first|exact HB.out|apply zD|apply zB|apply zC|refine zF ?_ GE311.out|refine zF ?_ GE312.out)|exact HB.out)⟩
 ·rw [if_neg c4] at H
  have c4b0:(t313 == 0) = false:=beq_eq_false_iff_ne.mpr c4
  have c4b1:(t313 != 0) = true:=bne_iff_ne.mpr c4
  obtain rfl:=zS H
  go_enter Try.func83,Try.ntmps83
  go_wp2_with (first|((with_reducible refine gate_dst (N:=2) rfl ?_);refine box_event ?hg (N:=2) ?hd (cs:=#[.slice A0_0 l0_0.length c0_0,.slice A0_1 l0_1.length c0_1]) (t:=33) ?hr ?_;(case hd=>rfl);(case hg=>rfl);(case hr=>first|(go_simp;done)|(go_simp;rfl));intro gb311 hg w11 hbox hb;have n0_:=zA (zR (by exact zB_ HB.out) hb);have n1_:=zA (hbox);have n2_:=zA ((by rw [hg];exact (zQ (by exact zB_ HB.out)):w.heap.size≤gb311));have n3_:=zA ((by rw [hg];exact (zQ (by exact zB_ HB.out)):w.heap.size≤gb311));clear HB;have HB:=n0_;have BK311:=n1_;have GW311:=n2_;have GE311:=n3_;clear n0_ n1_ n2_ n3_;clear hb hbox hg)|((with_reducible refine gate_dst (N:=3) rfl ?_);refine box_event ?hg (N:=3) ?hd (cs:=#[.slice A1_0 l1_0.length c1_0,.slice A1_1 l1_1.length c1_1]) (t:=33) ?hr ?_;(case hd=>rfl);(case hg=>rfl);(case hr=>first|(go_simp;done)|(go_simp;rfl));intro gb312 hg w12 hbox hb;have n0_:=zA (zX (g:=gb311) (o:=.cells #[.slice A0_0 l0_0.length c0_0,.slice A0_1 l0_1.length c0_1] 33 (0,0)) (by (with_reducible repeat (first|refine zG ?_ _|refine zI ?_|refine zH ?_ _));exact BK311.out) hb);have n1_:=zA (zR (by repeat (first|(with_reducible first|exact HB.out|apply zD|apply zB|apply zC|refine zF ?_ GE311.out)|exact HB.out)) hb);have n2_:=zA (hbox);have n3_:=zA ((by rw [hg];exact (zQ (by repeat (first|(with_reducible first|exact HB.out|apply zD|apply zB|apply zC|refine zF ?_ GE311.out)|exact HB.out))):w.heap.size≤gb312));have n4_:=zA ((by rw [hg];exact (zQ (by repeat (first|(with_reducible first|exact HB.out|apply zD|apply zB|apply zC|refine zF ?_ GE311.out)|exact HB.out))):w.heap.size≤gb312));have n5_:=zA ((by rw [hg];exact Nat.ne_of_lt (blk_lt (g:=gb311) (o:=.cells #[.slice A0_0 l0_0.length c0_0,.slice A0_1 l0_1.length c0_1] 33 (0,0)) (by (with_reducible repeat (first|refine zG ?_ _|refine zI ?_|refine zH ?_ _));exact BK311.out)):gb311≠gb312));have n6_:=zA ((by rw [hg];exact Nat.ne_of_gt (blk_lt (g:=gb311) (o:=.cells #[.slice A0_0 l0_0.length c0_0,.slice A0_1 l0_1.length c0_1] 33 (0,0)) (by (with_reducible repeat (first|refine zG ?_ _|refine zI ?_|refine zH ?_ _));exact BK311.out)):gb312≠gb311));clear BK311;clear HB;have BK311:=n0_;have HB:=n1_;have BK312:=n2_;have GW312:=n3_;have GE312:=n4_;have NB311_312:=n5_;have NB312_311:=n6_;clear n0_ n1_ n2_ n3_ n4_ n5_ n6_;clear hb hbox hg;have hnb13:=NB311_312.out;have hnc13:=NB312_311.out;have hcz14_0:w12.cell? ⟨gb311,0,none⟩ = some (.slice A0_0 l0_0.length c0_0):=(zT BK311.out 0).trans rfl;have hcz14_1:w12.cell? ⟨gb311,1,none⟩ = some (.slice A0_1 l0_1.length c0_1):=(zT BK311.out 1).trans rfl;have hfz14_0:=zZ BK311.out 0;have hfz14_1:=zZ BK311.out 1;have hcz15_0:w12.cell? ⟨gb312,0,none⟩ = some (.slice A1_0 l1_0.length c1_0):=(zT BK312.out 0).trans rfl;have hcz15_1:w12.cell? ⟨gb312,1,none⟩ = some (.slice A1_1 l1_1.length c1_1):=(zT BK312.out 1).trans rfl;have hfz15_0:=zZ BK312.out 0;have hfz15_1:=zZ BK312.out 1)|((with_reducible refine gate_callee (f:=98) rfl ?_);refine goesL_ (some 10) rfl rfl Try.func98 (by kernel_rfl) rfl #[.slice A0_0 l0_0.length c0_0,.slice A1_0 l1_0.length c1_0] rfl (by (try simp only [zJ,zM,zN]);first|done|rfl|(simp only [zL,zK];rfl)) ?_;(with_reducible refine (spec_l2Order.calls k _ _ l0_0 _ _ l1_0 t313 _ ?side1 ?side2 ?side3 ?side4 A3.out).mono ?_);(case side1=>repeat (first|exact (zW HR0_0.out HB.out)|(with_reducible exact HR0_0.out)|apply zC_));(case side2=>exact HC0_0.out);(case side3=>repeat (first|exact (zW HR1_0.out HB.out)|(with_reducible exact HR1_0.out)|apply zC_));(case side4=>exact HC1_0.out);rintro e w' ⟨rfl,⟨nd,rfl⟩⟩;refine ⟨_,rfl,?_⟩))
  go_ret
  exact ⟨by first|rfl|(simp [errW_none,errW_some] <;> rfl)|(simp [*,errW_none,errW_some] <;> rfl),by repeat (first|(with_reducible first|exact HB.out|apply zD|apply zB|apply zC|refine zF ?_ GE311.out|refine zF ?_ GE312.out)|exact HB.out)⟩

end Go.Proofs.Ytdaiohcgdpclnaa.Q
