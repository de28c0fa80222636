import Derived.Test.YtdaiohcgdpclnaaQ0
import Derived.Test.YtdaiohcgdpclnaaQ6
import Derived.Test.YtdaiohcgdpclnaaZ
namespace Go.Proofs.Ytdaiohcgdpclnaa.Q
open Go.RowKit Go.Proofs.YtdaiohcgdpclnaaW.PrintWords Go.Proofs.YtdaiohcgdpclnaaW.PrintLast Go.Proofs.YtdaiohcgdpclnaaW.PrintMore
attribute [local go_sem] max2_int min2_int max_two min_two max_three min_three max_four min_four   -- for this text's walks alone
set_option linter.unusedVariables false
set_option linter.unusedSimpArgs false

/-! ### spec_MapValid: function 76 -/
mutual
def spec_MapValid.l0:Nat→Int→List Int→List Int→Option (Bool)
 | 0,_,_,_=>none
 | k+1,x3,x356000,x356001=>if x3 < (x356001.length:Int) then (if 0≤x3 then (if (rd x356001 x3) = x3 then (some false) else (if 0≤(rd x356001 x3) then (if (rd x356001 x3) < (x356001.length:Int) then (if (rd x356001 (rd x356001 x3)) = x3 then (spec_MapValid.l0 k (wrap64 (x3+1)) x356000 x356001) else (some false)) else (none)) else (none))) else (none)) else ((spec_l1Orbits.f k x356000 x356001).bind fun t360=>(spec_MapValid.l1 k t360 0))
def spec_MapValid.l1:Nat→List Int→Int→Option (Bool)
 | 0,_,_=>none
 | k+1,x4,x5=>if x5 < (x4.length:Int) then (if 0≤x5 then (if (rd x4 x5) = 0 then (spec_MapValid.l1 k x4 (wrap64 (x5+1))) else (some false)) else (none)) else (some true)
end
def spec_MapValid.f (k:Nat) (l0_0:List Int) (l0_1:List Int):Option (Bool):=(spec_l1Both.f k l0_0 l0_1).bind fun t356=>(if t356 = true then (spec_MapValid.l0 k 0 l0_0 l0_1) else (some false))
theorem spec_MapValid.mono_l:∀ k,(∀ y0 y1 y2,LeO (spec_MapValid.l0 k y0 y1 y2) (spec_MapValid.l0 (k+1) y0 y1 y2))∧(∀ y0 y1,LeO (spec_MapValid.l1 k y0 y1) (spec_MapValid.l1 (k+1) y0 y1))
 | 0=>⟨fun _ _ _ r h=>by simp [spec_MapValid.l0] at h,fun _ _ r h=>by simp [spec_MapValid.l1] at h⟩
 | k+1=>by
  obtain ⟨ih0,ih1⟩:=spec_MapValid.mono_l k
  refine ⟨?_,?_⟩
  ·intro y0 y1 y2
   unfold spec_MapValid.l0
   repeat' first
   | (with_reducible exact ih0 _ _ _)
   | (with_reducible exact ih1 _ _)
   | (with_reducible exact spec_l1Both.mono _ _ _)
   | (with_reducible exact spec_l1Orbits.mono _ _ _)
   | (with_reducible exact LeO.refl _)
   | (with_reducible exact za _)
   | (with_reducible refine zc ?_ ?_)
   | (with_reducible refine zb ?_ (fun _=>?_))
  ·intro y0 y1
   unfold spec_MapValid.l1
   repeat' first
   | (with_reducible exact ih0 _ _ _)
   | (with_reducible exact ih1 _ _)
   | (with_reducible exact spec_l1Both.mono _ _ _)
   | (with_reducible exact spec_l1Orbits.mono _ _ _)
   | (with_reducible exact LeO.refl _)
   | (with_reducible exact za _)
   | (with_reducible refine zc ?_ ?_)
   | (with_reducible refine zb ?_ (fun _=>?_))
theorem spec_MapValid.mono:∀ a0 a1 k,LeO (spec_MapValid.f k a0 a1) (spec_MapValid.f (k+1) a0 a1):=by
 intro a0 a1 k
 obtain ⟨ih0,ih1⟩:=spec_MapValid.mono_l k
 unfold spec_MapValid.f
 repeat' first
   | (with_reducible exact ih0 _ _ _)
   | (with_reducible exact ih1 _ _)
   | (with_reducible exact spec_l1Both.mono _ _ _)
   | (with_reducible exact spec_l1Orbits.mono _ _ _)
   | (with_reducible exact LeO.refl _)
   | (with_reducible exact za _)
   | (with_reducible refine zc ?_ ?_)
   | (with_reducible refine zb ?_ (fun _=>?_))
set_option maxHeartbeats 8000000 in
set_option maxRecDepth 100000 in
theorem spec_MapValid.calls (k:Nat) (A0_0:Option Addr) (c0_0:Nat) (l0_0:List Int) (A0_1:Option Addr) (c0_1:Nat) (l0_1:List Int) (r:Bool) (w:World) (hr0_0:Kd.C (Kd.int .i64) w A0_0 l0_0.length l0_0) (hc0_0:l0_0.length≤c0_0) (hr0_1:Kd.C (Kd.int .i64) w A0_1 l0_1.length l0_1) (hc0_1:l0_1.length≤c0_1) (h:spec_MapValid.f k l0_0 l0_1 = some r) :
  Calls Try.prog 76 #[.agg #[.slice A0_0 l0_0.length c0_0,.slice A0_1 l0_1.length c0_1]] w fun e w'=>e = .returned (.bool r)∧Below w.heap.size w w':=by
 have hu33:=Try.underlying33
 have HR0_0:=zA hr0_0
 have HC0_0:=zA hc0_0
 clear hr0_0 hc0_0
 have HR0_1:=zA hr0_1
 have HC0_1:=zA hc0_1
 clear hr0_1 hc0_1
 have HB:=zA (Below.refl w.heap.size w)
 have H:((spec_l1Both.f k l0_0 l0_1).bind fun t356=>(if t356 = true then (spec_MapValid.l0 k 0 l0_0 l0_1) else (some false))) = some r:=h
 clear h
 replace H:=zz0 H
 obtain ⟨t356,A20,H⟩:=H
 try dsimp only at H
 have A2:=zA A20
 clear A20
 by_cases c3:t356 = true
 ·subst c3
  rw [if_pos rfl] at H;try dsimp only at H
  have H':=zA H
  clear H
  go_enter Try.func76,Try.ntmps76
  go_wp2_with (first|((with_reducible refine gate_dst (N:=1) rfl ?_);refine box_event ?hg (N:=1) ?hd (cs:=#[.slice A0_0 l0_0.length c0_0,.slice A0_1 l0_1.length c0_1]) (t:=33) ?hr ?_;(case hd=>rfl);(case hg=>rfl);(case hr=>first|(go_simp;done)|(go_simp;rfl));intro gb355 hg w4 hbox hb;have n0_:=zA (zR (by exact zB_ HB.out) hb);have n1_:=zA (hbox);have n2_:=zA ((by rw [hg];exact (zQ (by exact zB_ HB.out)):w.heap.size≤gb355));have n3_:=zA ((by rw [hg];exact (zQ (by exact zB_ HB.out)):w.heap.size≤gb355));clear HB;have HB:=n0_;have BK355:=n1_;have GW355:=n2_;have GE355:=n3_;clear n0_ n1_ n2_ n3_;clear hb hbox hg;have hcz5_0:w4.cell? ⟨gb355,0,none⟩ = some (.slice A0_0 l0_0.length c0_0):=(zT BK355.out 0).trans rfl;have hcz5_1:w4.cell? ⟨gb355,1,none⟩ = some (.slice A0_1 l0_1.length c0_1):=(zT BK355.out 1).trans rfl;have hfz5_0:=zZ BK355.out 0;have hfz5_1:=zZ BK355.out 1)|(go_at_call 94;(with_reducible refine (spec_l1Both.calls k _ _ l0_0 _ _ l0_1 true _ ?side1 ?side2 ?side3 ?side4 A2.out).mono ?_);(case side1=>repeat (first|exact (zW HR0_0.out HB.out)|(with_reducible exact HR0_0.out)|apply zC_));(case side2=>exact HC0_0.out);(case side3=>repeat (first|exact (zW HR0_1.out HB.out)|(with_reducible exact HR0_1.out)|apply zC_));(case side4=>exact HC0_1.out);rintro e w' ⟨rfl,⟨nd,rfl⟩⟩;(try first|exact ⟨rfl,_,World.drewN_drewN _ _ _⟩|exact ⟨rfl,_,Eq.trans (World.drewN_drewN _ _ _) (congrArg (World.drewN _) (Nat.add_assoc _ _ _))⟩)))
  repeat (go_quiet (fail);try go_wp2_with (first|((with_reducible refine gate_dst (N:=1) rfl ?_);refine box_event ?hg (N:=1) ?hd (cs:=#[.slice A0_0 l0_0.length c0_0,.slice A0_1 l0_1.length c0_1]) (t:=33) ?hr ?_;(case hd=>rfl);(case hg=>rfl);(case hr=>first|(go_simp;done)|(go_simp;rfl));intro gb355 hg w4 hbox hb;have n0_:=zA (zR (by exact zB_ HB.out) hb);have n1_:=zA (hbox);have n2_:=zA ((by rw [hg];exact (zQ (by exact zB_ HB.out)):w.heap.size≤gb355));have n3_:=zA ((by rw [hg];exact (zQ (by exact zB_ HB.out)):w.heap.size≤gb355));clear HB;have HB:=n0_;have BK355:=n1_;have GW355:=n2_;have GE355:=n3_;clear n0_ n1_ n2_ n3_;clear hb hbox hg;have hcz5_0:w4.cell? ⟨gb355,0,none⟩ = some (.slice A0_0 l0_0.length c0_0):=(zT BK355.out 0).trans rfl;have hcz5_1:w4.cell? ⟨gb355,1,none⟩ = some (.slice A0_1 l0_1.length c0_1):=(zT BK355.out 1).trans rfl;have hfz5_0:=zZ BK355.out 0;have hfz5_1:=zZ BK355.out 1)|(go_at_call 94;(with_reducible refine (spec_l1Both.calls k _ _ l0_0 _ _ l0_1 true _ ?side1 ?side2 ?side3 ?side4 A2.out).mono ?_);(case side1=>repeat (first|exact (zW HR0_0.out HB.out)|(with_reducible exact HR0_0.out)|apply zC_));(case side2=>exact HC0_0.out);(case side3=>repeat (first|exact (zW HR0_1.out HB.out)|(with_reducible exact HR0_1.out)|apply zC_));(case side4=>exact HC0_1.out);rintro e w' ⟨rfl,⟨nd,rfl⟩⟩;(try first|exact ⟨rfl,_,World.drewN_drewN _ _ _⟩|exact ⟨rfl,_,Eq.trans (World.drewN_drewN _ _ _) (congrArg (World.drewN _) (Nat.add_assoc _ _ _))⟩))))
  go_loopg [3] k (fun kq v3 w' => ∃ (x3_1:Int),v3 = .int .i64 x3_1∧Aside0 (spec_MapValid.l0 kq x3_1 l0_0 l0_1 = some r)∧Aside0 (kq≤k)∧Aside0 (w'.heap[gb355]? = some (.cells #[(.slice A0_0 l0_0.length c0_0),(.slice A0_1 l0_1.length c0_1)] 33 (0,0)))∧Aside0 (Below w.heap.size w w'))
  case atStart=>exact ⟨(0),(by first|rfl|(simp;done)|(simp [*];done)),H',⟨Nat.le_refl _⟩,⟨by (with_reducible repeat (first|refine zG ?_ _|refine zI ?_|refine zH ?_ _));exact BK355.out⟩,⟨by repeat (first|(with_reducible first|exact HB.out|apply zD|apply zB|apply zC|refine zF ?_ GE355.out)|exact HB.out)⟩⟩
  case round =>
   clear H'
   (try clear p2);(try clear c3);(try clear hcz5_0);(try clear hcz5_1);(try clear hfz5_0);(try clear hfz5_1)
   obtain ⟨x3_1,rfl,HA,HK1,BK355,HB⟩:=hrel
   cases gk with
   | zero=>exact absurd HA.out (by simp [spec_MapValid.l0])
   | succ k1 =>
    have H:=HA.out
    clear HA
    simp only [spec_MapValid.l0] at H
    by_cases c6:x3_1 < (l0_1.length:Int)
    ·rw [if_pos c6] at H
     have c6b0:decide (x3_1 < (l0_1.length:Int)) = true:=zO c6
     clear c6
     by_cases c7:0≤x3_1
     ·rw [if_pos c7] at H
      have c7b0:decide (0≤x3_1) = true:=zO c7
      clear c7
      by_cases c8:(rd l0_1 x3_1) = x3_1
      ·rw [if_pos c8] at H
       have c8b0:((rd l0_1 x3_1) == x3_1) = true:=beq_iff_eq.mpr c8
       have c8b1:((rd l0_1 x3_1) != x3_1) = false:=bne_eq_false_iff_eq.mpr c8
       clear c8
       obtain rfl:=zS H
       have hcz9_0:wr.cell? ⟨gb355,0,none⟩ = some (.slice A0_0 l0_0.length c0_0):=(zT BK355.out 0).trans rfl
       have hcz9_1:wr.cell? ⟨gb355,1,none⟩ = some (.slice A0_1 l0_1.length c0_1):=(zT BK355.out 1).trans rfl
       have hfz9_0:=zZ BK355.out 0
       have hfz9_1:=zZ BK355.out 1
       have p357:0≤(x3_1:Int):=zE (by with_reducible assumption)
       have q357:x3_1 < (l0_1.length:Int):=zE (by with_reducible assumption)
       obtain ⟨ad357,e357,hx357_0⟩:=Kd.at_int HR0_1.out x3_1 p357 q357
       cases e357
       replace hx357_0:=(HB.out.cell (zY w _ hx357_0)).trans hx357_0
       replace p357:=eq_true p357
       replace q357:=eq_true q357
       go_wp2
       repeat (go_quiet (fail);try go_wp2)
       go_ret
       exact ⟨by first|rfl|(simp [errW_none,errW_some] <;> rfl)|(simp [*,errW_none,errW_some] <;> rfl),by repeat (first|(with_reducible first|exact HB.out|apply zD|apply zB|apply zC|refine zF ?_ GE355.out)|exact HB.out)⟩
      ·rw [if_neg c8] at H
       have c8b0:((rd l0_1 x3_1) == x3_1) = false:=beq_eq_false_iff_ne.mpr c8
       have c8b1:((rd l0_1 x3_1) != x3_1) = true:=bne_iff_ne.mpr c8
       by_cases c10:0≤(rd l0_1 x3_1)
       ·rw [if_pos c10] at H
        have c10b0:decide (0≤(rd l0_1 x3_1)) = true:=zO c10
        clear c10
        by_cases c11:(rd l0_1 x3_1) < (l0_1.length:Int)
        ·rw [if_pos c11] at H
         have c11b0:decide ((rd l0_1 x3_1) < (l0_1.length:Int)) = true:=zO c11
         clear c11
         by_cases c12:(rd l0_1 (rd l0_1 x3_1)) = x3_1
         ·rw [if_pos c12] at H
          have c12b0:((rd l0_1 (rd l0_1 x3_1)) == x3_1) = true:=beq_iff_eq.mpr c12
          have c12b1:((rd l0_1 (rd l0_1 x3_1)) != x3_1) = false:=bne_eq_false_iff_eq.mpr c12
          clear c12
          have H':=zA H
          clear H
          have hcz13_0:wr.cell? ⟨gb355,0,none⟩ = some (.slice A0_0 l0_0.length c0_0):=(zT BK355.out 0).trans rfl
          have hcz13_1:wr.cell? ⟨gb355,1,none⟩ = some (.slice A0_1 l0_1.length c0_1):=(zT BK355.out 1).trans rfl
          have hfz13_0:=zZ BK355.out 0
          have hfz13_1:=zZ BK355.out 1
          have p357:0≤(x3_1:Int):=zE (by with_reducible assumption)
          have q357:x3_1 < (l0_1.length:Int):=zE (by with_reducible assumption)
          obtain ⟨ad357,e357,hx357_0⟩:=Kd.at_int HR0_1.out x3_1 p357 q357
          cases e357
          replace hx357_0:=(HB.out.cell (zY w _ hx357_0)).trans hx357_0
          replace p357:=eq_true p357
          replace q357:=eq_true q357
          have p358:0≤(x3_1:Int):=zE (by with_reducible assumption)
          have q358:x3_1 < (l0_1.length:Int):=zE (by with_reducible assumption)
          obtain ⟨ad358,e358,hx358_0⟩:=Kd.at_int HR0_1.out x3_1 p358 q358
          obtain rfl:ad357 = ad358:=(by injection e358)
          replace hx358_0:=(HB.out.cell (zY w _ hx358_0)).trans hx358_0
          replace p358:=eq_true p358
          replace q358:=eq_true q358
          have p359:0≤((rd l0_1 x3_1):Int):=zE (by with_reducible assumption)
          have q359:(rd l0_1 x3_1) < (l0_1.length:Int):=zE (by with_reducible assumption)
          obtain ⟨ad359,e359,hx359_0⟩:=Kd.at_int HR0_1.out (rd l0_1 x3_1) p359 q359
          obtain rfl:ad357 = ad359:=(by injection e359)
          replace hx359_0:=(HB.out.cell (zY w _ hx359_0)).trans hx359_0
          replace p359:=eq_true p359
          replace q359:=eq_true q359
          go_wp2
          repeat (go_quiet (fail);try go_wp2)
          go_roundg k1
          case measure=>have:=HK1.out;omega
          case rel=>exact ⟨(wrap64 (x3_1+1)),(by first|rfl|(simp;done)|(simp [*];done)),H',⟨by have:=HK1.out;omega⟩,⟨by (with_reducible repeat (first|refine zG ?_ _|refine zI ?_|refine zH ?_ _));exact BK355.out⟩,⟨by repeat (first|(with_reducible first|exact HB.out|apply zD|apply zB|apply zC|refine zF ?_ GE355.out)|exact HB.out)⟩⟩
         ·rw [if_neg c12] at H
          have c12b0:((rd l0_1 (rd l0_1 x3_1)) == x3_1) = false:=beq_eq_false_iff_ne.mpr c12
          have c12b1:((rd l0_1 (rd l0_1 x3_1)) != x3_1) = true:=bne_iff_ne.mpr c12
          obtain rfl:=zS H
          have hcz14_0:wr.cell? ⟨gb355,0,none⟩ = some (.slice A0_0 l0_0.length c0_0):=(zT BK355.out 0).trans rfl
          have hcz14_1:wr.cell? ⟨gb355,1,none⟩ = some (.slice A0_1 l0_1.length c0_1):=(zT BK355.out 1).trans rfl
          have hfz14_0:=zZ BK355.out 0
          have hfz14_1:=zZ BK355.out 1
          have p357:0≤(x3_1:Int):=zE (by with_reducible assumption)
          have q357:x3_1 < (l0_1.length:Int):=zE (by with_reducible assumption)
          obtain ⟨ad357,e357,hx357_0⟩:=Kd.at_int HR0_1.out x3_1 p357 q357
          cases e357
          replace hx357_0:=(HB.out.cell (zY w _ hx357_0)).trans hx357_0
          replace p357:=eq_true p357
          replace q357:=eq_true q357
          have p358:0≤(x3_1:Int):=zE (by with_reducible assumption)
          have q358:x3_1 < (l0_1.length:Int):=zE (by with_reducible assumption)
          obtain ⟨ad358,e358,hx358_0⟩:=Kd.at_int HR0_1.out x3_1 p358 q358
          obtain rfl:ad357 = ad358:=(by injection e358)
          replace hx358_0:=(HB.out.cell (zY w _ hx358_0)).trans hx358_0
          replace p358:=eq_true p358
          replace q358:=eq_true q358
          have p359:0≤((rd l0_1 x3_1):Int):=zE (by with_reducible assumption)
          have q359:(rd l0_1 x3_1) < (l0_1.length:Int):=zE (by with_reducible assumption)
          obtain ⟨ad359,e359,hx359_0⟩:=Kd.at_int HR0_1.out (rd l0_1 x3_1) p359 q359
          obtain rfl:ad357 = ad359:=(by injection e359)
          replace hx359_0:=(HB.out.cell (zY w _ hx359_0)).trans hx359_0
          replace p359:=eq_true p359
          replace q359:=eq_true q359
          go_wp2
          repeat (go_quiet (fail);try go_wp2)
          go_ret
          exact ⟨by first|rfl|(simp [errW_none,errW_some] <;> rfl)|(simp [*,errW_none,errW_some] <;> rfl),by repeat (first|(with_reducible first|exact HB.out|apply zD|apply zB|apply zC|refine zF ?_ GE355.out)|exact HB.out)⟩
        ·rw [if_neg c11] at H
         exact absurd H (by simp)
       ·rw [if_neg c10] at H
        exact absurd H (by simp)
     ·rw [if_neg c7] at H
      exact absurd H (by simp)
    ·rw [if_neg c6] at H
     have c6b0:decide (x3_1 < (l0_1.length:Int)) = false:=zP c6
     clear c6
     replace H:=zz0 H
     obtain ⟨t360,A150,H⟩:=H
     try dsimp only at H
     have A15:=zA A150
     clear A150
     have H':=zA H
     clear H
     have hcz16_0:wr.cell? ⟨gb355,0,none⟩ = some (.slice A0_0 l0_0.length c0_0):=(zT BK355.out 0).trans rfl
     have hcz16_1:wr.cell? ⟨gb355,1,none⟩ = some (.slice A0_1 l0_1.length c0_1):=(zT BK355.out 1).trans rfl
     have hfz16_0:=zZ BK355.out 0
     have hfz16_1:=zZ BK355.out 1
     go_wp2_with (first|(go_at_call 95;(with_reducible refine (spec_l1Orbits.calls k1 _ _ l0_0 _ _ l0_1 t360 _ ?side1 ?side2 ?side3 ?side4 A15.out).mono ?_);(case side1=>repeat (first|exact (zW HR0_0.out HB.out)|(with_reducible exact HR0_0.out)|apply zC_));(case side2=>exact HC0_0.out);(case side3=>repeat (first|exact (zW HR0_1.out HB.out)|(with_reducible exact HR0_1.out)|apply zC_));(case side4=>exact HC0_1.out);rintro e w17 ⟨v361,rfl,ho0,hb⟩;have n0_:=zA (ze ho0 (zQ (by repeat (first|(with_reducible first|exact HB.out|apply zD|apply zB|apply zC|refine zF ?_ GE355.out)|exact HB.out))));have n1_:=zA (zX (g:=gb355) (o:=.cells #[.slice A0_0 l0_0.length c0_0,.slice A0_1 l0_1.length c0_1] 33 (0,0)) (by (with_reducible repeat (first|refine zG ?_ _|refine zI ?_|refine zH ?_ _));exact BK355.out) hb);have n2_:=zA (zR (by repeat (first|(with_reducible first|exact HB.out|apply zD|apply zB|apply zC|refine zF ?_ GE355.out)|exact HB.out)) hb);clear BK355;clear HB;have HO362:=n0_;have BK355:=n1_;have HB:=n2_;clear n0_ n1_ n2_;(try clear hb);(try clear hb2);(try clear hk);(try clear hi);(try clear ho0)))
     repeat (go_quiet (fail);try go_wp2_with (first|(go_at_call 95;(with_reducible refine (spec_l1Orbits.calls k1 _ _ l0_0 _ _ l0_1 t360 _ ?side1 ?side2 ?side3 ?side4 A15.out).mono ?_);(case side1=>repeat (first|exact (zW HR0_0.out HB.out)|(with_reducible exact HR0_0.out)|apply zC_));(case side2=>exact HC0_0.out);(case side3=>repeat (first|exact (zW HR0_1.out HB.out)|(with_reducible exact HR0_1.out)|apply zC_));(case side4=>exact HC0_1.out);rintro e w17 ⟨v361,rfl,ho0,hb⟩;have n0_:=zA (ze ho0 (zQ (by repeat (first|(with_reducible first|exact HB.out|apply zD|apply zB|apply zC|refine zF ?_ GE355.out)|exact HB.out))));have n1_:=zA (zX (g:=gb355) (o:=.cells #[.slice A0_0 l0_0.length c0_0,.slice A0_1 l0_1.length c0_1] 33 (0,0)) (by (with_reducible repeat (first|refine zG ?_ _|refine zI ?_|refine zH ?_ _));exact BK355.out) hb);have n2_:=zA (zR (by repeat (first|(with_reducible first|exact HB.out|apply zD|apply zB|apply zC|refine zF ?_ GE355.out)|exact HB.out)) hb);clear BK355;clear HB;have HO362:=n0_;have BK355:=n1_;have HB:=n2_;clear n0_ n1_ n2_;(try clear hb);(try clear hb2);(try clear hk);(try clear hi);(try clear ho0))))
     go_loopg [5] k1 (fun kq v5 w' => ∃ (x5_2:Int),v5 = .int .i64 x5_2∧Aside0 (spec_MapValid.l1 kq t360 x5_2 = some r)∧Aside0 (kq≤k1)∧Aside0 (Kd.R (Kd.int .i64) 3 w' w.heap.size (fun _=>True) v361 t360)∧Aside0 (w'.heap[gb355]? = some (.cells #[(.slice A0_0 l0_0.length c0_0),(.slice A0_1 l0_1.length c0_1)] 33 (0,0)))∧Aside0 (Below w.heap.size w w'))
     case atStart=>exact ⟨(0),(by first|rfl|(simp;done)|(simp [*];done)),H',⟨Nat.le_refl _⟩,⟨by apply zR_;exact HO362.out⟩,⟨by (with_reducible repeat (first|refine zG ?_ _|refine zI ?_|refine zH ?_ _));exact BK355.out⟩,⟨by repeat (first|(with_reducible first|exact HB.out|apply zD|apply zB|apply zC|refine zF ?_ GE355.out)|exact HB.out)⟩⟩
     case round =>
      clear H'
      (try clear c1);(try clear p2);(try clear c3);(try clear p3);(try clear q3);(try clear hx3);(try clear c6);(try clear c6b0);(try clear p6);(try clear c7);(try clear c7b0);(try clear c8);(try clear c8b0);(try clear c8b1);(try clear c10);(try clear c10b0);(try clear c11);(try clear c11b0);(try clear c12);(try clear c12b0);(try clear c12b1);(try clear hcz13_0);(try clear hcz13_1);(try clear hcz14_0);(try clear hcz14_1);(try clear hcz16_0);(try clear hcz16_1);(try clear hcz5_0);(try clear hcz5_1);(try clear hcz9_0);(try clear hcz9_1);(try clear hfz13_0);(try clear hfz13_1);(try clear hfz14_0);(try clear hfz14_1);(try clear hfz16_0);(try clear hfz16_1);(try clear hfz5_0);(try clear hfz5_1);(try clear hfz9_0);(try clear hfz9_1);(try clear hx357_0);(try clear hx358_0);(try clear hx359_0);(try clear p2);(try clear p357);(try clear p358);(try clear p359);(try clear q357);(try clear q358);(try clear q359)
      obtain ⟨x5_2,rfl,HA,HK2,HO_4,BK355,HB⟩:=hrel
      cases gk with
      | zero=>exact absurd HA.out (by simp [spec_MapValid.l1])
      | succ k2 =>
       have H:=HA.out
       clear HA
       simp only [spec_MapValid.l1] at H
       by_cases c18:x5_2 < (t360.length:Int)
       ·rw [if_pos c18] at H
        have c18b0:decide (x5_2 < (t360.length:Int)) = true:=zO c18
        clear c18
        by_cases c19:0≤x5_2
        ·rw [if_pos c19] at H
         have c19b0:decide (0≤x5_2) = true:=zO c19
         clear c19
         by_cases c20:(rd t360 x5_2) = 0
         ·rw [if_pos c20] at H
          have c20b0:((rd t360 x5_2) == 0) = true:=beq_iff_eq.mpr c20
          have c20b1:((rd t360 x5_2) != 0) = false:=bne_eq_false_iff_eq.mpr c20
          clear c20
          have H':=zA H
          clear H
          obtain ⟨Ao21,co21,eo21⟩:=zg HO_4.out
          subst eo21
          have p363:0≤(x5_2:Int):=zE (by with_reducible assumption)
          have q363:x5_2 < (t360.length:Int):=zE (by with_reducible assumption)
          obtain ⟨ad363,e363,hx363_0⟩:=Kd.at_int (zU HO_4.out).2.2 x5_2 p363 q363
          cases e363
          replace p363:=eq_true p363
          replace q363:=eq_true q363
          go_wp2
          repeat (go_quiet (fail);try go_wp2)
          go_roundg k2
          case measure=>have:=HK1.out;have:=HK2.out;omega
          case rel=>exact ⟨(wrap64 (x5_2+1)),(by first|rfl|(simp;done)|(simp [*];done)),H',⟨by have:=HK1.out;have:=HK2.out;omega⟩,⟨by apply zR_;exact HO_4.out⟩,⟨by (with_reducible repeat (first|refine zG ?_ _|refine zI ?_|refine zH ?_ _));exact BK355.out⟩,⟨by repeat (first|(with_reducible first|exact HB.out|apply zD|apply zB|apply zC|refine zF ?_ GE355.out)|exact HB.out)⟩⟩
         ·rw [if_neg c20] at H
          have c20b0:((rd t360 x5_2) == 0) = false:=beq_eq_false_iff_ne.mpr c20
          have c20b1:((rd t360 x5_2) != 0) = true:=bne_iff_ne.mpr c20
          obtain rfl:=zS H
          obtain ⟨Ao22,co22,eo22⟩:=zg HO_4.out
          subst eo22
          have p363:0≤(x5_2:Int):=zE (by with_reducible assumption)
          have q363:x5_2 < (t360.length:Int):=zE (by with_reducible assumption)
          obtain ⟨ad363,e363,hx363_0⟩:=Kd.at_int (zU HO_4.out).2.2 x5_2 p363 q363
          cases e363
          replace p363:=eq_true p363
          replace q363:=eq_true q363
          go_wp2
          repeat (go_quiet (fail);try go_wp2)
          go_ret
          exact ⟨by first|rfl|(simp [errW_none,errW_some] <;> rfl)|(simp [*,errW_none,errW_some] <;> rfl),by repeat (first|(with_reducible first|exact HB.out|apply zD|apply zB|apply zC|refine zF ?_ GE355.out)|exact HB.out)⟩
        ·rw [if_neg c19] at H
         exact absurd H (by simp)
       ·rw [if_neg c18] at H
        have c18b0:decide (x5_2 < (t360.length:Int)) = false:=zP c18
        clear c18
        obtain rfl:=zS H
        obtain ⟨Ao23,co23,eo23⟩:=zg HO_4.out
        subst eo23
        go_wp2
        repeat (go_quiet (fail);try go_wp2)
        go_ret
        exact ⟨by first|rfl|(simp [errW_none,errW_some] <;> rfl)|(simp [*,errW_none,errW_some] <;> rfl),by repeat (first|(with_reducible first|exact HB.out|apply zD|apply zB|apply zC|refine zF ?_ GE355.out)|exact HB.out)⟩
 ·replace c3:=Bool.eq_false_iff.mpr c3
  subst c3
  have H1:(some false) = some r:=by rw [if_neg (show ¬ (false = true) by decide)] at H;exact H
  clear H
  have H:=H1
  clear H1
  obtain rfl:=zS H
  go_enter Try.func76,Try.ntmps76
  go_wp2_with (first|((with_reducible refine gate_dst (N:=1) rfl ?_);refine box_event ?hg (N:=1) ?hd (cs:=#[.slice A0_0 l0_0.length c0_0,.slice A0_1 l0_1.length c0_1]) (t:=33) ?hr ?_;(case hd=>rfl);(case hg=>rfl);(case hr=>first|(go_simp;done)|(go_simp;rfl));intro gb355 hg w24 hbox hb;have n0_:=zA (zR (by exact zB_ HB.out) hb);have n1_:=zA (hbox);have n2_:=zA ((by rw [hg];exact (zQ (by exact zB_ HB.out)):w.heap.size≤gb355));have n3_:=zA ((by rw [hg];exact (zQ (by exact zB_ HB.out)):w.heap.size≤gb355));clear HB;have HB:=n0_;have BK355:=n1_;have GW355:=n2_;have GE355:=n3_;clear n0_ n1_ n2_ n3_;clear hb hbox hg;have hcz25_0:w24.cell? ⟨gb355,0,none⟩ = some (.slice A0_0 l0_0.length c0_0):=(zT BK355.out 0).trans rfl;have hcz25_1:w24.cell? ⟨gb355,1,none⟩ = some (.slice A0_1 l0_1.length c0_1):=(zT BK355.out 1).trans rfl;have hfz25_0:=zZ BK355.out 0;have hfz25_1:=zZ BK355.out 1)|(go_at_call 94;(with_reducible refine (spec_l1Both.calls k _ _ l0_0 _ _ l0_1 false _ ?side1 ?side2 ?side3 ?side4 A2.out).mono ?_);(case side1=>repeat (first|exact (zW HR0_0.out HB.out)|(with_reducible exact HR0_0.out)|apply zC_));(case side2=>exact HC0_0.out);(case side3=>repeat (first|exact (zW HR0_1.out HB.out)|(with_reducible exact HR0_1.out)|apply zC_));(case side4=>exact HC0_1.out);rintro e w' ⟨rfl,⟨nd,rfl⟩⟩;(try first|exact ⟨rfl,_,World.drewN_drewN _ _ _⟩|exact ⟨rfl,_,Eq.trans (World.drewN_drewN _ _ _) (congrArg (World.drewN _) (Nat.add_assoc _ _ _))⟩)))
  repeat (go_quiet (fail);try go_wp2_with (first|((with_reducible refine gate_dst (N:=1) rfl ?_);refine box_event ?hg (N:=1) ?hd (cs:=#[.slice A0_0 l0_0.length c0_0,.slice A0_1 l0_1.length c0_1]) (t:=33) ?hr ?_;(case hd=>rfl);(case hg=>rfl);(case hr=>first|(go_simp;done)|(go_simp;rfl));intro gb355 hg w24 hbox hb;have n0_:=zA (zR (by exact zB_ HB.out) hb);have n1_:=zA (hbox);have n2_:=zA ((by rw [hg];exact (zQ (by exact zB_ HB.out)):w.heap.size≤gb355));have n3_:=zA ((by rw [hg];exact (zQ (by exact zB_ HB.out)):w.heap.size≤gb355));clear HB;have HB:=n0_;have BK355:=n1_;have GW355:=n2_;have GE355:=n3_;clear n0_ n1_ n2_ n3_;clear hb hbox hg;have hcz25_0:w24.cell? ⟨gb355,0,none⟩ = some (.slice A0_0 l0_0.length c0_0):=(zT BK355.out 0).trans rfl;have hcz25_1:w24.cell? ⟨gb355,1,none⟩ = some (.slice A0_1 l0_1.length c0_1):=(zT BK355.out 1).trans rfl;have hfz25_0:=zZ BK355.out 0;have hfz25_1:=zZ BK355.out 1)|(go_at_call 94;(with_reducible refine (spec_l1Both.calls k _ _ l0_0 _ _ l0_1 false _ ?side1 ?side2 ?side3 ?side4 A2.out).mono ?_);(case side1=>repeat (first|exact (zW HR0_0.out HB.out)|(with_reducible exact HR0_0.out)|apply zC_));(case side2=>exact HC0_0.out);(case side3=>repeat (first|exact (zW HR0_1.out HB.out)|(with_reducible exact HR0_1.out)|apply zC_));(case side4=>exact HC0_1.out);rintro e w' ⟨rfl,⟨nd,rfl⟩⟩;(try first|exact ⟨rfl,_,World.drewN_drewN _ _ _⟩|exact ⟨rfl,_,Eq.trans (World.drewN_drewN _ _ _) (congrArg (World.drewN _) (Nat.add_assoc _ _ _))⟩))))
  go_ret
  exact ⟨by first|rfl|(simp [errW_none,errW_some] <;> rfl)|(simp [*,errW_none,errW_some] <;> rfl),by repeat (first|(with_reducible first|exact HB.out|apply zD|apply zB|apply zC|refine zF ?_ GE355.out)|exact HB.out)⟩

/-! ### spec_l1Cycles: function 84 -/
mutual
def spec_l1Cycles.l0:Nat→List Int→List (List Int)→List Bool→Int→Option ((List (List Int)))
 | 0,_,_,_,_=>none
 | k+1,x0,x3,x4,x5=>if x5 < (x0.length:Int) then (if 0≤x5 then (if x5 < (x4.length:Int) then (if rdOf false x4 x5 = true then (spec_l1Cycles.l0 k x0 x3 x4 (wrap64 (x5+1))) else (spec_l1Cycles.l1 k x0 x3 x4 x5 (([]:List Int)) x5)) else (none)) else (none)) else (some x3)
def spec_l1Cycles.l1:Nat→List Int→List (List Int)→List Bool→Int→List Int→Int→Option ((List (List Int)))
 | 0,_,_,_,_,_,_=>none
 | k+1,x0,x3,x4,x5,x6,x7=>if 0≤x7 then (if x7 < (x4.length:Int) then (if rdOf false x4 x7 = true then (if x3.length < 5864062014805 then (spec_l1Cycles.l0 k x0 (x3 ++ [x6]) x4 (wrap64 (x5+1))) else (none)) else (if x6.length < 17592186044416 then (if x7 < (x0.length:Int) then (spec_l1Cycles.l1 k x0 x3 (x4.set (x7:Int).toNat true) x5 (x6 ++ [x7]) (rd x0 x7)) else (none)) else (none))) else (none)) else (none)
end
def spec_l1Cycles.f (k:Nat) (l0:List Int):Option ((List (List Int))):=if 0≤(l0.length:Int) then (if ((l0.length:Int):Int).toNat≤281474976710656 then (spec_l1Cycles.l0 k l0 (([]:List (List Int))) (List.replicate ((l0.length:Int):Int).toNat false) 0) else (none)) else (none)
theorem spec_l1Cycles.mono_l:∀ k,(∀ y0 y1 y2 y3,LeO (spec_l1Cycles.l0 k y0 y1 y2 y3) (spec_l1Cycles.l0 (k+1) y0 y1 y2 y3))∧(∀ y0 y1 y2 y3 y4 y5,LeO (spec_l1Cycles.l1 k y0 y1 y2 y3 y4 y5) (spec_l1Cycles.l1 (k+1) y0 y1 y2 y3 y4 y5))
 | 0=>⟨fun _ _ _ _ r h=>by simp [spec_l1Cycles.l0] at h,fun _ _ _ _ _ _ r h=>by simp [spec_l1Cycles.l1] at h⟩
 | k+1=>by
  obtain ⟨ih0,ih1⟩:=spec_l1Cycles.mono_l k
  refine ⟨?_,?_⟩
  ·intro y0 y1 y2 y3
   unfold spec_l1Cycles.l0
   repeat' first
   | (with_reducible exact ih0 _ _ _ _)
   | (with_reducible exact ih1 _ _ _ _ _ _)
   | (with_reducible exact LeO.refl _)
   | (with_reducible exact za _)
   | (with_reducible refine zc ?_ ?_)
   | (with_reducible refine zb ?_ (fun _=>?_))
  ·intro y0 y1 y2 y3 y4 y5
   unfold spec_l1Cycles.l1
   repeat' first
   | (with_reducible exact ih0 _ _ _ _)
   | (with_reducible exact ih1 _ _ _ _ _ _)
   | (with_reducible exact LeO.refl _)
   | (with_reducible exact za _)
   | (with_reducible refine zc ?_ ?_)
   | (with_reducible refine zb ?_ (fun _=>?_))
theorem spec_l1Cycles.mono:∀ a0 k,LeO (spec_l1Cycles.f k a0) (spec_l1Cycles.f (k+1) a0):=by
 intro a0 k
 obtain ⟨ih0,ih1⟩:=spec_l1Cycles.mono_l k
 unfold spec_l1Cycles.f
 repeat' first
   | (with_reducible exact ih0 _ _ _ _)
   | (with_reducible exact ih1 _ _ _ _ _ _)
   | (with_reducible exact LeO.refl _)
   | (with_reducible exact za _)
   | (with_reducible refine zc ?_ ?_)
   | (with_reducible refine zb ?_ (fun _=>?_))
set_option maxHeartbeats 8000000 in
set_option maxRecDepth 100000 in
theorem spec_l1Cycles.calls (k:Nat) (A0:Option Addr) (c0:Nat) (l0:List Int) (r:List (List Int)) (w:World) (hr0:Kd.C (Kd.int .i64) w A0 l0.length l0) (hc0:l0.length≤c0) (h:spec_l1Cycles.f k l0 = some r) :
  Calls Try.prog 84 #[.slice A0 l0.length c0] w fun e w' => ∃ v0_:Value,e = .returned (v0_)∧Kd.S (Kd.slice 3 (Kd.int .i64)) 31 w' w.heap.size (fun _=>True) v0_ r∧Below w.heap.size w w':=by
 have HR0:=zA hr0
 have HC0:=zA hc0
 clear hr0 hc0
 have HB:=zA (Below.refl w.heap.size w)
 have H:(if 0≤(l0.length:Int) then (if ((l0.length:Int):Int).toNat≤281474976710656 then (spec_l1Cycles.l0 k l0 (([]:List (List Int))) (List.replicate ((l0.length:Int):Int).toNat false) 0) else (none)) else (none)) = some r:=h
 clear h
 obtain ⟨y364,hy364⟩:∃ y_:List (List Int),y_ = (([]:List (List Int))):=⟨_,rfl⟩
 replace H:(if 0≤(l0.length:Int) then (if ((l0.length:Int):Int).toNat≤281474976710656 then (spec_l1Cycles.l0 k l0 y364 (List.replicate ((l0.length:Int):Int).toNat false) 0) else (none)) else (none)) = some r:=by (try rw [hy364]);first|with_reducible exact H|with_reducible exact zS_ H|exact H
 have Ny364:=zA hy364
 clear hy364
 by_cases c2:0≤(l0.length:Int)
 ·rw [if_pos c2] at H
  have c2b0:=eq_true c2
  have c2b1:decide (0≤(l0.length:Int)) = true:=zO c2
  clear c2
  by_cases c3:((l0.length:Int):Int).toNat≤281474976710656
  ·rw [if_pos c3] at H
   have c3b0:=eq_true c3
   have c3b1:decide (((l0.length:Int):Int).toNat≤281474976710656) = true:=zO c3
   clear c3
   obtain ⟨y367,hy367⟩:∃ y_:List Bool,y_ = (List.replicate ((l0.length:Int):Int).toNat false):=⟨_,rfl⟩
   replace H:(spec_l1Cycles.l0 k l0 y364 y367 0) = some r:=by (try rw [hy367]);first|with_reducible exact H|with_reducible exact zS_ H|exact H
   have Ny367:=zA hy367
   clear hy367
   have H':=zA H
   clear H
   go_enter Try.func84,Try.ntmps84
   go_wp2_with (first|((with_reducible refine gate_dst (N:=8) rfl ?_);refine Kd.S_lit (Kd.slice 3 (Kd.int .i64)) _ 31 ?hg (N:=8) ?hd (xs:=([]:List (List Int))) (inner:=[]) (ok:=fun _=>True) (okp:=fun _=>True) ?hr ?hp (fun _ hk=>hk) trivial (Below.refl _ _) (Nat.le_refl _) (by simp) ?_;(case hd=>rfl);(case hg=>rfl);(case hr=>first|(go_simp;done)|(go_simp;rfl));(case hp=>exact (Reps.none _ _));intro v365 w4 ho5 hb hg_ hnew_;clear hg_ hnew_;(first|rw [← Ny364.out] at ho5|(simp only [Int.reduceToNat] at ho5;rw [← Ny364.out] at ho5));have n0_:=zA (Kd.S_lower ho5 (zQ (by exact zB_ HB.out)));have n1_:=zA (zR (by exact zB_ HB.out) hb);clear HB;have HO366:=n0_;have HB:=n1_;clear n0_ n1_;clear hb ho5)|((with_reducible refine gate_dst (N:=11) rfl ?_);refine Kd.R_make Kd.bool _ 4 rfl (N:=11) rfl 73 _ _ rfl (l0.length:Int) rfl rfl Try.underlying73 (.bool false) 1 info4 rfl (by decide) (by omega) false (ok:=fun _=>True) (okp:=fun _=>True) rfl (fun _ hk=>hk) trivial (zE (by with_reducible assumption)) (Nat.le_trans (Nat.mul_le_mul_right _ (zE (by with_reducible assumption):(l0.length:Int).toNat≤281474976710656)) (by omega)) (Below.refl _ _) (Nat.le_refl _) ?_;intro v368 w6 ho7 hb hg_ hnew_;clear hg_ hnew_;(first|rw [← Ny367.out] at ho7|(simp only [Int.reduceToNat] at ho7;rw [← Ny367.out] at ho7));have n0_:=zA (Kd.S_below (by (with_reducible repeat (first|apply Kd.S_alloc|apply Kd.S_drewN|apply Kd.S_drew));exact HO366.out) hb);have n1_:=zA (ze ho7 (zQ (by exact zB_ HB.out)));have n2_:=zA (zR (by exact zB_ HB.out) hb);clear HO366;clear HB;have HO366:=n0_;have HO369:=n1_;have HB:=n2_;clear n0_ n1_ n2_;clear hb ho7))
   go_loopg [3,5] k (fun kq v3 v5 w' => ∃ (x3_1:List (List Int)) (x4_1:List Bool) (x5_1:Int),v5 = .int .i64 x5_1∧Aside0 (spec_l1Cycles.l0 kq l0 x3_1 x4_1 x5_1 = some r)∧Aside0 (kq≤k)∧Aside0 (Kd.S (Kd.slice 3 (Kd.int .i64)) 31 w' w.heap.size (fun _=>True) v3 x3_1)∧Aside0 (Kd.R Kd.bool 4 w' w.heap.size (fun _=>True) v368 x4_1)∧Aside0 (Below w.heap.size w w'))
   case atStart=>exact ⟨(y364),(y367),(0),(by first|rfl|(simp;done)|(simp [*];done)),H',⟨Nat.le_refl _⟩,⟨by (with_reducible repeat (first|apply Kd.S_alloc|apply Kd.S_drewN|apply Kd.S_drew));exact HO366.out⟩,⟨by apply zR_;exact HO369.out⟩,⟨by exact zB_ HB.out⟩⟩
   case round =>
    clear H'
    (try clear c2);(try clear c2b0);(try clear c2b1);(try clear p2);(try clear c3);(try clear c3b0);(try clear c3b1)
    obtain ⟨x3_1,x4_1,x5_1,rfl,HA,HK1,HO_3,HO_4,HB⟩:=hrel
    cases gk with
    | zero=>exact absurd HA.out (by simp [spec_l1Cycles.l0])
    | succ k1 =>
     have H:=HA.out
     clear HA
     simp only [spec_l1Cycles.l0] at H
     by_cases c8:x5_1 < (l0.length:Int)
     ·rw [if_pos c8] at H
      have c8b0:decide (x5_1 < (l0.length:Int)) = true:=zO c8
      clear c8
      by_cases c9:0≤x5_1
      ·rw [if_pos c9] at H
       have c9b0:decide (0≤x5_1) = true:=zO c9
       clear c9
       by_cases c10:x5_1 < (x4_1.length:Int)
       ·rw [if_pos c10] at H
        have c10b0:decide (x5_1 < (x4_1.length:Int)) = true:=zO c10
        clear c10
        obtain ⟨bq11,hbq11⟩:∃ b_:Bool,b_ = (rdOf false x4_1 x5_1):=⟨_,rfl⟩
        replace H:(if bq11 = true then (spec_l1Cycles.l0 k1 l0 x3_1 x4_1 (wrap64 (x5_1+1))) else (spec_l1Cycles.l1 k1 l0 x3_1 x4_1 x5_1 (([]:List Int)) x5_1)) = some r:=by rw [← hbq11] at H;exact H
        have Nbq11:=zA hbq11
        clear hbq11
        by_cases c12:bq11 = true
        ·subst c12
         rw [if_pos rfl] at H;try dsimp only at H
         have H':=zA H
         clear H
         obtain ⟨Ao13,co13,eo13⟩:=zg HO_4.out
         subst eo13
         have p370:0≤(x5_1:Int):=zE (by with_reducible assumption)
         have q370:x5_1 < (x4_1.length:Int):=zE (by with_reducible assumption)
         obtain ⟨ad370,e370,hx370_0⟩:=Kd.at_bool (zU HO_4.out).2.2 x5_1 p370 q370
         (try rw [← Nbq11.out] at hx370_0)
         cases e370
         replace p370:=eq_true p370
         replace q370:=eq_true q370
         go_wp2
         go_roundg k1
         case measure=>have:=HK1.out;omega
         case rel=>exact ⟨(x3_1),(x4_1),(wrap64 (x5_1+1)),(by first|rfl|(simp;done)|(simp [*];done)),H',⟨by have:=HK1.out;omega⟩,⟨by (with_reducible repeat (first|apply Kd.S_alloc|apply Kd.S_drewN|apply Kd.S_drew));exact HO_3.out⟩,⟨by apply zR_;exact HO_4.out⟩,⟨by exact zB_ HB.out⟩⟩
        ·replace c12:=Bool.eq_false_iff.mpr c12
         subst c12
         have H1:(spec_l1Cycles.l1 k1 l0 x3_1 x4_1 x5_1 (([]:List Int)) x5_1) = some r:=by rw [if_neg (show ¬ (false = true) by decide)] at H;exact H
         clear H
         have H:=H1
         clear H1
         obtain ⟨y371,hy371⟩:∃ y_:List Int,y_ = (([]:List Int)):=⟨_,rfl⟩
         replace H:(spec_l1Cycles.l1 k1 l0 x3_1 x4_1 x5_1 y371 x5_1) = some r:=by (try rw [hy371]);first|with_reducible exact H|with_reducible exact zS_ H|exact H
         have Ny371:=zA hy371
         clear hy371
         have H':=zA H
         clear H
         obtain ⟨Ao14,co14,eo14⟩:=zg HO_4.out
         subst eo14
         have p370:0≤(x5_1:Int):=zE (by with_reducible assumption)
         have q370:x5_1 < (x4_1.length:Int):=zE (by with_reducible assumption)
         obtain ⟨ad370,e370,hx370_0⟩:=Kd.at_bool (zU HO_4.out).2.2 x5_1 p370 q370
         (try rw [← Nbq11.out] at hx370_0)
         cases e370
         replace p370:=eq_true p370
         replace q370:=eq_true q370
         go_wp2_with (first|((with_reducible refine gate_dst (N:=22) rfl ?_);refine Kd.R_lit (Kd.int .i64) _ 3 ?hg (N:=22) ?hd (xs:=([]:List Int)) (inner:=[]) (ok:=fun _=>True) (okp:=fun _=>True) ?hr ?hp (fun _ hk=>hk) trivial (Below.refl _ _) (Nat.le_refl _) (by simp) ?_;(case hd=>rfl);(case hg=>rfl);(case hr=>first|(go_simp;done)|(go_simp;rfl));(case hp=>exact (Reps.none _ _));intro v372 w15 ho16 hb hg_ hnew_;clear hg_ hnew_;(first|rw [← Ny371.out] at ho16|(simp only [Int.reduceToNat] at ho16;rw [← Ny371.out] at ho16));have n0_:=zA (Kd.S_elder' (by (with_reducible repeat (first|apply Kd.S_alloc|apply Kd.S_drewN|apply Kd.S_drew));exact HO_3.out) (zd ho16) hb);have n1_:=zA (Kd.R_below (by apply zR_;exact HO_4.out) hb);have n2_:=zA (ze ho16 (zQ (by exact zB_ HB.out)));have n3_:=zA (zR (by exact zB_ HB.out) hb);clear HO_3;clear HO_4;clear HB;have HO_3:=n0_;have HO_4:=n1_;have HO373:=n2_;have HB:=n3_;clear n0_ n1_ n2_ n3_;clear hb ho16))
         generalize hq_:Addr.add _ _ = adq_
         clear hq_
         go_loopg [6,7] k1 (fun kq v6 v7 w' => ∃ (x4_2:List Bool) (x6_2:List Int) (x7_2:Int),v7 = .int .i64 x7_2∧Aside0 (spec_l1Cycles.l1 kq l0 x3_1 x4_2 x5_1 x6_2 x7_2 = some r)∧Aside0 (kq≤k1)∧Aside0 (Kd.S (Kd.slice 3 (Kd.int .i64)) 31 w' w.heap.size (fun k_=>some k_≠(v6:Value).ownBlock) u3 x3_1)∧Aside0 (Kd.R Kd.bool 4 w' w.heap.size (fun _=>True) (.slice (some ad370) x4_1.length co14) x4_2)∧Aside0 (Kd.R (Kd.int .i64) 3 w' w.heap.size (fun _=>True) v6 x6_2)∧Aside0 (Below w.heap.size w w'))
         case atStart=>exact ⟨(x4_1),(y371),(x5_1),(by first|rfl|(simp;done)|(simp [*];done)),H',⟨Nat.le_refl _⟩,⟨by (with_reducible repeat (first|apply Kd.S_alloc|apply Kd.S_drewN|apply Kd.S_drew));exact Kd.S_mono HO_3.out (fun _ hk=>hk.2)⟩,⟨by apply zR_;exact HO_4.out⟩,⟨by apply zR_;exact HO373.out⟩,⟨by exact zB_ HB.out⟩⟩
         case round =>
          clear H'
          (try clear c1);(try clear q1);(try clear c2);(try clear c2b0);(try clear c2b1);(try clear p2);(try clear c3);(try clear c3b0);(try clear c3b1);(try clear p3);(try clear q3);(try clear hx3);(try clear p6);(try clear c8);(try clear c8b0);(try clear c9);(try clear c9b0);(try clear c10);(try clear c10b0);(try clear q11);(try clear c12);(try clear hx370_0);(try clear p2);(try clear p370);(try clear q370)
          obtain ⟨x4_2,x6_2,x7_2,rfl,HA,HK2,HO_3,HO_4,HO_6,HB⟩:=hrel
          have hl4_2:=(zU HO_4.out).1
          rw [hl4_2] at HO_4
          (try simp only [hl4_2])
          (try simp only [hl4_2] at HO_3)
          (try simp only [hl4_2] at HO_6)
          cases gk with
          | zero=>exact absurd HA.out (by simp [spec_l1Cycles.l1])
          | succ k2 =>
           have H:=HA.out
           clear HA
           simp only [spec_l1Cycles.l1] at H
           by_cases c17:0≤x7_2
           ·rw [if_pos c17] at H
            have c17b0:decide (0≤x7_2) = true:=zO c17
            clear c17
            by_cases c18:x7_2 < (x4_2.length:Int)
            ·rw [if_pos c18] at H
             have c18b0:decide (x7_2 < (x4_2.length:Int)) = true:=zO c18
             clear c18
             obtain ⟨bq19,hbq19⟩:∃ b_:Bool,b_ = (rdOf false x4_2 x7_2):=⟨_,rfl⟩
             replace H:(if bq19 = true then (if x3_1.length < 5864062014805 then (spec_l1Cycles.l0 k2 l0 (x3_1 ++ [x6_2]) x4_2 (wrap64 (x5_1+1))) else (none)) else (if x6_2.length < 17592186044416 then (if x7_2 < (l0.length:Int) then (spec_l1Cycles.l1 k2 l0 x3_1 (x4_2.set (x7_2:Int).toNat true) x5_1 (x6_2 ++ [x7_2]) (rd l0 x7_2)) else (none)) else (none))) = some r:=by rw [← hbq19] at H;exact H
             have Nbq19:=zA hbq19
             clear hbq19
             by_cases c20:bq19 = true
             ·subst c20
              rw [if_pos rfl] at H;try dsimp only at H
              by_cases c21:x3_1.length < 5864062014805
              ·rw [if_pos c21] at H
               have LMc21:=zA c21
               clear c21
               obtain ⟨y375,hy375⟩:∃ y_:List (List Int),y_ = (x3_1 ++ [x6_2]):=⟨_,rfl⟩
               replace H:(spec_l1Cycles.l0 k2 l0 y375 x4_2 (wrap64 (x5_1+1))) = some r:=by (try rw [hy375]);first|with_reducible exact H|with_reducible exact zS_ H|exact H
               have Ny375:=zA hy375
               clear hy375
               have H':=zA H
               clear H
               have p374:0≤(x7_2:Int):=zE (by with_reducible assumption)
               have q374:x7_2 < (x4_2.length:Int):=zE (by with_reducible assumption)
               obtain ⟨ad374,e374,hx374_0⟩:=Kd.at_bool (zU HO_4.out).2.2 x7_2 p374 q374
               (try rw [← Nbq11.out] at hx374_0)
               (try rw [← Nbq19.out] at hx374_0)
               obtain rfl:ad370 = ad374:=(by injection e374)
               replace p374:=eq_true p374
               replace q374:=eq_true q374
               obtain ⟨Ao23,co23,eo23⟩:=zg HO_6.out
               subst eo23
               go_wp2_with (first|((with_reducible refine gate_builtin (b:=.append) (xs:=#[.tmp 40,.tmp 42]) rfl ?_);at_builtin;refine Kd.S_append (Kd.slice 3 (Kd.int .i64)) (w0:=w) w.heap.size rfl (.tmp 40) (.tmp 42) 55 31 (.slice none 0 0) 24 rfl Try.underlying55 info31 rfl (by decide) (by omega) u3 x3_1 x6_2 [.slice Ao23 x6_2.length co23] (fun _=>True) (fun k_=>some k_ = (.slice Ao23 x6_2.length co23:Value).ownBlock) rfl rfl ?aP (fun k_ hk_=>((zV (ok':=fun k_=>((fun _=>True)) k_∧some k_≠(u3:Value).ownBlock) (Kd.R_apart' (HO_6.out) (Kd.S_typed HO_3.out) (by decide)) (fun k_ hk=>⟨trivial,hk.2⟩))).1 k_ hk_.symm) ?aF ?aO ?aB ?aS ?aL ?_;(case aP=>exact Kd.M_row (zV (Kd.R_tight rfl (zV (ok':=fun k_=>((fun _=>True)) k_∧some k_≠(u3:Value).ownBlock) (Kd.R_apart' (HO_6.out) (Kd.S_typed HO_3.out) (by decide)) (fun k_ hk=>⟨trivial,hk.2⟩))) (fun _ h_=>h_)));(case aB=>exact (by exact zB_ HB.out));(case aF=>exact (fun _ _=>trivial));(case aO=>exact (by (with_reducible repeat (first|apply Kd.S_alloc|apply Kd.S_drewN|apply Kd.S_drew));exact Kd.S_mono HO_3.out (fun k_ hk=>⟨trivial,fun e_=>hk e_⟩)));(case aS=>exact (zQ (by exact zB_ HB.out)));(case aL=>have:=LMc21.out;omega);intro v376 w22 ho hb hg hat;rw [← Ny375.out] at ho;have n0_:=zA (Kd.R_over' (by apply zR_;exact HO_4.out) (Kd.S_typed (by (with_reducible repeat (first|apply Kd.S_alloc|apply Kd.S_drewN|apply Kd.S_drew));exact HO_3.out)) (by decide) hg);have n1_:=zA (hb);have n2_:=zA (ho);clear HO_4;clear HB;clear HO_3;clear HO_6;have HO_4:=n0_;have HB:=n1_;have HO377:=n2_;clear n0_ n1_ n2_;clear ho hb hg hat))
               (try simp only [← hl4_2])
               go_roundg k2
               case measure=>have:=HK1.out;have:=HK2.out;omega
               case rel=>exact ⟨(y375),(x4_2),(wrap64 (x5_1+1)),(by first|rfl|(simp;done)|(simp [*];done)),H',⟨by have:=HK1.out;have:=HK2.out;omega⟩,⟨by (try simp only [hl4_2]);(with_reducible repeat (first|apply Kd.S_alloc|apply Kd.S_drewN|apply Kd.S_drew));exact HO377.out⟩,⟨by (try simp only [hl4_2]);apply zR_;exact HO_4.out⟩,⟨by exact zB_ HB.out⟩⟩
              ·rw [if_neg c21] at H
               exact absurd H (by simp)
             ·replace c20:=Bool.eq_false_iff.mpr c20
              subst c20
              have H1:(if x6_2.length < 17592186044416 then (if x7_2 < (l0.length:Int) then (spec_l1Cycles.l1 k2 l0 x3_1 (x4_2.set (x7_2:Int).toNat true) x5_1 (x6_2 ++ [x7_2]) (rd l0 x7_2)) else (none)) else (none)) = some r:=by rw [if_neg (show ¬ (false = true) by decide)] at H;exact H
              clear H
              have H:=H1
              clear H1
              obtain ⟨y378,hy378⟩:∃ y_:List Bool,y_ = (x4_2.set (x7_2:Int).toNat true):=⟨_,rfl⟩
              replace H:(if x6_2.length < 17592186044416 then (if x7_2 < (l0.length:Int) then (spec_l1Cycles.l1 k2 l0 x3_1 y378 x5_1 (x6_2 ++ [x7_2]) (rd l0 x7_2)) else (none)) else (none)) = some r:=by (try rw [hy378]);first|with_reducible exact H|with_reducible exact zS_ H|exact H
              have Ny378:=zA hy378
              clear hy378
              by_cases c25:x6_2.length < 17592186044416
              ·rw [if_pos c25] at H
               have LMc25:=zA c25
               clear c25
               obtain ⟨y379,hy379⟩:∃ y_:List Int,y_ = (x6_2 ++ [x7_2]):=⟨_,rfl⟩
               replace H:(if x7_2 < (l0.length:Int) then (spec_l1Cycles.l1 k2 l0 x3_1 y378 x5_1 y379 (rd l0 x7_2)) else (none)) = some r:=by (try rw [hy379]);first|with_reducible exact H|with_reducible exact zS_ H|exact H
               have Ny379:=zA hy379
               clear hy379
               by_cases c26:x7_2 < (l0.length:Int)
               ·rw [if_pos c26] at H
                have c26b0:decide (x7_2 < (l0.length:Int)) = true:=zO c26
                clear c26
                have H':=zA H
                clear H
                have p374:0≤(x7_2:Int):=zE (by with_reducible assumption)
                have q374:x7_2 < (x4_2.length:Int):=zE (by with_reducible assumption)
                obtain ⟨ad374,e374,hx374_0⟩:=Kd.at_bool (zU HO_4.out).2.2 x7_2 p374 q374
                (try rw [← Nbq11.out] at hx374_0)
                (try rw [← Nbq19.out] at hx374_0)
                obtain rfl:ad370 = ad374:=(by injection e374)
                replace p374:=eq_true p374
                replace q374:=eq_true q374
                have p24:0≤(x7_2:Int):=zE (by with_reducible assumption)
                have q24:(x7_2:Int) < ((x4_2.length:Int):Int):=zE (by with_reducible assumption)
                obtain ⟨go24,co24,eo24,gb24,gl24,cl24,HG24⟩:=Kd.R_form HO_4.out (by omega)
                (first|cases eo24|(injection eo24 with ea_ en_ ec_;(first|subst ea_|(injection ea_ with ea_;subst ea_));subst ec_;clear en_))
                have GB24:=zA gb24
                have GG24:=zA HG24
                clear gb24 gl24 HG24
                (first|simp only [add_plain] at hx370_0|skip)
                (first|simp only [add_plain] at hx374_0|skip)
                obtain ⟨hx24_0,hf24_0⟩:=Kd.R_celln false HO_4.out (x7_2:Int) p24 q24
                replace p24:=eq_true p24
                replace q24:=eq_true q24
                have HP27:=Kd.R_putg HO_4.out (x7_2:Int) true
                go_wp2_with (first|((with_reducible refine gate_store (t:=4) (p:=35) rfl ?_);refine store_event (t:=4) (p:=35) (v:=?vo_w28) (w1:=(wr.setCell ⟨go24,(x7_2:Int).toNat,none⟩ (.bool true))) ?hg ?ho ?hn ?hr ?_;(case ho=>rfl);(case hg=>rfl);(case hn=>rfl);(case hr=>first|(go_simp;done)|(go_simp;rfl));intro w28 hw;have hg:wr.grownBy w28 (some go24):=(by rw [hw];exact HP27.2);have hp_:Kd.R Kd.bool 4 w28 w.heap.size (fun _=>True) (.slice (some ⟨go24,0,none⟩) x4_2.length co14) y378:=(by rw [hw,Ny378.out];exact HP27.1);clear HP27;have n0_:=zA (Kd.S_over' (v:=(.slice (some ⟨go24,0,none⟩) x4_2.length co14)) (by (with_reducible repeat (first|apply Kd.S_alloc|apply Kd.S_drewN|apply Kd.S_drew));exact HO_3.out) (Kd.R_typed HO_4.out) (by decide) hg);have n1_:=zA (hp_);have n2_:=zA (Kd.R_over' (v:=(.slice (some ⟨go24,0,none⟩) x4_2.length co14)) (by apply zR_;exact HO_6.out) (Kd.R_typed HO_4.out) (by decide) hg);have n3_:=zA ((by rw [hw];exact zF (HB.out) GB24.out:Below w.heap.size w w28));clear HO_3;clear HO_4;clear HO_6;clear HB;have HO_3:=n0_;have HO_4:=n1_;have HO_6:=n2_;have HB:=n3_;clear n0_ n1_ n2_ n3_;clear hg hw hp_)|((with_reducible refine gate_builtin (b:=.append) (xs:=#[.tmp 36,.tmp 38]) rfl ?_);at_builtin;refine Kd.R_append (Kd.int .i64) (w0:=w) w.heap.size rfl (.tmp 36) (.tmp 38) 31 3 (.int .i64 0) 8 rfl Try.underlying31 info3 rfl (by decide) (by omega) u6 x6_2 x7_2 [.int .i64 x7_2] (fun _=>True) (fun _=>False) rfl rfl ?aP (fun _ hk=>hk.elim) ?aF ?aO ?aB ?aS ?aL ?_;(case aP=>exact rfl);(case aB=>exact (by exact zB_ HB.out));(case aF=>exact (fun _ _=>trivial));(case aO=>exact (by apply zR_;exact HO_6.out));(case aS=>exact (zQ (by exact zB_ HB.out)));(case aL=>have:=LMc25.out;omega);intro v380 w29 ho hb hg hat;rw [← Ny379.out] at ho;have n0_:=zA (Kd.S_after (ok:=(fun _=>True)) (by (with_reducible repeat (first|apply Kd.S_alloc|apply Kd.S_drewN|apply Kd.S_drew));exact Kd.S_mono HO_3.out (fun _ hk=>⟨trivial,hk⟩)) hg hat);have n1_:=zA (Kd.R_over' (by apply zR_;exact HO_4.out) (Kd.R_typed (by apply zR_;exact HO_6.out)) (by decide) hg);have n2_:=zA (hb);have n3_:=zA (ho);clear HO_3;clear HO_4;clear HB;clear HO_6;have HO_3:=n0_;have HO_4:=n1_;have HB:=n2_;have HO381:=n3_;clear n0_ n1_ n2_ n3_;clear ho hb hg hat;have p382:0≤(x7_2:Int):=zE (by with_reducible assumption);have q382:x7_2 < (l0.length:Int):=zE (by with_reducible assumption);obtain ⟨ad382,e382,hx382_0⟩:=Kd.at_int HR0.out x7_2 p382 q382;cases e382;replace hx382_0:=(HB.out.cell (zY w _ hx382_0)).trans hx382_0;replace p382:=eq_true p382;replace q382:=eq_true q382))
                (try simp only [← hl4_2])
                go_roundg k2
                case measure=>have:=HK1.out;have:=HK2.out;omega
                case rel=>exact ⟨(y378),(y379),(rd l0 x7_2),(by first|rfl|(simp;done)|(simp [*];done)),H',⟨by have:=HK1.out;have:=HK2.out;omega⟩,⟨by (try simp only [hl4_2]);(with_reducible repeat (first|apply Kd.S_alloc|apply Kd.S_drewN|apply Kd.S_drew));exact Kd.S_mono HO_3.out (fun _ hk=>hk.2)⟩,⟨by (try simp only [hl4_2]);apply zR_;exact HO_4.out⟩,⟨by (try simp only [hl4_2]);apply zR_;exact HO381.out⟩,⟨by exact zB_ HB.out⟩⟩
               ·rw [if_neg c26] at H
                exact absurd H (by simp)
              ·rw [if_neg c25] at H
               exact absurd H (by simp)
            ·rw [if_neg c18] at H
             exact absurd H (by simp)
           ·rw [if_neg c17] at H
            exact absurd H (by simp)
       ·rw [if_neg c10] at H
        exact absurd H (by simp)
      ·rw [if_neg c9] at H
       exact absurd H (by simp)
     ·rw [if_neg c8] at H
      have c8b0:decide (x5_1 < (l0.length:Int)) = false:=zP c8
      clear c8
      obtain rfl:=zS H
      go_wp2
      go_ret
      exact ⟨_,by first|rfl|(simp [errW_none,errW_some] <;> rfl)|(simp [*,errW_none,errW_some] <;> rfl),by (with_reducible repeat (first|apply Kd.S_alloc|apply Kd.S_drewN|apply Kd.S_drew));exact HO_3.out,by exact zB_ HB.out⟩
  ·rw [if_neg c3] at H
   exact absurd H (by simp)
 ·rw [if_neg c2] at H
  exact absurd H (by simp)

/-! ### spec_l1Mul: function 99 -/
def spec_l1Mul.l0:Nat→List Int→List Int→List Int→Int→Option (List Int)
 | 0,_,_,_,_=>none
 | k+1,x0,x1,x5,x6=>if x6 < (x0.length:Int) then (if 0≤x6 then (if 0≤(rd x0 x6) then (if (rd x0 x6) < (x1.length:Int) then (if x5.length < 17592186044416 then (spec_l1Mul.l0 k x0 x1 (x5 ++ [rd x1 (rd x0 x6)]) (wrap64 (x6+1))) else (none)) else (none)) else (none)) else (none)) else (some x5)
def spec_l1Mul.f (k:Nat) (l0:List Int) (l1:List Int):Option (List Int):=spec_l1Mul.l0 k l0 l1 (([]:List Int)) 0
theorem spec_l1Mul.mono_l:∀ k,(∀ y0 y1 y2 y3,LeO (spec_l1Mul.l0 k y0 y1 y2 y3) (spec_l1Mul.l0 (k+1) y0 y1 y2 y3))
 | 0=>fun _ _ _ _ r h=>by simp [spec_l1Mul.l0] at h
 | k+1=>by
  have ih0:=spec_l1Mul.mono_l k
  ·intro y0 y1 y2 y3
   unfold spec_l1Mul.l0
   repeat' first
   | (with_reducible exact ih0 _ _ _ _)
   | (with_reducible exact LeO.refl _)
   | (with_reducible exact za _)
   | (with_reducible refine zc ?_ ?_)
   | (with_reducible refine zb ?_ (fun _=>?_))
theorem spec_l1Mul.mono:∀ a0 a1 k,LeO (spec_l1Mul.f k a0 a1) (spec_l1Mul.f (k+1) a0 a1):=by
 intro a0 a1 k
 have ih0:=spec_l1Mul.mono_l k
 unfold spec_l1Mul.f
 repeat' first
   | (with_reducible exact ih0 _ _ _ _)
   | (with_reducible exact LeO.refl _)
   | (with_reducible exact za _)
   | (with_reducible refine zc ?_ ?_)
   | (with_reducible refine zb ?_ (fun _=>?_))
set_option maxHeartbeats 8000000 in
set_option maxRecDepth 100000 in
theorem spec_l1Mul.calls (k:Nat) (A0:Option Addr) (c0:Nat) (l0:List Int) (A1:Option Addr) (c1:Nat) (l1:List Int) (r:List Int) (w:World) (hr0:Kd.C (Kd.int .i64) w A0 l0.length l0) (hc0:l0.length≤c0) (hr1:Kd.C (Kd.int .i64) w A1 l1.length l1) (hc1:l1.length≤c1) (h:spec_l1Mul.f k l0 l1 = some r) :
  Calls Try.prog 99 #[.slice A0 l0.length c0,.slice A1 l1.length c1] w fun e w' => ∃ v0_:Value,e = .returned (v0_)∧Kd.R (Kd.int .i64) 3 w' w.heap.size (fun _=>True) v0_ r∧Below w.heap.size w w':=by
 have HR0:=zA hr0
 have HC0:=zA hc0
 clear hr0 hc0
 have HR1:=zA hr1
 have HC1:=zA hc1
 clear hr1 hc1
 have HB:=zA (Below.refl w.heap.size w)
 have H:(spec_l1Mul.l0 k l0 l1 (([]:List Int)) 0) = some r:=h
 clear h
 obtain ⟨y383,hy383⟩:∃ y_:List Int,y_ = (([]:List Int)):=⟨_,rfl⟩
 replace H:(spec_l1Mul.l0 k l0 l1 y383 0) = some r:=by (try rw [hy383]);first|with_reducible exact H|with_reducible exact zS_ H|exact H
 have Ny383:=zA hy383
 clear hy383
 have H':=zA H
 clear H
 go_enter Try.func99,Try.ntmps99
 go_wp2_with (first|((with_reducible refine gate_dst (N:=7) rfl ?_);refine Kd.R_lit (Kd.int .i64) _ 3 ?hg (N:=7) ?hd (xs:=([]:List Int)) (inner:=[]) (ok:=fun _=>True) (okp:=fun _=>True) ?hr ?hp (fun _ hk=>hk) trivial (Below.refl _ _) (Nat.le_refl _) (by simp) ?_;(case hd=>rfl);(case hg=>rfl);(case hr=>first|(go_simp;done)|(go_simp;rfl));(case hp=>exact (Reps.none _ _));intro v384 w3 ho4 hb hg_ hnew_;clear hg_ hnew_;(first|rw [← Ny383.out] at ho4|(simp only [Int.reduceToNat] at ho4;rw [← Ny383.out] at ho4));have n0_:=zA (ze ho4 (zQ (by exact zB_ HB.out)));have n1_:=zA (zR (by exact zB_ HB.out) hb);clear HB;have HO385:=n0_;have HB:=n1_;clear n0_ n1_;clear hb ho4))
 go_loopg [5,6] k (fun kq v5 v6 w' => ∃ (x5_1:List Int) (x6_1:Int),v6 = .int .i64 x6_1∧Aside0 (spec_l1Mul.l0 kq l0 l1 x5_1 x6_1 = some r)∧Aside0 (kq≤k)∧Aside0 (Kd.R (Kd.int .i64) 3 w' w.heap.size (fun _=>True) v5 x5_1)∧Aside0 (Below w.heap.size w w'))
 case atStart=>exact ⟨(y383),(0),(by first|rfl|(simp;done)|(simp [*];done)),H',⟨Nat.le_refl _⟩,⟨by apply zR_;exact HO385.out⟩,⟨by exact zB_ HB.out⟩⟩
 case round =>
  clear H'
  (try clear c1);(try clear p2)
  obtain ⟨x5_1,x6_1,rfl,HA,HK1,HO_5,HB⟩:=hrel
  cases gk with
  | zero=>exact absurd HA.out (by simp [spec_l1Mul.l0])
  | succ k1 =>
   have H:=HA.out
   clear HA
   simp only [spec_l1Mul.l0] at H
   by_cases c5:x6_1 < (l0.length:Int)
   ·rw [if_pos c5] at H
    have c5b0:decide (x6_1 < (l0.length:Int)) = true:=zO c5
    clear c5
    by_cases c6:0≤x6_1
    ·rw [if_pos c6] at H
     have c6b0:decide (0≤x6_1) = true:=zO c6
     clear c6
     by_cases c7:0≤(rd l0 x6_1)
     ·rw [if_pos c7] at H
      have c7b0:decide (0≤(rd l0 x6_1)) = true:=zO c7
      clear c7
      by_cases c8:(rd l0 x6_1) < (l1.length:Int)
      ·rw [if_pos c8] at H
       have c8b0:decide ((rd l0 x6_1) < (l1.length:Int)) = true:=zO c8
       clear c8
       by_cases c9:x5_1.length < 17592186044416
       ·rw [if_pos c9] at H
        have LMc9:=zA c9
        clear c9
        obtain ⟨y388,hy388⟩:∃ y_:List Int,y_ = (x5_1 ++ [rd l1 (rd l0 x6_1)]):=⟨_,rfl⟩
        replace H:(spec_l1Mul.l0 k1 l0 l1 y388 (wrap64 (x6_1+1))) = some r:=by (try rw [hy388]);first|with_reducible exact H|with_reducible exact zS_ H|exact H
        have Ny388:=zA hy388
        clear hy388
        have H':=zA H
        clear H
        have p386:0≤(x6_1:Int):=zE (by with_reducible assumption)
        have q386:x6_1 < (l0.length:Int):=zE (by with_reducible assumption)
        obtain ⟨ad386,e386,hx386_0⟩:=Kd.at_int HR0.out x6_1 p386 q386
        cases e386
        replace hx386_0:=(HB.out.cell (zY w _ hx386_0)).trans hx386_0
        replace p386:=eq_true p386
        replace q386:=eq_true q386
        have p387:0≤((rd l0 x6_1):Int):=zE (by with_reducible assumption)
        have q387:(rd l0 x6_1) < (l1.length:Int):=zE (by with_reducible assumption)
        obtain ⟨ad387,e387,hx387_0⟩:=Kd.at_int HR1.out (rd l0 x6_1) p387 q387
        cases e387
        replace hx387_0:=(HB.out.cell (zY w _ hx387_0)).trans hx387_0
        replace p387:=eq_true p387
        replace q387:=eq_true q387
        go_wp2_with (first|((with_reducible refine gate_builtin (b:=.append) (xs:=#[.tmp 14,.tmp 22]) rfl ?_);at_builtin;refine Kd.R_append (Kd.int .i64) (w0:=w) w.heap.size rfl (.tmp 14) (.tmp 22) 31 3 (.int .i64 0) 8 rfl Try.underlying31 info3 rfl (by decide) (by omega) u5 x5_1 (rd l1 (rd l0 x6_1)) [.int .i64 (rd l1 (rd l0 x6_1))] (fun _=>True) (fun _=>False) rfl rfl ?aP (fun _ hk=>hk.elim) ?aF ?aO ?aB ?aS ?aL ?_;(case aP=>exact rfl);(case aB=>exact (by exact zB_ HB.out));(case aF=>exact (fun _ _=>trivial));(case aO=>exact (by apply zR_;exact HO_5.out));(case aS=>exact (zQ (by exact zB_ HB.out)));(case aL=>have:=LMc9.out;omega);intro v389 w10 ho hb hg hat;rw [← Ny388.out] at ho;have n0_:=zA (hb);have n1_:=zA (ho);clear HB;clear HO_5;have HB:=n0_;have HO390:=n1_;clear n0_ n1_;clear ho hb hg hat))
        go_roundg k1
        case measure=>have:=HK1.out;omega
        case rel=>exact ⟨(y388),(wrap64 (x6_1+1)),(by first|rfl|(simp;done)|(simp [*];done)),H',⟨by have:=HK1.out;omega⟩,⟨by apply zR_;exact HO390.out⟩,⟨by exact zB_ HB.out⟩⟩
       ·rw [if_neg c9] at H
        exact absurd H (by simp)
      ·rw [if_neg c8] at H
       exact absurd H (by simp)
     ·rw [if_neg c7] at H
      exact absurd H (by simp)
    ·rw [if_neg c6] at H
     exact absurd H (by simp)
   ·rw [if_neg c5] at H
    have c5b0:decide (x6_1 < (l0.length:Int)) = false:=zP c5
    clear c5
    obtain rfl:=zS H
    go_wp2
    go_ret
    exact ⟨_,by first|rfl|(simp [errW_none,errW_some] <;> rfl)|(simp [*,errW_none,errW_some] <;> rfl),by apply zR_;exact HO_5.out,by exact zB_ HB.out⟩

/-! ### spec_l2Faces: function 85 -/
def spec_l2Faces.f (k:Nat) (l0_0:List Int) (l0_1:List Int):Option (List Int):=(spec_l1Mul.f k l0_1 l0_0).bind fun t392=>(some t392)
theorem spec_l2Faces.mono:∀ a0 a1 k,LeO (spec_l2Faces.f k a0 a1) (spec_l2Faces.f (k+1) a0 a1):=by
 intro a0 a1 k
 unfold spec_l2Faces.f
 repeat' first
   | (with_reducible exact spec_l1Mul.mono _ _ _)
   | (with_reducible exact LeO.refl _)
   | (with_reducible exact za _)
   | (with_reducible refine zc ?_ ?_)
   | (with_reducible refine zb ?_ (fun _=>?_))
set_option maxHeartbeats 8000000 in
set_option maxRecDepth 100000 in
theorem spec_l2Faces.calls (k:Nat) (A0_0:Option Addr) (c0_0:Nat) (l0_0:List Int) (A0_1:Option Addr) (c0_1:Nat) (l0_1:List Int) (r:List Int) (w:World) (hr0_0:Kd.C (Kd.int .i64) w A0_0 l0_0.length l0_0) (hc0_0:l0_0.length≤c0_0) (hr0_1:Kd.C (Kd.int .i64) w A0_1 l0_1.length l0_1) (hc0_1:l0_1.length≤c0_1) (h:spec_l2Faces.f k l0_0 l0_1 = some r) :
  Calls Try.prog 85 #[.agg #[.slice A0_0 l0_0.length c0_0,.slice A0_1 l0_1.length c0_1]] w fun e w' => ∃ v0_:Value,e = .returned (v0_)∧Kd.R (Kd.int .i64) 3 w' w.heap.size (fun _=>True) v0_ r∧Below w.heap.size w w':=by
 have hu33:=Try.underlying33
 have HR0_0:=zA hr0_0
 have HC0_0:=zA hc0_0
 clear hr0_0 hc0_0
 have HR0_1:=zA hr0_1
 have HC0_1:=zA hc0_1
 clear hr0_1 hc0_1
 have HB:=zA (Below.refl w.heap.size w)
 have H:((spec_l1Mul.f k l0_1 l0_0).bind fun t392=>(some t392)) = some r:=h
 clear h
 replace H:=zz0 H
 obtain ⟨t392,A20,H⟩:=H
 try dsimp only at H
 have A2:=zA A20
 clear A20
 obtain rfl:=zS H
 go_enter Try.func85,Try.ntmps85
 go_wp2_with (first|((with_reducible refine gate_dst (N:=1) rfl ?_);refine box_event ?hg (N:=1) ?hd (cs:=#[.slice A0_0 l0_0.length c0_0,.slice A0_1 l0_1.length c0_1]) (t:=33) ?hr ?_;(case hd=>rfl);(case hg=>rfl);(case hr=>first|(go_simp;done)|(go_simp;rfl));intro gb391 hg w3 hbox hb;have n0_:=zA (zR (by exact zB_ HB.out) hb);have n1_:=zA (hbox);have n2_:=zA ((by rw [hg];exact (zQ (by exact zB_ HB.out)):w.heap.size≤gb391));have n3_:=zA ((by rw [hg];exact (zQ (by exact zB_ HB.out)):w.heap.size≤gb391));clear HB;have HB:=n0_;have BK391:=n1_;have GW391:=n2_;have GE391:=n3_;clear n0_ n1_ n2_ n3_;clear hb hbox hg;have hcz4_0:w3.cell? ⟨gb391,0,none⟩ = some (.slice A0_0 l0_0.length c0_0):=(zT BK391.out 0).trans rfl;have hcz4_1:w3.cell? ⟨gb391,1,none⟩ = some (.slice A0_1 l0_1.length c0_1):=(zT BK391.out 1).trans rfl;have hfz4_0:=zZ BK391.out 0;have hfz4_1:=zZ BK391.out 1)|((with_reducible refine gate_callee (f:=99) rfl ?_);refine goesL_ (some 7) rfl rfl Try.func99 (by kernel_rfl) rfl #[.slice A0_1 l0_1.length c0_1,.slice A0_0 l0_0.length c0_0] rfl (by (try simp only [zJ,zM,zN]);first|done|rfl|(simp only [zL,zK];rfl)) ?_;(with_reducible refine (spec_l1Mul.calls k _ _ l0_1 _ _ l0_0 t392 _ ?side1 ?side2 ?side3 ?side4 A2.out).mono ?_);(case side1=>repeat (first|exact (zW HR0_1.out HB.out)|(with_reducible exact HR0_1.out)|apply zC_));(case side2=>exact HC0_1.out);(case side3=>repeat (first|exact (zW HR0_0.out HB.out)|(with_reducible exact HR0_0.out)|apply zC_));(case side4=>exact HC0_0.out);rintro e w5 ⟨v393,rfl,ho0,hb⟩;refine ⟨_,rfl,?_⟩;have n0_:=zA (ze ho0 (zQ (by repeat (first|(with_reducible first|exact HB.out|apply zD|apply zB|apply zC|refine zF ?_ GE391.out)|exact HB.out))));have n1_:=zA (zX (g:=gb391) (o:=.cells #[.slice A0_0 l0_0.length c0_0,.slice A0_1 l0_1.length c0_1] 33 (0,0)) (by (with_reducible repeat (first|refine zG ?_ _|refine zI ?_|refine zH ?_ _));exact BK391.out) hb);have n2_:=zA (zR (by repeat (first|(with_reducible first|exact HB.out|apply zD|apply zB|apply zC|refine zF ?_ GE391.out)|exact HB.out)) hb);clear BK391;clear HB;have HO394:=n0_;have BK391:=n1_;have HB:=n2_;clear n0_ n1_ n2_;(try clear hb);(try clear hb2);(try clear hk);(try clear hi);(try clear ho0)))
 go_ret
 exact ⟨_,by first|rfl|(simp [errW_none,errW_some] <;> rfl)|(simp [*,errW_none,errW_some] <;> rfl),by apply zR_;exact HO394.out,by repeat (first|(with_reducible first|exact HB.out|apply zD|apply zB|apply zC|refine zF ?_ GE391.out)|exact HB.out)⟩

/-! ### spec_l2Counts: function 55 -/
def spec_l2Counts.f (k:Nat) (l0_0:List Int) (l0_1:List Int):Option (List Int):=(spec_l1Cycles.f k l0_0).bind fun t396=>((spec_l2Faces.f k l0_0 l0_1).bind fun t399=>((spec_l1Cycles.f k t399).bind fun t402=>(some (([(t396.length:Int),wrap64 ((l0_1.length:Int) / 2),(t402.length:Int)]:List Int)))))
theorem spec_l2Counts.mono:∀ a0 a1 k,LeO (spec_l2Counts.f k a0 a1) (spec_l2Counts.f (k+1) a0 a1):=by
 intro a0 a1 k
 unfold spec_l2Counts.f
 repeat' first
   | (with_reducible exact spec_l1Cycles.mono _ _)
   | (with_reducible exact spec_l2Faces.mono _ _ _)
   | (with_reducible exact LeO.refl _)
   | (with_reducible exact za _)
   | (with_reducible refine zc ?_ ?_)
   | (with_reducible refine zb ?_ (fun _=>?_))
def spec_l2Counts.T1:Bool × List (List Nat × List Nat):=(true,[([],[]),([0],[0]),([1],[1]),([2],[2]),([],[]),([4],[4]),([5],[5]),([6],[6]),([],[]),([8,2],[8]),([9,9],[9]),([10],[10]),([3,7,11],[3,7,11]),([12,10,0,1,2,3,4,5,6,7,8,9,10,11,12],[12])])
def spec_l2Counts.B1:List Nat:=[0,1,3,7,0,16,48,112,0,263,775,1799,4095,8191]
theorem spec_l2Counts.tab1:rtab .any (opsOf Try.f55 1) = spec_l2Counts.T1:=by kernel_rfl
theorem spec_l2Counts.bits1:waitsOk spec_l2Counts.T1.2 spec_l2Counts.B1 = true:=by kernel_rfl
set_option maxHeartbeats 8000000 in
set_option maxRecDepth 100000 in
theorem spec_l2Counts.calls (k:Nat) (A0_0:Option Addr) (c0_0:Nat) (l0_0:List Int) (A0_1:Option Addr) (c0_1:Nat) (l0_1:List Int) (r:List Int) (w:World) (hr0_0:Kd.C (Kd.int .i64) w A0_0 l0_0.length l0_0) (hc0_0:l0_0.length≤c0_0) (hr0_1:Kd.C (Kd.int .i64) w A0_1 l0_1.length l0_1) (hc0_1:l0_1.length≤c0_1) (h:spec_l2Counts.f k l0_0 l0_1 = some r) :
  Calls Try.prog 55 #[.agg #[.slice A0_0 l0_0.length c0_0,.slice A0_1 l0_1.length c0_1]] w fun e w' => ∃ v0_:Value,e = .returned (v0_)∧Kd.R (Kd.int .i64) 3 w' w.heap.size (fun _=>True) v0_ r∧Below w.heap.size w w':=by
 have hu33:=Try.underlying33
 have HR0_0:=zA hr0_0
 have HC0_0:=zA hc0_0
 clear hr0_0 hc0_0
 have HR0_1:=zA hr0_1
 have HC0_1:=zA hc0_1
 clear hr0_1 hc0_1
 have HB:=zA (Below.refl w.heap.size w)
 have H:((spec_l1Cycles.f k l0_0).bind fun t396=>((spec_l2Faces.f k l0_0 l0_1).bind fun t399=>((spec_l1Cycles.f k t399).bind fun t402=>(some (([(t396.length:Int),wrap64 ((l0_1.length:Int) / 2),(t402.length:Int)]:List Int)))))) = some r:=h
 clear h
 replace H:=zz0 H
 obtain ⟨t396,A20,H⟩:=H
 try dsimp only at H
 have A2:=zA A20
 clear A20
 replace H:=zz0 H
 obtain ⟨t399,A30,H⟩:=H
 try dsimp only at H
 have A3:=zA A30
 clear A30
 replace H:=zz0 H
 obtain ⟨t402,A40,H⟩:=H
 try dsimp only at H
 have A4:=zA A40
 clear A40
 obtain ⟨y405,hy405⟩:∃ y_:List Int,y_ = (([(t396.length:Int),wrap64 ((l0_1.length:Int) / 2),(t402.length:Int)]:List Int)):=⟨_,rfl⟩
 replace H:(some y405) = some r:=by (try rw [hy405]);first|with_reducible exact H|with_reducible exact zS_ H|exact H
 have Ny405:=zA hy405
 clear hy405
 obtain rfl:=zS H
 go_enter Try.func55,Try.ntmps55
 try go_wp2_with (first|((with_reducible refine gate_dst (N:=1) rfl ?_);refine box_event ?hg (N:=1) ?hd (cs:=#[.slice A0_0 l0_0.length c0_0,.slice A0_1 l0_1.length c0_1]) (t:=33) ?hr ?_;(case hd=>rfl);(case hg=>rfl);(case hr=>first|(go_simp;done)|(go_simp;rfl));intro gb395 hg w5 hbox hb;have n0_:=zA (zR (by exact zB_ HB.out) hb);have n1_:=zA (hbox);have n2_:=zA ((by rw [hg];exact (zQ (by exact zB_ HB.out)):w.heap.size≤gb395));have n3_:=zA ((by rw [hg];exact (zQ (by exact zB_ HB.out)):w.heap.size≤gb395));clear HB;have HB:=n0_;have BK395:=n1_;have GW395:=n2_;have GE395:=n3_;clear n0_ n1_ n2_ n3_;clear hb hbox hg))
 have n0_:=zA (zI BK395.out)
 have n1_:=zA (zC HB.out)
 clear BK395 HB
 have BK395:=n0_
 have HB:=n1_
 clear n0_ n1_
 refine start_ (n:=14) (S:=fun w'=>w'.cell? ⟨gb395,0,none⟩ = some (.slice A0_0 l0_0.length c0_0)∧w'.cell? ⟨gb395,1,none⟩ = some (.slice A0_1 l0_1.length c0_1)) (ds:=[]) #[zf,zf,zf,zf,zf,zf,zf,zf,zf,zf,zf,zf,zf,zf] (by kernel_rfl) rfl rfl ⟨(zT BK395.out 0).trans rfl,(zT BK395.out 1).trans rfl⟩ (fun hHeld=>?_);refine with_tabW spec_l2Counts.tab1 spec_l2Counts.bits1 (fun HT_ HW_=>?_)
 generalize w5.drew = w6 at BK395 HB hHeld ⊢
 refine pure_ (i:=0) (N:=some 3) (v:=?_) (a':=?_) #[zt,zf,zf,zf,zf,zf,zf,zf,zf,zf,zf,zf,zf,zf] rfl rfl (any_of HT_.out (by kernel_rfl)) (fun _ _ _ h=>h) (Or.inl ⟨by rfl,?_⟩) ?_ ?_
 rotate_left
 ·intro w'
  go_simp
  with_reducible rfl
 rotate_left
 ·simp only [Act.put,zP_,i64_w]
  rfl
 refine pure_ (i:=4) (N:=some 7) (v:=?_) (a':=?_) #[zt,zf,zf,zf,zt,zf,zf,zf,zf,zf,zf,zf,zf,zf] rfl rfl (any_of HT_.out (by kernel_rfl)) (fun _ _ _ h=>h) (Or.inl ⟨by rfl,?_⟩) ?_ ?_
 rotate_left
 ·intro w'
  go_simp
  with_reducible rfl
 rotate_left
 ·simp only [Act.put,zP_,i64_w]
  rfl
 refine take_ (i:=1) (N:=some 4) (v:=?_) (a':=?_) #[zt,zt,zf,zf,zt,zf,zf,zf,zf,zf,zf,zf,zf,zf] rfl rfl (take_ofW HT_.out HW_.out (by kernel_rfl)) (fun _ _ _ h=>h) (Or.inl ⟨by rfl,?_⟩) hHeld ?_ ?_
 rotate_left
 ·rintro w' ⟨s0,s1⟩
  go_simp
  with_reducible rfl
 rotate_left
 ·simp only [Act.put,zP_,i64_w]
  rfl
 refine take_ (i:=5) (N:=some 8) (v:=?_) (a':=?_) #[zt,zt,zf,zf,zt,zt,zf,zf,zf,zf,zf,zf,zf,zf] rfl rfl (take_ofW HT_.out HW_.out (by kernel_rfl)) (fun _ _ _ h=>h) (Or.inl ⟨by rfl,?_⟩) hHeld ?_ ?_
 rotate_left
 ·rintro w' ⟨s0,s1⟩
  go_simp
  with_reducible rfl
 rotate_left
 ·simp only [Act.put,zP_,i64_w]
  rfl
 refine pure_ (i:=6) (N:=some 9) (v:=?_) (a':=?_) #[zt,zt,zf,zf,zt,zt,zt,zf,zf,zf,zf,zf,zf,zf] rfl rfl (any_of HT_.out (by kernel_rfl)) (fun _ _ _ h=>h) (Or.inl ⟨by rfl,?_⟩) ?_ ?_
 rotate_left
 ·intro w'
  go_simp
  with_reducible rfl
 rotate_left
 ·simp only [Act.put,zP_,i64_w]
  rfl
 refine pure_ (i:=7) (N:=some 10) (v:=?_) (a':=?_) #[zt,zt,zf,zf,zt,zt,zt,zt,zf,zf,zf,zf,zf,zf] rfl rfl (any_of HT_.out (by kernel_rfl)) (fun _ _ _ h=>h) (Or.inl ⟨by rfl,?_⟩) ?_ ?_
 rotate_left
 ·intro w'
  go_simp
  with_reducible rfl
 rotate_left
 ·simp only [Act.put,zP_,i64_w]
  rfl
 refine take_ (i:=8) (N:=some 11) (v:=?_) (a':=?_) #[zt,zt,zf,zf,zt,zt,zt,zt,zt,zf,zf,zf,zf,zf] rfl rfl (take_ofW HT_.out HW_.out (by kernel_rfl)) (fun _ _ _ h=>h) (Or.inl ⟨by rfl,?_⟩) hHeld ?_ ?_
 rotate_left
 ·rintro w' ⟨s0,s1⟩
  go_simp
  with_reducible rfl
 rotate_left
 ·simp only [Act.put,zP_,i64_w]
  rfl
 refine one_ (i:=2) (N:=some 5) #[zt,zt,zt,zf,zt,zt,zt,zt,zt,zf,zf,zf,zf,zf] rfl rfl (one_of HT_.out (by kernel_rfl)) (by decide) (fun K hK=>?_)
 refine goes_ Try.func84 (by kernel_rfl) rfl #[.slice A0_0 l0_0.length c0_0] (by rfl) rfl rfl (by (try simp only [zJ,zM,zN]);first|done|rfl|(simp only [zL,zK];rfl)) ?_
 with_reducible refine (spec_l1Cycles.calls k _ _ l0_0 t396 _ ?side1 ?side2 A2.out).mono ?_
 (case side1=>repeat (first|exact (zW HR0_0.out HB.out)|(with_reducible exact HR0_0.out)|apply zC_))
 (case side2=>exact HC0_0.out)
 rintro e w7 ⟨v397,rfl,ho0,hb⟩
 refine ⟨_,rfl,?_⟩
 have n0_:=zA (Kd.S_lower ho0 (zQ (by repeat (first|(with_reducible first|exact HB.out|apply zD|apply zB|apply zC|refine zF ?_ GE395.out)|exact HB.out))))
 have n1_:=zA (zX (g:=gb395) (o:=.cells #[.slice A0_0 l0_0.length c0_0,.slice A0_1 l0_1.length c0_1] 33 (0,0)) (by (with_reducible repeat (first|refine zG ?_ _|refine zI ?_|refine zH ?_ _));exact BK395.out) hb)
 have n2_:=zA (zR (by repeat (first|(with_reducible first|exact HB.out|apply zD|apply zB|apply zC|refine zF ?_ GE395.out)|exact HB.out)) hb)
 clear BK395 HB
 have HO398:=n0_
 have BK395:=n1_
 have HB:=n2_
 clear n0_ n1_ n2_
 (try clear hb);(try clear hb2);(try clear hk);(try clear hi);(try clear ho0)
 obtain ⟨Ao8,co8,eo8⟩:=Kd.S_slice HO398.out
 (first|subst eo8|(injection eo8 with f1_ f2_ f3_;have f4_:=f1_.symm;have f5_:=f3_.symm;clear f1_ f2_ f3_;subst f4_;subst f5_))
 refine hK.out _ _ ⟨(zT BK395.out 0).trans rfl,(zT BK395.out 1).trans rfl⟩ (fun hHeld=>?_)
 clear hK K
 refine norm_ (a':=?_) ?_ ?_
 rotate_left
 ·show Act.put _ (some 5) _ = _
  simp only [Act.put,zP_,i64_w]
  rfl
 refine pure_ (i:=3) (N:=some 6) (v:=?_) (a':=?_) #[zt,zt,zt,zt,zt,zt,zt,zt,zt,zf,zf,zf,zf,zf] rfl rfl (any_of HT_.out (by kernel_rfl)) (fun _ _ _ h=>h) (Or.inl ⟨by rfl,?_⟩) ?_ ?_
 rotate_left
 ·intro w'
  go_simp
  with_reducible rfl
 rotate_left
 ·simp only [Act.put,zP_,i64_w]
  rfl
 refine one_ (i:=9) (N:=some 12) #[zt,zt,zt,zt,zt,zt,zt,zt,zt,zt,zf,zf,zf,zf] rfl rfl (one_of HT_.out (by kernel_rfl)) (by decide) (fun K hK=>?_)
 refine goes_ Try.func85 (by kernel_rfl) rfl #[.agg #[.slice A0_0 l0_0.length c0_0,.slice A0_1 l0_1.length c0_1]] (by rfl) rfl rfl (by (try simp only [zJ,zM,zN]);first|done|rfl|(simp only [zL,zK];rfl)) ?_
 with_reducible refine (spec_l2Faces.calls k _ _ l0_0 _ _ l0_1 t399 _ ?side1 ?side2 ?side3 ?side4 A3.out).mono ?_
 (case side1=>repeat (first|exact (zW HR0_0.out HB.out)|(with_reducible exact HR0_0.out)|apply zC_))
 (case side2=>exact HC0_0.out)
 (case side3=>repeat (first|exact (zW HR0_1.out HB.out)|(with_reducible exact HR0_1.out)|apply zC_))
 (case side4=>exact HC0_1.out)
 rintro e w9 ⟨v400,rfl,ho0,hb⟩
 refine ⟨_,rfl,?_⟩
 have n0_:=zA (Kd.S_elder' (by (with_reducible repeat (first|apply Kd.S_alloc|apply Kd.S_drewN|apply Kd.S_drew));exact HO398.out) (zd ho0) hb)
 have n1_:=zA (ze ho0 (zQ (by repeat (first|(with_reducible first|exact HB.out|apply zD|apply zB|apply zC|refine zF ?_ GE395.out)|exact HB.out))))
 have n2_:=zA (zX (g:=gb395) (o:=.cells #[.slice A0_0 l0_0.length c0_0,.slice A0_1 l0_1.length c0_1] 33 (0,0)) (by (with_reducible repeat (first|refine zG ?_ _|refine zI ?_|refine zH ?_ _));exact BK395.out) hb)
 have n3_:=zA (zR (by repeat (first|(with_reducible first|exact HB.out|apply zD|apply zB|apply zC|refine zF ?_ GE395.out)|exact HB.out)) hb)
 clear HO398 BK395 HB
 have HO398:=n0_
 have HO401:=n1_
 have BK395:=n2_
 have HB:=n3_
 clear n0_ n1_ n2_ n3_
 (try clear hb);(try clear hb2);(try clear hk);(try clear hi);(try clear ho0)
 obtain ⟨Ao10,co10,eo10⟩:=zg HO401.out
 (first|subst eo10|(injection eo10 with f1_ f2_ f3_;have f4_:=f1_.symm;have f5_:=f3_.symm;clear f1_ f2_ f3_;subst f4_;subst f5_))
 refine hK.out _ _ ⟨(zT BK395.out 0).trans rfl,(zT BK395.out 1).trans rfl⟩ (fun hHeld=>?_)
 clear hK K
 refine norm_ (a':=?_) ?_ ?_
 rotate_left
 ·show Act.put _ (some 12) _ = _
  simp only [Act.put,zP_,i64_w]
  rfl
 refine one_ (i:=10) (N:=some 13) #[zt,zt,zt,zt,zt,zt,zt,zt,zt,zt,zt,zf,zf,zf] rfl rfl (one_of HT_.out (by kernel_rfl)) (by decide) (fun K hK=>?_)
 refine goes_ Try.func84 (by kernel_rfl) rfl #[.slice Ao10 t399.length co10] (by rfl) rfl rfl (by (try simp only [zJ,zM,zN]);first|done|rfl|(simp only [zL,zK];rfl)) ?_
 with_reducible refine (spec_l1Cycles.calls k _ _ t399 t402 _ ?side1 ?side2 A4.out).mono ?_
 (case side1=>repeat (first|exact (zU HO401.out).2.2|apply zC_))
 (case side2=>exact (zU HO401.out).2.1)
 rintro e w11 ⟨v403,rfl,ho0,hb⟩
 refine ⟨_,rfl,?_⟩
 have n0_:=zA (Kd.S_elder' (by (with_reducible repeat (first|apply Kd.S_alloc|apply Kd.S_drewN|apply Kd.S_drew));exact HO398.out) (Kd.S_base ho0) hb)
 have n1_:=zA (Kd.R_below (by apply zR_;exact HO401.out) hb)
 have n2_:=zA (Kd.S_lower (Kd.S_new' (Kd.S_new' ho0 (Kd.S_lt (by (with_reducible repeat (first|apply Kd.S_alloc|apply Kd.S_drewN|apply Kd.S_drew));exact HO398.out))) (Kd.R_lt (by apply zR_;exact HO401.out))) (zQ (by repeat (first|(with_reducible first|exact HB.out|apply zD|apply zB|apply zC|refine zF ?_ GE395.out)|exact HB.out))))
 have n3_:=zA (zX (g:=gb395) (o:=.cells #[.slice A0_0 l0_0.length c0_0,.slice A0_1 l0_1.length c0_1] 33 (0,0)) (by (with_reducible repeat (first|refine zG ?_ _|refine zI ?_|refine zH ?_ _));exact BK395.out) hb)
 have n4_:=zA (zR (by repeat (first|(with_reducible first|exact HB.out|apply zD|apply zB|apply zC|refine zF ?_ GE395.out)|exact HB.out)) hb)
 clear HO398 HO401 BK395 HB
 have HO398:=n0_
 have HO401:=n1_
 have HO404:=n2_
 have BK395:=n3_
 have HB:=n4_
 clear n0_ n1_ n2_ n3_ n4_
 (try clear hb);(try clear hb2);(try clear hk);(try clear hi);(try clear ho0)
 obtain ⟨Ao12,co12,eo12⟩:=Kd.S_slice HO404.out
 (first|subst eo12|(injection eo12 with f1_ f2_ f3_;have f4_:=f1_.symm;have f5_:=f3_.symm;clear f1_ f2_ f3_;subst f4_;subst f5_))
 refine hK.out _ _ ⟨(zT BK395.out 0).trans rfl,(zT BK395.out 1).trans rfl⟩ (fun hHeld=>?_)
 clear hK K
 refine norm_ (a':=?_) ?_ ?_
 rotate_left
 ·show Act.put _ (some 13) _ = _
  simp only [Act.put,zP_,i64_w]
  rfl
 refine pure_ (i:=11) (N:=some 14) (v:=?_) (a':=?_) #[zt,zt,zt,zt,zt,zt,zt,zt,zt,zt,zt,zt,zf,zf] rfl rfl (any_of HT_.out (by kernel_rfl)) (fun _ _ _ h=>h) (Or.inl ⟨by rfl,?_⟩) ?_ ?_
 rotate_left
 ·intro w'
  go_simp
  with_reducible rfl
 rotate_left
 ·simp only [Act.put,zP_,i64_w]
  rfl
 refine one_ (i:=12) (N:=some 15) #[zt,zt,zt,zt,zt,zt,zt,zt,zt,zt,zt,zt,zt,zf] rfl rfl (one_of HT_.out (by kernel_rfl)) (by decide) (fun K hK=>?_)
 refine Kd.R_lit_step (Kd.int .i64) _ 3 ?hg (N:=15) ?hd (xs:=([(t396.length:Int),wrap64 ((l0_1.length:Int) / 2),(t402.length:Int)]:List Int)) (inner:=[.int .i64 (t396.length:Int),.int .i64 (wrap64 ((l0_1.length:Int) / 2)),.int .i64 (t402.length:Int)]) (ok:=fun _=>True) (okp:=fun _=>True) ?hr ?hp (fun _ hk=>hk) trivial (Below.refl _ _) (Nat.le_refl _) (by simp) ?_;(case hd=>rfl);(case hg=>rfl);(case hr=>first|(go_simp;done)|(go_simp;rfl));(case hp=>exact (Reps.one (show Kd.M (Kd.int .i64) _ _ _ (t396.length:Int) [.int .i64 (t396.length:Int)] from rfl) (Reps.one (show Kd.M (Kd.int .i64) _ _ _ (wrap64 ((l0_1.length:Int) / 2)) [.int .i64 (wrap64 ((l0_1.length:Int) / 2))] from rfl) (Reps.one (show Kd.M (Kd.int .i64) _ _ _ (t402.length:Int) [.int .i64 (t402.length:Int)] from rfl) (Reps.none _ _)))))
 intro v406 w13 ho14 hb hg_ hnew_
 clear hg_ hnew_
 (first|rw [← Ny405.out] at ho14|(simp only [Int.reduceToNat] at ho14;rw [← Ny405.out] at ho14))
 have n0_:=zA (Kd.S_elder' (by (with_reducible repeat (first|apply Kd.S_alloc|apply Kd.S_drewN|apply Kd.S_drew));exact HO398.out) (zd ho14) hb)
 have n1_:=zA (Kd.R_elder' (by apply zR_;exact HO401.out) (zd ho14) hb)
 have n2_:=zA (Kd.S_elder' (by (with_reducible repeat (first|apply Kd.S_alloc|apply Kd.S_drewN|apply Kd.S_drew));exact HO404.out) (zd ho14) hb)
 have n3_:=zA (ze (Kd.R_new' ho14 (Kd.R_lt (by apply zR_;exact HO401.out))) (zQ (by repeat (first|(with_reducible first|exact HB.out|apply zD|apply zB|apply zC|refine zF ?_ GE395.out)|exact HB.out))))
 have n4_:=zA (zX (g:=gb395) (o:=.cells #[.slice A0_0 l0_0.length c0_0,.slice A0_1 l0_1.length c0_1] 33 (0,0)) (by (with_reducible repeat (first|refine zG ?_ _|refine zI ?_|refine zH ?_ _));exact BK395.out) hb)
 have n5_:=zA (zR (by repeat (first|(with_reducible first|exact HB.out|apply zD|apply zB|apply zC|refine zF ?_ GE395.out)|exact HB.out)) hb)
 clear HO398 HO401 HO404 BK395 HB
 have HO398:=n0_
 have HO401:=n1_
 have HO404:=n2_
 have HO407:=n3_
 have BK395:=n4_
 have HB:=n5_
 clear n0_ n1_ n2_ n3_ n4_ n5_ hb ho14
 refine hK.out _ _ ⟨(zT BK395.out 0).trans rfl,(zT BK395.out 1).trans rfl⟩ (fun hHeld=>?_)
 clear hK K
 refine norm_ (a':=?_) ?_ ?_
 rotate_left
 ·show Act.put _ (some 15) _ = _
  simp only [Act.put,zP_,i64_w]
  rfl
 refine pure_ (i:=13) (N:=some 2) (v:=?_) (a':=?_) #[zt,zt,zt,zt,zt,zt,zt,zt,zt,zt,zt,zt,zt,zt] rfl rfl (any_of HT_.out (by kernel_rfl)) (fun _ _ _ h=>h) (Or.inl ⟨by rfl,?_⟩) ?_ ?_
 rotate_left
 ·intro w'
  go_simp
  with_reducible rfl
 rotate_left
 ·simp only [Act.put,zP_,i64_w]
  rfl
 refine done_ (done_of HT_.out (by kernel_rfl)) ?_
 try go_wp2
 go_ret
 exact ⟨_,by first|rfl|(simp [errW_none,errW_some] <;> rfl)|(simp [*,errW_none,errW_some] <;> rfl),by apply zR_;exact zV HO407.out (fun _ hk=>trivial),by repeat (first|(with_reducible first|exact HB.out|apply zD|apply zB|apply zC|refine zF ?_ GE395.out)|exact HB.out)⟩

/-! ### spec_l2Genus: function 77 -/
def spec_l2Genus.f (k:Nat) (l0_0:List Int) (l0_1:List Int):Option (Int):=(spec_l2Counts.f k l0_0 l0_1).bind fun t409=>(if 0 < (t409.length:Int) then (if 1 < (t409.length:Int) then (if 2 < (t409.length:Int) then (some (wrap64 (Int.tdiv (wrap64 ((wrap64 ((wrap64 (2 - (rd t409 0)))+(rd t409 1))) - (rd t409 2))) 2))) else (none)) else (none)) else (none))
theorem spec_l2Genus.mono:∀ a0 a1 k,LeO (spec_l2Genus.f k a0 a1) (spec_l2Genus.f (k+1) a0 a1):=by
 intro a0 a1 k
 unfold spec_l2Genus.f
 repeat' first
   | (with_reducible exact spec_l2Counts.mono _ _ _)
   | (with_reducible exact LeO.refl _)
   | (with_reducible exact za _)
   | (with_reducible refine zc ?_ ?_)
   | (with_reducible refine zb ?_ (fun _=>?_))
set_option maxHeartbeats 8000000 in
set_option maxRecDepth 100000 in
theorem spec_l2Genus.calls (k:Nat) (A0_0:Option Addr) (c0_0:Nat) (l0_0:List Int) (A0_1:Option Addr) (c0_1:Nat) (l0_1:List Int) (r:Int) (w:World) (hr0_0:Kd.C (Kd.int .i64) w A0_0 l0_0.length l0_0) (hc0_0:l0_0.length≤c0_0) (hr0_1:Kd.C (Kd.int .i64) w A0_1 l0_1.length l0_1) (hc0_1:l0_1.length≤c0_1) (h:spec_l2Genus.f k l0_0 l0_1 = some r) :
  Calls Try.prog 77 #[.agg #[.slice A0_0 l0_0.length c0_0,.slice A0_1 l0_1.length c0_1]] w fun e w'=>e = .returned (.int .i64 r)∧Below w.heap.size w w':=by
 have hu33:=Try.underlying33
 have HR0_0:=zA hr0_0
 have HC0_0:=zA hc0_0
 clear hr0_0 hc0_0
 have HR0_1:=zA hr0_1
 have HC0_1:=zA hc0_1
 clear hr0_1 hc0_1
 have HB:=zA (Below.refl w.heap.size w)
 have H:((spec_l2Counts.f k l0_0 l0_1).bind fun t409=>(if 0 < (t409.length:Int) then (if 1 < (t409.length:Int) then (if 2 < (t409.length:Int) then (some (wrap64 (Int.tdiv (wrap64 ((wrap64 ((wrap64 (2 - (rd t409 0)))+(rd t409 1))) - (rd t409 2))) 2))) else (none)) else (none)) else (none))) = some r:=h
 clear h
 replace H:=zz0 H
 obtain ⟨t409,A20,H⟩:=H
 try dsimp only at H
 have A2:=zA A20
 clear A20
 by_cases c3:0 < (t409.length:Int)
 ·rw [if_pos c3] at H
  have c3b0:decide (0 < (t409.length:Int)) = true:=zO c3
  have c3b1:decide (0 < t409.length) = true:=zO (by omega)
  clear c3
  by_cases c4:1 < (t409.length:Int)
  ·rw [if_pos c4] at H
   have c4b0:decide (1 < (t409.length:Int)) = true:=zO c4
   have c4b1:decide (1 < t409.length) = true:=zO (by omega)
   clear c4
   by_cases c5:2 < (t409.length:Int)
   ·rw [if_pos c5] at H
    have c5b0:decide (2 < (t409.length:Int)) = true:=zO c5
    have c5b1:decide (2 < t409.length) = true:=zO (by omega)
    clear c5
    obtain rfl:=zS H
    go_enter Try.func77,Try.ntmps77
    go_wp2_with (first|((with_reducible refine gate_dst (N:=1) rfl ?_);refine box_event ?hg (N:=1) ?hd (cs:=#[.slice A0_0 l0_0.length c0_0,.slice A0_1 l0_1.length c0_1]) (t:=33) ?hr ?_;(case hd=>rfl);(case hg=>rfl);(case hr=>first|(go_simp;done)|(go_simp;rfl));intro gb408 hg w6 hbox hb;have n0_:=zA (zR (by exact zB_ HB.out) hb);have n1_:=zA (hbox);have n2_:=zA ((by rw [hg];exact (zQ (by exact zB_ HB.out)):w.heap.size≤gb408));have n3_:=zA ((by rw [hg];exact (zQ (by exact zB_ HB.out)):w.heap.size≤gb408));clear HB;have HB:=n0_;have BK408:=n1_;have GW408:=n2_;have GE408:=n3_;clear n0_ n1_ n2_ n3_;clear hb hbox hg;have hcz7_0:w6.cell? ⟨gb408,0,none⟩ = some (.slice A0_0 l0_0.length c0_0):=(zT BK408.out 0).trans rfl;have hcz7_1:w6.cell? ⟨gb408,1,none⟩ = some (.slice A0_1 l0_1.length c0_1):=(zT BK408.out 1).trans rfl;have hfz7_0:=zZ BK408.out 0;have hfz7_1:=zZ BK408.out 1)|(go_at_call 55;(with_reducible refine (spec_l2Counts.calls k _ _ l0_0 _ _ l0_1 t409 _ ?side1 ?side2 ?side3 ?side4 A2.out).mono ?_);(case side1=>repeat (first|exact (zW HR0_0.out HB.out)|(with_reducible exact HR0_0.out)|apply zC_));(case side2=>exact HC0_0.out);(case side3=>repeat (first|exact (zW HR0_1.out HB.out)|(with_reducible exact HR0_1.out)|apply zC_));(case side4=>exact HC0_1.out);rintro e w8 ⟨v410,rfl,ho0,hb⟩;have n0_:=zA (ze ho0 (zQ (by repeat (first|(with_reducible first|exact HB.out|apply zD|apply zB|apply zC|refine zF ?_ GE408.out)|exact HB.out))));have n1_:=zA (zX (g:=gb408) (o:=.cells #[.slice A0_0 l0_0.length c0_0,.slice A0_1 l0_1.length c0_1] 33 (0,0)) (by (with_reducible repeat (first|refine zG ?_ _|refine zI ?_|refine zH ?_ _));exact BK408.out) hb);have n2_:=zA (zR (by repeat (first|(with_reducible first|exact HB.out|apply zD|apply zB|apply zC|refine zF ?_ GE408.out)|exact HB.out)) hb);clear BK408;clear HB;have HO411:=n0_;have BK408:=n1_;have HB:=n2_;clear n0_ n1_ n2_;(try clear hb);(try clear hb2);(try clear hk);(try clear hi);(try clear ho0);obtain ⟨Ao9,co9,eo9⟩:=zg HO411.out;subst eo9;have p412:0≤(0:Int):=(by omega);have q412:0 < (t409.length:Int):=zE (by with_reducible assumption);obtain ⟨ad412,e412,hx412_0⟩:=Kd.at_int (zU HO411.out).2.2 0 p412 q412;cases e412;have qi412:(0 < t409.length) = True:=eq_true (by omega);(try rw [show ((0:Int)).toNat = 0 from rfl] at hx412_0);(try rw [Addr.add_zero'] at hx412_0);replace p412:=eq_true p412;replace q412:=eq_true q412;have p413:0≤(1:Int):=(by omega);have q413:1 < (t409.length:Int):=zE (by with_reducible assumption);obtain ⟨ad413,e413,hx413_0⟩:=Kd.at_int (zU HO411.out).2.2 1 p413 q413;obtain rfl:ad412 = ad413:=(by injection e413);(try simp only [show (1:Int).toNat = 1 from rfl,Nat.reduceMul,Nat.reduceEqDiff,Go.Addr.add, ↓reduceIte] at hx413_0);have qi413:(1 < t409.length) = True:=eq_true (by omega);(try rw [show ((1:Int)).toNat = 1 from rfl] at hx413_0);replace p413:=eq_true p413;replace q413:=eq_true q413;have p414:0≤(2:Int):=(by omega);have q414:2 < (t409.length:Int):=zE (by with_reducible assumption);obtain ⟨ad414,e414,hx414_0⟩:=Kd.at_int (zU HO411.out).2.2 2 p414 q414;obtain rfl:ad412 = ad414:=(by injection e414);(try simp only [show (2:Int).toNat = 2 from rfl,Nat.reduceMul,Nat.reduceEqDiff,Go.Addr.add, ↓reduceIte] at hx414_0);have qi414:(2 < t409.length) = True:=eq_true (by omega);(try rw [show ((2:Int)).toNat = 2 from rfl] at hx414_0);replace p414:=eq_true p414;replace q414:=eq_true q414))
    repeat (go_quiet (first|((with_reducible refine gate_dst (N:=1) rfl ?_);refine box_event ?hg (N:=1) ?hd (cs:=#[.slice A0_0 l0_0.length c0_0,.slice A0_1 l0_1.length c0_1]) (t:=33) ?hr ?_;(case hd=>rfl);(case hg=>rfl);(case hr=>first|(go_simp;done)|(go_simp;rfl));intro gb408 hg w6 hbox hb;have n0_:=zA (zR (by exact zB_ HB.out) hb);have n1_:=zA (hbox);have n2_:=zA ((by rw [hg];exact (zQ (by exact zB_ HB.out)):w.heap.size≤gb408));have n3_:=zA ((by rw [hg];exact (zQ (by exact zB_ HB.out)):w.heap.size≤gb408));clear HB;have HB:=n0_;have BK408:=n1_;have GW408:=n2_;have GE408:=n3_;clear n0_ n1_ n2_ n3_;clear hb hbox hg;have hcz7_0:w6.cell? ⟨gb408,0,none⟩ = some (.slice A0_0 l0_0.length c0_0):=(zT BK408.out 0).trans rfl;have hcz7_1:w6.cell? ⟨gb408,1,none⟩ = some (.slice A0_1 l0_1.length c0_1):=(zT BK408.out 1).trans rfl;have hfz7_0:=zZ BK408.out 0;have hfz7_1:=zZ BK408.out 1)|(go_at_call 55;(with_reducible refine (spec_l2Counts.calls k _ _ l0_0 _ _ l0_1 t409 _ ?side1 ?side2 ?side3 ?side4 A2.out).mono ?_);(case side1=>repeat (first|exact (zW HR0_0.out HB.out)|(with_reducible exact HR0_0.out)|apply zC_));(case side2=>exact HC0_0.out);(case side3=>repeat (first|exact (zW HR0_1.out HB.out)|(with_reducible exact HR0_1.out)|apply zC_));(case side4=>exact HC0_1.out);rintro e w8 ⟨v410,rfl,ho0,hb⟩;have n0_:=zA (ze ho0 (zQ (by repeat (first|(with_reducible first|exact HB.out|apply zD|apply zB|apply zC|refine zF ?_ GE408.out)|exact HB.out))));have n1_:=zA (zX (g:=gb408) (o:=.cells #[.slice A0_0 l0_0.length c0_0,.slice A0_1 l0_1.length c0_1] 33 (0,0)) (by (with_reducible repeat (first|refine zG ?_ _|refine zI ?_|refine zH ?_ _));exact BK408.out) hb);have n2_:=zA (zR (by repeat (first|(with_reducible first|exact HB.out|apply zD|apply zB|apply zC|refine zF ?_ GE408.out)|exact HB.out)) hb);clear BK408;clear HB;have HO411:=n0_;have BK408:=n1_;have HB:=n2_;clear n0_ n1_ n2_;(try clear hb);(try clear hb2);(try clear hk);(try clear hi);(try clear ho0);obtain ⟨Ao9,co9,eo9⟩:=zg HO411.out;subst eo9;have p412:0≤(0:Int):=(by omega);have q412:0 < (t409.length:Int):=zE (by with_reducible assumption);obtain ⟨ad412,e412,hx412_0⟩:=Kd.at_int (zU HO411.out).2.2 0 p412 q412;cases e412;have qi412:(0 < t409.length) = True:=eq_true (by omega);(try rw [show ((0:Int)).toNat = 0 from rfl] at hx412_0);(try rw [Addr.add_zero'] at hx412_0);replace p412:=eq_true p412;replace q412:=eq_true q412;have p413:0≤(1:Int):=(by omega);have q413:1 < (t409.length:Int):=zE (by with_reducible assumption);obtain ⟨ad413,e413,hx413_0⟩:=Kd.at_int (zU HO411.out).2.2 1 p413 q413;obtain rfl:ad412 = ad413:=(by injection e413);(try simp only [show (1:Int).toNat = 1 from rfl,Nat.reduceMul,Nat.reduceEqDiff,Go.Addr.add, ↓reduceIte] at hx413_0);have qi413:(1 < t409.length) = True:=eq_true (by omega);(try rw [show ((1:Int)).toNat = 1 from rfl] at hx413_0);replace p413:=eq_true p413;replace q413:=eq_true q413;have p414:0≤(2:Int):=(by omega);have q414:2 < (t409.length:Int):=zE (by with_reducible assumption);obtain ⟨ad414,e414,hx414_0⟩:=Kd.at_int (zU HO411.out).2.2 2 p414 q414;obtain rfl:ad412 = ad414:=(by injection e414);(try simp only [show (2:Int).toNat = 2 from rfl,Nat.reduceMul,Nat.reduceEqDiff,Go.Addr.add, ↓reduceIte] at hx414_0);have qi414:(2 < t409.length) = True:=eq_true (by omega);(try rw [show ((2:Int)).toNat = 2 from rfl] at hx414_0);replace p414:=eq_true p414;replace q414:=eq_true q414));try go_wp2_with (first|((with_reducible refine gate_dst (N:=1) rfl ?_);refine box_event ?hg (N:=1) ?hd (cs:=#[.slice A0_0 l0_0.length c0_0,.slice A0_1 l0_1.length c0_1]) (t:=33) ?hr ?_;(case hd=>rfl);(case hg=>rfl);(case hr=>first|(go_simp;done)|(go_simp;rfl));intro gb408 hg w6 hbox hb;have n0_:=zA (zR (by exact zB_ HB.out) hb);have n1_:=zA (hbox);have n2_:=zA ((by rw [hg];exact (zQ (by exact zB_ HB.out)):w.heap.size≤gb408));have n3_:=zA ((by rw [hg];exact (zQ (by exact zB_ HB.out)):w.heap.size≤gb408));clear HB;have HB:=n0_;have BK408:=n1_;have GW408:=n2_;have GE408:=n3_;clear n0_ n1_ n2_ n3_;clear hb hbox hg;have hcz7_0:w6.cell? ⟨gb408,0,none⟩ = some (.slice A0_0 l0_0.length c0_0):=(zT BK408.out 0).trans rfl;have hcz7_1:w6.cell? ⟨gb408,1,none⟩ = some (.slice A0_1 l0_1.length c0_1):=(zT BK408.out 1).trans rfl;have hfz7_0:=zZ BK408.out 0;have hfz7_1:=zZ BK408.out 1)|(go_at_call 55;(with_reducible refine (spec_l2Counts.calls k _ _ l0_0 _ _ l0_1 t409 _ ?side1 ?side2 ?side3 ?side4 A2.out).mono ?_);(case side1=>repeat (first|exact (zW HR0_0.out HB.out)|(with_reducible exact HR0_0.out)|apply zC_));(case side2=>exact HC0_0.out);(case side3=>repeat (first|exact (zW HR0_1.out HB.out)|(with_reducible exact HR0_1.out)|apply zC_));(case side4=>exact HC0_1.out);rintro e w8 ⟨v410,rfl,ho0,hb⟩;have n0_:=zA (ze ho0 (zQ (by repeat (first|(with_reducible first|exact HB.out|apply zD|apply zB|apply zC|refine zF ?_ GE408.out)|exact HB.out))));have n1_:=zA (zX (g:=gb408) (o:=.cells #[.slice A0_0 l0_0.length c0_0,.slice A0_1 l0_1.length c0_1] 33 (0,0)) (by (with_reducible repeat (first|refine zG ?_ _|refine zI ?_|refine zH ?_ _));exact BK408.out) hb);have n2_:=zA (zR (by repeat (first|(with_reducible first|exact HB.out|apply zD|apply zB|apply zC|refine zF ?_ GE408.out)|exact HB.out)) hb);clear BK408;clear HB;have HO411:=n0_;have BK408:=n1_;have HB:=n2_;clear n0_ n1_ n2_;(try clear hb);(try clear hb2);(try clear hk);(try clear hi);(try clear ho0);obtain ⟨Ao9,co9,eo9⟩:=zg HO411.out;subst eo9;have p412:0≤(0:Int):=(by omega);have q412:0 < (t409.length:Int):=zE (by with_reducible assumption);obtain ⟨ad412,e412,hx412_0⟩:=Kd.at_int (zU HO411.out).2.2 0 p412 q412;cases e412;have qi412:(0 < t409.length) = True:=eq_true (by omega);(try rw [show ((0:Int)).toNat = 0 from rfl] at hx412_0);(try rw [Addr.add_zero'] at hx412_0);replace p412:=eq_true p412;replace q412:=eq_true q412;have p413:0≤(1:Int):=(by omega);have q413:1 < (t409.length:Int):=zE (by with_reducible assumption);obtain ⟨ad413,e413,hx413_0⟩:=Kd.at_int (zU HO411.out).2.2 1 p413 q413;obtain rfl:ad412 = ad413:=(by injection e413);(try simp only [show (1:Int).toNat = 1 from rfl,Nat.reduceMul,Nat.reduceEqDiff,Go.Addr.add, ↓reduceIte] at hx413_0);have qi413:(1 < t409.length) = True:=eq_true (by omega);(try rw [show ((1:Int)).toNat = 1 from rfl] at hx413_0);replace p413:=eq_true p413;replace q413:=eq_true q413;have p414:0≤(2:Int):=(by omega);have q414:2 < (t409.length:Int):=zE (by with_reducible assumption);obtain ⟨ad414,e414,hx414_0⟩:=Kd.at_int (zU HO411.out).2.2 2 p414 q414;obtain rfl:ad412 = ad414:=(by injection e414);(try simp only [show (2:Int).toNat = 2 from rfl,Nat.reduceMul,Nat.reduceEqDiff,Go.Addr.add, ↓reduceIte] at hx414_0);have qi414:(2 < t409.length) = True:=eq_true (by omega);(try rw [show ((2:Int)).toNat = 2 from rfl] at hx414_0);replace p414:=eq_true p414;replace q414:=eq_true q414)))
    go_ret
    exact ⟨by first|rfl|(simp [errW_none,errW_some] <;> rfl)|(simp [*,errW_none,errW_some] <;> rfl),by repeat (first|(with_reducible first|exact HB.out|apply zD|apply zB|apply zC|refine zF ?_ GE408.out)|exact HB.out)⟩
   ·rw [if_neg c5] at H
    exact absurd H (by simp)
  ·rw [if_neg c4] at H
   exact absurd H (by simp)
 ·rw [if_neg c3] at H
  exact absurd H (by simp)

/-! ### spec_l1Back: function 119 -/
def spec_l1Back.l0:Nat→List Int→List Int→Int→Option (List Int)
 | 0,_,_,_=>none
 | k+1,x0,x3,x4=>if x4 < (x0.length:Int) then (if 0≤x4 then (if 0≤(rd x0 x4) then (if (rd x0 x4) < (x3.length:Int) then (spec_l1Back.l0 k x0 (x3.set ((rd x0 x4):Int).toNat x4) (wrap64 (x4+1))) else (none)) else (none)) else (none)) else (some x3)
def spec_l1Back.f (k:Nat) (l0:List Int):Option (List Int):=if 0≤(l0.length:Int) then (if ((l0.length:Int):Int).toNat≤35184372088832 then (spec_l1Back.l0 k l0 (List.replicate ((l0.length:Int):Int).toNat 0) 0) else (none)) else (none)
theorem spec_l1Back.mono_l:∀ k,(∀ y0 y1 y2,LeO (spec_l1Back.l0 k y0 y1 y2) (spec_l1Back.l0 (k+1) y0 y1 y2))
 | 0=>fun _ _ _ r h=>by simp [spec_l1Back.l0] at h
 | k+1=>by
  have ih0:=spec_l1Back.mono_l k
  ·intro y0 y1 y2
   unfold spec_l1Back.l0
   repeat' first
   | (with_reducible exact ih0 _ _ _)
   | (with_reducible exact LeO.refl _)
   | (with_reducible exact za _)
   | (with_reducible refine zc ?_ ?_)
   | (with_reducible refine zb ?_ (fun _=>?_))
theorem spec_l1Back.mono:∀ a0 k,LeO (spec_l1Back.f k a0) (spec_l1Back.f (k+1) a0):=by
 intro a0 k
 have ih0:=spec_l1Back.mono_l k
 unfold spec_l1Back.f
 repeat' first
   | (with_reducible exact ih0 _ _ _)
   | (with_reducible exact LeO.refl _)
   | (with_reducible exact za _)
   | (with_reducible refine zc ?_ ?_)
   | (with_reducible refine zb ?_ (fun _=>?_))
set_option maxHeartbeats 8000000 in
set_option maxRecDepth 100000 in
theorem spec_l1Back.calls (k:Nat) (A0:Option Addr) (c0:Nat) (l0:List Int) (r:List Int) (w:World) (hr0:Kd.C (Kd.int .i64) w A0 l0.length l0) (hc0:l0.length≤c0) (h:spec_l1Back.f k l0 = some r) :
  Calls Try.prog 119 #[.slice A0 l0.length c0] w fun e w' => ∃ v0_:Value,e = .returned (v0_)∧Kd.R (Kd.int .i64) 3 w' w.heap.size (fun _=>True) v0_ r∧Below w.heap.size w w':=by
 have HR0:=zA hr0
 have HC0:=zA hc0
 clear hr0 hc0
 have HB:=zA (Below.refl w.heap.size w)
 have H:(if 0≤(l0.length:Int) then (if ((l0.length:Int):Int).toNat≤35184372088832 then (spec_l1Back.l0 k l0 (List.replicate ((l0.length:Int):Int).toNat 0) 0) else (none)) else (none)) = some r:=h
 clear h
 by_cases c2:0≤(l0.length:Int)
 ·rw [if_pos c2] at H
  have c2b0:=eq_true c2
  have c2b1:decide (0≤(l0.length:Int)) = true:=zO c2
  clear c2
  by_cases c3:((l0.length:Int):Int).toNat≤35184372088832
  ·rw [if_pos c3] at H
   have c3b0:=eq_true c3
   have c3b1:decide (((l0.length:Int):Int).toNat≤35184372088832) = true:=zO c3
   clear c3
   obtain ⟨y415,hy415⟩:∃ y_:List Int,y_ = (List.replicate ((l0.length:Int):Int).toNat 0):=⟨_,rfl⟩
   replace H:(spec_l1Back.l0 k l0 y415 0) = some r:=by (try rw [hy415]);first|with_reducible exact H|with_reducible exact zS_ H|exact H
   have Ny415:=zA hy415
   clear hy415
   have H':=zA H
   clear H
   go_enter Try.func119,Try.ntmps119
   go_wp2_with (first|((with_reducible refine gate_dst (N:=7) rfl ?_);refine Kd.R_make (Kd.int .i64) _ 3 rfl (N:=7) rfl 31 _ _ rfl (l0.length:Int) rfl rfl Try.underlying31 (.int .i64 0) 8 info3 rfl (by decide) (by omega) 0 (ok:=fun _=>True) (okp:=fun _=>True) rfl (fun _ hk=>hk) trivial (zE (by with_reducible assumption)) (Nat.le_trans (Nat.mul_le_mul_right _ (zE (by with_reducible assumption):(l0.length:Int).toNat≤35184372088832)) (by omega)) (Below.refl _ _) (Nat.le_refl _) ?_;intro v416 w4 ho5 hb hg_ hnew_;clear hg_ hnew_;(first|rw [← Ny415.out] at ho5|(simp only [Int.reduceToNat] at ho5;rw [← Ny415.out] at ho5));have n0_:=zA (ze ho5 (zQ (by exact zB_ HB.out)));have n1_:=zA (zR (by exact zB_ HB.out) hb);clear HB;have HO417:=n0_;have HB:=n1_;clear n0_ n1_;clear hb ho5))
   go_loopg [4] k (fun kq v4 w' => ∃ (x3_1:List Int) (x4_1:Int),v4 = .int .i64 x4_1∧Aside0 (spec_l1Back.l0 kq l0 x3_1 x4_1 = some r)∧Aside0 (kq≤k)∧Aside0 (Kd.R (Kd.int .i64) 3 w' w.heap.size (fun _=>True) v416 x3_1)∧Aside0 (Below w.heap.size w w'))
   case atStart=>exact ⟨(y415),(0),(by first|rfl|(simp;done)|(simp [*];done)),H',⟨Nat.le_refl _⟩,⟨by apply zR_;exact HO417.out⟩,⟨by exact zB_ HB.out⟩⟩
   case round =>
    clear H'
    (try clear c1);(try clear c2);(try clear c2b0);(try clear c2b1);(try clear p2);(try clear c3);(try clear c3b0);(try clear c3b1)
    obtain ⟨x3_1,x4_1,rfl,HA,HK1,HO_3,HB⟩:=hrel
    cases gk with
    | zero=>exact absurd HA.out (by simp [spec_l1Back.l0])
    | succ k1 =>
     have H:=HA.out
     clear HA
     simp only [spec_l1Back.l0] at H
     by_cases c6:x4_1 < (l0.length:Int)
     ·rw [if_pos c6] at H
      have c6b0:decide (x4_1 < (l0.length:Int)) = true:=zO c6
      clear c6
      by_cases c7:0≤x4_1
      ·rw [if_pos c7] at H
       have c7b0:decide (0≤x4_1) = true:=zO c7
       clear c7
       by_cases c8:0≤(rd l0 x4_1)
       ·rw [if_pos c8] at H
        have c8b0:decide (0≤(rd l0 x4_1)) = true:=zO c8
        clear c8
        by_cases c9:(rd l0 x4_1) < (x3_1.length:Int)
        ·rw [if_pos c9] at H
         have c9b0:decide ((rd l0 x4_1) < (x3_1.length:Int)) = true:=zO c9
         clear c9
         obtain ⟨y419,hy419⟩:∃ y_:List Int,y_ = (x3_1.set ((rd l0 x4_1):Int).toNat x4_1):=⟨_,rfl⟩
         replace H:(spec_l1Back.l0 k1 l0 y419 (wrap64 (x4_1+1))) = some r:=by (try rw [hy419]);first|with_reducible exact H|with_reducible exact zS_ H|exact H
         have Ny419:=zA hy419
         clear hy419
         have H':=zA H
         clear H
         have p418:0≤(x4_1:Int):=zE (by with_reducible assumption)
         have q418:x4_1 < (l0.length:Int):=zE (by with_reducible assumption)
         obtain ⟨ad418,e418,hx418_0⟩:=Kd.at_int HR0.out x4_1 p418 q418
         cases e418
         replace hx418_0:=(HB.out.cell (zY w _ hx418_0)).trans hx418_0
         replace p418:=eq_true p418
         replace q418:=eq_true q418
         have p10:0≤((rd l0 x4_1):Int):=zE (by with_reducible assumption)
         have q10:((rd l0 x4_1):Int) < ((x3_1.length:Int):Int):=zE (by with_reducible assumption)
         obtain ⟨go10,co10,eo10,gb10,gl10,cl10,HG10⟩:=Kd.R_form HO_3.out (by omega)
         (first|cases eo10|(injection eo10 with ea_ en_ ec_;(first|subst ea_|(injection ea_ with ea_;subst ea_));subst ec_;clear en_))
         have GB10:=zA gb10
         have GG10:=zA HG10
         clear gb10 gl10 HG10
         obtain ⟨hx10_0,hf10_0⟩:=Kd.R_celln 0 HO_3.out ((rd l0 x4_1):Int) p10 q10
         replace p10:=eq_true p10
         replace q10:=eq_true q10
         have HP11:=Kd.R_putg HO_3.out ((rd l0 x4_1):Int) x4_1
         go_wp2_with (first|((with_reducible refine gate_store (t:=3) (p:=20) rfl ?_);refine store_event (t:=3) (p:=20) (v:=?vo_w12) (w1:=(wr.setCell ⟨go10,((rd l0 x4_1):Int).toNat,none⟩ (.int .i64 x4_1))) ?hg ?ho ?hn ?hr ?_;(case ho=>rfl);(case hg=>rfl);(case hn=>rfl);(case hr=>first|(go_simp;done)|(go_simp;rfl));intro w12 hw;have hg:wr.grownBy w12 (some go10):=(by rw [hw];exact HP11.2);have hp_:Kd.R (Kd.int .i64) 3 w12 w.heap.size (fun _=>True) (.slice (some ⟨go10,0,none⟩) x3_1.length co10) y419:=(by rw [hw,Ny419.out];exact HP11.1);clear HP11;have n0_:=zA (hp_);have n1_:=zA ((by rw [hw];exact zF (HB.out) GB10.out:Below w.heap.size w w12));clear HO_3;clear HB;have HO_3:=n0_;have HB:=n1_;clear n0_ n1_;clear hg hw hp_))
         go_roundg k1
         case measure=>have:=HK1.out;omega
         case rel=>exact ⟨(y419),(wrap64 (x4_1+1)),(by first|rfl|(simp;done)|(simp [*];done)),H',⟨by have:=HK1.out;omega⟩,⟨by apply zR_;exact HO_3.out⟩,⟨by exact zB_ HB.out⟩⟩
        ·rw [if_neg c9] at H
         exact absurd H (by simp)
       ·rw [if_neg c8] at H
        exact absurd H (by simp)
      ·rw [if_neg c7] at H
       exact absurd H (by simp)
     ·rw [if_neg c6] at H
      have c6b0:decide (x4_1 < (l0.length:Int)) = false:=zP c6
      clear c6
      obtain rfl:=zS H
      go_wp2
      go_ret
      exact ⟨_,by first|rfl|(simp [errW_none,errW_some] <;> rfl)|(simp [*,errW_none,errW_some] <;> rfl),by apply zR_;exact HO_3.out,by exact zB_ HB.out⟩
  ·rw [if_neg c3] at H
   exact absurd H (by simp)
 ·rw [if_neg c2] at H
  exact absurd H (by simp)

end Go.Proofs.Ytdaiohcgdpclnaa.Q
