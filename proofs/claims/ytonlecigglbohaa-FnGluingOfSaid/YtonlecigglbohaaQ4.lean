import Derived.Test.YtonlecigglbohaaQ0
import Derived.Test.YtonlecigglbohaaQ3
import Derived.Test.YtonlecigglbohaaZ
namespace Go.Proofs.Ytonlecigglbohaa.Q
open Go.RowKit Go.Proofs.YtonlecigglbohaaW.PrintWords Go.Proofs.YtonlecigglbohaaW.PrintLast Go.Proofs.YtonlecigglbohaaW.PrintMore
attribute [local go_sem] max2_int min2_int max_two min_two max_three min_three max_four min_four   -- for this text's walks alone
set_option linter.unusedVariables false
set_option linter.unusedSimpArgs false

/-! ### spec_l1Mul: function 132 -/
def spec_l1Mul.l0:Nat→List Int→List Int→List Int→Int→Option (List Int)
 | 0,_,_,_,_=>none
 | k+1,x0,x1,x5,x6=>if x6 < (x0.length:Int) then (if 0≤x6 then (if 0≤(rd x0 x6) then (if (rd x0 x6) < (x1.length:Int) then (if x5.length < 17592186044416 then (spec_l1Mul.l0 k x0 x1 (x5 ++ [rd x1 (rd x0 x6)]) (wrap64 (x6+1))) else (none)) else (none)) else (none)) else (none)) else (some x5)
def spec_l1Mul.f (k:Nat) (l0:List Int) (l1:List Int):Option (List Int):=spec_l1Mul.l0 k l0 l1 (([]:List Int)) 0
theorem spec_l1Mul.mono_l:∀ k,(∀ y0 y1 y2 y3,LeO (spec_l1Mul.l0 k y0 y1 y2 y3) (spec_l1Mul.l0 (k+1) y0 y1 y2 y3))
 | 0=>fun _ _ _ _ r h=>by simp [spec_l1Mul.l0] at h
 | k+1=>by
  have ih0:=spec_l1Mul.mono_l k
  ·intro y0 y1 y2 y3
   unfold spec_l1Mul.l0
   repeat' first
   | (with_reducible exact ih0 _ _ _ _)
   | (with_reducible exact LeO.refl _)
   | (with_reducible exact za _)
   | (with_reducible refine zc ?_ ?_)
   | (with_reducible refine zb ?_ (fun _=>?_))
theorem spec_l1Mul.mono:∀ a0 a1 k,LeO (spec_l1Mul.f k a0 a1) (spec_l1Mul.f (k+1) a0 a1):=by
 intro a0 a1 k
 have ih0:=spec_l1Mul.mono_l k
 unfold spec_l1Mul.f
 repeat' first
   | (with_reducible exact ih0 _ _ _ _)
   | (with_reducible exact LeO.refl _)
   | (with_reducible exact za _)
   | (with_reducible refine zc ?_ ?_)
   | (with_reducible refine zb ?_ (fun _=>?_))
set_option maxHeartbeats 8000000 in
set_option maxRecDepth 100000 in
theorem spec_l1Mul.calls (k:Nat) (A0:Option Addr) (c0:Nat) (l0:List Int) (A1:Option Addr) (c1:Nat) (l1:List Int) (r:List Int) (w:World) (hr0:Kd.C (Kd.int .i64) w A0 l0.length l0) (hc0:l0.length≤c0) (hr1:Kd.C (Kd.int .i64) w A1 l1.length l1) (hc1:l1.length≤c1) (h:spec_l1Mul.f k l0 l1 = some r) :
  Calls Try.prog 132 #[.slice A0 l0.length c0,.slice A1 l1.length c1] w fun e w' => ∃ v0_:Value,e = .returned (v0_)∧Kd.R (Kd.int .i64) 3 w' w.heap.size (fun _=>True) v0_ r∧Below w.heap.size w w':=by
 have HR0:=zA hr0
 have HC0:=zA hc0
 clear hr0 hc0
 have HR1:=zA hr1
 have HC1:=zA hc1
 clear hr1 hc1
 have HB:=zA (Below.refl w.heap.size w)
 have H:(spec_l1Mul.l0 k l0 l1 (([]:List Int)) 0) = some r:=h
 clear h
 obtain ⟨y272,hy272⟩:∃ y_:List Int,y_ = (([]:List Int)):=⟨_,rfl⟩
 replace H:(spec_l1Mul.l0 k l0 l1 y272 0) = some r:=by (try rw [hy272]);first|with_reducible exact H|with_reducible exact zS_ H|exact H
 have Ny272:=zA hy272
 clear hy272
 have H':=zA H
 clear H
 go_enter Try.func132,Try.ntmps132
 go_wp2_with (first|((with_reducible refine gate_dst (N:=7) rfl ?_);refine Kd.R_lit (Kd.int .i64) _ 3 ?hg (N:=7) ?hd (xs:=([]:List Int)) (inner:=[]) (ok:=fun _=>True) (okp:=fun _=>True) ?hr ?hp (fun _ hk=>hk) trivial (Below.refl _ _) (Nat.le_refl _) (by simp) ?_;(case hd=>rfl);(case hg=>rfl);(case hr=>first|(go_simp;done)|(go_simp;rfl));(case hp=>exact (Reps.none _ _));intro v273 w3 ho4 hb hg_ hnew_;clear hg_ hnew_;(first|rw [← Ny272.out] at ho4|(simp only [Int.reduceToNat] at ho4;rw [← Ny272.out] at ho4));have n0_:=zA (ze ho4 (zQ (by exact zB_ HB.out)));have n1_:=zA (zR (by exact zB_ HB.out) hb);clear HB;have HO274:=n0_;have HB:=n1_;clear n0_ n1_;clear hb ho4))
 go_loopg [5,6] k (fun kq v5 v6 w' => ∃ (x5_1:List Int) (x6_1:Int),v6 = .int .i64 x6_1∧Aside0 (spec_l1Mul.l0 kq l0 l1 x5_1 x6_1 = some r)∧Aside0 (kq≤k)∧Aside0 (Kd.R (Kd.int .i64) 3 w' w.heap.size (fun _=>True) v5 x5_1)∧Aside0 (Below w.heap.size w w'))
 case atStart=>exact ⟨(y272),(0),(by first|rfl|(simp;done)|(simp [*];done)),H',⟨Nat.le_refl _⟩,⟨by apply zR_;exact HO274.out⟩,⟨by exact zB_ HB.out⟩⟩
 case round =>
  clear H'
  (try clear c1);(try clear p2)
  obtain ⟨x5_1,x6_1,rfl,HA,HK1,HO_5,HB⟩:=hrel
  cases gk with
  | zero=>exact absurd HA.out (by simp [spec_l1Mul.l0])
  | succ k1 =>
   have H:=HA.out
   clear HA
   simp only [spec_l1Mul.l0] at H
   by_cases c5:x6_1 < (l0.length:Int)
   ·rw [if_pos c5] at H
    have c5b0:decide (x6_1 < (l0.length:Int)) = true:=zO c5
    clear c5
    by_cases c6:0≤x6_1
    ·rw [if_pos c6] at H
     have c6b0:decide (0≤x6_1) = true:=zO c6
     clear c6
     by_cases c7:0≤(rd l0 x6_1)
     ·rw [if_pos c7] at H
      have c7b0:decide (0≤(rd l0 x6_1)) = true:=zO c7
      clear c7
      by_cases c8:(rd l0 x6_1) < (l1.length:Int)
      ·rw [if_pos c8] at H
       have c8b0:decide ((rd l0 x6_1) < (l1.length:Int)) = true:=zO c8
       clear c8
       by_cases c9:x5_1.length < 17592186044416
       ·rw [if_pos c9] at H
        have LMc9:=zA c9
        clear c9
        obtain ⟨y277,hy277⟩:∃ y_:List Int,y_ = (x5_1 ++ [rd l1 (rd l0 x6_1)]):=⟨_,rfl⟩
        replace H:(spec_l1Mul.l0 k1 l0 l1 y277 (wrap64 (x6_1+1))) = some r:=by (try rw [hy277]);first|with_reducible exact H|with_reducible exact zS_ H|exact H
        have Ny277:=zA hy277
        clear hy277
        have H':=zA H
        clear H
        have p275:0≤(x6_1:Int):=zE (by with_reducible assumption)
        have q275:x6_1 < (l0.length:Int):=zE (by with_reducible assumption)
        obtain ⟨ad275,e275,hx275_0⟩:=Kd.at_int HR0.out x6_1 p275 q275
        cases e275
        replace hx275_0:=(HB.out.cell (zY w _ hx275_0)).trans hx275_0
        replace p275:=eq_true p275
        replace q275:=eq_true q275
        have p276:0≤((rd l0 x6_1):Int):=zE (by with_reducible assumption)
        have q276:(rd l0 x6_1) < (l1.length:Int):=zE (by with_reducible assumption)
        obtain ⟨ad276,e276,hx276_0⟩:=Kd.at_int HR1.out (rd l0 x6_1) p276 q276
        cases e276
        replace hx276_0:=(HB.out.cell (zY w _ hx276_0)).trans hx276_0
        replace p276:=eq_true p276
        replace q276:=eq_true q276
        go_wp2_with (first|((with_reducible refine gate_builtin (b:=.append) (xs:=#[.tmp 14,.tmp 22]) rfl ?_);at_builtin;refine Kd.R_append (Kd.int .i64) (w0:=w) w.heap.size rfl (.tmp 14) (.tmp 22) 23 3 (.int .i64 0) 8 rfl Try.underlying23 info3 rfl (by decide) (by omega) u5 x5_1 (rd l1 (rd l0 x6_1)) [.int .i64 (rd l1 (rd l0 x6_1))] (fun _=>True) (fun _=>False) rfl rfl ?aP (fun _ hk=>hk.elim) ?aF ?aO ?aB ?aS ?aL ?_;(case aP=>exact rfl);(case aB=>exact (by exact zB_ HB.out));(case aF=>exact (fun _ _=>trivial));(case aO=>exact (by apply zR_;exact HO_5.out));(case aS=>exact (zQ (by exact zB_ HB.out)));(case aL=>have:=LMc9.out;omega);intro v278 w10 ho hb hg hat;rw [← Ny277.out] at ho;have n0_:=zA (hb);have n1_:=zA (ho);clear HB;clear HO_5;have HB:=n0_;have HO279:=n1_;clear n0_ n1_;clear ho hb hg hat))
        go_roundg k1
        case measure=>have:=HK1.out;omega
        case rel=>exact ⟨(y277),(wrap64 (x6_1+1)),(by first|rfl|(simp;done)|(simp [*];done)),H',⟨by have:=HK1.out;omega⟩,⟨by apply zR_;exact HO279.out⟩,⟨by exact zB_ HB.out⟩⟩
       ·rw [if_neg c9] at H
        exact absurd H (by simp)
      ·rw [if_neg c8] at H
       exact absurd H (by simp)
     ·rw [if_neg c7] at H
      exact absurd H (by simp)
    ·rw [if_neg c6] at H
     exact absurd H (by simp)
   ·rw [if_neg c5] at H
    have c5b0:decide (x6_1 < (l0.length:Int)) = false:=zP c5
    clear c5
    obtain rfl:=zS H
    go_wp2
    go_ret
    exact ⟨_,by first|rfl|(simp [errW_none,errW_some] <;> rfl)|(simp [*,errW_none,errW_some] <;> rfl),by apply zR_;exact HO_5.out,by exact zB_ HB.out⟩

/-! ### spec_l2Faces: function 110 -/
def spec_l2Faces.f (k:Nat) (l0_0:List Int) (l0_1:List Int):Option (List Int):=(spec_l1Mul.f k l0_1 l0_0).bind fun t281=>(some t281)
theorem spec_l2Faces.mono:∀ a0 a1 k,LeO (spec_l2Faces.f k a0 a1) (spec_l2Faces.f (k+1) a0 a1):=by
 intro a0 a1 k
 unfold spec_l2Faces.f
 repeat' first
   | (with_reducible exact spec_l1Mul.mono _ _ _)
   | (with_reducible exact LeO.refl _)
   | (with_reducible exact za _)
   | (with_reducible refine zc ?_ ?_)
   | (with_reducible refine zb ?_ (fun _=>?_))
set_option maxHeartbeats 8000000 in
set_option maxRecDepth 100000 in
theorem spec_l2Faces.calls (k:Nat) (A0_0:Option Addr) (c0_0:Nat) (l0_0:List Int) (A0_1:Option Addr) (c0_1:Nat) (l0_1:List Int) (r:List Int) (w:World) (hr0_0:Kd.C (Kd.int .i64) w A0_0 l0_0.length l0_0) (hc0_0:l0_0.length≤c0_0) (hr0_1:Kd.C (Kd.int .i64) w A0_1 l0_1.length l0_1) (hc0_1:l0_1.length≤c0_1) (h:spec_l2Faces.f k l0_0 l0_1 = some r) :
  Calls Try.prog 110 #[.agg #[.slice A0_0 l0_0.length c0_0,.slice A0_1 l0_1.length c0_1]] w fun e w' => ∃ v0_:Value,e = .returned (v0_)∧Kd.R (Kd.int .i64) 3 w' w.heap.size (fun _=>True) v0_ r∧Below w.heap.size w w':=by
 have hu27:=Try.underlying27
 have HR0_0:=zA hr0_0
 have HC0_0:=zA hc0_0
 clear hr0_0 hc0_0
 have HR0_1:=zA hr0_1
 have HC0_1:=zA hc0_1
 clear hr0_1 hc0_1
 have HB:=zA (Below.refl w.heap.size w)
 have H:((spec_l1Mul.f k l0_1 l0_0).bind fun t281=>(some t281)) = some r:=h
 clear h
 replace H:=zz0 H
 obtain ⟨t281,A20,H⟩:=H
 try dsimp only at H
 have A2:=zA A20
 clear A20
 obtain rfl:=zS H
 go_enter Try.func110,Try.ntmps110
 go_wp2_with (first|((with_reducible refine gate_dst (N:=1) rfl ?_);refine box_event ?hg (N:=1) ?hd (cs:=#[.slice A0_0 l0_0.length c0_0,.slice A0_1 l0_1.length c0_1]) (t:=27) ?hr ?_;(case hd=>rfl);(case hg=>rfl);(case hr=>first|(go_simp;done)|(go_simp;rfl));intro gb280 hg w3 hbox hb;have n0_:=zA (zR (by exact zB_ HB.out) hb);have n1_:=zA (hbox);have n2_:=zA ((by rw [hg];exact (zQ (by exact zB_ HB.out)):w.heap.size≤gb280));have n3_:=zA ((by rw [hg];exact (zQ (by exact zB_ HB.out)):w.heap.size≤gb280));clear HB;have HB:=n0_;have BK280:=n1_;have GW280:=n2_;have GE280:=n3_;clear n0_ n1_ n2_ n3_;clear hb hbox hg;have hcz4_0:w3.cell? ⟨gb280,0,none⟩ = some (.slice A0_0 l0_0.length c0_0):=(zT BK280.out 0).trans rfl;have hcz4_1:w3.cell? ⟨gb280,1,none⟩ = some (.slice A0_1 l0_1.length c0_1):=(zT BK280.out 1).trans rfl;have hfz4_0:=zZ BK280.out 0;have hfz4_1:=zZ BK280.out 1)|((with_reducible refine gate_callee (f:=132) rfl ?_);refine goesL_ (some 7) rfl rfl Try.func132 (by kernel_rfl) rfl #[.slice A0_1 l0_1.length c0_1,.slice A0_0 l0_0.length c0_0] rfl (by (try simp only [zJ,zM,zN]);first|done|rfl|(simp only [zL,zK];rfl)) ?_;(with_reducible refine (spec_l1Mul.calls k _ _ l0_1 _ _ l0_0 t281 _ ?side1 ?side2 ?side3 ?side4 A2.out).mono ?_);(case side1=>repeat (first|exact (zW HR0_1.out HB.out)|(with_reducible exact HR0_1.out)|apply zC_));(case side2=>exact HC0_1.out);(case side3=>repeat (first|exact (zW HR0_0.out HB.out)|(with_reducible exact HR0_0.out)|apply zC_));(case side4=>exact HC0_0.out);rintro e w5 ⟨v282,rfl,ho0,hb⟩;refine ⟨_,rfl,?_⟩;have n0_:=zA (ze ho0 (zQ (by repeat (first|(with_reducible first|exact HB.out|apply zD|apply zB|apply zC|refine zF ?_ GE280.out)|exact HB.out))));have n1_:=zA (zX (g:=gb280) (o:=.cells #[.slice A0_0 l0_0.length c0_0,.slice A0_1 l0_1.length c0_1] 27 (0,0)) (by (with_reducible repeat (first|refine zG ?_ _|refine zI ?_|refine zH ?_ _));exact BK280.out) hb);have n2_:=zA (zR (by repeat (first|(with_reducible first|exact HB.out|apply zD|apply zB|apply zC|refine zF ?_ GE280.out)|exact HB.out)) hb);clear BK280;clear HB;have HO283:=n0_;have BK280:=n1_;have HB:=n2_;clear n0_ n1_ n2_;(try clear hb);(try clear hb2);(try clear hk);(try clear hi);(try clear ho0)))
 go_ret
 exact ⟨_,by first|rfl|(simp [errW_none,errW_some] <;> rfl)|(simp [*,errW_none,errW_some] <;> rfl),by apply zR_;exact HO283.out,by repeat (first|(with_reducible first|exact HB.out|apply zD|apply zB|apply zC|refine zF ?_ GE280.out)|exact HB.out)⟩

/-! ### spec_l2Counts: function 109 -/
def spec_l2Counts.f (k:Nat) (l0_0:List Int) (l0_1:List Int):Option (List Int):=(spec_l1Cycles.f k l0_0).bind fun t285=>((spec_l2Faces.f k l0_0 l0_1).bind fun t288=>((spec_l1Cycles.f k t288).bind fun t291=>(some (([(t285.length:Int),wrap64 ((l0_1.length:Int) / 2),(t291.length:Int)]:List Int)))))
theorem spec_l2Counts.mono:∀ a0 a1 k,LeO (spec_l2Counts.f k a0 a1) (spec_l2Counts.f (k+1) a0 a1):=by
 intro a0 a1 k
 unfold spec_l2Counts.f
 repeat' first
   | (with_reducible exact spec_l1Cycles.mono _ _)
   | (with_reducible exact spec_l2Faces.mono _ _ _)
   | (with_reducible exact LeO.refl _)
   | (with_reducible exact za _)
   | (with_reducible refine zc ?_ ?_)
   | (with_reducible refine zb ?_ (fun _=>?_))
def spec_l2Counts.T1:Bool × List (List Nat × List Nat):=(true,[([],[]),([0],[0]),([1],[1]),([2],[2]),([],[]),([4],[4]),([5],[5]),([6],[6]),([],[]),([8,2],[8]),([9,9],[9]),([10],[10]),([3,7,11],[3,7,11]),([12,10,0,1,2,3,4,5,6,7,8,9,10,11,12],[12])])
def spec_l2Counts.B1:List Nat:=[0,1,3,7,0,16,48,112,0,263,775,1799,4095,8191]
theorem spec_l2Counts.tab1:rtab .any (opsOf Try.f109 1) = spec_l2Counts.T1:=by kernel_rfl
theorem spec_l2Counts.bits1:waitsOk spec_l2Counts.T1.2 spec_l2Counts.B1 = true:=by kernel_rfl
set_option maxHeartbeats 8000000 in
set_option maxRecDepth 100000 in
theorem spec_l2Counts.calls (k:Nat) (A0_0:Option Addr) (c0_0:Nat) (l0_0:List Int) (A0_1:Option Addr) (c0_1:Nat) (l0_1:List Int) (r:List Int) (w:World) (hr0_0:Kd.C (Kd.int .i64) w A0_0 l0_0.length l0_0) (hc0_0:l0_0.length≤c0_0) (hr0_1:Kd.C (Kd.int .i64) w A0_1 l0_1.length l0_1) (hc0_1:l0_1.length≤c0_1) (h:spec_l2Counts.f k l0_0 l0_1 = some r) :
  Calls Try.prog 109 #[.agg #[.slice A0_0 l0_0.length c0_0,.slice A0_1 l0_1.length c0_1]] w fun e w' => ∃ v0_:Value,e = .returned (v0_)∧Kd.R (Kd.int .i64) 3 w' w.heap.size (fun _=>True) v0_ r∧Below w.heap.size w w':=by
 have hu27:=Try.underlying27
 have HR0_0:=zA hr0_0
 have HC0_0:=zA hc0_0
 clear hr0_0 hc0_0
 have HR0_1:=zA hr0_1
 have HC0_1:=zA hc0_1
 clear hr0_1 hc0_1
 have HB:=zA (Below.refl w.heap.size w)
 have H:((spec_l1Cycles.f k l0_0).bind fun t285=>((spec_l2Faces.f k l0_0 l0_1).bind fun t288=>((spec_l1Cycles.f k t288).bind fun t291=>(some (([(t285.length:Int),wrap64 ((l0_1.length:Int) / 2),(t291.length:Int)]:List Int)))))) = some r:=h
 clear h
 replace H:=zz0 H
 obtain ⟨t285,A20,H⟩:=H
 try dsimp only at H
 have A2:=zA A20
 clear A20
 replace H:=zz0 H
 obtain ⟨t288,A30,H⟩:=H
 try dsimp only at H
 have A3:=zA A30
 clear A30
 replace H:=zz0 H
 obtain ⟨t291,A40,H⟩:=H
 try dsimp only at H
 have A4:=zA A40
 clear A40
 obtain ⟨y294,hy294⟩:∃ y_:List Int,y_ = (([(t285.length:Int),wrap64 ((l0_1.length:Int) / 2),(t291.length:Int)]:List Int)):=⟨_,rfl⟩
 replace H:(some y294) = some r:=by (try rw [hy294]);first|with_reducible exact H|with_reducible exact zS_ H|exact H
 have Ny294:=zA hy294
 clear hy294
 obtain rfl:=zS H
 go_enter Try.func109,Try.ntmps109
 try go_wp2_with (first|((with_reducible refine gate_dst (N:=1) rfl ?_);refine box_event ?hg (N:=1) ?hd (cs:=#[.slice A0_0 l0_0.length c0_0,.slice A0_1 l0_1.length c0_1]) (t:=27) ?hr ?_;(case hd=>rfl);(case hg=>rfl);(case hr=>first|(go_simp;done)|(go_simp;rfl));intro gb284 hg w5 hbox hb;have n0_:=zA (zR (by exact zB_ HB.out) hb);have n1_:=zA (hbox);have n2_:=zA ((by rw [hg];exact (zQ (by exact zB_ HB.out)):w.heap.size≤gb284));have n3_:=zA ((by rw [hg];exact (zQ (by exact zB_ HB.out)):w.heap.size≤gb284));clear HB;have HB:=n0_;have BK284:=n1_;have GW284:=n2_;have GE284:=n3_;clear n0_ n1_ n2_ n3_;clear hb hbox hg))
 have n0_:=zA (zI BK284.out)
 have n1_:=zA (zC HB.out)
 clear BK284 HB
 have BK284:=n0_
 have HB:=n1_
 clear n0_ n1_
 refine start_ (n:=14) (S:=fun w'=>w'.cell? ⟨gb284,0,none⟩ = some (.slice A0_0 l0_0.length c0_0)∧w'.cell? ⟨gb284,1,none⟩ = some (.slice A0_1 l0_1.length c0_1)) (ds:=[]) #[zf,zf,zf,zf,zf,zf,zf,zf,zf,zf,zf,zf,zf,zf] (by kernel_rfl) rfl rfl ⟨(zT BK284.out 0).trans rfl,(zT BK284.out 1).trans rfl⟩ (fun hHeld=>?_);refine with_tabW spec_l2Counts.tab1 spec_l2Counts.bits1 (fun HT_ HW_=>?_)
 generalize w5.drew = w6 at BK284 HB hHeld ⊢
 refine pure_ (i:=0) (N:=some 3) (v:=?_) (a':=?_) #[zt,zf,zf,zf,zf,zf,zf,zf,zf,zf,zf,zf,zf,zf] rfl rfl (any_of HT_.out (by kernel_rfl)) (fun _ _ _ h=>h) (Or.inl ⟨by rfl,?_⟩) ?_ ?_
 rotate_left
 ·intro w'
  go_simp
  with_reducible rfl
 rotate_left
 ·simp only [Act.put,zP_,i64_w]
  rfl
 refine pure_ (i:=4) (N:=some 7) (v:=?_) (a':=?_) #[zt,zf,zf,zf,zt,zf,zf,zf,zf,zf,zf,zf,zf,zf] rfl rfl (any_of HT_.out (by kernel_rfl)) (fun _ _ _ h=>h) (Or.inl ⟨by rfl,?_⟩) ?_ ?_
 rotate_left
 ·intro w'
  go_simp
  with_reducible rfl
 rotate_left
 ·simp only [Act.put,zP_,i64_w]
  rfl
 refine take_ (i:=1) (N:=some 4) (v:=?_) (a':=?_) #[zt,zt,zf,zf,zt,zf,zf,zf,zf,zf,zf,zf,zf,zf] rfl rfl (take_ofW HT_.out HW_.out (by kernel_rfl)) (fun _ _ _ h=>h) (Or.inl ⟨by rfl,?_⟩) hHeld ?_ ?_
 rotate_left
 ·rintro w' ⟨s0,s1⟩
  go_simp
  with_reducible rfl
 rotate_left
 ·simp only [Act.put,zP_,i64_w]
  rfl
 refine take_ (i:=5) (N:=some 8) (v:=?_) (a':=?_) #[zt,zt,zf,zf,zt,zt,zf,zf,zf,zf,zf,zf,zf,zf] rfl rfl (take_ofW HT_.out HW_.out (by kernel_rfl)) (fun _ _ _ h=>h) (Or.inl ⟨by rfl,?_⟩) hHeld ?_ ?_
 rotate_left
 ·rintro w' ⟨s0,s1⟩
  go_simp
  with_reducible rfl
 rotate_left
 ·simp only [Act.put,zP_,i64_w]
  rfl
 refine pure_ (i:=6) (N:=some 9) (v:=?_) (a':=?_) #[zt,zt,zf,zf,zt,zt,zt,zf,zf,zf,zf,zf,zf,zf] rfl rfl (any_of HT_.out (by kernel_rfl)) (fun _ _ _ h=>h) (Or.inl ⟨by rfl,?_⟩) ?_ ?_
 rotate_left
 ·intro w'
  go_simp
  with_reducible rfl
 rotate_left
 ·simp only [Act.put,zP_,i64_w]
  rfl
 refine pure_ (i:=7) (N:=some 10) (v:=?_) (a':=?_) #[zt,zt,zf,zf,zt,zt,zt,zt,zf,zf,zf,zf,zf,zf] rfl rfl (any_of HT_.out (by kernel_rfl)) (fun _ _ _ h=>h) (Or.inl ⟨by rfl,?_⟩) ?_ ?_
 rotate_left
 ·intro w'
  go_simp
  with_reducible rfl
 rotate_left
 ·simp only [Act.put,zP_,i64_w]
  rfl
 refine take_ (i:=8) (N:=some 11) (v:=?_) (a':=?_) #[zt,zt,zf,zf,zt,zt,zt,zt,zt,zf,zf,zf,zf,zf] rfl rfl (take_ofW HT_.out HW_.out (by kernel_rfl)) (fun _ _ _ h=>h) (Or.inl ⟨by rfl,?_⟩) hHeld ?_ ?_
 rotate_left
 ·rintro w' ⟨s0,s1⟩
  go_simp
  with_reducible rfl
 rotate_left
 ·simp only [Act.put,zP_,i64_w]
  rfl
 refine one_ (i:=2) (N:=some 5) #[zt,zt,zt,zf,zt,zt,zt,zt,zt,zf,zf,zf,zf,zf] rfl rfl (one_of HT_.out (by kernel_rfl)) (by decide) (fun K hK=>?_)
 refine goes_ Try.func83 (by kernel_rfl) rfl #[.slice A0_0 l0_0.length c0_0] (by rfl) rfl rfl (by (try simp only [zJ,zM,zN]);first|done|rfl|(simp only [zL,zK];rfl)) ?_
 with_reducible refine (spec_l1Cycles.calls k _ _ l0_0 t285 _ ?side1 ?side2 A2.out).mono ?_
 (case side1=>repeat (first|exact (zW HR0_0.out HB.out)|(with_reducible exact HR0_0.out)|apply zC_))
 (case side2=>exact HC0_0.out)
 rintro e w7 ⟨v286,rfl,ho0,hb⟩
 refine ⟨_,rfl,?_⟩
 have n0_:=zA (Kd.S_lower ho0 (zQ (by repeat (first|(with_reducible first|exact HB.out|apply zD|apply zB|apply zC|refine zF ?_ GE284.out)|exact HB.out))))
 have n1_:=zA (zX (g:=gb284) (o:=.cells #[.slice A0_0 l0_0.length c0_0,.slice A0_1 l0_1.length c0_1] 27 (0,0)) (by (with_reducible repeat (first|refine zG ?_ _|refine zI ?_|refine zH ?_ _));exact BK284.out) hb)
 have n2_:=zA (zR (by repeat (first|(with_reducible first|exact HB.out|apply zD|apply zB|apply zC|refine zF ?_ GE284.out)|exact HB.out)) hb)
 clear BK284 HB
 have HO287:=n0_
 have BK284:=n1_
 have HB:=n2_
 clear n0_ n1_ n2_
 (try clear hb);(try clear hb2);(try clear hk);(try clear hi);(try clear ho0)
 obtain ⟨Ao8,co8,eo8⟩:=Kd.S_slice HO287.out
 (first|subst eo8|(injection eo8 with f1_ f2_ f3_;have f4_:=f1_.symm;have f5_:=f3_.symm;clear f1_ f2_ f3_;subst f4_;subst f5_))
 refine hK.out _ _ ⟨(zT BK284.out 0).trans rfl,(zT BK284.out 1).trans rfl⟩ (fun hHeld=>?_)
 clear hK K
 refine norm_ (a':=?_) ?_ ?_
 rotate_left
 ·show Act.put _ (some 5) _ = _
  simp only [Act.put,zP_,i64_w]
  rfl
 refine pure_ (i:=3) (N:=some 6) (v:=?_) (a':=?_) #[zt,zt,zt,zt,zt,zt,zt,zt,zt,zf,zf,zf,zf,zf] rfl rfl (any_of HT_.out (by kernel_rfl)) (fun _ _ _ h=>h) (Or.inl ⟨by rfl,?_⟩) ?_ ?_
 rotate_left
 ·intro w'
  go_simp
  with_reducible rfl
 rotate_left
 ·simp only [Act.put,zP_,i64_w]
  rfl
 refine one_ (i:=9) (N:=some 12) #[zt,zt,zt,zt,zt,zt,zt,zt,zt,zt,zf,zf,zf,zf] rfl rfl (one_of HT_.out (by kernel_rfl)) (by decide) (fun K hK=>?_)
 refine goes_ Try.func110 (by kernel_rfl) rfl #[.agg #[.slice A0_0 l0_0.length c0_0,.slice A0_1 l0_1.length c0_1]] (by rfl) rfl rfl (by (try simp only [zJ,zM,zN]);first|done|rfl|(simp only [zL,zK];rfl)) ?_
 with_reducible refine (spec_l2Faces.calls k _ _ l0_0 _ _ l0_1 t288 _ ?side1 ?side2 ?side3 ?side4 A3.out).mono ?_
 (case side1=>repeat (first|exact (zW HR0_0.out HB.out)|(with_reducible exact HR0_0.out)|apply zC_))
 (case side2=>exact HC0_0.out)
 (case side3=>repeat (first|exact (zW HR0_1.out HB.out)|(with_reducible exact HR0_1.out)|apply zC_))
 (case side4=>exact HC0_1.out)
 rintro e w9 ⟨v289,rfl,ho0,hb⟩
 refine ⟨_,rfl,?_⟩
 have n0_:=zA (Kd.S_elder' (by (with_reducible repeat (first|apply Kd.S_alloc|apply Kd.S_drewN|apply Kd.S_drew));exact HO287.out) (zd ho0) hb)
 have n1_:=zA (ze ho0 (zQ (by repeat (first|(with_reducible first|exact HB.out|apply zD|apply zB|apply zC|refine zF ?_ GE284.out)|exact HB.out))))
 have n2_:=zA (zX (g:=gb284) (o:=.cells #[.slice A0_0 l0_0.length c0_0,.slice A0_1 l0_1.length c0_1] 27 (0,0)) (by (with_reducible repeat (first|refine zG ?_ _|refine zI ?_|refine zH ?_ _));exact BK284.out) hb)
 have n3_:=zA (zR (by repeat (first|(with_reducible first|exact HB.out|apply zD|apply zB|apply zC|refine zF ?_ GE284.out)|exact HB.out)) hb)
 clear HO287 BK284 HB
 have HO287:=n0_
 have HO290:=n1_
 have BK284:=n2_
 have HB:=n3_
 clear n0_ n1_ n2_ n3_
 (try clear hb);(try clear hb2);(try clear hk);(try clear hi);(try clear ho0)
 obtain ⟨Ao10,co10,eo10⟩:=zg HO290.out
 (first|subst eo10|(injection eo10 with f1_ f2_ f3_;have f4_:=f1_.symm;have f5_:=f3_.symm;clear f1_ f2_ f3_;subst f4_;subst f5_))
 refine hK.out _ _ ⟨(zT BK284.out 0).trans rfl,(zT BK284.out 1).trans rfl⟩ (fun hHeld=>?_)
 clear hK K
 refine norm_ (a':=?_) ?_ ?_
 rotate_left
 ·show Act.put _ (some 12) _ = _
  simp only [Act.put,zP_,i64_w]
  rfl
 refine one_ (i:=10) (N:=some 13) #[zt,zt,zt,zt,zt,zt,zt,zt,zt,zt,zt,zf,zf,zf] rfl rfl (one_of HT_.out (by kernel_rfl)) (by decide) (fun K hK=>?_)
 refine goes_ Try.func83 (by kernel_rfl) rfl #[.slice Ao10 t288.length co10] (by rfl) rfl rfl (by (try simp only [zJ,zM,zN]);first|done|rfl|(simp only [zL,zK];rfl)) ?_
 with_reducible refine (spec_l1Cycles.calls k _ _ t288 t291 _ ?side1 ?side2 A4.out).mono ?_
 (case side1=>repeat (first|exact (zU HO290.out).2.2|apply zC_))
 (case side2=>exact (zU HO290.out).2.1)
 rintro e w11 ⟨v292,rfl,ho0,hb⟩
 refine ⟨_,rfl,?_⟩
 have n0_:=zA (Kd.S_elder' (by (with_reducible repeat (first|apply Kd.S_alloc|apply Kd.S_drewN|apply Kd.S_drew));exact HO287.out) (Kd.S_base ho0) hb)
 have n1_:=zA (Kd.R_below (by apply zR_;exact HO290.out) hb)
 have n2_:=zA (Kd.S_lower (Kd.S_new' (Kd.S_new' ho0 (Kd.S_lt (by (with_reducible repeat (first|apply Kd.S_alloc|apply Kd.S_drewN|apply Kd.S_drew));exact HO287.out))) (Kd.R_lt (by apply zR_;exact HO290.out))) (zQ (by repeat (first|(with_reducible first|exact HB.out|apply zD|apply zB|apply zC|refine zF ?_ GE284.out)|exact HB.out))))
 have n3_:=zA (zX (g:=gb284) (o:=.cells #[.slice A0_0 l0_0.length c0_0,.slice A0_1 l0_1.length c0_1] 27 (0,0)) (by (with_reducible repeat (first|refine zG ?_ _|refine zI ?_|refine zH ?_ _));exact BK284.out) hb)
 have n4_:=zA (zR (by repeat (first|(with_reducible first|exact HB.out|apply zD|apply zB|apply zC|refine zF ?_ GE284.out)|exact HB.out)) hb)
 clear HO287 HO290 BK284 HB
 have HO287:=n0_
 have HO290:=n1_
 have HO293:=n2_
 have BK284:=n3_
 have HB:=n4_
 clear n0_ n1_ n2_ n3_ n4_
 (try clear hb);(try clear hb2);(try clear hk);(try clear hi);(try clear ho0)
 obtain ⟨Ao12,co12,eo12⟩:=Kd.S_slice HO293.out
 (first|subst eo12|(injection eo12 with f1_ f2_ f3_;have f4_:=f1_.symm;have f5_:=f3_.symm;clear f1_ f2_ f3_;subst f4_;subst f5_))
 refine hK.out _ _ ⟨(zT BK284.out 0).trans rfl,(zT BK284.out 1).trans rfl⟩ (fun hHeld=>?_)
 clear hK K
 refine norm_ (a':=?_) ?_ ?_
 rotate_left
 ·show Act.put _ (some 13) _ = _
  simp only [Act.put,zP_,i64_w]
  rfl
 refine pure_ (i:=11) (N:=some 14) (v:=?_) (a':=?_) #[zt,zt,zt,zt,zt,zt,zt,zt,zt,zt,zt,zt,zf,zf] rfl rfl (any_of HT_.out (by kernel_rfl)) (fun _ _ _ h=>h) (Or.inl ⟨by rfl,?_⟩) ?_ ?_
 rotate_left
 ·intro w'
  go_simp
  with_reducible rfl
 rotate_left
 ·simp only [Act.put,zP_,i64_w]
  rfl
 refine one_ (i:=12) (N:=some 15) #[zt,zt,zt,zt,zt,zt,zt,zt,zt,zt,zt,zt,zt,zf] rfl rfl (one_of HT_.out (by kernel_rfl)) (by decide) (fun K hK=>?_)
 refine Kd.R_lit_step (Kd.int .i64) _ 3 ?hg (N:=15) ?hd (xs:=([(t285.length:Int),wrap64 ((l0_1.length:Int) / 2),(t291.length:Int)]:List Int)) (inner:=[.int .i64 (t285.length:Int),.int .i64 (wrap64 ((l0_1.length:Int) / 2)),.int .i64 (t291.length:Int)]) (ok:=fun _=>True) (okp:=fun _=>True) ?hr ?hp (fun _ hk=>hk) trivial (Below.refl _ _) (Nat.le_refl _) (by simp) ?_;(case hd=>rfl);(case hg=>rfl);(case hr=>first|(go_simp;done)|(go_simp;rfl));(case hp=>exact (Reps.one (show Kd.M (Kd.int .i64) _ _ _ (t285.length:Int) [.int .i64 (t285.length:Int)] from rfl) (Reps.one (show Kd.M (Kd.int .i64) _ _ _ (wrap64 ((l0_1.length:Int) / 2)) [.int .i64 (wrap64 ((l0_1.length:Int) / 2))] from rfl) (Reps.one (show Kd.M (Kd.int .i64) _ _ _ (t291.length:Int) [.int .i64 (t291.length:Int)] from rfl) (Reps.none _ _)))))
 intro v295 w13 ho14 hb hg_ hnew_
 clear hg_ hnew_
 (first|rw [← Ny294.out] at ho14|(simp only [Int.reduceToNat] at ho14;rw [← Ny294.out] at ho14))
 have n0_:=zA (Kd.S_elder' (by (with_reducible repeat (first|apply Kd.S_alloc|apply Kd.S_drewN|apply Kd.S_drew));exact HO287.out) (zd ho14) hb)
 have n1_:=zA (Kd.R_elder' (by apply zR_;exact HO290.out) (zd ho14) hb)
 have n2_:=zA (Kd.S_elder' (by (with_reducible repeat (first|apply Kd.S_alloc|apply Kd.S_drewN|apply Kd.S_drew));exact HO293.out) (zd ho14) hb)
 have n3_:=zA (ze (zh ho14 (Kd.R_lt (by apply zR_;exact HO290.out))) (zQ (by repeat (first|(with_reducible first|exact HB.out|apply zD|apply zB|apply zC|refine zF ?_ GE284.out)|exact HB.out))))
 have n4_:=zA (zX (g:=gb284) (o:=.cells #[.slice A0_0 l0_0.length c0_0,.slice A0_1 l0_1.length c0_1] 27 (0,0)) (by (with_reducible repeat (first|refine zG ?_ _|refine zI ?_|refine zH ?_ _));exact BK284.out) hb)
 have n5_:=zA (zR (by repeat (first|(with_reducible first|exact HB.out|apply zD|apply zB|apply zC|refine zF ?_ GE284.out)|exact HB.out)) hb)
 clear HO287 HO290 HO293 BK284 HB
 have HO287:=n0_
 have HO290:=n1_
 have HO293:=n2_
 have HO296:=n3_
 have BK284:=n4_
 have HB:=n5_
 clear n0_ n1_ n2_ n3_ n4_ n5_ hb ho14
 refine hK.out _ _ ⟨(zT BK284.out 0).trans rfl,(zT BK284.out 1).trans rfl⟩ (fun hHeld=>?_)
 clear hK K
 refine norm_ (a':=?_) ?_ ?_
 rotate_left
 ·show Act.put _ (some 15) _ = _
  simp only [Act.put,zP_,i64_w]
  rfl
 refine pure_ (i:=13) (N:=some 2) (v:=?_) (a':=?_) #[zt,zt,zt,zt,zt,zt,zt,zt,zt,zt,zt,zt,zt,zt] rfl rfl (any_of HT_.out (by kernel_rfl)) (fun _ _ _ h=>h) (Or.inl ⟨by rfl,?_⟩) ?_ ?_
 rotate_left
 ·intro w'
  go_simp
  with_reducible rfl
 rotate_left
 ·simp only [Act.put,zP_,i64_w]
  rfl
 refine done_ (done_of HT_.out (by kernel_rfl)) ?_
 try go_wp2
 go_ret
 exact ⟨_,by first|rfl|(simp [errW_none,errW_some] <;> rfl)|(simp [*,errW_none,errW_some] <;> rfl),by apply zR_;exact zV HO296.out (fun _ hk=>trivial),by repeat (first|(with_reducible first|exact HB.out|apply zD|apply zB|apply zC|refine zF ?_ GE284.out)|exact HB.out)⟩

/-! ### spec_l1Back: function 133 -/
def spec_l1Back.l0:Nat→List Int→List Int→Int→Option (List Int)
 | 0,_,_,_=>none
 | k+1,x0,x3,x4=>if x4 < (x0.length:Int) then (if 0≤x4 then (if 0≤(rd x0 x4) then (if (rd x0 x4) < (x3.length:Int) then (spec_l1Back.l0 k x0 (x3.set ((rd x0 x4):Int).toNat x4) (wrap64 (x4+1))) else (none)) else (none)) else (none)) else (some x3)
def spec_l1Back.f (k:Nat) (l0:List Int):Option (List Int):=if 0≤(l0.length:Int) then (if ((l0.length:Int):Int).toNat≤35184372088832 then (spec_l1Back.l0 k l0 (List.replicate ((l0.length:Int):Int).toNat 0) 0) else (none)) else (none)
theorem spec_l1Back.mono_l:∀ k,(∀ y0 y1 y2,LeO (spec_l1Back.l0 k y0 y1 y2) (spec_l1Back.l0 (k+1) y0 y1 y2))
 | 0=>fun _ _ _ r h=>by simp [spec_l1Back.l0] at h
 | k+1=>by
  have ih0:=spec_l1Back.mono_l k
  ·intro y0 y1 y2
   unfold spec_l1Back.l0
   repeat' first
   | (with_reducible exact ih0 _ _ _)
   | (with_reducible exact LeO.refl _)
   | (with_reducible exact za _)
   | (with_reducible refine zc ?_ ?_)
   | (with_reducible refine zb ?_ (fun _=>?_))
theorem spec_l1Back.mono:∀ a0 k,LeO (spec_l1Back.f k a0) (spec_l1Back.f (k+1) a0):=by
 intro a0 k
 have ih0:=spec_l1Back.mono_l k
 unfold spec_l1Back.f
 repeat' first
   | (with_reducible exact ih0 _ _ _)
   | (with_reducible exact LeO.refl _)
   | (with_reducible exact za _)
   | (with_reducible refine zc ?_ ?_)
   | (with_reducible refine zb ?_ (fun _=>?_))
set_option maxHeartbeats 8000000 in
set_option maxRecDepth 100000 in
theorem spec_l1Back.calls (k:Nat) (A0:Option Addr) (c0:Nat) (l0:List Int) (r:List Int) (w:World) (hr0:Kd.C (Kd.int .i64) w A0 l0.length l0) (hc0:l0.length≤c0) (h:spec_l1Back.f k l0 = some r) :
  Calls Try.prog 133 #[.slice A0 l0.length c0] w fun e w' => ∃ v0_:Value,e = .returned (v0_)∧Kd.R (Kd.int .i64) 3 w' w.heap.size (fun _=>True) v0_ r∧Below w.heap.size w w':=by
 have HR0:=zA hr0
 have HC0:=zA hc0
 clear hr0 hc0
 have HB:=zA (Below.refl w.heap.size w)
 have H:(if 0≤(l0.length:Int) then (if ((l0.length:Int):Int).toNat≤35184372088832 then (spec_l1Back.l0 k l0 (List.replicate ((l0.length:Int):Int).toNat 0) 0) else (none)) else (none)) = some r:=h
 clear h
 by_cases c2:0≤(l0.length:Int)
 ·rw [if_pos c2] at H
  have c2b0:=eq_true c2
  have c2b1:decide (0≤(l0.length:Int)) = true:=zO c2
  clear c2
  by_cases c3:((l0.length:Int):Int).toNat≤35184372088832
  ·rw [if_pos c3] at H
   have c3b0:=eq_true c3
   have c3b1:decide (((l0.length:Int):Int).toNat≤35184372088832) = true:=zO c3
   clear c3
   obtain ⟨y297,hy297⟩:∃ y_:List Int,y_ = (List.replicate ((l0.length:Int):Int).toNat 0):=⟨_,rfl⟩
   replace H:(spec_l1Back.l0 k l0 y297 0) = some r:=by (try rw [hy297]);first|with_reducible exact H|with_reducible exact zS_ H|exact H
   have Ny297:=zA hy297
   clear hy297
   have H':=zA H
   clear H
   go_enter Try.func133,Try.ntmps133
   go_wp2_with (first|((with_reducible refine gate_dst (N:=7) rfl ?_);refine Kd.R_make (Kd.int .i64) _ 3 rfl (N:=7) rfl 23 _ _ rfl (l0.length:Int) rfl rfl Try.underlying23 (.int .i64 0) 8 info3 rfl (by decide) (by omega) 0 (ok:=fun _=>True) (okp:=fun _=>True) rfl (fun _ hk=>hk) trivial (zE (by with_reducible assumption)) (Nat.le_trans (Nat.mul_le_mul_right _ (zE (by with_reducible assumption):(l0.length:Int).toNat≤35184372088832)) (by omega)) (Below.refl _ _) (Nat.le_refl _) ?_;intro v298 w4 ho5 hb hg_ hnew_;clear hg_ hnew_;(first|rw [← Ny297.out] at ho5|(simp only [Int.reduceToNat] at ho5;rw [← Ny297.out] at ho5));have n0_:=zA (ze ho5 (zQ (by exact zB_ HB.out)));have n1_:=zA (zR (by exact zB_ HB.out) hb);clear HB;have HO299:=n0_;have HB:=n1_;clear n0_ n1_;clear hb ho5))
   go_loopg [4] k (fun kq v4 w' => ∃ (x3_1:List Int) (x4_1:Int),v4 = .int .i64 x4_1∧Aside0 (spec_l1Back.l0 kq l0 x3_1 x4_1 = some r)∧Aside0 (kq≤k)∧Aside0 (Kd.R (Kd.int .i64) 3 w' w.heap.size (fun _=>True) v298 x3_1)∧Aside0 (Below w.heap.size w w'))
   case atStart=>exact ⟨(y297),(0),(by first|rfl|(simp;done)|(simp [*];done)),H',⟨Nat.le_refl _⟩,⟨by apply zR_;exact HO299.out⟩,⟨by exact zB_ HB.out⟩⟩
   case round =>
    clear H'
    (try clear c1);(try clear c2);(try clear c2b0);(try clear c2b1);(try clear p2);(try clear c3);(try clear c3b0);(try clear c3b1)
    obtain ⟨x3_1,x4_1,rfl,HA,HK1,HO_3,HB⟩:=hrel
    cases gk with
    | zero=>exact absurd HA.out (by simp [spec_l1Back.l0])
    | succ k1 =>
     have H:=HA.out
     clear HA
     simp only [spec_l1Back.l0] at H
     by_cases c6:x4_1 < (l0.length:Int)
     ·rw [if_pos c6] at H
      have c6b0:decide (x4_1 < (l0.length:Int)) = true:=zO c6
      clear c6
      by_cases c7:0≤x4_1
      ·rw [if_pos c7] at H
       have c7b0:decide (0≤x4_1) = true:=zO c7
       clear c7
       by_cases c8:0≤(rd l0 x4_1)
       ·rw [if_pos c8] at H
        have c8b0:decide (0≤(rd l0 x4_1)) = true:=zO c8
        clear c8
        by_cases c9:(rd l0 x4_1) < (x3_1.length:Int)
        ·rw [if_pos c9] at H
         have c9b0:decide ((rd l0 x4_1) < (x3_1.length:Int)) = true:=zO c9
         clear c9
         obtain ⟨y301,hy301⟩:∃ y_:List Int,y_ = (x3_1.set ((rd l0 x4_1):Int).toNat x4_1):=⟨_,rfl⟩
         replace H:(spec_l1Back.l0 k1 l0 y301 (wrap64 (x4_1+1))) = some r:=by (try rw [hy301]);first|with_reducible exact H|with_reducible exact zS_ H|exact H
         have Ny301:=zA hy301
         clear hy301
         have H':=zA H
         clear H
         have p300:0≤(x4_1:Int):=zE (by with_reducible assumption)
         have q300:x4_1 < (l0.length:Int):=zE (by with_reducible assumption)
         obtain ⟨ad300,e300,hx300_0⟩:=Kd.at_int HR0.out x4_1 p300 q300
         cases e300
         replace hx300_0:=(HB.out.cell (zY w _ hx300_0)).trans hx300_0
         replace p300:=eq_true p300
         replace q300:=eq_true q300
         have p10:0≤((rd l0 x4_1):Int):=zE (by with_reducible assumption)
         have q10:((rd l0 x4_1):Int) < ((x3_1.length:Int):Int):=zE (by with_reducible assumption)
         obtain ⟨go10,co10,eo10,gb10,gl10,cl10,HG10⟩:=Kd.R_form HO_3.out (by omega)
         (first|cases eo10|(injection eo10 with ea_ en_ ec_;(first|subst ea_|(injection ea_ with ea_;subst ea_));subst ec_;clear en_))
         have GB10:=zA gb10
         have GG10:=zA HG10
         clear gb10 gl10 HG10
         obtain ⟨hx10_0,hf10_0⟩:=Kd.R_celln 0 HO_3.out ((rd l0 x4_1):Int) p10 q10
         replace p10:=eq_true p10
         replace q10:=eq_true q10
         have HP11:=Kd.R_putg HO_3.out ((rd l0 x4_1):Int) x4_1
         go_wp2_with (first|((with_reducible refine gate_store (t:=3) (p:=20) rfl ?_);refine store_event (t:=3) (p:=20) (v:=?vo_w12) (w1:=(wr.setCell ⟨go10,((rd l0 x4_1):Int).toNat,none⟩ (.int .i64 x4_1))) ?hg ?ho ?hn ?hr ?_;(case ho=>rfl);(case hg=>rfl);(case hn=>rfl);(case hr=>first|(go_simp;done)|(go_simp;rfl));intro w12 hw;have hg:wr.grownBy w12 (some go10):=(by rw [hw];exact HP11.2);have hp_:Kd.R (Kd.int .i64) 3 w12 w.heap.size (fun _=>True) (.slice (some ⟨go10,0,none⟩) x3_1.length co10) y301:=(by rw [hw,Ny301.out];exact HP11.1);clear HP11;have n0_:=zA (hp_);have n1_:=zA ((by rw [hw];exact zF (HB.out) GB10.out:Below w.heap.size w w12));clear HO_3;clear HB;have HO_3:=n0_;have HB:=n1_;clear n0_ n1_;clear hg hw hp_))
         go_roundg k1
         case measure=>have:=HK1.out;omega
         case rel=>exact ⟨(y301),(wrap64 (x4_1+1)),(by first|rfl|(simp;done)|(simp [*];done)),H',⟨by have:=HK1.out;omega⟩,⟨by apply zR_;exact HO_3.out⟩,⟨by exact zB_ HB.out⟩⟩
        ·rw [if_neg c9] at H
         exact absurd H (by simp)
       ·rw [if_neg c8] at H
        exact absurd H (by simp)
      ·rw [if_neg c7] at H
       exact absurd H (by simp)
     ·rw [if_neg c6] at H
      have c6b0:decide (x4_1 < (l0.length:Int)) = false:=zP c6
      clear c6
      obtain rfl:=zS H
      go_wp2
      go_ret
      exact ⟨_,by first|rfl|(simp [errW_none,errW_some] <;> rfl)|(simp [*,errW_none,errW_some] <;> rfl),by apply zR_;exact HO_3.out,by exact zB_ HB.out⟩
  ·rw [if_neg c3] at H
   exact absurd H (by simp)
 ·rw [if_neg c2] at H
  exact absurd H (by simp)

/-! ### spec_PermConj: function 111 -/
def spec_PermConj.f (k:Nat) (l0:List Int) (l1:List Int):Option (List Int × Bool):=(spec_l1Both.f k l0 l1).bind fun t302=>(if t302 = true then ((spec_l1Back.f k l1).bind fun t303=>((spec_l1Mul.f k t303 l0).bind fun t306=>((spec_l1Mul.f k t306 l1).bind fun t309=>(some (t309,true))))) else (some ((([]:List Int)),false)))
theorem spec_PermConj.mono:∀ a0 a1 k,LeO (spec_PermConj.f k a0 a1) (spec_PermConj.f (k+1) a0 a1):=by
 intro a0 a1 k
 unfold spec_PermConj.f
 repeat' first
   | (with_reducible exact spec_l1Back.mono _ _)
   | (with_reducible exact spec_l1Both.mono _ _ _)
   | (with_reducible exact spec_l1Mul.mono _ _ _)
   | (with_reducible exact LeO.refl _)
   | (with_reducible exact za _)
   | (with_reducible refine zc ?_ ?_)
   | (with_reducible refine zb ?_ (fun _=>?_))
set_option maxHeartbeats 8000000 in
set_option maxRecDepth 100000 in
theorem spec_PermConj.calls (k:Nat) (A0:Option Addr) (c0:Nat) (l0:List Int) (A1:Option Addr) (c1:Nat) (l1:List Int) (r1:List Int) (r2:Bool) (w:World) (hr0:Kd.C (Kd.int .i64) w A0 l0.length l0) (hc0:l0.length≤c0) (hr1:Kd.C (Kd.int .i64) w A1 l1.length l1) (hc1:l1.length≤c1) (h:spec_PermConj.f k l0 l1 = some (r1,r2)) :
  Calls Try.prog 111 #[.slice A0 l0.length c0,.slice A1 l1.length c1] w fun e w' => ∃ v0_:Value,e = .returned (.tuple #[v0_,.bool r2])∧Kd.R (Kd.int .i64) 3 w' w.heap.size (fun _=>True) v0_ r1∧Below w.heap.size w w':=by
 have HR0:=zA hr0
 have HC0:=zA hc0
 clear hr0 hc0
 have HR1:=zA hr1
 have HC1:=zA hc1
 clear hr1 hc1
 have HB:=zA (Below.refl w.heap.size w)
 have H:((spec_l1Both.f k l0 l1).bind fun t302=>(if t302 = true then ((spec_l1Back.f k l1).bind fun t303=>((spec_l1Mul.f k t303 l0).bind fun t306=>((spec_l1Mul.f k t306 l1).bind fun t309=>(some (t309,true))))) else (some ((([]:List Int)),false)))) = some (r1,r2):=h
 clear h
 replace H:=zz0 H
 obtain ⟨t302,A30,H⟩:=H
 try dsimp only at H
 have A3:=zA A30
 clear A30
 by_cases c4:t302 = true
 ·subst c4
  rw [if_pos rfl] at H;try dsimp only at H
  replace H:=zz0 H
  obtain ⟨t303,A50,H⟩:=H
  try dsimp only at H
  have A5:=zA A50
  clear A50
  replace H:=zz0 H
  obtain ⟨t306,A60,H⟩:=H
  try dsimp only at H
  have A6:=zA A60
  clear A60
  replace H:=zz0 H
  obtain ⟨t309,A70,H⟩:=H
  try dsimp only at H
  have A7:=zA A70
  clear A70
  simp only [Option.some.injEq,Prod.mk.injEq] at H
  obtain ⟨rfl,rfl⟩:=H
  go_enter Try.func111,Try.ntmps111
  go_wp2_with (first|((with_reducible refine gate_callee (f:=97) rfl ?_);refine goesL_ (some 8) rfl rfl Try.func97 (by kernel_rfl) rfl #[.slice A0 l0.length c0,.slice A1 l1.length c1] rfl (by (try simp only [zJ,zM,zN]);first|done|rfl|(simp only [zL,zK];rfl)) ?_;(with_reducible refine (spec_l1Both.calls k _ _ l0 _ _ l1 true _ ?side1 ?side2 ?side3 ?side4 A3.out).mono ?_);(case side1=>repeat (first|exact HR0.out|apply zC_));(case side2=>exact HC0.out);(case side3=>repeat (first|exact HR1.out|apply zC_));(case side4=>exact HC1.out);rintro e w' ⟨rfl,⟨nd,rfl⟩⟩;refine ⟨_,rfl,?_⟩)|((with_reducible refine gate_callee (f:=133) rfl ?_);refine goesL_ (some 12) rfl rfl Try.func133 (by kernel_rfl) rfl #[.slice A1 l1.length c1] rfl (by (try simp only [zJ,zM,zN]);first|done|rfl|(simp only [zL,zK];rfl)) ?_;(with_reducible refine (spec_l1Back.calls k _ _ l1 t303 _ ?side1 ?side2 A5.out).mono ?_);(case side1=>repeat (first|exact HR1.out|apply zC_));(case side2=>exact HC1.out);rintro e w8 ⟨v304,rfl,ho0,hb⟩;refine ⟨_,rfl,?_⟩;have n0_:=zA (ze ho0 (zQ (by exact zB_ HB.out)));have n1_:=zA (zR (by exact zB_ HB.out) hb);clear HB;have HO305:=n0_;have HB:=n1_;clear n0_ n1_;(try clear hb);(try clear hb2);(try clear hk);(try clear hi);(try clear ho0);obtain ⟨Ao9,co9,eo9⟩:=zg HO305.out;subst eo9)|((with_reducible refine gate_callee (f:=132) rfl ?_);refine goesL_ (some 14) rfl rfl Try.func132 (by kernel_rfl) rfl #[.slice Ao9 t303.length co9,.slice A0 l0.length c0] rfl (by (try simp only [zJ,zM,zN]);first|done|rfl|(simp only [zL,zK];rfl)) ?_;(with_reducible refine (spec_l1Mul.calls k _ _ t303 _ _ l0 t306 _ ?side1 ?side2 ?side3 ?side4 A6.out).mono ?_);(case side1=>repeat (first|exact (zU HO305.out).2.2|apply zC_));(case side2=>exact (zU HO305.out).2.1);(case side3=>repeat (first|exact (zW HR0.out HB.out)|(with_reducible exact HR0.out)|apply zC_));(case side4=>exact HC0.out);rintro e w10 ⟨v307,rfl,ho0,hb⟩;refine ⟨_,rfl,?_⟩;have n0_:=zA (Kd.R_elder' (by apply zR_;exact HO305.out) (zd ho0) hb);have n1_:=zA (ze (zh ho0 (Kd.R_lt (by apply zR_;exact HO305.out))) (zQ (by exact zB_ HB.out)));have n2_:=zA (zR (by exact zB_ HB.out) hb);clear HO305;clear HB;have HO305:=n0_;have HO308:=n1_;have HB:=n2_;clear n0_ n1_ n2_;(try clear hb);(try clear hb2);(try clear hk);(try clear hi);(try clear ho0);obtain ⟨Ao11,co11,eo11⟩:=zg HO308.out;subst eo11)|((with_reducible refine gate_callee (f:=132) rfl ?_);refine goesL_ (some 16) rfl rfl Try.func132 (by kernel_rfl) rfl #[.slice Ao11 t306.length co11,.slice A1 l1.length c1] rfl (by (try simp only [zJ,zM,zN]);first|done|rfl|(simp only [zL,zK];rfl)) ?_;(with_reducible refine (spec_l1Mul.calls k _ _ t306 _ _ l1 t309 _ ?side1 ?side2 ?side3 ?side4 A7.out).mono ?_);(case side1=>repeat (first|exact (zU HO308.out).2.2|apply zC_));(case side2=>exact (zU HO308.out).2.1);(case side3=>repeat (first|exact (zW HR1.out HB.out)|(with_reducible exact HR1.out)|apply zC_));(case side4=>exact HC1.out);rintro e w12 ⟨v310,rfl,ho0,hb⟩;refine ⟨_,rfl,?_⟩;have n0_:=zA (Kd.R_elder' (by apply zR_;exact HO305.out) (zd ho0) hb);have n1_:=zA (Kd.R_elder' (by apply zR_;exact HO308.out) (zd ho0) hb);have n2_:=zA (ze (zh (zh ho0 (Kd.R_lt (by apply zR_;exact HO305.out))) (Kd.R_lt (by apply zR_;exact HO308.out))) (zQ (by exact zB_ HB.out)));have n3_:=zA (zR (by exact zB_ HB.out) hb);clear HO305;clear HO308;clear HB;have HO305:=n0_;have HO308:=n1_;have HO311:=n2_;have HB:=n3_;clear n0_ n1_ n2_ n3_;(try clear hb);(try clear hb2);(try clear hk);(try clear hi);(try clear ho0)))
  go_ret2
  exact ⟨_,by first|rfl|(simp [errW_none,errW_some] <;> rfl)|(simp [*,errW_none,errW_some] <;> rfl),by apply zR_;exact zV HO311.out (fun _ hk=>trivial),by exact zB_ HB.out⟩
 ·replace c4:=Bool.eq_false_iff.mpr c4
  subst c4
  have H1:(some ((([]:List Int)),false)) = some (r1,r2):=by rw [if_neg (show ¬ (false = true) by decide)] at H;exact H
  clear H
  have H:=H1
  clear H1
  obtain ⟨y312,hy312⟩:∃ y_:List Int,y_ = (([]:List Int)):=⟨_,rfl⟩
  replace H:(some (y312,false)) = some (r1,r2):=by (try rw [hy312]);first|with_reducible exact H|with_reducible exact zS_ H|exact H
  have Ny312:=zA hy312
  clear hy312
  simp only [Option.some.injEq,Prod.mk.injEq] at H
  obtain ⟨rfl,rfl⟩:=H
  go_enter Try.func111,Try.ntmps111
  go_wp2_with (first|((with_reducible refine gate_callee (f:=97) rfl ?_);refine goesL_ (some 8) rfl rfl Try.func97 (by kernel_rfl) rfl #[.slice A0 l0.length c0,.slice A1 l1.length c1] rfl (by (try simp only [zJ,zM,zN]);first|done|rfl|(simp only [zL,zK];rfl)) ?_;(with_reducible refine (spec_l1Both.calls k _ _ l0 _ _ l1 false _ ?side1 ?side2 ?side3 ?side4 A3.out).mono ?_);(case side1=>repeat (first|exact HR0.out|apply zC_));(case side2=>exact HC0.out);(case side3=>repeat (first|exact HR1.out|apply zC_));(case side4=>exact HC1.out);rintro e w' ⟨rfl,⟨nd,rfl⟩⟩;refine ⟨_,rfl,?_⟩)|((with_reducible refine gate_dst (N:=10) rfl ?_);refine Kd.R_lit (Kd.int .i64) _ 3 ?hg (N:=10) ?hd (xs:=([]:List Int)) (inner:=[]) (ok:=fun _=>True) (okp:=fun _=>True) ?hr ?hp (fun _ hk=>hk) trivial (Below.refl _ _) (Nat.le_refl _) (by simp) ?_;(case hd=>rfl);(case hg=>rfl);(case hr=>first|(go_simp;done)|(go_simp;rfl));(case hp=>exact (Reps.none _ _));intro v313 w13 ho14 hb hg_ hnew_;clear hg_ hnew_;(first|rw [← Ny312.out] at ho14|(simp only [Int.reduceToNat] at ho14;rw [← Ny312.out] at ho14));have n0_:=zA (ze ho14 (zQ (by exact zB_ HB.out)));have n1_:=zA (zR (by exact zB_ HB.out) hb);clear HB;have HO314:=n0_;have HB:=n1_;clear n0_ n1_;clear hb ho14))
  go_ret2
  exact ⟨_,by first|rfl|(simp [errW_none,errW_some] <;> rfl)|(simp [*,errW_none,errW_some] <;> rfl),by apply zR_;exact HO314.out,by exact zB_ HB.out⟩

/-! ### spec_GluingOf: function 49 -/
mutual
def spec_GluingOf.j0:Nat→Int→Bool→List Int→List Int→Option (List Int × Bool)
 | 0,_,_,_,_=>none
 | k+1,x1,x28,x316000,x316001=>if x28 = true then (some ((([]:List Int)),false)) else (if 0≤(x316000.length:Int) then (if ((x316000.length:Int):Int).toNat≤35184372088832 then ((spec_l2Faces.f k x316000 x316001).bind fun t327=>(spec_GluingOf.l0 k (List.replicate ((x316000.length:Int):Int).toNat 0) t327 x1 0 x316000 x316001)) else (none)) else (none))
def spec_GluingOf.l0:Nat→List Int→List Int→Int→Int→List Int→List Int→Option (List Int × Bool)
 | 0,_,_,_,_,_,_=>none
 | k+1,x6,x7,x8,x9,x316000,x316001=>if x9 < (x6.length:Int) then (if 0≤x8 then (if x8 < (x6.length:Int) then (if x8 < (x7.length:Int) then (spec_GluingOf.l0 k (x6.set (x8:Int).toNat x9) x7 (rd x7 x8) (wrap64 (x9+1)) x316000 x316001) else (none)) else (none)) else (none)) else ((spec_PermConj.f k x316001 x6).bind fun bt332=>(some (bt332.1,true)))
end
def spec_GluingOf.f (k:Nat) (l0_0:List Int) (l0_1:List Int) (a1:Int):Option (List Int × Bool):=(spec_l2Dart.f k l0_0 l0_1 a1).bind fun t316=>(if t316 = true then (if (l0_0.length:Int) > 10 then (spec_GluingOf.j0 k a1 true l0_0 l0_1) else ((spec_l2Counts.f k l0_0 l0_1).bind fun t317=>(if 2 < (t317.length:Int) then (spec_GluingOf.j0 k a1 ((rd t317 2) != 1) l0_0 l0_1) else (none)))) else (spec_GluingOf.j0 k a1 true l0_0 l0_1))
theorem spec_GluingOf.mono_l:∀ k,(∀ y0 y1 y2 y3,LeO (spec_GluingOf.j0 k y0 y1 y2 y3) (spec_GluingOf.j0 (k+1) y0 y1 y2 y3))∧(∀ y0 y1 y2 y3 y4 y5,LeO (spec_GluingOf.l0 k y0 y1 y2 y3 y4 y5) (spec_GluingOf.l0 (k+1) y0 y1 y2 y3 y4 y5))
 | 0=>⟨fun _ _ _ _ r h=>by simp [spec_GluingOf.j0] at h,fun _ _ _ _ _ _ r h=>by simp [spec_GluingOf.l0] at h⟩
 | k+1=>by
  obtain ⟨ih0,ih1⟩:=spec_GluingOf.mono_l k
  refine ⟨?_,?_⟩
  ·intro y0 y1 y2 y3
   unfold spec_GluingOf.j0
   repeat' first
   | (with_reducible exact ih0 _ _ _ _)
   | (with_reducible exact ih1 _ _ _ _ _ _)
   | (with_reducible exact spec_PermConj.mono _ _ _)
   | (with_reducible exact spec_l2Counts.mono _ _ _)
   | (with_reducible exact spec_l2Dart.mono _ _ _ _)
   | (with_reducible exact spec_l2Faces.mono _ _ _)
   | (with_reducible exact LeO.refl _)
   | (with_reducible exact za _)
   | (with_reducible refine zc ?_ ?_)
   | (with_reducible refine zb ?_ (fun _=>?_))
  ·intro y0 y1 y2 y3 y4 y5
   unfold spec_GluingOf.l0
   repeat' first
   | (with_reducible exact ih0 _ _ _ _)
   | (with_reducible exact ih1 _ _ _ _ _ _)
   | (with_reducible exact spec_PermConj.mono _ _ _)
   | (with_reducible exact spec_l2Counts.mono _ _ _)
   | (with_reducible exact spec_l2Dart.mono _ _ _ _)
   | (with_reducible exact spec_l2Faces.mono _ _ _)
   | (with_reducible exact LeO.refl _)
   | (with_reducible exact za _)
   | (with_reducible refine zc ?_ ?_)
   | (with_reducible refine zb ?_ (fun _=>?_))
theorem spec_GluingOf.mono:∀ a0 a1 a2 k,LeO (spec_GluingOf.f k a0 a1 a2) (spec_GluingOf.f (k+1) a0 a1 a2):=by
 intro a0 a1 a2 k
 obtain ⟨ih0,ih1⟩:=spec_GluingOf.mono_l k
 unfold spec_GluingOf.f
 repeat' first
   | (with_reducible exact ih0 _ _ _ _)
   | (with_reducible exact ih1 _ _ _ _ _ _)
   | (with_reducible exact spec_PermConj.mono _ _ _)
   | (with_reducible exact spec_l2Counts.mono _ _ _)
   | (with_reducible exact spec_l2Dart.mono _ _ _ _)
   | (with_reducible exact spec_l2Faces.mono _ _ _)
   | (with_reducible exact LeO.refl _)
   | (with_reducible exact za _)
   | (with_reducible refine zc ?_ ?_)
   | (with_reducible refine zb ?_ (fun _=>?_))
set_option maxHeartbeats 8000000 in
set_option maxRecDepth 100000 in
theorem spec_GluingOf.calls (k:Nat) (A0_0:Option Addr) (c0_0:Nat) (l0_0:List Int) (A0_1:Option Addr) (c0_1:Nat) (l0_1:List Int) (a1:Int) (r1:List Int) (r2:Bool) (w:World) (hr0_0:Kd.C (Kd.int .i64) w A0_0 l0_0.length l0_0) (hc0_0:l0_0.length≤c0_0) (hr0_1:Kd.C (Kd.int .i64) w A0_1 l0_1.length l0_1) (hc0_1:l0_1.length≤c0_1) (h:spec_GluingOf.f k l0_0 l0_1 a1 = some (r1,r2)) :
  Calls Try.prog 49 #[.agg #[.slice A0_0 l0_0.length c0_0,.slice A0_1 l0_1.length c0_1],.int .i64 a1] w fun e w' => ∃ v0_:Value,e = .returned (.tuple #[v0_,.bool r2])∧Kd.R (Kd.int .i64) 3 w' w.heap.size (fun _=>True) v0_ r1∧Below w.heap.size w w':=by
 have hu27:=Try.underlying27
 have HR0_0:=zA hr0_0
 have HC0_0:=zA hc0_0
 clear hr0_0 hc0_0
 have HR0_1:=zA hr0_1
 have HC0_1:=zA hc0_1
 clear hr0_1 hc0_1
 have HB:=zA (Below.refl w.heap.size w)
 have H:((spec_l2Dart.f k l0_0 l0_1 a1).bind fun t316=>(if t316 = true then (if (l0_0.length:Int) > 10 then (spec_GluingOf.j0 k a1 true l0_0 l0_1) else ((spec_l2Counts.f k l0_0 l0_1).bind fun t317=>(if 2 < (t317.length:Int) then (spec_GluingOf.j0 k a1 ((rd t317 2) != 1) l0_0 l0_1) else (none)))) else (spec_GluingOf.j0 k a1 true l0_0 l0_1))) = some (r1,r2):=h
 clear h
 have HC3:=zA H
 clear H
 go_enter Try.func49,Try.ntmps49
 go_upto_region 1 with (first|((with_reducible refine gate_dst (N:=2) rfl ?_);(try (refine gate_guard (by rfl) ?_;dsimp only));refine box_event ?hg (N:=2) ?hd (cs:=#[.slice A0_0 l0_0.length c0_0,.slice A0_1 l0_1.length c0_1]) (t:=27) ?hr ?_;(case hd=>rfl);(case hg=>rfl);(case hr=>first|(go_simp;done)|(go_simp;rfl));intro gb315 hg w4 hbox hb;have n0_:=zA (zR (by exact zB_ HB.out) hb);have n1_:=zA (hbox);have n2_:=zA ((by rw [hg];exact (zQ (by exact zB_ HB.out)):w.heap.size≤gb315));have n3_:=zA ((by rw [hg];exact (zQ (by exact zB_ HB.out)):w.heap.size≤gb315));clear HB;have HB:=n0_;have BK315:=n1_;have GW315:=n2_;have GE315:=n3_;clear n0_ n1_ n2_ n3_;clear hb hbox hg))
 (try simp only [Act.put,zP_])
 go_cut [28] (fun v28 wc => ∃ (kq:Nat) (x28_2:Bool),v28 = .bool x28_2∧Aside0 (spec_GluingOf.j0 kq a1 x28_2 l0_0 l0_1 = some (r1,r2))∧Aside0 (kq≤k)∧Aside0 (wc.heap[gb315]? = some (.cells #[(.slice A0_0 l0_0.length c0_0),(.slice A0_1 l0_1.length c0_1)] 27 (0,0)))∧Aside0 (Below w.heap.size w wc))
 case first =>
  have H:=HC3.out
  clear HC3
  replace H:=zz0 H
  obtain ⟨t316,A50,H⟩:=H
  try dsimp only at H
  have A5:=zA A50
  clear A50
  by_cases c6:t316 = true
  ·subst c6
   rw [if_pos rfl] at H;try dsimp only at H
   by_cases c7:(l0_0.length:Int) > 10
   ·rw [if_pos c7] at H
    have c7b0:decide (10 < (l0_0.length:Int)) = true:=zO c7
    have c7b1:decide (10 < l0_0.length) = true:=zO (by omega)
    clear c7
    (first|rw [c7b0]|(simp only [i64_w,i32_w];rw [c7b0])|skip)
    have H':=zA H
    clear H
    have hcz8_0:w4.cell? ⟨gb315,0,none⟩ = some (.slice A0_0 l0_0.length c0_0):=(zT BK315.out 0).trans rfl
    have hcz8_1:w4.cell? ⟨gb315,1,none⟩ = some (.slice A0_1 l0_1.length c0_1):=(zT BK315.out 1).trans rfl
    have hfz8_0:=zZ BK315.out 0
    have hfz8_1:=zZ BK315.out 1
    go_wp2_with (first|((with_reducible refine gate_callee (f:=108) rfl ?_);refine goesL_ (some 14) rfl rfl Try.func108 (by kernel_rfl) rfl #[.agg #[.slice A0_0 l0_0.length c0_0,.slice A0_1 l0_1.length c0_1],.int .i64 a1] rfl (by (try simp only [zJ,zM,zN]);first|done|rfl|(simp only [zL,zK];rfl)) ?_;(with_reducible refine (spec_l2Dart.calls k _ _ l0_0 _ _ l0_1 a1 true _ ?side1 ?side2 ?side3 ?side4 A5.out).mono ?_);(case side1=>repeat (first|exact (zW HR0_0.out HB.out)|(with_reducible exact HR0_0.out)|apply zC_));(case side2=>exact HC0_0.out);(case side3=>repeat (first|exact (zW HR0_1.out HB.out)|(with_reducible exact HR0_1.out)|apply zC_));(case side4=>exact HC0_1.out);rintro e w9 ⟨rfl,hb⟩;refine ⟨_,rfl,?_⟩;have n0_:=zA (zX (g:=gb315) (o:=.cells #[.slice A0_0 l0_0.length c0_0,.slice A0_1 l0_1.length c0_1] 27 (0,0)) (by (with_reducible repeat (first|refine zG ?_ _|refine zI ?_|refine zH ?_ _));exact BK315.out) hb);have n1_:=zA (zR (by repeat (first|(with_reducible first|exact HB.out|apply zD|apply zB|apply zC|refine zF ?_ GE315.out)|exact HB.out)) hb);clear BK315;clear HB;have BK315:=n0_;have HB:=n1_;clear n0_ n1_;(try clear hb);(try clear hb2);(try clear hk);(try clear hi);have hcz10_0:w9.cell? ⟨gb315,0,none⟩ = some (.slice A0_0 l0_0.length c0_0):=(zT BK315.out 0).trans rfl;have hcz10_1:w9.cell? ⟨gb315,1,none⟩ = some (.slice A0_1 l0_1.length c0_1):=(zT BK315.out 1).trans rfl;have hfz10_0:=zZ BK315.out 0;have hfz10_1:=zZ BK315.out 1))
    go_meet
    case rel=>exact ⟨_,(true),(by first|rfl|(simp;done)|(simp [*];done)),H',⟨by first|omega|exact Nat.le_refl _⟩,⟨by (with_reducible repeat (first|refine zG ?_ _|refine zI ?_|refine zH ?_ _));exact BK315.out⟩,⟨by repeat (first|(with_reducible first|exact HB.out|apply zD|apply zB|apply zC|refine zF ?_ GE315.out)|exact HB.out)⟩⟩
   ·rw [if_neg c7] at H
    have c7b0:decide (10 < (l0_0.length:Int)) = false:=zP c7
    have c7b1:decide (10 < l0_0.length) = false:=zP (by omega)
    clear c7
    (first|rw [c7b0]|(simp only [i64_w,i32_w];rw [c7b0])|skip)
    replace H:=zz0 H
    obtain ⟨t317,A110,H⟩:=H
    try dsimp only at H
    have A11:=zA A110
    clear A110
    by_cases c12:2 < (t317.length:Int)
    ·rw [if_pos c12] at H
     have c12b0:decide (2 < (t317.length:Int)) = true:=zO c12
     have c12b1:decide (2 < t317.length) = true:=zO (by omega)
     clear c12
     have H':=zA H
     clear H
     have hcz13_0:w4.cell? ⟨gb315,0,none⟩ = some (.slice A0_0 l0_0.length c0_0):=(zT BK315.out 0).trans rfl
     have hcz13_1:w4.cell? ⟨gb315,1,none⟩ = some (.slice A0_1 l0_1.length c0_1):=(zT BK315.out 1).trans rfl
     have hfz13_0:=zZ BK315.out 0
     have hfz13_1:=zZ BK315.out 1
     go_wp2_with (first|((with_reducible refine gate_callee (f:=108) rfl ?_);refine goesL_ (some 14) rfl rfl Try.func108 (by kernel_rfl) rfl #[.agg #[.slice A0_0 l0_0.length c0_0,.slice A0_1 l0_1.length c0_1],.int .i64 a1] rfl (by (try simp only [zJ,zM,zN]);first|done|rfl|(simp only [zL,zK];rfl)) ?_;(with_reducible refine (spec_l2Dart.calls k _ _ l0_0 _ _ l0_1 a1 true _ ?side1 ?side2 ?side3 ?side4 A5.out).mono ?_);(case side1=>repeat (first|exact (zW HR0_0.out HB.out)|(with_reducible exact HR0_0.out)|apply zC_));(case side2=>exact HC0_0.out);(case side3=>repeat (first|exact (zW HR0_1.out HB.out)|(with_reducible exact HR0_1.out)|apply zC_));(case side4=>exact HC0_1.out);rintro e w14 ⟨rfl,hb⟩;refine ⟨_,rfl,?_⟩;have n0_:=zA (zX (g:=gb315) (o:=.cells #[.slice A0_0 l0_0.length c0_0,.slice A0_1 l0_1.length c0_1] 27 (0,0)) (by (with_reducible repeat (first|refine zG ?_ _|refine zI ?_|refine zH ?_ _));exact BK315.out) hb);have n1_:=zA (zR (by repeat (first|(with_reducible first|exact HB.out|apply zD|apply zB|apply zC|refine zF ?_ GE315.out)|exact HB.out)) hb);clear BK315;clear HB;have BK315:=n0_;have HB:=n1_;clear n0_ n1_;(try clear hb);(try clear hb2);(try clear hk);(try clear hi);have hcz15_0:w14.cell? ⟨gb315,0,none⟩ = some (.slice A0_0 l0_0.length c0_0):=(zT BK315.out 0).trans rfl;have hcz15_1:w14.cell? ⟨gb315,1,none⟩ = some (.slice A0_1 l0_1.length c0_1):=(zT BK315.out 1).trans rfl;have hfz15_0:=zZ BK315.out 0;have hfz15_1:=zZ BK315.out 1)|(go_at_call 109;(with_reducible refine (spec_l2Counts.calls k _ _ l0_0 _ _ l0_1 t317 _ ?side1 ?side2 ?side3 ?side4 A11.out).mono ?_);(case side1=>repeat (first|exact (zW HR0_0.out HB.out)|(with_reducible exact HR0_0.out)|apply zC_));(case side2=>exact HC0_0.out);(case side3=>repeat (first|exact (zW HR0_1.out HB.out)|(with_reducible exact HR0_1.out)|apply zC_));(case side4=>exact HC0_1.out);rintro e w16 ⟨v318,rfl,ho0,hb⟩;have n0_:=zA (ze ho0 (zQ (by repeat (first|(with_reducible first|exact HB.out|apply zD|apply zB|apply zC|refine zF ?_ GE315.out)|exact HB.out))));have n1_:=zA (zX (g:=gb315) (o:=.cells #[.slice A0_0 l0_0.length c0_0,.slice A0_1 l0_1.length c0_1] 27 (0,0)) (by (with_reducible repeat (first|refine zG ?_ _|refine zI ?_|refine zH ?_ _));exact BK315.out) hb);have n2_:=zA (zR (by repeat (first|(with_reducible first|exact HB.out|apply zD|apply zB|apply zC|refine zF ?_ GE315.out)|exact HB.out)) hb);clear BK315;clear HB;have HO319:=n0_;have BK315:=n1_;have HB:=n2_;clear n0_ n1_ n2_;(try clear hb);(try clear hb2);(try clear hk);(try clear hi);(try clear ho0);obtain ⟨Ao17,co17,eo17⟩:=zg HO319.out;subst eo17;have p320:0≤(2:Int):=(by omega);have q320:2 < (t317.length:Int):=zE (by with_reducible assumption);obtain ⟨ad320,e320,hx320_0⟩:=Kd.at_int (zU HO319.out).2.2 2 p320 q320;cases e320;(try simp only [show (2:Int).toNat = 2 from rfl,Nat.reduceMul,Nat.reduceEqDiff,Go.Addr.add, ↓reduceIte] at hx320_0);have qi320:(2 < t317.length) = True:=eq_true (by omega);(try rw [show ((2:Int)).toNat = 2 from rfl] at hx320_0);replace p320:=eq_true p320;replace q320:=eq_true q320))
     go_meet
     case rel=>exact ⟨_,(((rd t317 2) != 1)),(by first|rfl|(simp;done)|(simp [*];done)),H',⟨by first|omega|exact Nat.le_refl _⟩,⟨by (with_reducible repeat (first|refine zG ?_ _|refine zI ?_|refine zH ?_ _));exact BK315.out⟩,⟨by repeat (first|(with_reducible first|exact HB.out|apply zD|apply zB|apply zC|refine zF ?_ GE315.out)|exact HB.out)⟩⟩
    ·rw [if_neg c12] at H
     exact absurd H (by simp)
  ·replace c6:=Bool.eq_false_iff.mpr c6
   subst c6
   have H1:(spec_GluingOf.j0 k a1 true l0_0 l0_1) = some (r1,r2):=by rw [if_neg (show ¬ (false = true) by decide)] at H;exact H
   clear H
   have H:=H1
   clear H1
   have H':=zA H
   clear H
   have hcz18_0:w4.cell? ⟨gb315,0,none⟩ = some (.slice A0_0 l0_0.length c0_0):=(zT BK315.out 0).trans rfl
   have hcz18_1:w4.cell? ⟨gb315,1,none⟩ = some (.slice A0_1 l0_1.length c0_1):=(zT BK315.out 1).trans rfl
   have hfz18_0:=zZ BK315.out 0
   have hfz18_1:=zZ BK315.out 1
   go_wp2_with (first|((with_reducible refine gate_callee (f:=108) rfl ?_);refine goesL_ (some 14) rfl rfl Try.func108 (by kernel_rfl) rfl #[.agg #[.slice A0_0 l0_0.length c0_0,.slice A0_1 l0_1.length c0_1],.int .i64 a1] rfl (by (try simp only [zJ,zM,zN]);first|done|rfl|(simp only [zL,zK];rfl)) ?_;(with_reducible refine (spec_l2Dart.calls k _ _ l0_0 _ _ l0_1 a1 false _ ?side1 ?side2 ?side3 ?side4 A5.out).mono ?_);(case side1=>repeat (first|exact (zW HR0_0.out HB.out)|(with_reducible exact HR0_0.out)|apply zC_));(case side2=>exact HC0_0.out);(case side3=>repeat (first|exact (zW HR0_1.out HB.out)|(with_reducible exact HR0_1.out)|apply zC_));(case side4=>exact HC0_1.out);rintro e w19 ⟨rfl,hb⟩;refine ⟨_,rfl,?_⟩;have n0_:=zA (zX (g:=gb315) (o:=.cells #[.slice A0_0 l0_0.length c0_0,.slice A0_1 l0_1.length c0_1] 27 (0,0)) (by (with_reducible repeat (first|refine zG ?_ _|refine zI ?_|refine zH ?_ _));exact BK315.out) hb);have n1_:=zA (zR (by repeat (first|(with_reducible first|exact HB.out|apply zD|apply zB|apply zC|refine zF ?_ GE315.out)|exact HB.out)) hb);clear BK315;clear HB;have BK315:=n0_;have HB:=n1_;clear n0_ n1_;(try clear hb);(try clear hb2);(try clear hk);(try clear hi)))
   go_meet
   case rel=>exact ⟨_,(true),(by first|rfl|(simp;done)|(simp [*];done)),H',⟨by first|omega|exact Nat.le_refl _⟩,⟨by (with_reducible repeat (first|refine zG ?_ _|refine zI ?_|refine zH ?_ _));exact BK315.out⟩,⟨by repeat (first|(with_reducible first|exact HB.out|apply zD|apply zB|apply zC|refine zF ?_ GE315.out)|exact HB.out)⟩⟩
 case rest =>
  clear HC3
  (try clear c1);(try clear p2);(try clear p3);(try clear q3);(try clear hx3);(try clear qi3);(try clear c4);(try clear c6);(try clear c7);(try clear c7b0);(try clear c7b1);(try clear c10);(try clear c12);(try clear c12b0);(try clear c12b1);(try clear hcz10_0);(try clear hcz10_1);(try clear hcz13_0);(try clear hcz13_1);(try clear hcz15_0);(try clear hcz15_1);(try clear hcz18_0);(try clear hcz18_1);(try clear hcz8_0);(try clear hcz8_1);(try clear hfz10_0);(try clear hfz10_1);(try clear hfz13_0);(try clear hfz13_1);(try clear hfz15_0);(try clear hfz15_1);(try clear hfz18_0);(try clear hfz18_1);(try clear hfz8_0);(try clear hfz8_1);(try clear hx320_0);(try clear p320);(try clear q320)
  obtain ⟨kq,x28_2,rfl,HA,HJ2,BK315,HB⟩:=hcut
  cases kq with
  | zero=>exact absurd HA.out (by simp [spec_GluingOf.j0])
  | succ kj2 =>
   have H:=HA.out
   clear HA
   simp only [spec_GluingOf.j0] at H
   by_cases c20:x28_2 = true
   ·subst c20
    rw [if_pos rfl] at H;try dsimp only at H
    obtain ⟨y321,hy321⟩:∃ y_:List Int,y_ = (([]:List Int)):=⟨_,rfl⟩
    replace H:(some (y321,false)) = some (r1,r2):=by (try rw [hy321]);first|with_reducible exact H|with_reducible exact zS_ H|exact H
    have Ny321:=zA hy321
    clear hy321
    simp only [Option.some.injEq,Prod.mk.injEq] at H
    obtain ⟨rfl,rfl⟩:=H
    go_wp2_with (first|((with_reducible refine gate_dst (N:=29) rfl ?_);(try (refine gate_guard (by rfl) ?_;dsimp only));refine Kd.R_lit (Kd.int .i64) _ 3 ?hg (N:=29) ?hd (xs:=([]:List Int)) (inner:=[]) (ok:=fun _=>True) (okp:=fun _=>True) ?hr ?hp (fun _ hk=>hk) trivial (Below.refl _ _) (Nat.le_refl _) (by simp) ?_;(case hd=>rfl);(case hg=>rfl);(case hr=>first|(go_simp;done)|(go_simp;rfl));(case hp=>exact (Reps.none _ _));intro v322 w21 ho22 hb hg_ hnew_;clear hg_ hnew_;(first|rw [← Ny321.out] at ho22|(simp only [Int.reduceToNat] at ho22;rw [← Ny321.out] at ho22));have n0_:=zA (ze ho22 (zQ (by repeat (first|(with_reducible first|exact HB.out|apply zD|apply zB|apply zC|refine zF ?_ GE315.out)|exact HB.out))));have n1_:=zA (zX (g:=gb315) (o:=.cells #[.slice A0_0 l0_0.length c0_0,.slice A0_1 l0_1.length c0_1] 27 (0,0)) (by (with_reducible repeat (first|refine zG ?_ _|refine zI ?_|refine zH ?_ _));exact BK315.out) hb);have n2_:=zA (zR (by repeat (first|(with_reducible first|exact HB.out|apply zD|apply zB|apply zC|refine zF ?_ GE315.out)|exact HB.out)) hb);clear BK315;clear HB;have HO323:=n0_;have BK315:=n1_;have HB:=n2_;clear n0_ n1_ n2_;clear hb ho22))
    go_ret2
    exact ⟨_,by first|rfl|(simp [errW_none,errW_some] <;> rfl)|(simp [*,errW_none,errW_some] <;> rfl),by apply zR_;exact HO323.out,by repeat (first|(with_reducible first|exact HB.out|apply zD|apply zB|apply zC|refine zF ?_ GE315.out)|exact HB.out)⟩
   ·replace c20:=Bool.eq_false_iff.mpr c20
    subst c20
    have H1:(if 0≤(l0_0.length:Int) then (if ((l0_0.length:Int):Int).toNat≤35184372088832 then ((spec_l2Faces.f kj2 l0_0 l0_1).bind fun t327=>(spec_GluingOf.l0 kj2 (List.replicate ((l0_0.length:Int):Int).toNat 0) t327 a1 0 l0_0 l0_1)) else (none)) else (none)) = some (r1,r2):=by rw [if_neg (show ¬ (false = true) by decide)] at H;exact H
    clear H
    have H:=H1
    clear H1
    by_cases c23:0≤(l0_0.length:Int)
    ·rw [if_pos c23] at H
     have c23b0:=eq_true c23
     have c23b1:decide (0≤(l0_0.length:Int)) = true:=zO c23
     clear c23
     by_cases c24:((l0_0.length:Int):Int).toNat≤35184372088832
     ·rw [if_pos c24] at H
      have c24b0:=eq_true c24
      have c24b1:decide (((l0_0.length:Int):Int).toNat≤35184372088832) = true:=zO c24
      clear c24
      obtain ⟨y324,hy324⟩:∃ y_:List Int,y_ = (List.replicate ((l0_0.length:Int):Int).toNat 0):=⟨_,rfl⟩
      replace H:((spec_l2Faces.f kj2 l0_0 l0_1).bind fun t327=>(spec_GluingOf.l0 kj2 y324 t327 a1 0 l0_0 l0_1)) = some (r1,r2):=by (try rw [hy324]);first|with_reducible exact H|with_reducible exact zS_ H|exact H
      have Ny324:=zA hy324
      clear hy324
      replace H:=zz0 H
      obtain ⟨t327,A250,H⟩:=H
      try dsimp only at H
      have A25:=zA A250
      clear A250
      have H':=zA H
      clear H
      have hcz26_0:wc.cell? ⟨gb315,0,none⟩ = some (.slice A0_0 l0_0.length c0_0):=(zT BK315.out 0).trans rfl
      have hcz26_1:wc.cell? ⟨gb315,1,none⟩ = some (.slice A0_1 l0_1.length c0_1):=(zT BK315.out 1).trans rfl
      have hfz26_0:=zZ BK315.out 0
      have hfz26_1:=zZ BK315.out 1
      go_wp2_with (first|((with_reducible refine gate_dst (N:=33) rfl ?_);(try (refine gate_guard (by rfl) ?_;dsimp only));refine Kd.R_make (Kd.int .i64) _ 3 rfl (N:=33) rfl 23 _ _ rfl (l0_0.length:Int) rfl rfl Try.underlying23 (.int .i64 0) 8 info3 rfl (by decide) (by omega) 0 (ok:=fun _=>True) (okp:=fun _=>True) rfl (fun _ hk=>hk) trivial (zE (by with_reducible assumption)) (Nat.le_trans (Nat.mul_le_mul_right _ (zE (by with_reducible assumption):(l0_0.length:Int).toNat≤35184372088832)) (by omega)) (Below.refl _ _) (Nat.le_refl _) ?_;intro v325 w27 ho28 hb hg_ hnew_;clear hg_ hnew_;(first|rw [← Ny324.out] at ho28|(simp only [Int.reduceToNat] at ho28;rw [← Ny324.out] at ho28));have n0_:=zA (ze ho28 (zQ (by repeat (first|(with_reducible first|exact HB.out|apply zD|apply zB|apply zC|refine zF ?_ GE315.out)|exact HB.out))));have n1_:=zA (zX (g:=gb315) (o:=.cells #[.slice A0_0 l0_0.length c0_0,.slice A0_1 l0_1.length c0_1] 27 (0,0)) (by (with_reducible repeat (first|refine zG ?_ _|refine zI ?_|refine zH ?_ _));exact BK315.out) hb);have n2_:=zA (zR (by repeat (first|(with_reducible first|exact HB.out|apply zD|apply zB|apply zC|refine zF ?_ GE315.out)|exact HB.out)) hb);clear BK315;clear HB;have HO326:=n0_;have BK315:=n1_;have HB:=n2_;clear n0_ n1_ n2_;clear hb ho28;have hcz29_0:w27.cell? ⟨gb315,0,none⟩ = some (.slice A0_0 l0_0.length c0_0):=(zT BK315.out 0).trans rfl;have hcz29_1:w27.cell? ⟨gb315,1,none⟩ = some (.slice A0_1 l0_1.length c0_1):=(zT BK315.out 1).trans rfl;have hfz29_0:=zZ BK315.out 0;have hfz29_1:=zZ BK315.out 1)|((with_reducible refine gate_callee (f:=110) rfl ?_);refine goesL_ (some 35) rfl rfl Try.func110 (by kernel_rfl) rfl #[.agg #[.slice A0_0 l0_0.length c0_0,.slice A0_1 l0_1.length c0_1]] rfl (by (try simp only [zJ,zM,zN]);first|done|rfl|(simp only [zL,zK];rfl)) ?_;(with_reducible refine (spec_l2Faces.calls kj2 _ _ l0_0 _ _ l0_1 t327 _ ?side1 ?side2 ?side3 ?side4 A25.out).mono ?_);(case side1=>repeat (first|exact (zW HR0_0.out HB.out)|(with_reducible exact HR0_0.out)|apply zC_));(case side2=>exact HC0_0.out);(case side3=>repeat (first|exact (zW HR0_1.out HB.out)|(with_reducible exact HR0_1.out)|apply zC_));(case side4=>exact HC0_1.out);rintro e w30 ⟨v328,rfl,ho0,hb⟩;refine ⟨_,rfl,?_⟩;have n0_:=zA (Kd.R_elder' (by apply zR_;exact HO326.out) (zd ho0) hb);have n1_:=zA (ze (zh ho0 (Kd.R_lt (by apply zR_;exact HO326.out))) (zQ (by repeat (first|(with_reducible first|exact HB.out|apply zD|apply zB|apply zC|refine zF ?_ GE315.out)|exact HB.out))));have n2_:=zA (zX (g:=gb315) (o:=.cells #[.slice A0_0 l0_0.length c0_0,.slice A0_1 l0_1.length c0_1] 27 (0,0)) (by (with_reducible repeat (first|refine zG ?_ _|refine zI ?_|refine zH ?_ _));exact BK315.out) hb);have n3_:=zA (zR (by repeat (first|(with_reducible first|exact HB.out|apply zD|apply zB|apply zC|refine zF ?_ GE315.out)|exact HB.out)) hb);clear HO326;clear BK315;clear HB;have HO326:=n0_;have HO329:=n1_;have BK315:=n2_;have HB:=n3_;clear n0_ n1_ n2_ n3_;(try clear hb);(try clear hb2);(try clear hk);(try clear hi);(try clear ho0)))
      go_loopg [8,9] kj2 (fun kq v8 v9 w' => ∃ (x6_2:List Int) (x8_2:Int) (x9_2:Int),v8 = .int .i64 x8_2∧v9 = .int .i64 x9_2∧Aside0 (spec_GluingOf.l0 kq x6_2 t327 x8_2 x9_2 l0_0 l0_1 = some (r1,r2))∧Aside0 (kq≤kj2)∧Aside0 (Kd.R (Kd.int .i64) 3 w' w.heap.size (fun k_=>some k_≠(v328:Value).ownBlock) v325 x6_2)∧Aside0 (Kd.R (Kd.int .i64) 3 w' w.heap.size (fun k_=>some k_≠(v325:Value).ownBlock) v328 t327)∧Aside0 (w'.heap[gb315]? = some (.cells #[(.slice A0_0 l0_0.length c0_0),(.slice A0_1 l0_1.length c0_1)] 27 (0,0)))∧Aside0 (Below w.heap.size w w'))
      case atStart=>exact ⟨(y324),(a1),(0),(by first|rfl|(simp;done)|(simp [*];done)),(by first|rfl|(simp;done)|(simp [*];done)),H',⟨Nat.le_refl _⟩,⟨by apply zR_;exact zV HO326.out (fun _ hk=>hk.2)⟩,⟨by apply zR_;exact zV HO329.out (fun _ hk=>hk.2)⟩,⟨by (with_reducible repeat (first|refine zG ?_ _|refine zI ?_|refine zH ?_ _));exact BK315.out⟩,⟨by repeat (first|(with_reducible first|exact HB.out|apply zD|apply zB|apply zC|refine zF ?_ GE315.out)|exact HB.out)⟩⟩
      case round =>
       clear H'
       (try clear c1);(try clear c2);(try clear p2);(try clear p3);(try clear q3);(try clear hx3);(try clear qi3);(try clear c4);(try clear c6);(try clear c7);(try clear c7b0);(try clear c7b1);(try clear c10);(try clear c11);(try clear c12);(try clear c12b0);(try clear c12b1);(try clear c20);(try clear c23);(try clear c23b0);(try clear c23b1);(try clear c24);(try clear c24b0);(try clear c24b1);(try clear hcz10_0);(try clear hcz10_1);(try clear hcz13_0);(try clear hcz13_1);(try clear hcz15_0);(try clear hcz15_1);(try clear hcz18_0);(try clear hcz18_1);(try clear hcz26_0);(try clear hcz26_1);(try clear hcz29_0);(try clear hcz29_1);(try clear hcz8_0);(try clear hcz8_1);(try clear hfz10_0);(try clear hfz10_1);(try clear hfz13_0);(try clear hfz13_1);(try clear hfz15_0);(try clear hfz15_1);(try clear hfz18_0);(try clear hfz18_1);(try clear hfz26_0);(try clear hfz26_1);(try clear hfz29_0);(try clear hfz29_1);(try clear hfz8_0);(try clear hfz8_1);(try clear hx320_0);(try clear p2);(try clear p3);(try clear p320);(try clear q3);(try clear q320)
       obtain ⟨x6_2,x8_2,x9_2,rfl,rfl,HA,HK2,HO_6,HO_7,BK315,HB⟩:=hrel
       cases gk with
       | zero=>exact absurd HA.out (by simp [spec_GluingOf.l0])
       | succ k2 =>
        have H:=HA.out
        clear HA
        simp only [spec_GluingOf.l0] at H
        by_cases c31:x9_2 < (x6_2.length:Int)
        ·rw [if_pos c31] at H
         have c31b0:decide (x9_2 < (x6_2.length:Int)) = true:=zO c31
         clear c31
         by_cases c32:0≤x8_2
         ·rw [if_pos c32] at H
          have c32b0:decide (0≤x8_2) = true:=zO c32
          clear c32
          by_cases c33:x8_2 < (x6_2.length:Int)
          ·rw [if_pos c33] at H
           have c33b0:decide (x8_2 < (x6_2.length:Int)) = true:=zO c33
           clear c33
           obtain ⟨y330,hy330⟩:∃ y_:List Int,y_ = (x6_2.set (x8_2:Int).toNat x9_2):=⟨_,rfl⟩
           replace H:(if x8_2 < (t327.length:Int) then (spec_GluingOf.l0 k2 y330 t327 (rd t327 x8_2) (wrap64 (x9_2+1)) l0_0 l0_1) else (none)) = some (r1,r2):=by (try rw [hy330]);first|with_reducible exact H|with_reducible exact zS_ H|exact H
           have Ny330:=zA hy330
           clear hy330
           by_cases c35:x8_2 < (t327.length:Int)
           ·rw [if_pos c35] at H
            have c35b0:decide (x8_2 < (t327.length:Int)) = true:=zO c35
            clear c35
            have H':=zA H
            clear H
            obtain ⟨Ao36,co36,eo36⟩:=zg HO_6.out
            subst eo36
            have p34:0≤(x8_2:Int):=zE (by with_reducible assumption)
            have q34:(x8_2:Int) < ((x6_2.length:Int):Int):=zE (by with_reducible assumption)
            obtain ⟨go34,co34,eo34,gb34,gl34,cl34,HG34⟩:=Kd.R_form HO_6.out (by omega)
            (first|cases eo34|(injection eo34 with ea_ en_ ec_;(first|subst ea_|(injection ea_ with ea_;subst ea_));subst ec_;clear en_))
            have GB34:=zA gb34
            have GG34:=zA HG34
            clear gb34 gl34 HG34
            obtain ⟨hx34_0,hf34_0⟩:=Kd.R_celln 0 HO_6.out (x8_2:Int) p34 q34
            replace p34:=eq_true p34
            replace q34:=eq_true q34
            have HP37:=Kd.R_putg HO_6.out (x8_2:Int) x9_2
            go_wp2_with (first|((with_reducible refine gate_store (t:=3) (p:=46) rfl ?_);refine store_event (t:=3) (p:=46) (v:=?vo_w38) (w1:=(wr.setCell ⟨go34,(x8_2:Int).toNat,none⟩ (.int .i64 x9_2))) ?hg ?ho ?hn ?hr ?_;(case ho=>rfl);(case hg=>rfl);(case hn=>rfl);(case hr=>first|(go_simp;done)|(go_simp;rfl));intro w38 hw;have hg:wr.grownBy w38 (some go34):=(by rw [hw];exact HP37.2);have hp_:Kd.R (Kd.int .i64) 3 w38 w.heap.size (fun k_=>some k_≠(v328:Value).ownBlock) (.slice (some ⟨go34,0,none⟩) x6_2.length co36) y330:=(by rw [hw,Ny330.out];exact HP37.1);clear HP37;have n0_:=zA (hp_);have n1_:=zA (Kd.R_after (v:=(.slice (some ⟨go34,0,none⟩) x6_2.length co36)) (v1:=(.slice (some ⟨go34,0,none⟩) x6_2.length co36)) (ok:=(fun _=>True)) (by apply zR_;exact zV HO_7.out (fun _ hk=>⟨trivial,hk⟩)) hg (.inl rfl));have n2_:=zA (blk_grown (g:=gb315) (o:=.cells #[.slice A0_0 l0_0.length c0_0,.slice A0_1 l0_1.length c0_1] 27 (0,0)) (by (with_reducible repeat (first|refine zG ?_ _|refine zI ?_|refine zH ?_ _));exact BK315.out) hg (Kd.R_ne HO_6.out BK315.out (by decide)));have n3_:=zA ((by rw [hw];exact zF (HB.out) GB34.out:Below w.heap.size w w38));clear HO_6;clear HO_7;clear BK315;clear HB;have HO_6:=n0_;have HO_7:=n1_;have BK315:=n2_;have HB:=n3_;clear n0_ n1_ n2_ n3_;clear hg hw hp_;obtain ⟨Ao39,co39,eo39⟩:=zg HO_7.out;subst eo39;have p331:0≤(x8_2:Int):=zE (by with_reducible assumption);have q331:x8_2 < (t327.length:Int):=zE (by with_reducible assumption);obtain ⟨ad331,e331,hx331_0⟩:=Kd.at_int (zU HO_7.out).2.2 x8_2 p331 q331;cases e331;replace p331:=eq_true p331;replace q331:=eq_true q331))
            go_roundg k2
            case measure=>have:=HJ2.out;have:=HK2.out;omega
            case rel=>exact ⟨(y330),(rd t327 x8_2),(wrap64 (x9_2+1)),(by first|rfl|(simp;done)|(simp [*];done)),(by first|rfl|(simp;done)|(simp [*];done)),H',⟨by have:=HJ2.out;have:=HK2.out;omega⟩,⟨by apply zR_;exact HO_6.out⟩,⟨by apply zR_;exact zV HO_7.out (fun _ hk=>hk.2)⟩,⟨by (with_reducible repeat (first|refine zG ?_ _|refine zI ?_|refine zH ?_ _));exact BK315.out⟩,⟨by repeat (first|(with_reducible first|exact HB.out|apply zD|apply zB|apply zC|refine zF ?_ GE315.out)|exact HB.out)⟩⟩
           ·rw [if_neg c35] at H
            exact absurd H (by simp)
          ·rw [if_neg c33] at H
           exact absurd H (by simp)
         ·rw [if_neg c32] at H
          exact absurd H (by simp)
        ·rw [if_neg c31] at H
         have c31b0:decide (x9_2 < (x6_2.length:Int)) = false:=zP c31
         clear c31
         replace H:=zz0 H
         obtain ⟨⟨t332,t333⟩,A400,H⟩:=H
         try dsimp only at H
         have A40:=zA A400
         clear A400
         simp only [Option.some.injEq,Prod.mk.injEq] at H
         obtain ⟨rfl,rfl⟩:=H
         obtain ⟨Ao41,co41,eo41⟩:=zg HO_6.out
         subst eo41
         have hcz42_0:wr.cell? ⟨gb315,0,none⟩ = some (.slice A0_0 l0_0.length c0_0):=(zT BK315.out 0).trans rfl
         have hcz42_1:wr.cell? ⟨gb315,1,none⟩ = some (.slice A0_1 l0_1.length c0_1):=(zT BK315.out 1).trans rfl
         have hfz42_0:=zZ BK315.out 0
         have hfz42_1:=zZ BK315.out 1
         go_wp2_with (first|((with_reducible refine gate_callee (f:=111) rfl ?_);refine goesL_ (some 55) rfl rfl Try.func111 (by kernel_rfl) rfl #[.slice A0_1 l0_1.length c0_1,.slice Ao41 x6_2.length co41] rfl (by (try simp only [zJ,zM,zN]);first|done|rfl|(simp only [zL,zK];rfl)) ?_;(with_reducible refine (spec_PermConj.calls k2 _ _ l0_1 _ _ x6_2 t332 t333 _ ?side1 ?side2 ?side3 ?side4 A40.out).mono ?_);(case side1=>repeat (first|exact (zW HR0_1.out HB.out)|(with_reducible exact HR0_1.out)|apply zC_));(case side2=>exact HC0_1.out);(case side3=>repeat (first|exact (zU HO_6.out).2.2|apply zC_));(case side4=>exact (zU HO_6.out).2.1);rintro e w43 ⟨v334,rfl,ho0,hb⟩;refine ⟨_,rfl,?_⟩;have n0_:=zA (Kd.R_elder' (by apply zR_;exact HO_6.out) (zd ho0) hb);have n1_:=zA (Kd.R_elder' (by apply zR_;exact HO_7.out) (zd ho0) hb);have n2_:=zA (ze (zh (zh ho0 (Kd.R_lt (by apply zR_;exact HO_6.out))) (Kd.R_lt (by apply zR_;exact HO_7.out))) (zQ (by repeat (first|(with_reducible first|exact HB.out|apply zD|apply zB|apply zC|refine zF ?_ GE315.out)|exact HB.out))));have n3_:=zA (zX (g:=gb315) (o:=.cells #[.slice A0_0 l0_0.length c0_0,.slice A0_1 l0_1.length c0_1] 27 (0,0)) (by (with_reducible repeat (first|refine zG ?_ _|refine zI ?_|refine zH ?_ _));exact BK315.out) hb);have n4_:=zA (zR (by repeat (first|(with_reducible first|exact HB.out|apply zD|apply zB|apply zC|refine zF ?_ GE315.out)|exact HB.out)) hb);clear HO_6;clear HO_7;clear BK315;clear HB;have HO_6:=n0_;have HO_7:=n1_;have HO335:=n2_;have BK315:=n3_;have HB:=n4_;clear n0_ n1_ n2_ n3_ n4_;(try clear hb);(try clear hb2);(try clear hk);(try clear hi);(try clear ho0)))
         go_ret2
         exact ⟨_,by first|rfl|(simp [errW_none,errW_some] <;> rfl)|(simp [*,errW_none,errW_some] <;> rfl),by apply zR_;exact zV HO335.out (fun _ hk=>trivial),by repeat (first|(with_reducible first|exact HB.out|apply zD|apply zB|apply zC|refine zF ?_ GE315.out)|exact HB.out)⟩
     ·rw [if_neg c24] at H
      exact absurd H (by simp)
    ·rw [if_neg c23] at H
     exact absurd H (by simp)

/-! ### cmp_isNaN_int: function 142 -/
def cmp_isNaN_int.f (a0:Int):Option (Bool):=some (a0 != a0)
set_option maxHeartbeats 8000000 in
set_option maxRecDepth 100000 in
theorem cmp_isNaN_int.calls (a0:Int) (r:Bool) (w:World) (h:cmp_isNaN_int.f a0 = some r) :
  Calls Try.prog 142 #[.int .i64 a0] w fun e w'=>e = .returned (.bool r)∧Drawn0 w w':=by
 have H:(some (a0 != a0)) = some r:=h
 clear h
 obtain rfl:=zS H
 go_enter Try.func142,Try.ntmps142
 go_wp2
 go_ret
 exact ⟨by first|rfl|(simp;done)|(simp [*];done),by repeat (first|exact Drawn0.refl _|apply Drawn0.step)⟩

/-! ### cmp_Compare_int: function 139 -/
def cmp_Compare_int.f (a0:Int) (a1:Int):Option (Int):=(cmp_isNaN_int.f a0).bind fun t336=>((cmp_isNaN_int.f a1).bind fun t337=>(if t336 = true then (if t337 = true then (some 0) else (some (-1))) else (if t337 = true then (some 1) else (if a0 < a1 then (some (-1)) else (if a0 > a1 then (some 1) else (some 0))))))
set_option maxHeartbeats 8000000 in
set_option maxRecDepth 100000 in
theorem cmp_Compare_int.calls (a0:Int) (a1:Int) (r:Int) (w:World) (h:cmp_Compare_int.f a0 a1 = some r) :
  Calls Try.prog 139 #[.int .i64 a0,.int .i64 a1] w fun e w'=>e = .returned (.int .i64 r)∧Drawn0 w w':=by
 have H:((cmp_isNaN_int.f a0).bind fun t336=>((cmp_isNaN_int.f a1).bind fun t337=>(if t336 = true then (if t337 = true then (some 0) else (some (-1))) else (if t337 = true then (some 1) else (if a0 < a1 then (some (-1)) else (if a0 > a1 then (some 1) else (some 0))))))) = some r:=h
 clear h
 replace H:=zz0 H
 obtain ⟨t336,A30,H⟩:=H
 try dsimp only at H
 have A3:=zA A30
 clear A30
 replace H:=zz0 H
 obtain ⟨t337,A40,H⟩:=H
 try dsimp only at H
 have A4:=zA A40
 clear A40
 by_cases c5:t336 = true
 ·subst c5
  rw [if_pos rfl] at H;try dsimp only at H
  by_cases c6:t337 = true
  ·subst c6
   rw [if_pos rfl] at H;try dsimp only at H
   obtain rfl:=zS H
   go_enter Try.func139,Try.ntmps139
   go_wp2_with (first|((with_reducible refine gate_callee (f:=142) rfl ?_);refine goesL_ (some 8) rfl rfl Try.func142 (by kernel_rfl) rfl #[.int .i64 a0] rfl (by (try simp only [zJ,zM,zN]);first|done|rfl|(simp only [zL,zK];rfl)) ?_;(with_reducible refine (cmp_isNaN_int.calls a0 true _ A3.out).mono ?_);rintro e w' ⟨rfl,⟨nd,rfl⟩⟩;refine ⟨_,rfl,?_⟩)|((with_reducible refine gate_callee (f:=142) rfl ?_);refine goesL_ (some 10) rfl rfl Try.func142 (by kernel_rfl) rfl #[.int .i64 a1] rfl (by (try simp only [zJ,zM,zN]);first|done|rfl|(simp only [zL,zK];rfl)) ?_;(with_reducible refine (cmp_isNaN_int.calls a1 true _ A4.out).mono ?_);rintro e w' ⟨rfl,⟨nd,rfl⟩⟩;refine ⟨_,rfl,?_⟩))
   go_ret
   exact ⟨by first|rfl|(simp;done)|(simp [*];done),by repeat (first|exact Drawn0.refl _|apply Drawn0.step)⟩
  ·replace c6:=Bool.eq_false_iff.mpr c6
   subst c6
   have H1:(some (-1)) = some r:=by rw [if_neg (show ¬ (false = true) by decide)] at H;exact H
   clear H
   have H:=H1
   clear H1
   obtain rfl:=zS H
   go_enter Try.func139,Try.ntmps139
   go_wp2_with (first|((with_reducible refine gate_callee (f:=142) rfl ?_);refine goesL_ (some 8) rfl rfl Try.func142 (by kernel_rfl) rfl #[.int .i64 a0] rfl (by (try simp only [zJ,zM,zN]);first|done|rfl|(simp only [zL,zK];rfl)) ?_;(with_reducible refine (cmp_isNaN_int.calls a0 true _ A3.out).mono ?_);rintro e w' ⟨rfl,⟨nd,rfl⟩⟩;refine ⟨_,rfl,?_⟩)|((with_reducible refine gate_callee (f:=142) rfl ?_);refine goesL_ (some 10) rfl rfl Try.func142 (by kernel_rfl) rfl #[.int .i64 a1] rfl (by (try simp only [zJ,zM,zN]);first|done|rfl|(simp only [zL,zK];rfl)) ?_;(with_reducible refine (cmp_isNaN_int.calls a1 false _ A4.out).mono ?_);rintro e w' ⟨rfl,⟨nd,rfl⟩⟩;refine ⟨_,rfl,?_⟩))
   go_ret
   exact ⟨by first|rfl|(simp;done)|(simp [*];done),by repeat (first|exact Drawn0.refl _|apply Drawn0.step)⟩
 ·replace c5:=Bool.eq_false_iff.mpr c5
  subst c5
  have H1:(if t337 = true then (some 1) else (if a0 < a1 then (some (-1)) else (if a0 > a1 then (some 1) else (some 0)))) = some r:=by rw [if_neg (show ¬ (false = true) by decide)] at H;exact H
  clear H
  have H:=H1
  clear H1
  by_cases c7:t337 = true
  ·subst c7
   rw [if_pos rfl] at H;try dsimp only at H
   obtain rfl:=zS H
   go_enter Try.func139,Try.ntmps139
   go_wp2_with (first|((with_reducible refine gate_callee (f:=142) rfl ?_);refine goesL_ (some 8) rfl rfl Try.func142 (by kernel_rfl) rfl #[.int .i64 a0] rfl (by (try simp only [zJ,zM,zN]);first|done|rfl|(simp only [zL,zK];rfl)) ?_;(with_reducible refine (cmp_isNaN_int.calls a0 false _ A3.out).mono ?_);rintro e w' ⟨rfl,⟨nd,rfl⟩⟩;refine ⟨_,rfl,?_⟩)|((with_reducible refine gate_callee (f:=142) rfl ?_);refine goesL_ (some 10) rfl rfl Try.func142 (by kernel_rfl) rfl #[.int .i64 a1] rfl (by (try simp only [zJ,zM,zN]);first|done|rfl|(simp only [zL,zK];rfl)) ?_;(with_reducible refine (cmp_isNaN_int.calls a1 true _ A4.out).mono ?_);rintro e w' ⟨rfl,⟨nd,rfl⟩⟩;refine ⟨_,rfl,?_⟩))
   go_ret
   exact ⟨by first|rfl|(simp;done)|(simp [*];done),by repeat (first|exact Drawn0.refl _|apply Drawn0.step)⟩
  ·replace c7:=Bool.eq_false_iff.mpr c7
   subst c7
   have H1:(if a0 < a1 then (some (-1)) else (if a0 > a1 then (some 1) else (some 0))) = some r:=by rw [if_neg (show ¬ (false = true) by decide)] at H;exact H
   clear H
   have H:=H1
   clear H1
   by_cases c8:a0 < a1
   ·rw [if_pos c8] at H
    have c8b0:decide (a0 < a1) = true:=zO c8
    clear c8
    obtain rfl:=zS H
    go_enter Try.func139,Try.ntmps139
    go_wp2_with (first|((with_reducible refine gate_callee (f:=142) rfl ?_);refine goesL_ (some 8) rfl rfl Try.func142 (by kernel_rfl) rfl #[.int .i64 a0] rfl (by (try simp only [zJ,zM,zN]);first|done|rfl|(simp only [zL,zK];rfl)) ?_;(with_reducible refine (cmp_isNaN_int.calls a0 false _ A3.out).mono ?_);rintro e w' ⟨rfl,⟨nd,rfl⟩⟩;refine ⟨_,rfl,?_⟩)|((with_reducible refine gate_callee (f:=142) rfl ?_);refine goesL_ (some 10) rfl rfl Try.func142 (by kernel_rfl) rfl #[.int .i64 a1] rfl (by (try simp only [zJ,zM,zN]);first|done|rfl|(simp only [zL,zK];rfl)) ?_;(with_reducible refine (cmp_isNaN_int.calls a1 false _ A4.out).mono ?_);rintro e w' ⟨rfl,⟨nd,rfl⟩⟩;refine ⟨_,rfl,?_⟩))
    go_ret
    exact ⟨by first|rfl|(simp;done)|(simp [*];done),by repeat (first|exact Drawn0.refl _|apply Drawn0.step)⟩
   ·rw [if_neg c8] at H
    have c8b0:decide (a0 < a1) = false:=zP c8
    clear c8
    by_cases c9:a0 > a1
    ·rw [if_pos c9] at H
     have c9b0:decide (a1 < a0) = true:=zO c9
     clear c9
     obtain rfl:=zS H
     go_enter Try.func139,Try.ntmps139
     go_wp2_with (first|((with_reducible refine gate_callee (f:=142) rfl ?_);refine goesL_ (some 8) rfl rfl Try.func142 (by kernel_rfl) rfl #[.int .i64 a0] rfl (by (try simp only [zJ,zM,zN]);first|done|rfl|(simp only [zL,zK];rfl)) ?_;(with_reducible refine (cmp_isNaN_int.calls a0 false _ A3.out).mono ?_);rintro e w' ⟨rfl,⟨nd,rfl⟩⟩;refine ⟨_,rfl,?_⟩)|((with_reducible refine gate_callee (f:=142) rfl ?_);refine goesL_ (some 10) rfl rfl Try.func142 (by kernel_rfl) rfl #[.int .i64 a1] rfl (by (try simp only [zJ,zM,zN]);first|done|rfl|(simp only [zL,zK];rfl)) ?_;(with_reducible refine (cmp_isNaN_int.calls a1 false _ A4.out).mono ?_);rintro e w' ⟨rfl,⟨nd,rfl⟩⟩;refine ⟨_,rfl,?_⟩))
     go_ret
     exact ⟨by first|rfl|(simp;done)|(simp [*];done),by repeat (first|exact Drawn0.refl _|apply Drawn0.step)⟩
    ·rw [if_neg c9] at H
     have c9b0:decide (a1 < a0) = false:=zP c9
     clear c9
     obtain rfl:=zS H
     go_enter Try.func139,Try.ntmps139
     go_wp2_with (first|((with_reducible refine gate_callee (f:=142) rfl ?_);refine goesL_ (some 8) rfl rfl Try.func142 (by kernel_rfl) rfl #[.int .i64 a0] rfl (by (try simp only [zJ,zM,zN]);first|done|rfl|(simp only [zL,zK];rfl)) ?_;(with_reducible refine (cmp_isNaN_int.calls a0 false _ A3.out).mono ?_);rintro e w' ⟨rfl,⟨nd,rfl⟩⟩;refine ⟨_,rfl,?_⟩)|((with_reducible refine gate_callee (f:=142) rfl ?_);refine goesL_ (some 10) rfl rfl Try.func142 (by kernel_rfl) rfl #[.int .i64 a1] rfl (by (try simp only [zJ,zM,zN]);first|done|rfl|(simp only [zL,zK];rfl)) ?_;(with_reducible refine (cmp_isNaN_int.calls a1 false _ A4.out).mono ?_);rintro e w' ⟨rfl,⟨nd,rfl⟩⟩;refine ⟨_,rfl,?_⟩))
     go_ret
     exact ⟨by first|rfl|(simp;done)|(simp [*];done),by repeat (first|exact Drawn0.refl _|apply Drawn0.step)⟩

/-! ### slices_Compare_int_int: function 134 -/
def slices_Compare_int_int.l0:Nat→List Int→List Int→List Int→Int→Int→Option (Int)
 | 0,_,_,_,_,_=>none
 | k+1,x0,x1,x9,x10,x11=>if x11 < x10 then (if 0≤x11 then (if x11 < (x9.length:Int) then (if x11 ≥ (x1.length:Int) then (some 1) else (if x11 < (x1.length:Int) then ((cmp_Compare_int.f (rd x9 x11) (rd x1 x11)).bind fun t340=>(if t340 = 0 then (slices_Compare_int_int.l0 k x0 x1 x9 x10 (wrap64 (x11+1))) else (some t340))) else (none))) else (none)) else (none)) else (if (x0.length:Int) < (x1.length:Int) then (some (-1)) else (some 0))
def slices_Compare_int_int.f (k:Nat) (l0:List Int) (l1:List Int):Option (Int):=slices_Compare_int_int.l0 k l0 l1 l0 (l0.length:Int) 0
theorem slices_Compare_int_int.mono_l:∀ k,(∀ y0 y1 y2 y3 y4,LeO (slices_Compare_int_int.l0 k y0 y1 y2 y3 y4) (slices_Compare_int_int.l0 (k+1) y0 y1 y2 y3 y4))
 | 0=>fun _ _ _ _ _ r h=>by simp [slices_Compare_int_int.l0] at h
 | k+1=>by
  have ih0:=slices_Compare_int_int.mono_l k
  ·intro y0 y1 y2 y3 y4
   unfold slices_Compare_int_int.l0
   repeat' first
   | (with_reducible exact ih0 _ _ _ _ _)
   | (with_reducible exact LeO.refl _)
   | (with_reducible exact za _)
   | (with_reducible refine zc ?_ ?_)
   | (with_reducible refine zb ?_ (fun _=>?_))
theorem slices_Compare_int_int.mono:∀ a0 a1 k,LeO (slices_Compare_int_int.f k a0 a1) (slices_Compare_int_int.f (k+1) a0 a1):=by
 intro a0 a1 k
 have ih0:=slices_Compare_int_int.mono_l k
 unfold slices_Compare_int_int.f
 repeat' first
   | (with_reducible exact ih0 _ _ _ _ _)
   | (with_reducible exact LeO.refl _)
   | (with_reducible exact za _)
   | (with_reducible refine zc ?_ ?_)
   | (with_reducible refine zb ?_ (fun _=>?_))
set_option maxHeartbeats 8000000 in
set_option maxRecDepth 100000 in
theorem slices_Compare_int_int.calls (k:Nat) (A0:Option Addr) (c0:Nat) (l0:List Int) (A1:Option Addr) (c1:Nat) (l1:List Int) (r:Int) (w:World) (hr0:Kd.C (Kd.int .i64) w A0 l0.length l0) (hc0:l0.length≤c0) (hr1:Kd.C (Kd.int .i64) w A1 l1.length l1) (hc1:l1.length≤c1) (h:slices_Compare_int_int.f k l0 l1 = some r) :
  Calls Try.prog 134 #[.slice A0 l0.length c0,.slice A1 l1.length c1] w fun e w'=>e = .returned (.int .i64 r)∧Drawn0 w w':=by
 have HR0:=zA hr0
 have HC0:=zA hc0
 clear hr0 hc0
 have HR1:=zA hr1
 have HC1:=zA hc1
 clear hr1 hc1
 have H:(slices_Compare_int_int.l0 k l0 l1 l0 (l0.length:Int) 0) = some r:=h
 clear h
 have H':=zA H
 clear H
 go_enter Try.func134,Try.ntmps134
 go_wp2
 go_loopg [11] k (fun kq v11 w' => ∃ (x11_1:Int),v11 = .int .i64 x11_1∧Aside0 (slices_Compare_int_int.l0 kq l0 l1 l0 (l0.length:Int) x11_1 = some r)∧Aside0 (kq≤k)∧Drawn0 w w')
 case atStart=>exact ⟨(0),(by first|rfl|(simp;done)|(simp [*];done)),H',⟨Nat.le_refl _⟩,by repeat (first|exact Drawn0.refl _|apply Drawn0.step)⟩
 case round =>
  clear H'
  (try clear c1);(try clear p2)
  obtain ⟨x11_1,rfl,HA,HK1,⟨m1,rfl⟩⟩:=hrel
  cases gk with
  | zero=>exact absurd HA.out (by simp [slices_Compare_int_int.l0])
  | succ k1 =>
   have H:=HA.out
   clear HA
   simp only [slices_Compare_int_int.l0] at H
   by_cases c3:x11_1 < (l0.length:Int)
   ·rw [if_pos c3] at H
    have c3b0:decide (x11_1 < (l0.length:Int)) = true:=zO c3
    clear c3
    by_cases c4:0≤x11_1
    ·rw [if_pos c4] at H
     have c4b0:decide (0≤x11_1) = true:=zO c4
     clear c4
     by_cases c5:x11_1 < (l0.length:Int)
     ·rw [if_pos c5] at H
      have c5b0:decide (x11_1 < (l0.length:Int)) = true:=zO c5
      clear c5
      by_cases c6:x11_1 ≥ (l1.length:Int)
      ·rw [if_pos c6] at H
       have c6b0:decide ((l1.length:Int)≤x11_1) = true:=zO c6
       clear c6
       obtain rfl:=zS H
       have p338:0≤(x11_1:Int):=zE (by with_reducible assumption)
       have q338:x11_1 < (l0.length:Int):=zE (by with_reducible assumption)
       obtain ⟨ad338,e338,hx338_0⟩:=Kd.at_int HR0.out x11_1 p338 q338
       cases e338
       replace p338:=eq_true p338
       replace q338:=eq_true q338
       go_wp2
       go_ret
       exact ⟨by first|rfl|(simp;done)|(simp [*];done),by repeat (first|exact Drawn0.refl _|apply Drawn0.step)⟩
      ·rw [if_neg c6] at H
       have c6b0:decide ((l1.length:Int)≤x11_1) = false:=zP c6
       clear c6
       by_cases c7:x11_1 < (l1.length:Int)
       ·rw [if_pos c7] at H
        have c7b0:decide (x11_1 < (l1.length:Int)) = true:=zO c7
        clear c7
        replace H:=zz0 H
        obtain ⟨t340,A80,H⟩:=H
        try dsimp only at H
        have A8:=zA A80
        clear A80
        by_cases c9:t340 = 0
        ·rw [if_pos c9] at H
         have c9b0:(t340 == 0) = true:=beq_iff_eq.mpr c9
         have c9b1:(t340 != 0) = false:=bne_eq_false_iff_eq.mpr c9
         clear c9
         have H':=zA H
         clear H
         have p338:0≤(x11_1:Int):=zE (by with_reducible assumption)
         have q338:x11_1 < (l0.length:Int):=zE (by with_reducible assumption)
         obtain ⟨ad338,e338,hx338_0⟩:=Kd.at_int HR0.out x11_1 p338 q338
         cases e338
         replace p338:=eq_true p338
         replace q338:=eq_true q338
         have p339:0≤(x11_1:Int):=zE (by with_reducible assumption)
         have q339:x11_1 < (l1.length:Int):=zE (by with_reducible assumption)
         obtain ⟨ad339,e339,hx339_0⟩:=Kd.at_int HR1.out x11_1 p339 q339
         cases e339
         replace p339:=eq_true p339
         replace q339:=eq_true q339
         go_wp2_with (first|((with_reducible refine gate_callee (f:=139) rfl ?_);refine goesL_ (some 26) rfl rfl Try.func139 (by kernel_rfl) rfl #[.int .i64 (rd l0 x11_1),.int .i64 (rd l1 x11_1)] rfl (by (try simp only [zJ,zM,zN]);first|done|rfl|(simp only [zL,zK];rfl)) ?_;(with_reducible refine (cmp_Compare_int.calls (rd l0 x11_1) (rd l1 x11_1) t340 _ A8.out).mono ?_);rintro e w' ⟨rfl,⟨nd,rfl⟩⟩;refine ⟨_,rfl,?_⟩))
         go_roundg k1
         case measure=>have:=HK1.out;omega
         case rel=>exact ⟨(wrap64 (x11_1+1)),(by first|rfl|(simp;done)|(simp [*];done)),H',⟨by have:=HK1.out;omega⟩,by repeat (first|exact Drawn0.refl _|apply Drawn0.step)⟩
        ·rw [if_neg c9] at H
         have c9b0:(t340 == 0) = false:=beq_eq_false_iff_ne.mpr c9
         have c9b1:(t340 != 0) = true:=bne_iff_ne.mpr c9
         obtain rfl:=zS H
         have p338:0≤(x11_1:Int):=zE (by with_reducible assumption)
         have q338:x11_1 < (l0.length:Int):=zE (by with_reducible assumption)
         obtain ⟨ad338,e338,hx338_0⟩:=Kd.at_int HR0.out x11_1 p338 q338
         cases e338
         replace p338:=eq_true p338
         replace q338:=eq_true q338
         have p339:0≤(x11_1:Int):=zE (by with_reducible assumption)
         have q339:x11_1 < (l1.length:Int):=zE (by with_reducible assumption)
         obtain ⟨ad339,e339,hx339_0⟩:=Kd.at_int HR1.out x11_1 p339 q339
         cases e339
         replace p339:=eq_true p339
         replace q339:=eq_true q339
         go_wp2_with (first|((with_reducible refine gate_callee (f:=139) rfl ?_);refine goesL_ (some 26) rfl rfl Try.func139 (by kernel_rfl) rfl #[.int .i64 (rd l0 x11_1),.int .i64 (rd l1 x11_1)] rfl (by (try simp only [zJ,zM,zN]);first|done|rfl|(simp only [zL,zK];rfl)) ?_;(with_reducible refine (cmp_Compare_int.calls (rd l0 x11_1) (rd l1 x11_1) t340 _ A8.out).mono ?_);rintro e w' ⟨rfl,⟨nd,rfl⟩⟩;refine ⟨_,rfl,?_⟩))
         go_ret
         exact ⟨by first|rfl|(simp;done)|(simp [*];done),by repeat (first|exact Drawn0.refl _|apply Drawn0.step)⟩
       ·rw [if_neg c7] at H
        exact absurd H (by simp)
     ·rw [if_neg c5] at H
      exact absurd H (by simp)
    ·rw [if_neg c4] at H
     exact absurd H (by simp)
   ·rw [if_neg c3] at H
    have c3b0:decide (x11_1 < (l0.length:Int)) = false:=zP c3
    clear c3
    by_cases c10:(l0.length:Int) < (l1.length:Int)
    ·rw [if_pos c10] at H
     have c10b0:decide ((l0.length:Int) < (l1.length:Int)) = true:=zO c10
     have c10b1:decide (l0.length < l1.length) = true:=zO (Int.ofNat_lt.mp c10)
     clear c10
     obtain rfl:=zS H
     go_wp2
     go_ret
     exact ⟨by first|rfl|(simp;done)|(simp [*];done),by repeat (first|exact Drawn0.refl _|apply Drawn0.step)⟩
    ·rw [if_neg c10] at H
     have c10b0:decide ((l0.length:Int) < (l1.length:Int)) = false:=zP c10
     have c10b1:decide (l0.length < l1.length) = false:=zP (fun h=>c10 (Int.ofNat_lt.mpr h))
     clear c10
     obtain rfl:=zS H
     go_wp2
     go_ret
     exact ⟨by first|rfl|(simp;done)|(simp [*];done),by repeat (first|exact Drawn0.refl _|apply Drawn0.step)⟩

/-! ### impl_compareMaps: function 113 -/
def impl_compareMaps.f (k:Nat) (l0_0:List Int) (l0_1:List Int) (l1_0:List Int) (l1_1:List Int):Option (Int):=(slices_Compare_int_int.f k l0_0 l1_0).bind fun t343=>(if t343 = 0 then ((slices_Compare_int_int.f k l0_1 l1_1).bind fun t344=>(some t344)) else (some t343))
theorem impl_compareMaps.mono:∀ a0 a1 a2 a3 k,LeO (impl_compareMaps.f k a0 a1 a2 a3) (impl_compareMaps.f (k+1) a0 a1 a2 a3):=by
 intro a0 a1 a2 a3 k
 unfold impl_compareMaps.f
 repeat' first
   | (with_reducible exact slices_Compare_int_int.mono _ _ _)
   | (with_reducible exact LeO.refl _)
   | (with_reducible exact za _)
   | (with_reducible refine zc ?_ ?_)
   | (with_reducible refine zb ?_ (fun _=>?_))
set_option maxHeartbeats 8000000 in
set_option maxRecDepth 100000 in
theorem impl_compareMaps.calls (k:Nat) (A0_0:Option Addr) (c0_0:Nat) (l0_0:List Int) (A0_1:Option Addr) (c0_1:Nat) (l0_1:List Int) (A1_0:Option Addr) (c1_0:Nat) (l1_0:List Int) (A1_1:Option Addr) (c1_1:Nat) (l1_1:List Int) (r:Int) (w:World) (hr0_0:Kd.C (Kd.int .i64) w A0_0 l0_0.length l0_0) (hc0_0:l0_0.length≤c0_0) (hr0_1:Kd.C (Kd.int .i64) w A0_1 l0_1.length l0_1) (hc0_1:l0_1.length≤c0_1) (hr1_0:Kd.C (Kd.int .i64) w A1_0 l1_0.length l1_0) (hc1_0:l1_0.length≤c1_0) (hr1_1:Kd.C (Kd.int .i64) w A1_1 l1_1.length l1_1) (hc1_1:l1_1.length≤c1_1) (h:impl_compareMaps.f k l0_0 l0_1 l1_0 l1_1 = some r) :
  Calls Try.prog 113 #[.agg #[.slice A0_0 l0_0.length c0_0,.slice A0_1 l0_1.length c0_1],.agg #[.slice A1_0 l1_0.length c1_0,.slice A1_1 l1_1.length c1_1]] w fun e w'=>e = .returned (.int .i64 r)∧Below w.heap.size w w':=by
 have hu27:=Try.underlying27
 have HR0_0:=zA hr0_0
 have HC0_0:=zA hc0_0
 clear hr0_0 hc0_0
 have HR0_1:=zA hr0_1
 have HC0_1:=zA hc0_1
 clear hr0_1 hc0_1
 have HR1_0:=zA hr1_0
 have HC1_0:=zA hc1_0
 clear hr1_0 hc1_0
 have HR1_1:=zA hr1_1
 have HC1_1:=zA hc1_1
 clear hr1_1 hc1_1
 have HB:=zA (Below.refl w.heap.size w)
 have H:((slices_Compare_int_int.f k l0_0 l1_0).bind fun t343=>(if t343 = 0 then ((slices_Compare_int_int.f k l0_1 l1_1).bind fun t344=>(some t344)) else (some t343))) = some r:=h
 clear h
 replace H:=zz0 H
 obtain ⟨t343,A30,H⟩:=H
 try dsimp only at H
 have A3:=zA A30
 clear A30
 by_cases c4:t343 = 0
 ·rw [if_pos c4] at H
  have c4b0:(t343 == 0) = true:=beq_iff_eq.mpr c4
  have c4b1:(t343 != 0) = false:=bne_eq_false_iff_eq.mpr c4
  clear c4
  replace H:=zz0 H
  obtain ⟨t344,A50,H⟩:=H
  try dsimp only at H
  have A5:=zA A50
  clear A50
  obtain rfl:=zS H
  go_enter Try.func113,Try.ntmps113
  go_wp2_with (first|((with_reducible refine gate_dst (N:=2) rfl ?_);refine box_event ?hg (N:=2) ?hd (cs:=#[.slice A0_0 l0_0.length c0_0,.slice A0_1 l0_1.length c0_1]) (t:=27) ?hr ?_;(case hd=>rfl);(case hg=>rfl);(case hr=>first|(go_simp;done)|(go_simp;rfl));intro gb341 hg w6 hbox hb;have n0_:=zA (zR (by exact zB_ HB.out) hb);have n1_:=zA (hbox);have n2_:=zA ((by rw [hg];exact (zQ (by exact zB_ HB.out)):w.heap.size≤gb341));have n3_:=zA ((by rw [hg];exact (zQ (by exact zB_ HB.out)):w.heap.size≤gb341));clear HB;have HB:=n0_;have BK341:=n1_;have GW341:=n2_;have GE341:=n3_;clear n0_ n1_ n2_ n3_;clear hb hbox hg)|((with_reducible refine gate_dst (N:=3) rfl ?_);refine box_event ?hg (N:=3) ?hd (cs:=#[.slice A1_0 l1_0.length c1_0,.slice A1_1 l1_1.length c1_1]) (t:=27) ?hr ?_;(case hd=>rfl);(case hg=>rfl);(case hr=>first|(go_simp;done)|(go_simp;rfl));intro gb342 hg w7 hbox hb;have n0_:=zA (zX (g:=gb341) (o:=.cells #[.slice A0_0 l0_0.length c0_0,.slice A0_1 l0_1.length c0_1] 27 (0,0)) (by (with_reducible repeat (first|refine zG ?_ _|refine zI ?_|refine zH ?_ _));exact BK341.out) hb);have n1_:=zA (zR (by repeat (first|(with_reducible first|exact HB.out|apply zD|apply zB|apply zC|refine zF ?_ GE341.out)|exact HB.out)) hb);have n2_:=zA (hbox);have n3_:=zA ((by rw [hg];exact (zQ (by repeat (first|(with_reducible first|exact HB.out|apply zD|apply zB|apply zC|refine zF ?_ GE341.out)|exact HB.out))):w.heap.size≤gb342));have n4_:=zA ((by rw [hg];exact (zQ (by repeat (first|(with_reducible first|exact HB.out|apply zD|apply zB|apply zC|refine zF ?_ GE341.out)|exact HB.out))):w.heap.size≤gb342));have n5_:=zA ((by rw [hg];exact Nat.ne_of_lt (blk_lt (g:=gb341) (o:=.cells #[.slice A0_0 l0_0.length c0_0,.slice A0_1 l0_1.length c0_1] 27 (0,0)) (by (with_reducible repeat (first|refine zG ?_ _|refine zI ?_|refine zH ?_ _));exact BK341.out)):gb341≠gb342));have n6_:=zA ((by rw [hg];exact Nat.ne_of_gt (blk_lt (g:=gb341) (o:=.cells #[.slice A0_0 l0_0.length c0_0,.slice A0_1 l0_1.length c0_1] 27 (0,0)) (by (with_reducible repeat (first|refine zG ?_ _|refine zI ?_|refine zH ?_ _));exact BK341.out)):gb342≠gb341));clear BK341;clear HB;have BK341:=n0_;have HB:=n1_;have BK342:=n2_;have GW342:=n3_;have GE342:=n4_;have NB341_342:=n5_;have NB342_341:=n6_;clear n0_ n1_ n2_ n3_ n4_ n5_ n6_;clear hb hbox hg;have hnb8:=NB341_342.out;have hnc8:=NB342_341.out;have hcz9_0:w7.cell? ⟨gb341,0,none⟩ = some (.slice A0_0 l0_0.length c0_0):=(zT BK341.out 0).trans rfl;have hcz9_1:w7.cell? ⟨gb341,1,none⟩ = some (.slice A0_1 l0_1.length c0_1):=(zT BK341.out 1).trans rfl;have hfz9_0:=zZ BK341.out 0;have hfz9_1:=zZ BK341.out 1;have hcz10_0:w7.cell? ⟨gb342,0,none⟩ = some (.slice A1_0 l1_0.length c1_0):=(zT BK342.out 0).trans rfl;have hcz10_1:w7.cell? ⟨gb342,1,none⟩ = some (.slice A1_1 l1_1.length c1_1):=(zT BK342.out 1).trans rfl;have hfz10_0:=zZ BK342.out 0;have hfz10_1:=zZ BK342.out 1)|((with_reducible refine gate_callee (f:=134) rfl ?_);refine goesL_ (some 10) rfl rfl Try.func134 (by kernel_rfl) rfl #[.slice A0_0 l0_0.length c0_0,.slice A1_0 l1_0.length c1_0] rfl (by (try simp only [zJ,zM,zN]);first|done|rfl|(simp only [zL,zK];rfl)) ?_;(with_reducible refine (slices_Compare_int_int.calls k _ _ l0_0 _ _ l1_0 t343 _ ?side1 ?side2 ?side3 ?side4 A3.out).mono ?_);(case side1=>repeat (first|exact (zW HR0_0.out HB.out)|(with_reducible exact HR0_0.out)|apply zC_));(case side2=>exact HC0_0.out);(case side3=>repeat (first|exact (zW HR1_0.out HB.out)|(with_reducible exact HR1_0.out)|apply zC_));(case side4=>exact HC1_0.out);rintro e w' ⟨rfl,⟨nd,rfl⟩⟩;refine ⟨_,rfl,?_⟩)|((with_reducible refine gate_callee (f:=134) rfl ?_);refine goesL_ (some 18) rfl rfl Try.func134 (by kernel_rfl) rfl #[.slice A0_1 l0_1.length c0_1,.slice A1_1 l1_1.length c1_1] rfl (by (try simp only [zJ,zM,zN]);first|done|rfl|(simp only [zL,zK];rfl)) ?_;(with_reducible refine (slices_Compare_int_int.calls k _ _ l0_1 _ _ l1_1 t344 _ ?side1 ?side2 ?side3 ?side4 A5.out).mono ?_);(case side1=>repeat (first|exact (zW HR0_1.out (by repeat (first|(with_reducible first|exact HB.out|apply zD|apply zB|apply zC|refine zF ?_ GE341.out|refine zF ?_ GE342.out)|exact HB.out)))|apply zC_));(case side2=>exact HC0_1.out);(case side3=>repeat (first|exact (zW HR1_1.out (by repeat (first|(with_reducible first|exact HB.out|apply zD|apply zB|apply zC|refine zF ?_ GE341.out|refine zF ?_ GE342.out)|exact HB.out)))|apply zC_));(case side4=>exact HC1_1.out);rintro e w' ⟨rfl,⟨nd,rfl⟩⟩;refine ⟨_,rfl,?_⟩))
  go_ret
  exact ⟨by first|rfl|(simp [errW_none,errW_some] <;> rfl)|(simp [*,errW_none,errW_some] <;> rfl),by repeat (first|(with_reducible first|exact HB.out|apply zD|apply zB|apply zC|refine zF ?_ GE341.out|refine zF ?_ GE342.out)|exact HB.out)⟩
 ·rw [if_neg c4] at H
  have c4b0:(t343 == 0) = false:=beq_eq_false_iff_ne.mpr c4
  have c4b1:(t343 != 0) = true:=bne_iff_ne.mpr c4
  obtain rfl:=zS H
  go_enter Try.func113,Try.ntmps113
  go_wp2_with (first|((with_reducible refine gate_dst (N:=2) rfl ?_);refine box_event ?hg (N:=2) ?hd (cs:=#[.slice A0_0 l0_0.length c0_0,.slice A0_1 l0_1.length c0_1]) (t:=27) ?hr ?_;(case hd=>rfl);(case hg=>rfl);(case hr=>first|(go_simp;done)|(go_simp;rfl));intro gb341 hg w11 hbox hb;have n0_:=zA (zR (by exact zB_ HB.out) hb);have n1_:=zA (hbox);have n2_:=zA ((by rw [hg];exact (zQ (by exact zB_ HB.out)):w.heap.size≤gb341));have n3_:=zA ((by rw [hg];exact (zQ (by exact zB_ HB.out)):w.heap.size≤gb341));clear HB;have HB:=n0_;have BK341:=n1_;have GW341:=n2_;have GE341:=n3_;clear n0_ n1_ n2_ n3_;clear hb hbox hg)|((with_reducible refine gate_dst (N:=3) rfl ?_);refine box_event ?hg (N:=3) ?hd (cs:=#[.slice A1_0 l1_0.length c1_0,.slice A1_1 l1_1.length c1_1]) (t:=27) ?hr ?_;(case hd=>rfl);(case hg=>rfl);(case hr=>first|(go_simp;done)|(go_simp;rfl));intro gb342 hg w12 hbox hb;have n0_:=zA (zX (g:=gb341) (o:=.cells #[.slice A0_0 l0_0.length c0_0,.slice A0_1 l0_1.length c0_1] 27 (0,0)) (by (with_reducible repeat (first|refine zG ?_ _|refine zI ?_|refine zH ?_ _));exact BK341.out) hb);have n1_:=zA (zR (by repeat (first|(with_reducible first|exact HB.out|apply zD|apply zB|apply zC|refine zF ?_ GE341.out)|exact HB.out)) hb);have n2_:=zA (hbox);have n3_:=zA ((by rw [hg];exact (zQ (by repeat (first|(with_reducible first|exact HB.out|apply zD|apply zB|apply zC|refine zF ?_ GE341.out)|exact HB.out))):w.heap.size≤gb342));have n4_:=zA ((by rw [hg];exact (zQ (by repeat (first|(with_reducible first|exact HB.out|apply zD|apply zB|apply zC|refine zF ?_ GE341.out)|exact HB.out))):w.heap.size≤gb342));have n5_:=zA ((by rw [hg];exact Nat.ne_of_lt (blk_lt (g:=gb341) (o:=.cells #[.slice A0_0 l0_0.length c0_0,.slice A0_1 l0_1.length c0_1] 27 (0,0)) (by (with_reducible repeat (first|refine zG ?_ _|refine zI ?_|refine zH ?_ _));exact BK341.out)):gb341≠gb342));have n6_:=zA ((by rw [hg];exact Nat.ne_of_gt (blk_lt (g:=gb341) (o:=.cells #[.slice A0_0 l0_0.length c0_0,.slice A0_1 l0_1.length c0_1] 27 (0,0)) (by (with_reducible repeat (first|refine zG ?_ _|refine zI ?_|refine zH ?_ _));exact BK341.out)):gb342≠gb341));clear BK341;clear HB;have BK341:=n0_;have HB:=n1_;have BK342:=n2_;have GW342:=n3_;have GE342:=n4_;have NB341_342:=n5_;have NB342_341:=n6_;clear n0_ n1_ n2_ n3_ n4_ n5_ n6_;clear hb hbox hg;have hnb13:=NB341_342.out;have hnc13:=NB342_341.out;have hcz14_0:w12.cell? ⟨gb341,0,none⟩ = some (.slice A0_0 l0_0.length c0_0):=(zT BK341.out 0).trans rfl;have hcz14_1:w12.cell? ⟨gb341,1,none⟩ = some (.slice A0_1 l0_1.length c0_1):=(zT BK341.out 1).trans rfl;have hfz14_0:=zZ BK341.out 0;have hfz14_1:=zZ BK341.out 1;have hcz15_0:w12.cell? ⟨gb342,0,none⟩ = some (.slice A1_0 l1_0.length c1_0):=(zT BK342.out 0).trans rfl;have hcz15_1:w12.cell? ⟨gb342,1,none⟩ = some (.slice A1_1 l1_1.length c1_1):=(zT BK342.out 1).trans rfl;have hfz15_0:=zZ BK342.out 0;have hfz15_1:=zZ BK342.out 1)|((with_reducible refine gate_callee (f:=134) rfl ?_);refine goesL_ (some 10) rfl rfl Try.func134 (by kernel_rfl) rfl #[.slice A0_0 l0_0.length c0_0,.slice A1_0 l1_0.length c1_0] rfl (by (try simp only [zJ,zM,zN]);first|done|rfl|(simp only [zL,zK];rfl)) ?_;(with_reducible refine (slices_Compare_int_int.calls k _ _ l0_0 _ _ l1_0 t343 _ ?side1 ?side2 ?side3 ?side4 A3.out).mono ?_);(case side1=>repeat (first|exact (zW HR0_0.out HB.out)|(with_reducible exact HR0_0.out)|apply zC_));(case side2=>exact HC0_0.out);(case side3=>repeat (first|exact (zW HR1_0.out HB.out)|(with_reducible exact HR1_0.out)|apply zC_));(case side4=>exact HC1_0.out);rintro e w' ⟨rfl,⟨nd,rfl⟩⟩;refine ⟨_,rfl,?_⟩))
  go_ret
  exact ⟨by first|rfl|(simp [errW_none,errW_some] <;> rfl)|(simp [*,errW_none,errW_some] <;> rfl),by repeat (first|(with_reducible first|exact HB.out|apply zD|apply zB|apply zC|refine zF ?_ GE341.out|refine zF ?_ GE342.out)|exact HB.out)⟩

end Go.Proofs.Ytonlecigglbohaa.Q
