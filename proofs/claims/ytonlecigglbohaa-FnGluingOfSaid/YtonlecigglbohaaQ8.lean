import Derived.Test.YtonlecigglbohaaQ0
import Derived.Test.YtonlecigglbohaaQ7
import Derived.Test.YtonlecigglbohaaZ
namespace Go.Proofs.Ytonlecigglbohaa.Q
open Go.RowKit Go.Proofs.YtonlecigglbohaaW.PrintWords Go.Proofs.YtonlecigglbohaaW.PrintLast Go.Proofs.YtonlecigglbohaaW.PrintMore
attribute [local go_sem] max2_int min2_int max_two min_two max_three min_three max_four min_four   -- for this text's walks alone
set_option linter.unusedVariables false
set_option linter.unusedSimpArgs false

/-! ### spec_l91Gluing: function 77 -/
mutual
def spec_l91Gluing.l0:Nat→Int→List Int→List Int→Int→List Int→Int→Option (List Int × Int)
 | 0,_,_,_,_,_,_=>none
 | k+1,x5,x6,x7,x8,x1000,x1001=>if x8 < x5 then (if (x7.length:Int) > 0 then ((spec_l6Rd_pick.f k x1000 x1001 2).bind fun bt485=>(if bt485.1 = 0 then (if 0≤(wrap64 ((x7.length:Int) - 1)) then (if (wrap64 ((x7.length:Int) - 1)) < (x7.length:Int) then (if (wrap64 ((x7.length:Int) - 1))≤(x7.length:Int) then (if 0≤x8 then (if x8 < (x6.length:Int) then (if 0≤(rd x7 (wrap64 ((x7.length:Int) - 1))) then (if (rd x7 (wrap64 ((x7.length:Int) - 1))) < (x6.length:Int) then (spec_l91Gluing.l0 k x5 ((x6.set (x8:Int).toNat (rd x7 (wrap64 ((x7.length:Int) - 1)))).set ((rd x7 (wrap64 ((x7.length:Int) - 1))):Int).toNat x8) (x7.take ((wrap64 ((x7.length:Int) - 1)):Int).toNat) (wrap64 (x8+1)) x1000 bt485.2) else (none)) else (none)) else (none)) else (none)) else (none)) else (none)) else (none)) else (if (x7.length:Int) = (wrap64 (x5 - x8)) then (if 0≤(wrap64 ((x7.length:Int) - 1)) then (if (wrap64 ((x7.length:Int) - 1)) < (x7.length:Int) then (if (wrap64 ((x7.length:Int) - 1))≤(x7.length:Int) then (if 0≤x8 then (if x8 < (x6.length:Int) then (if 0≤(rd x7 (wrap64 ((x7.length:Int) - 1))) then (if (rd x7 (wrap64 ((x7.length:Int) - 1))) < (x6.length:Int) then (spec_l91Gluing.l0 k x5 ((x6.set (x8:Int).toNat (rd x7 (wrap64 ((x7.length:Int) - 1)))).set ((rd x7 (wrap64 ((x7.length:Int) - 1))):Int).toNat x8) (x7.take ((wrap64 ((x7.length:Int) - 1)):Int).toNat) (wrap64 (x8+1)) x1000 bt485.2) else (none)) else (none)) else (none)) else (none)) else (none)) else (none)) else (none)) else (if x7.length < 17592186044416 then (spec_l91Gluing.l0 k x5 x6 (x7 ++ [x8]) (wrap64 (x8+1)) x1000 bt485.2) else (none))))) else (if x7.length < 17592186044416 then (spec_l91Gluing.l0 k x5 x6 (x7 ++ [x8]) (wrap64 (x8+1)) x1000 x1001) else (none))) else (some (x6,x1001))
def spec_l91Gluing.l1:Nat→Int→List Int→List Int→Int→List Int→Int→Option (List Int × Int)
 | 0,_,_,_,_,_,_=>none
 | k+1,x5,x6,x10,x11,x1000,x1001=>if (wrap64 (x11+1)) < x5 then (if 0≤x11 then (if x11 < (x10.length:Int) then (if 0≤(wrap64 (x11+1)) then (if (wrap64 (x11+1)) < (x10.length:Int) then (if 0≤(rd x10 x11) then (if (rd x10 x11) < (x6.length:Int) then (if 0≤(rd x10 (wrap64 (x11+1))) then (if (rd x10 (wrap64 (x11+1))) < (x6.length:Int) then (spec_l91Gluing.l1 k x5 ((x6.set ((rd x10 x11):Int).toNat (rd x10 (wrap64 (x11+1)))).set ((rd x10 (wrap64 (x11+1))):Int).toNat (rd x10 x11)) x10 (wrap64 (x11+2)) x1000 x1001) else (none)) else (none)) else (none)) else (none)) else (none)) else (none)) else (none)) else (none)) else ((spec_l6Rd_pick.f k x1000 x1001 20).bind fun bt515=>(if bt515.1 = 0 then ((some (([0,(-1),x5]:List Int):List Int)).bind fun y517=>((spec_l6Rd_pick.f k x1000 bt515.2 3).bind fun bt520=>(if 0≤bt520.1 then (if bt520.1 < (y517.length:Int) then (if 0 < (x6.length:Int) then (some ((x6.set (0:Int).toNat (rd y517 bt520.1)),bt520.2)) else (none)) else (none)) else (none)))) else (some (x6,bt515.2))))
end
def spec_l91Gluing.f (k:Nat) (s0_0:List Int) (s0_1:Int) (a1:Int):Option (List Int × Int):=(spec_l6Rd_pick.f k s0_0 s0_1 a1).bind fun bt475=>(if 0≤(wrap64 (2 * (wrap64 (1+bt475.1)))) then (if (wrap64 (2 * (wrap64 (1+bt475.1))):Int).toNat≤35184372088832 then ((some (List.replicate (wrap64 (2 * (wrap64 (1+bt475.1))):Int).toNat 0:List Int)).bind fun y477=>((spec_l6Rd_pick.f k s0_0 bt475.2 3).bind fun bt480=>(if bt480.1 = 0 then (spec_l91Gluing.l0 k (wrap64 (2 * (wrap64 (1+bt475.1)))) y477 (([]:List Int)) 0 s0_0 bt480.2) else ((spec_l91Perm.f k s0_0 bt480.2 (wrap64 (2 * (wrap64 (1+bt475.1))))).bind fun bt505=>(spec_l91Gluing.l1 k (wrap64 (2 * (wrap64 (1+bt475.1)))) y477 bt505.1 0 s0_0 bt505.2))))) else (none)) else (none))
theorem spec_l91Gluing.mono_l:∀ k,(∀ y0 y1 y2 y3 y4 y5,LeO (spec_l91Gluing.l0 k y0 y1 y2 y3 y4 y5) (spec_l91Gluing.l0 (k+1) y0 y1 y2 y3 y4 y5))∧(∀ y0 y1 y2 y3 y4 y5,LeO (spec_l91Gluing.l1 k y0 y1 y2 y3 y4 y5) (spec_l91Gluing.l1 (k+1) y0 y1 y2 y3 y4 y5))
 | 0=>⟨fun _ _ _ _ _ _ r h=>by simp [spec_l91Gluing.l0] at h,fun _ _ _ _ _ _ r h=>by simp [spec_l91Gluing.l1] at h⟩
 | k+1=>by
  obtain ⟨ih0,ih1⟩:=spec_l91Gluing.mono_l k
  refine ⟨?_,?_⟩
  ·intro y0 y1 y2 y3 y4 y5
   unfold spec_l91Gluing.l0
   repeat' first
   | (with_reducible exact ih0 _ _ _ _ _ _)
   | (with_reducible exact ih1 _ _ _ _ _ _)
   | (with_reducible exact spec_l6Rd_pick.mono _ _ _ _)
   | (with_reducible exact spec_l91Perm.mono _ _ _ _)
   | (with_reducible exact LeO.refl _)
   | (with_reducible exact za _)
   | (with_reducible refine zc ?_ ?_)
   | (with_reducible refine zb ?_ (fun _=>?_))
  ·intro y0 y1 y2 y3 y4 y5
   unfold spec_l91Gluing.l1
   repeat' first
   | (with_reducible exact ih0 _ _ _ _ _ _)
   | (with_reducible exact ih1 _ _ _ _ _ _)
   | (with_reducible exact spec_l6Rd_pick.mono _ _ _ _)
   | (with_reducible exact spec_l91Perm.mono _ _ _ _)
   | (with_reducible exact LeO.refl _)
   | (with_reducible exact za _)
   | (with_reducible refine zc ?_ ?_)
   | (with_reducible refine zb ?_ (fun _=>?_))
theorem spec_l91Gluing.mono:∀ a0 a1 a2 k,LeO (spec_l91Gluing.f k a0 a1 a2) (spec_l91Gluing.f (k+1) a0 a1 a2):=by
 intro a0 a1 a2 k
 obtain ⟨ih0,ih1⟩:=spec_l91Gluing.mono_l k
 unfold spec_l91Gluing.f
 repeat' first
   | (with_reducible exact ih0 _ _ _ _ _ _)
   | (with_reducible exact ih1 _ _ _ _ _ _)
   | (with_reducible exact spec_l6Rd_pick.mono _ _ _ _)
   | (with_reducible exact spec_l91Perm.mono _ _ _ _)
   | (with_reducible exact LeO.refl _)
   | (with_reducible exact za _)
   | (with_reducible refine zc ?_ ?_)
   | (with_reducible refine zb ?_ (fun _=>?_))
def spec_l91Gluing.T19:Bool × List (List Nat × List Nat):=(true,[([],[]),([],[]),([],[]),([1,2],[1,2]),([3],[3]),([],[]),([],[]),([6],[6]),([5,7],[5,7]),([8],[8]),([0,4,0,1,2,3,4,5,6,7,8,9],[0,4]),([10,9,0,1,2,3,4,5,6,7,8,9],[9,10])])
def spec_l91Gluing.B19:List Nat:=[0,0,0,6,14,0,0,64,224,480,1023,2047]
theorem spec_l91Gluing.tab19:rtab .any (opsOf Try.f77 19) = spec_l91Gluing.T19:=by kernel_rfl
theorem spec_l91Gluing.bits19:waitsOk spec_l91Gluing.T19.2 spec_l91Gluing.B19 = true:=by kernel_rfl
def spec_l91Gluing.T20:Bool × List (List Nat × List Nat):=(true,[([],[]),([],[]),([],[]),([2],[2]),([1,3],[1,3]),([4],[4]),([],[]),([],[]),([6,7],[6,7]),([8],[8]),([0,5,0,1,2,3,4,5,6,7,8,9],[0,5]),([10,9,0,1,2,3,4,5,6,7,8,9],[9,10])])
def spec_l91Gluing.B20:List Nat:=[0,0,0,4,14,30,0,0,192,448,1023,2047]
theorem spec_l91Gluing.tab20:rtab .any (opsOf Try.f77 20) = spec_l91Gluing.T20:=by kernel_rfl
theorem spec_l91Gluing.bits20:waitsOk spec_l91Gluing.T20.2 spec_l91Gluing.B20 = true:=by kernel_rfl
set_option maxHeartbeats 8000000 in
set_option maxRecDepth 100000 in
theorem spec_l91Gluing.calls (k:Nat) (g:Nat) (s0_0:List Int) (s0_1:Int) (a1:Int) (r1:List Int) (r2:Int) (w0 w:World) (hI:IsS84 w0 w g s0_0 s0_1) (hB:Below w0.heap.size w0 w) (h:spec_l91Gluing.f k s0_0 s0_1 a1 = some (r1,r2)) :
  Calls Try.prog 77 #[.pointer (some ⟨g,0,none⟩),.int .i64 a1] w fun e w' => ∃ v0_:Value,e = .returned (v0_)∧Kd.R (Kd.int .i64) 3 w' w.heap.size (fun _=>True) v0_ r1∧IsS84 w0 w' g s0_0 r2∧Below w0.heap.size w0 w'∧KeepBut w w' g none:=by
 have HI0:=zA hI
 have HK:=zA (KeepBut.refl w g none)
 have HL:=zA hB.size
 clear hI
 have HW0:=zA hB.size
 have HB:=zA hB
 clear hB
 have H:((spec_l6Rd_pick.f k s0_0 s0_1 a1).bind fun bt475=>(if 0≤(wrap64 (2 * (wrap64 (1+bt475.1)))) then (if (wrap64 (2 * (wrap64 (1+bt475.1))):Int).toNat≤35184372088832 then ((some (List.replicate (wrap64 (2 * (wrap64 (1+bt475.1))):Int).toNat 0:List Int)).bind fun y477=>((spec_l6Rd_pick.f k s0_0 bt475.2 3).bind fun bt480=>(if bt480.1 = 0 then (spec_l91Gluing.l0 k (wrap64 (2 * (wrap64 (1+bt475.1)))) y477 (([]:List Int)) 0 s0_0 bt480.2) else ((spec_l91Perm.f k s0_0 bt480.2 (wrap64 (2 * (wrap64 (1+bt475.1))))).bind fun bt505=>(spec_l91Gluing.l1 k (wrap64 (2 * (wrap64 (1+bt475.1)))) y477 bt505.1 0 s0_0 bt505.2))))) else (none)) else (none))) = some (r1,r2):=h
 clear h
 replace H:=zz0 H
 obtain ⟨⟨t475,t476⟩,A30,H⟩:=H
 try dsimp only at H
 have A3:=zA A30
 clear A30
 obtain ⟨ji4,hji4⟩:∃ j_:Int,(wrap64 (2 * (wrap64 (1+t475)))) = j_:=⟨_,rfl⟩
 replace H:(if 0≤(ji4) then (if (ji4:Int).toNat≤35184372088832 then ((some (List.replicate (ji4:Int).toNat 0:List Int)).bind fun y477=>((spec_l6Rd_pick.f k s0_0 t476 3).bind fun bt480=>(if bt480.1 = 0 then (spec_l91Gluing.l0 k ji4 y477 (([]:List Int)) 0 s0_0 bt480.2) else ((spec_l91Perm.f k s0_0 bt480.2 (ji4)).bind fun bt505=>(spec_l91Gluing.l1 k ji4 y477 bt505.1 0 s0_0 bt505.2))))) else (none)) else (none)) = some (r1,r2):=by first|(rw [hji4] at H;exact H)|(simp only [hji4] at H ⊢;exact H)
 (try rw [hji4] at A3)
 have hji4w:(IntKind.i64.wrap (2 * (wrap64 (1+t475)))) = ji4:=(i64_w _).trans hji4
 by_cases c5:0≤(ji4)
 ·rw [if_pos c5] at H
  have c5b0:=eq_true c5
  have c5b1:decide (0≤(ji4)) = true:=zO c5
  clear c5
  by_cases c6:(ji4:Int).toNat≤35184372088832
  ·rw [if_pos c6] at H
   have c6b0:=eq_true c6
   have c6b1:decide ((ji4:Int).toNat≤35184372088832) = true:=zO c6
   clear c6
   obtain ⟨y477,hy477⟩:∃ y_:List Int,y_ = (List.replicate (ji4:Int).toNat 0):=⟨_,rfl⟩
   replace H:((spec_l6Rd_pick.f k s0_0 t476 3).bind fun bt480=>(if bt480.1 = 0 then (spec_l91Gluing.l0 k ji4 y477 (([]:List Int)) 0 s0_0 bt480.2) else ((spec_l91Perm.f k s0_0 bt480.2 (ji4)).bind fun bt505=>(spec_l91Gluing.l1 k ji4 y477 bt505.1 0 s0_0 bt505.2)))) = some (r1,r2):=by (try rw [hy477]);first|with_reducible exact H|with_reducible exact zS_ H|exact H
   have Ny477:=zA hy477
   clear hy477
   replace H:=zz0 H
   obtain ⟨⟨t480,t481⟩,A70,H⟩:=H
   try dsimp only at H
   have A7:=zA A70
   clear A70
   by_cases c8:t480 = 0
   ·rw [if_pos c8] at H
    have c8b0:(t480 == 0) = true:=beq_iff_eq.mpr c8
    have c8b1:(t480 != 0) = false:=bne_eq_false_iff_eq.mpr c8
    clear c8
    obtain ⟨y482,hy482⟩:∃ y_:List Int,y_ = (([]:List Int)):=⟨_,rfl⟩
    replace H:(spec_l91Gluing.l0 k ji4 y477 y482 0 s0_0 t481) = some (r1,r2):=by (try rw [hy482]);first|with_reducible exact H|with_reducible exact zS_ H|exact H
    have Ny482:=zA hy482
    clear hy482
    have H':=zA H
    clear H
    go_enter Try.func77,Try.ntmps77
    go_wp2_with (first|((with_reducible refine gate_callee (f:=90) rfl ?_);refine goesL_ (some 14) rfl rfl Try.func90 (by kernel_rfl) rfl #[.pointer (some ⟨g,0,none⟩),.int .i64 a1] rfl (by (try simp only [zJ,zM,zN]);first|done|rfl|(simp only [zL,zK];rfl)) ?_;(with_reducible refine (spec_l6Rd_pick.calls k g s0_0 s0_1 a1 t475 t476 w0 _ ?side1 ?side2 A3.out).mono ?_);(case side1=>repeat (first|(with_reducible first|exact HI0.out|apply IsS84.alloc|apply IsS84.drewN|apply IsS84.drew|apply IsS84.set_1)|exact HI0.out));(case side2=>repeat (first|(with_reducible first|exact HB.out|apply zD|apply zB|apply zC|refine zF ?_ (IsS84.ge HI0.out))|exact HB.out));rintro e w9 ⟨rfl,hi,hb,hk⟩;refine ⟨_,rfl,?_⟩;have n0_:=zA (KeepBut.trans (by repeat (first|(with_reducible first|exact HK.out|apply KeepBut.set_|apply keep_drewN|apply keep_drew|apply keep_alloc)|exact HK.out)) hk (.inl rfl));have n1_:=zA (hb);have n2_:=zA (hi);clear HK;clear HB;clear HI0;have HK:=n0_;have HB:=n1_;have HI0:=n2_;clear n0_ n1_ n2_;(try clear hb);(try clear hb2);(try clear hk);(try clear hi))|((with_reducible refine gate_dst (N:=18) rfl ?_);(try (refine gate_guard (by rfl) ?_;dsimp only));refine Kd.R_make (Kd.int .i64) _ 3 rfl (N:=18) rfl 23 _ _ rfl ji4 rfl rfl Try.underlying23 (.int .i64 0) 8 info3 rfl (by decide) (by omega) 0 (ok:=fun _=>True) (okp:=fun _=>True) rfl (fun _ hk=>hk) trivial (zE (by with_reducible assumption)) (Nat.le_trans (Nat.mul_le_mul_right _ (zE (by with_reducible assumption):ji4.toNat≤35184372088832)) (by omega)) (Below.refl _ _) (Nat.le_refl _) ?_;intro v478 w10 ho11 hb hg_ hnew_;clear hg_ hnew_;(first|rw [← Ny477.out] at ho11|(simp only [Int.reduceToNat] at ho11;rw [← Ny477.out] at ho11));have n0_:=zA (ze ho11 (keep_size (w:=w) (g:=g) (row:=none) (by repeat (first|(with_reducible first|exact HK.out|apply KeepBut.set_|apply keep_drewN|apply keep_drew|apply keep_alloc)|exact HK.out))));have n1_:=zA (IsS84.below (by repeat (first|(with_reducible first|exact HI0.out|apply IsS84.alloc|apply IsS84.drewN|apply IsS84.drew|apply IsS84.set_1)|exact HI0.out)) hb);have n2_:=zA (KeepBut.trans (by repeat (first|(with_reducible first|exact HK.out|apply KeepBut.set_|apply keep_drewN|apply keep_drew|apply keep_alloc)|exact HK.out)) (KeepBut.of_below hb g none) (.inl rfl));have n3_:=zA (zR (by repeat (first|(with_reducible first|exact HB.out|apply zD|apply zB|apply zC|refine zF ?_ (IsS84.ge HI0.out))|exact HB.out)) hb);clear HI0;clear HK;clear HB;have HO479:=n0_;have HI0:=n1_;have HK:=n2_;have HB:=n3_;clear n0_ n1_ n2_ n3_;clear hb ho11)|((with_reducible refine gate_callee (f:=90) rfl ?_);refine goesL_ (some 20) rfl rfl Try.func90 (by kernel_rfl) rfl #[.pointer (some ⟨g,0,none⟩),.int .i64 3] rfl (by (try simp only [zJ,zM,zN]);first|done|rfl|(simp only [zL,zK];rfl)) ?_;(with_reducible refine (spec_l6Rd_pick.calls k g s0_0 t476 3 t480 t481 w0 _ ?side1 ?side2 A7.out).mono ?_);(case side1=>repeat (first|(with_reducible first|exact HI0.out|apply IsS84.alloc|apply IsS84.drewN|apply IsS84.drew|apply IsS84.set_1)|exact HI0.out));(case side2=>repeat (first|(with_reducible first|exact HB.out|apply zD|apply zB|apply zC|refine zF ?_ (IsS84.ge HI0.out))|exact HB.out));rintro e w12 ⟨rfl,hi,hb,hk⟩;refine ⟨_,rfl,?_⟩;have n0_:=zA (zV (Kd.R_keep (IsS84.apart (show IsS84 w0 _ g s0_0 t476 from by repeat (first|(with_reducible first|exact HI0.out|apply IsS84.alloc|apply IsS84.drewN|apply IsS84.drew|apply IsS84.set_1)|exact HI0.out)) (by apply zR_;exact HO479.out) (by decide)) hk (fun _ h=>h.2)) (fun _ h=>h.1));have n1_:=zA (KeepBut.trans (by repeat (first|(with_reducible first|exact HK.out|apply KeepBut.set_|apply keep_drewN|apply keep_drew|apply keep_alloc)|exact HK.out)) hk (.inl rfl));have n2_:=zA (hb);have n3_:=zA (hi);clear HO479;clear HK;clear HB;clear HI0;have HO479:=n0_;have HK:=n1_;have HB:=n2_;have HI0:=n3_;clear n0_ n1_ n2_ n3_;(try clear hb);(try clear hb2);(try clear hk);(try clear hi))|((with_reducible refine gate_dst (N:=22) rfl ?_);(try (refine gate_guard (by rfl) ?_;dsimp only));refine Kd.R_lit (Kd.int .i64) _ 3 ?hg (N:=22) ?hd (xs:=([]:List Int)) (inner:=[]) (ok:=fun _=>True) (okp:=fun _=>True) ?hr ?hp (fun _ hk=>hk) trivial (Below.refl _ _) (Nat.le_refl _) (by simp) ?_;(case hd=>rfl);(case hg=>rfl);(case hr=>first|(go_simp;done)|(go_simp;rfl));(case hp=>exact (Reps.none _ _));intro v483 w13 ho14 hb hg_ hnew_;clear hg_ hnew_;(first|rw [← Ny482.out] at ho14|(simp only [Int.reduceToNat] at ho14;rw [← Ny482.out] at ho14));have n0_:=zA (Kd.R_elder' (by apply zR_;exact HO479.out) (zd ho14) hb);have n1_:=zA (ze (zh ho14 (Kd.R_lt (by apply zR_;exact HO479.out))) (keep_size (w:=w) (g:=g) (row:=none) (by repeat (first|(with_reducible first|exact HK.out|apply KeepBut.set_|apply keep_drewN|apply keep_drew|apply keep_alloc)|exact HK.out))));have n2_:=zA (IsS84.below (by repeat (first|(with_reducible first|exact HI0.out|apply IsS84.alloc|apply IsS84.drewN|apply IsS84.drew|apply IsS84.set_1)|exact HI0.out)) hb);have n3_:=zA (KeepBut.trans (by repeat (first|(with_reducible first|exact HK.out|apply KeepBut.set_|apply keep_drewN|apply keep_drew|apply keep_alloc)|exact HK.out)) (KeepBut.of_below hb g none) (.inl rfl));have n4_:=zA (zR (by repeat (first|(with_reducible first|exact HB.out|apply zD|apply zB|apply zC|refine zF ?_ (IsS84.ge HI0.out))|exact HB.out)) hb);clear HO479;clear HI0;clear HK;clear HB;have HO479:=n0_;have HO484:=n1_;have HI0:=n2_;have HK:=n3_;have HB:=n4_;clear n0_ n1_ n2_ n3_ n4_;clear hb ho14))
    go_loopg [7,8] k (fun kq v7 v8 w' => ∃ (x6_1:List Int) (x7_1:List Int) (x8_1:Int) (x1001_1:Int),v8 = .int .i64 x8_1∧Aside0 (spec_l91Gluing.l0 kq ji4 x6_1 x7_1 x8_1 s0_0 x1001_1 = some (r1,r2))∧Aside0 (kq≤k)∧Aside0 (Kd.R (Kd.int .i64) 3 w' w.heap.size (fun k_=>some k_≠(v7:Value).ownBlock) v478 x6_1)∧Aside0 (Kd.R (Kd.int .i64) 3 w' w.heap.size (fun k_=>some k_≠(v478:Value).ownBlock) v7 x7_1)∧Aside0 (IsS84 w0 w' g s0_0 x1001_1)∧Aside0 (KeepBut w w' g none)∧Aside0 (Below w0.heap.size w0 w'))
    case atStart=>exact ⟨(y477),(y482),(0),(t481),(by first|rfl|(simp;done)|(simp [*];done)),H',⟨Nat.le_refl _⟩,⟨by apply zR_;exact zV HO479.out (fun _ hk=>hk.2)⟩,⟨by apply zR_;exact zV HO484.out (fun _ hk=>hk.2)⟩,⟨by repeat (first|(with_reducible first|exact HI0.out|apply IsS84.alloc|apply IsS84.drewN|apply IsS84.drew|apply IsS84.set_1)|exact HI0.out)⟩,⟨by repeat (first|(with_reducible first|exact HK.out|apply KeepBut.set_|apply keep_drewN|apply keep_drew|apply keep_alloc)|exact HK.out)⟩,⟨by repeat (first|(with_reducible first|exact HB.out|apply zD|apply zB|apply zC|refine zF ?_ (IsS84.ge HI0.out))|exact HB.out)⟩⟩
    case round =>
     clear H'
     (try clear p2);(try clear c5);(try clear c5b0);(try clear c5b1);(try clear c6);(try clear c6b0);(try clear c6b1);(try clear p6);(try clear c7);(try clear c8);(try clear c8b0);(try clear c8b1);(try clear c9)
     obtain ⟨x6_1,x7_1,x8_1,x1001_1,rfl,HA,HK1,HO_6,HO_7,HI0,HK,HB⟩:=hrel
     cases gk with
     | zero=>exact absurd HA.out (by simp [spec_l91Gluing.l0])
     | succ k1 =>
      have H:=HA.out
      clear HA
      simp only [spec_l91Gluing.l0] at H
      by_cases c15:x8_1 < ji4
      ·rw [if_pos c15] at H
       have c15b0:decide (x8_1 < ji4) = true:=zO c15
       clear c15
       by_cases c16:(x7_1.length:Int) > 0
       ·rw [if_pos c16] at H
        have c16b0:decide (0 < (x7_1.length:Int)) = true:=zO c16
        have c16b1:decide (0 < x7_1.length) = true:=zO (by omega)
        clear c16
        replace H:=zz0 H
        obtain ⟨⟨t485,t486⟩,A170,H⟩:=H
        try dsimp only at H
        have A17:=zA A170
        clear A170
        by_cases c18:t485 = 0
        ·rw [if_pos c18] at H
         have c18b0:(t485 == 0) = true:=beq_iff_eq.mpr c18
         have c18b1:(t485 != 0) = false:=bne_eq_false_iff_eq.mpr c18
         clear c18
         obtain ⟨ji19,hji19⟩:∃ j_:Int,(wrap64 ((x7_1.length:Int) - 1)) = j_:=⟨_,rfl⟩
         replace H:(if 0≤(ji19) then (if (ji19) < (x7_1.length:Int) then (if (ji19)≤(x7_1.length:Int) then (if 0≤x8_1 then (if x8_1 < (x6_1.length:Int) then (if 0≤(rd x7_1 (ji19)) then (if (rd x7_1 (ji19)) < (x6_1.length:Int) then (spec_l91Gluing.l0 k1 ji4 ((x6_1.set (x8_1:Int).toNat (rd x7_1 (ji19))).set ((rd x7_1 (ji19)):Int).toNat x8_1) (x7_1.take ((ji19):Int).toNat) (wrap64 (x8_1+1)) s0_0 t486) else (none)) else (none)) else (none)) else (none)) else (none)) else (none)) else (none)) = some (r1,r2):=by first|(rw [hji19] at H;exact H)|(simp only [hji19] at H ⊢;exact H)
         (try rw [hji19] at A17)
         have hji19w:(IntKind.i64.wrap ((x7_1.length:Int) - 1)) = ji19:=(i64_w _).trans hji19
         by_cases c20:0≤(ji19)
         ·rw [if_pos c20] at H
          have c20b0:decide (0≤(ji19)) = true:=zO c20
          clear c20
          by_cases c21:(ji19) < (x7_1.length:Int)
          ·rw [if_pos c21] at H
           have c21b0:decide ((ji19) < (x7_1.length:Int)) = true:=zO c21
           clear c21
           by_cases c22:(ji19)≤(x7_1.length:Int)
           ·rw [if_pos c22] at H
            have c22b0:=eq_true c22
            have c22b1:decide ((ji19)≤(x7_1.length:Int)) = true:=zO c22
            clear c22
            obtain ⟨y488,hy488⟩:∃ y_:List Int,y_ = (x7_1.take ((ji19):Int).toNat):=⟨_,rfl⟩
            replace H:(if 0≤x8_1 then (if x8_1 < (x6_1.length:Int) then (if 0≤(rd x7_1 (ji19)) then (if (rd x7_1 (ji19)) < (x6_1.length:Int) then (spec_l91Gluing.l0 k1 ji4 ((x6_1.set (x8_1:Int).toNat (rd x7_1 (ji19))).set ((rd x7_1 (ji19)):Int).toNat x8_1) y488 (wrap64 (x8_1+1)) s0_0 t486) else (none)) else (none)) else (none)) else (none)) = some (r1,r2):=by (try rw [hy488]);first|with_reducible exact H|with_reducible exact zS_ H|exact H
            have Ny488:=zA hy488
            clear hy488
            by_cases c23:0≤x8_1
            ·rw [if_pos c23] at H
             have c23b0:decide (0≤x8_1) = true:=zO c23
             clear c23
             by_cases c24:x8_1 < (x6_1.length:Int)
             ·rw [if_pos c24] at H
              have c24b0:decide (x8_1 < (x6_1.length:Int)) = true:=zO c24
              clear c24
              obtain ⟨y491,hy491⟩:∃ y_:List Int,y_ = (x6_1.set (x8_1:Int).toNat (rd x7_1 (ji19))):=⟨_,rfl⟩
              replace H:(if 0≤(rd x7_1 (ji19)) then (if (rd x7_1 (ji19)) < (x6_1.length:Int) then (spec_l91Gluing.l0 k1 ji4 (y491.set ((rd x7_1 (ji19)):Int).toNat x8_1) y488 (wrap64 (x8_1+1)) s0_0 t486) else (none)) else (none)) = some (r1,r2):=by (try rw [hy491]);first|with_reducible exact H|with_reducible exact zS_ H|exact H
              have Ny491:=zA hy491
              clear hy491
              by_cases c26:0≤(rd x7_1 (ji19))
              ·rw [if_pos c26] at H
               have c26b0:decide (0≤(rd x7_1 (ji19))) = true:=zO c26
               clear c26
               by_cases c27:(rd x7_1 (ji19)) < (x6_1.length:Int)
               ·rw [if_pos c27] at H
                have c27b0:decide ((rd x7_1 (ji19)) < (x6_1.length:Int)) = true:=zO c27
                clear c27
                obtain ⟨y492,hy492⟩:∃ y_:List Int,y_ = (y491.set ((rd x7_1 (ji19)):Int).toNat x8_1):=⟨_,rfl⟩
                replace H:(spec_l91Gluing.l0 k1 ji4 y492 y488 (wrap64 (x8_1+1)) s0_0 t486) = some (r1,r2):=by (try rw [hy492]);first|with_reducible exact H|with_reducible exact zS_ H|exact H
                have Ny492:=zA hy492
                clear hy492
                have H':=zA H
                clear H
                obtain ⟨Ao29,co29,eo29⟩:=zg HO_7.out
                subst eo29
                go_wp2_with (first|(go_at_call 90;(with_reducible refine (spec_l6Rd_pick.calls k1 g s0_0 x1001_1 2 t485 t486 w0 _ ?side1 ?side2 A17.out).mono ?_);(case side1=>repeat (first|(with_reducible first|exact HI0.out|apply IsS84.alloc|apply IsS84.drewN|apply IsS84.drew|apply IsS84.set_1)|exact HI0.out));(case side2=>repeat (first|(with_reducible first|exact HB.out|apply zD|apply zB|apply zC|refine zF ?_ (IsS84.ge HI0.out))|exact HB.out));rintro e w30 ⟨rfl,hi,hb,hk⟩;have n0_:=zA (zV (Kd.R_keep (IsS84.apart (show IsS84 w0 _ g s0_0 x1001_1 from by repeat (first|(with_reducible first|exact HI0.out|apply IsS84.alloc|apply IsS84.drewN|apply IsS84.drew|apply IsS84.set_1)|exact HI0.out)) (by apply zR_;exact HO_6.out) (by decide)) hk (fun _ h=>h.2)) (fun _ h=>h.1));have n1_:=zA (zV (Kd.R_keep (IsS84.apart (show IsS84 w0 _ g s0_0 x1001_1 from by repeat (first|(with_reducible first|exact HI0.out|apply IsS84.alloc|apply IsS84.drewN|apply IsS84.drew|apply IsS84.set_1)|exact HI0.out)) (by apply zR_;exact HO_7.out) (by decide)) hk (fun _ h=>h.2)) (fun _ h=>h.1));have n2_:=zA (KeepBut.trans (by repeat (first|(with_reducible first|exact HK.out|apply KeepBut.set_|apply keep_drewN|apply keep_drew|apply keep_alloc)|exact HK.out)) hk (.inl rfl));have n3_:=zA (hb);have n4_:=zA (hi);clear HO_6;clear HO_7;clear HK;clear HB;clear HI0;have HO_6:=n0_;have HO_7:=n1_;have HK:=n2_;have HB:=n3_;have HI0:=n4_;clear n0_ n1_ n2_ n3_ n4_;(try clear hb);(try clear hb2);(try clear hk);(try clear hi);have p487:0≤((ji19):Int):=zE (by with_reducible assumption);have q487:(ji19) < (x7_1.length:Int):=zE (by with_reducible assumption);obtain ⟨ad487,e487,hx487_0⟩:=Kd.at_int (zU HO_7.out).2.2 (ji19) p487 q487;cases e487;replace p487:=eq_true p487;replace q487:=eq_true q487;have q31:((ji19):Int)≤((x7_1.length:Int):Int):=zE (by with_reducible assumption);obtain ⟨i031,hi031,_,hsz31,_⟩:=info_parts info3;have hcut31:=cut_to (P:=Try.prog) 23 3 .i64 Try.underlying23 hi031 (some ad487) x7_1.length co29 (ji19) (zE (by with_reducible assumption)) q31 (zU HO_7.out).2.1;have hr31:=Kd.R_take (m:=((ji19):Int).toNat) HO_7.out (by omega);have hy31:y488.length = ((ji19):Int).toNat:=(by rw [Ny488.out,zK];omega);rw [← Ny488.out] at hr31;rw [← hy31] at hr31 hcut31;clear hy31 hi031 hsz31 HO_7;have HO490:=zA hr31;clear hr31;replace q31:=eq_true q31;have p25:0≤(x8_1:Int):=zE (by with_reducible assumption);have q25:(x8_1:Int) < ((x6_1.length:Int):Int):=zE (by with_reducible assumption);obtain ⟨go25,co25,eo25,gb25,gl25,cl25,HG25⟩:=Kd.R_form HO_6.out (by omega);(first|cases eo25|(injection eo25 with ea_ en_ ec_;(first|subst ea_|(injection ea_ with ea_;subst ea_));subst ec_;clear en_));have GB25:=zA gb25;have GG25:=zA HG25;clear gb25 gl25 HG25;obtain ⟨hx25_0,hf25_0⟩:=Kd.R_celln 0 HO_6.out (x8_1:Int) p25 q25;replace p25:=eq_true p25;replace q25:=eq_true q25;obtain ⟨hy32_,hz32_⟩:=Kd.R_celln 0 HO_6.out (x8_1:Int) (zE (by with_reducible assumption)) (zE (by with_reducible assumption));have HP32:=Kd.R_putg HO_6.out (x8_1:Int) (rd x7_1 (ji19)))|((with_reducible refine gate_store (t:=3) (p:=58) rfl ?_);refine store_event (t:=3) (p:=58) (v:=?vo_w33) (w1:=(w30.setCell ⟨go25,(x8_1:Int).toNat,none⟩ (.int .i64 (rd x7_1 (ji19))))) ?hg ?ho ?hn ?hr ?_;(case ho=>rfl);(case hg=>rfl);(case hn=>rfl);(case hr=>first|(go_simp;done)|(go_simp;rfl));intro w33 hw;have hg:w30.grownBy w33 (some go25):=(by rw [hw];exact HP32.2);have hp_:Kd.R (Kd.int .i64) 3 w33 w.heap.size (fun k_=>some k_≠(.slice (some ad487) y488.length co29:Value).ownBlock) (.slice (some ⟨go25,0,none⟩) x6_1.length co25) y491:=(by rw [hw,Ny491.out];exact HP32.1);clear HP32;have n0_:=zA (hp_);have n1_:=zA (Kd.R_after (v:=(.slice (some ⟨go25,0,none⟩) x6_1.length co25)) (v1:=(.slice (some ⟨go25,0,none⟩) x6_1.length co25)) (ok:=(fun _=>True)) (by apply zR_;exact zV HO490.out (fun _ hk=>⟨trivial,hk⟩)) hg (.inl rfl));have n2_:=zA (IsS84.grown (by repeat (first|(with_reducible first|exact HI0.out|apply IsS84.alloc|apply IsS84.drewN|apply IsS84.drew|apply IsS84.set_1)|exact HI0.out)) hg (IsS84.own_ne HI0.out HO_6.out (by decide)));have n3_:=zA ((by rw [hw];exact zF (HB.out) (Nat.le_trans HL.out GB25.out):Below w0.heap.size w0 w33));have n4_:=zA (KeepBut.trans (by repeat (first|(with_reducible first|exact HK.out|apply KeepBut.set_|apply keep_drewN|apply keep_drew|apply keep_alloc)|exact HK.out)) (KeepBut.of_grown hg g) (Kd.R_base2 HO_6.out));clear HO_6;clear HO490;clear HI0;clear HB;clear HK;have HO_6:=n0_;have HO490:=n1_;have HI0:=n2_;have HB:=n3_;have HK:=n4_;clear n0_ n1_ n2_ n3_ n4_;clear hg hw hp_;have p28:0≤((rd x7_1 (ji19)):Int):=zE (by with_reducible assumption);have q28:((rd x7_1 (ji19)):Int) < ((x6_1.length:Int):Int):=zE (by with_reducible assumption);obtain ⟨hx28_0,hf28_0⟩:=Kd.R_celln 0 HO_6.out ((rd x7_1 (ji19)):Int) p28 q28;replace p28:=eq_true p28;replace q28:=eq_true q28;obtain ⟨hy34_,hz34_⟩:=Kd.R_celln 0 HO_6.out ((rd x7_1 (ji19)):Int) (zE (by with_reducible assumption)) (zE (by with_reducible assumption));have HP34:=Kd.R_putg HO_6.out ((rd x7_1 (ji19)):Int) x8_1)|((with_reducible refine gate_store (t:=3) (p:=62) rfl ?_);refine store_event (t:=3) (p:=62) (v:=?vo_w35) (w1:=(w33.setCell ⟨go25,((rd x7_1 (ji19)):Int).toNat,none⟩ (.int .i64 x8_1))) ?hg ?ho ?hn ?hr ?_;(case ho=>rfl);(case hg=>rfl);(case hn=>rfl);(case hr=>first|(go_simp;done)|(go_simp;rfl));intro w35 hw;have hg:w33.grownBy w35 (some go25):=(by rw [hw];exact HP34.2);have hp_:Kd.R (Kd.int .i64) 3 w35 w.heap.size (fun k_=>some k_≠(.slice (some ad487) y488.length co29:Value).ownBlock) (.slice (some ⟨go25,0,none⟩) x6_1.length co25) y492:=(by rw [hw,Ny492.out];exact HP34.1);clear HP34;have n0_:=zA (hp_);have n1_:=zA (Kd.R_after (v:=(.slice (some ⟨go25,0,none⟩) x6_1.length co25)) (v1:=(.slice (some ⟨go25,0,none⟩) x6_1.length co25)) (ok:=(fun _=>True)) (by apply zR_;exact HO490.out) hg (.inl rfl));have n2_:=zA (IsS84.grown (by repeat (first|(with_reducible first|exact HI0.out|apply IsS84.alloc|apply IsS84.drewN|apply IsS84.drew|apply IsS84.set_1)|exact HI0.out)) hg (IsS84.own_ne HI0.out HO_6.out (by decide)));have n3_:=zA ((by rw [hw];exact zF (HB.out) (Nat.le_trans HL.out GB25.out):Below w0.heap.size w0 w35));have n4_:=zA (KeepBut.trans (by repeat (first|(with_reducible first|exact HK.out|apply KeepBut.set_|apply keep_drewN|apply keep_drew|apply keep_alloc)|exact HK.out)) (KeepBut.of_grown hg g) (Kd.R_base2 HO_6.out));clear HO_6;clear HO490;clear HI0;clear HB;clear HK;have HO_6:=n0_;have HO490:=n1_;have HI0:=n2_;have HB:=n3_;have HK:=n4_;clear n0_ n1_ n2_ n3_ n4_;clear hg hw hp_))
                go_roundg k1
                case measure=>have:=HK1.out;omega
                case rel=>exact ⟨(y492),(y488),(wrap64 (x8_1+1)),(t486),(by first|rfl|(simp;done)|(simp [*];done)),H',⟨by have:=HK1.out;omega⟩,⟨by apply zR_;exact HO_6.out⟩,⟨by apply zR_;exact zV HO490.out (fun _ hk=>hk.2)⟩,⟨by repeat (first|(with_reducible first|exact HI0.out|apply IsS84.alloc|apply IsS84.drewN|apply IsS84.drew|apply IsS84.set_1)|exact HI0.out)⟩,⟨by repeat (first|(with_reducible first|exact HK.out|apply KeepBut.set_|apply keep_drewN|apply keep_drew|apply keep_alloc)|exact HK.out)⟩,⟨by repeat (first|(with_reducible first|exact HB.out|apply zD|apply zB|apply zC|refine zF ?_ (IsS84.ge HI0.out))|exact HB.out)⟩⟩
               ·rw [if_neg c27] at H
                exact absurd H (by simp)
              ·rw [if_neg c26] at H
               exact absurd H (by simp)
             ·rw [if_neg c24] at H
              exact absurd H (by simp)
            ·rw [if_neg c23] at H
             exact absurd H (by simp)
           ·rw [if_neg c22] at H
            exact absurd H (by simp)
          ·rw [if_neg c21] at H
           exact absurd H (by simp)
         ·rw [if_neg c20] at H
          exact absurd H (by simp)
        ·rw [if_neg c18] at H
         have c18b0:(t485 == 0) = false:=beq_eq_false_iff_ne.mpr c18
         have c18b1:(t485 != 0) = true:=bne_iff_ne.mpr c18
         by_cases c36:(x7_1.length:Int) = (wrap64 (ji4 - x8_1))
         ·rw [if_pos c36] at H
          have c36b0:((x7_1.length:Int) == (wrap64 (ji4 - x8_1))) = true:=beq_iff_eq.mpr c36
          have c36b1:((x7_1.length:Int) != (wrap64 (ji4 - x8_1))) = false:=bne_eq_false_iff_eq.mpr c36
          clear c36
          obtain ⟨ji37,hji37⟩:∃ j_:Int,(wrap64 ((x7_1.length:Int) - 1)) = j_:=⟨_,rfl⟩
          replace H:(if 0≤(ji37) then (if (ji37) < (x7_1.length:Int) then (if (ji37)≤(x7_1.length:Int) then (if 0≤x8_1 then (if x8_1 < (x6_1.length:Int) then (if 0≤(rd x7_1 (ji37)) then (if (rd x7_1 (ji37)) < (x6_1.length:Int) then (spec_l91Gluing.l0 k1 ji4 ((x6_1.set (x8_1:Int).toNat (rd x7_1 (ji37))).set ((rd x7_1 (ji37)):Int).toNat x8_1) (x7_1.take ((ji37):Int).toNat) (wrap64 (x8_1+1)) s0_0 t486) else (none)) else (none)) else (none)) else (none)) else (none)) else (none)) else (none)) = some (r1,r2):=by first|(rw [hji37] at H;exact H)|(simp only [hji37] at H ⊢;exact H)
          (try rw [hji37] at A17)
          have hji37w:(IntKind.i64.wrap ((x7_1.length:Int) - 1)) = ji37:=(i64_w _).trans hji37
          by_cases c38:0≤(ji37)
          ·rw [if_pos c38] at H
           have c38b0:decide (0≤(ji37)) = true:=zO c38
           clear c38
           by_cases c39:(ji37) < (x7_1.length:Int)
           ·rw [if_pos c39] at H
            have c39b0:decide ((ji37) < (x7_1.length:Int)) = true:=zO c39
            clear c39
            by_cases c40:(ji37)≤(x7_1.length:Int)
            ·rw [if_pos c40] at H
             have c40b0:=eq_true c40
             have c40b1:decide ((ji37)≤(x7_1.length:Int)) = true:=zO c40
             clear c40
             obtain ⟨y494,hy494⟩:∃ y_:List Int,y_ = (x7_1.take ((ji37):Int).toNat):=⟨_,rfl⟩
             replace H:(if 0≤x8_1 then (if x8_1 < (x6_1.length:Int) then (if 0≤(rd x7_1 (ji37)) then (if (rd x7_1 (ji37)) < (x6_1.length:Int) then (spec_l91Gluing.l0 k1 ji4 ((x6_1.set (x8_1:Int).toNat (rd x7_1 (ji37))).set ((rd x7_1 (ji37)):Int).toNat x8_1) y494 (wrap64 (x8_1+1)) s0_0 t486) else (none)) else (none)) else (none)) else (none)) = some (r1,r2):=by (try rw [hy494]);first|with_reducible exact H|with_reducible exact zS_ H|exact H
             have Ny494:=zA hy494
             clear hy494
             by_cases c41:0≤x8_1
             ·rw [if_pos c41] at H
              have c41b0:decide (0≤x8_1) = true:=zO c41
              clear c41
              by_cases c42:x8_1 < (x6_1.length:Int)
              ·rw [if_pos c42] at H
               have c42b0:decide (x8_1 < (x6_1.length:Int)) = true:=zO c42
               clear c42
               obtain ⟨y497,hy497⟩:∃ y_:List Int,y_ = (x6_1.set (x8_1:Int).toNat (rd x7_1 (ji37))):=⟨_,rfl⟩
               replace H:(if 0≤(rd x7_1 (ji37)) then (if (rd x7_1 (ji37)) < (x6_1.length:Int) then (spec_l91Gluing.l0 k1 ji4 (y497.set ((rd x7_1 (ji37)):Int).toNat x8_1) y494 (wrap64 (x8_1+1)) s0_0 t486) else (none)) else (none)) = some (r1,r2):=by (try rw [hy497]);first|with_reducible exact H|with_reducible exact zS_ H|exact H
               have Ny497:=zA hy497
               clear hy497
               by_cases c44:0≤(rd x7_1 (ji37))
               ·rw [if_pos c44] at H
                have c44b0:decide (0≤(rd x7_1 (ji37))) = true:=zO c44
                clear c44
                by_cases c45:(rd x7_1 (ji37)) < (x6_1.length:Int)
                ·rw [if_pos c45] at H
                 have c45b0:decide ((rd x7_1 (ji37)) < (x6_1.length:Int)) = true:=zO c45
                 clear c45
                 obtain ⟨y498,hy498⟩:∃ y_:List Int,y_ = (y497.set ((rd x7_1 (ji37)):Int).toNat x8_1):=⟨_,rfl⟩
                 replace H:(spec_l91Gluing.l0 k1 ji4 y498 y494 (wrap64 (x8_1+1)) s0_0 t486) = some (r1,r2):=by (try rw [hy498]);first|with_reducible exact H|with_reducible exact zS_ H|exact H
                 have Ny498:=zA hy498
                 clear hy498
                 have H':=zA H
                 clear H
                 obtain ⟨Ao47,co47,eo47⟩:=zg HO_7.out
                 subst eo47
                 go_wp2_with (first|(go_at_call 90;(with_reducible refine (spec_l6Rd_pick.calls k1 g s0_0 x1001_1 2 t485 t486 w0 _ ?side1 ?side2 A17.out).mono ?_);(case side1=>repeat (first|(with_reducible first|exact HI0.out|apply IsS84.alloc|apply IsS84.drewN|apply IsS84.drew|apply IsS84.set_1)|exact HI0.out));(case side2=>repeat (first|(with_reducible first|exact HB.out|apply zD|apply zB|apply zC|refine zF ?_ (IsS84.ge HI0.out))|exact HB.out));rintro e w48 ⟨rfl,hi,hb,hk⟩;have n0_:=zA (zV (Kd.R_keep (IsS84.apart (show IsS84 w0 _ g s0_0 x1001_1 from by repeat (first|(with_reducible first|exact HI0.out|apply IsS84.alloc|apply IsS84.drewN|apply IsS84.drew|apply IsS84.set_1)|exact HI0.out)) (by apply zR_;exact HO_6.out) (by decide)) hk (fun _ h=>h.2)) (fun _ h=>h.1));have n1_:=zA (zV (Kd.R_keep (IsS84.apart (show IsS84 w0 _ g s0_0 x1001_1 from by repeat (first|(with_reducible first|exact HI0.out|apply IsS84.alloc|apply IsS84.drewN|apply IsS84.drew|apply IsS84.set_1)|exact HI0.out)) (by apply zR_;exact HO_7.out) (by decide)) hk (fun _ h=>h.2)) (fun _ h=>h.1));have n2_:=zA (KeepBut.trans (by repeat (first|(with_reducible first|exact HK.out|apply KeepBut.set_|apply keep_drewN|apply keep_drew|apply keep_alloc)|exact HK.out)) hk (.inl rfl));have n3_:=zA (hb);have n4_:=zA (hi);clear HO_6;clear HO_7;clear HK;clear HB;clear HI0;have HO_6:=n0_;have HO_7:=n1_;have HK:=n2_;have HB:=n3_;have HI0:=n4_;clear n0_ n1_ n2_ n3_ n4_;(try clear hb);(try clear hb2);(try clear hk);(try clear hi);have p493:0≤((ji37):Int):=zE (by with_reducible assumption);have q493:(ji37) < (x7_1.length:Int):=zE (by with_reducible assumption);obtain ⟨ad493,e493,hx493_0⟩:=Kd.at_int (zU HO_7.out).2.2 (ji37) p493 q493;cases e493;replace p493:=eq_true p493;replace q493:=eq_true q493;have q49:((ji37):Int)≤((x7_1.length:Int):Int):=zE (by with_reducible assumption);obtain ⟨i049,hi049,_,hsz49,_⟩:=info_parts info3;have hcut49:=cut_to (P:=Try.prog) 23 3 .i64 Try.underlying23 hi049 (some ad493) x7_1.length co47 (ji37) (zE (by with_reducible assumption)) q49 (zU HO_7.out).2.1;have hr49:=Kd.R_take (m:=((ji37):Int).toNat) HO_7.out (by omega);have hy49:y494.length = ((ji37):Int).toNat:=(by rw [Ny494.out,zK];omega);rw [← Ny494.out] at hr49;rw [← hy49] at hr49 hcut49;clear hy49 hi049 hsz49 HO_7;have HO496:=zA hr49;clear hr49;replace q49:=eq_true q49;have p43:0≤(x8_1:Int):=zE (by with_reducible assumption);have q43:(x8_1:Int) < ((x6_1.length:Int):Int):=zE (by with_reducible assumption);obtain ⟨go43,co43,eo43,gb43,gl43,cl43,HG43⟩:=Kd.R_form HO_6.out (by omega);(first|cases eo43|(injection eo43 with ea_ en_ ec_;(first|subst ea_|(injection ea_ with ea_;subst ea_));subst ec_;clear en_));have GB43:=zA gb43;have GG43:=zA HG43;clear gb43 gl43 HG43;obtain ⟨hx43_0,hf43_0⟩:=Kd.R_celln 0 HO_6.out (x8_1:Int) p43 q43;replace p43:=eq_true p43;replace q43:=eq_true q43;obtain ⟨hy50_,hz50_⟩:=Kd.R_celln 0 HO_6.out (x8_1:Int) (zE (by with_reducible assumption)) (zE (by with_reducible assumption));have HP50:=Kd.R_putg HO_6.out (x8_1:Int) (rd x7_1 (ji37)))|((with_reducible refine gate_store (t:=3) (p:=58) rfl ?_);refine store_event (t:=3) (p:=58) (v:=?vo_w51) (w1:=(w48.setCell ⟨go43,(x8_1:Int).toNat,none⟩ (.int .i64 (rd x7_1 (ji37))))) ?hg ?ho ?hn ?hr ?_;(case ho=>rfl);(case hg=>rfl);(case hn=>rfl);(case hr=>first|(go_simp;done)|(go_simp;rfl));intro w51 hw;have hg:w48.grownBy w51 (some go43):=(by rw [hw];exact HP50.2);have hp_:Kd.R (Kd.int .i64) 3 w51 w.heap.size (fun k_=>some k_≠(.slice (some ad493) y494.length co47:Value).ownBlock) (.slice (some ⟨go43,0,none⟩) x6_1.length co43) y497:=(by rw [hw,Ny497.out];exact HP50.1);clear HP50;have n0_:=zA (hp_);have n1_:=zA (Kd.R_after (v:=(.slice (some ⟨go43,0,none⟩) x6_1.length co43)) (v1:=(.slice (some ⟨go43,0,none⟩) x6_1.length co43)) (ok:=(fun _=>True)) (by apply zR_;exact zV HO496.out (fun _ hk=>⟨trivial,hk⟩)) hg (.inl rfl));have n2_:=zA (IsS84.grown (by repeat (first|(with_reducible first|exact HI0.out|apply IsS84.alloc|apply IsS84.drewN|apply IsS84.drew|apply IsS84.set_1)|exact HI0.out)) hg (IsS84.own_ne HI0.out HO_6.out (by decide)));have n3_:=zA ((by rw [hw];exact zF (HB.out) (Nat.le_trans HL.out GB43.out):Below w0.heap.size w0 w51));have n4_:=zA (KeepBut.trans (by repeat (first|(with_reducible first|exact HK.out|apply KeepBut.set_|apply keep_drewN|apply keep_drew|apply keep_alloc)|exact HK.out)) (KeepBut.of_grown hg g) (Kd.R_base2 HO_6.out));clear HO_6;clear HO496;clear HI0;clear HB;clear HK;have HO_6:=n0_;have HO496:=n1_;have HI0:=n2_;have HB:=n3_;have HK:=n4_;clear n0_ n1_ n2_ n3_ n4_;clear hg hw hp_;have p46:0≤((rd x7_1 (ji37)):Int):=zE (by with_reducible assumption);have q46:((rd x7_1 (ji37)):Int) < ((x6_1.length:Int):Int):=zE (by with_reducible assumption);obtain ⟨hx46_0,hf46_0⟩:=Kd.R_celln 0 HO_6.out ((rd x7_1 (ji37)):Int) p46 q46;replace p46:=eq_true p46;replace q46:=eq_true q46;obtain ⟨hy52_,hz52_⟩:=Kd.R_celln 0 HO_6.out ((rd x7_1 (ji37)):Int) (zE (by with_reducible assumption)) (zE (by with_reducible assumption));have HP52:=Kd.R_putg HO_6.out ((rd x7_1 (ji37)):Int) x8_1)|((with_reducible refine gate_store (t:=3) (p:=62) rfl ?_);refine store_event (t:=3) (p:=62) (v:=?vo_w53) (w1:=(w51.setCell ⟨go43,((rd x7_1 (ji37)):Int).toNat,none⟩ (.int .i64 x8_1))) ?hg ?ho ?hn ?hr ?_;(case ho=>rfl);(case hg=>rfl);(case hn=>rfl);(case hr=>first|(go_simp;done)|(go_simp;rfl));intro w53 hw;have hg:w51.grownBy w53 (some go43):=(by rw [hw];exact HP52.2);have hp_:Kd.R (Kd.int .i64) 3 w53 w.heap.size (fun k_=>some k_≠(.slice (some ad493) y494.length co47:Value).ownBlock) (.slice (some ⟨go43,0,none⟩) x6_1.length co43) y498:=(by rw [hw,Ny498.out];exact HP52.1);clear HP52;have n0_:=zA (hp_);have n1_:=zA (Kd.R_after (v:=(.slice (some ⟨go43,0,none⟩) x6_1.length co43)) (v1:=(.slice (some ⟨go43,0,none⟩) x6_1.length co43)) (ok:=(fun _=>True)) (by apply zR_;exact HO496.out) hg (.inl rfl));have n2_:=zA (IsS84.grown (by repeat (first|(with_reducible first|exact HI0.out|apply IsS84.alloc|apply IsS84.drewN|apply IsS84.drew|apply IsS84.set_1)|exact HI0.out)) hg (IsS84.own_ne HI0.out HO_6.out (by decide)));have n3_:=zA ((by rw [hw];exact zF (HB.out) (Nat.le_trans HL.out GB43.out):Below w0.heap.size w0 w53));have n4_:=zA (KeepBut.trans (by repeat (first|(with_reducible first|exact HK.out|apply KeepBut.set_|apply keep_drewN|apply keep_drew|apply keep_alloc)|exact HK.out)) (KeepBut.of_grown hg g) (Kd.R_base2 HO_6.out));clear HO_6;clear HO496;clear HI0;clear HB;clear HK;have HO_6:=n0_;have HO496:=n1_;have HI0:=n2_;have HB:=n3_;have HK:=n4_;clear n0_ n1_ n2_ n3_ n4_;clear hg hw hp_))
                 go_roundg k1
                 case measure=>have:=HK1.out;omega
                 case rel=>exact ⟨(y498),(y494),(wrap64 (x8_1+1)),(t486),(by first|rfl|(simp;done)|(simp [*];done)),H',⟨by have:=HK1.out;omega⟩,⟨by apply zR_;exact HO_6.out⟩,⟨by apply zR_;exact zV HO496.out (fun _ hk=>hk.2)⟩,⟨by repeat (first|(with_reducible first|exact HI0.out|apply IsS84.alloc|apply IsS84.drewN|apply IsS84.drew|apply IsS84.set_1)|exact HI0.out)⟩,⟨by repeat (first|(with_reducible first|exact HK.out|apply KeepBut.set_|apply keep_drewN|apply keep_drew|apply keep_alloc)|exact HK.out)⟩,⟨by repeat (first|(with_reducible first|exact HB.out|apply zD|apply zB|apply zC|refine zF ?_ (IsS84.ge HI0.out))|exact HB.out)⟩⟩
                ·rw [if_neg c45] at H
                 exact absurd H (by simp)
               ·rw [if_neg c44] at H
                exact absurd H (by simp)
              ·rw [if_neg c42] at H
               exact absurd H (by simp)
             ·rw [if_neg c41] at H
              exact absurd H (by simp)
            ·rw [if_neg c40] at H
             exact absurd H (by simp)
           ·rw [if_neg c39] at H
            exact absurd H (by simp)
          ·rw [if_neg c38] at H
           exact absurd H (by simp)
         ·rw [if_neg c36] at H
          have c36b0:((x7_1.length:Int) == (wrap64 (ji4 - x8_1))) = false:=beq_eq_false_iff_ne.mpr c36
          have c36b1:((x7_1.length:Int) != (wrap64 (ji4 - x8_1))) = true:=bne_iff_ne.mpr c36
          by_cases c54:x7_1.length < 17592186044416
          ·rw [if_pos c54] at H
           have LMc54:=zA c54
           clear c54
           obtain ⟨y499,hy499⟩:∃ y_:List Int,y_ = (x7_1 ++ [x8_1]):=⟨_,rfl⟩
           replace H:(spec_l91Gluing.l0 k1 ji4 x6_1 y499 (wrap64 (x8_1+1)) s0_0 t486) = some (r1,r2):=by (try rw [hy499]);first|with_reducible exact H|with_reducible exact zS_ H|exact H
           have Ny499:=zA hy499
           clear hy499
           have H':=zA H
           clear H
           obtain ⟨Ao55,co55,eo55⟩:=zg HO_7.out
           subst eo55
           go_wp2_with (first|(go_at_call 90;(with_reducible refine (spec_l6Rd_pick.calls k1 g s0_0 x1001_1 2 t485 t486 w0 _ ?side1 ?side2 A17.out).mono ?_);(case side1=>repeat (first|(with_reducible first|exact HI0.out|apply IsS84.alloc|apply IsS84.drewN|apply IsS84.drew|apply IsS84.set_1)|exact HI0.out));(case side2=>repeat (first|(with_reducible first|exact HB.out|apply zD|apply zB|apply zC|refine zF ?_ (IsS84.ge HI0.out))|exact HB.out));rintro e w56 ⟨rfl,hi,hb,hk⟩;have n0_:=zA (zV (Kd.R_keep (IsS84.apart (show IsS84 w0 _ g s0_0 x1001_1 from by repeat (first|(with_reducible first|exact HI0.out|apply IsS84.alloc|apply IsS84.drewN|apply IsS84.drew|apply IsS84.set_1)|exact HI0.out)) (by apply zR_;exact HO_6.out) (by decide)) hk (fun _ h=>h.2)) (fun _ h=>h.1));have n1_:=zA (zV (Kd.R_keep (IsS84.apart (show IsS84 w0 _ g s0_0 x1001_1 from by repeat (first|(with_reducible first|exact HI0.out|apply IsS84.alloc|apply IsS84.drewN|apply IsS84.drew|apply IsS84.set_1)|exact HI0.out)) (by apply zR_;exact HO_7.out) (by decide)) hk (fun _ h=>h.2)) (fun _ h=>h.1));have n2_:=zA (KeepBut.trans (by repeat (first|(with_reducible first|exact HK.out|apply KeepBut.set_|apply keep_drewN|apply keep_drew|apply keep_alloc)|exact HK.out)) hk (.inl rfl));have n3_:=zA (hb);have n4_:=zA (hi);clear HO_6;clear HO_7;clear HK;clear HB;clear HI0;have HO_6:=n0_;have HO_7:=n1_;have HK:=n2_;have HB:=n3_;have HI0:=n4_;clear n0_ n1_ n2_ n3_ n4_;(try clear hb);(try clear hb2);(try clear hk);(try clear hi))|((with_reducible refine gate_builtin (b:=.append) (xs:=#[.tmp 63,.tmp 65]) rfl ?_);(try (refine gate_guard (by rfl) ?_;dsimp only));at_builtin;refine Kd.R_append (Kd.int .i64) w.heap.size rfl (.tmp 63) (.tmp 65) 23 3 (.int .i64 0) 8 rfl Try.underlying23 info3 rfl (by decide) (by omega) (.slice Ao55 x7_1.length co55) x7_1 x8_1 [.int .i64 x8_1] (fun k_=>some k_≠(v478:Value).ownBlock) (fun _=>False) rfl rfl ?aP (fun _ hk=>hk.elim) ?aF ?aO (Below.refl _ _) ?aS ?aL ?_;(case aP=>exact rfl);(case aF=>exact (fun k_ hk=>Kd.fresh' (Kd.R_lt (by apply zR_;exact HO_6.out)) k_ hk));(case aO=>exact (by apply zR_;exact HO_7.out));(case aS=>exact (keep_size (w:=w) (g:=g) (row:=none) (by repeat (first|(with_reducible first|exact HK.out|apply KeepBut.set_|apply keep_drewN|apply keep_drew|apply keep_alloc)|exact HK.out))));(case aL=>have:=LMc54.out;omega);intro v500 w57 ho hb hg hat;rw [← Ny499.out] at ho;have n0_:=zA (Kd.R_after (ok:=(fun _=>True)) (by apply zR_;exact zV HO_6.out (fun _ hk=>⟨trivial,hk⟩)) hg hat);have n1_:=zA (IsS84.grown (by repeat (first|(with_reducible first|exact HI0.out|apply IsS84.alloc|apply IsS84.drewN|apply IsS84.drew|apply IsS84.set_1)|exact HI0.out)) hg (IsS84.own_ne HI0.out HO_7.out (by decide)));have n2_:=zA (below_weaken (by repeat (first|(with_reducible first|exact HB.out|apply zD|apply zB|apply zC|refine zF ?_ (IsS84.ge HI0.out))|exact HB.out)) HL.out hb);have n3_:=zA (KeepBut.trans (by repeat (first|(with_reducible first|exact HK.out|apply KeepBut.set_|apply keep_drewN|apply keep_drew|apply keep_alloc)|exact HK.out)) (KeepBut.of_grown hg g) (Kd.R_base2 HO_7.out));have n4_:=zA (ho);clear HO_6;clear HI0;clear HB;clear HK;clear HO_7;have HO_6:=n0_;have HI0:=n1_;have HB:=n2_;have HK:=n3_;have HO501:=n4_;clear n0_ n1_ n2_ n3_ n4_;clear ho hb hg hat))
           go_roundg k1
           case measure=>have:=HK1.out;omega
           case rel=>exact ⟨(x6_1),(y499),(wrap64 (x8_1+1)),(t486),(by first|rfl|(simp;done)|(simp [*];done)),H',⟨by have:=HK1.out;omega⟩,⟨by apply zR_;exact zV HO_6.out (fun _ hk=>hk.2)⟩,⟨by apply zR_;exact HO501.out⟩,⟨by repeat (first|(with_reducible first|exact HI0.out|apply IsS84.alloc|apply IsS84.drewN|apply IsS84.drew|apply IsS84.set_1)|exact HI0.out)⟩,⟨by repeat (first|(with_reducible first|exact HK.out|apply KeepBut.set_|apply keep_drewN|apply keep_drew|apply keep_alloc)|exact HK.out)⟩,⟨by repeat (first|(with_reducible first|exact HB.out|apply zD|apply zB|apply zC|refine zF ?_ (IsS84.ge HI0.out))|exact HB.out)⟩⟩
          ·rw [if_neg c54] at H
           exact absurd H (by simp)
       ·rw [if_neg c16] at H
        have c16b0:decide (0 < (x7_1.length:Int)) = false:=zP c16
        have c16b1:decide (0 < x7_1.length) = false:=zP (by omega)
        clear c16
        by_cases c58:x7_1.length < 17592186044416
        ·rw [if_pos c58] at H
         have LMc58:=zA c58
         clear c58
         obtain ⟨y502,hy502⟩:∃ y_:List Int,y_ = (x7_1 ++ [x8_1]):=⟨_,rfl⟩
         replace H:(spec_l91Gluing.l0 k1 ji4 x6_1 y502 (wrap64 (x8_1+1)) s0_0 x1001_1) = some (r1,r2):=by (try rw [hy502]);first|with_reducible exact H|with_reducible exact zS_ H|exact H
         have Ny502:=zA hy502
         clear hy502
         have H':=zA H
         clear H
         obtain ⟨Ao59,co59,eo59⟩:=zg HO_7.out
         subst eo59
         go_wp2_with (first|((with_reducible refine gate_builtin (b:=.append) (xs:=#[.tmp 63,.tmp 65]) rfl ?_);(try (refine gate_guard (by rfl) ?_;dsimp only));at_builtin;refine Kd.R_append (Kd.int .i64) w.heap.size rfl (.tmp 63) (.tmp 65) 23 3 (.int .i64 0) 8 rfl Try.underlying23 info3 rfl (by decide) (by omega) (.slice Ao59 x7_1.length co59) x7_1 x8_1 [.int .i64 x8_1] (fun k_=>some k_≠(v478:Value).ownBlock) (fun _=>False) rfl rfl ?aP (fun _ hk=>hk.elim) ?aF ?aO (Below.refl _ _) ?aS ?aL ?_;(case aP=>exact rfl);(case aF=>exact (fun k_ hk=>Kd.fresh' (Kd.R_lt (by apply zR_;exact HO_6.out)) k_ hk));(case aO=>exact (by apply zR_;exact HO_7.out));(case aS=>exact (keep_size (w:=w) (g:=g) (row:=none) (by repeat (first|(with_reducible first|exact HK.out|apply KeepBut.set_|apply keep_drewN|apply keep_drew|apply keep_alloc)|exact HK.out))));(case aL=>have:=LMc58.out;omega);intro v503 w60 ho hb hg hat;rw [← Ny502.out] at ho;have n0_:=zA (Kd.R_after (ok:=(fun _=>True)) (by apply zR_;exact zV HO_6.out (fun _ hk=>⟨trivial,hk⟩)) hg hat);have n1_:=zA (IsS84.grown (by repeat (first|(with_reducible first|exact HI0.out|apply IsS84.alloc|apply IsS84.drewN|apply IsS84.drew|apply IsS84.set_1)|exact HI0.out)) hg (IsS84.own_ne HI0.out HO_7.out (by decide)));have n2_:=zA (below_weaken (by repeat (first|(with_reducible first|exact HB.out|apply zD|apply zB|apply zC|refine zF ?_ (IsS84.ge HI0.out))|exact HB.out)) HL.out hb);have n3_:=zA (KeepBut.trans (by repeat (first|(with_reducible first|exact HK.out|apply KeepBut.set_|apply keep_drewN|apply keep_drew|apply keep_alloc)|exact HK.out)) (KeepBut.of_grown hg g) (Kd.R_base2 HO_7.out));have n4_:=zA (ho);clear HO_6;clear HI0;clear HB;clear HK;clear HO_7;have HO_6:=n0_;have HI0:=n1_;have HB:=n2_;have HK:=n3_;have HO504:=n4_;clear n0_ n1_ n2_ n3_ n4_;clear ho hb hg hat))
         go_roundg k1
         case measure=>have:=HK1.out;omega
         case rel=>exact ⟨(x6_1),(y502),(wrap64 (x8_1+1)),(x1001_1),(by first|rfl|(simp;done)|(simp [*];done)),H',⟨by have:=HK1.out;omega⟩,⟨by apply zR_;exact zV HO_6.out (fun _ hk=>hk.2)⟩,⟨by apply zR_;exact HO504.out⟩,⟨by repeat (first|(with_reducible first|exact HI0.out|apply IsS84.alloc|apply IsS84.drewN|apply IsS84.drew|apply IsS84.set_1)|exact HI0.out)⟩,⟨by repeat (first|(with_reducible first|exact HK.out|apply KeepBut.set_|apply keep_drewN|apply keep_drew|apply keep_alloc)|exact HK.out)⟩,⟨by repeat (first|(with_reducible first|exact HB.out|apply zD|apply zB|apply zC|refine zF ?_ (IsS84.ge HI0.out))|exact HB.out)⟩⟩
        ·rw [if_neg c58] at H
         exact absurd H (by simp)
      ·rw [if_neg c15] at H
       have c15b0:decide (x8_1 < ji4) = false:=zP c15
       clear c15
       simp only [Option.some.injEq,Prod.mk.injEq] at H
       obtain ⟨rfl,rfl⟩:=H
       go_wp2
       go_ret
       exact ⟨_,by first|rfl|(simp [errW_none,errW_some] <;> rfl)|(simp only [← hji4];first|rfl|(simp [errW_none,errW_some] <;> rfl))|(simp [*,errW_none,errW_some] <;> rfl),by apply zR_;exact zV HO_6.out (fun _ hk=>trivial),by repeat (first|(with_reducible first|exact HI0.out|apply IsS84.alloc|apply IsS84.drewN|apply IsS84.drew|apply IsS84.set_1)|exact HI0.out),by repeat (first|(with_reducible first|exact HB.out|apply zD|apply zB|apply zC|refine zF ?_ (IsS84.ge HI0.out))|exact HB.out),by repeat (first|(with_reducible first|exact HK.out|apply KeepBut.set_|apply keep_drewN|apply keep_drew|apply keep_alloc)|exact HK.out)⟩
   ·rw [if_neg c8] at H
    have c8b0:(t480 == 0) = false:=beq_eq_false_iff_ne.mpr c8
    have c8b1:(t480 != 0) = true:=bne_iff_ne.mpr c8
    replace H:=zz0 H
    obtain ⟨⟨t505,t508⟩,A610,H⟩:=H
    try dsimp only at H
    have A61:=zA A610
    clear A610
    have H':=zA H
    clear H
    go_enter Try.func77,Try.ntmps77
    go_wp2_with (first|((with_reducible refine gate_callee (f:=90) rfl ?_);refine goesL_ (some 14) rfl rfl Try.func90 (by kernel_rfl) rfl #[.pointer (some ⟨g,0,none⟩),.int .i64 a1] rfl (by (try simp only [zJ,zM,zN]);first|done|rfl|(simp only [zL,zK];rfl)) ?_;(with_reducible refine (spec_l6Rd_pick.calls k g s0_0 s0_1 a1 t475 t476 w0 _ ?side1 ?side2 A3.out).mono ?_);(case side1=>repeat (first|(with_reducible first|exact HI0.out|apply IsS84.alloc|apply IsS84.drewN|apply IsS84.drew|apply IsS84.set_1)|exact HI0.out));(case side2=>repeat (first|(with_reducible first|exact HB.out|apply zD|apply zB|apply zC|refine zF ?_ (IsS84.ge HI0.out))|exact HB.out));rintro e w62 ⟨rfl,hi,hb,hk⟩;refine ⟨_,rfl,?_⟩;have n0_:=zA (KeepBut.trans (by repeat (first|(with_reducible first|exact HK.out|apply KeepBut.set_|apply keep_drewN|apply keep_drew|apply keep_alloc)|exact HK.out)) hk (.inl rfl));have n1_:=zA (hb);have n2_:=zA (hi);clear HK;clear HB;clear HI0;have HK:=n0_;have HB:=n1_;have HI0:=n2_;clear n0_ n1_ n2_;(try clear hb);(try clear hb2);(try clear hk);(try clear hi))|((with_reducible refine gate_dst (N:=18) rfl ?_);(try (refine gate_guard (by rfl) ?_;dsimp only));refine Kd.R_make (Kd.int .i64) _ 3 rfl (N:=18) rfl 23 _ _ rfl ji4 rfl rfl Try.underlying23 (.int .i64 0) 8 info3 rfl (by decide) (by omega) 0 (ok:=fun _=>True) (okp:=fun _=>True) rfl (fun _ hk=>hk) trivial (zE (by with_reducible assumption)) (Nat.le_trans (Nat.mul_le_mul_right _ (zE (by with_reducible assumption):ji4.toNat≤35184372088832)) (by omega)) (Below.refl _ _) (Nat.le_refl _) ?_;intro v478 w63 ho64 hb hg_ hnew_;clear hg_ hnew_;(first|rw [← Ny477.out] at ho64|(simp only [Int.reduceToNat] at ho64;rw [← Ny477.out] at ho64));have n0_:=zA (ze ho64 (keep_size (w:=w) (g:=g) (row:=none) (by repeat (first|(with_reducible first|exact HK.out|apply KeepBut.set_|apply keep_drewN|apply keep_drew|apply keep_alloc)|exact HK.out))));have n1_:=zA (IsS84.below (by repeat (first|(with_reducible first|exact HI0.out|apply IsS84.alloc|apply IsS84.drewN|apply IsS84.drew|apply IsS84.set_1)|exact HI0.out)) hb);have n2_:=zA (KeepBut.trans (by repeat (first|(with_reducible first|exact HK.out|apply KeepBut.set_|apply keep_drewN|apply keep_drew|apply keep_alloc)|exact HK.out)) (KeepBut.of_below hb g none) (.inl rfl));have n3_:=zA (zR (by repeat (first|(with_reducible first|exact HB.out|apply zD|apply zB|apply zC|refine zF ?_ (IsS84.ge HI0.out))|exact HB.out)) hb);clear HI0;clear HK;clear HB;have HO479:=n0_;have HI0:=n1_;have HK:=n2_;have HB:=n3_;clear n0_ n1_ n2_ n3_;clear hb ho64)|((with_reducible refine gate_callee (f:=90) rfl ?_);refine goesL_ (some 20) rfl rfl Try.func90 (by kernel_rfl) rfl #[.pointer (some ⟨g,0,none⟩),.int .i64 3] rfl (by (try simp only [zJ,zM,zN]);first|done|rfl|(simp only [zL,zK];rfl)) ?_;(with_reducible refine (spec_l6Rd_pick.calls k g s0_0 t476 3 t480 t481 w0 _ ?side1 ?side2 A7.out).mono ?_);(case side1=>repeat (first|(with_reducible first|exact HI0.out|apply IsS84.alloc|apply IsS84.drewN|apply IsS84.drew|apply IsS84.set_1)|exact HI0.out));(case side2=>repeat (first|(with_reducible first|exact HB.out|apply zD|apply zB|apply zC|refine zF ?_ (IsS84.ge HI0.out))|exact HB.out));rintro e w65 ⟨rfl,hi,hb,hk⟩;refine ⟨_,rfl,?_⟩;have n0_:=zA (zV (Kd.R_keep (IsS84.apart (show IsS84 w0 _ g s0_0 t476 from by repeat (first|(with_reducible first|exact HI0.out|apply IsS84.alloc|apply IsS84.drewN|apply IsS84.drew|apply IsS84.set_1)|exact HI0.out)) (by apply zR_;exact HO479.out) (by decide)) hk (fun _ h=>h.2)) (fun _ h=>h.1));have n1_:=zA (KeepBut.trans (by repeat (first|(with_reducible first|exact HK.out|apply KeepBut.set_|apply keep_drewN|apply keep_drew|apply keep_alloc)|exact HK.out)) hk (.inl rfl));have n2_:=zA (hb);have n3_:=zA (hi);clear HO479;clear HK;clear HB;clear HI0;have HO479:=n0_;have HK:=n1_;have HB:=n2_;have HI0:=n3_;clear n0_ n1_ n2_ n3_;(try clear hb);(try clear hb2);(try clear hk);(try clear hi))|((with_reducible refine gate_callee (f:=91) rfl ?_);refine goesL_ (some 70) rfl rfl Try.func91 (by kernel_rfl) rfl #[.pointer (some ⟨g,0,none⟩),.int .i64 ji4] rfl (by (try simp only [zJ,zM,zN]);first|done|(simp only [hji4];rfl)|rfl|(simp only [zL,zK];rfl)) ?_;(with_reducible refine (spec_l91Perm.calls k g s0_0 t481 ji4 t505 t508 w0 _ ?side1 ?side2 A61.out).mono ?_);(case side1=>repeat (first|(with_reducible first|exact HI0.out|apply IsS84.alloc|apply IsS84.drewN|apply IsS84.drew|apply IsS84.set_1)|exact HI0.out));(case side2=>repeat (first|(with_reducible first|exact HB.out|apply zD|apply zB|apply zC|refine zF ?_ (IsS84.ge HI0.out))|exact HB.out));rintro e w66 ⟨v506,rfl,ho0,hi,hb,hk⟩;refine ⟨_,rfl,?_⟩;have n0_:=zA (zV (Kd.R_told (Kd.R_oldK (IsS84.apart (show IsS84 w0 _ g s0_0 t481 from by repeat (first|(with_reducible first|exact HI0.out|apply IsS84.alloc|apply IsS84.drewN|apply IsS84.drew|apply IsS84.set_1)|exact HI0.out)) (by apply zR_;exact HO479.out) (by decide)) hk) (zd ho0)) (fun _ h_=>h_.1));have n1_:=zA (ze (zh ho0 (Kd.R_lt (by apply zR_;exact HO479.out))) (keep_size (w:=w) (g:=g) (row:=none) (by repeat (first|(with_reducible first|exact HK.out|apply KeepBut.set_|apply keep_drewN|apply keep_drew|apply keep_alloc)|exact HK.out))));have n2_:=zA (KeepBut.trans (by repeat (first|(with_reducible first|exact HK.out|apply KeepBut.set_|apply keep_drewN|apply keep_drew|apply keep_alloc)|exact HK.out)) hk (.inl rfl));have n3_:=zA (hb);have n4_:=zA (hi);clear HO479;clear HK;clear HB;clear HI0;have HO479:=n0_;have HO507:=n1_;have HK:=n2_;have HB:=n3_;have HI0:=n4_;clear n0_ n1_ n2_ n3_ n4_;(try clear hb);(try clear hb2);(try clear hk);(try clear hi);(try clear ho0)))
    go_loopg [11] k (fun kq v11 w' => ∃ (x6_1:List Int) (x11_1:Int),v11 = .int .i64 x11_1∧Aside0 (spec_l91Gluing.l1 kq ji4 x6_1 t505 x11_1 s0_0 t508 = some (r1,r2))∧Aside0 (kq≤k)∧Aside0 (Kd.R (Kd.int .i64) 3 w' w.heap.size (fun k_=>some k_≠(v506:Value).ownBlock) v478 x6_1)∧Aside0 (Kd.R (Kd.int .i64) 3 w' w.heap.size (fun k_=>some k_≠(v478:Value).ownBlock) v506 t505)∧Aside0 (IsS84 w0 w' g s0_0 t508)∧Aside0 (KeepBut w w' g none)∧Aside0 (Below w0.heap.size w0 w'))
    case atStart=>exact ⟨(y477),(0),(by first|rfl|(simp;done)|(simp [*];done)),H',⟨Nat.le_refl _⟩,⟨by apply zR_;exact zV HO479.out (fun _ hk=>hk.2)⟩,⟨by apply zR_;exact zV HO507.out (fun _ hk=>hk.2)⟩,⟨by repeat (first|(with_reducible first|exact HI0.out|apply IsS84.alloc|apply IsS84.drewN|apply IsS84.drew|apply IsS84.set_1)|exact HI0.out)⟩,⟨by repeat (first|(with_reducible first|exact HK.out|apply KeepBut.set_|apply keep_drewN|apply keep_drew|apply keep_alloc)|exact HK.out)⟩,⟨by repeat (first|(with_reducible first|exact HB.out|apply zD|apply zB|apply zC|refine zF ?_ (IsS84.ge HI0.out))|exact HB.out)⟩⟩
    case round =>
     clear H'
     (try clear c1);(try clear c2);(try clear p2);(try clear q2);(try clear hx2);(try clear hf2);(try clear c3);(try clear q3);(try clear c4);(try clear p4);(try clear q4);(try clear hx4);(try clear hf4);(try clear c5);(try clear c5b0);(try clear c5b1);(try clear c6);(try clear c6b0);(try clear c6b1);(try clear p6);(try clear c7);(try clear c8);(try clear c8b0);(try clear c8b1);(try clear c9);(try clear c15);(try clear c15b0);(try clear c16);(try clear c16b0);(try clear c16b1);(try clear c18);(try clear c18b0);(try clear c18b1);(try clear c20);(try clear c20b0);(try clear c21);(try clear c21b0);(try clear c22);(try clear c22b0);(try clear c22b1);(try clear c23);(try clear c23b0);(try clear c24);(try clear c24b0);(try clear p25);(try clear q25);(try clear hx25);(try clear hf25);(try clear c26);(try clear c26b0);(try clear c27);(try clear c27b0);(try clear p28);(try clear q28);(try clear hx28);(try clear hf28);(try clear q31);(try clear c36);(try clear c36b0);(try clear c36b1);(try clear c38);(try clear c38b0);(try clear c39);(try clear c39b0);(try clear c40);(try clear c40b0);(try clear c40b1);(try clear c41);(try clear c41b0);(try clear c42);(try clear c42b0);(try clear p43);(try clear q43);(try clear hx43);(try clear hf43);(try clear c44);(try clear c44b0);(try clear c45);(try clear c45b0);(try clear p46);(try clear q46);(try clear hx46);(try clear hf46);(try clear p48);(try clear q48);(try clear hx48);(try clear p49);(try clear q49);(try clear hx49);(try clear c54);(try clear c58);(try clear p64);(try clear hx25_0);(try clear hx28_0);(try clear hx43_0);(try clear hx46_0);(try clear hx487_0);(try clear hx493_0);(try clear p2);(try clear p25);(try clear p28);(try clear p43);(try clear p46);(try clear p487);(try clear p493);(try clear p6);(try clear q25);(try clear q28);(try clear q31);(try clear q43);(try clear q46);(try clear q487);(try clear q49);(try clear q493)
     obtain ⟨x6_1,x11_1,rfl,HA,HK1,HO_6,HO_10,HI0,HK,HB⟩:=hrel
     cases gk with
     | zero=>exact absurd HA.out (by simp [spec_l91Gluing.l1])
     | succ k1 =>
      have H:=HA.out
      clear HA
      simp only [spec_l91Gluing.l1] at H
      by_cases c67:(wrap64 (x11_1+1)) < ji4
      ·rw [if_pos c67] at H
       have c67b0:decide ((wrap64 (x11_1+1)) < ji4) = true:=zO c67
       clear c67
       by_cases c68:0≤x11_1
       ·rw [if_pos c68] at H
        have c68b0:decide (0≤x11_1) = true:=zO c68
        clear c68
        by_cases c69:x11_1 < (t505.length:Int)
        ·rw [if_pos c69] at H
         have c69b0:decide (x11_1 < (t505.length:Int)) = true:=zO c69
         clear c69
         obtain ⟨ji70,hji70⟩:∃ j_:Int,(wrap64 (x11_1+1)) = j_:=⟨_,rfl⟩
         replace H:(if 0≤(ji70) then (if (ji70) < (t505.length:Int) then (if 0≤(rd t505 x11_1) then (if (rd t505 x11_1) < (x6_1.length:Int) then (if 0≤(rd t505 (ji70)) then (if (rd t505 (ji70)) < (x6_1.length:Int) then (spec_l91Gluing.l1 k1 ji4 ((x6_1.set ((rd t505 x11_1):Int).toNat (rd t505 (ji70))).set ((rd t505 (ji70)):Int).toNat (rd t505 x11_1)) t505 (wrap64 (x11_1+2)) s0_0 t508) else (none)) else (none)) else (none)) else (none)) else (none)) else (none)) = some (r1,r2):=by first|(rw [hji70] at H;exact H)|(simp only [hji70] at H ⊢;exact H)
         (try rw [hji70] at c67b0)
         have hji70w:(IntKind.i64.wrap (x11_1+1)) = ji70:=(i64_w _).trans hji70
         by_cases c71:0≤(ji70)
         ·rw [if_pos c71] at H
          have c71b0:decide (0≤(ji70)) = true:=zO c71
          clear c71
          by_cases c72:(ji70) < (t505.length:Int)
          ·rw [if_pos c72] at H
           have c72b0:decide ((ji70) < (t505.length:Int)) = true:=zO c72
           clear c72
           by_cases c73:0≤(rd t505 x11_1)
           ·rw [if_pos c73] at H
            have c73b0:decide (0≤(rd t505 x11_1)) = true:=zO c73
            clear c73
            by_cases c74:(rd t505 x11_1) < (x6_1.length:Int)
            ·rw [if_pos c74] at H
             have c74b0:decide ((rd t505 x11_1) < (x6_1.length:Int)) = true:=zO c74
             clear c74
             obtain ⟨y511,hy511⟩:∃ y_:List Int,y_ = (x6_1.set ((rd t505 x11_1):Int).toNat (rd t505 (ji70))):=⟨_,rfl⟩
             replace H:(if 0≤(rd t505 (ji70)) then (if (rd t505 (ji70)) < (x6_1.length:Int) then (spec_l91Gluing.l1 k1 ji4 (y511.set ((rd t505 (ji70)):Int).toNat (rd t505 x11_1)) t505 (wrap64 (x11_1+2)) s0_0 t508) else (none)) else (none)) = some (r1,r2):=by (try rw [hy511]);first|with_reducible exact H|with_reducible exact zS_ H|exact H
             have Ny511:=zA hy511
             clear hy511
             by_cases c76:0≤(rd t505 (ji70))
             ·rw [if_pos c76] at H
              have c76b0:decide (0≤(rd t505 (ji70))) = true:=zO c76
              clear c76
              by_cases c77:(rd t505 (ji70)) < (x6_1.length:Int)
              ·rw [if_pos c77] at H
               have c77b0:decide ((rd t505 (ji70)) < (x6_1.length:Int)) = true:=zO c77
               clear c77
               obtain ⟨y514,hy514⟩:∃ y_:List Int,y_ = (y511.set ((rd t505 (ji70)):Int).toNat (rd t505 x11_1)):=⟨_,rfl⟩
               replace H:(spec_l91Gluing.l1 k1 ji4 y514 t505 (wrap64 (x11_1+2)) s0_0 t508) = some (r1,r2):=by (try rw [hy514]);first|with_reducible exact H|with_reducible exact zS_ H|exact H
               have Ny514:=zA hy514
               clear hy514
               have H':=zA H
               clear H
               try go_wp2
               have n0_:=zA (Kd.R_drew HO_6.out)
               have n1_:=zA (Kd.R_drew HO_10.out)
               have n2_:=zA (IsS84.drew HI0.out)
               have n3_:=zA (keep_drew HK.out)
               have n4_:=zA (zC HB.out)
               clear HO_6 HO_10 HI0 HK HB
               have HO_6:=n0_
               have HO_10:=n1_
               have HI0:=n2_
               have HK:=n3_
               have HB:=n4_
               clear n0_ n1_ n2_ n3_ n4_
               obtain ⟨Ao80,co80,eo80⟩:=zg HO_10.out
               (first|subst eo80|(injection eo80 with f1_ f2_ f3_;have f4_:=f1_.symm;have f5_:=f3_.symm;clear f1_ f2_ f3_;subst f4_;subst f5_))
               have p509:0≤(x11_1:Int):=zE (by with_reducible assumption)
               have q509:x11_1 < (t505.length:Int):=zE (by with_reducible assumption)
               obtain ⟨ad509,e509,hx509_0⟩:=Kd.at_int (zU HO_10.out).2.2 x11_1 p509 q509
               cases e509
               replace p509:=eq_true p509
               replace q509:=eq_true q509
               have p510:0≤((ji70):Int):=zE (by with_reducible assumption)
               have q510:(ji70) < (t505.length:Int):=zE (by with_reducible assumption)
               obtain ⟨ad510,e510,hx510_0⟩:=Kd.at_int (zU HO_10.out).2.2 (ji70) p510 q510
               obtain rfl:ad509 = ad510:=(by injection e510)
               replace p510:=eq_true p510
               replace q510:=eq_true q510
               have p75:0≤((rd t505 x11_1):Int):=zE (by with_reducible assumption)
               have q75:((rd t505 x11_1):Int) < ((x6_1.length:Int):Int):=zE (by with_reducible assumption)
               obtain ⟨go75,co75,eo75,gb75,gl75,cl75,HG75⟩:=Kd.R_form HO_6.out (by omega)
               (first|cases eo75|(injection eo75 with ea_ en_ ec_;(first|subst ea_|(injection ea_ with ea_;subst ea_));subst ec_;clear en_))
               have GB75:=zA gb75
               have GG75:=zA HG75
               clear gb75 gl75 HG75
               obtain ⟨hx75_0,hf75_0⟩:=Kd.R_celln 0 HO_6.out ((rd t505 x11_1):Int) p75 q75
               replace p75:=eq_true p75
               replace q75:=eq_true q75
               have HN0_go75:=zA (show g≠go75 from by have h_:=IsS84.own_ne HI0.out HO_6.out (by decide);intro e_;exact h_ (by rw [e_];rfl))
               have HP81:=Kd.R_putn HO_6.out ((rd t505 x11_1):Int) (rd t505 (ji70))
               rw [← Ny511.out] at HP81
               have HQ81:=zA HP81
               clear HP81
               refine start_ (n:=12) (S:=fun w'=>w'.cell? (ad509.add (x11_1).toNat) = some (.int .i64 (rd t505 x11_1))∧w'.cell? (ad509.add ((ji70)).toNat) = some (.int .i64 (rd t505 (ji70)))) (ds:=[11]) #[zf,zf,zf,zf,zf,zf,zf,zf,zf,zf,zf,zf] (by kernel_rfl) rfl rfl ⟨hx509_0,hx510_0⟩ (fun hHeld=>?_);refine with_tabW spec_l91Gluing.tab19 spec_l91Gluing.bits19 (fun HT_ HW_=>?_)
               generalize wr.drew = w79 at HO_6 HO_10 HI0 HK HB GG75 HQ81 hf75_0 hx509_0 hx510_0 hx75_0 hHeld ⊢
               refine pure_ (i:=0) (N:=some 77) (v:=?_) (a':=?_) #[zt,zf,zf,zf,zf,zf,zf,zf,zf,zf,zf,zf] rfl rfl (any_of HT_.out (by kernel_rfl)) (fun _ _ _ h=>h) (Or.inl ⟨by rfl,?_⟩) ?_ ?_
               rotate_left
               ·intro w'
                go_simp
                with_reducible rfl
               rotate_left
               ·simp only [Act.put,zP_,i64_w]
                rfl
               refine pure_ (i:=1) (N:=some 78) (v:=?_) (a':=?_) #[zt,zt,zf,zf,zf,zf,zf,zf,zf,zf,zf,zf] rfl rfl (any_of HT_.out (by kernel_rfl)) (fun _ _ _ h=>h) (Or.inl ⟨by rfl,?_⟩) ?_ ?_
               rotate_left
               ·intro w'
                go_simp
                with_reducible rfl
               rotate_left
               ·simp only [Act.put,zP_,i64_w]
                rfl
               refine pure_ (i:=2) (N:=some 79) (v:=?_) (a':=?_) #[zt,zt,zt,zf,zf,zf,zf,zf,zf,zf,zf,zf] rfl rfl (any_of HT_.out (by kernel_rfl)) (fun _ _ _ h=>h) (Or.inl ⟨by rfl,?_⟩) ?_ ?_
               rotate_left
               ·intro w'
                go_simp
                with_reducible rfl
               rotate_left
               ·simp only [Act.put,zP_,i64_w]
                rfl
               refine pure_ (i:=3) (N:=some 80) (v:=?_) (a':=?_) #[zt,zt,zt,zt,zf,zf,zf,zf,zf,zf,zf,zf] rfl rfl (any_of HT_.out (by kernel_rfl)) (fun _ _ _ h=>h) (Or.inl ⟨by rfl,?_⟩) ?_ ?_
               rotate_left
               ·intro w'
                go_simp
                with_reducible rfl
               rotate_left
               ·simp only [Act.put,zP_,i64_w]
                rfl
               refine pure_ (i:=5) (N:=some 82) (v:=?_) (a':=?_) #[zt,zt,zt,zt,zf,zt,zf,zf,zf,zf,zf,zf] rfl rfl (any_of HT_.out (by kernel_rfl)) (fun _ _ _ h=>h) (Or.inl ⟨by rfl,?_⟩) ?_ ?_
               rotate_left
               ·intro w'
                go_simp
                with_reducible rfl
               rotate_left
               ·simp only [Act.put,zP_,i64_w]
                rfl
               refine pure_ (i:=6) (N:=some 83) (v:=?_) (a':=?_) #[zt,zt,zt,zt,zf,zt,zt,zf,zf,zf,zf,zf] rfl rfl (any_of HT_.out (by kernel_rfl)) (fun _ _ _ h=>h) (Or.inl ⟨by rfl,?_⟩) ?_ ?_
               rotate_left
               ·intro w'
                go_simp
                with_reducible rfl
               rotate_left
               ·simp only [Act.put,zP_,i64_w]
                rfl
               refine pure_ (i:=7) (N:=some 84) (v:=?_) (a':=?_) #[zt,zt,zt,zt,zf,zt,zt,zt,zf,zf,zf,zf] rfl rfl (any_of HT_.out (by kernel_rfl)) (fun _ _ _ h=>h) (Or.inl ⟨by rfl,?_⟩) ?_ ?_
               rotate_left
               ·intro w'
                go_simp
                with_reducible rfl
               rotate_left
               ·simp only [Act.put,zP_,i64_w]
                rfl
               refine pure_ (i:=8) (N:=some 85) (v:=?_) (a':=?_) #[zt,zt,zt,zt,zf,zt,zt,zt,zt,zf,zf,zf] rfl rfl (any_of HT_.out (by kernel_rfl)) (fun _ _ _ h=>h) (Or.inl ⟨by rfl,?_⟩) ?_ ?_
               rotate_left
               ·intro w'
                go_simp
                with_reducible rfl
               rotate_left
               ·simp only [Act.put,zP_,i64_w]
                rfl
               refine take_ (i:=4) (N:=some 81) (v:=?_) (a':=?_) #[zt,zt,zt,zt,zt,zt,zt,zt,zt,zf,zf,zf] rfl rfl (take_ofW HT_.out HW_.out (by kernel_rfl)) (fun _ _ _ h=>h) (Or.inl ⟨by rfl,?_⟩) hHeld ?_ ?_
               rotate_left
               ·rintro w' ⟨s0,s1⟩
                go_simp
                with_reducible rfl
               rotate_left
               ·simp only [Act.put,zP_,i64_w]
                rfl
               refine take_ (i:=9) (N:=some 86) (v:=?_) (a':=?_) #[zt,zt,zt,zt,zt,zt,zt,zt,zt,zt,zf,zf] rfl rfl (take_ofW HT_.out HW_.out (by kernel_rfl)) (fun _ _ _ h=>h) (Or.inl ⟨by rfl,?_⟩) hHeld ?_ ?_
               rotate_left
               ·rintro w' ⟨s0,s1⟩
                go_simp
                with_reducible rfl
               rotate_left
               ·simp only [Act.put,zP_,i64_w]
                rfl
               refine pure_ (i:=10) (N:=some 87) (v:=?_) (a':=?_) #[zt,zt,zt,zt,zt,zt,zt,zt,zt,zt,zt,zf] rfl rfl (any_of HT_.out (by kernel_rfl)) (fun _ _ _ h=>h) (Or.inl ⟨by rfl,?_⟩) ?_ ?_
               rotate_left
               ·intro w'
                go_simp
                with_reducible rfl
               rotate_left
               ·simp only [Act.put,zP_,i64_w]
                rfl
               refine last_ (i:=11) (N:=none) #[zt,zt,zt,zt,zt,zt,zt,zt,zt,zt,zt,zt] rfl rfl (one_of HT_.out (by kernel_rfl)) (by decide) (fun K hK=>?_)
               refine skip_ (w1:=?_) (by rfl) rfl ?_ ?_
               rotate_left
               ·go_simp
                rfl
               refine hK.out _ _ ?_
               clear hK K
               refine done_ (done_of HT_.out (by kernel_rfl)) ?_
               try go_wp2
               have n0_:Aside0 (Kd.R (Kd.int .i64) 3 (w79.setCell ⟨go75,((rd t505 x11_1):Int).toNat,none⟩ (.int .i64 (rd t505 (ji70)))) w.heap.size (fun k_=>some k_≠(.slice (some ad509) t505.length co80:Value).ownBlock) (.slice (some ⟨go75,0,none⟩) x6_1.length co75) y511):=⟨by apply zR_;exact HQ81.out⟩
               have n1_:Aside0 (Kd.R (Kd.int .i64) 3 (w79.setCell ⟨go75,((rd t505 x11_1):Int).toNat,none⟩ (.int .i64 (rd t505 (ji70)))) w.heap.size (fun k_=>some k_≠(.slice (some ⟨go75,0,none⟩) x6_1.length co75:Value).ownBlock) (.slice (some ad509) t505.length co80) t505):=⟨by apply zR_;exact zV (Kd.R_far (p:=⟨go75,((rd t505 x11_1):Int).toNat,none⟩) (zV HO_10.out (fun k_ hk=>(⟨hk,fun e_=>hk (by rw [e_];rfl)⟩:_∧k_≠go75))) (fun _ hk=>hk.2) (.int .i64 (rd t505 (ji70)))) (fun _ hk=>hk.1)⟩
               have n2_:Aside0 (IsS84 w0 (w79.setCell ⟨go75,((rd t505 x11_1):Int).toNat,none⟩ (.int .i64 (rd t505 (ji70)))) g s0_0 t508):=⟨by repeat (first|(with_reducible first|exact HI0.out|apply IsS84.alloc|apply IsS84.drewN|apply IsS84.drew|apply IsS84.set_1|refine IsS84.far ?_ HN0_go75.out _)|exact HI0.out)⟩
               have n3_:Aside0 (KeepBut w (w79.setCell ⟨go75,((rd t505 x11_1):Int).toNat,none⟩ (.int .i64 (rd t505 (ji70)))) g none):=⟨by repeat (first|(with_reducible first|exact HK.out|apply KeepBut.set_|apply keep_drewN|apply keep_drew|apply keep_alloc|refine keep_far ?_ GB75.out _)|exact HK.out)⟩
               have n4_:Aside0 (Below w0.heap.size w0 (w79.setCell ⟨go75,((rd t505 x11_1):Int).toNat,none⟩ (.int .i64 (rd t505 (ji70))))):=⟨by repeat (first|(with_reducible first|exact HB.out|apply zD|apply zB|apply zC|refine zF ?_ (Nat.le_trans HL.out GB75.out)|refine zF ?_ (IsS84.ge HI0.out))|exact HB.out)⟩
               (try clear HO_6);(try clear HO_10);(try clear HI0);(try clear HK);(try clear HB)
               generalize (w79.setCell ⟨go75,((rd t505 x11_1):Int).toNat,none⟩ (.int .i64 (rd t505 (ji70)))) = w82 at n0_ n1_ n2_ n3_ n4_ ⊢
               have HO_6:=n0_
               have HO_10:=n1_
               have HI0:=n2_
               have HK:=n3_
               have HB:=n4_
               clear n0_ n1_ n2_ n3_ n4_
               have n0_:=zA (Kd.R_drew HO_6.out)
               have n1_:=zA (Kd.R_drew HO_10.out)
               have n2_:=zA (IsS84.drew HI0.out)
               have n3_:=zA (keep_drew HK.out)
               have n4_:=zA (zC HB.out)
               clear HO_6 HO_10 HI0 HK HB
               have HO_6:=n0_
               have HO_10:=n1_
               have HI0:=n2_
               have HK:=n3_
               have HB:=n4_
               clear n0_ n1_ n2_ n3_ n4_
               have p512:0≤((ji70):Int):=zE (by with_reducible assumption)
               have q512:(ji70) < (t505.length:Int):=zE (by with_reducible assumption)
               obtain ⟨ad512,e512,hx512_0⟩:=Kd.at_int (zU HO_10.out).2.2 (ji70) p512 q512
               obtain rfl:ad509 = ad512:=(by injection e512)
               replace p512:=eq_true p512
               replace q512:=eq_true q512
               have p513:0≤(x11_1:Int):=zE (by with_reducible assumption)
               have q513:x11_1 < (t505.length:Int):=zE (by with_reducible assumption)
               obtain ⟨ad513,e513,hx513_0⟩:=Kd.at_int (zU HO_10.out).2.2 x11_1 p513 q513
               obtain rfl:ad509 = ad513:=(by injection e513)
               replace p513:=eq_true p513
               replace q513:=eq_true q513
               have p78:0≤((rd t505 (ji70)):Int):=zE (by with_reducible assumption)
               have q78:((rd t505 (ji70)):Int) < ((x6_1.length:Int):Int):=zE (by with_reducible assumption)
               obtain ⟨hx78_0,hf78_0⟩:=Kd.R_celln 0 HO_6.out ((rd t505 (ji70)):Int) p78 q78
               replace p78:=eq_true p78
               replace q78:=eq_true q78
               have HN0_go75:=zA (show g≠go75 from by have h_:=IsS84.own_ne HI0.out HO_6.out (by decide);intro e_;exact h_ (by rw [e_];rfl))
               have HP84:=Kd.R_putn HO_6.out ((rd t505 (ji70)):Int) (rd t505 x11_1)
               rw [← Ny514.out] at HP84
               have HQ84:=zA HP84
               clear HP84
               refine start_ (n:=12) (S:=fun w'=>w'.cell? (ad509.add ((ji70)).toNat) = some (.int .i64 (rd t505 (ji70)))∧w'.cell? (ad509.add (x11_1).toNat) = some (.int .i64 (rd t505 x11_1))) (ds:=[11]) #[zf,zf,zf,zf,zf,zf,zf,zf,zf,zf,zf,zf] (by kernel_rfl) rfl rfl ⟨hx512_0,hx513_0⟩ (fun hHeld=>?_);refine with_tabW spec_l91Gluing.tab20 spec_l91Gluing.bits20 (fun HT_ HW_=>?_)
               generalize w82.drew = w83 at HO_6 HO_10 HI0 HK HB HQ81 HQ84 hf78_0 hx512_0 hx513_0 hx78_0 hHeld ⊢
               refine pure_ (i:=0) (N:=some 88) (v:=?_) (a':=?_) #[zt,zf,zf,zf,zf,zf,zf,zf,zf,zf,zf,zf] rfl rfl (any_of HT_.out (by kernel_rfl)) (fun _ _ _ h=>h) (Or.inl ⟨by rfl,?_⟩) ?_ ?_
               rotate_left
               ·intro w'
                go_simp
                with_reducible rfl
               rotate_left
               ·simp only [Act.put,zP_,i64_w]
                rfl
               refine pure_ (i:=1) (N:=some 89) (v:=?_) (a':=?_) #[zt,zt,zf,zf,zf,zf,zf,zf,zf,zf,zf,zf] rfl rfl (any_of HT_.out (by kernel_rfl)) (fun _ _ _ h=>h) (Or.inl ⟨by rfl,?_⟩) ?_ ?_
               rotate_left
               ·intro w'
                go_simp
                with_reducible rfl
               rotate_left
               ·simp only [Act.put,zP_,i64_w]
                rfl
               refine pure_ (i:=2) (N:=some 90) (v:=?_) (a':=?_) #[zt,zt,zt,zf,zf,zf,zf,zf,zf,zf,zf,zf] rfl rfl (any_of HT_.out (by kernel_rfl)) (fun _ _ _ h=>h) (Or.inl ⟨by rfl,?_⟩) ?_ ?_
               rotate_left
               ·intro w'
                go_simp
                with_reducible rfl
               rotate_left
               ·simp only [Act.put,zP_,i64_w]
                rfl
               refine pure_ (i:=3) (N:=some 91) (v:=?_) (a':=?_) #[zt,zt,zt,zt,zf,zf,zf,zf,zf,zf,zf,zf] rfl rfl (any_of HT_.out (by kernel_rfl)) (fun _ _ _ h=>h) (Or.inl ⟨by rfl,?_⟩) ?_ ?_
               rotate_left
               ·intro w'
                go_simp
                with_reducible rfl
               rotate_left
               ·simp only [Act.put,zP_,i64_w]
                rfl
               refine pure_ (i:=4) (N:=some 92) (v:=?_) (a':=?_) #[zt,zt,zt,zt,zt,zf,zf,zf,zf,zf,zf,zf] rfl rfl (any_of HT_.out (by kernel_rfl)) (fun _ _ _ h=>h) (Or.inl ⟨by rfl,?_⟩) ?_ ?_
               rotate_left
               ·intro w'
                go_simp
                with_reducible rfl
               rotate_left
               ·simp only [Act.put,zP_,i64_w]
                rfl
               refine pure_ (i:=6) (N:=some 94) (v:=?_) (a':=?_) #[zt,zt,zt,zt,zt,zf,zt,zf,zf,zf,zf,zf] rfl rfl (any_of HT_.out (by kernel_rfl)) (fun _ _ _ h=>h) (Or.inl ⟨by rfl,?_⟩) ?_ ?_
               rotate_left
               ·intro w'
                go_simp
                with_reducible rfl
               rotate_left
               ·simp only [Act.put,zP_,i64_w]
                rfl
               refine pure_ (i:=7) (N:=some 95) (v:=?_) (a':=?_) #[zt,zt,zt,zt,zt,zf,zt,zt,zf,zf,zf,zf] rfl rfl (any_of HT_.out (by kernel_rfl)) (fun _ _ _ h=>h) (Or.inl ⟨by rfl,?_⟩) ?_ ?_
               rotate_left
               ·intro w'
                go_simp
                with_reducible rfl
               rotate_left
               ·simp only [Act.put,zP_,i64_w]
                rfl
               refine pure_ (i:=8) (N:=some 96) (v:=?_) (a':=?_) #[zt,zt,zt,zt,zt,zf,zt,zt,zt,zf,zf,zf] rfl rfl (any_of HT_.out (by kernel_rfl)) (fun _ _ _ h=>h) (Or.inl ⟨by rfl,?_⟩) ?_ ?_
               rotate_left
               ·intro w'
                go_simp
                with_reducible rfl
               rotate_left
               ·simp only [Act.put,zP_,i64_w]
                rfl
               refine take_ (i:=5) (N:=some 93) (v:=?_) (a':=?_) #[zt,zt,zt,zt,zt,zt,zt,zt,zt,zf,zf,zf] rfl rfl (take_ofW HT_.out HW_.out (by kernel_rfl)) (fun _ _ _ h=>h) (Or.inl ⟨by rfl,?_⟩) hHeld ?_ ?_
               rotate_left
               ·rintro w' ⟨s0,s1⟩
                go_simp
                with_reducible rfl
               rotate_left
               ·simp only [Act.put,zP_,i64_w]
                rfl
               refine take_ (i:=9) (N:=some 97) (v:=?_) (a':=?_) #[zt,zt,zt,zt,zt,zt,zt,zt,zt,zt,zf,zf] rfl rfl (take_ofW HT_.out HW_.out (by kernel_rfl)) (fun _ _ _ h=>h) (Or.inl ⟨by rfl,?_⟩) hHeld ?_ ?_
               rotate_left
               ·rintro w' ⟨s0,s1⟩
                go_simp
                with_reducible rfl
               rotate_left
               ·simp only [Act.put,zP_,i64_w]
                rfl
               refine pure_ (i:=10) (N:=some 98) (v:=?_) (a':=?_) #[zt,zt,zt,zt,zt,zt,zt,zt,zt,zt,zt,zf] rfl rfl (any_of HT_.out (by kernel_rfl)) (fun _ _ _ h=>h) (Or.inl ⟨by rfl,?_⟩) ?_ ?_
               rotate_left
               ·intro w'
                go_simp
                with_reducible rfl
               rotate_left
               ·simp only [Act.put,zP_,i64_w]
                rfl
               refine last_ (i:=11) (N:=none) #[zt,zt,zt,zt,zt,zt,zt,zt,zt,zt,zt,zt] rfl rfl (one_of HT_.out (by kernel_rfl)) (by decide) (fun K hK=>?_)
               refine skip_ (w1:=?_) (by rfl) rfl ?_ ?_
               rotate_left
               ·go_simp
                rfl
               refine hK.out _ _ ?_
               clear hK K
               refine done_ (done_of HT_.out (by kernel_rfl)) ?_
               try go_wp2
               go_roundg k1
               case measure=>have:=HK1.out;omega
               case rel=>exact ⟨(y514),(wrap64 (x11_1+2)),(by first|rfl|(simp;done)|(simp [*];done)),H',⟨by have:=HK1.out;omega⟩,⟨by apply zR_;exact HQ84.out⟩,⟨by apply zR_;exact zV (Kd.R_far (p:=⟨go75,((rd t505 (ji70)):Int).toNat,none⟩) (zV HO_10.out (fun k_ hk=>(⟨hk,fun e_=>hk (by rw [e_];rfl)⟩:_∧k_≠go75))) (fun _ hk=>hk.2) (.int .i64 (rd t505 x11_1))) (fun _ hk=>hk.1)⟩,⟨by repeat (first|(with_reducible first|exact HI0.out|apply IsS84.alloc|apply IsS84.drewN|apply IsS84.drew|apply IsS84.set_1|refine IsS84.far ?_ HN0_go75.out _)|exact HI0.out)⟩,⟨by repeat (first|(with_reducible first|exact HK.out|apply KeepBut.set_|apply keep_drewN|apply keep_drew|apply keep_alloc|refine keep_far ?_ GB75.out _)|exact HK.out)⟩,⟨by repeat (first|(with_reducible first|exact HB.out|apply zD|apply zB|apply zC|refine zF ?_ (Nat.le_trans HL.out GB75.out)|refine zF ?_ (IsS84.ge HI0.out))|exact HB.out)⟩⟩
              ·rw [if_neg c77] at H
               exact absurd H (by simp)
             ·rw [if_neg c76] at H
              exact absurd H (by simp)
            ·rw [if_neg c74] at H
             exact absurd H (by simp)
           ·rw [if_neg c73] at H
            exact absurd H (by simp)
          ·rw [if_neg c72] at H
           exact absurd H (by simp)
         ·rw [if_neg c71] at H
          exact absurd H (by simp)
        ·rw [if_neg c69] at H
         exact absurd H (by simp)
       ·rw [if_neg c68] at H
        exact absurd H (by simp)
      ·rw [if_neg c67] at H
       have c67b0:decide ((wrap64 (x11_1+1)) < ji4) = false:=zP c67
       clear c67
       replace H:=zz0 H
       obtain ⟨⟨t515,t516⟩,A850,H⟩:=H
       try dsimp only at H
       have A85:=zA A850
       clear A850
       by_cases c86:t515 = 0
       ·rw [if_pos c86] at H
        have c86b0:(t515 == 0) = true:=beq_iff_eq.mpr c86
        have c86b1:(t515 != 0) = false:=bne_eq_false_iff_eq.mpr c86
        clear c86
        obtain ⟨y517,hy517⟩:∃ y_:List Int,y_ = (([0,(-1),ji4]:List Int)):=⟨_,rfl⟩
        replace H:((spec_l6Rd_pick.f k1 s0_0 t516 3).bind fun bt520=>(if 0≤bt520.1 then (if bt520.1 < (y517.length:Int) then (if 0 < (x6_1.length:Int) then (some ((x6_1.set (0:Int).toNat (rd y517 bt520.1)),bt520.2)) else (none)) else (none)) else (none))) = some (r1,r2):=by (try rw [hy517]);first|with_reducible exact H|with_reducible exact zS_ H|exact H
        have Ny517:=zA hy517
        clear hy517
        replace H:=zz0 H
        obtain ⟨⟨t520,t521⟩,A870,H⟩:=H
        try dsimp only at H
        have A87:=zA A870
        clear A870
        by_cases c88:0≤t520
        ·rw [if_pos c88] at H
         have c88b0:decide (0≤t520) = true:=zO c88
         clear c88
         by_cases c89:t520 < (y517.length:Int)
         ·rw [if_pos c89] at H
          have c89b0:decide (t520 < (y517.length:Int)) = true:=zO c89
          clear c89
          by_cases c90:0 < (x6_1.length:Int)
          ·rw [if_pos c90] at H
           have c90b0:decide (0 < (x6_1.length:Int)) = true:=zO c90
           have c90b1:decide (0 < x6_1.length) = true:=zO (by omega)
           clear c90
           obtain ⟨y523,hy523⟩:∃ y_:List Int,y_ = (x6_1.set (0:Int).toNat (rd y517 t520)):=⟨_,rfl⟩
           replace H:(some (y523,t521)) = some (r1,r2):=by (try rw [hy523]);first|with_reducible exact H|with_reducible exact zS_ H|exact H
           have Ny523:=zA hy523
           clear hy523
           simp only [Option.some.injEq,Prod.mk.injEq] at H
           obtain ⟨rfl,rfl⟩:=H
           go_wp2_with (first|((with_reducible refine gate_callee (f:=90) rfl ?_);refine goesL_ (some 100) rfl rfl Try.func90 (by kernel_rfl) rfl #[.pointer (some ⟨g,0,none⟩),.int .i64 20] rfl (by (try simp only [zJ,zM,zN]);first|done|rfl|(simp only [zL,zK];rfl)) ?_;(with_reducible refine (spec_l6Rd_pick.calls k1 g s0_0 t508 20 t515 t516 w0 _ ?side1 ?side2 A85.out).mono ?_);(case side1=>repeat (first|(with_reducible first|exact HI0.out|apply IsS84.alloc|apply IsS84.drewN|apply IsS84.drew|apply IsS84.set_1)|exact HI0.out));(case side2=>repeat (first|(with_reducible first|exact HB.out|apply zD|apply zB|apply zC|refine zF ?_ (IsS84.ge HI0.out))|exact HB.out));rintro e w92 ⟨rfl,hi,hb,hk⟩;refine ⟨_,rfl,?_⟩;have n0_:=zA (zV (Kd.R_keep (IsS84.apart (show IsS84 w0 _ g s0_0 t508 from by repeat (first|(with_reducible first|exact HI0.out|apply IsS84.alloc|apply IsS84.drewN|apply IsS84.drew|apply IsS84.set_1)|exact HI0.out)) (by apply zR_;exact HO_6.out) (by decide)) hk (fun _ h=>h.2)) (fun _ h=>h.1));have n1_:=zA (zV (Kd.R_keep (IsS84.apart (show IsS84 w0 _ g s0_0 t508 from by repeat (first|(with_reducible first|exact HI0.out|apply IsS84.alloc|apply IsS84.drewN|apply IsS84.drew|apply IsS84.set_1)|exact HI0.out)) (by apply zR_;exact HO_10.out) (by decide)) hk (fun _ h=>h.2)) (fun _ h=>h.1));have n2_:=zA (KeepBut.trans (by repeat (first|(with_reducible first|exact HK.out|apply KeepBut.set_|apply keep_drewN|apply keep_drew|apply keep_alloc)|exact HK.out)) hk (.inl rfl));have n3_:=zA (hb);have n4_:=zA (hi);clear HO_6;clear HO_10;clear HK;clear HB;clear HI0;have HO_6:=n0_;have HO_10:=n1_;have HK:=n2_;have HB:=n3_;have HI0:=n4_;clear n0_ n1_ n2_ n3_ n4_;(try clear hb);(try clear hb2);(try clear hk);(try clear hi))|((with_reducible refine gate_dst (N:=104) rfl ?_);(try (refine gate_guard (by rfl) ?_;dsimp only));refine Kd.R_lit (Kd.int .i64) _ 3 ?hg (N:=104) ?hd (xs:=([0,(-1),ji4]:List Int)) (inner:=[.int .i64 0,.int .i64 (-1),.int .i64 ji4]) (ok:=fun _=>True) (okp:=fun _=>True) ?hr ?hp (fun _ hk=>hk) trivial (Below.refl _ _) (Nat.le_refl _) (by simp) ?_;(case hd=>rfl);(case hg=>rfl);(case hr=>first|(go_simp;done)|(go_simp;rfl));(case hp=>exact (Reps.one (show Kd.M (Kd.int .i64) _ _ _ 0 [.int .i64 0] from rfl) (Reps.one (show Kd.M (Kd.int .i64) _ _ _ (-1) [.int .i64 (-1)] from rfl) (Reps.one (show Kd.M (Kd.int .i64) _ _ _ ji4 [.int .i64 ji4] from rfl) (Reps.none _ _)))));intro v518 w93 ho94 hb hg_ hnew_;clear hg_ hnew_;(first|rw [← Ny517.out] at ho94|(simp only [Int.reduceToNat] at ho94;rw [← Ny517.out] at ho94));have n0_:=zA (Kd.R_elder' (by apply zR_;exact HO_6.out) (zd ho94) hb);have n1_:=zA (Kd.R_elder' (by apply zR_;exact HO_10.out) (zd ho94) hb);have n2_:=zA (ze (zh (zh ho94 (Kd.R_lt (by apply zR_;exact HO_6.out))) (Kd.R_lt (by apply zR_;exact HO_10.out))) (keep_size (w:=w) (g:=g) (row:=none) (by repeat (first|(with_reducible first|exact HK.out|apply KeepBut.set_|apply keep_drewN|apply keep_drew|apply keep_alloc)|exact HK.out))));have n3_:=zA (IsS84.below (by repeat (first|(with_reducible first|exact HI0.out|apply IsS84.alloc|apply IsS84.drewN|apply IsS84.drew|apply IsS84.set_1)|exact HI0.out)) hb);have n4_:=zA (KeepBut.trans (by repeat (first|(with_reducible first|exact HK.out|apply KeepBut.set_|apply keep_drewN|apply keep_drew|apply keep_alloc)|exact HK.out)) (KeepBut.of_below hb g none) (.inl rfl));have n5_:=zA (zR (by repeat (first|(with_reducible first|exact HB.out|apply zD|apply zB|apply zC|refine zF ?_ (IsS84.ge HI0.out))|exact HB.out)) hb);clear HO_6;clear HO_10;clear HI0;clear HK;clear HB;have HO_6:=n0_;have HO_10:=n1_;have HO519:=n2_;have HI0:=n3_;have HK:=n4_;have HB:=n5_;clear n0_ n1_ n2_ n3_ n4_ n5_;clear hb ho94)|((with_reducible refine gate_callee (f:=90) rfl ?_);refine goesL_ (some 106) rfl rfl Try.func90 (by kernel_rfl) rfl #[.pointer (some ⟨g,0,none⟩),.int .i64 3] rfl (by (try simp only [zJ,zM,zN]);first|done|rfl|(simp only [zL,zK];rfl)) ?_;(with_reducible refine (spec_l6Rd_pick.calls k1 g s0_0 t516 3 t520 t521 w0 _ ?side1 ?side2 A87.out).mono ?_);(case side1=>repeat (first|(with_reducible first|exact HI0.out|apply IsS84.alloc|apply IsS84.drewN|apply IsS84.drew|apply IsS84.set_1)|exact HI0.out));(case side2=>repeat (first|(with_reducible first|exact HB.out|apply zD|apply zB|apply zC|refine zF ?_ (IsS84.ge HI0.out))|exact HB.out));rintro e w95 ⟨rfl,hi,hb,hk⟩;refine ⟨_,rfl,?_⟩;have n0_:=zA (zV (Kd.R_keep (IsS84.apart (show IsS84 w0 _ g s0_0 t516 from by repeat (first|(with_reducible first|exact HI0.out|apply IsS84.alloc|apply IsS84.drewN|apply IsS84.drew|apply IsS84.set_1)|exact HI0.out)) (by apply zR_;exact HO_6.out) (by decide)) hk (fun _ h=>h.2)) (fun _ h=>h.1));have n1_:=zA (zV (Kd.R_keep (IsS84.apart (show IsS84 w0 _ g s0_0 t516 from by repeat (first|(with_reducible first|exact HI0.out|apply IsS84.alloc|apply IsS84.drewN|apply IsS84.drew|apply IsS84.set_1)|exact HI0.out)) (by apply zR_;exact HO_10.out) (by decide)) hk (fun _ h=>h.2)) (fun _ h=>h.1));have n2_:=zA (zV (Kd.R_keep (IsS84.apart (show IsS84 w0 _ g s0_0 t516 from by repeat (first|(with_reducible first|exact HI0.out|apply IsS84.alloc|apply IsS84.drewN|apply IsS84.drew|apply IsS84.set_1)|exact HI0.out)) (by apply zR_;exact HO519.out) (by decide)) hk (fun _ h=>h.2)) (fun _ h=>h.1));have n3_:=zA (KeepBut.trans (by repeat (first|(with_reducible first|exact HK.out|apply KeepBut.set_|apply keep_drewN|apply keep_drew|apply keep_alloc)|exact HK.out)) hk (.inl rfl));have n4_:=zA (hb);have n5_:=zA (hi);clear HO_6;clear HO_10;clear HO519;clear HK;clear HB;clear HI0;have HO_6:=n0_;have HO_10:=n1_;have HO519:=n2_;have HK:=n3_;have HB:=n4_;have HI0:=n5_;clear n0_ n1_ n2_ n3_ n4_ n5_;(try clear hb);(try clear hb2);(try clear hk);(try clear hi);obtain ⟨Ao96,co96,eo96⟩:=zg HO519.out;subst eo96;have p522:0≤(t520:Int):=zE (by with_reducible assumption);have q522:t520 < (y517.length:Int):=zE (by with_reducible assumption);obtain ⟨ad522,e522,hx522_0⟩:=Kd.at_int (zU HO519.out).2.2 t520 p522 q522;cases e522;replace p522:=eq_true p522;replace q522:=eq_true q522;have p91:0≤(0:Int):=(by omega);have q91:(0:Int) < ((x6_1.length:Int):Int):=zE (by with_reducible assumption);have qi91:(0 < x6_1.length) = True:=eq_true (by omega);obtain ⟨go91,co91,eo91,gb91,gl91,cl91,HG91⟩:=Kd.R_form HO_6.out (by omega);(first|cases eo91|(injection eo91 with ea_ en_ ec_;(first|subst ea_|(injection ea_ with ea_;subst ea_));subst ec_;clear en_));have GB91:=zA gb91;have GG91:=zA HG91;clear gb91 gl91 HG91;obtain ⟨hx91_0,hf91_0⟩:=Kd.R_celln 0 HO_6.out (0:Int) p91 q91;(try rw [show ((0:Int)).toNat = 0 from rfl] at hx91_0);(try simp only [Nat.reduceMul,Nat.zero_mul,Nat.zero_add,Nat.reduceAdd] at hx91_0);(try rw [show ((0:Int)).toNat = 0 from rfl] at hf91_0);(try simp only [Nat.reduceMul,Nat.zero_mul,Nat.zero_add,Nat.reduceAdd] at hf91_0);replace p91:=eq_true p91;replace q91:=eq_true q91;obtain ⟨hy97_,hz97_⟩:=Kd.R_celln 0 HO_6.out (0:Int) (by omega) (zE (by with_reducible assumption));(try simp only [Int.reduceToNat,Int.toNat_zero,Int.toNat_ofNat,Nat.reduceMul,Nat.zero_mul,Nat.zero_add] at hy97_ hz97_);(try rw [show ((0:Int)).toNat = 0 from rfl] at hy97_);(try rw [show ((0:Int)).toNat = 0 from rfl] at hz97_);have HP97:=Kd.R_putg HO_6.out (0:Int) (rd y517 t520))|((with_reducible refine gate_store (t:=3) (p:=109) rfl ?_);refine store_event (t:=3) (p:=109) (v:=?vo_w98) (w1:=(w95.setCell ⟨go91,(0:Int).toNat,none⟩ (.int .i64 (rd y517 t520)))) ?hg ?ho ?hn ?hr ?_;(case ho=>rfl);(case hg=>rfl);(case hn=>rfl);(case hr=>first|(go_simp;done)|(go_simp;rfl));intro w98 hw;have hg:w95.grownBy w98 (some go91):=(by rw [hw];exact HP97.2);have hp_:Kd.R (Kd.int .i64) 3 w98 w.heap.size (fun k_=>some k_≠(v506:Value).ownBlock∧some k_≠(.slice (some ad522) y517.length co96:Value).ownBlock) (.slice (some ⟨go91,0,none⟩) x6_1.length co91) y523:=(by rw [hw,Ny523.out];exact HP97.1);clear HP97;have n0_:=zA (hp_);have n1_:=zA (Kd.R_after (v:=(.slice (some ⟨go91,0,none⟩) x6_1.length co91)) (v1:=(.slice (some ⟨go91,0,none⟩) x6_1.length co91)) (ok:=(fun k_=>some k_≠(.slice (some ad522) y517.length co96:Value).ownBlock)) (by apply zR_;exact zV HO_10.out (fun _ hk=>⟨hk.2,hk.1⟩)) hg (.inl rfl));have n2_:=zA (IsS84.grown (by repeat (first|(with_reducible first|exact HI0.out|apply IsS84.alloc|apply IsS84.drewN|apply IsS84.drew|apply IsS84.set_1)|exact HI0.out)) hg (IsS84.own_ne HI0.out HO_6.out (by decide)));have n3_:=zA (Kd.R_after (v:=(.slice (some ⟨go91,0,none⟩) x6_1.length co91)) (v1:=(.slice (some ⟨go91,0,none⟩) x6_1.length co91)) (ok:=(fun k_=>some k_≠(v506:Value).ownBlock)) (by apply zR_;exact zV HO519.out (fun _ hk=>⟨hk.2,hk.1.2⟩)) hg (.inl rfl));have n4_:=zA ((by rw [hw];exact zF (HB.out) (Nat.le_trans HL.out GB91.out):Below w0.heap.size w0 w98));have n5_:=zA (KeepBut.trans (by repeat (first|(with_reducible first|exact HK.out|apply KeepBut.set_|apply keep_drewN|apply keep_drew|apply keep_alloc)|exact HK.out)) (KeepBut.of_grown hg g) (Kd.R_base2 HO_6.out));clear HO_6;clear HO_10;clear HI0;clear HO519;clear HB;clear HK;have HO_6:=n0_;have HO_10:=n1_;have HI0:=n2_;have HO519:=n3_;have HB:=n4_;have HK:=n5_;clear n0_ n1_ n2_ n3_ n4_ n5_;clear hg hw hp_))
           go_ret
           exact ⟨_,by first|rfl|(simp [errW_none,errW_some] <;> rfl)|(simp only [← hji4];first|rfl|(simp [errW_none,errW_some] <;> rfl))|(simp [*,errW_none,errW_some] <;> rfl),by apply zR_;exact zV HO_6.out (fun _ hk=>trivial),by repeat (first|(with_reducible first|exact HI0.out|apply IsS84.alloc|apply IsS84.drewN|apply IsS84.drew|apply IsS84.set_1)|exact HI0.out),by repeat (first|(with_reducible first|exact HB.out|apply zD|apply zB|apply zC|refine zF ?_ (IsS84.ge HI0.out))|exact HB.out),by repeat (first|(with_reducible first|exact HK.out|apply KeepBut.set_|apply keep_drewN|apply keep_drew|apply keep_alloc)|exact HK.out)⟩
          ·rw [if_neg c90] at H
           exact absurd H (by simp)
         ·rw [if_neg c89] at H
          exact absurd H (by simp)
        ·rw [if_neg c88] at H
         exact absurd H (by simp)
       ·rw [if_neg c86] at H
        have c86b0:(t515 == 0) = false:=beq_eq_false_iff_ne.mpr c86
        have c86b1:(t515 != 0) = true:=bne_iff_ne.mpr c86
        simp only [Option.some.injEq,Prod.mk.injEq] at H
        obtain ⟨rfl,rfl⟩:=H
        go_wp2_with (first|((with_reducible refine gate_callee (f:=90) rfl ?_);refine goesL_ (some 100) rfl rfl Try.func90 (by kernel_rfl) rfl #[.pointer (some ⟨g,0,none⟩),.int .i64 20] rfl (by (try simp only [zJ,zM,zN]);first|done|rfl|(simp only [zL,zK];rfl)) ?_;(with_reducible refine (spec_l6Rd_pick.calls k1 g s0_0 t508 20 t515 t516 w0 _ ?side1 ?side2 A85.out).mono ?_);(case side1=>repeat (first|(with_reducible first|exact HI0.out|apply IsS84.alloc|apply IsS84.drewN|apply IsS84.drew|apply IsS84.set_1)|exact HI0.out));(case side2=>repeat (first|(with_reducible first|exact HB.out|apply zD|apply zB|apply zC|refine zF ?_ (IsS84.ge HI0.out))|exact HB.out));rintro e w99 ⟨rfl,hi,hb,hk⟩;refine ⟨_,rfl,?_⟩;have n0_:=zA (zV (Kd.R_keep (IsS84.apart (show IsS84 w0 _ g s0_0 t508 from by repeat (first|(with_reducible first|exact HI0.out|apply IsS84.alloc|apply IsS84.drewN|apply IsS84.drew|apply IsS84.set_1)|exact HI0.out)) (by apply zR_;exact HO_6.out) (by decide)) hk (fun _ h=>h.2)) (fun _ h=>h.1));have n1_:=zA (zV (Kd.R_keep (IsS84.apart (show IsS84 w0 _ g s0_0 t508 from by repeat (first|(with_reducible first|exact HI0.out|apply IsS84.alloc|apply IsS84.drewN|apply IsS84.drew|apply IsS84.set_1)|exact HI0.out)) (by apply zR_;exact HO_10.out) (by decide)) hk (fun _ h=>h.2)) (fun _ h=>h.1));have n2_:=zA (KeepBut.trans (by repeat (first|(with_reducible first|exact HK.out|apply KeepBut.set_|apply keep_drewN|apply keep_drew|apply keep_alloc)|exact HK.out)) hk (.inl rfl));have n3_:=zA (hb);have n4_:=zA (hi);clear HO_6;clear HO_10;clear HK;clear HB;clear HI0;have HO_6:=n0_;have HO_10:=n1_;have HK:=n2_;have HB:=n3_;have HI0:=n4_;clear n0_ n1_ n2_ n3_ n4_;(try clear hb);(try clear hb2);(try clear hk);(try clear hi)))
        go_ret
        exact ⟨_,by first|rfl|(simp [errW_none,errW_some] <;> rfl)|(simp only [← hji4];first|rfl|(simp [errW_none,errW_some] <;> rfl))|(simp [*,errW_none,errW_some] <;> rfl),by apply zR_;exact zV HO_6.out (fun _ hk=>trivial),by repeat (first|(with_reducible first|exact HI0.out|apply IsS84.alloc|apply IsS84.drewN|apply IsS84.drew|apply IsS84.set_1)|exact HI0.out),by repeat (first|(with_reducible first|exact HB.out|apply zD|apply zB|apply zC|refine zF ?_ (IsS84.ge HI0.out))|exact HB.out),by repeat (first|(with_reducible first|exact HK.out|apply KeepBut.set_|apply keep_drewN|apply keep_drew|apply keep_alloc)|exact HK.out)⟩
  ·rw [if_neg c6] at H
   exact absurd H (by simp)
 ·rw [if_neg c5] at H
  exact absurd H (by simp)

/-! ### spec_l6Open: function 78 -/
def spec_l6Open.f (l0:List Int):Option (List Int × Int):=if (l0.length:Int) > 2000 then (if 2000≤(l0.length:Int) then (some (l0.take 2000,0)) else (none)) else (some (l0,0))
set_option maxHeartbeats 8000000 in
set_option maxRecDepth 100000 in
theorem spec_l6Open.calls (A0:Option Addr) (c0:Nat) (l0:List Int) (r1:List Int) (r2:Int) (w0 w:World) (hB:Below w0.heap.size w0 w) (hr0:Kd.C (Kd.int .u8) w0 A0 l0.length l0) (hc0:l0.length≤c0) (h:spec_l6Open.f l0 = some (r1,r2)) :
  Calls Try.prog 78 #[.slice A0 l0.length c0] w fun e w' => ∃ g_:Nat,e = .returned (.pointer (some ⟨g_,0,none⟩))∧IsS84 w0 w' g_ r1 r2∧Below w0.heap.size w0 w'∧Below w.heap.size w w':=by
 have hu84:=Try.underlying84
 have HR0:=zA hr0
 have HC0:=zA hc0
 clear hr0 hc0
 have HBW:=zA (Below.refl w.heap.size w)
 have HW0:=zA hB.size
 have HB:=zA hB
 clear hB
 have H:(if (l0.length:Int) > 2000 then (if 2000≤(l0.length:Int) then (some (l0.take 2000,0)) else (none)) else (some (l0,0))) = some (r1,r2):=h
 clear h
 by_cases c2:(l0.length:Int) > 2000
 ·rw [if_pos c2] at H
  have c2b0:decide (2000 < (l0.length:Int)) = true:=zO c2
  have c2b1:decide (2000 < l0.length) = true:=zO (by omega)
  clear c2
  by_cases c3:2000≤(l0.length:Int)
  ·rw [if_pos c3] at H
   have c3b0:=eq_true c3
   have c3b1:decide (2000≤(l0.length:Int)) = true:=zO c3
   clear c3
   simp only [Option.some.injEq,Prod.mk.injEq] at H
   obtain ⟨rfl,rfl⟩:=H
   obtain ⟨i04,hi04,_,hsz4,_⟩:=info_parts info5
   obtain ⟨hcut4,hA4,hC4⟩:=print_take_of (P:=Try.prog) (Value.int .u8) 0 22 5 .i64 Try.underlying22 hi04 hsz4 A0 c0 l0 2000 (by omega) (zE (by with_reducible assumption)) HC0.out
   have HR524:=zA (Kd.C_of_reads (h1:=fun _=>rfl) (hA4 _ (Kd.reads_of_C HR0.out)))
   have HC524:=zA hC4
   clear hA4 hC4 hi04 hsz4
   go_enter Try.func78,Try.ntmps78
   go_wp2_with (first|((with_reducible refine gate_dst (N:=10) rfl ?_);refine box_event ?hg (N:=10) ?hd (cs:=#[.slice A0 (l0.take 2000).length c0,.int .i64 0]) (t:=84) ?hr ?_;(case hd=>rfl);(case hg=>rfl);(case hr=>first|(go_simp;done)|(go_simp;rfl));intro gb525 hg w5 hbox hb;have n0_:=zA (zR HBW.out hb);have n1_:=zA (zR (by exact zB_ HB.out) hb);have n2_:=zA (hbox);have n3_:=zA ((by rw [hg];exact (zQ (by repeat (first|(with_reducible first|exact HBW.out|apply zD|apply zB|apply zC)|exact HBW.out))):w.heap.size≤gb525));have n4_:=zA ((Nat.le_trans HW0.out (by rw [hg];exact (zQ (by repeat (first|(with_reducible first|exact HBW.out|apply zD|apply zB|apply zC)|exact HBW.out))):w.heap.size≤gb525):w0.heap.size≤gb525));clear HBW;clear HB;have HBW:=n0_;have HB:=n1_;have BK525:=n2_;have GW525:=n3_;have GE525:=n4_;clear n0_ n1_ n2_ n3_ n4_;clear hb hbox hg))
   go_ret
   exact ⟨_,rfl,(show IsS84 w0 _ gb525 (l0.take 2000) 0 from ⟨_,_,by (with_reducible repeat (first|refine zG ?_ _|refine zI ?_|refine zH ?_ _));exact BK525.out,GE525.out,HR524.out⟩),by repeat (first|(with_reducible first|exact HB.out|apply zD|apply zB|apply zC|refine zF ?_ GE525.out)|exact HB.out),by repeat (first|(with_reducible first|exact HBW.out|apply zD|apply zB|apply zC|refine zF ?_ GW525.out)|exact HBW.out)⟩
  ·rw [if_neg c3] at H
   exact absurd H (by simp)
 ·rw [if_neg c2] at H
  have c2b0:decide (2000 < (l0.length:Int)) = false:=zP c2
  have c2b1:decide (2000 < l0.length) = false:=zP (by omega)
  clear c2
  simp only [Option.some.injEq,Prod.mk.injEq] at H
  obtain ⟨rfl,rfl⟩:=H
  go_enter Try.func78,Try.ntmps78
  go_wp2_with (first|((with_reducible refine gate_dst (N:=10) rfl ?_);refine box_event ?hg (N:=10) ?hd (cs:=#[.slice A0 l0.length c0,.int .i64 0]) (t:=84) ?hr ?_;(case hd=>rfl);(case hg=>rfl);(case hr=>first|(go_simp;done)|(go_simp;rfl));intro gb526 hg w6 hbox hb;have n0_:=zA (zR HBW.out hb);have n1_:=zA (zR (by exact zB_ HB.out) hb);have n2_:=zA (hbox);have n3_:=zA ((by rw [hg];exact (zQ (by repeat (first|(with_reducible first|exact HBW.out|apply zD|apply zB|apply zC)|exact HBW.out))):w.heap.size≤gb526));have n4_:=zA ((Nat.le_trans HW0.out (by rw [hg];exact (zQ (by repeat (first|(with_reducible first|exact HBW.out|apply zD|apply zB|apply zC)|exact HBW.out))):w.heap.size≤gb526):w0.heap.size≤gb526));clear HBW;clear HB;have HBW:=n0_;have HB:=n1_;have BK526:=n2_;have GW526:=n3_;have GE526:=n4_;clear n0_ n1_ n2_ n3_ n4_;clear hb hbox hg))
  go_ret
  exact ⟨_,rfl,(show IsS84 w0 _ gb526 l0 0 from ⟨_,_,by (with_reducible repeat (first|refine zG ?_ _|refine zI ?_|refine zH ?_ _));exact BK526.out,GE526.out,HR0.out⟩),by repeat (first|(with_reducible first|exact HB.out|apply zD|apply zB|apply zC|refine zF ?_ GE526.out)|exact HB.out),by repeat (first|(with_reducible first|exact HBW.out|apply zD|apply zB|apply zC|refine zF ?_ GW526.out)|exact HBW.out)⟩

end Go.Proofs.Ytonlecigglbohaa.Q
