import Derived.Test.YtonlecigglbohaaQ0
import Derived.Test.YtonlecigglbohaaQ1
import Derived.Test.YtonlecigglbohaaZ
namespace Go.Proofs.Ytonlecigglbohaa.Q
open Go.RowKit Go.Proofs.YtonlecigglbohaaW.PrintWords Go.Proofs.YtonlecigglbohaaW.PrintLast Go.Proofs.YtonlecigglbohaaW.PrintMore
attribute [local go_sem] max2_int min2_int max_two min_two max_three min_three max_four min_four   -- for this text's walks alone
set_option linter.unusedVariables false
set_option linter.unusedSimpArgs false

/-! ### impl_MapValid: function 33 -/
mutual
def impl_MapValid.j0:Nat→Bool→List Int→List Int→Option (Bool)
 | 0,_,_,_=>none
 | k+1,x23,x147000,x147001=>if x23 = true then (some false) else (impl_MapValid.l0 k x147001 (x147001.length:Int) 0 x147000 x147001)
def impl_MapValid.l0:Nat→List Int→Int→Int→List Int→List Int→Option (Bool)
 | 0,_,_,_,_,_=>none
 | k+1,x25,x26,x27,x147000,x147001=>if x27 < x26 then (if 0≤x27 then (if x27 < (x25.length:Int) then (if (rd x25 x27) = x27 then (some false) else (if 0≤(rd x25 x27) then (if (rd x25 x27) < (x147001.length:Int) then (if (rd x147001 (rd x25 x27)) = x27 then (impl_MapValid.l0 k x25 x26 (wrap64 (x27+1)) x147000 x147001) else (some false)) else (none)) else (none))) else (none)) else (none)) else ((impl_orbits.f k (([x147000,x147001]:List (List Int)))).bind fun t154=>((slices_Max_int_int.f t154).bind fun t157=>(some (t157 == 0))))
end
def impl_MapValid.f (k:Nat) (l0_0:List Int) (l0_1:List Int):Option (Bool):=(impl_PermValid.f l0_0).bind fun t147=>(if t147 = true then ((impl_PermValid.f l0_1).bind fun t148=>(if t148 = true then (impl_MapValid.j0 k ((l0_0.length:Int) != (l0_1.length:Int)) l0_0 l0_1) else (impl_MapValid.j0 k true l0_0 l0_1))) else (impl_MapValid.j0 k true l0_0 l0_1))
theorem impl_MapValid.mono_l:∀ k,(∀ y0 y1 y2,LeO (impl_MapValid.j0 k y0 y1 y2) (impl_MapValid.j0 (k+1) y0 y1 y2))∧(∀ y0 y1 y2 y3 y4,LeO (impl_MapValid.l0 k y0 y1 y2 y3 y4) (impl_MapValid.l0 (k+1) y0 y1 y2 y3 y4))
 | 0=>⟨fun _ _ _ r h=>by simp [impl_MapValid.j0] at h,fun _ _ _ _ _ r h=>by simp [impl_MapValid.l0] at h⟩
 | k+1=>by
  obtain ⟨ih0,ih1⟩:=impl_MapValid.mono_l k
  refine ⟨?_,?_⟩
  ·intro y0 y1 y2
   unfold impl_MapValid.j0
   repeat' first
   | (with_reducible exact ih0 _ _ _)
   | (with_reducible exact ih1 _ _ _ _ _)
   | (with_reducible exact impl_orbits.mono _ _)
   | (with_reducible exact LeO.refl _)
   | (with_reducible exact za _)
   | (with_reducible refine zc ?_ ?_)
   | (with_reducible refine zb ?_ (fun _=>?_))
  ·intro y0 y1 y2 y3 y4
   unfold impl_MapValid.l0
   repeat' first
   | (with_reducible exact ih0 _ _ _)
   | (with_reducible exact ih1 _ _ _ _ _)
   | (with_reducible exact impl_orbits.mono _ _)
   | (with_reducible exact LeO.refl _)
   | (with_reducible exact za _)
   | (with_reducible refine zc ?_ ?_)
   | (with_reducible refine zb ?_ (fun _=>?_))
theorem impl_MapValid.mono:∀ a0 a1 k,LeO (impl_MapValid.f k a0 a1) (impl_MapValid.f (k+1) a0 a1):=by
 intro a0 a1 k
 obtain ⟨ih0,ih1⟩:=impl_MapValid.mono_l k
 unfold impl_MapValid.f
 repeat' first
   | (with_reducible exact ih0 _ _ _)
   | (with_reducible exact ih1 _ _ _ _ _)
   | (with_reducible exact impl_orbits.mono _ _)
   | (with_reducible exact LeO.refl _)
   | (with_reducible exact za _)
   | (with_reducible refine zc ?_ ?_)
   | (with_reducible refine zb ?_ (fun _=>?_))
set_option maxHeartbeats 8000000 in
set_option maxRecDepth 100000 in
theorem impl_MapValid.calls (k:Nat) (P0_0_:Nat→Prop) (A0_0:Option Addr) (c0_0:Nat) (l0_0:List Int) (P0_1_:Nat→Prop) (A0_1:Option Addr) (c0_1:Nat) (l0_1:List Int) (r:Bool) (w:World) (hs0_0:Kd.V (Kd.int .i64) 3 w w.heap.size (fun k_=>P0_0_ k_) (.slice A0_0 l0_0.length c0_0) l0_0) (hs0_1:Kd.V (Kd.int .i64) 3 w w.heap.size (fun k_=>P0_1_ k_) (.slice A0_1 l0_1.length c0_1) l0_1) (h:impl_MapValid.f k l0_0 l0_1 = some r) :
  Calls Try.prog 33 #[.agg #[.slice A0_0 l0_0.length c0_0,.slice A0_1 l0_1.length c0_1]] w fun e w'=>e = .returned (.bool r)∧Below w.heap.size w w':=by
 have hu27:=Try.underlying27
 have HO0_0:=zA (show Kd.V (Kd.int .i64) 3 w w.heap.size (fun k_=>((P0_0_ k_∨P0_1_ k_)∨w.heap.size≤k_)) (.slice A0_0 l0_0.length c0_0) l0_0 from Kd.V_mono hs0_0 (fun k_ hk=>.inl (.inl hk)))
 have HO0_1:=zA (show Kd.V (Kd.int .i64) 3 w w.heap.size (fun k_=>((P0_0_ k_∨P0_1_ k_)∨w.heap.size≤k_)) (.slice A0_1 l0_1.length c0_1) l0_1 from Kd.V_mono hs0_1 (fun k_ hk=>.inl (.inr hk)))
 have HB:=zA (Below.refl w.heap.size w)
 have H:((impl_PermValid.f l0_0).bind fun t147=>(if t147 = true then ((impl_PermValid.f l0_1).bind fun t148=>(if t148 = true then (impl_MapValid.j0 k ((l0_0.length:Int) != (l0_1.length:Int)) l0_0 l0_1) else (impl_MapValid.j0 k true l0_0 l0_1))) else (impl_MapValid.j0 k true l0_0 l0_1))) = some r:=h
 clear h
 have HC2:=zA H
 clear H
 go_enter Try.func33,Try.ntmps33
 go_upto_region 1 with (first|((with_reducible refine gate_dst (N:=1) rfl ?_);(try (refine gate_guard (by rfl) ?_;dsimp only));refine box_event ?hg (N:=1) ?hd (cs:=#[.slice A0_0 l0_0.length c0_0,.slice A0_1 l0_1.length c0_1]) (t:=27) ?hr ?_;(case hd=>rfl);(case hg=>rfl);(case hr=>first|(go_simp;done)|(go_simp;rfl));intro gb146 hg w3 hbox hb;have n0_:=zA (Kd.V_below (Kd.V_elderB (by apply zV_;exact HO0_0.out) gb146 (Nat.le_of_eq hg.symm)) hb);have n1_:=zA (Kd.V_below (Kd.V_elderB (by apply zV_;exact HO0_1.out) gb146 (Nat.le_of_eq hg.symm)) hb);have n2_:=zA (zR (by exact zB_ HB.out) hb);have n3_:=zA (hbox);have n4_:=zA ((by rw [hg];exact (zQ (by exact zB_ HB.out)):w.heap.size≤gb146));have n5_:=zA ((by rw [hg];exact (zQ (by exact zB_ HB.out)):w.heap.size≤gb146));clear HO0_0;clear HO0_1;clear HB;have HO0_0:=n0_;have HO0_1:=n1_;have HB:=n2_;have BK146:=n3_;have GW146:=n4_;have GE146:=n5_;clear n0_ n1_ n2_ n3_ n4_ n5_;clear hb hbox hg))
 (try simp only [Act.put,zP_])
 go_cut [23] (fun v23 wc => ∃ (kq:Nat) (x23_1:Bool),v23 = .bool x23_1∧Aside0 (impl_MapValid.j0 kq x23_1 l0_0 l0_1 = some r)∧Aside0 (kq≤k)∧Aside0 (Kd.V (Kd.int .i64) 3 wc w.heap.size (fun k_=>((P0_0_ k_∨P0_1_ k_)∨w.heap.size≤k_)∧k_≠gb146) (.slice A0_0 l0_0.length c0_0) l0_0)∧Aside0 (Kd.V (Kd.int .i64) 3 wc w.heap.size (fun k_=>((P0_0_ k_∨P0_1_ k_)∨w.heap.size≤k_)∧k_≠gb146) (.slice A0_1 l0_1.length c0_1) l0_1)∧Aside0 (wc.heap[gb146]? = some (.cells #[(.slice A0_0 l0_0.length c0_0),(.slice A0_1 l0_1.length c0_1)] 27 (0,0)))∧Aside0 (Below w.heap.size w wc))
 case first =>
  have H:=HC2.out
  clear HC2
  replace H:=zz0 H
  obtain ⟨t147,A40,H⟩:=H
  try dsimp only at H
  have A4:=zA A40
  clear A40
  by_cases c5:t147 = true
  ·subst c5
   rw [if_pos rfl] at H;try dsimp only at H
   replace H:=zz0 H
   obtain ⟨t148,A60,H⟩:=H
   try dsimp only at H
   have A6:=zA A60
   clear A60
   by_cases c7:t148 = true
   ·subst c7
    rw [if_pos rfl] at H;try dsimp only at H
    have H':=zA H
    clear H
    have hcz8_0:w3.cell? ⟨gb146,0,none⟩ = some (.slice A0_0 l0_0.length c0_0):=(zT BK146.out 0).trans rfl
    have hcz8_1:w3.cell? ⟨gb146,1,none⟩ = some (.slice A0_1 l0_1.length c0_1):=(zT BK146.out 1).trans rfl
    have hfz8_0:=zZ BK146.out 0
    have hfz8_1:=zZ BK146.out 1
    go_wp2_with (first|((with_reducible refine gate_callee (f:=94) rfl ?_);refine goesL_ (some 7) rfl rfl Try.func94 (by kernel_rfl) rfl #[.slice A0_0 l0_0.length c0_0] rfl (by (try simp only [zJ,zM,zN]);first|done|rfl|(simp only [zL,zK];rfl)) ?_;(with_reducible refine (impl_PermValid.calls _ _ l0_0 true _ ?side1 ?side2 A4.out).mono ?_);(case side1=>repeat (first|exact (Kd.V_reads' HO0_0.out).2.2|apply zC_));(case side2=>exact (Kd.V_reads' HO0_0.out).2.1);rintro e w9 ⟨rfl,hb⟩;refine ⟨_,rfl,?_⟩;have n0_:=zA (Kd.V_below (by apply zV_;exact HO0_0.out) hb);have n1_:=zA (Kd.V_below (by apply zV_;exact HO0_1.out) hb);have n2_:=zA (zX (g:=gb146) (o:=.cells #[.slice A0_0 l0_0.length c0_0,.slice A0_1 l0_1.length c0_1] 27 (0,0)) (by (with_reducible repeat (first|refine zG ?_ _|refine zI ?_|refine zH ?_ _));exact BK146.out) hb);have n3_:=zA (zR (by repeat (first|(with_reducible first|exact HB.out|apply zD|apply zB|apply zC|refine zF ?_ GE146.out)|exact HB.out)) hb);clear HO0_0;clear HO0_1;clear BK146;clear HB;have HO0_0:=n0_;have HO0_1:=n1_;have BK146:=n2_;have HB:=n3_;clear n0_ n1_ n2_ n3_;(try clear hb);(try clear hb2);(try clear hk);(try clear hi);have hcz10_0:w9.cell? ⟨gb146,0,none⟩ = some (.slice A0_0 l0_0.length c0_0):=(zT BK146.out 0).trans rfl;have hcz10_1:w9.cell? ⟨gb146,1,none⟩ = some (.slice A0_1 l0_1.length c0_1):=(zT BK146.out 1).trans rfl;have hfz10_0:=zZ BK146.out 0;have hfz10_1:=zZ BK146.out 1)|(go_at_call 94;(with_reducible refine (impl_PermValid.calls _ _ l0_1 true _ ?side1 ?side2 A6.out).mono ?_);(case side1=>repeat (first|exact (Kd.V_reads' HO0_1.out).2.2|apply zC_));(case side2=>exact (Kd.V_reads' HO0_1.out).2.1);rintro e w11 ⟨rfl,hb⟩;have n0_:=zA (Kd.V_below (by apply zV_;exact HO0_0.out) hb);have n1_:=zA (Kd.V_below (by apply zV_;exact HO0_1.out) hb);have n2_:=zA (zX (g:=gb146) (o:=.cells #[.slice A0_0 l0_0.length c0_0,.slice A0_1 l0_1.length c0_1] 27 (0,0)) (by (with_reducible repeat (first|refine zG ?_ _|refine zI ?_|refine zH ?_ _));exact BK146.out) hb);have n3_:=zA (zR (by repeat (first|(with_reducible first|exact HB.out|apply zD|apply zB|apply zC|refine zF ?_ GE146.out)|exact HB.out)) hb);clear HO0_0;clear HO0_1;clear BK146;clear HB;have HO0_0:=n0_;have HO0_1:=n1_;have BK146:=n2_;have HB:=n3_;clear n0_ n1_ n2_ n3_;(try clear hb);(try clear hb2);(try clear hk);(try clear hi);have hcz12_0:w11.cell? ⟨gb146,0,none⟩ = some (.slice A0_0 l0_0.length c0_0):=(zT BK146.out 0).trans rfl;have hcz12_1:w11.cell? ⟨gb146,1,none⟩ = some (.slice A0_1 l0_1.length c0_1):=(zT BK146.out 1).trans rfl;have hfz12_0:=zZ BK146.out 0;have hfz12_1:=zZ BK146.out 1))
    go_meet
    case rel=>exact ⟨_,(((l0_0.length:Int) != (l0_1.length:Int))),(by first|rfl|(simp;done)|(simp [*];done)),H',⟨by first|omega|exact Nat.le_refl _⟩,⟨by apply zV_;exact HO0_0.out⟩,⟨by apply zV_;exact HO0_1.out⟩,⟨by (with_reducible repeat (first|refine zG ?_ _|refine zI ?_|refine zH ?_ _));exact BK146.out⟩,⟨by repeat (first|(with_reducible first|exact HB.out|apply zD|apply zB|apply zC|refine zF ?_ GE146.out)|exact HB.out)⟩⟩
   ·replace c7:=Bool.eq_false_iff.mpr c7
    subst c7
    have H1:(impl_MapValid.j0 k true l0_0 l0_1) = some r:=by rw [if_neg (show ¬ (false = true) by decide)] at H;exact H
    clear H
    have H:=H1
    clear H1
    have H':=zA H
    clear H
    have hcz13_0:w3.cell? ⟨gb146,0,none⟩ = some (.slice A0_0 l0_0.length c0_0):=(zT BK146.out 0).trans rfl
    have hcz13_1:w3.cell? ⟨gb146,1,none⟩ = some (.slice A0_1 l0_1.length c0_1):=(zT BK146.out 1).trans rfl
    have hfz13_0:=zZ BK146.out 0
    have hfz13_1:=zZ BK146.out 1
    go_wp2_with (first|((with_reducible refine gate_callee (f:=94) rfl ?_);refine goesL_ (some 7) rfl rfl Try.func94 (by kernel_rfl) rfl #[.slice A0_0 l0_0.length c0_0] rfl (by (try simp only [zJ,zM,zN]);first|done|rfl|(simp only [zL,zK];rfl)) ?_;(with_reducible refine (impl_PermValid.calls _ _ l0_0 true _ ?side1 ?side2 A4.out).mono ?_);(case side1=>repeat (first|exact (Kd.V_reads' HO0_0.out).2.2|apply zC_));(case side2=>exact (Kd.V_reads' HO0_0.out).2.1);rintro e w14 ⟨rfl,hb⟩;refine ⟨_,rfl,?_⟩;have n0_:=zA (Kd.V_below (by apply zV_;exact HO0_0.out) hb);have n1_:=zA (Kd.V_below (by apply zV_;exact HO0_1.out) hb);have n2_:=zA (zX (g:=gb146) (o:=.cells #[.slice A0_0 l0_0.length c0_0,.slice A0_1 l0_1.length c0_1] 27 (0,0)) (by (with_reducible repeat (first|refine zG ?_ _|refine zI ?_|refine zH ?_ _));exact BK146.out) hb);have n3_:=zA (zR (by repeat (first|(with_reducible first|exact HB.out|apply zD|apply zB|apply zC|refine zF ?_ GE146.out)|exact HB.out)) hb);clear HO0_0;clear HO0_1;clear BK146;clear HB;have HO0_0:=n0_;have HO0_1:=n1_;have BK146:=n2_;have HB:=n3_;clear n0_ n1_ n2_ n3_;(try clear hb);(try clear hb2);(try clear hk);(try clear hi);have hcz15_0:w14.cell? ⟨gb146,0,none⟩ = some (.slice A0_0 l0_0.length c0_0):=(zT BK146.out 0).trans rfl;have hcz15_1:w14.cell? ⟨gb146,1,none⟩ = some (.slice A0_1 l0_1.length c0_1):=(zT BK146.out 1).trans rfl;have hfz15_0:=zZ BK146.out 0;have hfz15_1:=zZ BK146.out 1)|(go_at_call 94;(with_reducible refine (impl_PermValid.calls _ _ l0_1 false _ ?side1 ?side2 A6.out).mono ?_);(case side1=>repeat (first|exact (Kd.V_reads' HO0_1.out).2.2|apply zC_));(case side2=>exact (Kd.V_reads' HO0_1.out).2.1);rintro e w16 ⟨rfl,hb⟩;have n0_:=zA (Kd.V_below (by apply zV_;exact HO0_0.out) hb);have n1_:=zA (Kd.V_below (by apply zV_;exact HO0_1.out) hb);have n2_:=zA (zX (g:=gb146) (o:=.cells #[.slice A0_0 l0_0.length c0_0,.slice A0_1 l0_1.length c0_1] 27 (0,0)) (by (with_reducible repeat (first|refine zG ?_ _|refine zI ?_|refine zH ?_ _));exact BK146.out) hb);have n3_:=zA (zR (by repeat (first|(with_reducible first|exact HB.out|apply zD|apply zB|apply zC|refine zF ?_ GE146.out)|exact HB.out)) hb);clear HO0_0;clear HO0_1;clear BK146;clear HB;have HO0_0:=n0_;have HO0_1:=n1_;have BK146:=n2_;have HB:=n3_;clear n0_ n1_ n2_ n3_;(try clear hb);(try clear hb2);(try clear hk);(try clear hi)))
    go_meet
    case rel=>exact ⟨_,(true),(by first|rfl|(simp;done)|(simp [*];done)),H',⟨by first|omega|exact Nat.le_refl _⟩,⟨by apply zV_;exact HO0_0.out⟩,⟨by apply zV_;exact HO0_1.out⟩,⟨by (with_reducible repeat (first|refine zG ?_ _|refine zI ?_|refine zH ?_ _));exact BK146.out⟩,⟨by repeat (first|(with_reducible first|exact HB.out|apply zD|apply zB|apply zC|refine zF ?_ GE146.out)|exact HB.out)⟩⟩
  ·replace c5:=Bool.eq_false_iff.mpr c5
   subst c5
   have H1:(impl_MapValid.j0 k true l0_0 l0_1) = some r:=by rw [if_neg (show ¬ (false = true) by decide)] at H;exact H
   clear H
   have H:=H1
   clear H1
   have H':=zA H
   clear H
   have hcz17_0:w3.cell? ⟨gb146,0,none⟩ = some (.slice A0_0 l0_0.length c0_0):=(zT BK146.out 0).trans rfl
   have hcz17_1:w3.cell? ⟨gb146,1,none⟩ = some (.slice A0_1 l0_1.length c0_1):=(zT BK146.out 1).trans rfl
   have hfz17_0:=zZ BK146.out 0
   have hfz17_1:=zZ BK146.out 1
   go_wp2_with (first|((with_reducible refine gate_callee (f:=94) rfl ?_);refine goesL_ (some 7) rfl rfl Try.func94 (by kernel_rfl) rfl #[.slice A0_0 l0_0.length c0_0] rfl (by (try simp only [zJ,zM,zN]);first|done|rfl|(simp only [zL,zK];rfl)) ?_;(with_reducible refine (impl_PermValid.calls _ _ l0_0 false _ ?side1 ?side2 A4.out).mono ?_);(case side1=>repeat (first|exact (Kd.V_reads' HO0_0.out).2.2|apply zC_));(case side2=>exact (Kd.V_reads' HO0_0.out).2.1);rintro e w18 ⟨rfl,hb⟩;refine ⟨_,rfl,?_⟩;have n0_:=zA (Kd.V_below (by apply zV_;exact HO0_0.out) hb);have n1_:=zA (Kd.V_below (by apply zV_;exact HO0_1.out) hb);have n2_:=zA (zX (g:=gb146) (o:=.cells #[.slice A0_0 l0_0.length c0_0,.slice A0_1 l0_1.length c0_1] 27 (0,0)) (by (with_reducible repeat (first|refine zG ?_ _|refine zI ?_|refine zH ?_ _));exact BK146.out) hb);have n3_:=zA (zR (by repeat (first|(with_reducible first|exact HB.out|apply zD|apply zB|apply zC|refine zF ?_ GE146.out)|exact HB.out)) hb);clear HO0_0;clear HO0_1;clear BK146;clear HB;have HO0_0:=n0_;have HO0_1:=n1_;have BK146:=n2_;have HB:=n3_;clear n0_ n1_ n2_ n3_;(try clear hb);(try clear hb2);(try clear hk);(try clear hi)))
   go_meet
   case rel=>exact ⟨_,(true),(by first|rfl|(simp;done)|(simp [*];done)),H',⟨by first|omega|exact Nat.le_refl _⟩,⟨by apply zV_;exact HO0_0.out⟩,⟨by apply zV_;exact HO0_1.out⟩,⟨by (with_reducible repeat (first|refine zG ?_ _|refine zI ?_|refine zH ?_ _));exact BK146.out⟩,⟨by repeat (first|(with_reducible first|exact HB.out|apply zD|apply zB|apply zC|refine zF ?_ GE146.out)|exact HB.out)⟩⟩
 case rest =>
  clear HC2
  (try clear p2);(try clear c3);(try clear c5);(try clear c7);(try clear c9);(try clear hcz10_0);(try clear hcz10_1);(try clear hcz12_0);(try clear hcz12_1);(try clear hcz13_0);(try clear hcz13_1);(try clear hcz15_0);(try clear hcz15_1);(try clear hcz17_0);(try clear hcz17_1);(try clear hcz8_0);(try clear hcz8_1);(try clear hfz10_0);(try clear hfz10_1);(try clear hfz12_0);(try clear hfz12_1);(try clear hfz13_0);(try clear hfz13_1);(try clear hfz15_0);(try clear hfz15_1);(try clear hfz17_0);(try clear hfz17_1);(try clear hfz8_0);(try clear hfz8_1)
  obtain ⟨kq,x23_1,rfl,HA,HJ1,HO_147000,HO_147001,BK146,HB⟩:=hcut
  cases kq with
  | zero=>exact absurd HA.out (by simp [impl_MapValid.j0])
  | succ kj1 =>
   have H:=HA.out
   clear HA
   simp only [impl_MapValid.j0] at H
   by_cases c19:x23_1 = true
   ·subst c19
    rw [if_pos rfl] at H;try dsimp only at H
    obtain rfl:=zS H
    go_wp2
    go_ret
    exact ⟨by first|rfl|(simp [errW_none,errW_some] <;> rfl)|(simp [*,errW_none,errW_some] <;> rfl),by repeat (first|(with_reducible first|exact HB.out|apply zD|apply zB|apply zC|refine zF ?_ GE146.out)|exact HB.out)⟩
   ·replace c19:=Bool.eq_false_iff.mpr c19
    subst c19
    have H1:(impl_MapValid.l0 kj1 l0_1 (l0_1.length:Int) 0 l0_0 l0_1) = some r:=by rw [if_neg (show ¬ (false = true) by decide)] at H;exact H
    clear H
    have H:=H1
    clear H1
    have H':=zA H
    clear H
    have hcz20_0:wc.cell? ⟨gb146,0,none⟩ = some (.slice A0_0 l0_0.length c0_0):=(zT BK146.out 0).trans rfl
    have hcz20_1:wc.cell? ⟨gb146,1,none⟩ = some (.slice A0_1 l0_1.length c0_1):=(zT BK146.out 1).trans rfl
    have hfz20_0:=zZ BK146.out 0
    have hfz20_1:=zZ BK146.out 1
    go_wp2
    go_loopg [27] kj1 (fun kq v27 w' => ∃ (x27_2:Int),v27 = .int .i64 x27_2∧Aside0 (impl_MapValid.l0 kq l0_1 (l0_1.length:Int) x27_2 l0_0 l0_1 = some r)∧Aside0 (kq≤kj1)∧Aside0 (Kd.V (Kd.int .i64) 3 w' w.heap.size (fun k_=>((P0_0_ k_∨P0_1_ k_)∨w.heap.size≤k_)∧k_≠gb146) (.slice A0_1 l0_1.length c0_1) l0_1)∧Aside0 (Kd.V (Kd.int .i64) 3 w' w.heap.size (fun k_=>((P0_0_ k_∨P0_1_ k_)∨w.heap.size≤k_)∧k_≠gb146) (.slice A0_0 l0_0.length c0_0) l0_0)∧Aside0 (Kd.V (Kd.int .i64) 3 w' w.heap.size (fun k_=>((P0_0_ k_∨P0_1_ k_)∨w.heap.size≤k_)∧k_≠gb146) (.slice A0_1 l0_1.length c0_1) l0_1)∧Aside0 (w'.heap[gb146]? = some (.cells #[(.slice A0_0 l0_0.length c0_0),(.slice A0_1 l0_1.length c0_1)] 27 (0,0)))∧Aside0 (Below w.heap.size w w'))
    case atStart=>exact ⟨(0),(by first|rfl|(simp;done)|(simp [*];done)),H',⟨Nat.le_refl _⟩,⟨by apply zV_;exact HO_147001.out⟩,⟨by apply zV_;exact HO_147000.out⟩,⟨by apply zV_;exact HO_147001.out⟩,⟨by (with_reducible repeat (first|refine zG ?_ _|refine zI ?_|refine zH ?_ _));exact BK146.out⟩,⟨by repeat (first|(with_reducible first|exact HB.out|apply zD|apply zB|apply zC|refine zF ?_ GE146.out)|exact HB.out)⟩⟩
    case round =>
     clear H'
     (try clear c1);(try clear p2);(try clear c3);(try clear c5);(try clear c7);(try clear c9);(try clear c19);(try clear hcz10_0);(try clear hcz10_1);(try clear hcz12_0);(try clear hcz12_1);(try clear hcz13_0);(try clear hcz13_1);(try clear hcz15_0);(try clear hcz15_1);(try clear hcz17_0);(try clear hcz17_1);(try clear hcz20_0);(try clear hcz20_1);(try clear hcz8_0);(try clear hcz8_1);(try clear hfz10_0);(try clear hfz10_1);(try clear hfz12_0);(try clear hfz12_1);(try clear hfz13_0);(try clear hfz13_1);(try clear hfz15_0);(try clear hfz15_1);(try clear hfz17_0);(try clear hfz17_1);(try clear hfz20_0);(try clear hfz20_1);(try clear hfz8_0);(try clear hfz8_1);(try clear p2)
     obtain ⟨x27_2,rfl,HA,HK2,HO_25,HO_147000,HO_147001,BK146,HB⟩:=hrel
     cases gk with
     | zero=>exact absurd HA.out (by simp [impl_MapValid.l0])
     | succ k2 =>
      have H:=HA.out
      clear HA
      simp only [impl_MapValid.l0] at H
      by_cases c21:x27_2 < (l0_1.length:Int)
      ·rw [if_pos c21] at H
       have c21b0:decide (x27_2 < (l0_1.length:Int)) = true:=zO c21
       clear c21
       by_cases c22:0≤x27_2
       ·rw [if_pos c22] at H
        have c22b0:decide (0≤x27_2) = true:=zO c22
        clear c22
        by_cases c23:x27_2 < (l0_1.length:Int)
        ·rw [if_pos c23] at H
         have c23b0:decide (x27_2 < (l0_1.length:Int)) = true:=zO c23
         clear c23
         by_cases c24:(rd l0_1 x27_2) = x27_2
         ·rw [if_pos c24] at H
          have c24b0:((rd l0_1 x27_2) == x27_2) = true:=beq_iff_eq.mpr c24
          have c24b1:((rd l0_1 x27_2) != x27_2) = false:=bne_eq_false_iff_eq.mpr c24
          clear c24
          obtain rfl:=zS H
          have p149:0≤(x27_2:Int):=zE (by with_reducible assumption)
          have q149:x27_2 < (l0_1.length:Int):=zE (by with_reducible assumption)
          obtain ⟨ad149,e149,hx149_0⟩:=Kd.at_int (Kd.V_reads' HO_25.out).2.2 x27_2 p149 q149
          cases e149
          replace p149:=eq_true p149
          replace q149:=eq_true q149
          go_wp2
          go_ret
          exact ⟨by first|rfl|(simp [errW_none,errW_some] <;> rfl)|(simp [*,errW_none,errW_some] <;> rfl),by repeat (first|(with_reducible first|exact HB.out|apply zD|apply zB|apply zC|refine zF ?_ GE146.out)|exact HB.out)⟩
         ·rw [if_neg c24] at H
          have c24b0:((rd l0_1 x27_2) == x27_2) = false:=beq_eq_false_iff_ne.mpr c24
          have c24b1:((rd l0_1 x27_2) != x27_2) = true:=bne_iff_ne.mpr c24
          by_cases c25:0≤(rd l0_1 x27_2)
          ·rw [if_pos c25] at H
           have c25b0:decide (0≤(rd l0_1 x27_2)) = true:=zO c25
           clear c25
           by_cases c26:(rd l0_1 x27_2) < (l0_1.length:Int)
           ·rw [if_pos c26] at H
            have c26b0:decide ((rd l0_1 x27_2) < (l0_1.length:Int)) = true:=zO c26
            clear c26
            by_cases c27:(rd l0_1 (rd l0_1 x27_2)) = x27_2
            ·rw [if_pos c27] at H
             have c27b0:((rd l0_1 (rd l0_1 x27_2)) == x27_2) = true:=beq_iff_eq.mpr c27
             have c27b1:((rd l0_1 (rd l0_1 x27_2)) != x27_2) = false:=bne_eq_false_iff_eq.mpr c27
             clear c27
             have H':=zA H
             clear H
             have p149:0≤(x27_2:Int):=zE (by with_reducible assumption)
             have q149:x27_2 < (l0_1.length:Int):=zE (by with_reducible assumption)
             obtain ⟨ad149,e149,hx149_0⟩:=Kd.at_int (Kd.V_reads' HO_25.out).2.2 x27_2 p149 q149
             cases e149
             replace p149:=eq_true p149
             replace q149:=eq_true q149
             have hcz28_0:wr.cell? ⟨gb146,0,none⟩ = some (.slice A0_0 l0_0.length c0_0):=(zT BK146.out 0).trans rfl
             have hcz28_1:wr.cell? ⟨gb146,1,none⟩ = some (.slice (some ad149) l0_1.length c0_1):=(zT BK146.out 1).trans rfl
             have hfz28_0:=zZ BK146.out 0
             have hfz28_1:=zZ BK146.out 1
             have p150:0≤((rd l0_1 x27_2):Int):=zE (by with_reducible assumption)
             have q150:(rd l0_1 x27_2) < (l0_1.length:Int):=zE (by with_reducible assumption)
             obtain ⟨ad150,e150,hx150_0⟩:=Kd.at_int (Kd.V_reads' HO_147001.out).2.2 (rd l0_1 x27_2) p150 q150
             obtain rfl:ad149 = ad150:=(by injection e150)
             replace p150:=eq_true p150
             replace q150:=eq_true q150
             go_wp2
             go_roundg k2
             case measure=>have:=HJ1.out;have:=HK2.out;omega
             case rel=>exact ⟨(wrap64 (x27_2+1)),(by first|rfl|(simp;done)|(simp [*];done)),H',⟨by have:=HJ1.out;have:=HK2.out;omega⟩,⟨by apply zV_;exact HO_25.out⟩,⟨by apply zV_;exact HO_147000.out⟩,⟨by apply zV_;exact HO_147001.out⟩,⟨by (with_reducible repeat (first|refine zG ?_ _|refine zI ?_|refine zH ?_ _));exact BK146.out⟩,⟨by repeat (first|(with_reducible first|exact HB.out|apply zD|apply zB|apply zC|refine zF ?_ GE146.out)|exact HB.out)⟩⟩
            ·rw [if_neg c27] at H
             have c27b0:((rd l0_1 (rd l0_1 x27_2)) == x27_2) = false:=beq_eq_false_iff_ne.mpr c27
             have c27b1:((rd l0_1 (rd l0_1 x27_2)) != x27_2) = true:=bne_iff_ne.mpr c27
             obtain rfl:=zS H
             have p149:0≤(x27_2:Int):=zE (by with_reducible assumption)
             have q149:x27_2 < (l0_1.length:Int):=zE (by with_reducible assumption)
             obtain ⟨ad149,e149,hx149_0⟩:=Kd.at_int (Kd.V_reads' HO_25.out).2.2 x27_2 p149 q149
             cases e149
             replace p149:=eq_true p149
             replace q149:=eq_true q149
             have hcz29_0:wr.cell? ⟨gb146,0,none⟩ = some (.slice A0_0 l0_0.length c0_0):=(zT BK146.out 0).trans rfl
             have hcz29_1:wr.cell? ⟨gb146,1,none⟩ = some (.slice (some ad149) l0_1.length c0_1):=(zT BK146.out 1).trans rfl
             have hfz29_0:=zZ BK146.out 0
             have hfz29_1:=zZ BK146.out 1
             have p150:0≤((rd l0_1 x27_2):Int):=zE (by with_reducible assumption)
             have q150:(rd l0_1 x27_2) < (l0_1.length:Int):=zE (by with_reducible assumption)
             obtain ⟨ad150,e150,hx150_0⟩:=Kd.at_int (Kd.V_reads' HO_147001.out).2.2 (rd l0_1 x27_2) p150 q150
             obtain rfl:ad149 = ad150:=(by injection e150)
             replace p150:=eq_true p150
             replace q150:=eq_true q150
             go_wp2
             go_ret
             exact ⟨by first|rfl|(simp [errW_none,errW_some] <;> rfl)|(simp [*,errW_none,errW_some] <;> rfl),by repeat (first|(with_reducible first|exact HB.out|apply zD|apply zB|apply zC|refine zF ?_ GE146.out)|exact HB.out)⟩
           ·rw [if_neg c26] at H
            exact absurd H (by simp)
          ·rw [if_neg c25] at H
           exact absurd H (by simp)
        ·rw [if_neg c23] at H
         exact absurd H (by simp)
       ·rw [if_neg c22] at H
        exact absurd H (by simp)
      ·rw [if_neg c21] at H
       have c21b0:decide (x27_2 < (l0_1.length:Int)) = false:=zP c21
       clear c21
       obtain ⟨y151,hy151⟩:∃ y_:List (List Int),y_ = (([l0_0,l0_1]:List (List Int))):=⟨_,rfl⟩
       replace H:((impl_orbits.f k2 y151).bind fun t154=>((slices_Max_int_int.f t154).bind fun t157=>(some (t157 == 0)))) = some r:=by (try rw [hy151]);first|with_reducible exact H|with_reducible exact zS_ H|exact H
       have Ny151:=zA hy151
       clear hy151
       replace H:=zz0 H
       obtain ⟨t154,A300,H⟩:=H
       try dsimp only at H
       have A30:=zA A300
       clear A300
       replace H:=zz0 H
       obtain ⟨t157,A310,H⟩:=H
       try dsimp only at H
       have A31:=zA A310
       clear A310
       obtain rfl:=zS H
       have hcz32_0:wr.cell? ⟨gb146,0,none⟩ = some (.slice A0_0 l0_0.length c0_0):=(zT BK146.out 0).trans rfl
       have hcz32_1:wr.cell? ⟨gb146,1,none⟩ = some (.slice A0_1 l0_1.length c0_1):=(zT BK146.out 1).trans rfl
       have hfz32_0:=zZ BK146.out 0
       have hfz32_1:=zZ BK146.out 1
       go_wp2_with (first|((with_reducible refine gate_dst (N:=49) rfl ?_);(try (refine gate_guard (by rfl) ?_;dsimp only));refine Kd.N_lit (Kd.slice 3 (Kd.int .i64)) _ 23 ?hg (N':=49) ?hd (xs:=([l0_0,l0_1]:List (List Int))) (inner:=[.slice A0_0 l0_0.length c0_0,.slice A0_1 l0_1.length c0_1]) (ok:=(fun k_=>((P0_0_ k_∨P0_1_ k_)∨w.heap.size≤k_)∧k_≠gb146)) (okp:=(fun k_=>((P0_0_ k_∨P0_1_ k_)∨w.heap.size≤k_)∧k_≠gb146)) ?hr ?hp (fun _ hk=>hk) ((show ∀ k_,wr.heap.size≤k_→(fun k_=>((P0_0_ k_∨P0_1_ k_)∨w.heap.size≤k_)∧k_≠gb146) k_ from fun k_ hk=>⟨(.inr (Nat.le_trans (zQ (by repeat (first|(with_reducible first|exact HB.out|apply zD|apply zB|apply zC|refine zF ?_ GE146.out)|exact HB.out))) hk)),Kd.freshB (g:=gb146) (o:=.cells #[.slice A0_0 l0_0.length c0_0,.slice A0_1 l0_1.length c0_1] 27 (0,0)) (by (with_reducible repeat (first|refine zG ?_ _|refine zI ?_|refine zH ?_ _));exact BK146.out) k_ hk⟩) _ (Nat.le_refl _)) (Below.refl _ _) (Nat.le_refl _) (by simp) ?_;(case hd=>rfl);(case hg=>rfl);(case hr=>first|(go_simp;done)|(go_simp;rfl));(case hp=>exact (Reps.one (show Kd.FK (Kd.slice 3 (Kd.int .i64)) _ _ l0_0 [.slice A0_0 l0_0.length c0_0] from (Kd.FK_slice_mk (Kd.V_reads' (Kd.V_mono (ok':=(fun k_=>((P0_0_ k_∨P0_1_ k_)∨w.heap.size≤k_)∧k_≠gb146)) (HO_147000.out) (fun k_ hk=>⟨hk.1,hk.2⟩))).2.1 (Kd.V_F (Kd.V_mono (ok':=(fun k_=>((P0_0_ k_∨P0_1_ k_)∨w.heap.size≤k_)∧k_≠gb146)) (HO_147000.out) (fun k_ hk=>⟨hk.1,hk.2⟩))))) (Reps.one (show Kd.FK (Kd.slice 3 (Kd.int .i64)) _ _ l0_1 [.slice A0_1 l0_1.length c0_1] from (Kd.FK_slice_mk (Kd.V_reads' (Kd.V_mono (ok':=(fun k_=>((P0_0_ k_∨P0_1_ k_)∨w.heap.size≤k_)∧k_≠gb146)) (HO_147001.out) (fun k_ hk=>⟨hk.1,hk.2⟩))).2.1 (Kd.V_F (Kd.V_mono (ok':=(fun k_=>((P0_0_ k_∨P0_1_ k_)∨w.heap.size≤k_)∧k_≠gb146)) (HO_147001.out) (fun k_ hk=>⟨hk.1,hk.2⟩))))) (Reps.none _ _))));intro v152 w33 ho34 hb hg_ hnew_;clear hg_ hnew_;(first|rw [← Ny151.out] at ho34|(simp only [Int.reduceToNat] at ho34;rw [← Ny151.out] at ho34));have n0_:=zA (Kd.V_elder' (by apply zV_;exact HO_25.out) (Kd.N_base ho34) hb);have n1_:=zA (Kd.V_elder' (by apply zV_;exact HO_147000.out) (Kd.N_base ho34) hb);have n2_:=zA (Kd.V_elder' (by apply zV_;exact HO_147001.out) (Kd.N_base ho34) hb);have n3_:=zA (Kd.N_lower ho34 (zQ (by repeat (first|(with_reducible first|exact HB.out|apply zD|apply zB|apply zC|refine zF ?_ GE146.out)|exact HB.out))));have n4_:=zA (zX (g:=gb146) (o:=.cells #[.slice A0_0 l0_0.length c0_0,.slice A0_1 l0_1.length c0_1] 27 (0,0)) (by (with_reducible repeat (first|refine zG ?_ _|refine zI ?_|refine zH ?_ _));exact BK146.out) hb);have n5_:=zA (zR (by repeat (first|(with_reducible first|exact HB.out|apply zD|apply zB|apply zC|refine zF ?_ GE146.out)|exact HB.out)) hb);clear HO_25;clear HO_147000;clear HO_147001;clear BK146;clear HB;have HO_25:=n0_;have HO_147000:=n1_;have HO_147001:=n2_;have HO153:=n3_;have BK146:=n4_;have HB:=n5_;clear n0_ n1_ n2_ n3_ n4_ n5_;clear hb ho34;obtain ⟨Ao35,co35,eo35⟩:=Kd.N_slice HO153.out;subst eo35)|((with_reducible refine gate_callee (f:=96) rfl ?_);refine goesL_ (some 50) rfl rfl Try.func96 (by kernel_rfl) rfl #[.slice Ao35 y151.length co35] rfl (by (try simp only [zJ,zM,zN]);first|done|rfl|(simp only [zL,zK];rfl)) ?_;(with_reducible refine (impl_orbits.calls k2 _ _ y151 t154 _ ?side1 ?side2 A30.out).mono ?_);(case side1=>repeat (first|exact (Kd.N_reads' HO153.out).2.2|apply zC_));(case side2=>exact (Kd.N_reads' HO153.out).2.1);rintro e w36 ⟨v155,rfl,ho0,hb⟩;refine ⟨_,rfl,?_⟩;have n0_:=zA (Kd.V_elder' (by apply zV_;exact HO_25.out) (zd ho0) hb);have n1_:=zA (Kd.V_elder' (by apply zV_;exact HO_147000.out) (zd ho0) hb);have n2_:=zA (Kd.V_elder' (by apply zV_;exact HO_147001.out) (zd ho0) hb);have n3_:=zA (Kd.N_elder' (by apply zN_;exact HO153.out) (zd ho0) hb);have n4_:=zA (ze (Kd.R_newM (M:=fun k_=>(w.heap.size≤k_)) ho0 (zQ (by repeat (first|(with_reducible first|exact HB.out|apply zD|apply zB|apply zC|refine zF ?_ GE146.out)|exact HB.out))) (fun k_ h_=>h_)) (zQ (by repeat (first|(with_reducible first|exact HB.out|apply zD|apply zB|apply zC|refine zF ?_ GE146.out)|exact HB.out))));have n5_:=zA (zX (g:=gb146) (o:=.cells #[.slice A0_0 l0_0.length c0_0,.slice A0_1 l0_1.length c0_1] 27 (0,0)) (by (with_reducible repeat (first|refine zG ?_ _|refine zI ?_|refine zH ?_ _));exact BK146.out) hb);have n6_:=zA (zR (by repeat (first|(with_reducible first|exact HB.out|apply zD|apply zB|apply zC|refine zF ?_ GE146.out)|exact HB.out)) hb);clear HO_25;clear HO_147000;clear HO_147001;clear HO153;clear BK146;clear HB;have HO_25:=n0_;have HO_147000:=n1_;have HO_147001:=n2_;have HO153:=n3_;have HO156:=n4_;have BK146:=n5_;have HB:=n6_;clear n0_ n1_ n2_ n3_ n4_ n5_ n6_;(try clear hb);(try clear hb2);(try clear hk);(try clear hi);(try clear ho0);obtain ⟨Ao37,co37,eo37⟩:=zg HO156.out;subst eo37)|((with_reducible refine gate_callee (f:=95) rfl ?_);refine goesL_ (some 51) rfl rfl Try.func95 (by kernel_rfl) rfl #[.slice Ao37 t154.length co37] rfl (by (try simp only [zJ,zM,zN]);first|done|rfl|(simp only [zL,zK];rfl)) ?_;(with_reducible refine (slices_Max_int_int.calls _ _ t154 t157 _ ?side1 ?side2 A31.out).mono ?_);(case side1=>repeat (first|exact (zU HO156.out).2.2|apply zC_));(case side2=>exact (zU HO156.out).2.1);rintro e w' ⟨rfl,⟨nd,rfl⟩⟩;refine ⟨_,rfl,?_⟩))
       go_ret
       exact ⟨by first|rfl|(simp [errW_none,errW_some] <;> rfl)|(simp [*,errW_none,errW_some] <;> rfl),by repeat (first|(with_reducible first|exact HB.out|apply zD|apply zB|apply zC|refine zF ?_ GE146.out)|exact HB.out)⟩

/-! ### impl_mul: function 86 -/
def impl_mul.l0:Nat→List Int→List Int→List Int→Int→Int→Option (List Int)
 | 0,_,_,_,_,_=>none
 | k+1,x1,x5,x11,x12,x13=>if x13 < x12 then (if 0≤x13 then (if x13 < (x11.length:Int) then (if 0≤(rd x11 x13) then (if (rd x11 x13) < (x1.length:Int) then (if x13 < (x5.length:Int) then (impl_mul.l0 k x1 (x5.set (x13:Int).toNat (rd x1 (rd x11 x13))) x11 x12 (wrap64 (x13+1))) else (none)) else (none)) else (none)) else (none)) else (none)) else (some x5)
def impl_mul.f (k:Nat) (l0:List Int) (l1:List Int):Option (List Int):=if 0≤(l0.length:Int) then (if ((l0.length:Int):Int).toNat≤35184372088832 then (impl_mul.l0 k l1 (List.replicate ((l0.length:Int):Int).toNat 0) l0 (l0.length:Int) 0) else (none)) else (none)
theorem impl_mul.mono_l:∀ k,(∀ y0 y1 y2 y3 y4,LeO (impl_mul.l0 k y0 y1 y2 y3 y4) (impl_mul.l0 (k+1) y0 y1 y2 y3 y4))
 | 0=>fun _ _ _ _ _ r h=>by simp [impl_mul.l0] at h
 | k+1=>by
  have ih0:=impl_mul.mono_l k
  ·intro y0 y1 y2 y3 y4
   unfold impl_mul.l0
   repeat' first
   | (with_reducible exact ih0 _ _ _ _ _)
   | (with_reducible exact LeO.refl _)
   | (with_reducible exact za _)
   | (with_reducible refine zc ?_ ?_)
   | (with_reducible refine zb ?_ (fun _=>?_))
theorem impl_mul.mono:∀ a0 a1 k,LeO (impl_mul.f k a0 a1) (impl_mul.f (k+1) a0 a1):=by
 intro a0 a1 k
 have ih0:=impl_mul.mono_l k
 unfold impl_mul.f
 repeat' first
   | (with_reducible exact ih0 _ _ _ _ _)
   | (with_reducible exact LeO.refl _)
   | (with_reducible exact za _)
   | (with_reducible refine zc ?_ ?_)
   | (with_reducible refine zb ?_ (fun _=>?_))
set_option maxHeartbeats 8000000 in
set_option maxRecDepth 100000 in
theorem impl_mul.calls (k:Nat) (A0:Option Addr) (c0:Nat) (l0:List Int) (A1:Option Addr) (c1:Nat) (l1:List Int) (r:List Int) (w:World) (hr0:Kd.C (Kd.int .i64) w A0 l0.length l0) (hc0:l0.length≤c0) (hr1:Kd.C (Kd.int .i64) w A1 l1.length l1) (hc1:l1.length≤c1) (h:impl_mul.f k l0 l1 = some r) :
  Calls Try.prog 86 #[.slice A0 l0.length c0,.slice A1 l1.length c1] w fun e w' => ∃ v0_:Value,e = .returned (v0_)∧Kd.R (Kd.int .i64) 3 w' w.heap.size (fun _=>True) v0_ r∧Below w.heap.size w w':=by
 have HR0:=zA hr0
 have HC0:=zA hc0
 clear hr0 hc0
 have HR1:=zA hr1
 have HC1:=zA hc1
 clear hr1 hc1
 have HB:=zA (Below.refl w.heap.size w)
 have H:(if 0≤(l0.length:Int) then (if ((l0.length:Int):Int).toNat≤35184372088832 then (impl_mul.l0 k l1 (List.replicate ((l0.length:Int):Int).toNat 0) l0 (l0.length:Int) 0) else (none)) else (none)) = some r:=h
 clear h
 by_cases c3:0≤(l0.length:Int)
 ·rw [if_pos c3] at H
  have c3b0:=eq_true c3
  have c3b1:decide (0≤(l0.length:Int)) = true:=zO c3
  clear c3
  by_cases c4:((l0.length:Int):Int).toNat≤35184372088832
  ·rw [if_pos c4] at H
   have c4b0:=eq_true c4
   have c4b1:decide (((l0.length:Int):Int).toNat≤35184372088832) = true:=zO c4
   clear c4
   obtain ⟨y158,hy158⟩:∃ y_:List Int,y_ = (List.replicate ((l0.length:Int):Int).toNat 0):=⟨_,rfl⟩
   replace H:(impl_mul.l0 k l1 y158 l0 (l0.length:Int) 0) = some r:=by (try rw [hy158]);first|with_reducible exact H|with_reducible exact zS_ H|exact H
   have Ny158:=zA hy158
   clear hy158
   have H':=zA H
   clear H
   go_enter Try.func86,Try.ntmps86
   go_wp2_with (first|((with_reducible refine gate_dst (N:=10) rfl ?_);refine Kd.R_make (Kd.int .i64) _ 3 rfl (N:=10) rfl 23 _ _ rfl (l0.length:Int) rfl rfl Try.underlying23 (.int .i64 0) 8 info3 rfl (by decide) (by omega) 0 (ok:=fun _=>True) (okp:=fun _=>True) rfl (fun _ hk=>hk) trivial (zE (by with_reducible assumption)) (Nat.le_trans (Nat.mul_le_mul_right _ (zE (by with_reducible assumption):(l0.length:Int).toNat≤35184372088832)) (by omega)) (Below.refl _ _) (Nat.le_refl _) ?_;intro v159 w5 ho6 hb hg_ hnew_;clear hg_ hnew_;(first|rw [← Ny158.out] at ho6|(simp only [Int.reduceToNat] at ho6;rw [← Ny158.out] at ho6));have n0_:=zA (ze ho6 (zQ (by exact zB_ HB.out)));have n1_:=zA (zR (by exact zB_ HB.out) hb);clear HB;have HO160:=n0_;have HB:=n1_;clear n0_ n1_;clear hb ho6))
   go_loopg [13] k (fun kq v13 w' => ∃ (x5_1:List Int) (x13_1:Int),v13 = .int .i64 x13_1∧Aside0 (impl_mul.l0 kq l1 x5_1 l0 (l0.length:Int) x13_1 = some r)∧Aside0 (kq≤k)∧Aside0 (Kd.R (Kd.int .i64) 3 w' w.heap.size (fun _=>True) v159 x5_1)∧Aside0 (Below w.heap.size w w'))
   case atStart=>exact ⟨(y158),(0),(by first|rfl|(simp;done)|(simp [*];done)),H',⟨Nat.le_refl _⟩,⟨by apply zR_;exact HO160.out⟩,⟨by exact zB_ HB.out⟩⟩
   case round =>
    clear H'
    (try clear c1);(try clear p2);(try clear c3);(try clear c3b0);(try clear c3b1);(try clear c4);(try clear c4b0);(try clear c4b1)
    obtain ⟨x5_1,x13_1,rfl,HA,HK1,HO_5,HB⟩:=hrel
    cases gk with
    | zero=>exact absurd HA.out (by simp [impl_mul.l0])
    | succ k1 =>
     have H:=HA.out
     clear HA
     simp only [impl_mul.l0] at H
     by_cases c7:x13_1 < (l0.length:Int)
     ·rw [if_pos c7] at H
      have c7b0:decide (x13_1 < (l0.length:Int)) = true:=zO c7
      clear c7
      by_cases c8:0≤x13_1
      ·rw [if_pos c8] at H
       have c8b0:decide (0≤x13_1) = true:=zO c8
       clear c8
       by_cases c9:x13_1 < (l0.length:Int)
       ·rw [if_pos c9] at H
        have c9b0:decide (x13_1 < (l0.length:Int)) = true:=zO c9
        clear c9
        by_cases c10:0≤(rd l0 x13_1)
        ·rw [if_pos c10] at H
         have c10b0:decide (0≤(rd l0 x13_1)) = true:=zO c10
         clear c10
         by_cases c11:(rd l0 x13_1) < (l1.length:Int)
         ·rw [if_pos c11] at H
          have c11b0:decide ((rd l0 x13_1) < (l1.length:Int)) = true:=zO c11
          clear c11
          by_cases c12:x13_1 < (x5_1.length:Int)
          ·rw [if_pos c12] at H
           have c12b0:decide (x13_1 < (x5_1.length:Int)) = true:=zO c12
           clear c12
           obtain ⟨y163,hy163⟩:∃ y_:List Int,y_ = (x5_1.set (x13_1:Int).toNat (rd l1 (rd l0 x13_1))):=⟨_,rfl⟩
           replace H:(impl_mul.l0 k1 l1 y163 l0 (l0.length:Int) (wrap64 (x13_1+1))) = some r:=by (try rw [hy163]);first|with_reducible exact H|with_reducible exact zS_ H|exact H
           have Ny163:=zA hy163
           clear hy163
           have H':=zA H
           clear H
           have p161:0≤(x13_1:Int):=zE (by with_reducible assumption)
           have q161:x13_1 < (l0.length:Int):=zE (by with_reducible assumption)
           obtain ⟨ad161,e161,hx161_0⟩:=Kd.at_int HR0.out x13_1 p161 q161
           cases e161
           replace hx161_0:=(HB.out.cell (zY w _ hx161_0)).trans hx161_0
           replace p161:=eq_true p161
           replace q161:=eq_true q161
           have p162:0≤((rd l0 x13_1):Int):=zE (by with_reducible assumption)
           have q162:(rd l0 x13_1) < (l1.length:Int):=zE (by with_reducible assumption)
           obtain ⟨ad162,e162,hx162_0⟩:=Kd.at_int HR1.out (rd l0 x13_1) p162 q162
           cases e162
           replace hx162_0:=(HB.out.cell (zY w _ hx162_0)).trans hx162_0
           replace p162:=eq_true p162
           replace q162:=eq_true q162
           have p13:0≤(x13_1:Int):=zE (by with_reducible assumption)
           have q13:(x13_1:Int) < ((x5_1.length:Int):Int):=zE (by with_reducible assumption)
           obtain ⟨go13,co13,eo13,gb13,gl13,cl13,HG13⟩:=Kd.R_form HO_5.out (by omega)
           (first|cases eo13|(injection eo13 with ea_ en_ ec_;(first|subst ea_|(injection ea_ with ea_;subst ea_));subst ec_;clear en_))
           have GB13:=zA gb13
           have GG13:=zA HG13
           clear gb13 gl13 HG13
           obtain ⟨hx13_0,hf13_0⟩:=Kd.R_celln 0 HO_5.out (x13_1:Int) p13 q13
           replace p13:=eq_true p13
           replace q13:=eq_true q13
           have HP14:=Kd.R_putg HO_5.out (x13_1:Int) (rd l1 (rd l0 x13_1))
           go_wp2_with (first|((with_reducible refine gate_store (t:=3) (p:=24) rfl ?_);refine store_event (t:=3) (p:=24) (v:=?vo_w15) (w1:=(wr.setCell ⟨go13,(x13_1:Int).toNat,none⟩ (.int .i64 (rd l1 (rd l0 x13_1))))) ?hg ?ho ?hn ?hr ?_;(case ho=>rfl);(case hg=>rfl);(case hn=>rfl);(case hr=>first|(go_simp;done)|(go_simp;rfl));intro w15 hw;have hg:wr.grownBy w15 (some go13):=(by rw [hw];exact HP14.2);have hp_:Kd.R (Kd.int .i64) 3 w15 w.heap.size (fun _=>True) (.slice (some ⟨go13,0,none⟩) x5_1.length co13) y163:=(by rw [hw,Ny163.out];exact HP14.1);clear HP14;have n0_:=zA (hp_);have n1_:=zA ((by rw [hw];exact zF (HB.out) GB13.out:Below w.heap.size w w15));clear HO_5;clear HB;have HO_5:=n0_;have HB:=n1_;clear n0_ n1_;clear hg hw hp_))
           go_roundg k1
           case measure=>have:=HK1.out;omega
           case rel=>exact ⟨(y163),(wrap64 (x13_1+1)),(by first|rfl|(simp;done)|(simp [*];done)),H',⟨by have:=HK1.out;omega⟩,⟨by apply zR_;exact HO_5.out⟩,⟨by exact zB_ HB.out⟩⟩
          ·rw [if_neg c12] at H
           exact absurd H (by simp)
         ·rw [if_neg c11] at H
          exact absurd H (by simp)
        ·rw [if_neg c10] at H
         exact absurd H (by simp)
       ·rw [if_neg c9] at H
        exact absurd H (by simp)
      ·rw [if_neg c8] at H
       exact absurd H (by simp)
     ·rw [if_neg c7] at H
      have c7b0:decide (x13_1 < (l0.length:Int)) = false:=zP c7
      clear c7
      obtain rfl:=zS H
      go_wp2
      go_ret
      exact ⟨_,by first|rfl|(simp [errW_none,errW_some] <;> rfl)|(simp [*,errW_none,errW_some] <;> rfl),by apply zR_;exact HO_5.out,by exact zB_ HB.out⟩
  ·rw [if_neg c4] at H
   exact absurd H (by simp)
 ·rw [if_neg c3] at H
  exact absurd H (by simp)

/-! ### impl_MapFaces: function 36 -/
def impl_MapFaces.f (k:Nat) (l0_0:List Int) (l0_1:List Int):Option (List Int × Bool):=(impl_MapValid.f k l0_0 l0_1).bind fun t165=>(if t165 = true then ((impl_mul.f k l0_1 l0_0).bind fun t166=>(some (t166,true))) else (some (([]:List Int),false)))
theorem impl_MapFaces.mono:∀ a0 a1 k,LeO (impl_MapFaces.f k a0 a1) (impl_MapFaces.f (k+1) a0 a1):=by
 intro a0 a1 k
 unfold impl_MapFaces.f
 repeat' first
   | (with_reducible exact impl_MapValid.mono _ _ _)
   | (with_reducible exact impl_mul.mono _ _ _)
   | (with_reducible exact LeO.refl _)
   | (with_reducible exact za _)
   | (with_reducible refine zc ?_ ?_)
   | (with_reducible refine zb ?_ (fun _=>?_))
set_option maxHeartbeats 8000000 in
set_option maxRecDepth 100000 in
theorem impl_MapFaces.calls (k:Nat) (A0_0:Option Addr) (c0_0:Nat) (l0_0:List Int) (A0_1:Option Addr) (c0_1:Nat) (l0_1:List Int) (r1:List Int) (r2:Bool) (w:World) (hr0_0:Kd.C (Kd.int .i64) w A0_0 l0_0.length l0_0) (hc0_0:l0_0.length≤c0_0) (hr0_1:Kd.C (Kd.int .i64) w A0_1 l0_1.length l0_1) (hc0_1:l0_1.length≤c0_1) (h:impl_MapFaces.f k l0_0 l0_1 = some (r1,r2)) :
  Calls Try.prog 36 #[.agg #[.slice A0_0 l0_0.length c0_0,.slice A0_1 l0_1.length c0_1]] w fun e w' => ∃ v0_:Value,e = .returned (.tuple #[v0_,.bool r2])∧Kd.R (Kd.int .i64) 3 w' w.heap.size (fun _=>True) v0_ r1∧Below w.heap.size w w':=by
 have hu27:=Try.underlying27
 have HR0_0:=zA hr0_0
 have HC0_0:=zA hc0_0
 clear hr0_0 hc0_0
 have HR0_1:=zA hr0_1
 have HC0_1:=zA hc0_1
 clear hr0_1 hc0_1
 have HB:=zA (Below.refl w.heap.size w)
 have H:((impl_MapValid.f k l0_0 l0_1).bind fun t165=>(if t165 = true then ((impl_mul.f k l0_1 l0_0).bind fun t166=>(some (t166,true))) else (some (([]:List Int),false)))) = some (r1,r2):=h
 clear h
 replace H:=zz0 H
 obtain ⟨t165,A20,H⟩:=H
 try dsimp only at H
 have A2:=zA A20
 clear A20
 by_cases c3:t165 = true
 ·subst c3
  rw [if_pos rfl] at H;try dsimp only at H
  replace H:=zz0 H
  obtain ⟨t166,A40,H⟩:=H
  try dsimp only at H
  have A4:=zA A40
  clear A40
  simp only [Option.some.injEq,Prod.mk.injEq] at H
  obtain ⟨rfl,rfl⟩:=H
  go_enter Try.func36,Try.ntmps36
  go_wp2_with (first|((with_reducible refine gate_dst (N:=1) rfl ?_);refine box_event ?hg (N:=1) ?hd (cs:=#[.slice A0_0 l0_0.length c0_0,.slice A0_1 l0_1.length c0_1]) (t:=27) ?hr ?_;(case hd=>rfl);(case hg=>rfl);(case hr=>first|(go_simp;done)|(go_simp;rfl));intro gb164 hg w5 hbox hb;have n0_:=zA (zR (by exact zB_ HB.out) hb);have n1_:=zA (hbox);have n2_:=zA ((by rw [hg];exact (zQ (by exact zB_ HB.out)):w.heap.size≤gb164));have n3_:=zA ((by rw [hg];exact (zQ (by exact zB_ HB.out)):w.heap.size≤gb164));clear HB;have HB:=n0_;have BK164:=n1_;have GW164:=n2_;have GE164:=n3_;clear n0_ n1_ n2_ n3_;clear hb hbox hg;have hcz6_0:w5.cell? ⟨gb164,0,none⟩ = some (.slice A0_0 l0_0.length c0_0):=(zT BK164.out 0).trans rfl;have hcz6_1:w5.cell? ⟨gb164,1,none⟩ = some (.slice A0_1 l0_1.length c0_1):=(zT BK164.out 1).trans rfl;have hfz6_0:=zZ BK164.out 0;have hfz6_1:=zZ BK164.out 1)|((with_reducible refine gate_callee (f:=33) rfl ?_);refine goesL_ (some 5) rfl rfl Try.func33 (by kernel_rfl) rfl #[.agg #[.slice A0_0 l0_0.length c0_0,.slice A0_1 l0_1.length c0_1]] rfl (by (try simp only [zJ,zM,zN]);first|done|rfl|(simp only [zL,zK];rfl)) ?_;(with_reducible refine (impl_MapValid.calls k (fun k_=>k_ < w.heap.size) _ _ l0_0 (fun k_=>k_ < w.heap.size) _ _ l0_1 true _ ?side1 ?side2 A2.out).mono ?_);(case side1=>exact Kd.V_mk HC0_0.out (Kd.F_below (Kd.C_F (Kd.heap_int .i64) HR0_0.out) (by repeat (first|(with_reducible first|exact HB.out|apply zD|apply zB|apply zC|refine zF ?_ GE164.out)|exact HB.out))));(case side2=>exact Kd.V_mk HC0_1.out (Kd.F_below (Kd.C_F (Kd.heap_int .i64) HR0_1.out) (by repeat (first|(with_reducible first|exact HB.out|apply zD|apply zB|apply zC|refine zF ?_ GE164.out)|exact HB.out))));rintro e w7 ⟨rfl,hb⟩;refine ⟨_,rfl,?_⟩;have n0_:=zA (zX (g:=gb164) (o:=.cells #[.slice A0_0 l0_0.length c0_0,.slice A0_1 l0_1.length c0_1] 27 (0,0)) (by (with_reducible repeat (first|refine zG ?_ _|refine zI ?_|refine zH ?_ _));exact BK164.out) hb);have n1_:=zA (zR (by repeat (first|(with_reducible first|exact HB.out|apply zD|apply zB|apply zC|refine zF ?_ GE164.out)|exact HB.out)) hb);clear BK164;clear HB;have BK164:=n0_;have HB:=n1_;clear n0_ n1_;(try clear hb);(try clear hb2);(try clear hk);(try clear hi);have hcz8_0:w7.cell? ⟨gb164,0,none⟩ = some (.slice A0_0 l0_0.length c0_0):=(zT BK164.out 0).trans rfl;have hcz8_1:w7.cell? ⟨gb164,1,none⟩ = some (.slice A0_1 l0_1.length c0_1):=(zT BK164.out 1).trans rfl;have hfz8_0:=zZ BK164.out 0;have hfz8_1:=zZ BK164.out 1)|((with_reducible refine gate_callee (f:=86) rfl ?_);refine goesL_ (some 11) rfl rfl Try.func86 (by kernel_rfl) rfl #[.slice A0_1 l0_1.length c0_1,.slice A0_0 l0_0.length c0_0] rfl (by (try simp only [zJ,zM,zN]);first|done|rfl|(simp only [zL,zK];rfl)) ?_;(with_reducible refine (impl_mul.calls k _ _ l0_1 _ _ l0_0 t166 _ ?side1 ?side2 ?side3 ?side4 A4.out).mono ?_);(case side1=>repeat (first|exact (zW HR0_1.out HB.out)|(with_reducible exact HR0_1.out)|apply zC_));(case side2=>exact HC0_1.out);(case side3=>repeat (first|exact (zW HR0_0.out HB.out)|(with_reducible exact HR0_0.out)|apply zC_));(case side4=>exact HC0_0.out);rintro e w9 ⟨v167,rfl,ho0,hb⟩;refine ⟨_,rfl,?_⟩;have n0_:=zA (ze ho0 (zQ (by repeat (first|(with_reducible first|exact HB.out|apply zD|apply zB|apply zC|refine zF ?_ GE164.out)|exact HB.out))));have n1_:=zA (zX (g:=gb164) (o:=.cells #[.slice A0_0 l0_0.length c0_0,.slice A0_1 l0_1.length c0_1] 27 (0,0)) (by (with_reducible repeat (first|refine zG ?_ _|refine zI ?_|refine zH ?_ _));exact BK164.out) hb);have n2_:=zA (zR (by repeat (first|(with_reducible first|exact HB.out|apply zD|apply zB|apply zC|refine zF ?_ GE164.out)|exact HB.out)) hb);clear BK164;clear HB;have HO168:=n0_;have BK164:=n1_;have HB:=n2_;clear n0_ n1_ n2_;(try clear hb);(try clear hb2);(try clear hk);(try clear hi);(try clear ho0)))
  go_ret2
  exact ⟨_,by first|rfl|(simp [errW_none,errW_some] <;> rfl)|(simp [*,errW_none,errW_some] <;> rfl),by apply zR_;exact HO168.out,by repeat (first|(with_reducible first|exact HB.out|apply zD|apply zB|apply zC|refine zF ?_ GE164.out)|exact HB.out)⟩
 ·replace c3:=Bool.eq_false_iff.mpr c3
  subst c3
  have H1:(some (([]:List Int),false)) = some (r1,r2):=by rw [if_neg (show ¬ (false = true) by decide)] at H;exact H
  clear H
  have H:=H1
  clear H1
  simp only [Option.some.injEq,Prod.mk.injEq] at H
  obtain ⟨rfl,rfl⟩:=H
  go_enter Try.func36,Try.ntmps36
  go_wp2_with (first|((with_reducible refine gate_dst (N:=1) rfl ?_);refine box_event ?hg (N:=1) ?hd (cs:=#[.slice A0_0 l0_0.length c0_0,.slice A0_1 l0_1.length c0_1]) (t:=27) ?hr ?_;(case hd=>rfl);(case hg=>rfl);(case hr=>first|(go_simp;done)|(go_simp;rfl));intro gb164 hg w10 hbox hb;have n0_:=zA (zR (by exact zB_ HB.out) hb);have n1_:=zA (hbox);have n2_:=zA ((by rw [hg];exact (zQ (by exact zB_ HB.out)):w.heap.size≤gb164));have n3_:=zA ((by rw [hg];exact (zQ (by exact zB_ HB.out)):w.heap.size≤gb164));clear HB;have HB:=n0_;have BK164:=n1_;have GW164:=n2_;have GE164:=n3_;clear n0_ n1_ n2_ n3_;clear hb hbox hg;have hcz11_0:w10.cell? ⟨gb164,0,none⟩ = some (.slice A0_0 l0_0.length c0_0):=(zT BK164.out 0).trans rfl;have hcz11_1:w10.cell? ⟨gb164,1,none⟩ = some (.slice A0_1 l0_1.length c0_1):=(zT BK164.out 1).trans rfl;have hfz11_0:=zZ BK164.out 0;have hfz11_1:=zZ BK164.out 1)|((with_reducible refine gate_callee (f:=33) rfl ?_);refine goesL_ (some 5) rfl rfl Try.func33 (by kernel_rfl) rfl #[.agg #[.slice A0_0 l0_0.length c0_0,.slice A0_1 l0_1.length c0_1]] rfl (by (try simp only [zJ,zM,zN]);first|done|rfl|(simp only [zL,zK];rfl)) ?_;(with_reducible refine (impl_MapValid.calls k (fun k_=>k_ < w.heap.size) _ _ l0_0 (fun k_=>k_ < w.heap.size) _ _ l0_1 false _ ?side1 ?side2 A2.out).mono ?_);(case side1=>exact Kd.V_mk HC0_0.out (Kd.F_below (Kd.C_F (Kd.heap_int .i64) HR0_0.out) (by repeat (first|(with_reducible first|exact HB.out|apply zD|apply zB|apply zC|refine zF ?_ GE164.out)|exact HB.out))));(case side2=>exact Kd.V_mk HC0_1.out (Kd.F_below (Kd.C_F (Kd.heap_int .i64) HR0_1.out) (by repeat (first|(with_reducible first|exact HB.out|apply zD|apply zB|apply zC|refine zF ?_ GE164.out)|exact HB.out))));rintro e w12 ⟨rfl,hb⟩;refine ⟨_,rfl,?_⟩;have n0_:=zA (zX (g:=gb164) (o:=.cells #[.slice A0_0 l0_0.length c0_0,.slice A0_1 l0_1.length c0_1] 27 (0,0)) (by (with_reducible repeat (first|refine zG ?_ _|refine zI ?_|refine zH ?_ _));exact BK164.out) hb);have n1_:=zA (zR (by repeat (first|(with_reducible first|exact HB.out|apply zD|apply zB|apply zC|refine zF ?_ GE164.out)|exact HB.out)) hb);clear BK164;clear HB;have BK164:=n0_;have HB:=n1_;clear n0_ n1_;(try clear hb);(try clear hb2);(try clear hk);(try clear hi)))
  go_ret2
  exact ⟨_,by first|rfl|(simp [errW_none,errW_some] <;> rfl)|(simp [*,errW_none,errW_some] <;> rfl),by first|exact Kd.R_nil _ _ _ _ _|exact Kd.N_nil _ _ _ _ _|exact Kd.V_nil _ _ _ _ _|exact Kd.Q_nil _ _ _ _ _|exact Kd.S_nil _ _ _ _ _,by repeat (first|(with_reducible first|exact HB.out|apply zD|apply zB|apply zC|refine zF ?_ GE164.out)|exact HB.out)⟩

/-! ### impl_cyclesOf: function 80 -/
mutual
def impl_cyclesOf.l0:Nat→List Int→List (List Int)→List Bool→Int→Int→Option ((List (List Int)))
 | 0,_,_,_,_,_=>none
 | k+1,x0,x3,x4,x13,x14=>if x14 < x13 then (impl_cyclesOf.l1 k x0 x3 x4 (([]:List Int)) x14 x13 x14) else (some x3)
def impl_cyclesOf.l1:Nat→List Int→List (List Int)→List Bool→List Int→Int→Int→Int→Option ((List (List Int)))
 | 0,_,_,_,_,_,_,_=>none
 | k+1,x0,x3,x4,x6,x7,x13,x14=>if 0≤x7 then (if x7 < (x4.length:Int) then (if rdOf false x4 x7 = true then (if (x6.length:Int) > 0 then (if x3.length < 5864062014805 then (impl_cyclesOf.l0 k x0 (x3 ++ [x6]) x4 x13 (wrap64 (x14+1))) else (none)) else (impl_cyclesOf.l0 k x0 x3 x4 x13 (wrap64 (x14+1)))) else (if x6.length < 17592186044416 then (if x7 < (x0.length:Int) then (impl_cyclesOf.l1 k x0 x3 (x4.set (x7:Int).toNat true) (x6 ++ [x7]) (rd x0 x7) x13 x14) else (none)) else (none))) else (none)) else (none)
end
def impl_cyclesOf.f (k:Nat) (l0:List Int):Option ((List (List Int))):=if 0≤(l0.length:Int) then (if ((l0.length:Int):Int).toNat≤281474976710656 then (impl_cyclesOf.l0 k l0 (([]:List (List Int))) (List.replicate ((l0.length:Int):Int).toNat false) (l0.length:Int) 0) else (none)) else (none)
theorem impl_cyclesOf.mono_l:∀ k,(∀ y0 y1 y2 y3 y4,LeO (impl_cyclesOf.l0 k y0 y1 y2 y3 y4) (impl_cyclesOf.l0 (k+1) y0 y1 y2 y3 y4))∧(∀ y0 y1 y2 y3 y4 y5 y6,LeO (impl_cyclesOf.l1 k y0 y1 y2 y3 y4 y5 y6) (impl_cyclesOf.l1 (k+1) y0 y1 y2 y3 y4 y5 y6))
 | 0=>⟨fun _ _ _ _ _ r h=>by simp [impl_cyclesOf.l0] at h,fun _ _ _ _ _ _ _ r h=>by simp [impl_cyclesOf.l1] at h⟩
 | k+1=>by
  obtain ⟨ih0,ih1⟩:=impl_cyclesOf.mono_l k
  refine ⟨?_,?_⟩
  ·intro y0 y1 y2 y3 y4
   unfold impl_cyclesOf.l0
   repeat' first
   | (with_reducible exact ih0 _ _ _ _ _)
   | (with_reducible exact ih1 _ _ _ _ _ _ _)
   | (with_reducible exact LeO.refl _)
   | (with_reducible exact za _)
   | (with_reducible refine zc ?_ ?_)
   | (with_reducible refine zb ?_ (fun _=>?_))
  ·intro y0 y1 y2 y3 y4 y5 y6
   unfold impl_cyclesOf.l1
   repeat' first
   | (with_reducible exact ih0 _ _ _ _ _)
   | (with_reducible exact ih1 _ _ _ _ _ _ _)
   | (with_reducible exact LeO.refl _)
   | (with_reducible exact za _)
   | (with_reducible refine zc ?_ ?_)
   | (with_reducible refine zb ?_ (fun _=>?_))
theorem impl_cyclesOf.mono:∀ a0 k,LeO (impl_cyclesOf.f k a0) (impl_cyclesOf.f (k+1) a0):=by
 intro a0 k
 obtain ⟨ih0,ih1⟩:=impl_cyclesOf.mono_l k
 unfold impl_cyclesOf.f
 repeat' first
   | (with_reducible exact ih0 _ _ _ _ _)
   | (with_reducible exact ih1 _ _ _ _ _ _ _)
   | (with_reducible exact LeO.refl _)
   | (with_reducible exact za _)
   | (with_reducible refine zc ?_ ?_)
   | (with_reducible refine zb ?_ (fun _=>?_))
set_option maxHeartbeats 8000000 in
set_option maxRecDepth 100000 in
theorem impl_cyclesOf.calls (k:Nat) (A0:Option Addr) (c0:Nat) (l0:List Int) (r:List (List Int)) (w:World) (hr0:Kd.C (Kd.int .i64) w A0 l0.length l0) (hc0:l0.length≤c0) (h:impl_cyclesOf.f k l0 = some r) :
  Calls Try.prog 80 #[.slice A0 l0.length c0] w fun e w' => ∃ v0_:Value,e = .returned (v0_)∧Kd.S (Kd.slice 3 (Kd.int .i64)) 23 w' w.heap.size (fun _=>True) v0_ r∧Below w.heap.size w w':=by
 have HR0:=zA hr0
 have HC0:=zA hc0
 clear hr0 hc0
 have HB:=zA (Below.refl w.heap.size w)
 have H:(if 0≤(l0.length:Int) then (if ((l0.length:Int):Int).toNat≤281474976710656 then (impl_cyclesOf.l0 k l0 (([]:List (List Int))) (List.replicate ((l0.length:Int):Int).toNat false) (l0.length:Int) 0) else (none)) else (none)) = some r:=h
 clear h
 obtain ⟨y169,hy169⟩:∃ y_:List (List Int),y_ = (([]:List (List Int))):=⟨_,rfl⟩
 replace H:(if 0≤(l0.length:Int) then (if ((l0.length:Int):Int).toNat≤281474976710656 then (impl_cyclesOf.l0 k l0 y169 (List.replicate ((l0.length:Int):Int).toNat false) (l0.length:Int) 0) else (none)) else (none)) = some r:=by (try rw [hy169]);first|with_reducible exact H|with_reducible exact zS_ H|exact H
 have Ny169:=zA hy169
 clear hy169
 by_cases c2:0≤(l0.length:Int)
 ·rw [if_pos c2] at H
  have c2b0:=eq_true c2
  have c2b1:decide (0≤(l0.length:Int)) = true:=zO c2
  clear c2
  by_cases c3:((l0.length:Int):Int).toNat≤281474976710656
  ·rw [if_pos c3] at H
   have c3b0:=eq_true c3
   have c3b1:decide (((l0.length:Int):Int).toNat≤281474976710656) = true:=zO c3
   clear c3
   obtain ⟨y172,hy172⟩:∃ y_:List Bool,y_ = (List.replicate ((l0.length:Int):Int).toNat false):=⟨_,rfl⟩
   replace H:(impl_cyclesOf.l0 k l0 y169 y172 (l0.length:Int) 0) = some r:=by (try rw [hy172]);first|with_reducible exact H|with_reducible exact zS_ H|exact H
   have Ny172:=zA hy172
   clear hy172
   have H':=zA H
   clear H
   go_enter Try.func80,Try.ntmps80
   go_wp2_with (first|((with_reducible refine gate_dst (N:=8) rfl ?_);refine Kd.S_lit (Kd.slice 3 (Kd.int .i64)) _ 23 ?hg (N:=8) ?hd (xs:=([]:List (List Int))) (inner:=[]) (ok:=fun _=>True) (okp:=fun _=>True) ?hr ?hp (fun _ hk=>hk) trivial (Below.refl _ _) (Nat.le_refl _) (by simp) ?_;(case hd=>rfl);(case hg=>rfl);(case hr=>first|(go_simp;done)|(go_simp;rfl));(case hp=>exact (Reps.none _ _));intro v170 w4 ho5 hb hg_ hnew_;clear hg_ hnew_;(first|rw [← Ny169.out] at ho5|(simp only [Int.reduceToNat] at ho5;rw [← Ny169.out] at ho5));have n0_:=zA (Kd.S_lower ho5 (zQ (by exact zB_ HB.out)));have n1_:=zA (zR (by exact zB_ HB.out) hb);clear HB;have HO171:=n0_;have HB:=n1_;clear n0_ n1_;clear hb ho5)|((with_reducible refine gate_dst (N:=11) rfl ?_);refine Kd.R_make Kd.bool _ 4 rfl (N:=11) rfl 85 _ _ rfl (l0.length:Int) rfl rfl Try.underlying85 (.bool false) 1 info4 rfl (by decide) (by omega) false (ok:=fun _=>True) (okp:=fun _=>True) rfl (fun _ hk=>hk) trivial (zE (by with_reducible assumption)) (Nat.le_trans (Nat.mul_le_mul_right _ (zE (by with_reducible assumption):(l0.length:Int).toNat≤281474976710656)) (by omega)) (Below.refl _ _) (Nat.le_refl _) ?_;intro v173 w6 ho7 hb hg_ hnew_;clear hg_ hnew_;(first|rw [← Ny172.out] at ho7|(simp only [Int.reduceToNat] at ho7;rw [← Ny172.out] at ho7));have n0_:=zA (Kd.S_below (by (with_reducible repeat (first|apply Kd.S_alloc|apply Kd.S_drewN|apply Kd.S_drew));exact HO171.out) hb);have n1_:=zA (ze ho7 (zQ (by exact zB_ HB.out)));have n2_:=zA (zR (by exact zB_ HB.out) hb);clear HO171;clear HB;have HO171:=n0_;have HO174:=n1_;have HB:=n2_;clear n0_ n1_ n2_;clear hb ho7))
   go_loopg [3,14] k (fun kq v3 v14 w' => ∃ (x3_1:List (List Int)) (x4_1:List Bool) (x14_1:Int),v14 = .int .i64 x14_1∧Aside0 (impl_cyclesOf.l0 kq l0 x3_1 x4_1 (l0.length:Int) x14_1 = some r)∧Aside0 (kq≤k)∧Aside0 (Kd.S (Kd.slice 3 (Kd.int .i64)) 23 w' w.heap.size (fun _=>True) v3 x3_1)∧Aside0 (Kd.R Kd.bool 4 w' w.heap.size (fun _=>True) v173 x4_1)∧Aside0 (Below w.heap.size w w'))
   case atStart=>exact ⟨(y169),(y172),(0),(by first|rfl|(simp;done)|(simp [*];done)),H',⟨Nat.le_refl _⟩,⟨by (with_reducible repeat (first|apply Kd.S_alloc|apply Kd.S_drewN|apply Kd.S_drew));exact HO171.out⟩,⟨by apply zR_;exact HO174.out⟩,⟨by exact zB_ HB.out⟩⟩
   case round =>
    clear H'
    (try clear c2);(try clear c2b0);(try clear c2b1);(try clear p2);(try clear c3);(try clear c3b0);(try clear c3b1)
    obtain ⟨x3_1,x4_1,x14_1,rfl,HA,HK1,HO_3,HO_4,HB⟩:=hrel
    cases gk with
    | zero=>exact absurd HA.out (by simp [impl_cyclesOf.l0])
    | succ k1 =>
     have H:=HA.out
     clear HA
     simp only [impl_cyclesOf.l0] at H
     by_cases c8:x14_1 < (l0.length:Int)
     ·rw [if_pos c8] at H
      have c8b0:decide (x14_1 < (l0.length:Int)) = true:=zO c8
      clear c8
      obtain ⟨y175,hy175⟩:∃ y_:List Int,y_ = (([]:List Int)):=⟨_,rfl⟩
      replace H:(impl_cyclesOf.l1 k1 l0 x3_1 x4_1 y175 x14_1 (l0.length:Int) x14_1) = some r:=by (try rw [hy175]);first|with_reducible exact H|with_reducible exact zS_ H|exact H
      have Ny175:=zA hy175
      clear hy175
      have H':=zA H
      clear H
      go_wp2_with (first|((with_reducible refine gate_dst (N:=17) rfl ?_);refine Kd.R_lit (Kd.int .i64) _ 3 ?hg (N:=17) ?hd (xs:=([]:List Int)) (inner:=[]) (ok:=fun _=>True) (okp:=fun _=>True) ?hr ?hp (fun _ hk=>hk) trivial (Below.refl _ _) (Nat.le_refl _) (by simp) ?_;(case hd=>rfl);(case hg=>rfl);(case hr=>first|(go_simp;done)|(go_simp;rfl));(case hp=>exact (Reps.none _ _));intro v176 w9 ho10 hb hg_ hnew_;clear hg_ hnew_;(first|rw [← Ny175.out] at ho10|(simp only [Int.reduceToNat] at ho10;rw [← Ny175.out] at ho10));have n0_:=zA (Kd.S_elder' (by (with_reducible repeat (first|apply Kd.S_alloc|apply Kd.S_drewN|apply Kd.S_drew));exact HO_3.out) (zd ho10) hb);have n1_:=zA (Kd.R_below (by apply zR_;exact HO_4.out) hb);have n2_:=zA (ze ho10 (zQ (by exact zB_ HB.out)));have n3_:=zA (zR (by exact zB_ HB.out) hb);clear HO_3;clear HO_4;clear HB;have HO_3:=n0_;have HO_4:=n1_;have HO177:=n2_;have HB:=n3_;clear n0_ n1_ n2_ n3_;clear hb ho10))
      generalize hq_:Addr.add _ _ = adq_
      clear hq_
      go_loopg [6,7] k1 (fun kq v6 v7 w' => ∃ (x4_2:List Bool) (x6_2:List Int) (x7_2:Int),v7 = .int .i64 x7_2∧Aside0 (impl_cyclesOf.l1 kq l0 x3_1 x4_2 x6_2 x7_2 (l0.length:Int) x14_1 = some r)∧Aside0 (kq≤k1)∧Aside0 (Kd.S (Kd.slice 3 (Kd.int .i64)) 23 w' w.heap.size (fun k_=>some k_≠(v6:Value).ownBlock) u3 x3_1)∧Aside0 (Kd.R Kd.bool 4 w' w.heap.size (fun _=>True) v173 x4_2)∧Aside0 (Kd.R (Kd.int .i64) 3 w' w.heap.size (fun _=>True) v6 x6_2)∧Aside0 (Below w.heap.size w w'))
      case atStart=>exact ⟨(x4_1),(y175),(x14_1),(by first|rfl|(simp;done)|(simp [*];done)),H',⟨Nat.le_refl _⟩,⟨by (with_reducible repeat (first|apply Kd.S_alloc|apply Kd.S_drewN|apply Kd.S_drew));exact Kd.S_mono HO_3.out (fun _ hk=>hk.2)⟩,⟨by apply zR_;exact HO_4.out⟩,⟨by apply zR_;exact HO177.out⟩,⟨by exact zB_ HB.out⟩⟩
      case round =>
       clear H'
       (try clear c2);(try clear c2b0);(try clear c2b1);(try clear p2);(try clear c3);(try clear c3b0);(try clear c3b1);(try clear c8);(try clear c8b0);(try clear p2)
       obtain ⟨x4_2,x6_2,x7_2,rfl,HA,HK2,HO_3,HO_4,HO_6,HB⟩:=hrel
       cases gk with
       | zero=>exact absurd HA.out (by simp [impl_cyclesOf.l1])
       | succ k2 =>
        have H:=HA.out
        clear HA
        simp only [impl_cyclesOf.l1] at H
        by_cases c11:0≤x7_2
        ·rw [if_pos c11] at H
         have c11b0:decide (0≤x7_2) = true:=zO c11
         clear c11
         by_cases c12:x7_2 < (x4_2.length:Int)
         ·rw [if_pos c12] at H
          have c12b0:decide (x7_2 < (x4_2.length:Int)) = true:=zO c12
          clear c12
          obtain ⟨bq13,hbq13⟩:∃ b_:Bool,b_ = (rdOf false x4_2 x7_2):=⟨_,rfl⟩
          replace H:(if bq13 = true then (if (x6_2.length:Int) > 0 then (if x3_1.length < 5864062014805 then (impl_cyclesOf.l0 k2 l0 (x3_1 ++ [x6_2]) x4_2 (l0.length:Int) (wrap64 (x14_1+1))) else (none)) else (impl_cyclesOf.l0 k2 l0 x3_1 x4_2 (l0.length:Int) (wrap64 (x14_1+1)))) else (if x6_2.length < 17592186044416 then (if x7_2 < (l0.length:Int) then (impl_cyclesOf.l1 k2 l0 x3_1 (x4_2.set (x7_2:Int).toNat true) (x6_2 ++ [x7_2]) (rd l0 x7_2) (l0.length:Int) x14_1) else (none)) else (none))) = some r:=by rw [← hbq13] at H;exact H
          have Nbq13:=zA hbq13
          clear hbq13
          by_cases c14:bq13 = true
          ·subst c14
           rw [if_pos rfl] at H;try dsimp only at H
           by_cases c15:(x6_2.length:Int) > 0
           ·rw [if_pos c15] at H
            have c15b0:decide (0 < (x6_2.length:Int)) = true:=zO c15
            have c15b1:decide (0 < x6_2.length) = true:=zO (by omega)
            clear c15
            by_cases c16:x3_1.length < 5864062014805
            ·rw [if_pos c16] at H
             have LMc16:=zA c16
             clear c16
             obtain ⟨y179,hy179⟩:∃ y_:List (List Int),y_ = (x3_1 ++ [x6_2]):=⟨_,rfl⟩
             replace H:(impl_cyclesOf.l0 k2 l0 y179 x4_2 (l0.length:Int) (wrap64 (x14_1+1))) = some r:=by (try rw [hy179]);first|with_reducible exact H|with_reducible exact zS_ H|exact H
             have Ny179:=zA hy179
             clear hy179
             have H':=zA H
             clear H
             obtain ⟨Ao17,co17,eo17⟩:=zg HO_4.out
             subst eo17
             have p178:0≤(x7_2:Int):=zE (by with_reducible assumption)
             have q178:x7_2 < (x4_2.length:Int):=zE (by with_reducible assumption)
             obtain ⟨ad178,e178,hx178_0⟩:=Kd.at_bool (zU HO_4.out).2.2 x7_2 p178 q178
             (try rw [← Nbq13.out] at hx178_0)
             cases e178
             replace p178:=eq_true p178
             replace q178:=eq_true q178
             obtain ⟨Ao18,co18,eo18⟩:=zg HO_6.out
             subst eo18
             go_wp2_with (first|((with_reducible refine gate_builtin (b:=.append) (xs:=#[.tmp 38,.tmp 40]) rfl ?_);at_builtin;refine Kd.S_append (Kd.slice 3 (Kd.int .i64)) (w0:=w) w.heap.size rfl (.tmp 38) (.tmp 40) 57 23 (.slice none 0 0) 24 rfl Try.underlying57 info23 rfl (by decide) (by omega) u3 x3_1 x6_2 [.slice Ao18 x6_2.length co18] (fun _=>True) (fun k_=>some k_ = (.slice Ao18 x6_2.length co18:Value).ownBlock) rfl rfl ?aP (fun k_ hk_=>((zV (ok':=fun k_=>((fun _=>True)) k_∧some k_≠(u3:Value).ownBlock) (Kd.R_apart' (HO_6.out) (Kd.S_typed HO_3.out) (by decide)) (fun k_ hk=>⟨trivial,hk.2⟩))).1 k_ hk_.symm) ?aF ?aO ?aB ?aS ?aL ?_;(case aP=>exact Kd.M_row (zV (Kd.R_tight rfl (zV (ok':=fun k_=>((fun _=>True)) k_∧some k_≠(u3:Value).ownBlock) (Kd.R_apart' (HO_6.out) (Kd.S_typed HO_3.out) (by decide)) (fun k_ hk=>⟨trivial,hk.2⟩))) (fun _ h_=>h_)));(case aB=>exact (by exact zB_ HB.out));(case aF=>exact (fun _ _=>trivial));(case aO=>exact (by (with_reducible repeat (first|apply Kd.S_alloc|apply Kd.S_drewN|apply Kd.S_drew));exact Kd.S_mono HO_3.out (fun k_ hk=>⟨trivial,fun e_=>hk e_⟩)));(case aS=>exact (zQ (by exact zB_ HB.out)));(case aL=>have:=LMc16.out;omega);intro v180 w19 ho hb hg hat;rw [← Ny179.out] at ho;have n0_:=zA (Kd.R_over' (by apply zR_;exact HO_4.out) (Kd.S_typed (by (with_reducible repeat (first|apply Kd.S_alloc|apply Kd.S_drewN|apply Kd.S_drew));exact HO_3.out)) (by decide) hg);have n1_:=zA (hb);have n2_:=zA (ho);clear HO_4;clear HB;clear HO_3;clear HO_6;have HO_4:=n0_;have HB:=n1_;have HO181:=n2_;clear n0_ n1_ n2_;clear ho hb hg hat))
             go_roundg k2
             case measure=>have:=HK1.out;have:=HK2.out;omega
             case rel=>exact ⟨(y179),(x4_2),(wrap64 (x14_1+1)),(by first|rfl|(simp;done)|(simp [*];done)),H',⟨by have:=HK1.out;have:=HK2.out;omega⟩,⟨by (with_reducible repeat (first|apply Kd.S_alloc|apply Kd.S_drewN|apply Kd.S_drew));exact HO181.out⟩,⟨by apply zR_;exact HO_4.out⟩,⟨by exact zB_ HB.out⟩⟩
            ·rw [if_neg c16] at H
             exact absurd H (by simp)
           ·rw [if_neg c15] at H
            have c15b0:decide (0 < (x6_2.length:Int)) = false:=zP c15
            have c15b1:decide (0 < x6_2.length) = false:=zP (by omega)
            clear c15
            have H':=zA H
            clear H
            obtain ⟨Ao20,co20,eo20⟩:=zg HO_4.out
            subst eo20
            have p178:0≤(x7_2:Int):=zE (by with_reducible assumption)
            have q178:x7_2 < (x4_2.length:Int):=zE (by with_reducible assumption)
            obtain ⟨ad178,e178,hx178_0⟩:=Kd.at_bool (zU HO_4.out).2.2 x7_2 p178 q178
            (try rw [← Nbq13.out] at hx178_0)
            cases e178
            replace p178:=eq_true p178
            replace q178:=eq_true q178
            obtain ⟨Ao21,co21,eo21⟩:=zg HO_6.out
            subst eo21
            go_wp2
            go_roundg k2
            case measure=>have:=HK1.out;have:=HK2.out;omega
            case rel=>exact ⟨(x3_1),(x4_2),(wrap64 (x14_1+1)),(by first|rfl|(simp;done)|(simp [*];done)),H',⟨by have:=HK1.out;have:=HK2.out;omega⟩,⟨by (with_reducible repeat (first|apply Kd.S_alloc|apply Kd.S_drewN|apply Kd.S_drew));exact Kd.S_mono HO_3.out (fun _ hk=>trivial)⟩,⟨by apply zR_;exact HO_4.out⟩,⟨by exact zB_ HB.out⟩⟩
          ·replace c14:=Bool.eq_false_iff.mpr c14
           subst c14
           have H1:(if x6_2.length < 17592186044416 then (if x7_2 < (l0.length:Int) then (impl_cyclesOf.l1 k2 l0 x3_1 (x4_2.set (x7_2:Int).toNat true) (x6_2 ++ [x7_2]) (rd l0 x7_2) (l0.length:Int) x14_1) else (none)) else (none)) = some r:=by rw [if_neg (show ¬ (false = true) by decide)] at H;exact H
           clear H
           have H:=H1
           clear H1
           obtain ⟨y182,hy182⟩:∃ y_:List Bool,y_ = (x4_2.set (x7_2:Int).toNat true):=⟨_,rfl⟩
           replace H:(if x6_2.length < 17592186044416 then (if x7_2 < (l0.length:Int) then (impl_cyclesOf.l1 k2 l0 x3_1 y182 (x6_2 ++ [x7_2]) (rd l0 x7_2) (l0.length:Int) x14_1) else (none)) else (none)) = some r:=by (try rw [hy182]);first|with_reducible exact H|with_reducible exact zS_ H|exact H
           have Ny182:=zA hy182
           clear hy182
           by_cases c23:x6_2.length < 17592186044416
           ·rw [if_pos c23] at H
            have LMc23:=zA c23
            clear c23
            obtain ⟨y183,hy183⟩:∃ y_:List Int,y_ = (x6_2 ++ [x7_2]):=⟨_,rfl⟩
            replace H:(if x7_2 < (l0.length:Int) then (impl_cyclesOf.l1 k2 l0 x3_1 y182 y183 (rd l0 x7_2) (l0.length:Int) x14_1) else (none)) = some r:=by (try rw [hy183]);first|with_reducible exact H|with_reducible exact zS_ H|exact H
            have Ny183:=zA hy183
            clear hy183
            by_cases c24:x7_2 < (l0.length:Int)
            ·rw [if_pos c24] at H
             have c24b0:decide (x7_2 < (l0.length:Int)) = true:=zO c24
             clear c24
             have H':=zA H
             clear H
             obtain ⟨Ao25,co25,eo25⟩:=zg HO_4.out
             subst eo25
             have p178:0≤(x7_2:Int):=zE (by with_reducible assumption)
             have q178:x7_2 < (x4_2.length:Int):=zE (by with_reducible assumption)
             obtain ⟨ad178,e178,hx178_0⟩:=Kd.at_bool (zU HO_4.out).2.2 x7_2 p178 q178
             (try rw [← Nbq13.out] at hx178_0)
             cases e178
             replace p178:=eq_true p178
             replace q178:=eq_true q178
             have p22:0≤(x7_2:Int):=zE (by with_reducible assumption)
             have q22:(x7_2:Int) < ((x4_2.length:Int):Int):=zE (by with_reducible assumption)
             obtain ⟨go22,co22,eo22,gb22,gl22,cl22,HG22⟩:=Kd.R_form HO_4.out (by omega)
             (first|cases eo22|(injection eo22 with ea_ en_ ec_;(first|subst ea_|(injection ea_ with ea_;subst ea_));subst ec_;clear en_))
             have GB22:=zA gb22
             have GG22:=zA HG22
             clear gb22 gl22 HG22
             (first|simp only [add_plain] at hx178_0|skip)
             obtain ⟨hx22_0,hf22_0⟩:=Kd.R_celln false HO_4.out (x7_2:Int) p22 q22
             replace p22:=eq_true p22
             replace q22:=eq_true q22
             have HP26:=Kd.R_putg HO_4.out (x7_2:Int) true
             go_wp2_with (first|((with_reducible refine gate_store (t:=4) (p:=30) rfl ?_);refine store_event (t:=4) (p:=30) (v:=?vo_w27) (w1:=(wr.setCell ⟨go22,(x7_2:Int).toNat,none⟩ (.bool true))) ?hg ?ho ?hn ?hr ?_;(case ho=>rfl);(case hg=>rfl);(case hn=>rfl);(case hr=>first|(go_simp;done)|(go_simp;rfl));intro w27 hw;have hg:wr.grownBy w27 (some go22):=(by rw [hw];exact HP26.2);have hp_:Kd.R Kd.bool 4 w27 w.heap.size (fun _=>True) (.slice (some ⟨go22,0,none⟩) x4_2.length co25) y182:=(by rw [hw,Ny182.out];exact HP26.1);clear HP26;have n0_:=zA (Kd.S_over' (v:=(.slice (some ⟨go22,0,none⟩) x4_2.length co25)) (by (with_reducible repeat (first|apply Kd.S_alloc|apply Kd.S_drewN|apply Kd.S_drew));exact HO_3.out) (Kd.R_typed HO_4.out) (by decide) hg);have n1_:=zA (hp_);have n2_:=zA (Kd.R_over' (v:=(.slice (some ⟨go22,0,none⟩) x4_2.length co25)) (by apply zR_;exact HO_6.out) (Kd.R_typed HO_4.out) (by decide) hg);have n3_:=zA ((by rw [hw];exact zF (HB.out) GB22.out:Below w.heap.size w w27));clear HO_3;clear HO_4;clear HO_6;clear HB;have HO_3:=n0_;have HO_4:=n1_;have HO_6:=n2_;have HB:=n3_;clear n0_ n1_ n2_ n3_;clear hg hw hp_)|((with_reducible refine gate_builtin (b:=.append) (xs:=#[.tmp 31,.tmp 33]) rfl ?_);at_builtin;refine Kd.R_append (Kd.int .i64) (w0:=w) w.heap.size rfl (.tmp 31) (.tmp 33) 23 3 (.int .i64 0) 8 rfl Try.underlying23 info3 rfl (by decide) (by omega) u6 x6_2 x7_2 [.int .i64 x7_2] (fun _=>True) (fun _=>False) rfl rfl ?aP (fun _ hk=>hk.elim) ?aF ?aO ?aB ?aS ?aL ?_;(case aP=>exact rfl);(case aB=>exact (by exact zB_ HB.out));(case aF=>exact (fun _ _=>trivial));(case aO=>exact (by apply zR_;exact HO_6.out));(case aS=>exact (zQ (by exact zB_ HB.out)));(case aL=>have:=LMc23.out;omega);intro v184 w28 ho hb hg hat;rw [← Ny183.out] at ho;have n0_:=zA (Kd.S_after (ok:=(fun _=>True)) (by (with_reducible repeat (first|apply Kd.S_alloc|apply Kd.S_drewN|apply Kd.S_drew));exact Kd.S_mono HO_3.out (fun _ hk=>⟨trivial,hk⟩)) hg hat);have n1_:=zA (Kd.R_over' (by apply zR_;exact HO_4.out) (Kd.R_typed (by apply zR_;exact HO_6.out)) (by decide) hg);have n2_:=zA (hb);have n3_:=zA (ho);clear HO_3;clear HO_4;clear HB;clear HO_6;have HO_3:=n0_;have HO_4:=n1_;have HB:=n2_;have HO185:=n3_;clear n0_ n1_ n2_ n3_;clear ho hb hg hat;have p186:0≤(x7_2:Int):=zE (by with_reducible assumption);have q186:x7_2 < (l0.length:Int):=zE (by with_reducible assumption);obtain ⟨ad186,e186,hx186_0⟩:=Kd.at_int HR0.out x7_2 p186 q186;cases e186;replace hx186_0:=(HB.out.cell (zY w _ hx186_0)).trans hx186_0;replace p186:=eq_true p186;replace q186:=eq_true q186))
             go_roundg k2
             case measure=>have:=HK1.out;have:=HK2.out;omega
             case rel=>exact ⟨(y182),(y183),(rd l0 x7_2),(by first|rfl|(simp;done)|(simp [*];done)),H',⟨by have:=HK1.out;have:=HK2.out;omega⟩,⟨by (with_reducible repeat (first|apply Kd.S_alloc|apply Kd.S_drewN|apply Kd.S_drew));exact Kd.S_mono HO_3.out (fun _ hk=>hk.2)⟩,⟨by apply zR_;exact HO_4.out⟩,⟨by apply zR_;exact HO185.out⟩,⟨by exact zB_ HB.out⟩⟩
            ·rw [if_neg c24] at H
             exact absurd H (by simp)
           ·rw [if_neg c23] at H
            exact absurd H (by simp)
         ·rw [if_neg c12] at H
          exact absurd H (by simp)
        ·rw [if_neg c11] at H
         exact absurd H (by simp)
     ·rw [if_neg c8] at H
      have c8b0:decide (x14_1 < (l0.length:Int)) = false:=zP c8
      clear c8
      obtain rfl:=zS H
      go_wp2
      go_ret
      exact ⟨_,by first|rfl|(simp [errW_none,errW_some] <;> rfl)|(simp [*,errW_none,errW_some] <;> rfl),by (with_reducible repeat (first|apply Kd.S_alloc|apply Kd.S_drewN|apply Kd.S_drew));exact HO_3.out,by exact zB_ HB.out⟩
  ·rw [if_neg c3] at H
   exact absurd H (by simp)
 ·rw [if_neg c2] at H
  exact absurd H (by simp)

/-! ### impl_GluingOf: function 24 -/
mutual
def impl_GluingOf.j0:Nat→Int→List Int→Bool→List Int→List Int→Option (List Int × Bool)
 | 0,_,_,_,_,_=>none
 | k+1,x1,x6,x41,x188000,x188001=>if x41 = true then (some (([]:List Int),false)) else (if 0≤(x6.length:Int) then (if ((x6.length:Int):Int).toNat≤35184372088832 then (impl_GluingOf.l0 k x6 (List.replicate ((x6.length:Int):Int).toNat 0) (([]:List Int)) x1 x188000 x188001) else (none)) else (none))
def impl_GluingOf.l0:Nat→List Int→List Int→List Int→Int→List Int→List Int→Option (List Int × Bool)
 | 0,_,_,_,_,_,_=>none
 | k+1,x6,x8,x9,x10,x188000,x188001=>if (x9.length:Int) < (x6.length:Int) then (if 0≤x10 then (if x10 < (x8.length:Int) then (if x9.length < 17592186044416 then (if x10 < (x6.length:Int) then (impl_GluingOf.l0 k x6 (x8.set (x10:Int).toNat (x9.length:Int)) (x9 ++ [x10]) (rd x6 x10) x188000 x188001) else (none)) else (none)) else (none)) else (none)) else (impl_GluingOf.l1 k x8 (([]:List Int)) x9 (x9.length:Int) 0 x188000 x188001)
def impl_GluingOf.l1:Nat→List Int→List Int→List Int→Int→Int→List Int→List Int→Option (List Int × Bool)
 | 0,_,_,_,_,_,_,_=>none
 | k+1,x8,x11,x66,x67,x68,x188000,x188001=>if x68 < x67 then (if 0≤x68 then (if x68 < (x66.length:Int) then (if 0≤(rd x66 x68) then (if (rd x66 x68) < (x188001.length:Int) then (if 0≤(rd x188001 (rd x66 x68)) then (if (rd x188001 (rd x66 x68)) < (x8.length:Int) then (if x11.length < 17592186044416 then (impl_GluingOf.l1 k x8 (x11 ++ [rd x8 (rd x188001 (rd x66 x68))]) x66 x67 (wrap64 (x68+1)) x188000 x188001) else (none)) else (none)) else (none)) else (none)) else (none)) else (none)) else (none)) else (some (x11,true))
end
def impl_GluingOf.f (k:Nat) (l0_0:List Int) (l0_1:List Int) (a1:Int):Option (List Int × Bool):=(impl_MapFaces.f k l0_0 l0_1).bind fun bt188=>(if bt188.2 = true then ((impl_cyclesOf.f k bt188.1).bind fun t192=>(if (t192.length:Int) = 1 then (if (bt188.1.length:Int) > 10 then (impl_GluingOf.j0 k a1 bt188.1 true l0_0 l0_1) else (if a1 < 0 then (impl_GluingOf.j0 k a1 bt188.1 true l0_0 l0_1) else (impl_GluingOf.j0 k a1 bt188.1 (decide (a1 ≥ (bt188.1.length:Int))) l0_0 l0_1))) else (impl_GluingOf.j0 k a1 bt188.1 true l0_0 l0_1))) else (impl_GluingOf.j0 k a1 bt188.1 true l0_0 l0_1))
theorem impl_GluingOf.mono_l:∀ k,(∀ y0 y1 y2 y3 y4,LeO (impl_GluingOf.j0 k y0 y1 y2 y3 y4) (impl_GluingOf.j0 (k+1) y0 y1 y2 y3 y4))∧(∀ y0 y1 y2 y3 y4 y5,LeO (impl_GluingOf.l0 k y0 y1 y2 y3 y4 y5) (impl_GluingOf.l0 (k+1) y0 y1 y2 y3 y4 y5))∧(∀ y0 y1 y2 y3 y4 y5 y6,LeO (impl_GluingOf.l1 k y0 y1 y2 y3 y4 y5 y6) (impl_GluingOf.l1 (k+1) y0 y1 y2 y3 y4 y5 y6))
 | 0=>⟨fun _ _ _ _ _ r h=>by simp [impl_GluingOf.j0] at h,fun _ _ _ _ _ _ r h=>by simp [impl_GluingOf.l0] at h,fun _ _ _ _ _ _ _ r h=>by simp [impl_GluingOf.l1] at h⟩
 | k+1=>by
  obtain ⟨ih0,ih1,ih2⟩:=impl_GluingOf.mono_l k
  refine ⟨?_,?_,?_⟩
  ·intro y0 y1 y2 y3 y4
   unfold impl_GluingOf.j0
   repeat' first
   | (with_reducible exact ih0 _ _ _ _ _)
   | (with_reducible exact ih1 _ _ _ _ _ _)
   | (with_reducible exact ih2 _ _ _ _ _ _ _)
   | (with_reducible exact impl_MapFaces.mono _ _ _)
   | (with_reducible exact impl_cyclesOf.mono _ _)
   | (with_reducible exact LeO.refl _)
   | (with_reducible exact za _)
   | (with_reducible refine zc ?_ ?_)
   | (with_reducible refine zb ?_ (fun _=>?_))
  ·intro y0 y1 y2 y3 y4 y5
   unfold impl_GluingOf.l0
   repeat' first
   | (with_reducible exact ih0 _ _ _ _ _)
   | (with_reducible exact ih1 _ _ _ _ _ _)
   | (with_reducible exact ih2 _ _ _ _ _ _ _)
   | (with_reducible exact impl_MapFaces.mono _ _ _)
   | (with_reducible exact impl_cyclesOf.mono _ _)
   | (with_reducible exact LeO.refl _)
   | (with_reducible exact za _)
   | (with_reducible refine zc ?_ ?_)
   | (with_reducible refine zb ?_ (fun _=>?_))
  ·intro y0 y1 y2 y3 y4 y5 y6
   unfold impl_GluingOf.l1
   repeat' first
   | (with_reducible exact ih0 _ _ _ _ _)
   | (with_reducible exact ih1 _ _ _ _ _ _)
   | (with_reducible exact ih2 _ _ _ _ _ _ _)
   | (with_reducible exact impl_MapFaces.mono _ _ _)
   | (with_reducible exact impl_cyclesOf.mono _ _)
   | (with_reducible exact LeO.refl _)
   | (with_reducible exact za _)
   | (with_reducible refine zc ?_ ?_)
   | (with_reducible refine zb ?_ (fun _=>?_))
theorem impl_GluingOf.mono:∀ a0 a1 a2 k,LeO (impl_GluingOf.f k a0 a1 a2) (impl_GluingOf.f (k+1) a0 a1 a2):=by
 intro a0 a1 a2 k
 obtain ⟨ih0,ih1,ih2⟩:=impl_GluingOf.mono_l k
 unfold impl_GluingOf.f
 repeat' first
   | (with_reducible exact ih0 _ _ _ _ _)
   | (with_reducible exact ih1 _ _ _ _ _ _)
   | (with_reducible exact ih2 _ _ _ _ _ _ _)
   | (with_reducible exact impl_MapFaces.mono _ _ _)
   | (with_reducible exact impl_cyclesOf.mono _ _)
   | (with_reducible exact LeO.refl _)
   | (with_reducible exact za _)
   | (with_reducible refine zc ?_ ?_)
   | (with_reducible refine zb ?_ (fun _=>?_))
set_option maxHeartbeats 8000000 in
set_option maxRecDepth 100000 in
theorem impl_GluingOf.calls (k:Nat) (A0_0:Option Addr) (c0_0:Nat) (l0_0:List Int) (A0_1:Option Addr) (c0_1:Nat) (l0_1:List Int) (a1:Int) (r1:List Int) (r2:Bool) (w:World) (hr0_0:Kd.C (Kd.int .i64) w A0_0 l0_0.length l0_0) (hc0_0:l0_0.length≤c0_0) (hr0_1:Kd.C (Kd.int .i64) w A0_1 l0_1.length l0_1) (hc0_1:l0_1.length≤c0_1) (h:impl_GluingOf.f k l0_0 l0_1 a1 = some (r1,r2)) :
  Calls Try.prog 24 #[.agg #[.slice A0_0 l0_0.length c0_0,.slice A0_1 l0_1.length c0_1],.int .i64 a1] w fun e w' => ∃ v0_:Value,e = .returned (.tuple #[v0_,.bool r2])∧Kd.R (Kd.int .i64) 3 w' w.heap.size (fun _=>True) v0_ r1∧Below w.heap.size w w':=by
 have hu27:=Try.underlying27
 have HR0_0:=zA hr0_0
 have HC0_0:=zA hc0_0
 clear hr0_0 hc0_0
 have HR0_1:=zA hr0_1
 have HC0_1:=zA hc0_1
 clear hr0_1 hc0_1
 have HB:=zA (Below.refl w.heap.size w)
 have H:((impl_MapFaces.f k l0_0 l0_1).bind fun bt188=>(if bt188.2 = true then ((impl_cyclesOf.f k bt188.1).bind fun t192=>(if (t192.length:Int) = 1 then (if (bt188.1.length:Int) > 10 then (impl_GluingOf.j0 k a1 bt188.1 true l0_0 l0_1) else (if a1 < 0 then (impl_GluingOf.j0 k a1 bt188.1 true l0_0 l0_1) else (impl_GluingOf.j0 k a1 bt188.1 (decide (a1 ≥ (bt188.1.length:Int))) l0_0 l0_1))) else (impl_GluingOf.j0 k a1 bt188.1 true l0_0 l0_1))) else (impl_GluingOf.j0 k a1 bt188.1 true l0_0 l0_1))) = some (r1,r2):=h
 clear h
 replace H:=zz0 H
 obtain ⟨⟨t188,t191⟩,A30,H⟩:=H
 try dsimp only at H
 have A3:=zA A30
 clear A30
 have HC4:=zA H
 clear H
 go_enter Try.func24,Try.ntmps24
 go_upto_region 2 with (first|((with_reducible refine gate_dst (N:=2) rfl ?_);(try (refine gate_guard (by rfl) ?_;dsimp only));refine box_event ?hg (N:=2) ?hd (cs:=#[.slice A0_0 l0_0.length c0_0,.slice A0_1 l0_1.length c0_1]) (t:=27) ?hr ?_;(case hd=>rfl);(case hg=>rfl);(case hr=>first|(go_simp;done)|(go_simp;rfl));intro gb187 hg w5 hbox hb;have n0_:=zA (zR (by exact zB_ HB.out) hb);have n1_:=zA (hbox);have n2_:=zA ((by rw [hg];exact (zQ (by exact zB_ HB.out)):w.heap.size≤gb187));have n3_:=zA ((by rw [hg];exact (zQ (by exact zB_ HB.out)):w.heap.size≤gb187));clear HB;have HB:=n0_;have BK187:=n1_;have GW187:=n2_;have GE187:=n3_;clear n0_ n1_ n2_ n3_;clear hb hbox hg;have hcz6_0:w5.cell? ⟨gb187,0,none⟩ = some (.slice A0_0 l0_0.length c0_0):=(zT BK187.out 0).trans rfl;have hcz6_1:w5.cell? ⟨gb187,1,none⟩ = some (.slice A0_1 l0_1.length c0_1):=(zT BK187.out 1).trans rfl;have hfz6_0:=zZ BK187.out 0;have hfz6_1:=zZ BK187.out 1)|((with_reducible refine gate_callee (f:=36) rfl ?_);refine goesL_ (some 16) rfl rfl Try.func36 (by kernel_rfl) rfl #[.agg #[.slice A0_0 l0_0.length c0_0,.slice A0_1 l0_1.length c0_1]] rfl (by (try simp only [zJ,zM,zN]);first|done|rfl|(simp only [zL,zK];rfl)) ?_;(with_reducible refine (impl_MapFaces.calls k _ _ l0_0 _ _ l0_1 t188 t191 _ ?side1 ?side2 ?side3 ?side4 A3.out).mono ?_);(case side1=>repeat (first|exact (zW HR0_0.out HB.out)|(with_reducible exact HR0_0.out)|apply zC_));(case side2=>exact HC0_0.out);(case side3=>repeat (first|exact (zW HR0_1.out HB.out)|(with_reducible exact HR0_1.out)|apply zC_));(case side4=>exact HC0_1.out);rintro e w7 ⟨v189,rfl,ho0,hb⟩;refine ⟨_,rfl,?_⟩;have n0_:=zA (ze ho0 (zQ (by repeat (first|(with_reducible first|exact HB.out|apply zD|apply zB|apply zC|refine zF ?_ GE187.out)|exact HB.out))));have n1_:=zA (zX (g:=gb187) (o:=.cells #[.slice A0_0 l0_0.length c0_0,.slice A0_1 l0_1.length c0_1] 27 (0,0)) (by (with_reducible repeat (first|refine zG ?_ _|refine zI ?_|refine zH ?_ _));exact BK187.out) hb);have n2_:=zA (zR (by repeat (first|(with_reducible first|exact HB.out|apply zD|apply zB|apply zC|refine zF ?_ GE187.out)|exact HB.out)) hb);clear BK187;clear HB;have HO190:=n0_;have BK187:=n1_;have HB:=n2_;clear n0_ n1_ n2_;(try clear hb);(try clear hb2);(try clear hk);(try clear hi);(try clear ho0)))
 (try simp only [Act.put,zP_])
 go_cut [41] (fun v41 wc => ∃ (kq:Nat) (x41_3:Bool),v41 = .bool x41_3∧Aside0 (impl_GluingOf.j0 kq a1 t188 x41_3 l0_0 l0_1 = some (r1,r2))∧Aside0 (kq≤k)∧Aside0 (Kd.R (Kd.int .i64) 3 wc w.heap.size (fun _=>True) v189 t188)∧Aside0 (wc.heap[gb187]? = some (.cells #[(.slice A0_0 l0_0.length c0_0),(.slice A0_1 l0_1.length c0_1)] 27 (0,0)))∧Aside0 (Below w.heap.size w wc))
 case first =>
  have H:=HC4.out
  clear HC4
  by_cases c8:t191 = true
  ·subst c8
   rw [if_pos rfl] at H;try dsimp only at H
   replace H:=zz0 H
   obtain ⟨t192,A90,H⟩:=H
   try dsimp only at H
   have A9:=zA A90
   clear A90
   by_cases c10:(t192.length:Int) = 1
   ·rw [if_pos c10] at H
    have c10b0:((t192.length:Int) == 1) = true:=beq_iff_eq.mpr c10
    have c10b1:((t192.length:Int) != 1) = false:=bne_eq_false_iff_eq.mpr c10
    clear c10
    (first|rw [c10b0]|(simp only [i64_w,i32_w];rw [c10b0])|skip)
    by_cases c11:(t188.length:Int) > 10
    ·rw [if_pos c11] at H
     have c11b0:decide (10 < (t188.length:Int)) = true:=zO c11
     have c11b1:decide (10 < t188.length) = true:=zO (by omega)
     clear c11
     have H':=zA H
     clear H
     obtain ⟨Ao12,co12,eo12⟩:=zg HO190.out
     subst eo12
     go_wp2_with (first|(go_at_call 80;(with_reducible refine (impl_cyclesOf.calls k _ _ t188 t192 _ ?side1 ?side2 A9.out).mono ?_);(case side1=>repeat (first|exact (zU HO190.out).2.2|apply zC_));(case side2=>exact (zU HO190.out).2.1);rintro e w13 ⟨v193,rfl,ho0,hb⟩;have n0_:=zA (Kd.R_below (by apply zR_;exact HO190.out) hb);have n1_:=zA (Kd.S_lower (Kd.S_new' ho0 (Kd.R_lt (by apply zR_;exact HO190.out))) (zQ (by repeat (first|(with_reducible first|exact HB.out|apply zD|apply zB|apply zC|refine zF ?_ GE187.out)|exact HB.out))));have n2_:=zA (zX (g:=gb187) (o:=.cells #[.slice A0_0 l0_0.length c0_0,.slice A0_1 l0_1.length c0_1] 27 (0,0)) (by (with_reducible repeat (first|refine zG ?_ _|refine zI ?_|refine zH ?_ _));exact BK187.out) hb);have n3_:=zA (zR (by repeat (first|(with_reducible first|exact HB.out|apply zD|apply zB|apply zC|refine zF ?_ GE187.out)|exact HB.out)) hb);clear HO190;clear BK187;clear HB;have HO190:=n0_;have HO194:=n1_;have BK187:=n2_;have HB:=n3_;clear n0_ n1_ n2_ n3_;(try clear hb);(try clear hb2);(try clear hk);(try clear hi);(try clear ho0);obtain ⟨Ao14,co14,eo14⟩:=Kd.S_slice HO194.out;subst eo14))
     go_meet
     case rel=>exact ⟨_,(true),(by first|rfl|(simp;done)|(simp [*];done)),H',⟨by first|omega|exact Nat.le_refl _⟩,⟨by apply zR_;exact HO190.out⟩,⟨by (with_reducible repeat (first|refine zG ?_ _|refine zI ?_|refine zH ?_ _));exact BK187.out⟩,⟨by repeat (first|(with_reducible first|exact HB.out|apply zD|apply zB|apply zC|refine zF ?_ GE187.out)|exact HB.out)⟩⟩
    ·rw [if_neg c11] at H
     have c11b0:decide (10 < (t188.length:Int)) = false:=zP c11
     have c11b1:decide (10 < t188.length) = false:=zP (by omega)
     clear c11
     by_cases c15:a1 < 0
     ·rw [if_pos c15] at H
      have c15b0:decide (a1 < 0) = true:=zO c15
      clear c15
      have H':=zA H
      clear H
      obtain ⟨Ao16,co16,eo16⟩:=zg HO190.out
      subst eo16
      go_wp2_with (first|(go_at_call 80;(with_reducible refine (impl_cyclesOf.calls k _ _ t188 t192 _ ?side1 ?side2 A9.out).mono ?_);(case side1=>repeat (first|exact (zU HO190.out).2.2|apply zC_));(case side2=>exact (zU HO190.out).2.1);rintro e w17 ⟨v193,rfl,ho0,hb⟩;have n0_:=zA (Kd.R_below (by apply zR_;exact HO190.out) hb);have n1_:=zA (Kd.S_lower (Kd.S_new' ho0 (Kd.R_lt (by apply zR_;exact HO190.out))) (zQ (by repeat (first|(with_reducible first|exact HB.out|apply zD|apply zB|apply zC|refine zF ?_ GE187.out)|exact HB.out))));have n2_:=zA (zX (g:=gb187) (o:=.cells #[.slice A0_0 l0_0.length c0_0,.slice A0_1 l0_1.length c0_1] 27 (0,0)) (by (with_reducible repeat (first|refine zG ?_ _|refine zI ?_|refine zH ?_ _));exact BK187.out) hb);have n3_:=zA (zR (by repeat (first|(with_reducible first|exact HB.out|apply zD|apply zB|apply zC|refine zF ?_ GE187.out)|exact HB.out)) hb);clear HO190;clear BK187;clear HB;have HO190:=n0_;have HO194:=n1_;have BK187:=n2_;have HB:=n3_;clear n0_ n1_ n2_ n3_;(try clear hb);(try clear hb2);(try clear hk);(try clear hi);(try clear ho0);obtain ⟨Ao18,co18,eo18⟩:=Kd.S_slice HO194.out;subst eo18))
      go_meet
      case rel=>exact ⟨_,(true),(by first|rfl|(simp;done)|(simp [*];done)),H',⟨by first|omega|exact Nat.le_refl _⟩,⟨by apply zR_;exact HO190.out⟩,⟨by (with_reducible repeat (first|refine zG ?_ _|refine zI ?_|refine zH ?_ _));exact BK187.out⟩,⟨by repeat (first|(with_reducible first|exact HB.out|apply zD|apply zB|apply zC|refine zF ?_ GE187.out)|exact HB.out)⟩⟩
     ·rw [if_neg c15] at H
      have c15b0:decide (a1 < 0) = false:=zP c15
      clear c15
      have H':=zA H
      clear H
      obtain ⟨Ao19,co19,eo19⟩:=zg HO190.out
      subst eo19
      go_wp2_with (first|(go_at_call 80;(with_reducible refine (impl_cyclesOf.calls k _ _ t188 t192 _ ?side1 ?side2 A9.out).mono ?_);(case side1=>repeat (first|exact (zU HO190.out).2.2|apply zC_));(case side2=>exact (zU HO190.out).2.1);rintro e w20 ⟨v193,rfl,ho0,hb⟩;have n0_:=zA (Kd.R_below (by apply zR_;exact HO190.out) hb);have n1_:=zA (Kd.S_lower (Kd.S_new' ho0 (Kd.R_lt (by apply zR_;exact HO190.out))) (zQ (by repeat (first|(with_reducible first|exact HB.out|apply zD|apply zB|apply zC|refine zF ?_ GE187.out)|exact HB.out))));have n2_:=zA (zX (g:=gb187) (o:=.cells #[.slice A0_0 l0_0.length c0_0,.slice A0_1 l0_1.length c0_1] 27 (0,0)) (by (with_reducible repeat (first|refine zG ?_ _|refine zI ?_|refine zH ?_ _));exact BK187.out) hb);have n3_:=zA (zR (by repeat (first|(with_reducible first|exact HB.out|apply zD|apply zB|apply zC|refine zF ?_ GE187.out)|exact HB.out)) hb);clear HO190;clear BK187;clear HB;have HO190:=n0_;have HO194:=n1_;have BK187:=n2_;have HB:=n3_;clear n0_ n1_ n2_ n3_;(try clear hb);(try clear hb2);(try clear hk);(try clear hi);(try clear ho0);obtain ⟨Ao21,co21,eo21⟩:=Kd.S_slice HO194.out;subst eo21))
      go_meet
      case rel=>exact ⟨_,(decide (a1 ≥ (t188.length:Int))),(by first|rfl|(simp;done)|(simp [*];done)),H',⟨by first|omega|exact Nat.le_refl _⟩,⟨by apply zR_;exact HO190.out⟩,⟨by (with_reducible repeat (first|refine zG ?_ _|refine zI ?_|refine zH ?_ _));exact BK187.out⟩,⟨by repeat (first|(with_reducible first|exact HB.out|apply zD|apply zB|apply zC|refine zF ?_ GE187.out)|exact HB.out)⟩⟩
   ·rw [if_neg c10] at H
    have c10b0:((t192.length:Int) == 1) = false:=beq_eq_false_iff_ne.mpr c10
    have c10b1:((t192.length:Int) != 1) = true:=bne_iff_ne.mpr c10
    (first|rw [c10b0]|(simp only [i64_w,i32_w];rw [c10b0])|skip)
    have H':=zA H
    clear H
    obtain ⟨Ao22,co22,eo22⟩:=zg HO190.out
    subst eo22
    go_wp2_with (first|(go_at_call 80;(with_reducible refine (impl_cyclesOf.calls k _ _ t188 t192 _ ?side1 ?side2 A9.out).mono ?_);(case side1=>repeat (first|exact (zU HO190.out).2.2|apply zC_));(case side2=>exact (zU HO190.out).2.1);rintro e w23 ⟨v193,rfl,ho0,hb⟩;have n0_:=zA (Kd.R_below (by apply zR_;exact HO190.out) hb);have n1_:=zA (Kd.S_lower (Kd.S_new' ho0 (Kd.R_lt (by apply zR_;exact HO190.out))) (zQ (by repeat (first|(with_reducible first|exact HB.out|apply zD|apply zB|apply zC|refine zF ?_ GE187.out)|exact HB.out))));have n2_:=zA (zX (g:=gb187) (o:=.cells #[.slice A0_0 l0_0.length c0_0,.slice A0_1 l0_1.length c0_1] 27 (0,0)) (by (with_reducible repeat (first|refine zG ?_ _|refine zI ?_|refine zH ?_ _));exact BK187.out) hb);have n3_:=zA (zR (by repeat (first|(with_reducible first|exact HB.out|apply zD|apply zB|apply zC|refine zF ?_ GE187.out)|exact HB.out)) hb);clear HO190;clear BK187;clear HB;have HO190:=n0_;have HO194:=n1_;have BK187:=n2_;have HB:=n3_;clear n0_ n1_ n2_ n3_;(try clear hb);(try clear hb2);(try clear hk);(try clear hi);(try clear ho0);obtain ⟨Ao24,co24,eo24⟩:=Kd.S_slice HO194.out;subst eo24))
    go_meet
    case rel=>exact ⟨_,(true),(by first|rfl|(simp;done)|(simp [*];done)),H',⟨by first|omega|exact Nat.le_refl _⟩,⟨by apply zR_;exact HO190.out⟩,⟨by (with_reducible repeat (first|refine zG ?_ _|refine zI ?_|refine zH ?_ _));exact BK187.out⟩,⟨by repeat (first|(with_reducible first|exact HB.out|apply zD|apply zB|apply zC|refine zF ?_ GE187.out)|exact HB.out)⟩⟩
  ·replace c8:=Bool.eq_false_iff.mpr c8
   subst c8
   have H1:(impl_GluingOf.j0 k a1 t188 true l0_0 l0_1) = some (r1,r2):=by rw [if_neg (show ¬ (false = true) by decide)] at H;exact H
   clear H
   have H:=H1
   clear H1
   have H':=zA H
   clear H
   go_wp2
   go_meet
   case rel=>exact ⟨_,(true),(by first|rfl|(simp;done)|(simp [*];done)),H',⟨by first|omega|exact Nat.le_refl _⟩,⟨by apply zR_;exact HO190.out⟩,⟨by (with_reducible repeat (first|refine zG ?_ _|refine zI ?_|refine zH ?_ _));exact BK187.out⟩,⟨by repeat (first|(with_reducible first|exact HB.out|apply zD|apply zB|apply zC|refine zF ?_ GE187.out)|exact HB.out)⟩⟩
 case rest =>
  clear HC4
  (try clear c1);(try clear c2);(try clear p2);(try clear c3);(try clear c8);(try clear c10);(try clear c10b0);(try clear c10b1);(try clear c11);(try clear c11b0);(try clear c11b1);(try clear c15);(try clear c15b0);(try clear c24);(try clear hcz6_0);(try clear hcz6_1);(try clear hfz6_0);(try clear hfz6_1)
  obtain ⟨kq,x41_3,rfl,HA,HJ3,HO_6,BK187,HB⟩:=hcut
  cases kq with
  | zero=>exact absurd HA.out (by simp [impl_GluingOf.j0])
  | succ kj3 =>
   have H:=HA.out
   clear HA
   simp only [impl_GluingOf.j0] at H
   by_cases c25:x41_3 = true
   ·subst c25
    rw [if_pos rfl] at H;try dsimp only at H
    simp only [Option.some.injEq,Prod.mk.injEq] at H
    obtain ⟨rfl,rfl⟩:=H
    go_wp2
    go_ret2
    exact ⟨_,by first|rfl|(simp [errW_none,errW_some] <;> rfl)|(simp [*,errW_none,errW_some] <;> rfl),by first|exact Kd.R_nil _ _ _ _ _|exact Kd.N_nil _ _ _ _ _|exact Kd.V_nil _ _ _ _ _|exact Kd.Q_nil _ _ _ _ _|exact Kd.S_nil _ _ _ _ _,by repeat (first|(with_reducible first|exact HB.out|apply zD|apply zB|apply zC|refine zF ?_ GE187.out)|exact HB.out)⟩
   ·replace c25:=Bool.eq_false_iff.mpr c25
    subst c25
    have H1:(if 0≤(t188.length:Int) then (if ((t188.length:Int):Int).toNat≤35184372088832 then (impl_GluingOf.l0 kj3 t188 (List.replicate ((t188.length:Int):Int).toNat 0) (([]:List Int)) a1 l0_0 l0_1) else (none)) else (none)) = some (r1,r2):=by rw [if_neg (show ¬ (false = true) by decide)] at H;exact H
    clear H
    have H:=H1
    clear H1
    by_cases c26:0≤(t188.length:Int)
    ·rw [if_pos c26] at H
     have c26b0:=eq_true c26
     have c26b1:decide (0≤(t188.length:Int)) = true:=zO c26
     clear c26
     by_cases c27:((t188.length:Int):Int).toNat≤35184372088832
     ·rw [if_pos c27] at H
      have c27b0:=eq_true c27
      have c27b1:decide (((t188.length:Int):Int).toNat≤35184372088832) = true:=zO c27
      clear c27
      obtain ⟨y195,hy195⟩:∃ y_:List Int,y_ = (List.replicate ((t188.length:Int):Int).toNat 0):=⟨_,rfl⟩
      replace H:(impl_GluingOf.l0 kj3 t188 y195 (([]:List Int)) a1 l0_0 l0_1) = some (r1,r2):=by (try rw [hy195]);first|with_reducible exact H|with_reducible exact zS_ H|exact H
      have Ny195:=zA hy195
      clear hy195
      obtain ⟨y198,hy198⟩:∃ y_:List Int,y_ = (([]:List Int)):=⟨_,rfl⟩
      replace H:(impl_GluingOf.l0 kj3 t188 y195 y198 a1 l0_0 l0_1) = some (r1,r2):=by (try rw [hy198]);first|with_reducible exact H|with_reducible exact zS_ H|exact H
      have Ny198:=zA hy198
      clear hy198
      have H':=zA H
      clear H
      obtain ⟨Ao28,co28,eo28⟩:=zg HO_6.out
      subst eo28
      go_wp2_with (first|((with_reducible refine gate_dst (N:=44) rfl ?_);(try (refine gate_guard (by rfl) ?_;dsimp only));refine Kd.R_make (Kd.int .i64) _ 3 rfl (N:=44) rfl 23 _ _ rfl (t188.length:Int) rfl rfl Try.underlying23 (.int .i64 0) 8 info3 rfl (by decide) (by omega) 0 (ok:=fun _=>True) (okp:=fun _=>True) rfl (fun _ hk=>hk) trivial (zE (by with_reducible assumption)) (Nat.le_trans (Nat.mul_le_mul_right _ (zE (by with_reducible assumption):(t188.length:Int).toNat≤35184372088832)) (by omega)) (Below.refl _ _) (Nat.le_refl _) ?_;intro v196 w29 ho30 hb hg_ hnew_;clear hg_ hnew_;(first|rw [← Ny195.out] at ho30|(simp only [Int.reduceToNat] at ho30;rw [← Ny195.out] at ho30));have n0_:=zA (Kd.R_elder' (by apply zR_;exact HO_6.out) (zd ho30) hb);have n1_:=zA (ze (zh ho30 (Kd.R_lt (by apply zR_;exact HO_6.out))) (zQ (by repeat (first|(with_reducible first|exact HB.out|apply zD|apply zB|apply zC|refine zF ?_ GE187.out)|exact HB.out))));have n2_:=zA (zX (g:=gb187) (o:=.cells #[.slice A0_0 l0_0.length c0_0,.slice A0_1 l0_1.length c0_1] 27 (0,0)) (by (with_reducible repeat (first|refine zG ?_ _|refine zI ?_|refine zH ?_ _));exact BK187.out) hb);have n3_:=zA (zR (by repeat (first|(with_reducible first|exact HB.out|apply zD|apply zB|apply zC|refine zF ?_ GE187.out)|exact HB.out)) hb);clear HO_6;clear BK187;clear HB;have HO_6:=n0_;have HO197:=n1_;have BK187:=n2_;have HB:=n3_;clear n0_ n1_ n2_ n3_;clear hb ho30)|((with_reducible refine gate_dst (N:=45) rfl ?_);(try (refine gate_guard (by rfl) ?_;dsimp only));refine Kd.R_lit (Kd.int .i64) _ 3 ?hg (N:=45) ?hd (xs:=([]:List Int)) (inner:=[]) (ok:=fun _=>True) (okp:=fun _=>True) ?hr ?hp (fun _ hk=>hk) trivial (Below.refl _ _) (Nat.le_refl _) (by simp) ?_;(case hd=>rfl);(case hg=>rfl);(case hr=>first|(go_simp;done)|(go_simp;rfl));(case hp=>exact (Reps.none _ _));intro v199 w31 ho32 hb hg_ hnew_;clear hg_ hnew_;(first|rw [← Ny198.out] at ho32|(simp only [Int.reduceToNat] at ho32;rw [← Ny198.out] at ho32));have n0_:=zA (Kd.R_elder' (by apply zR_;exact HO_6.out) (zd ho32) hb);have n1_:=zA (Kd.R_elder' (by apply zR_;exact HO197.out) (zd ho32) hb);have n2_:=zA (ze (zh (zh ho32 (Kd.R_lt (by apply zR_;exact HO_6.out))) (Kd.R_lt (by apply zR_;exact HO197.out))) (zQ (by repeat (first|(with_reducible first|exact HB.out|apply zD|apply zB|apply zC|refine zF ?_ GE187.out)|exact HB.out))));have n3_:=zA (zX (g:=gb187) (o:=.cells #[.slice A0_0 l0_0.length c0_0,.slice A0_1 l0_1.length c0_1] 27 (0,0)) (by (with_reducible repeat (first|refine zG ?_ _|refine zI ?_|refine zH ?_ _));exact BK187.out) hb);have n4_:=zA (zR (by repeat (first|(with_reducible first|exact HB.out|apply zD|apply zB|apply zC|refine zF ?_ GE187.out)|exact HB.out)) hb);clear HO_6;clear HO197;clear BK187;clear HB;have HO_6:=n0_;have HO197:=n1_;have HO200:=n2_;have BK187:=n3_;have HB:=n4_;clear n0_ n1_ n2_ n3_ n4_;clear hb ho32))
      go_loopg [9,10] kj3 (fun kq v9 v10 w' => ∃ (x8_2:List Int) (x9_2:List Int) (x10_2:Int),v10 = .int .i64 x10_2∧Aside0 (impl_GluingOf.l0 kq t188 x8_2 x9_2 x10_2 l0_0 l0_1 = some (r1,r2))∧Aside0 (kq≤kj3)∧Aside0 (Kd.R (Kd.int .i64) 3 w' w.heap.size (fun k_=>some k_≠(v196:Value).ownBlock∧some k_≠(v9:Value).ownBlock) (.slice Ao28 t188.length co28) t188)∧Aside0 (Kd.R (Kd.int .i64) 3 w' w.heap.size (fun k_=>some k_≠((.slice Ao28 t188.length co28):Value).ownBlock∧some k_≠(v9:Value).ownBlock) v196 x8_2)∧Aside0 (Kd.R (Kd.int .i64) 3 w' w.heap.size (fun k_=>some k_≠((.slice Ao28 t188.length co28):Value).ownBlock∧some k_≠(v196:Value).ownBlock) v9 x9_2)∧Aside0 (w'.heap[gb187]? = some (.cells #[(.slice A0_0 l0_0.length c0_0),(.slice A0_1 l0_1.length c0_1)] 27 (0,0)))∧Aside0 (Below w.heap.size w w'))
      case atStart=>exact ⟨(y195),(y198),(a1),(by first|rfl|(simp;done)|(simp [*];done)),H',⟨Nat.le_refl _⟩,⟨by apply zR_;exact zV HO_6.out (fun _ hk=>⟨hk.1.2,hk.2⟩)⟩,⟨by apply zR_;exact zV HO197.out (fun _ hk=>⟨hk.1.2,hk.2⟩)⟩,⟨by apply zR_;exact zV HO200.out (fun _ hk=>⟨hk.1.2,hk.2⟩)⟩,⟨by (with_reducible repeat (first|refine zG ?_ _|refine zI ?_|refine zH ?_ _));exact BK187.out⟩,⟨by repeat (first|(with_reducible first|exact HB.out|apply zD|apply zB|apply zC|refine zF ?_ GE187.out)|exact HB.out)⟩⟩
      case round =>
       clear H'
       (try clear c1);(try clear c2);(try clear p2);(try clear c3);(try clear c8);(try clear c10);(try clear c10b0);(try clear c10b1);(try clear c11);(try clear c11b0);(try clear c11b1);(try clear c15);(try clear c15b0);(try clear c24);(try clear c25);(try clear c26);(try clear c26b0);(try clear c26b1);(try clear c27);(try clear c27b0);(try clear c27b1);(try clear hcz6_0);(try clear hcz6_1);(try clear hfz6_0);(try clear hfz6_1);(try clear p2)
       obtain ⟨x8_2,x9_2,x10_2,rfl,HA,HK2,HO_6,HO_8,HO_9,BK187,HB⟩:=hrel
       cases gk with
       | zero=>exact absurd HA.out (by simp [impl_GluingOf.l0])
       | succ k2 =>
        have H:=HA.out
        clear HA
        simp only [impl_GluingOf.l0] at H
        by_cases c33:(x9_2.length:Int) < (t188.length:Int)
        ·rw [if_pos c33] at H
         have c33b0:decide ((x9_2.length:Int) < (t188.length:Int)) = true:=zO c33
         have c33b1:decide (x9_2.length < t188.length) = true:=zO (Int.ofNat_lt.mp c33)
         clear c33
         by_cases c34:0≤x10_2
         ·rw [if_pos c34] at H
          have c34b0:decide (0≤x10_2) = true:=zO c34
          clear c34
          by_cases c35:x10_2 < (x8_2.length:Int)
          ·rw [if_pos c35] at H
           have c35b0:decide (x10_2 < (x8_2.length:Int)) = true:=zO c35
           clear c35
           obtain ⟨y201,hy201⟩:∃ y_:List Int,y_ = (x8_2.set (x10_2:Int).toNat (x9_2.length:Int)):=⟨_,rfl⟩
           replace H:(if x9_2.length < 17592186044416 then (if x10_2 < (t188.length:Int) then (impl_GluingOf.l0 k2 t188 y201 (x9_2 ++ [x10_2]) (rd t188 x10_2) l0_0 l0_1) else (none)) else (none)) = some (r1,r2):=by (try rw [hy201]);first|with_reducible exact H|with_reducible exact zS_ H|exact H
           have Ny201:=zA hy201
           clear hy201
           by_cases c37:x9_2.length < 17592186044416
           ·rw [if_pos c37] at H
            have LMc37:=zA c37
            clear c37
            obtain ⟨y202,hy202⟩:∃ y_:List Int,y_ = (x9_2 ++ [x10_2]):=⟨_,rfl⟩
            replace H:(if x10_2 < (t188.length:Int) then (impl_GluingOf.l0 k2 t188 y201 y202 (rd t188 x10_2) l0_0 l0_1) else (none)) = some (r1,r2):=by (try rw [hy202]);first|with_reducible exact H|with_reducible exact zS_ H|exact H
            have Ny202:=zA hy202
            clear hy202
            by_cases c38:x10_2 < (t188.length:Int)
            ·rw [if_pos c38] at H
             have c38b0:decide (x10_2 < (t188.length:Int)) = true:=zO c38
             clear c38
             have H':=zA H
             clear H
             obtain ⟨Ao39,co39,eo39⟩:=zg HO_9.out
             subst eo39
             have p36:0≤(x10_2:Int):=zE (by with_reducible assumption)
             have q36:(x10_2:Int) < ((x8_2.length:Int):Int):=zE (by with_reducible assumption)
             obtain ⟨go36,co36,eo36,gb36,gl36,cl36,HG36⟩:=Kd.R_form HO_8.out (by omega)
             (first|cases eo36|(injection eo36 with ea_ en_ ec_;(first|subst ea_|(injection ea_ with ea_;subst ea_));subst ec_;clear en_))
             have GB36:=zA gb36
             have GG36:=zA HG36
             clear gb36 gl36 HG36
             obtain ⟨hx36_0,hf36_0⟩:=Kd.R_celln 0 HO_8.out (x10_2:Int) p36 q36
             replace p36:=eq_true p36
             replace q36:=eq_true q36
             have HP40:=Kd.R_putg HO_8.out (x10_2:Int) (x9_2.length:Int)
             go_wp2_with (first|((with_reducible refine gate_store (t:=3) (p:=60) rfl ?_);refine store_event (t:=3) (p:=60) (v:=?vo_w41) (w1:=(wr.setCell ⟨go36,(x10_2:Int).toNat,none⟩ (.int .i64 (x9_2.length:Int)))) ?hg ?ho ?hn ?hr ?_;(case ho=>rfl);(case hg=>rfl);(case hn=>rfl);(case hr=>first|(go_simp;done)|(go_simp;rfl));intro w41 hw;have hg:wr.grownBy w41 (some go36):=(by rw [hw];exact HP40.2);have hp_:Kd.R (Kd.int .i64) 3 w41 w.heap.size (fun k_=>some k_≠(.slice Ao28 t188.length co28:Value).ownBlock∧some k_≠(.slice Ao39 x9_2.length co39:Value).ownBlock) (.slice (some ⟨go36,0,none⟩) x8_2.length co36) y201:=(by rw [hw,Ny201.out];exact HP40.1);clear HP40;have n0_:=zA (Kd.R_after (v:=(.slice (some ⟨go36,0,none⟩) x8_2.length co36)) (v1:=(.slice (some ⟨go36,0,none⟩) x8_2.length co36)) (ok:=(fun k_=>some k_≠(.slice Ao39 x9_2.length co39:Value).ownBlock)) (by apply zR_;exact zV HO_6.out (fun _ hk=>⟨hk.2,hk.1⟩)) hg (.inl rfl));have n1_:=zA (hp_);have n2_:=zA (Kd.R_after (v:=(.slice (some ⟨go36,0,none⟩) x8_2.length co36)) (v1:=(.slice (some ⟨go36,0,none⟩) x8_2.length co36)) (ok:=(fun k_=>some k_≠(.slice Ao28 t188.length co28:Value).ownBlock)) (by apply zR_;exact HO_9.out) hg (.inl rfl));have n3_:=zA (blk_grown (g:=gb187) (o:=.cells #[.slice A0_0 l0_0.length c0_0,.slice A0_1 l0_1.length c0_1] 27 (0,0)) (by (with_reducible repeat (first|refine zG ?_ _|refine zI ?_|refine zH ?_ _));exact BK187.out) hg (Kd.R_ne HO_8.out BK187.out (by decide)));have n4_:=zA ((by rw [hw];exact zF (HB.out) GB36.out:Below w.heap.size w w41));clear HO_6;clear HO_8;clear HO_9;clear BK187;clear HB;have HO_6:=n0_;have HO_8:=n1_;have HO_9:=n2_;have BK187:=n3_;have HB:=n4_;clear n0_ n1_ n2_ n3_ n4_;clear hg hw hp_)|((with_reducible refine gate_builtin (b:=.append) (xs:=#[.tmp 61,.tmp 63]) rfl ?_);(try (refine gate_guard (by rfl) ?_;dsimp only));at_builtin;refine Kd.R_append (Kd.int .i64) (w0:=w) w.heap.size rfl (.tmp 61) (.tmp 63) 23 3 (.int .i64 0) 8 rfl Try.underlying23 info3 rfl (by decide) (by omega) (.slice Ao39 x9_2.length co39) x9_2 x10_2 [.int .i64 x10_2] (fun k_=>some k_≠(.slice Ao28 t188.length co28:Value).ownBlock∧some k_≠(.slice (some ⟨go36,0,none⟩) x8_2.length co36:Value).ownBlock) (fun _=>False) rfl rfl ?aP (fun _ hk=>hk.elim) ?aF ?aO ?aB ?aS ?aL ?_;(case aP=>exact rfl);(case aB=>exact (by repeat (first|(with_reducible first|exact HB.out|apply zD|apply zB|apply zC|refine zF ?_ GE187.out)|exact HB.out)));(case aF=>exact (fun k_ hk=>⟨Kd.fresh' (Kd.R_lt (by apply zR_;exact HO_6.out)) k_ hk,Kd.fresh' (Kd.R_lt (by apply zR_;exact HO_8.out)) k_ hk⟩));(case aO=>exact (by apply zR_;exact HO_9.out));(case aS=>exact (zQ (by repeat (first|(with_reducible first|exact HB.out|apply zD|apply zB|apply zC|refine zF ?_ GE187.out)|exact HB.out))));(case aL=>have:=LMc37.out;omega);intro v203 w42 ho hb hg hat;rw [← Ny202.out] at ho;have n0_:=zA (Kd.R_after (ok:=(fun k_=>some k_≠(.slice (some ⟨go36,0,none⟩) x8_2.length co36:Value).ownBlock)) (by apply zR_;exact zV HO_6.out (fun _ hk=>⟨hk.2,hk.1⟩)) hg hat);have n1_:=zA (Kd.R_after (ok:=(fun k_=>some k_≠(.slice Ao28 t188.length co28:Value).ownBlock)) (by apply zR_;exact HO_8.out) hg hat);have n2_:=zA (blk_grown (g:=gb187) (o:=.cells #[.slice A0_0 l0_0.length c0_0,.slice A0_1 l0_1.length c0_1] 27 (0,0)) (by (with_reducible repeat (first|refine zG ?_ _|refine zI ?_|refine zH ?_ _));exact BK187.out) hg (Kd.R_ne HO_9.out BK187.out (by decide)));have n3_:=zA (hb);have n4_:=zA (ho);clear HO_6;clear HO_8;clear BK187;clear HB;clear HO_9;have HO_6:=n0_;have HO_8:=n1_;have BK187:=n2_;have HB:=n3_;have HO204:=n4_;clear n0_ n1_ n2_ n3_ n4_;clear ho hb hg hat;have p205:0≤(x10_2:Int):=zE (by with_reducible assumption);have q205:x10_2 < (t188.length:Int):=zE (by with_reducible assumption);obtain ⟨ad205,e205,hx205_0⟩:=Kd.at_int (zU HO_6.out).2.2 x10_2 p205 q205;cases e205;replace p205:=eq_true p205;replace q205:=eq_true q205))
             go_roundg k2
             case measure=>have:=HJ3.out;have:=HK2.out;omega
             case rel=>exact ⟨(y201),(y202),(rd t188 x10_2),(by first|rfl|(simp;done)|(simp [*];done)),H',⟨by have:=HJ3.out;have:=HK2.out;omega⟩,⟨by apply zR_;exact HO_6.out⟩,⟨by apply zR_;exact HO_8.out⟩,⟨by apply zR_;exact HO204.out⟩,⟨by (with_reducible repeat (first|refine zG ?_ _|refine zI ?_|refine zH ?_ _));exact BK187.out⟩,⟨by repeat (first|(with_reducible first|exact HB.out|apply zD|apply zB|apply zC|refine zF ?_ GE187.out)|exact HB.out)⟩⟩
            ·rw [if_neg c38] at H
             exact absurd H (by simp)
           ·rw [if_neg c37] at H
            exact absurd H (by simp)
          ·rw [if_neg c35] at H
           exact absurd H (by simp)
         ·rw [if_neg c34] at H
          exact absurd H (by simp)
        ·rw [if_neg c33] at H
         have c33b0:decide ((x9_2.length:Int) < (t188.length:Int)) = false:=zP c33
         have c33b1:decide (x9_2.length < t188.length) = false:=zP (fun h=>c33 (Int.ofNat_lt.mpr h))
         clear c33
         obtain ⟨y206,hy206⟩:∃ y_:List Int,y_ = (([]:List Int)):=⟨_,rfl⟩
         replace H:(impl_GluingOf.l1 k2 x8_2 y206 x9_2 (x9_2.length:Int) 0 l0_0 l0_1) = some (r1,r2):=by (try rw [hy206]);first|with_reducible exact H|with_reducible exact zS_ H|exact H
         have Ny206:=zA hy206
         clear hy206
         have H':=zA H
         clear H
         obtain ⟨Ao43,co43,eo43⟩:=zg HO_9.out
         subst eo43
         go_wp2_with (first|((with_reducible refine gate_dst (N:=65) rfl ?_);(try (refine gate_guard (by rfl) ?_;dsimp only));refine Kd.R_lit (Kd.int .i64) _ 3 ?hg (N:=65) ?hd (xs:=([]:List Int)) (inner:=[]) (ok:=fun _=>True) (okp:=fun _=>True) ?hr ?hp (fun _ hk=>hk) trivial (Below.refl _ _) (Nat.le_refl _) (by simp) ?_;(case hd=>rfl);(case hg=>rfl);(case hr=>first|(go_simp;done)|(go_simp;rfl));(case hp=>exact (Reps.none _ _));intro v207 w44 ho45 hb hg_ hnew_;clear hg_ hnew_;(first|rw [← Ny206.out] at ho45|(simp only [Int.reduceToNat] at ho45;rw [← Ny206.out] at ho45));have n0_:=zA (Kd.R_elder' (by apply zR_;exact HO_6.out) (zd ho45) hb);have n1_:=zA (Kd.R_elder' (by apply zR_;exact HO_8.out) (zd ho45) hb);have n2_:=zA (Kd.R_elder' (by apply zR_;exact HO_9.out) (zd ho45) hb);have n3_:=zA (ze (zh (zh (zh ho45 (Kd.R_lt (by apply zR_;exact HO_6.out))) (Kd.R_lt (by apply zR_;exact HO_8.out))) (Kd.R_lt (by apply zR_;exact HO_9.out))) (zQ (by repeat (first|(with_reducible first|exact HB.out|apply zD|apply zB|apply zC|refine zF ?_ GE187.out)|exact HB.out))));have n4_:=zA (zX (g:=gb187) (o:=.cells #[.slice A0_0 l0_0.length c0_0,.slice A0_1 l0_1.length c0_1] 27 (0,0)) (by (with_reducible repeat (first|refine zG ?_ _|refine zI ?_|refine zH ?_ _));exact BK187.out) hb);have n5_:=zA (zR (by repeat (first|(with_reducible first|exact HB.out|apply zD|apply zB|apply zC|refine zF ?_ GE187.out)|exact HB.out)) hb);clear HO_6;clear HO_8;clear HO_9;clear BK187;clear HB;have HO_6:=n0_;have HO_8:=n1_;have HO_9:=n2_;have HO208:=n3_;have BK187:=n4_;have HB:=n5_;clear n0_ n1_ n2_ n3_ n4_ n5_;clear hb ho45))
         go_loopg [11,68] k2 (fun kq v11 v68 w' => ∃ (x11_3:List Int) (x68_3:Int),v68 = .int .i64 x68_3∧Aside0 (impl_GluingOf.l1 kq x8_2 x11_3 x9_2 (x9_2.length:Int) x68_3 l0_0 l0_1 = some (r1,r2))∧Aside0 (kq≤k2)∧Aside0 (Kd.R (Kd.int .i64) 3 w' w.heap.size (fun k_=>some k_≠(v11:Value).ownBlock∧some k_≠((.slice Ao43 x9_2.length co43):Value).ownBlock) v196 x8_2)∧Aside0 (Kd.R (Kd.int .i64) 3 w' w.heap.size (fun k_=>some k_≠(v196:Value).ownBlock∧some k_≠((.slice Ao43 x9_2.length co43):Value).ownBlock) v11 x11_3)∧Aside0 (Kd.R (Kd.int .i64) 3 w' w.heap.size (fun k_=>some k_≠(v196:Value).ownBlock∧some k_≠(v11:Value).ownBlock) (.slice Ao43 x9_2.length co43) x9_2)∧Aside0 (w'.heap[gb187]? = some (.cells #[(.slice A0_0 l0_0.length c0_0),(.slice A0_1 l0_1.length c0_1)] 27 (0,0)))∧Aside0 (Below w.heap.size w w'))
         case atStart=>exact ⟨(y206),(0),(by first|rfl|(simp;done)|(simp [*];done)),H',⟨Nat.le_refl _⟩,⟨by apply zR_;exact zV HO_8.out (fun _ hk=>⟨hk.2,hk.1.2⟩)⟩,⟨by apply zR_;exact zV HO208.out (fun _ hk=>⟨hk.1.2,hk.2⟩)⟩,⟨by apply zR_;exact zV HO_9.out (fun _ hk=>⟨hk.1.2,hk.2⟩)⟩,⟨by (with_reducible repeat (first|refine zG ?_ _|refine zI ?_|refine zH ?_ _));exact BK187.out⟩,⟨by repeat (first|(with_reducible first|exact HB.out|apply zD|apply zB|apply zC|refine zF ?_ GE187.out)|exact HB.out)⟩⟩
         case round =>
          clear H'
          (try clear c1);(try clear c2);(try clear p2);(try clear q2);(try clear hx2);(try clear c3);(try clear p3);(try clear q3);(try clear hx3);(try clear hf3);(try clear c8);(try clear c10);(try clear c10b0);(try clear c10b1);(try clear c11);(try clear c11b0);(try clear c11b1);(try clear c15);(try clear c15b0);(try clear p20);(try clear q20);(try clear hx20);(try clear c24);(try clear c25);(try clear c26);(try clear c26b0);(try clear c26b1);(try clear c27);(try clear c27b0);(try clear c27b1);(try clear c33);(try clear c33b0);(try clear c33b1);(try clear c34);(try clear c34b0);(try clear c35);(try clear c35b0);(try clear c36);(try clear p36);(try clear q36);(try clear hx36);(try clear hf36);(try clear c37);(try clear c38);(try clear c38b0);(try clear hcz6_0);(try clear hcz6_1);(try clear hfz6_0);(try clear hfz6_1);(try clear hx205_0);(try clear hx36_0);(try clear p2);(try clear p205);(try clear p36);(try clear q205);(try clear q36)
          obtain ⟨x11_3,x68_3,rfl,HA,HK3,HO_8,HO_11,HO_66,BK187,HB⟩:=hrel
          cases gk with
          | zero=>exact absurd HA.out (by simp [impl_GluingOf.l1])
          | succ k3 =>
           have H:=HA.out
           clear HA
           simp only [impl_GluingOf.l1] at H
           by_cases c46:x68_3 < (x9_2.length:Int)
           ·rw [if_pos c46] at H
            have c46b0:decide (x68_3 < (x9_2.length:Int)) = true:=zO c46
            clear c46
            by_cases c47:0≤x68_3
            ·rw [if_pos c47] at H
             have c47b0:decide (0≤x68_3) = true:=zO c47
             clear c47
             by_cases c48:x68_3 < (x9_2.length:Int)
             ·rw [if_pos c48] at H
              have c48b0:decide (x68_3 < (x9_2.length:Int)) = true:=zO c48
              clear c48
              by_cases c49:0≤(rd x9_2 x68_3)
              ·rw [if_pos c49] at H
               have c49b0:decide (0≤(rd x9_2 x68_3)) = true:=zO c49
               clear c49
               by_cases c50:(rd x9_2 x68_3) < (l0_1.length:Int)
               ·rw [if_pos c50] at H
                have c50b0:decide ((rd x9_2 x68_3) < (l0_1.length:Int)) = true:=zO c50
                clear c50
                by_cases c51:0≤(rd l0_1 (rd x9_2 x68_3))
                ·rw [if_pos c51] at H
                 have c51b0:decide (0≤(rd l0_1 (rd x9_2 x68_3))) = true:=zO c51
                 clear c51
                 by_cases c52:(rd l0_1 (rd x9_2 x68_3)) < (x8_2.length:Int)
                 ·rw [if_pos c52] at H
                  have c52b0:decide ((rd l0_1 (rd x9_2 x68_3)) < (x8_2.length:Int)) = true:=zO c52
                  clear c52
                  by_cases c53:x11_3.length < 17592186044416
                  ·rw [if_pos c53] at H
                   have LMc53:=zA c53
                   clear c53
                   obtain ⟨y212,hy212⟩:∃ y_:List Int,y_ = (x11_3 ++ [rd x8_2 (rd l0_1 (rd x9_2 x68_3))]):=⟨_,rfl⟩
                   replace H:(impl_GluingOf.l1 k3 x8_2 y212 x9_2 (x9_2.length:Int) (wrap64 (x68_3+1)) l0_0 l0_1) = some (r1,r2):=by (try rw [hy212]);first|with_reducible exact H|with_reducible exact zS_ H|exact H
                   have Ny212:=zA hy212
                   clear hy212
                   have H':=zA H
                   clear H
                   have p209:0≤(x68_3:Int):=zE (by with_reducible assumption)
                   have q209:x68_3 < (x9_2.length:Int):=zE (by with_reducible assumption)
                   obtain ⟨ad209,e209,hx209_0⟩:=Kd.at_int (zU HO_66.out).2.2 x68_3 p209 q209
                   cases e209
                   replace p209:=eq_true p209
                   replace q209:=eq_true q209
                   have hcz54_0:wr.cell? ⟨gb187,0,none⟩ = some (.slice A0_0 l0_0.length c0_0):=(zT BK187.out 0).trans rfl
                   have hcz54_1:wr.cell? ⟨gb187,1,none⟩ = some (.slice A0_1 l0_1.length c0_1):=(zT BK187.out 1).trans rfl
                   have hfz54_0:=zZ BK187.out 0
                   have hfz54_1:=zZ BK187.out 1
                   have p210:0≤((rd x9_2 x68_3):Int):=zE (by with_reducible assumption)
                   have q210:(rd x9_2 x68_3) < (l0_1.length:Int):=zE (by with_reducible assumption)
                   obtain ⟨ad210,e210,hx210_0⟩:=Kd.at_int HR0_1.out (rd x9_2 x68_3) p210 q210
                   cases e210
                   replace hx210_0:=(HB.out.cell (zY w _ hx210_0)).trans hx210_0
                   replace p210:=eq_true p210
                   replace q210:=eq_true q210
                   obtain ⟨Ao55,co55,eo55⟩:=zg HO_8.out
                   subst eo55
                   have p211:0≤((rd l0_1 (rd x9_2 x68_3)):Int):=zE (by with_reducible assumption)
                   have q211:(rd l0_1 (rd x9_2 x68_3)) < (x8_2.length:Int):=zE (by with_reducible assumption)
                   obtain ⟨ad211,e211,hx211_0⟩:=Kd.at_int (zU HO_8.out).2.2 (rd l0_1 (rd x9_2 x68_3)) p211 q211
                   cases e211
                   replace p211:=eq_true p211
                   replace q211:=eq_true q211
                   go_wp2_with (first|((with_reducible refine gate_builtin (b:=.append) (xs:=#[.tmp 72,.tmp 81]) rfl ?_);(try (refine gate_guard (by rfl) ?_;dsimp only));at_builtin;refine Kd.R_append (Kd.int .i64) (w0:=w) w.heap.size rfl (.tmp 72) (.tmp 81) 23 3 (.int .i64 0) 8 rfl Try.underlying23 info3 rfl (by decide) (by omega) u11 x11_3 (rd x8_2 (rd l0_1 (rd x9_2 x68_3))) [.int .i64 (rd x8_2 (rd l0_1 (rd x9_2 x68_3)))] (fun k_=>some k_≠(.slice (some ad211) x8_2.length co55:Value).ownBlock∧some k_≠(.slice (some ad209) x9_2.length co43:Value).ownBlock) (fun _=>False) rfl rfl ?aP (fun _ hk=>hk.elim) ?aF ?aO ?aB ?aS ?aL ?_;(case aP=>exact rfl);(case aB=>exact (by repeat (first|(with_reducible first|exact HB.out|apply zD|apply zB|apply zC|refine zF ?_ GE187.out)|exact HB.out)));(case aF=>exact (fun k_ hk=>⟨Kd.fresh' (Kd.R_lt (by apply zR_;exact HO_8.out)) k_ hk,Kd.fresh' (Kd.R_lt (by apply zR_;exact HO_66.out)) k_ hk⟩));(case aO=>exact (by apply zR_;exact HO_11.out));(case aS=>exact (zQ (by repeat (first|(with_reducible first|exact HB.out|apply zD|apply zB|apply zC|refine zF ?_ GE187.out)|exact HB.out))));(case aL=>have:=LMc53.out;omega);intro v213 w56 ho hb hg hat;rw [← Ny212.out] at ho;have n0_:=zA (Kd.R_after (ok:=(fun k_=>some k_≠(.slice (some ad209) x9_2.length co43:Value).ownBlock)) (by apply zR_;exact zV HO_8.out (fun _ hk=>⟨hk.2,hk.1⟩)) hg hat);have n1_:=zA (Kd.R_after (ok:=(fun k_=>some k_≠(.slice (some ad211) x8_2.length co55:Value).ownBlock)) (by apply zR_;exact HO_66.out) hg hat);have n2_:=zA (blk_grown (g:=gb187) (o:=.cells #[.slice A0_0 l0_0.length c0_0,.slice (some ad210) l0_1.length c0_1] 27 (0,0)) (by (with_reducible repeat (first|refine zG ?_ _|refine zI ?_|refine zH ?_ _));exact BK187.out) hg (Kd.R_ne HO_11.out BK187.out (by decide)));have n3_:=zA (hb);have n4_:=zA (ho);clear HO_8;clear HO_66;clear BK187;clear HB;clear HO_11;have HO_8:=n0_;have HO_66:=n1_;have BK187:=n2_;have HB:=n3_;have HO214:=n4_;clear n0_ n1_ n2_ n3_ n4_;clear ho hb hg hat))
                   go_roundg k3
                   case measure=>have:=HJ3.out;have:=HK2.out;have:=HK3.out;omega
                   case rel=>exact ⟨(y212),(wrap64 (x68_3+1)),(by first|rfl|(simp;done)|(simp [*];done)),H',⟨by have:=HJ3.out;have:=HK2.out;have:=HK3.out;omega⟩,⟨by apply zR_;exact zV HO_8.out (fun _ hk=>⟨hk.2,hk.1⟩)⟩,⟨by apply zR_;exact HO214.out⟩,⟨by apply zR_;exact HO_66.out⟩,⟨by (with_reducible repeat (first|refine zG ?_ _|refine zI ?_|refine zH ?_ _));exact BK187.out⟩,⟨by repeat (first|(with_reducible first|exact HB.out|apply zD|apply zB|apply zC|refine zF ?_ GE187.out)|exact HB.out)⟩⟩
                  ·rw [if_neg c53] at H
                   exact absurd H (by simp)
                 ·rw [if_neg c52] at H
                  exact absurd H (by simp)
                ·rw [if_neg c51] at H
                 exact absurd H (by simp)
               ·rw [if_neg c50] at H
                exact absurd H (by simp)
              ·rw [if_neg c49] at H
               exact absurd H (by simp)
             ·rw [if_neg c48] at H
              exact absurd H (by simp)
            ·rw [if_neg c47] at H
             exact absurd H (by simp)
           ·rw [if_neg c46] at H
            have c46b0:decide (x68_3 < (x9_2.length:Int)) = false:=zP c46
            clear c46
            simp only [Option.some.injEq,Prod.mk.injEq] at H
            obtain ⟨rfl,rfl⟩:=H
            go_wp2
            go_ret2
            exact ⟨_,by first|rfl|(simp [errW_none,errW_some] <;> rfl)|(simp [*,errW_none,errW_some] <;> rfl),by apply zR_;exact zV HO_11.out (fun _ hk=>trivial),by repeat (first|(with_reducible first|exact HB.out|apply zD|apply zB|apply zC|refine zF ?_ GE187.out)|exact HB.out)⟩
     ·rw [if_neg c27] at H
      exact absurd H (by simp)
    ·rw [if_neg c26] at H
     exact absurd H (by simp)

/-! ### spec_l6In: function 124 -/
def spec_l6In.f (a0:Int) (a1:Int) (a2:Int):Option (Bool):=if a0 ≥ a1 then (some (decide (a0≤a2))) else (some false)
set_option maxHeartbeats 8000000 in
set_option maxRecDepth 100000 in
theorem spec_l6In.calls (a0:Int) (a1:Int) (a2:Int) (r:Bool) (w:World) (h:spec_l6In.f a0 a1 a2 = some r) :
  Calls Try.prog 124 #[.int .i64 a0,.int .i64 a1,.int .i64 a2] w fun e w'=>e = .returned (.bool r)∧Drawn0 w w':=by
 have H:(if a0 ≥ a1 then (some (decide (a0≤a2))) else (some false)) = some r:=h
 clear h
 by_cases c4:a0 ≥ a1
 ·rw [if_pos c4] at H
  have c4b0:decide (a1≤a0) = true:=zO c4
  clear c4
  obtain rfl:=zS H
  go_enter Try.func124,Try.ntmps124
  go_wp2
  go_ret
  exact ⟨by first|rfl|(simp;done)|(simp [*];done),by repeat (first|exact Drawn0.refl _|apply Drawn0.step)⟩
 ·rw [if_neg c4] at H
  have c4b0:decide (a1≤a0) = false:=zP c4
  clear c4
  obtain rfl:=zS H
  go_enter Try.func124,Try.ntmps124
  go_wp2
  go_ret
  exact ⟨by first|rfl|(simp;done)|(simp [*];done),by repeat (first|exact Drawn0.refl _|apply Drawn0.step)⟩

end Go.Proofs.Ytonlecigglbohaa.Q
