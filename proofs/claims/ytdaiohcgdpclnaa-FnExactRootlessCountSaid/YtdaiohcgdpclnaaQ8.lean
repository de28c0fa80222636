import Derived.Test.YtdaiohcgdpclnaaQ0
import Derived.Test.YtdaiohcgdpclnaaQ7
import Derived.Test.YtdaiohcgdpclnaaZ
namespace Go.Proofs.Ytdaiohcgdpclnaa.Q
open Go.RowKit Go.Proofs.YtdaiohcgdpclnaaW.PrintWords Go.Proofs.YtdaiohcgdpclnaaW.PrintLast Go.Proofs.YtdaiohcgdpclnaaW.PrintMore
attribute [local go_sem] max2_int min2_int max_two min_two max_three min_three max_four min_four   -- for this text's walks alone
set_option linter.unusedVariables false
set_option linter.unusedSimpArgs false

/-! ### spec_l3Put: function 64 -/
def spec_l3Put.l0:Nat→List (S33)→Int→List Int→List Int→Option ((List (S33)))
 | 0,_,_,_,_=>none
 | k+1,x0,x5,x291000,x291001=>if x5 < (x0.length:Int) then (if 0≤x5 then ((spec_l2Before.f k ((rd_T33 x0 x5).f0) ((rd_T33 x0 x5).f1) x291000 x291001).bind fun t292=>(if t292 < 0 then (spec_l3Put.l0 k x0 (wrap64 (x5+1)) x291000 x291001) else ((spec_l2Before.f k ((rd_T33 x0 x5).f0) ((rd_T33 x0 x5).f1) x291000 x291001).bind fun t294=>(if t294 = 0 then (some x0) else ((some (([]:List (S33)):List (S33))).bind fun y295=>(if x5≤(x0.length:Int) then ((some (x0.take (x5:Int).toNat:List (S33))).bind fun y298=>(if y295.length+y298.length < 2932031007402 then ((some (y295 ++ y298:List (S33))).bind fun y303=>(if y303.length < 2932031007402 then ((some (y303 ++ [(⟨x291000,x291001⟩:S33)]:List (S33))).bind fun y306=>((some (x0.drop (x5:Int).toNat:List (S33))).bind fun y309=>(if y306.length+y309.length < 2932031007402 then (some (y306 ++ y309)) else (none)))) else (none))) else (none))) else (none))))))) else (none)) else ((some (([]:List (S33)):List (S33))).bind fun y317=>(if 0≤x5 then (if x5≤(x0.length:Int) then ((some (x0.take (x5:Int).toNat:List (S33))).bind fun y320=>(if y317.length+y320.length < 2932031007402 then ((some (y317 ++ y320:List (S33))).bind fun y325=>(if y325.length < 2932031007402 then ((some (y325 ++ [(⟨x291000,x291001⟩:S33)]:List (S33))).bind fun y328=>((some (x0.drop (x5:Int).toNat:List (S33))).bind fun y331=>(if y328.length+y331.length < 2932031007402 then (some (y328 ++ y331)) else (none)))) else (none))) else (none))) else (none)) else (none)))
def spec_l3Put.f (k:Nat) (l0:List (S33)) (l1_0:List Int) (l1_1:List Int):Option ((List (S33))):=spec_l3Put.l0 k l0 0 l1_0 l1_1
theorem spec_l3Put.mono_l:∀ k,(∀ y0 y1 y2 y3,LeO (spec_l3Put.l0 k y0 y1 y2 y3) (spec_l3Put.l0 (k+1) y0 y1 y2 y3))
 | 0=>fun _ _ _ _ r h=>by simp [spec_l3Put.l0] at h
 | k+1=>by
  have ih0:=spec_l3Put.mono_l k
  ·intro y0 y1 y2 y3
   unfold spec_l3Put.l0
   repeat' first
   | (with_reducible exact ih0 _ _ _ _)
   | (with_reducible exact spec_l2Before.mono _ _ _ _ _)
   | (with_reducible exact LeO.refl _)
   | (with_reducible exact zm _)
   | (with_reducible refine zo ?_ ?_)
   | (with_reducible refine zn ?_ (fun _=>?_))
   | exact ih0 _ _ _ _
   | exact spec_l2Before.mono _ _ _ _ _
   | exact zm _
   | refine zo ?_ ?_
   | refine zn ?_ (fun _=>?_)
theorem spec_l3Put.mono:∀ a0 a1 a2 k,LeO (spec_l3Put.f k a0 a1 a2) (spec_l3Put.f (k+1) a0 a1 a2):=by
 intro a0 a1 a2 k
 have ih0:=spec_l3Put.mono_l k
 unfold spec_l3Put.f
 repeat' first
   | (with_reducible exact ih0 _ _ _ _)
   | (with_reducible exact spec_l2Before.mono _ _ _ _ _)
   | (with_reducible exact LeO.refl _)
   | (with_reducible exact zm _)
   | (with_reducible refine zo ?_ ?_)
   | (with_reducible refine zn ?_ (fun _=>?_))
   | exact ih0 _ _ _ _
   | exact spec_l2Before.mono _ _ _ _ _
   | exact zm _
   | refine zo ?_ ?_
   | refine zn ?_ (fun _=>?_)
def spec_l3Put.T2:Bool × List (List Nat × List Nat):=(true,[([],[]),([],[]),([1],[1]),([0,2],[0,2]),([3],[3]),([4],[4]),([4],[4]),([5,6,4],[4,5,6]),([7,4],[4,7]),([4],[4]),([8,9,4,4],[4,8,9]),([10,4],[4,10]),([4,11],[4,11])])
def spec_l3Put.B2:List Nat:=[0,0,2,7,15,31,31,127,255,31,1023,2047,4095]
theorem spec_l3Put.tab2:rtab .any (opsOf Try.f64 2) = spec_l3Put.T2:=by kernel_rfl
theorem spec_l3Put.bits2:waitsOk spec_l3Put.T2.2 spec_l3Put.B2 = true:=by kernel_rfl
def spec_l3Put.T4:Bool × List (List Nat × List Nat):=(true,[([],[]),([],[]),([1],[1]),([0,2],[0,2]),([3],[3]),([4],[4]),([4],[4]),([5,6,4],[4,5,6]),([7,4],[4,7]),([4],[4]),([8,9,4,4],[4,8,9]),([10,4],[4,10]),([4,11],[4,11])])
def spec_l3Put.B4:List Nat:=[0,0,2,7,15,31,31,127,255,31,1023,2047,4095]
theorem spec_l3Put.tab4:rtab .any (opsOf Try.f64 4) = spec_l3Put.T4:=by kernel_rfl
theorem spec_l3Put.bits4:waitsOk spec_l3Put.T4.2 spec_l3Put.B4 = true:=by kernel_rfl
set_option maxHeartbeats 8000000 in
set_option maxRecDepth 100000 in
theorem spec_l3Put.calls (k:Nat) (P0_:Nat→Prop) (A0:Option Addr) (c0:Nat) (l0:List (S33)) (P1_0_:Nat→Prop) (A1_0:Option Addr) (c1_0:Nat) (l1_0:List Int) (P1_1_:Nat→Prop) (A1_1:Option Addr) (c1_1:Nat) (l1_1:List Int) (r:List (S33)) (w:World) (hs0:Kd.V k33 33 w w.heap.size (fun k_=>P0_ k_) (.slice A0 l0.length c0) l0) (hs1_0:Kd.V (Kd.int .i64) 3 w w.heap.size (fun k_=>P1_0_ k_) (.slice A1_0 l1_0.length c1_0) l1_0) (hs1_1:Kd.V (Kd.int .i64) 3 w w.heap.size (fun k_=>P1_1_ k_) (.slice A1_1 l1_1.length c1_1) l1_1) (h:spec_l3Put.f k l0 l1_0 l1_1 = some r) :
  Calls Try.prog 64 #[.slice A0 l0.length c0,.agg #[.slice A1_0 l1_0.length c1_0,.slice A1_1 l1_1.length c1_1]] w fun e w' => ∃ v0_:Value,e = .returned (v0_)∧Kd.V k33 33 w' w.heap.size (fun k_=>((P0_ k_∨P1_0_ k_∨P1_1_ k_)∨w.heap.size≤k_)) v0_ r∧Below w.heap.size w w':=by
 have hu33:=Try.underlying33
 have HO0:=zA (show Kd.V k33 33 w w.heap.size (fun k_=>((P0_ k_∨P1_0_ k_∨P1_1_ k_)∨w.heap.size≤k_)) (.slice A0 l0.length c0) l0 from Kd.V_mono hs0 (fun k_ hk=>.inl (.inl hk)))
 have HO1_0:=zA (show Kd.V (Kd.int .i64) 3 w w.heap.size (fun k_=>((P0_ k_∨P1_0_ k_∨P1_1_ k_)∨w.heap.size≤k_)) (.slice A1_0 l1_0.length c1_0) l1_0 from Kd.V_mono hs1_0 (fun k_ hk=>.inl (.inr (.inl hk))))
 have HO1_1:=zA (show Kd.V (Kd.int .i64) 3 w w.heap.size (fun k_=>((P0_ k_∨P1_0_ k_∨P1_1_ k_)∨w.heap.size≤k_)) (.slice A1_1 l1_1.length c1_1) l1_1 from Kd.V_mono hs1_1 (fun k_ hk=>.inl (.inr (.inr hk))))
 have HB:=zA (Below.refl w.heap.size w)
 have H:(spec_l3Put.l0 k l0 0 l1_0 l1_1) = some r:=h
 clear h
 have H':=zA H
 clear H
 go_enter Try.func64,Try.ntmps64
 go_wp2_with (first|((with_reducible refine gate_dst (N:=3) rfl ?_);refine box_event ?hg (N:=3) ?hd (cs:=#[.slice A1_0 l1_0.length c1_0,.slice A1_1 l1_1.length c1_1]) (t:=33) ?hr ?_;(case hd=>rfl);(case hg=>rfl);(case hr=>first|(go_simp;done)|(go_simp;rfl));intro gb290 hg w3 hbox hb;have n0_:=zA (Kd.V_below (Kd.V_elderB (by (with_reducible repeat (first|apply zi|apply zj|apply zh));exact HO0.out) gb290 (Nat.le_of_eq hg.symm)) hb);have n1_:=zA (Kd.V_below (Kd.V_elderB (by (with_reducible repeat (first|apply zi|apply zj|apply zh));exact HO1_0.out) gb290 (Nat.le_of_eq hg.symm)) hb);have n2_:=zA (Kd.V_below (Kd.V_elderB (by (with_reducible repeat (first|apply zi|apply zj|apply zh));exact HO1_1.out) gb290 (Nat.le_of_eq hg.symm)) hb);have n3_:=zA (za (by repeat (first|(with_reducible first|exact HB.out|apply zD|apply zB|apply zC)|exact HB.out)) hb);have n4_:=zA (hbox);have n5_:=zA ((by rw [hg];exact (zZ (by repeat (first|(with_reducible first|exact HB.out|apply zD|apply zB|apply zC)|exact HB.out))):w.heap.size≤gb290));have n6_:=zA ((by rw [hg];exact (zZ (by repeat (first|(with_reducible first|exact HB.out|apply zD|apply zB|apply zC)|exact HB.out))):w.heap.size≤gb290));clear HO0;clear HO1_0;clear HO1_1;clear HB;have HO0:=n0_;have HO1_0:=n1_;have HO1_1:=n2_;have HB:=n3_;have BK290:=n4_;have GW290:=n5_;have GE290:=n6_;clear n0_ n1_ n2_ n3_ n4_ n5_ n6_;clear hb hbox hg))
 go_loopg [5] k (fun kq v5 w' => ∃ (x5_1:Int),v5 = .int .i64 x5_1∧Aside0 (spec_l3Put.l0 kq l0 x5_1 l1_0 l1_1 = some r)∧Aside0 (kq≤k)∧Aside0 (Kd.V k33 33 w' w.heap.size (fun k_=>((P0_ k_∨P1_0_ k_∨P1_1_ k_)∨w.heap.size≤k_)∧k_≠gb290) (.slice A0 l0.length c0) l0)∧Aside0 (Kd.V (Kd.int .i64) 3 w' w.heap.size (fun k_=>((P0_ k_∨P1_0_ k_∨P1_1_ k_)∨w.heap.size≤k_)∧k_≠gb290) (.slice A1_0 l1_0.length c1_0) l1_0)∧Aside0 (Kd.V (Kd.int .i64) 3 w' w.heap.size (fun k_=>((P0_ k_∨P1_0_ k_∨P1_1_ k_)∨w.heap.size≤k_)∧k_≠gb290) (.slice A1_1 l1_1.length c1_1) l1_1)∧Aside0 (w'.heap[gb290]? = some (.cells #[(.slice A1_0 l1_0.length c1_0),(.slice A1_1 l1_1.length c1_1)] 33 (0,0)))∧Aside0 (Below w.heap.size w w'))
 case atStart=>exact ⟨(0),(by first|rfl|(simp;done)|(simp [*];done)),H',⟨Nat.le_refl _⟩,⟨by (with_reducible repeat (first|apply zi|apply zj|apply zh));exact HO0.out⟩,⟨by (with_reducible repeat (first|apply zi|apply zj|apply zh));exact HO1_0.out⟩,⟨by (with_reducible repeat (first|apply zi|apply zj|apply zh));exact HO1_1.out⟩,⟨by (with_reducible repeat (first|refine zM ?_ _|refine zO ?_|refine zN ?_ _));exact BK290.out⟩,⟨by repeat (first|(with_reducible first|exact HB.out|apply zD|apply zB|apply zC|refine zI ?_ GE290.out)|exact HB.out)⟩⟩
 case round =>
  clear H'
  try clear c1
  try clear p2
  obtain ⟨x5_1,rfl,HA,HK1,HO_0,HO_291000,HO_291001,BK290,HB⟩:=hrel
  cases gk with
  | zero=>exact absurd HA.out (by simp [spec_l3Put.l0])
  | succ k1 =>
   have H:=HA.out
   clear HA
   simp only [spec_l3Put.l0] at H
   by_cases c4:x5_1 < (l0.length:Int)
   ·rw [if_pos c4] at H
    have c4b0:decide (x5_1 < (l0.length:Int)) = true:=zU c4
    clear c4
    by_cases c5:0≤x5_1
    ·rw [if_pos c5] at H
     have c5b0:decide (0≤x5_1) = true:=zU c5
     clear c5
     replace H:=zz0 H
     obtain ⟨t292,A60,H⟩:=H
     replace H:(if t292 < 0 then (spec_l3Put.l0 k1 l0 (wrap64 (x5_1+1)) l1_0 l1_1) else ((spec_l2Before.f k1 ((rd_T33 l0 x5_1).f0) ((rd_T33 l0 x5_1).f1) l1_0 l1_1).bind fun t294=>(if t294 = 0 then (some l0) else ((some (([]:List (S33)):List (S33))).bind fun y295=>(if x5_1≤(l0.length:Int) then ((some (l0.take (x5_1:Int).toNat:List (S33))).bind fun y298=>(if y295.length+y298.length < 2932031007402 then ((some (y295 ++ y298:List (S33))).bind fun y303=>(if y303.length < 2932031007402 then ((some (y303 ++ [(⟨l1_0,l1_1⟩:S33)]:List (S33))).bind fun y306=>((some (l0.drop (x5_1:Int).toNat:List (S33))).bind fun y309=>(if y306.length+y309.length < 2932031007402 then (some (y306 ++ y309)) else (none)))) else (none))) else (none))) else (none)))))) = some r:=H
     have A6:=zA A60
     clear A60
     have H9_:=zA H
     clear H
     try go_wp2
     have n0_:=zA (zh HO_0.out)
     have n1_:=zA (zh HO_291000.out)
     have n2_:=zA (zh HO_291001.out)
     have n3_:=zA (zO BK290.out)
     have n4_:=zA (zC HB.out)
     clear HO_0
     clear HO_291000
     clear HO_291001
     clear BK290
     clear HB
     have HO_0:=n0_
     have HO_291000:=n1_
     have HO_291001:=n2_
     have BK290:=n3_
     have HB:=n4_
     clear n0_ n1_ n2_ n3_ n4_
     have p291:0≤(x5_1:Int):=zF (by first|(with_reducible assumption)|assumption)
     have q291:x5_1 < (l0.length:Int):=zF (by first|(with_reducible assumption)|assumption)
     obtain ⟨ad291,A291_0,c291_0,A291_1,c291_1,e291,hx291_0,hx291_1,hl291_0,hi291_0,hl291_1,hi291_1⟩:=at_T33 (zv HO_0.out).2.2 x5_1 p291 q291
     cases e291
     obtain ⟨ce291,hce291,hMe291,hcc291⟩:=Kd.V_get HO_0.out z33 x5_1 p291 (by first|exact q291|exact zF (by first|(with_reducible assumption)|assumption)|(have e_:=(zv HO_0.out).1;omega))
     obtain ⟨ua291_0,uc291_0,ua291_1,uc291_1,rfl,ul291_0,ge291_0,ul291_1,ge291_1⟩:=k33_openF hMe291
     have hv291_0:=hcc291 0 _ rfl
     rw [Nat.add_zero] at hv291_0
     replace hv291_0:=zb (hv291_0.symm.trans hx291_0)
     injection hv291_0 with hva_ hvn_ hvc_
     rw [hva_] at ge291_0
     rw [hvc_] at ul291_0
     have HL291_0:=zA (show Kd.V (Kd.int .i64) 3 _ w.heap.size _ _ ((rd_T33 l0 x5_1).f0) from Kd.V_mk ul291_0 ge291_0)
     clear hva_ hvn_ hvc_ ge291_0 ul291_0
     have hv291_1:=hcc291 1 _ rfl
     rw [add_field _ _ 1 (by omega)] at hv291_1
     replace hv291_1:=zb (hv291_1.symm.trans hx291_1)
     injection hv291_1 with hva_ hvn_ hvc_
     rw [hva_] at ge291_1
     rw [hvc_] at ul291_1
     have HL291_1:=zA (show Kd.V (Kd.int .i64) 3 _ w.heap.size _ _ ((rd_T33 l0 x5_1).f1) from Kd.V_mk ul291_1 ge291_1)
     clear hva_ hvn_ hvc_ ge291_1 ul291_1
     clear hcc291 hce291
     have HR291_0:=zA hi291_0
     have HC291_0:=zA hl291_0
     clear hi291_0 hl291_0
     have HR291_1:=zA hi291_1
     have HC291_1:=zA hl291_1
     clear hi291_1 hl291_1
     replace p291:=eq_true p291
     replace q291:=eq_true q291
     refine start_ (n:=13) (S:=fun w'=>w'.cell? ⟨gb290,0,none⟩ = some (.slice A1_0 l1_0.length c1_0)∧w'.cell? ⟨gb290,1,none⟩ = some (.slice A1_1 l1_1.length c1_1)∧w'.cell? (ad291.add ((x5_1).toNat * 2)) = some (.slice A291_0 ((rd_T33 l0 x5_1).f0).length c291_0)∧w'.cell? ⟨(ad291.add ((x5_1).toNat * 2)).block,(ad291.add ((x5_1).toNat * 2)).off+1,none⟩ = some (.slice A291_1 ((rd_T33 l0 x5_1).f1).length c291_1)) (ds:=[]) #[false,false,false,false,false,false,false,false,false,false,false,false,false] (by kernel_rfl) rfl rfl ⟨(zc BK290.out 0).trans rfl,(zc BK290.out 1).trans rfl,hx291_0,hx291_1⟩ (fun hHeld=>?_);refine with_tabW spec_l3Put.tab2 spec_l3Put.bits2 (fun HT_ HW_=>?_)
     generalize wr.drew = w8 at HO_0 HO_291000 HO_291001 BK290 HB HL291_0 HL291_1 HR291_0 HR291_1 hx291_0 hx291_1 hHeld ⊢
     refine pure_ (i:=0) (N:=some 7) (v:=?_) (a':=?_) #[true,false,false,false,false,false,false,false,false,false,false,false,false] rfl rfl (any_of HT_.out (by kernel_rfl)) (fun _ _ _ h=>h) (Or.inl ⟨by rfl,?_⟩) ?_ ?_
     rotate_left
     ·intro w'
      go_simp
      with_reducible rfl
     rotate_left
     ·simp only [Act.put,zE,zG,zH,i64_w,i32_w]
      rfl
     refine pure_ (i:=1) (N:=some 8) (v:=?_) (a':=?_) #[true,true,false,false,false,false,false,false,false,false,false,false,false] rfl rfl (any_of HT_.out (by kernel_rfl)) (fun _ _ _ h=>h) (Or.inl ⟨by rfl,?_⟩) ?_ ?_
     rotate_left
     ·intro w'
      go_simp
      with_reducible rfl
     rotate_left
     ·simp only [Act.put,zE,zG,zH,i64_w,i32_w]
      rfl
     refine pure_ (i:=2) (N:=some 9) (v:=?_) (a':=?_) #[true,true,true,false,false,false,false,false,false,false,false,false,false] rfl rfl (any_of HT_.out (by kernel_rfl)) (fun _ _ _ h=>h) (Or.inl ⟨by rfl,?_⟩) ?_ ?_
     rotate_left
     ·intro w'
      go_simp
      with_reducible rfl
     rotate_left
     ·simp only [Act.put,zE,zG,zH,i64_w,i32_w]
      rfl
     refine pure_ (i:=3) (N:=some 10) (v:=?_) (a':=?_) #[true,true,true,true,false,false,false,false,false,false,false,false,false] rfl rfl (any_of HT_.out (by kernel_rfl)) (fun _ _ _ h=>h) (Or.inl ⟨by rfl,?_⟩) ?_ ?_
     rotate_left
     ·intro w'
      go_simp
      with_reducible rfl
     rotate_left
     ·simp only [Act.put,zE,zG,zH,i64_w,i32_w]
      rfl
     refine pure_ (i:=4) (N:=some 11) (v:=?_) (a':=?_) #[true,true,true,true,true,false,false,false,false,false,false,false,false] rfl rfl (any_of HT_.out (by kernel_rfl)) (fun _ _ _ h=>h) (Or.inl ⟨by rfl,?_⟩) ?_ ?_
     rotate_left
     ·intro w'
      go_simp
      with_reducible rfl
     rotate_left
     ·simp only [Act.put,zE,zG,zH,i64_w,i32_w]
      rfl
     refine pure_ (i:=5) (N:=some 12) (v:=?_) (a':=?_) #[true,true,true,true,true,true,false,false,false,false,false,false,false] rfl rfl (any_of HT_.out (by kernel_rfl)) (fun _ _ _ h=>h) (Or.inl ⟨by rfl,?_⟩) ?_ ?_
     rotate_left
     ·intro w'
      go_simp
      with_reducible rfl
     rotate_left
     ·simp only [Act.put,zE,zG,zH,i64_w,i32_w]
      rfl
     refine pure_ (i:=6) (N:=some 13) (v:=?_) (a':=?_) #[true,true,true,true,true,true,true,false,false,false,false,false,false] rfl rfl (any_of HT_.out (by kernel_rfl)) (fun _ _ _ h=>h) (Or.inl ⟨by rfl,?_⟩) ?_ ?_
     rotate_left
     ·intro w'
      go_simp
      with_reducible rfl
     rotate_left
     ·simp only [Act.put,zE,zG,zH,i64_w,i32_w]
      rfl
     refine pure_ (i:=7) (N:=some 14) (v:=?_) (a':=?_) #[true,true,true,true,true,true,true,true,false,false,false,false,false] rfl rfl (any_of HT_.out (by kernel_rfl)) (fun _ _ _ h=>h) (Or.inl ⟨by rfl,?_⟩) ?_ ?_
     rotate_left
     ·intro w'
      go_simp
      with_reducible rfl
     rotate_left
     ·simp only [Act.put,zE,zG,zH,i64_w,i32_w]
      rfl
     refine take_ (i:=8) (N:=some 15) (v:=?_) (a':=?_) #[true,true,true,true,true,true,true,true,true,false,false,false,false] rfl rfl (take_ofW HT_.out HW_.out (by kernel_rfl)) (fun _ _ _ h=>h) (Or.inl ⟨by rfl,?_⟩) hHeld ?_ ?_
     rotate_left
     ·rintro w' ⟨s0,s1,s2,s3⟩
      go_simp
      with_reducible rfl
     rotate_left
     ·simp only [Act.put,zE,zG,zH,i64_w,i32_w]
      rfl
     refine take_ (i:=9) (N:=some 16) (v:=?_) (a':=?_) #[true,true,true,true,true,true,true,true,true,true,false,false,false] rfl rfl (take_ofW HT_.out HW_.out (by kernel_rfl)) (fun _ _ _ h=>h) (Or.inl ⟨by rfl,?_⟩) hHeld ?_ ?_
     rotate_left
     ·rintro w' ⟨s0,s1,s2,s3⟩
      go_simp
      with_reducible rfl
     rotate_left
     ·simp only [Act.put,zE,zG,zH,i64_w,i32_w]
      rfl
     refine one_ (i:=10) (N:=some 17) #[true,true,true,true,true,true,true,true,true,true,true,false,false] rfl rfl (one_of HT_.out (by kernel_rfl)) (by decide) (fun K hK=>?_)
     refine goes_ Try.func83 (by kernel_rfl) rfl #[.agg #[.slice A291_0 ((rd_T33 l0 x5_1).f0).length c291_0,.slice A291_1 ((rd_T33 l0 x5_1).f1).length c291_1],.agg #[.slice A1_0 l1_0.length c1_0,.slice A1_1 l1_1.length c1_1]] (by rfl) rfl rfl (by (try simp only [zP,zS,zT]);first|done|rfl|(simp only [zR,zQ];rfl)) ?_
     with_reducible refine (spec_l2Before.calls k1 _ _ ((rd_T33 l0 x5_1).f0) _ _ ((rd_T33 l0 x5_1).f1) _ _ l1_0 _ _ l1_1 t292 _ ?side1 ?side2 ?side3 ?side4 ?side5 ?side6 ?side7 ?side8 A6.out).mono ?_
     (case side1=>repeat (first|exact (by repeat (first|(with_reducible exact HR291_0.out)|(with_reducible refine zW ?_ _)|(with_reducible refine zX ?_ _)|(with_reducible refine zY ?_)|exact HR291_0.out))|(with_reducible refine zW ?_ _)|(with_reducible refine zX ?_ _)|(with_reducible refine zY ?_)))
     (case side2=>exact HC291_0.out)
     (case side3=>repeat (first|exact (by repeat (first|(with_reducible exact HR291_1.out)|(with_reducible refine zW ?_ _)|(with_reducible refine zX ?_ _)|(with_reducible refine zY ?_)|exact HR291_1.out))|(with_reducible refine zW ?_ _)|(with_reducible refine zX ?_ _)|(with_reducible refine zY ?_)))
     (case side4=>exact HC291_1.out)
     (case side5=>repeat (first|exact (zv HO_291000.out).2.2|(with_reducible refine zW ?_ _)|(with_reducible refine zX ?_ _)|(with_reducible refine zY ?_)))
     (case side6=>exact (zv HO_291000.out).2.1)
     (case side7=>repeat (first|exact (zv HO_291001.out).2.2|(with_reducible refine zW ?_ _)|(with_reducible refine zX ?_ _)|(with_reducible refine zY ?_)))
     (case side8=>exact (zv HO_291001.out).2.1)
     rintro e w9 ⟨rfl,hb⟩
     have HS2_:=(hb.cell (zk _ _ (hHeld.2.2.1))).trans (hHeld.2.2.1)
     have HS3_:=(hb.cell (zk _ _ (hHeld.2.2.2))).trans (hHeld.2.2.2)
     refine ⟨_,rfl,?_⟩
     have n0_:=zA (Kd.V_below (by (with_reducible repeat (first|apply zi|apply zj|apply zh));exact HO_0.out) hb)
     have n1_:=zA (Kd.V_below (by (with_reducible repeat (first|apply zi|apply zj|apply zh));exact HO_291000.out) hb)
     have n2_:=zA (Kd.V_below (by (with_reducible repeat (first|apply zi|apply zj|apply zh));exact HO_291001.out) hb)
     have n3_:=zA (Kd.V_below (by (with_reducible repeat (first|apply zi|apply zj|apply zh));exact HL291_0.out) hb)
     have n4_:=zA (Kd.V_below (by (with_reducible repeat (first|apply zi|apply zj|apply zh));exact HL291_1.out) hb)
     have n5_:=zA (zg (g:=gb290) (o:=.cells #[.slice A1_0 l1_0.length c1_0,.slice A1_1 l1_1.length c1_1] 33 (0,0)) (by (with_reducible repeat (first|refine zM ?_ _|refine zO ?_|refine zN ?_ _));exact BK290.out) hb)
     have n6_:=zA (zf (by repeat (first|(with_reducible exact HR291_0.out)|(with_reducible refine zW ?_ _)|(with_reducible refine zX ?_ _)|(with_reducible refine zY ?_)|exact HR291_0.out)) hb)
     have n7_:=zA (zf (by repeat (first|(with_reducible exact HR291_1.out)|(with_reducible refine zW ?_ _)|(with_reducible refine zX ?_ _)|(with_reducible refine zY ?_)|exact HR291_1.out)) hb)
     have n8_:=zA (za (by repeat (first|(with_reducible first|exact HB.out|apply zD|apply zB|apply zC|refine zI ?_ GE290.out)|exact HB.out)) hb)
     clear HO_0
     clear HO_291000
     clear HO_291001
     clear HL291_0
     clear HL291_1
     clear BK290
     clear HR291_0
     clear HR291_1
     clear HB
     have HO_0:=n0_
     have HO_291000:=n1_
     have HO_291001:=n2_
     have HL291_0:=n3_
     have HL291_1:=n4_
     have BK290:=n5_
     have HR291_0:=n6_
     have HR291_1:=n7_
     have HB:=n8_
     clear n0_ n1_ n2_ n3_ n4_ n5_ n6_ n7_ n8_
     (try clear hb)
     (try clear hb2)
     (try clear hk)
     (try clear hi)
     refine hK.out _ _ ⟨(zc BK290.out 0).trans rfl,(zc BK290.out 1).trans rfl,HS2_,HS3_⟩ (fun hHeld=>?_)
     clear hK K
     refine norm_ (a':=?_) ?_ ?_
     rotate_left
     ·show Act.put _ (some 17) _ = _
      simp only [Act.put,zE,zG,zH,i64_w,i32_w]
      rfl
     refine pure_ (i:=11) (N:=some 18) (v:=?_) (a':=?_) #[true,true,true,true,true,true,true,true,true,true,true,true,false] rfl rfl (any_of HT_.out (by kernel_rfl)) (fun _ _ _ h=>h) (Or.inl ⟨by rfl,?_⟩) ?_ ?_
     rotate_left
     ·intro w'
      go_simp
      with_reducible rfl
     rotate_left
     ·simp only [Act.put,zE,zG,zH,i64_w,i32_w]
      rfl
     refine pure_ (i:=12) (N:=some 19) (v:=?_) (a':=?_) #[true,true,true,true,true,true,true,true,true,true,true,true,true] rfl rfl (any_of HT_.out (by kernel_rfl)) (fun _ _ _ h=>h) (Or.inl ⟨by rfl,?_⟩) ?_ ?_
     rotate_left
     ·intro w'
      go_simp
      with_reducible rfl
     rotate_left
     ·simp only [Act.put,zE,zG,zH,i64_w,i32_w]
      rfl
     refine done_ (done_of HT_.out (by kernel_rfl)) ?_
     have H:=H9_.out
     clear H9_
     by_cases c7:t292 < 0
     ·rw [if_pos c7] at H
      have c7b0:decide (t292 < 0) = true:=zU c7
      clear c7
      try rw [c7b0]
      have H':=zA H
      clear H
      try go_wp2
      go_roundg k1
      case measure=>have:=HK1.out;omega
      case rel=>exact ⟨(wrap64 (x5_1+1)),(by first|rfl|(simp;done)|(simp [*];done)),H',⟨by have:=HK1.out;omega⟩,⟨by (with_reducible repeat (first|apply zi|apply zj|apply zh));exact HO_0.out⟩,⟨by (with_reducible repeat (first|apply zi|apply zj|apply zh));exact HO_291000.out⟩,⟨by (with_reducible repeat (first|apply zi|apply zj|apply zh));exact HO_291001.out⟩,⟨by (with_reducible repeat (first|refine zM ?_ _|refine zO ?_|refine zN ?_ _));exact BK290.out⟩,⟨by repeat (first|(with_reducible first|exact HB.out|apply zD|apply zB|apply zC|refine zI ?_ GE290.out)|exact HB.out)⟩⟩
     ·rw [if_neg c7] at H
      have c7b0:decide (t292 < 0) = false:=zV c7
      clear c7
      try rw [c7b0]
      replace H:=zz0 H
      obtain ⟨t294,A100,H⟩:=H
      replace H:(if t294 = 0 then (some l0) else ((some (([]:List (S33)):List (S33))).bind fun y295=>(if x5_1≤(l0.length:Int) then ((some (l0.take (x5_1:Int).toNat:List (S33))).bind fun y298=>(if y295.length+y298.length < 2932031007402 then ((some (y295 ++ y298:List (S33))).bind fun y303=>(if y303.length < 2932031007402 then ((some (y303 ++ [(⟨l1_0,l1_1⟩:S33)]:List (S33))).bind fun y306=>((some (l0.drop (x5_1:Int).toNat:List (S33))).bind fun y309=>(if y306.length+y309.length < 2932031007402 then (some (y306 ++ y309)) else (none)))) else (none))) else (none))) else (none)))) = some r:=H
      have A10:=zA A100
      clear A100
      have H9_:=zA H
      clear H
      try go_wp2
      have n0_:=zA (zh HO_0.out)
      have n1_:=zA (zh HO_291000.out)
      have n2_:=zA (zh HO_291001.out)
      have n3_:=zA (zh HL291_0.out)
      have n4_:=zA (zh HL291_1.out)
      have n5_:=zA (zO BK290.out)
      have n6_:=zA (zY HR291_0.out)
      have n7_:=zA (zY HR291_1.out)
      have n8_:=zA (zC HB.out)
      clear HO_0
      clear HO_291000
      clear HO_291001
      clear HL291_0
      clear HL291_1
      clear BK290
      clear HR291_0
      clear HR291_1
      clear HB
      have HO_0:=n0_
      have HO_291000:=n1_
      have HO_291001:=n2_
      have HL291_0:=n3_
      have HL291_1:=n4_
      have BK290:=n5_
      have HR291_0:=n6_
      have HR291_1:=n7_
      have HB:=n8_
      clear n0_ n1_ n2_ n3_ n4_ n5_ n6_ n7_ n8_
      have p293:0≤(x5_1:Int):=zF (by first|(with_reducible assumption)|assumption)
      have q293:x5_1 < (l0.length:Int):=zF (by first|(with_reducible assumption)|assumption)
      obtain ⟨ad293,A293_0,c293_0,A293_1,c293_1,e293,hx293_0,hx293_1,hl293_0,hi293_0,hl293_1,hi293_1⟩:=at_T33 (zv HO_0.out).2.2 x5_1 p293 q293
      obtain rfl:ad291 = ad293:=(by injection e293)
      obtain ⟨ce293,hce293,hMe293,hcc293⟩:=Kd.V_get HO_0.out z33 x5_1 p293 (by first|exact q293|exact zF (by first|(with_reducible assumption)|assumption)|(have e_:=(zv HO_0.out).1;omega))
      obtain ⟨ua293_0,uc293_0,ua293_1,uc293_1,rfl,ul293_0,ge293_0,ul293_1,ge293_1⟩:=k33_openF hMe293
      have hv293_0:=hcc293 0 _ rfl
      rw [Nat.add_zero] at hv293_0
      replace hv293_0:=zb (hv293_0.symm.trans hx293_0)
      injection hv293_0 with hva_ hvn_ hvc_
      rw [hva_] at ge293_0
      rw [hvc_] at ul293_0
      have HL293_0:=zA (show Kd.V (Kd.int .i64) 3 _ w.heap.size _ _ ((rd_T33 l0 x5_1).f0) from Kd.V_mk ul293_0 ge293_0)
      clear hva_ hvn_ hvc_ ge293_0 ul293_0
      have hv293_1:=hcc293 1 _ rfl
      rw [add_field _ _ 1 (by omega)] at hv293_1
      replace hv293_1:=zb (hv293_1.symm.trans hx293_1)
      injection hv293_1 with hva_ hvn_ hvc_
      rw [hva_] at ge293_1
      rw [hvc_] at ul293_1
      have HL293_1:=zA (show Kd.V (Kd.int .i64) 3 _ w.heap.size _ _ ((rd_T33 l0 x5_1).f1) from Kd.V_mk ul293_1 ge293_1)
      clear hva_ hvn_ hvc_ ge293_1 ul293_1
      clear hcc293 hce293
      have HR293_0:=zA hi293_0
      have HC293_0:=zA hl293_0
      clear hi293_0 hl293_0
      have HR293_1:=zA hi293_1
      have HC293_1:=zA hl293_1
      clear hi293_1 hl293_1
      replace p293:=eq_true p293
      replace q293:=eq_true q293
      refine start_ (n:=13) (S:=fun w'=>w'.cell? ⟨gb290,0,none⟩ = some (.slice A1_0 l1_0.length c1_0)∧w'.cell? ⟨gb290,1,none⟩ = some (.slice A1_1 l1_1.length c1_1)∧w'.cell? (ad291.add ((x5_1).toNat * 2)) = some (.slice A293_0 ((rd_T33 l0 x5_1).f0).length c293_0)∧w'.cell? ⟨(ad291.add ((x5_1).toNat * 2)).block,(ad291.add ((x5_1).toNat * 2)).off+1,none⟩ = some (.slice A293_1 ((rd_T33 l0 x5_1).f1).length c293_1)) (ds:=[]) #[false,false,false,false,false,false,false,false,false,false,false,false,false] (by kernel_rfl) rfl rfl ⟨(zc BK290.out 0).trans rfl,(zc BK290.out 1).trans rfl,hx293_0,hx293_1⟩ (fun hHeld=>?_);refine with_tabW spec_l3Put.tab4 spec_l3Put.bits4 (fun HT_ HW_=>?_)
      generalize w9.drew = w14 at HO_0 HO_291000 HO_291001 HL291_0 HL291_1 BK290 HR291_0 HR291_1 HB HL293_0 HL293_1 HR293_0 HR293_1 hx293_0 hx293_1 hHeld ⊢
      refine pure_ (i:=0) (N:=some 22) (v:=?_) (a':=?_) #[true,false,false,false,false,false,false,false,false,false,false,false,false] rfl rfl (any_of HT_.out (by kernel_rfl)) (fun _ _ _ h=>h) (Or.inl ⟨by rfl,?_⟩) ?_ ?_
      rotate_left
      ·intro w'
       go_simp
       with_reducible rfl
      rotate_left
      ·simp only [Act.put,zE,zG,zH,i64_w,i32_w]
       rfl
      refine pure_ (i:=1) (N:=some 23) (v:=?_) (a':=?_) #[true,true,false,false,false,false,false,false,false,false,false,false,false] rfl rfl (any_of HT_.out (by kernel_rfl)) (fun _ _ _ h=>h) (Or.inl ⟨by rfl,?_⟩) ?_ ?_
      rotate_left
      ·intro w'
       go_simp
       with_reducible rfl
      rotate_left
      ·simp only [Act.put,zE,zG,zH,i64_w,i32_w]
       rfl
      refine pure_ (i:=2) (N:=some 24) (v:=?_) (a':=?_) #[true,true,true,false,false,false,false,false,false,false,false,false,false] rfl rfl (any_of HT_.out (by kernel_rfl)) (fun _ _ _ h=>h) (Or.inl ⟨by rfl,?_⟩) ?_ ?_
      rotate_left
      ·intro w'
       go_simp
       with_reducible rfl
      rotate_left
      ·simp only [Act.put,zE,zG,zH,i64_w,i32_w]
       rfl
      refine pure_ (i:=3) (N:=some 25) (v:=?_) (a':=?_) #[true,true,true,true,false,false,false,false,false,false,false,false,false] rfl rfl (any_of HT_.out (by kernel_rfl)) (fun _ _ _ h=>h) (Or.inl ⟨by rfl,?_⟩) ?_ ?_
      rotate_left
      ·intro w'
       go_simp
       with_reducible rfl
      rotate_left
      ·simp only [Act.put,zE,zG,zH,i64_w,i32_w]
       rfl
      refine pure_ (i:=4) (N:=some 26) (v:=?_) (a':=?_) #[true,true,true,true,true,false,false,false,false,false,false,false,false] rfl rfl (any_of HT_.out (by kernel_rfl)) (fun _ _ _ h=>h) (Or.inl ⟨by rfl,?_⟩) ?_ ?_
      rotate_left
      ·intro w'
       go_simp
       with_reducible rfl
      rotate_left
      ·simp only [Act.put,zE,zG,zH,i64_w,i32_w]
       rfl
      refine pure_ (i:=5) (N:=some 27) (v:=?_) (a':=?_) #[true,true,true,true,true,true,false,false,false,false,false,false,false] rfl rfl (any_of HT_.out (by kernel_rfl)) (fun _ _ _ h=>h) (Or.inl ⟨by rfl,?_⟩) ?_ ?_
      rotate_left
      ·intro w'
       go_simp
       with_reducible rfl
      rotate_left
      ·simp only [Act.put,zE,zG,zH,i64_w,i32_w]
       rfl
      refine pure_ (i:=6) (N:=some 28) (v:=?_) (a':=?_) #[true,true,true,true,true,true,true,false,false,false,false,false,false] rfl rfl (any_of HT_.out (by kernel_rfl)) (fun _ _ _ h=>h) (Or.inl ⟨by rfl,?_⟩) ?_ ?_
      rotate_left
      ·intro w'
       go_simp
       with_reducible rfl
      rotate_left
      ·simp only [Act.put,zE,zG,zH,i64_w,i32_w]
       rfl
      refine pure_ (i:=7) (N:=some 29) (v:=?_) (a':=?_) #[true,true,true,true,true,true,true,true,false,false,false,false,false] rfl rfl (any_of HT_.out (by kernel_rfl)) (fun _ _ _ h=>h) (Or.inl ⟨by rfl,?_⟩) ?_ ?_
      rotate_left
      ·intro w'
       go_simp
       with_reducible rfl
      rotate_left
      ·simp only [Act.put,zE,zG,zH,i64_w,i32_w]
       rfl
      refine take_ (i:=8) (N:=some 30) (v:=?_) (a':=?_) #[true,true,true,true,true,true,true,true,true,false,false,false,false] rfl rfl (take_ofW HT_.out HW_.out (by kernel_rfl)) (fun _ _ _ h=>h) (Or.inl ⟨by rfl,?_⟩) hHeld ?_ ?_
      rotate_left
      ·rintro w' ⟨s0,s1,s2,s3⟩
       go_simp
       with_reducible rfl
      rotate_left
      ·simp only [Act.put,zE,zG,zH,i64_w,i32_w]
       rfl
      refine take_ (i:=9) (N:=some 31) (v:=?_) (a':=?_) #[true,true,true,true,true,true,true,true,true,true,false,false,false] rfl rfl (take_ofW HT_.out HW_.out (by kernel_rfl)) (fun _ _ _ h=>h) (Or.inl ⟨by rfl,?_⟩) hHeld ?_ ?_
      rotate_left
      ·rintro w' ⟨s0,s1,s2,s3⟩
       go_simp
       with_reducible rfl
      rotate_left
      ·simp only [Act.put,zE,zG,zH,i64_w,i32_w]
       rfl
      refine one_ (i:=10) (N:=some 32) #[true,true,true,true,true,true,true,true,true,true,true,false,false] rfl rfl (one_of HT_.out (by kernel_rfl)) (by decide) (fun K hK=>?_)
      refine goes_ Try.func83 (by kernel_rfl) rfl #[.agg #[.slice A293_0 ((rd_T33 l0 x5_1).f0).length c293_0,.slice A293_1 ((rd_T33 l0 x5_1).f1).length c293_1],.agg #[.slice A1_0 l1_0.length c1_0,.slice A1_1 l1_1.length c1_1]] (by rfl) rfl rfl (by (try simp only [zP,zS,zT]);first|done|rfl|(simp only [zR,zQ];rfl)) ?_
      with_reducible refine (spec_l2Before.calls k1 _ _ ((rd_T33 l0 x5_1).f0) _ _ ((rd_T33 l0 x5_1).f1) _ _ l1_0 _ _ l1_1 t294 _ ?side1 ?side2 ?side3 ?side4 ?side5 ?side6 ?side7 ?side8 A10.out).mono ?_
      (case side1=>repeat (first|exact (by repeat (first|(with_reducible exact HR293_0.out)|(with_reducible refine zW ?_ _)|(with_reducible refine zX ?_ _)|(with_reducible refine zY ?_)|exact HR293_0.out))|(with_reducible refine zW ?_ _)|(with_reducible refine zX ?_ _)|(with_reducible refine zY ?_)))
      (case side2=>exact HC293_0.out)
      (case side3=>repeat (first|exact (by repeat (first|(with_reducible exact HR293_1.out)|(with_reducible refine zW ?_ _)|(with_reducible refine zX ?_ _)|(with_reducible refine zY ?_)|exact HR293_1.out))|(with_reducible refine zW ?_ _)|(with_reducible refine zX ?_ _)|(with_reducible refine zY ?_)))
      (case side4=>exact HC293_1.out)
      (case side5=>repeat (first|exact (zv HO_291000.out).2.2|(with_reducible refine zW ?_ _)|(with_reducible refine zX ?_ _)|(with_reducible refine zY ?_)))
      (case side6=>exact (zv HO_291000.out).2.1)
      (case side7=>repeat (first|exact (zv HO_291001.out).2.2|(with_reducible refine zW ?_ _)|(with_reducible refine zX ?_ _)|(with_reducible refine zY ?_)))
      (case side8=>exact (zv HO_291001.out).2.1)
      rintro e w15 ⟨rfl,hb⟩
      have HS2_:=(hb.cell (zk _ _ (hHeld.2.2.1))).trans (hHeld.2.2.1)
      have HS3_:=(hb.cell (zk _ _ (hHeld.2.2.2))).trans (hHeld.2.2.2)
      refine ⟨_,rfl,?_⟩
      have n0_:=zA (Kd.V_below (by (with_reducible repeat (first|apply zi|apply zj|apply zh));exact HO_0.out) hb)
      have n1_:=zA (Kd.V_below (by (with_reducible repeat (first|apply zi|apply zj|apply zh));exact HO_291000.out) hb)
      have n2_:=zA (Kd.V_below (by (with_reducible repeat (first|apply zi|apply zj|apply zh));exact HO_291001.out) hb)
      have n3_:=zA (Kd.V_below (by (with_reducible repeat (first|apply zi|apply zj|apply zh));exact HL291_0.out) hb)
      have n4_:=zA (Kd.V_below (by (with_reducible repeat (first|apply zi|apply zj|apply zh));exact HL291_1.out) hb)
      have n5_:=zA (Kd.V_below (by (with_reducible repeat (first|apply zi|apply zj|apply zh));exact HL293_0.out) hb)
      have n6_:=zA (Kd.V_below (by (with_reducible repeat (first|apply zi|apply zj|apply zh));exact HL293_1.out) hb)
      have n7_:=zA (zg (g:=gb290) (o:=.cells #[.slice A1_0 l1_0.length c1_0,.slice A1_1 l1_1.length c1_1] 33 (0,0)) (by (with_reducible repeat (first|refine zM ?_ _|refine zO ?_|refine zN ?_ _));exact BK290.out) hb)
      have n8_:=zA (zf (by repeat (first|(with_reducible exact HR291_0.out)|(with_reducible refine zW ?_ _)|(with_reducible refine zX ?_ _)|(with_reducible refine zY ?_)|exact HR291_0.out)) hb)
      have n9_:=zA (zf (by repeat (first|(with_reducible exact HR291_1.out)|(with_reducible refine zW ?_ _)|(with_reducible refine zX ?_ _)|(with_reducible refine zY ?_)|exact HR291_1.out)) hb)
      have n10_:=zA (zf (by repeat (first|(with_reducible exact HR293_0.out)|(with_reducible refine zW ?_ _)|(with_reducible refine zX ?_ _)|(with_reducible refine zY ?_)|exact HR293_0.out)) hb)
      have n11_:=zA (zf (by repeat (first|(with_reducible exact HR293_1.out)|(with_reducible refine zW ?_ _)|(with_reducible refine zX ?_ _)|(with_reducible refine zY ?_)|exact HR293_1.out)) hb)
      have n12_:=zA (za (by repeat (first|(with_reducible first|exact HB.out|apply zD|apply zB|apply zC|refine zI ?_ GE290.out)|exact HB.out)) hb)
      clear HO_0
      clear HO_291000
      clear HO_291001
      clear HL291_0
      clear HL291_1
      clear HL293_0
      clear HL293_1
      clear BK290
      clear HR291_0
      clear HR291_1
      clear HR293_0
      clear HR293_1
      clear HB
      have HO_0:=n0_
      have HO_291000:=n1_
      have HO_291001:=n2_
      have HL291_0:=n3_
      have HL291_1:=n4_
      have HL293_0:=n5_
      have HL293_1:=n6_
      have BK290:=n7_
      have HR291_0:=n8_
      have HR291_1:=n9_
      have HR293_0:=n10_
      have HR293_1:=n11_
      have HB:=n12_
      clear n0_ n1_ n2_ n3_ n4_ n5_ n6_ n7_ n8_ n9_ n10_ n11_ n12_
      (try clear hb)
      (try clear hb2)
      (try clear hk)
      (try clear hi)
      refine hK.out _ _ ⟨(zc BK290.out 0).trans rfl,(zc BK290.out 1).trans rfl,HS2_,HS3_⟩ (fun hHeld=>?_)
      clear hK K
      refine norm_ (a':=?_) ?_ ?_
      rotate_left
      ·show Act.put _ (some 32) _ = _
       simp only [Act.put,zE,zG,zH,i64_w,i32_w]
       rfl
      refine pure_ (i:=11) (N:=some 33) (v:=?_) (a':=?_) #[true,true,true,true,true,true,true,true,true,true,true,true,false] rfl rfl (any_of HT_.out (by kernel_rfl)) (fun _ _ _ h=>h) (Or.inl ⟨by rfl,?_⟩) ?_ ?_
      rotate_left
      ·intro w'
       go_simp
       with_reducible rfl
      rotate_left
      ·simp only [Act.put,zE,zG,zH,i64_w,i32_w]
       rfl
      refine pure_ (i:=12) (N:=some 34) (v:=?_) (a':=?_) #[true,true,true,true,true,true,true,true,true,true,true,true,true] rfl rfl (any_of HT_.out (by kernel_rfl)) (fun _ _ _ h=>h) (Or.inl ⟨by rfl,?_⟩) ?_ ?_
      rotate_left
      ·intro w'
       go_simp
       with_reducible rfl
      rotate_left
      ·simp only [Act.put,zE,zG,zH,i64_w,i32_w]
       rfl
      refine done_ (done_of HT_.out (by kernel_rfl)) ?_
      have H:=H9_.out
      clear H9_
      by_cases c11:t294 = 0
      ·rw [if_pos c11] at H
       have c11b0:(t294 == 0) = true:=beq_iff_eq.mpr c11
       have c11b1:(t294 != 0) = false:=bne_eq_false_iff_eq.mpr c11
       clear c11
       try rw [c11b0]
       obtain rfl:=zb H
       try go_wp2
       go_ret
       exact ⟨_,by first|rfl|(simp [errW_none,errW_some] <;> rfl)|(simp [*,errW_none,errW_some] <;> rfl),by (with_reducible repeat (first|apply zi|apply zj|apply zh));exact Kd.V_mono HO_0.out (fun _ hk=>hk.1),by repeat (first|(with_reducible first|exact HB.out|apply zD|apply zB|apply zC|refine zI ?_ GE290.out)|exact HB.out)⟩
      ·rw [if_neg c11] at H
       have c11b0:(t294 == 0) = false:=beq_eq_false_iff_ne.mpr c11
       have c11b1:(t294 != 0) = true:=bne_iff_ne.mpr c11
       obtain ⟨y295,hy295⟩:∃ y_:List (S33),y_ = (([]:List (S33))):=⟨_,rfl⟩
       replace H:(if x5_1≤(l0.length:Int) then ((some (l0.take (x5_1:Int).toNat:List (S33))).bind fun y298=>(if y295.length+y298.length < 2932031007402 then ((some (y295 ++ y298:List (S33))).bind fun y303=>(if y303.length < 2932031007402 then ((some (y303 ++ [(⟨l1_0,l1_1⟩:S33)]:List (S33))).bind fun y306=>((some (l0.drop (x5_1:Int).toNat:List (S33))).bind fun y309=>(if y306.length+y309.length < 2932031007402 then (some (y306 ++ y309)) else (none)))) else (none))) else (none))) else (none)) = some r:=by first|(rw [hy295];with_reducible exact H)|(have H2_:=(Option.bind_some _ _).symm.trans H;rw [hy295];with_reducible exact H2_)|(have H2_:=(Option.bind_some _ _).symm.trans H;with_reducible exact H2_)|with_reducible exact H|(rw [hy295];exact H)|exact H
       have Ny295:=zA hy295
       clear hy295
       have c16b0:=eq_true (zF (by first|(with_reducible assumption)|assumption):0≤x5_1)
       by_cases c17:x5_1≤(l0.length:Int)
       ·rw [if_pos c17] at H
        have c17b0:=eq_true c17
        have c17b1:decide (x5_1≤(l0.length:Int)) = true:=zU c17
        clear c17
        obtain ⟨y298,hy298⟩:∃ y_:List (S33),y_ = (l0.take (x5_1:Int).toNat):=⟨_,rfl⟩
        replace H:(if y295.length+y298.length < 2932031007402 then ((some (y295 ++ y298:List (S33))).bind fun y303=>(if y303.length < 2932031007402 then ((some (y303 ++ [(⟨l1_0,l1_1⟩:S33)]:List (S33))).bind fun y306=>((some (l0.drop (x5_1:Int).toNat:List (S33))).bind fun y309=>(if y306.length+y309.length < 2932031007402 then (some (y306 ++ y309)) else (none)))) else (none))) else (none)) = some r:=by first|(rw [hy298];with_reducible exact H)|(have H2_:=(Option.bind_some _ _).symm.trans H;rw [hy298];with_reducible exact H2_)|(have H2_:=(Option.bind_some _ _).symm.trans H;with_reducible exact H2_)|with_reducible exact H|(rw [hy298];exact H)|exact H
        have Ny298:=zA hy298
        clear hy298
        by_cases c18:y295.length+y298.length < 2932031007402
        ·rw [if_pos c18] at H
         have LMc18:=zA c18
         clear c18
         obtain ⟨y303,hy303⟩:∃ y_:List (S33),y_ = (y295 ++ y298):=⟨_,rfl⟩
         replace H:(if y303.length < 2932031007402 then ((some (y303 ++ [(⟨l1_0,l1_1⟩:S33)]:List (S33))).bind fun y306=>((some (l0.drop (x5_1:Int).toNat:List (S33))).bind fun y309=>(if y306.length+y309.length < 2932031007402 then (some (y306 ++ y309)) else (none)))) else (none)) = some r:=by first|(rw [hy303];with_reducible exact H)|(have H2_:=(Option.bind_some _ _).symm.trans H;rw [hy303];with_reducible exact H2_)|(have H2_:=(Option.bind_some _ _).symm.trans H;with_reducible exact H2_)|with_reducible exact H|(rw [hy303];exact H)|exact H
         have Ny303:=zA hy303
         clear hy303
         by_cases c19:y303.length < 2932031007402
         ·rw [if_pos c19] at H
          have LMc19:=zA c19
          clear c19
          obtain ⟨y306,hy306⟩:∃ y_:List (S33),y_ = (y303 ++ [(⟨l1_0,l1_1⟩:S33)]):=⟨_,rfl⟩
          replace H:((some (l0.drop (x5_1:Int).toNat:List (S33))).bind fun y309=>(if y306.length+y309.length < 2932031007402 then (some (y306 ++ y309)) else (none))) = some r:=by first|(rw [hy306];with_reducible exact H)|(have H2_:=(Option.bind_some _ _).symm.trans H;rw [hy306];with_reducible exact H2_)|(have H2_:=(Option.bind_some _ _).symm.trans H;with_reducible exact H2_)|with_reducible exact H|(rw [hy306];exact H)|exact H
          have Ny306:=zA hy306
          clear hy306
          have c20b0:=eq_true (zF (by first|(with_reducible assumption)|assumption):0≤x5_1)
          have c21b0:=eq_true (zF (by first|(with_reducible assumption)|assumption):x5_1≤(l0.length:Int))
          obtain ⟨y309,hy309⟩:∃ y_:List (S33),y_ = (l0.drop (x5_1:Int).toNat):=⟨_,rfl⟩
          replace H:(if y306.length+y309.length < 2932031007402 then (some (y306 ++ y309)) else (none)) = some r:=by first|(rw [hy309];with_reducible exact H)|(have H2_:=(Option.bind_some _ _).symm.trans H;rw [hy309];with_reducible exact H2_)|(have H2_:=(Option.bind_some _ _).symm.trans H;with_reducible exact H2_)|with_reducible exact H|(rw [hy309];exact H)|exact H
          have Ny309:=zA hy309
          clear hy309
          by_cases c22:y306.length+y309.length < 2932031007402
          ·rw [if_pos c22] at H
           have LMc22:=zA c22
           clear c22
           obtain ⟨y314,hy314⟩:∃ y_:List (S33),y_ = (y306 ++ y309):=⟨_,rfl⟩
           replace H:(some y314) = some r:=by first|(rw [hy314];with_reducible exact H)|(have H2_:=(Option.bind_some _ _).symm.trans H;rw [hy314];with_reducible exact H2_)|(have H2_:=(Option.bind_some _ _).symm.trans H;with_reducible exact H2_)|with_reducible exact H|(rw [hy314];exact H)|exact H
           have Ny314:=zA hy314
           clear hy314
           obtain rfl:=zb H
           try go_wp2_with (first|((with_reducible refine gate_dst (N:=36) rfl ?_);refine Kd.N_lit k33 _ 33 ?hg (N':=36) ?hd (xs:=([]:List (S33))) (inner:=[]) (ok:=(fun k_=>((P0_ k_∨P1_0_ k_∨P1_1_ k_)∨w.heap.size≤k_)∧k_≠gb290)) (okp:=(fun k_=>((P0_ k_∨P1_0_ k_∨P1_1_ k_)∨w.heap.size≤k_)∧k_≠gb290)) ?hr ?hp (fun _ hk=>hk) ((show ∀ k_,w15.heap.size≤k_→(fun k_=>((P0_ k_∨P1_0_ k_∨P1_1_ k_)∨w.heap.size≤k_)∧k_≠gb290) k_ from fun k_ hk=>⟨(.inr (Nat.le_trans (zZ (by repeat (first|(with_reducible first|exact HB.out|apply zD|apply zB|apply zC|refine zI ?_ GE290.out)|exact HB.out))) hk)),Kd.freshB (g:=gb290) (o:=.cells #[.slice A1_0 l1_0.length c1_0,.slice A1_1 l1_1.length c1_1] 33 (0,0)) (by (with_reducible repeat (first|refine zM ?_ _|refine zO ?_|refine zN ?_ _));exact BK290.out) k_ hk⟩) _ (Nat.le_refl _)) (Below.refl _ _) (Nat.le_refl _) (by simp) ?_;(case hd=>rfl);(case hg=>rfl);(case hr=>first|(go_simp;done)|(go_simp;rfl));(case hp=>exact (Reps.none _ _));intro v296 w27 ho28 hb hg_ hnew_;clear hg_ hnew_;(first|rw [← Ny295.out] at ho28|(simp only [Int.reduceToNat] at ho28;rw [← Ny295.out] at ho28));have n0_:=zA (Kd.V_elder' (by (with_reducible repeat (first|apply zi|apply zj|apply zh));exact HO_0.out) (Kd.N_base ho28) hb);have n1_:=zA (Kd.V_elder' (by (with_reducible repeat (first|apply zi|apply zj|apply zh));exact HO_291000.out) (Kd.N_base ho28) hb);have n2_:=zA (Kd.V_elder' (by (with_reducible repeat (first|apply zi|apply zj|apply zh));exact HO_291001.out) (Kd.N_base ho28) hb);have n3_:=zA (Kd.V_elder' (by (with_reducible repeat (first|apply zi|apply zj|apply zh));exact HL291_0.out) (Kd.N_base ho28) hb);have n4_:=zA (Kd.V_elder' (by (with_reducible repeat (first|apply zi|apply zj|apply zh));exact HL291_1.out) (Kd.N_base ho28) hb);have n5_:=zA (Kd.V_elder' (by (with_reducible repeat (first|apply zi|apply zj|apply zh));exact HL293_0.out) (Kd.N_base ho28) hb);have n6_:=zA (Kd.V_elder' (by (with_reducible repeat (first|apply zi|apply zj|apply zh));exact HL293_1.out) (Kd.N_base ho28) hb);have n7_:=zA (Kd.N_lower ho28 (zZ (by repeat (first|(with_reducible first|exact HB.out|apply zD|apply zB|apply zC|refine zI ?_ GE290.out)|exact HB.out))));have n8_:=zA (zg (g:=gb290) (o:=.cells #[.slice A1_0 l1_0.length c1_0,.slice A1_1 l1_1.length c1_1] 33 (0,0)) (by (with_reducible repeat (first|refine zM ?_ _|refine zO ?_|refine zN ?_ _));exact BK290.out) hb);have n9_:=zA (zf (by repeat (first|(with_reducible exact HR291_0.out)|(with_reducible refine zW ?_ _)|(with_reducible refine zX ?_ _)|(with_reducible refine zY ?_)|exact HR291_0.out)) hb);have n10_:=zA (zf (by repeat (first|(with_reducible exact HR291_1.out)|(with_reducible refine zW ?_ _)|(with_reducible refine zX ?_ _)|(with_reducible refine zY ?_)|exact HR291_1.out)) hb);have n11_:=zA (zf (by repeat (first|(with_reducible exact HR293_0.out)|(with_reducible refine zW ?_ _)|(with_reducible refine zX ?_ _)|(with_reducible refine zY ?_)|exact HR293_0.out)) hb);have n12_:=zA (zf (by repeat (first|(with_reducible exact HR293_1.out)|(with_reducible refine zW ?_ _)|(with_reducible refine zX ?_ _)|(with_reducible refine zY ?_)|exact HR293_1.out)) hb);have n13_:=zA (za (by repeat (first|(with_reducible first|exact HB.out|apply zD|apply zB|apply zC|refine zI ?_ GE290.out)|exact HB.out)) hb);clear HO_0;clear HO_291000;clear HO_291001;clear HL291_0;clear HL291_1;clear HL293_0;clear HL293_1;clear BK290;clear HR291_0;clear HR291_1;clear HR293_0;clear HR293_1;clear HB;have HO_0:=n0_;have HO_291000:=n1_;have HO_291001:=n2_;have HL291_0:=n3_;have HL291_1:=n4_;have HL293_0:=n5_;have HL293_1:=n6_;have HO297:=n7_;have BK290:=n8_;have HR291_0:=n9_;have HR291_1:=n10_;have HR293_0:=n11_;have HR293_1:=n12_;have HB:=n13_;clear n0_ n1_ n2_ n3_ n4_ n5_ n6_ n7_ n8_ n9_ n10_ n11_ n12_ n13_;clear hb ho28;have q29:(x5_1:Int)≤((l0.length:Int):Int):=zF (by first|(with_reducible assumption)|assumption);obtain ⟨i029,hi029,_,hsz29,_⟩:=info_parts info33;have hroom29:l0.length≤c0:=(zv HO_0.out).2.1;have hC29:Kd.F k33 _ _ (some ad291) l0.length l0:=(Kd.V_at (base:=w.heap.size) HO_0.out).2.2;have hcut29:=cut_to (P:=Try.prog) 27 33 .i64 Try.underlying27 hi029 (some ad291) l0.length c0 x5_1 (zF (by first|(with_reducible assumption)|assumption)) q29 hroom29;have hr29:=Kd.F_take (m:=(x5_1:Int).toNat) hC29 (by omega);have hy29:y298.length = (x5_1:Int).toNat:=(by rw [Ny298.out,zQ];omega);rw [← Ny298.out] at hr29;rw [← hy29] at hcut29;have HO302:=zA (show Kd.V k33 33 _ w.heap.size _ (.slice (some ad291) y298.length c0) y298 from Kd.V_mk (by omega) hr29);have HC302:=zA (show y298.length≤c0 from by omega);clear hr29 hC29 hroom29 hi029 hsz29;have KY29:=zA hy29;clear hy29;replace q29:=eq_true q29)|((with_reducible refine gate_builtin (b:=.append) (xs:=#[.tmp 36,.tmp 39]) rfl ?_);at_builtin;refine Kd.N_append_rows k33 (w0:=w) w.heap.size rfl (.tmp 36) (.tmp 39) 27 33 (.agg #[(.slice none 0 0),(.slice none 0 0)]) 48 rfl Try.underlying27 info33 rfl (by decide) (by omega) v296 y295 y298 _ _ _ (fun k_=>((P0_ k_∨P1_0_ k_∨P1_1_ k_)∨w.heap.size≤k_)∧k_≠gb290) (fun k_=>((fun k_=>((P0_ k_∨P1_0_ k_∨P1_1_ k_)∨w.heap.size≤k_)∧k_≠gb290)) k_∧some k_≠(v296:Value).ownBlock) rfl rfl ?aO ?aR (fun _ hk=>hk) ?aF ?aB ?aS ?aL ?_;(case aR=>exact (by skip;exact Kd.V_F (Kd.V_mono (ok':=(fun k_=>((fun k_=>((P0_ k_∨P1_0_ k_∨P1_1_ k_)∨w.heap.size≤k_)∧k_≠gb290)) k_∧some k_≠(v296:Value).ownBlock)) (HO302.out) (fun k_ hk=>⟨⟨hk.1.1,hk.1.2⟩,hk.2⟩))));(case aB=>exact (by repeat (first|(with_reducible first|exact HB.out|apply zD|apply zB|apply zC|refine zI ?_ GE290.out)|exact HB.out)));(case aF=>exact (fun k_ hk=>⟨(.inr (Nat.le_trans (zZ (by repeat (first|(with_reducible first|exact HB.out|apply zD|apply zB|apply zC|refine zI ?_ GE290.out)|exact HB.out))) hk)),Kd.freshB (g:=gb290) (o:=.cells #[.slice A1_0 l1_0.length c1_0,.slice A1_1 l1_1.length c1_1] 33 (0,0)) (by (with_reducible repeat (first|refine zM ?_ _|refine zO ?_|refine zN ?_ _));exact BK290.out) k_ hk⟩));(case aO=>exact (by (with_reducible repeat (first|apply Kd.N_alloc|apply Kd.N_drewN|apply Kd.N_drew));exact HO297.out));(case aS=>exact (zZ (by repeat (first|(with_reducible first|exact HB.out|apply zD|apply zB|apply zC|refine zI ?_ GE290.out)|exact HB.out))));(case aL=>have:=LMc18.out;omega);intro v304 w30 ho hb hg hat;rw [← Ny303.out] at ho;have n0_:=zA (Kd.V_afterv (ok:=(fun k_=>((P0_ k_∨P1_0_ k_∨P1_1_ k_)∨w.heap.size≤k_)∧k_≠gb290)) (by (with_reducible repeat (first|apply zi|apply zj|apply zh));exact HO_0.out) hg hat);have n1_:=zA (Kd.V_afterv (ok:=(fun k_=>((P0_ k_∨P1_0_ k_∨P1_1_ k_)∨w.heap.size≤k_)∧k_≠gb290)) (by (with_reducible repeat (first|apply zi|apply zj|apply zh));exact HO_291000.out) hg hat);have n2_:=zA (Kd.V_afterv (ok:=(fun k_=>((P0_ k_∨P1_0_ k_∨P1_1_ k_)∨w.heap.size≤k_)∧k_≠gb290)) (by (with_reducible repeat (first|apply zi|apply zj|apply zh));exact HO_291001.out) hg hat);have n3_:=zA (blk_grown (g:=gb290) (o:=.cells #[.slice A1_0 l1_0.length c1_0,.slice A1_1 l1_1.length c1_1] 33 (0,0)) (by (with_reducible repeat (first|refine zM ?_ _|refine zO ?_|refine zN ?_ _));exact BK290.out) hg (Kd.N_away HO297.out (fun _ hk=>hk.2)));have n4_:=zA (Kd.V_afterv (ok:=(fun k_=>((P0_ k_∨P1_0_ k_∨P1_1_ k_)∨w.heap.size≤k_)∧k_≠gb290)) (by (with_reducible repeat (first|apply zi|apply zj|apply zh));exact HL291_0.out) hg hat);have n5_:=zA (Kd.V_afterv (ok:=(fun k_=>((P0_ k_∨P1_0_ k_∨P1_1_ k_)∨w.heap.size≤k_)∧k_≠gb290)) (by (with_reducible repeat (first|apply zi|apply zj|apply zh));exact HL291_1.out) hg hat);have n6_:=zA (Kd.V_afterv (ok:=(fun k_=>((P0_ k_∨P1_0_ k_∨P1_1_ k_)∨w.heap.size≤k_)∧k_≠gb290)) (by (with_reducible repeat (first|apply zi|apply zj|apply zh));exact HL293_0.out) hg hat);have n7_:=zA (Kd.V_afterv (ok:=(fun k_=>((P0_ k_∨P1_0_ k_∨P1_1_ k_)∨w.heap.size≤k_)∧k_≠gb290)) (by (with_reducible repeat (first|apply zi|apply zj|apply zh));exact HL293_1.out) hg hat);have n8_:=zA (Kd.V_afterv (ok:=(fun k_=>((P0_ k_∨P1_0_ k_∨P1_1_ k_)∨w.heap.size≤k_)∧k_≠gb290)) (by (with_reducible repeat (first|apply zi|apply zj|apply zh));exact HO302.out) hg hat);have n9_:=zA (hb);have n10_:=zA (ho);clear HO_0;clear HO_291000;clear HO_291001;clear BK290;clear HL291_0;clear HL291_1;clear HL293_0;clear HL293_1;clear HO302;clear HB;clear HO297;have HO_0:=n0_;have HO_291000:=n1_;have HO_291001:=n2_;have BK290:=n3_;have HL291_0:=n4_;have HL291_1:=n5_;have HL293_0:=n6_;have HL293_1:=n7_;have HO302:=n8_;have HB:=n9_;have HO305:=n10_;clear n0_ n1_ n2_ n3_ n4_ n5_ n6_ n7_ n8_ n9_ n10_;clear ho hb hg hat;have hcz31_0:w30.cell? ⟨gb290,0,none⟩ = some (.slice A1_0 l1_0.length c1_0):=(zc BK290.out 0).trans rfl;have hcz31_1:w30.cell? ⟨gb290,1,none⟩ = some (.slice A1_1 l1_1.length c1_1):=(zc BK290.out 1).trans rfl;have hfz31_0:=zl BK290.out 0;have hfz31_1:=zl BK290.out 1)|((with_reducible refine gate_builtin (b:=.append) (xs:=#[.tmp 41,.tmp 43]) rfl ?_);at_builtin;refine Kd.N_append k33 (w0:=w) w.heap.size rfl (.tmp 41) (.tmp 43) 27 33 (.agg #[(.slice none 0 0),(.slice none 0 0)]) 48 rfl Try.underlying27 info33 rfl (by decide) (by omega) v304 y303 (⟨l1_0,l1_1⟩:S33) [.slice A1_0 l1_0.length c1_0,.slice A1_1 l1_1.length c1_1] (fun k_=>((P0_ k_∨P1_0_ k_∨P1_1_ k_)∨w.heap.size≤k_)∧k_≠gb290) (fun k_=>((fun k_=>((P0_ k_∨P1_0_ k_∨P1_1_ k_)∨w.heap.size≤k_)∧k_≠gb290)) k_∧some k_≠(v304:Value).ownBlock) rfl rfl ?aP (fun _ hk=>hk) ?aF ?aO ?aB ?aS ?aL ?_;(case aP=>exact (k33_mkF _ _ (⟨l1_0,l1_1⟩:S33) (zv (Kd.V_mono (ok':=(fun k_=>((fun k_=>((P0_ k_∨P1_0_ k_∨P1_1_ k_)∨w.heap.size≤k_)∧k_≠gb290)) k_∧some k_≠(v304:Value).ownBlock)) (HO_291000.out) (fun k_ hk=>⟨⟨hk.1.1,hk.1.2⟩,hk.2⟩))).2.1 (Kd.V_F (Kd.V_mono (ok':=(fun k_=>((fun k_=>((P0_ k_∨P1_0_ k_∨P1_1_ k_)∨w.heap.size≤k_)∧k_≠gb290)) k_∧some k_≠(v304:Value).ownBlock)) (HO_291000.out) (fun k_ hk=>⟨⟨hk.1.1,hk.1.2⟩,hk.2⟩))) (zv (Kd.V_mono (ok':=(fun k_=>((fun k_=>((P0_ k_∨P1_0_ k_∨P1_1_ k_)∨w.heap.size≤k_)∧k_≠gb290)) k_∧some k_≠(v304:Value).ownBlock)) (HO_291001.out) (fun k_ hk=>⟨⟨hk.1.1,hk.1.2⟩,hk.2⟩))).2.1 (Kd.V_F (Kd.V_mono (ok':=(fun k_=>((fun k_=>((P0_ k_∨P1_0_ k_∨P1_1_ k_)∨w.heap.size≤k_)∧k_≠gb290)) k_∧some k_≠(v304:Value).ownBlock)) (HO_291001.out) (fun k_ hk=>⟨⟨hk.1.1,hk.1.2⟩,hk.2⟩)))));(case aB=>exact (by repeat (first|(with_reducible first|exact HB.out|apply zD|apply zB|apply zC|refine zI ?_ GE290.out)|exact HB.out)));(case aF=>exact (fun k_ hk=>⟨(.inr (Nat.le_trans (zZ (by repeat (first|(with_reducible first|exact HB.out|apply zD|apply zB|apply zC|refine zI ?_ GE290.out)|exact HB.out))) hk)),Kd.freshB (g:=gb290) (o:=.cells #[.slice A1_0 l1_0.length c1_0,.slice A1_1 l1_1.length c1_1] 33 (0,0)) (by (with_reducible repeat (first|refine zM ?_ _|refine zO ?_|refine zN ?_ _));exact BK290.out) k_ hk⟩));(case aO=>exact (by (with_reducible repeat (first|apply Kd.N_alloc|apply Kd.N_drewN|apply Kd.N_drew));exact HO305.out));(case aS=>exact (zZ (by repeat (first|(with_reducible first|exact HB.out|apply zD|apply zB|apply zC|refine zI ?_ GE290.out)|exact HB.out))));(case aL=>have:=LMc19.out;omega);intro v307 w32 ho hb hg hat;rw [← Ny306.out] at ho;have n0_:=zA (Kd.V_afterv (ok:=(fun k_=>((P0_ k_∨P1_0_ k_∨P1_1_ k_)∨w.heap.size≤k_)∧k_≠gb290)) (by (with_reducible repeat (first|apply zi|apply zj|apply zh));exact HO_0.out) hg hat);have n1_:=zA (Kd.V_afterv (ok:=(fun k_=>((P0_ k_∨P1_0_ k_∨P1_1_ k_)∨w.heap.size≤k_)∧k_≠gb290)) (by (with_reducible repeat (first|apply zi|apply zj|apply zh));exact HO_291000.out) hg hat);have n2_:=zA (Kd.V_afterv (ok:=(fun k_=>((P0_ k_∨P1_0_ k_∨P1_1_ k_)∨w.heap.size≤k_)∧k_≠gb290)) (by (with_reducible repeat (first|apply zi|apply zj|apply zh));exact HO_291001.out) hg hat);have n3_:=zA (blk_grown (g:=gb290) (o:=.cells #[.slice A1_0 l1_0.length c1_0,.slice A1_1 l1_1.length c1_1] 33 (0,0)) (by (with_reducible repeat (first|refine zM ?_ _|refine zO ?_|refine zN ?_ _));exact BK290.out) hg (Kd.N_away HO305.out (fun _ hk=>hk.2)));have n4_:=zA (Kd.V_afterv (ok:=(fun k_=>((P0_ k_∨P1_0_ k_∨P1_1_ k_)∨w.heap.size≤k_)∧k_≠gb290)) (by (with_reducible repeat (first|apply zi|apply zj|apply zh));exact HL291_0.out) hg hat);have n5_:=zA (Kd.V_afterv (ok:=(fun k_=>((P0_ k_∨P1_0_ k_∨P1_1_ k_)∨w.heap.size≤k_)∧k_≠gb290)) (by (with_reducible repeat (first|apply zi|apply zj|apply zh));exact HL291_1.out) hg hat);have n6_:=zA (Kd.V_afterv (ok:=(fun k_=>((P0_ k_∨P1_0_ k_∨P1_1_ k_)∨w.heap.size≤k_)∧k_≠gb290)) (by (with_reducible repeat (first|apply zi|apply zj|apply zh));exact HL293_0.out) hg hat);have n7_:=zA (Kd.V_afterv (ok:=(fun k_=>((P0_ k_∨P1_0_ k_∨P1_1_ k_)∨w.heap.size≤k_)∧k_≠gb290)) (by (with_reducible repeat (first|apply zi|apply zj|apply zh));exact HL293_1.out) hg hat);have n8_:=zA (Kd.V_afterv (ok:=(fun k_=>((P0_ k_∨P1_0_ k_∨P1_1_ k_)∨w.heap.size≤k_)∧k_≠gb290)) (by (with_reducible repeat (first|apply zi|apply zj|apply zh));exact HO302.out) hg hat);have n9_:=zA (hb);have n10_:=zA (ho);clear HO_0;clear HO_291000;clear HO_291001;clear BK290;clear HL291_0;clear HL291_1;clear HL293_0;clear HL293_1;clear HO302;clear HB;clear HO305;have HO_0:=n0_;have HO_291000:=n1_;have HO_291001:=n2_;have BK290:=n3_;have HL291_0:=n4_;have HL291_1:=n5_;have HL293_0:=n6_;have HL293_1:=n7_;have HO302:=n8_;have HB:=n9_;have HO308:=n10_;clear n0_ n1_ n2_ n3_ n4_ n5_ n6_ n7_ n8_ n9_ n10_;clear ho hb hg hat;have q33:(x5_1:Int)≤((l0.length:Int):Int):=zF (by first|(with_reducible assumption)|assumption);obtain ⟨i033,hi033,_,hsz33,_⟩:=info_parts info33;have hroom33:l0.length≤c0:=(zv HO_0.out).2.1;have hC33:Kd.F k33 _ _ (some ad291) l0.length l0:=(Kd.V_at (base:=w.heap.size) HO_0.out).2.2;have q033:(0:Int)≤(x5_1:Int):=zF (by first|(with_reducible assumption)|assumption);have hcut33:=cut_from (P:=Try.prog) 27 33 .i64 Try.underlying27 hi033 2 hsz33 (some ad291) l0.length c0 x5_1 q033 q33;have hr33:=Kd.F_cut (m:=(x5_1:Int).toNat) (c:=c0) hC33 (by omega) hroom33;obtain ⟨A33,hA33⟩:∃ A1,A1 = (if c0 = (x5_1:Int).toNat then (some ad291) else ((some ad291):Option Addr).map (·.add ((x5_1:Int).toNat * 2))):=⟨_,rfl⟩;obtain ⟨c33,hc33⟩:∃ c1,c1 = c0 - (x5_1:Int).toNat:=⟨_,rfl⟩;have hy33:y309.length = l0.length - (x5_1:Int).toNat:=(by rw [Ny309.out,zR] <;> omega);rw [show (l0).drop (x5_1:Int).toNat = y309 from Ny309.out.symm] at hr33;replace hr33:Kd.F k33 _ _ A33 y309.length y309:=(by rw [hA33];exact hr33);rw [← hy33, ← hA33, ← hc33] at hcut33;have HO313:=zA (show Kd.V k33 33 _ w.heap.size _ (.slice A33 y309.length c33) y309 from Kd.V_mk (by rw [hy33,hc33];exact Nat.sub_le_sub_right hroom33 _) hr33);have HC313:=zA (show y309.length≤c33 from by rw [hy33,hc33];exact Nat.sub_le_sub_right hroom33 _);clear hr33 hC33 hroom33 hi033 hsz33 hc33;have KY33:=zA hy33;have KA33:=zA hA33;clear hy33 hA33;replace q33:=eq_true q33)|((with_reducible refine gate_builtin (b:=.append) (xs:=#[.tmp 45,.tmp 48]) rfl ?_);at_builtin;refine Kd.N_append_rows k33 (w0:=w) w.heap.size rfl (.tmp 45) (.tmp 48) 27 33 (.agg #[(.slice none 0 0),(.slice none 0 0)]) 48 rfl Try.underlying27 info33 rfl (by decide) (by omega) v307 y306 y309 _ _ _ (fun k_=>((P0_ k_∨P1_0_ k_∨P1_1_ k_)∨w.heap.size≤k_)∧k_≠gb290) (fun k_=>((fun k_=>((P0_ k_∨P1_0_ k_∨P1_1_ k_)∨w.heap.size≤k_)∧k_≠gb290)) k_∧some k_≠(v307:Value).ownBlock) rfl rfl ?aO ?aR (fun _ hk=>hk) ?aF ?aB ?aS ?aL ?_;(case aR=>exact (by skip;exact Kd.V_F (Kd.V_mono (ok':=(fun k_=>((fun k_=>((P0_ k_∨P1_0_ k_∨P1_1_ k_)∨w.heap.size≤k_)∧k_≠gb290)) k_∧some k_≠(v307:Value).ownBlock)) (HO313.out) (fun k_ hk=>⟨⟨hk.1.1,hk.1.2⟩,hk.2⟩))));(case aB=>exact (by repeat (first|(with_reducible first|exact HB.out|apply zD|apply zB|apply zC|refine zI ?_ GE290.out)|exact HB.out)));(case aF=>exact (fun k_ hk=>⟨(.inr (Nat.le_trans (zZ (by repeat (first|(with_reducible first|exact HB.out|apply zD|apply zB|apply zC|refine zI ?_ GE290.out)|exact HB.out))) hk)),Kd.freshB (g:=gb290) (o:=.cells #[.slice A1_0 l1_0.length c1_0,.slice A1_1 l1_1.length c1_1] 33 (0,0)) (by (with_reducible repeat (first|refine zM ?_ _|refine zO ?_|refine zN ?_ _));exact BK290.out) k_ hk⟩));(case aO=>exact (by (with_reducible repeat (first|apply Kd.N_alloc|apply Kd.N_drewN|apply Kd.N_drew));exact HO308.out));(case aS=>exact (zZ (by repeat (first|(with_reducible first|exact HB.out|apply zD|apply zB|apply zC|refine zI ?_ GE290.out)|exact HB.out))));(case aL=>have:=LMc22.out;omega);intro v315 w34 ho hb hg hat;rw [← Ny314.out] at ho;have n0_:=zA (Kd.V_afterv (ok:=(fun k_=>((P0_ k_∨P1_0_ k_∨P1_1_ k_)∨w.heap.size≤k_)∧k_≠gb290)) (by (with_reducible repeat (first|apply zi|apply zj|apply zh));exact HO_0.out) hg hat);have n1_:=zA (Kd.V_afterv (ok:=(fun k_=>((P0_ k_∨P1_0_ k_∨P1_1_ k_)∨w.heap.size≤k_)∧k_≠gb290)) (by (with_reducible repeat (first|apply zi|apply zj|apply zh));exact HO_291000.out) hg hat);have n2_:=zA (Kd.V_afterv (ok:=(fun k_=>((P0_ k_∨P1_0_ k_∨P1_1_ k_)∨w.heap.size≤k_)∧k_≠gb290)) (by (with_reducible repeat (first|apply zi|apply zj|apply zh));exact HO_291001.out) hg hat);have n3_:=zA (blk_grown (g:=gb290) (o:=.cells #[.slice A1_0 l1_0.length c1_0,.slice A1_1 l1_1.length c1_1] 33 (0,0)) (by (with_reducible repeat (first|refine zM ?_ _|refine zO ?_|refine zN ?_ _));exact BK290.out) hg (Kd.N_away HO308.out (fun _ hk=>hk.2)));have n4_:=zA (Kd.V_afterv (ok:=(fun k_=>((P0_ k_∨P1_0_ k_∨P1_1_ k_)∨w.heap.size≤k_)∧k_≠gb290)) (by (with_reducible repeat (first|apply zi|apply zj|apply zh));exact HL291_0.out) hg hat);have n5_:=zA (Kd.V_afterv (ok:=(fun k_=>((P0_ k_∨P1_0_ k_∨P1_1_ k_)∨w.heap.size≤k_)∧k_≠gb290)) (by (with_reducible repeat (first|apply zi|apply zj|apply zh));exact HL291_1.out) hg hat);have n6_:=zA (Kd.V_afterv (ok:=(fun k_=>((P0_ k_∨P1_0_ k_∨P1_1_ k_)∨w.heap.size≤k_)∧k_≠gb290)) (by (with_reducible repeat (first|apply zi|apply zj|apply zh));exact HL293_0.out) hg hat);have n7_:=zA (Kd.V_afterv (ok:=(fun k_=>((P0_ k_∨P1_0_ k_∨P1_1_ k_)∨w.heap.size≤k_)∧k_≠gb290)) (by (with_reducible repeat (first|apply zi|apply zj|apply zh));exact HL293_1.out) hg hat);have n8_:=zA (Kd.V_afterv (ok:=(fun k_=>((P0_ k_∨P1_0_ k_∨P1_1_ k_)∨w.heap.size≤k_)∧k_≠gb290)) (by (with_reducible repeat (first|apply zi|apply zj|apply zh));exact HO302.out) hg hat);have n9_:=zA (Kd.V_afterv (ok:=(fun k_=>((P0_ k_∨P1_0_ k_∨P1_1_ k_)∨w.heap.size≤k_)∧k_≠gb290)) (by (with_reducible repeat (first|apply zi|apply zj|apply zh));exact HO313.out) hg hat);have n10_:=zA (hb);have n11_:=zA (ho);clear HO_0;clear HO_291000;clear HO_291001;clear BK290;clear HL291_0;clear HL291_1;clear HL293_0;clear HL293_1;clear HO302;clear HO313;clear HB;clear HO308;have HO_0:=n0_;have HO_291000:=n1_;have HO_291001:=n2_;have BK290:=n3_;have HL291_0:=n4_;have HL291_1:=n5_;have HL293_0:=n6_;have HL293_1:=n7_;have HO302:=n8_;have HO313:=n9_;have HB:=n10_;have HO316:=n11_;clear n0_ n1_ n2_ n3_ n4_ n5_ n6_ n7_ n8_ n9_ n10_ n11_;clear ho hb hg hat))
           go_ret
           exact ⟨_,by first|rfl|(simp [errW_none,errW_some] <;> rfl)|(simp [*,errW_none,errW_some] <;> rfl),Kd.N_V (by (with_reducible repeat (first|apply Kd.N_alloc|apply Kd.N_drewN|apply Kd.N_drew));exact Kd.N_mono HO316.out (fun _ hk=>hk.1)),by repeat (first|(with_reducible first|exact HB.out|apply zD|apply zB|apply zC|refine zI ?_ GE290.out)|exact HB.out)⟩
          ·rw [if_neg c22] at H
           exact absurd H (by simp)
         ·rw [if_neg c19] at H
          exact absurd H (by simp)
        ·rw [if_neg c18] at H
         exact absurd H (by simp)
       ·rw [if_neg c17] at H
        exact absurd H (by simp)
    ·rw [if_neg c5] at H
     exact absurd H (by simp)
   ·rw [if_neg c4] at H
    have c4b0:decide (x5_1 < (l0.length:Int)) = false:=zV c4
    clear c4
    obtain ⟨y317,hy317⟩:∃ y_:List (S33),y_ = (([]:List (S33))):=⟨_,rfl⟩
    replace H:(if 0≤x5_1 then (if x5_1≤(l0.length:Int) then ((some (l0.take (x5_1:Int).toNat:List (S33))).bind fun y320=>(if y317.length+y320.length < 2932031007402 then ((some (y317 ++ y320:List (S33))).bind fun y325=>(if y325.length < 2932031007402 then ((some (y325 ++ [(⟨l1_0,l1_1⟩:S33)]:List (S33))).bind fun y328=>((some (l0.drop (x5_1:Int).toNat:List (S33))).bind fun y331=>(if y328.length+y331.length < 2932031007402 then (some (y328 ++ y331)) else (none)))) else (none))) else (none))) else (none)) else (none)) = some r:=by first|(rw [hy317];with_reducible exact H)|(have H2_:=(Option.bind_some _ _).symm.trans H;rw [hy317];with_reducible exact H2_)|(have H2_:=(Option.bind_some _ _).symm.trans H;with_reducible exact H2_)|with_reducible exact H|(rw [hy317];exact H)|exact H
    have Ny317:=zA hy317
    clear hy317
    by_cases c35:0≤x5_1
    ·rw [if_pos c35] at H
     have c35b0:=eq_true c35
     have c35b1:decide (0≤x5_1) = true:=zU c35
     clear c35
     by_cases c36:x5_1≤(l0.length:Int)
     ·rw [if_pos c36] at H
      have c36b0:=eq_true c36
      have c36b1:decide (x5_1≤(l0.length:Int)) = true:=zU c36
      clear c36
      obtain ⟨y320,hy320⟩:∃ y_:List (S33),y_ = (l0.take (x5_1:Int).toNat):=⟨_,rfl⟩
      replace H:(if y317.length+y320.length < 2932031007402 then ((some (y317 ++ y320:List (S33))).bind fun y325=>(if y325.length < 2932031007402 then ((some (y325 ++ [(⟨l1_0,l1_1⟩:S33)]:List (S33))).bind fun y328=>((some (l0.drop (x5_1:Int).toNat:List (S33))).bind fun y331=>(if y328.length+y331.length < 2932031007402 then (some (y328 ++ y331)) else (none)))) else (none))) else (none)) = some r:=by first|(rw [hy320];with_reducible exact H)|(have H2_:=(Option.bind_some _ _).symm.trans H;rw [hy320];with_reducible exact H2_)|(have H2_:=(Option.bind_some _ _).symm.trans H;with_reducible exact H2_)|with_reducible exact H|(rw [hy320];exact H)|exact H
      have Ny320:=zA hy320
      clear hy320
      by_cases c37:y317.length+y320.length < 2932031007402
      ·rw [if_pos c37] at H
       have LMc37:=zA c37
       clear c37
       obtain ⟨y325,hy325⟩:∃ y_:List (S33),y_ = (y317 ++ y320):=⟨_,rfl⟩
       replace H:(if y325.length < 2932031007402 then ((some (y325 ++ [(⟨l1_0,l1_1⟩:S33)]:List (S33))).bind fun y328=>((some (l0.drop (x5_1:Int).toNat:List (S33))).bind fun y331=>(if y328.length+y331.length < 2932031007402 then (some (y328 ++ y331)) else (none)))) else (none)) = some r:=by first|(rw [hy325];with_reducible exact H)|(have H2_:=(Option.bind_some _ _).symm.trans H;rw [hy325];with_reducible exact H2_)|(have H2_:=(Option.bind_some _ _).symm.trans H;with_reducible exact H2_)|with_reducible exact H|(rw [hy325];exact H)|exact H
       have Ny325:=zA hy325
       clear hy325
       by_cases c38:y325.length < 2932031007402
       ·rw [if_pos c38] at H
        have LMc38:=zA c38
        clear c38
        obtain ⟨y328,hy328⟩:∃ y_:List (S33),y_ = (y325 ++ [(⟨l1_0,l1_1⟩:S33)]):=⟨_,rfl⟩
        replace H:((some (l0.drop (x5_1:Int).toNat:List (S33))).bind fun y331=>(if y328.length+y331.length < 2932031007402 then (some (y328 ++ y331)) else (none))) = some r:=by first|(rw [hy328];with_reducible exact H)|(have H2_:=(Option.bind_some _ _).symm.trans H;rw [hy328];with_reducible exact H2_)|(have H2_:=(Option.bind_some _ _).symm.trans H;with_reducible exact H2_)|with_reducible exact H|(rw [hy328];exact H)|exact H
        have Ny328:=zA hy328
        clear hy328
        have c39b0:=eq_true (zF (by first|(with_reducible assumption)|assumption):0≤x5_1)
        have c40b0:=eq_true (zF (by first|(with_reducible assumption)|assumption):x5_1≤(l0.length:Int))
        obtain ⟨y331,hy331⟩:∃ y_:List (S33),y_ = (l0.drop (x5_1:Int).toNat):=⟨_,rfl⟩
        replace H:(if y328.length+y331.length < 2932031007402 then (some (y328 ++ y331)) else (none)) = some r:=by first|(rw [hy331];with_reducible exact H)|(have H2_:=(Option.bind_some _ _).symm.trans H;rw [hy331];with_reducible exact H2_)|(have H2_:=(Option.bind_some _ _).symm.trans H;with_reducible exact H2_)|with_reducible exact H|(rw [hy331];exact H)|exact H
        have Ny331:=zA hy331
        clear hy331
        by_cases c41:y328.length+y331.length < 2932031007402
        ·rw [if_pos c41] at H
         have LMc41:=zA c41
         clear c41
         obtain ⟨y336,hy336⟩:∃ y_:List (S33),y_ = (y328 ++ y331):=⟨_,rfl⟩
         replace H:(some y336) = some r:=by first|(rw [hy336];with_reducible exact H)|(have H2_:=(Option.bind_some _ _).symm.trans H;rw [hy336];with_reducible exact H2_)|(have H2_:=(Option.bind_some _ _).symm.trans H;with_reducible exact H2_)|with_reducible exact H|(rw [hy336];exact H)|exact H
         have Ny336:=zA hy336
         clear hy336
         obtain rfl:=zb H
         try go_wp2
         have n0_:=zA (zh HO_0.out)
         have n1_:=zA (zh HO_291000.out)
         have n2_:=zA (zh HO_291001.out)
         have n3_:=zA (zO BK290.out)
         have n4_:=zA (zC HB.out)
         clear HO_0
         clear HO_291000
         clear HO_291001
         clear BK290
         clear HB
         have HO_0:=n0_
         have HO_291000:=n1_
         have HO_291001:=n2_
         have BK290:=n3_
         have HB:=n4_
         clear n0_ n1_ n2_ n3_ n4_
         refine start_ (n:=13) (S:=fun w'=>True) (ds:=[]) #[false,false,false,false,false,false,false,false,false,false,false,false,false] (by kernel_rfl) rfl rfl trivial (fun hHeld=>?_);refine with_tabW spec_l3Put.tab2 spec_l3Put.bits2 (fun HT_ HW_=>?_)
         generalize wr.drew = w42 at HO_0 HO_291000 HO_291001 BK290 HB hHeld ⊢
         refine pure_ (i:=0) (N:=some 7) (v:=?_) (a':=?_) #[true,false,false,false,false,false,false,false,false,false,false,false,false] rfl rfl (any_of HT_.out (by kernel_rfl)) (fun _ _ _ h=>h) (Or.inl ⟨by rfl,?_⟩) ?_ ?_
         rotate_left
         ·intro w'
          go_simp
          with_reducible rfl
         rotate_left
         ·simp only [Act.put,zE,zG,zH,i64_w,i32_w]
          rfl
         refine pure_ (i:=1) (N:=some 8) (v:=?_) (a':=?_) #[true,true,false,false,false,false,false,false,false,false,false,false,false] rfl rfl (any_of HT_.out (by kernel_rfl)) (fun _ _ _ h=>h) (Or.inl ⟨by rfl,?_⟩) ?_ ?_
         rotate_left
         ·intro w'
          go_simp
          with_reducible rfl
         rotate_left
         ·simp only [Act.put,zE,zG,zH,i64_w,i32_w]
          rfl
         refine pure_ (i:=2) (N:=some 9) (v:=?_) (a':=?_) #[true,true,true,false,false,false,false,false,false,false,false,false,false] rfl rfl (any_of HT_.out (by kernel_rfl)) (fun _ _ _ h=>h) (Or.inl ⟨by rfl,?_⟩) ?_ ?_
         rotate_left
         ·intro w'
          go_simp
          with_reducible rfl
         rotate_left
         ·simp only [Act.put,zE,zG,zH,i64_w,i32_w]
          rfl
         refine pure_ (i:=3) (N:=some 10) (v:=?_) (a':=?_) #[true,true,true,true,false,false,false,false,false,false,false,false,false] rfl rfl (any_of HT_.out (by kernel_rfl)) (fun _ _ _ h=>h) (Or.inl ⟨by rfl,?_⟩) ?_ ?_
         rotate_left
         ·intro w'
          go_simp
          with_reducible rfl
         rotate_left
         ·simp only [Act.put,zE,zG,zH,i64_w,i32_w]
          rfl
         refine pure_ (i:=4) (N:=some 11) (v:=?_) (a':=?_) #[true,true,true,true,true,false,false,false,false,false,false,false,false] rfl rfl (any_of HT_.out (by kernel_rfl)) (fun _ _ _ h=>h) (Or.inl ⟨by rfl,?_⟩) ?_ ?_
         rotate_left
         ·intro w'
          go_simp
          with_reducible rfl
         rotate_left
         ·simp only [Act.put,zE,zG,zH,i64_w,i32_w]
          rfl
         refine pure_ (i:=5) (N:=some 12) (v:=undef) (a':=?_) #[true,true,true,true,true,true,false,false,false,false,false,false,false] rfl rfl (any_of HT_.out (by kernel_rfl)) (fun _ _ _ h=>h) (Or.inr ⟨by rfl,rfl⟩) ?_ ?_
         rotate_left
         ·simp only [Act.put,zE,zG,zH,i64_w,i32_w]
          rfl
         refine pure_ (i:=6) (N:=some 13) (v:=undef) (a':=?_) #[true,true,true,true,true,true,true,false,false,false,false,false,false] rfl rfl (any_of HT_.out (by kernel_rfl)) (fun _ _ _ h=>h) (Or.inr ⟨by rfl,rfl⟩) ?_ ?_
         rotate_left
         ·simp only [Act.put,zE,zG,zH,i64_w,i32_w]
          rfl
         refine pure_ (i:=7) (N:=some 14) (v:=undef) (a':=?_) #[true,true,true,true,true,true,true,true,false,false,false,false,false] rfl rfl (any_of HT_.out (by kernel_rfl)) (fun _ _ _ h=>h) (Or.inr ⟨by rfl,rfl⟩) ?_ ?_
         rotate_left
         ·simp only [Act.put,zE,zG,zH,i64_w,i32_w]
          rfl
         refine pure_ (i:=8) (N:=some 15) (v:=undef) (a':=?_) #[true,true,true,true,true,true,true,true,true,false,false,false,false] rfl rfl (any_of HT_.out (by kernel_rfl)) (fun _ _ _ h=>h) (Or.inr ⟨by rfl,rfl⟩) ?_ ?_
         rotate_left
         ·simp only [Act.put,zE,zG,zH,i64_w,i32_w]
          rfl
         refine pure_ (i:=9) (N:=some 16) (v:=undef) (a':=?_) #[true,true,true,true,true,true,true,true,true,true,false,false,false] rfl rfl (any_of HT_.out (by kernel_rfl)) (fun _ _ _ h=>h) (Or.inr ⟨by rfl,rfl⟩) ?_ ?_
         rotate_left
         ·simp only [Act.put,zE,zG,zH,i64_w,i32_w]
          rfl
         refine pure_ (i:=10) (N:=some 17) (v:=undef) (a':=?_) #[true,true,true,true,true,true,true,true,true,true,true,false,false] rfl rfl (any_of HT_.out (by kernel_rfl)) (fun _ _ _ h=>h) (Or.inr ⟨by rfl,rfl⟩) ?_ ?_
         rotate_left
         ·simp only [Act.put,zE,zG,zH,i64_w,i32_w]
          rfl
         refine pure_ (i:=11) (N:=some 18) (v:=undef) (a':=?_) #[true,true,true,true,true,true,true,true,true,true,true,true,false] rfl rfl (any_of HT_.out (by kernel_rfl)) (fun _ _ _ h=>h) (Or.inr ⟨by rfl,rfl⟩) ?_ ?_
         rotate_left
         ·simp only [Act.put,zE,zG,zH,i64_w,i32_w]
          rfl
         refine pure_ (i:=12) (N:=some 19) (v:=?_) (a':=?_) #[true,true,true,true,true,true,true,true,true,true,true,true,true] rfl rfl (any_of HT_.out (by kernel_rfl)) (fun _ _ _ h=>h) (Or.inl ⟨by rfl,?_⟩) ?_ ?_
         rotate_left
         ·intro w'
          go_simp
          with_reducible rfl
         rotate_left
         ·simp only [Act.put,zE,zG,zH,i64_w,i32_w]
          rfl
         refine done_ (done_of HT_.out (by kernel_rfl)) ?_
         try go_wp2
         have n0_:=zA (zh HO_0.out)
         have n1_:=zA (zh HO_291000.out)
         have n2_:=zA (zh HO_291001.out)
         have n3_:=zA (zO BK290.out)
         have n4_:=zA (zC HB.out)
         clear HO_0
         clear HO_291000
         clear HO_291001
         clear BK290
         clear HB
         have HO_0:=n0_
         have HO_291000:=n1_
         have HO_291001:=n2_
         have BK290:=n3_
         have HB:=n4_
         clear n0_ n1_ n2_ n3_ n4_
         refine start_ (n:=13) (S:=fun w'=>True) (ds:=[]) #[false,false,false,false,false,false,false,false,false,false,false,false,false] (by kernel_rfl) rfl rfl trivial (fun hHeld=>?_);refine with_tabW spec_l3Put.tab4 spec_l3Put.bits4 (fun HT_ HW_=>?_)
         generalize w42.drew = w43 at HO_0 HO_291000 HO_291001 BK290 HB hHeld ⊢
         refine pure_ (i:=0) (N:=some 22) (v:=?_) (a':=?_) #[true,false,false,false,false,false,false,false,false,false,false,false,false] rfl rfl (any_of HT_.out (by kernel_rfl)) (fun _ _ _ h=>h) (Or.inl ⟨by rfl,?_⟩) ?_ ?_
         rotate_left
         ·intro w'
          go_simp
          with_reducible rfl
         rotate_left
         ·simp only [Act.put,zE,zG,zH,i64_w,i32_w]
          rfl
         refine pure_ (i:=1) (N:=some 23) (v:=?_) (a':=?_) #[true,true,false,false,false,false,false,false,false,false,false,false,false] rfl rfl (any_of HT_.out (by kernel_rfl)) (fun _ _ _ h=>h) (Or.inl ⟨by rfl,?_⟩) ?_ ?_
         rotate_left
         ·intro w'
          go_simp
          with_reducible rfl
         rotate_left
         ·simp only [Act.put,zE,zG,zH,i64_w,i32_w]
          rfl
         refine pure_ (i:=2) (N:=some 24) (v:=?_) (a':=?_) #[true,true,true,false,false,false,false,false,false,false,false,false,false] rfl rfl (any_of HT_.out (by kernel_rfl)) (fun _ _ _ h=>h) (Or.inl ⟨by rfl,?_⟩) ?_ ?_
         rotate_left
         ·intro w'
          go_simp
          with_reducible rfl
         rotate_left
         ·simp only [Act.put,zE,zG,zH,i64_w,i32_w]
          rfl
         refine pure_ (i:=3) (N:=some 25) (v:=?_) (a':=?_) #[true,true,true,true,false,false,false,false,false,false,false,false,false] rfl rfl (any_of HT_.out (by kernel_rfl)) (fun _ _ _ h=>h) (Or.inl ⟨by rfl,?_⟩) ?_ ?_
         rotate_left
         ·intro w'
          go_simp
          with_reducible rfl
         rotate_left
         ·simp only [Act.put,zE,zG,zH,i64_w,i32_w]
          rfl
         refine pure_ (i:=4) (N:=some 26) (v:=?_) (a':=?_) #[true,true,true,true,true,false,false,false,false,false,false,false,false] rfl rfl (any_of HT_.out (by kernel_rfl)) (fun _ _ _ h=>h) (Or.inl ⟨by rfl,?_⟩) ?_ ?_
         rotate_left
         ·intro w'
          go_simp
          with_reducible rfl
         rotate_left
         ·simp only [Act.put,zE,zG,zH,i64_w,i32_w]
          rfl
         refine pure_ (i:=5) (N:=some 27) (v:=undef) (a':=?_) #[true,true,true,true,true,true,false,false,false,false,false,false,false] rfl rfl (any_of HT_.out (by kernel_rfl)) (fun _ _ _ h=>h) (Or.inr ⟨by rfl,rfl⟩) ?_ ?_
         rotate_left
         ·simp only [Act.put,zE,zG,zH,i64_w,i32_w]
          rfl
         refine pure_ (i:=6) (N:=some 28) (v:=undef) (a':=?_) #[true,true,true,true,true,true,true,false,false,false,false,false,false] rfl rfl (any_of HT_.out (by kernel_rfl)) (fun _ _ _ h=>h) (Or.inr ⟨by rfl,rfl⟩) ?_ ?_
         rotate_left
         ·simp only [Act.put,zE,zG,zH,i64_w,i32_w]
          rfl
         refine pure_ (i:=7) (N:=some 29) (v:=undef) (a':=?_) #[true,true,true,true,true,true,true,true,false,false,false,false,false] rfl rfl (any_of HT_.out (by kernel_rfl)) (fun _ _ _ h=>h) (Or.inr ⟨by rfl,rfl⟩) ?_ ?_
         rotate_left
         ·simp only [Act.put,zE,zG,zH,i64_w,i32_w]
          rfl
         refine pure_ (i:=8) (N:=some 30) (v:=undef) (a':=?_) #[true,true,true,true,true,true,true,true,true,false,false,false,false] rfl rfl (any_of HT_.out (by kernel_rfl)) (fun _ _ _ h=>h) (Or.inr ⟨by rfl,rfl⟩) ?_ ?_
         rotate_left
         ·simp only [Act.put,zE,zG,zH,i64_w,i32_w]
          rfl
         refine pure_ (i:=9) (N:=some 31) (v:=undef) (a':=?_) #[true,true,true,true,true,true,true,true,true,true,false,false,false] rfl rfl (any_of HT_.out (by kernel_rfl)) (fun _ _ _ h=>h) (Or.inr ⟨by rfl,rfl⟩) ?_ ?_
         rotate_left
         ·simp only [Act.put,zE,zG,zH,i64_w,i32_w]
          rfl
         refine pure_ (i:=10) (N:=some 32) (v:=undef) (a':=?_) #[true,true,true,true,true,true,true,true,true,true,true,false,false] rfl rfl (any_of HT_.out (by kernel_rfl)) (fun _ _ _ h=>h) (Or.inr ⟨by rfl,rfl⟩) ?_ ?_
         rotate_left
         ·simp only [Act.put,zE,zG,zH,i64_w,i32_w]
          rfl
         refine pure_ (i:=11) (N:=some 33) (v:=undef) (a':=?_) #[true,true,true,true,true,true,true,true,true,true,true,true,false] rfl rfl (any_of HT_.out (by kernel_rfl)) (fun _ _ _ h=>h) (Or.inr ⟨by rfl,rfl⟩) ?_ ?_
         rotate_left
         ·simp only [Act.put,zE,zG,zH,i64_w,i32_w]
          rfl
         refine pure_ (i:=12) (N:=some 34) (v:=?_) (a':=?_) #[true,true,true,true,true,true,true,true,true,true,true,true,true] rfl rfl (any_of HT_.out (by kernel_rfl)) (fun _ _ _ h=>h) (Or.inl ⟨by rfl,?_⟩) ?_ ?_
         rotate_left
         ·intro w'
          go_simp
          with_reducible rfl
         rotate_left
         ·simp only [Act.put,zE,zG,zH,i64_w,i32_w]
          rfl
         refine done_ (done_of HT_.out (by kernel_rfl)) ?_
         try go_wp2_with (first|((with_reducible refine gate_dst (N:=36) rfl ?_);refine Kd.N_lit k33 _ 33 ?hg (N':=36) ?hd (xs:=([]:List (S33))) (inner:=[]) (ok:=(fun k_=>((P0_ k_∨P1_0_ k_∨P1_1_ k_)∨w.heap.size≤k_)∧k_≠gb290)) (okp:=(fun k_=>((P0_ k_∨P1_0_ k_∨P1_1_ k_)∨w.heap.size≤k_)∧k_≠gb290)) ?hr ?hp (fun _ hk=>hk) ((show ∀ k_,w43.heap.size≤k_→(fun k_=>((P0_ k_∨P1_0_ k_∨P1_1_ k_)∨w.heap.size≤k_)∧k_≠gb290) k_ from fun k_ hk=>⟨(.inr (Nat.le_trans (zZ (by repeat (first|(with_reducible first|exact HB.out|apply zD|apply zB|apply zC|refine zI ?_ GE290.out)|exact HB.out))) hk)),Kd.freshB (g:=gb290) (o:=.cells #[.slice A1_0 l1_0.length c1_0,.slice A1_1 l1_1.length c1_1] 33 (0,0)) (by (with_reducible repeat (first|refine zM ?_ _|refine zO ?_|refine zN ?_ _));exact BK290.out) k_ hk⟩) _ (Nat.le_refl _)) (Below.refl _ _) (Nat.le_refl _) (by simp) ?_;(case hd=>rfl);(case hg=>rfl);(case hr=>first|(go_simp;done)|(go_simp;rfl));(case hp=>exact (Reps.none _ _));intro v318 w44 ho45 hb hg_ hnew_;clear hg_ hnew_;(first|rw [← Ny317.out] at ho45|(simp only [Int.reduceToNat] at ho45;rw [← Ny317.out] at ho45));have n0_:=zA (Kd.V_elder' (by (with_reducible repeat (first|apply zi|apply zj|apply zh));exact HO_0.out) (Kd.N_base ho45) hb);have n1_:=zA (Kd.V_elder' (by (with_reducible repeat (first|apply zi|apply zj|apply zh));exact HO_291000.out) (Kd.N_base ho45) hb);have n2_:=zA (Kd.V_elder' (by (with_reducible repeat (first|apply zi|apply zj|apply zh));exact HO_291001.out) (Kd.N_base ho45) hb);have n3_:=zA (Kd.N_lower ho45 (zZ (by repeat (first|(with_reducible first|exact HB.out|apply zD|apply zB|apply zC|refine zI ?_ GE290.out)|exact HB.out))));have n4_:=zA (zg (g:=gb290) (o:=.cells #[.slice A1_0 l1_0.length c1_0,.slice A1_1 l1_1.length c1_1] 33 (0,0)) (by (with_reducible repeat (first|refine zM ?_ _|refine zO ?_|refine zN ?_ _));exact BK290.out) hb);have n5_:=zA (za (by repeat (first|(with_reducible first|exact HB.out|apply zD|apply zB|apply zC|refine zI ?_ GE290.out)|exact HB.out)) hb);clear HO_0;clear HO_291000;clear HO_291001;clear BK290;clear HB;have HO_0:=n0_;have HO_291000:=n1_;have HO_291001:=n2_;have HO319:=n3_;have BK290:=n4_;have HB:=n5_;clear n0_ n1_ n2_ n3_ n4_ n5_;clear hb ho45;have q46:(x5_1:Int)≤((l0.length:Int):Int):=zF (by first|(with_reducible assumption)|assumption);obtain ⟨i046,hi046,_,hsz46,_⟩:=info_parts info33;have hroom46:l0.length≤c0:=(zv HO_0.out).2.1;have hC46:Kd.F k33 _ _ A0 l0.length l0:=(Kd.V_at (base:=w.heap.size) HO_0.out).2.2;have hcut46:=cut_to (P:=Try.prog) 27 33 .i64 Try.underlying27 hi046 A0 l0.length c0 x5_1 (zF (by first|(with_reducible assumption)|assumption)) q46 hroom46;have hr46:=Kd.F_take (m:=(x5_1:Int).toNat) hC46 (by omega);have hy46:y320.length = (x5_1:Int).toNat:=(by rw [Ny320.out,zQ];omega);rw [← Ny320.out] at hr46;rw [← hy46] at hcut46;have HO324:=zA (show Kd.V k33 33 _ w.heap.size _ (.slice A0 y320.length c0) y320 from Kd.V_mk (by omega) hr46);have HC324:=zA (show y320.length≤c0 from by omega);clear hr46 hC46 hroom46 hi046 hsz46;have KY46:=zA hy46;clear hy46;replace q46:=eq_true q46)|((with_reducible refine gate_builtin (b:=.append) (xs:=#[.tmp 36,.tmp 39]) rfl ?_);at_builtin;refine Kd.N_append_rows k33 (w0:=w) w.heap.size rfl (.tmp 36) (.tmp 39) 27 33 (.agg #[(.slice none 0 0),(.slice none 0 0)]) 48 rfl Try.underlying27 info33 rfl (by decide) (by omega) v318 y317 y320 _ _ _ (fun k_=>((P0_ k_∨P1_0_ k_∨P1_1_ k_)∨w.heap.size≤k_)∧k_≠gb290) (fun k_=>((fun k_=>((P0_ k_∨P1_0_ k_∨P1_1_ k_)∨w.heap.size≤k_)∧k_≠gb290)) k_∧some k_≠(v318:Value).ownBlock) rfl rfl ?aO ?aR (fun _ hk=>hk) ?aF ?aB ?aS ?aL ?_;(case aR=>exact (by skip;exact Kd.V_F (Kd.V_mono (ok':=(fun k_=>((fun k_=>((P0_ k_∨P1_0_ k_∨P1_1_ k_)∨w.heap.size≤k_)∧k_≠gb290)) k_∧some k_≠(v318:Value).ownBlock)) (HO324.out) (fun k_ hk=>⟨⟨hk.1.1,hk.1.2⟩,hk.2⟩))));(case aB=>exact (by repeat (first|(with_reducible first|exact HB.out|apply zD|apply zB|apply zC|refine zI ?_ GE290.out)|exact HB.out)));(case aF=>exact (fun k_ hk=>⟨(.inr (Nat.le_trans (zZ (by repeat (first|(with_reducible first|exact HB.out|apply zD|apply zB|apply zC|refine zI ?_ GE290.out)|exact HB.out))) hk)),Kd.freshB (g:=gb290) (o:=.cells #[.slice A1_0 l1_0.length c1_0,.slice A1_1 l1_1.length c1_1] 33 (0,0)) (by (with_reducible repeat (first|refine zM ?_ _|refine zO ?_|refine zN ?_ _));exact BK290.out) k_ hk⟩));(case aO=>exact (by (with_reducible repeat (first|apply Kd.N_alloc|apply Kd.N_drewN|apply Kd.N_drew));exact HO319.out));(case aS=>exact (zZ (by repeat (first|(with_reducible first|exact HB.out|apply zD|apply zB|apply zC|refine zI ?_ GE290.out)|exact HB.out))));(case aL=>have:=LMc37.out;omega);intro v326 w47 ho hb hg hat;rw [← Ny325.out] at ho;have n0_:=zA (Kd.V_afterv (ok:=(fun k_=>((P0_ k_∨P1_0_ k_∨P1_1_ k_)∨w.heap.size≤k_)∧k_≠gb290)) (by (with_reducible repeat (first|apply zi|apply zj|apply zh));exact HO_0.out) hg hat);have n1_:=zA (Kd.V_afterv (ok:=(fun k_=>((P0_ k_∨P1_0_ k_∨P1_1_ k_)∨w.heap.size≤k_)∧k_≠gb290)) (by (with_reducible repeat (first|apply zi|apply zj|apply zh));exact HO_291000.out) hg hat);have n2_:=zA (Kd.V_afterv (ok:=(fun k_=>((P0_ k_∨P1_0_ k_∨P1_1_ k_)∨w.heap.size≤k_)∧k_≠gb290)) (by (with_reducible repeat (first|apply zi|apply zj|apply zh));exact HO_291001.out) hg hat);have n3_:=zA (blk_grown (g:=gb290) (o:=.cells #[.slice A1_0 l1_0.length c1_0,.slice A1_1 l1_1.length c1_1] 33 (0,0)) (by (with_reducible repeat (first|refine zM ?_ _|refine zO ?_|refine zN ?_ _));exact BK290.out) hg (Kd.N_away HO319.out (fun _ hk=>hk.2)));have n4_:=zA (Kd.V_afterv (ok:=(fun k_=>((P0_ k_∨P1_0_ k_∨P1_1_ k_)∨w.heap.size≤k_)∧k_≠gb290)) (by (with_reducible repeat (first|apply zi|apply zj|apply zh));exact HO324.out) hg hat);have n5_:=zA (hb);have n6_:=zA (ho);clear HO_0;clear HO_291000;clear HO_291001;clear BK290;clear HO324;clear HB;clear HO319;have HO_0:=n0_;have HO_291000:=n1_;have HO_291001:=n2_;have BK290:=n3_;have HO324:=n4_;have HB:=n5_;have HO327:=n6_;clear n0_ n1_ n2_ n3_ n4_ n5_ n6_;clear ho hb hg hat;have hcz48_0:w47.cell? ⟨gb290,0,none⟩ = some (.slice A1_0 l1_0.length c1_0):=(zc BK290.out 0).trans rfl;have hcz48_1:w47.cell? ⟨gb290,1,none⟩ = some (.slice A1_1 l1_1.length c1_1):=(zc BK290.out 1).trans rfl;have hfz48_0:=zl BK290.out 0;have hfz48_1:=zl BK290.out 1)|((with_reducible refine gate_builtin (b:=.append) (xs:=#[.tmp 41,.tmp 43]) rfl ?_);at_builtin;refine Kd.N_append k33 (w0:=w) w.heap.size rfl (.tmp 41) (.tmp 43) 27 33 (.agg #[(.slice none 0 0),(.slice none 0 0)]) 48 rfl Try.underlying27 info33 rfl (by decide) (by omega) v326 y325 (⟨l1_0,l1_1⟩:S33) [.slice A1_0 l1_0.length c1_0,.slice A1_1 l1_1.length c1_1] (fun k_=>((P0_ k_∨P1_0_ k_∨P1_1_ k_)∨w.heap.size≤k_)∧k_≠gb290) (fun k_=>((fun k_=>((P0_ k_∨P1_0_ k_∨P1_1_ k_)∨w.heap.size≤k_)∧k_≠gb290)) k_∧some k_≠(v326:Value).ownBlock) rfl rfl ?aP (fun _ hk=>hk) ?aF ?aO ?aB ?aS ?aL ?_;(case aP=>exact (k33_mkF _ _ (⟨l1_0,l1_1⟩:S33) (zv (Kd.V_mono (ok':=(fun k_=>((fun k_=>((P0_ k_∨P1_0_ k_∨P1_1_ k_)∨w.heap.size≤k_)∧k_≠gb290)) k_∧some k_≠(v326:Value).ownBlock)) (HO_291000.out) (fun k_ hk=>⟨⟨hk.1.1,hk.1.2⟩,hk.2⟩))).2.1 (Kd.V_F (Kd.V_mono (ok':=(fun k_=>((fun k_=>((P0_ k_∨P1_0_ k_∨P1_1_ k_)∨w.heap.size≤k_)∧k_≠gb290)) k_∧some k_≠(v326:Value).ownBlock)) (HO_291000.out) (fun k_ hk=>⟨⟨hk.1.1,hk.1.2⟩,hk.2⟩))) (zv (Kd.V_mono (ok':=(fun k_=>((fun k_=>((P0_ k_∨P1_0_ k_∨P1_1_ k_)∨w.heap.size≤k_)∧k_≠gb290)) k_∧some k_≠(v326:Value).ownBlock)) (HO_291001.out) (fun k_ hk=>⟨⟨hk.1.1,hk.1.2⟩,hk.2⟩))).2.1 (Kd.V_F (Kd.V_mono (ok':=(fun k_=>((fun k_=>((P0_ k_∨P1_0_ k_∨P1_1_ k_)∨w.heap.size≤k_)∧k_≠gb290)) k_∧some k_≠(v326:Value).ownBlock)) (HO_291001.out) (fun k_ hk=>⟨⟨hk.1.1,hk.1.2⟩,hk.2⟩)))));(case aB=>exact (by repeat (first|(with_reducible first|exact HB.out|apply zD|apply zB|apply zC|refine zI ?_ GE290.out)|exact HB.out)));(case aF=>exact (fun k_ hk=>⟨(.inr (Nat.le_trans (zZ (by repeat (first|(with_reducible first|exact HB.out|apply zD|apply zB|apply zC|refine zI ?_ GE290.out)|exact HB.out))) hk)),Kd.freshB (g:=gb290) (o:=.cells #[.slice A1_0 l1_0.length c1_0,.slice A1_1 l1_1.length c1_1] 33 (0,0)) (by (with_reducible repeat (first|refine zM ?_ _|refine zO ?_|refine zN ?_ _));exact BK290.out) k_ hk⟩));(case aO=>exact (by (with_reducible repeat (first|apply Kd.N_alloc|apply Kd.N_drewN|apply Kd.N_drew));exact HO327.out));(case aS=>exact (zZ (by repeat (first|(with_reducible first|exact HB.out|apply zD|apply zB|apply zC|refine zI ?_ GE290.out)|exact HB.out))));(case aL=>have:=LMc38.out;omega);intro v329 w49 ho hb hg hat;rw [← Ny328.out] at ho;have n0_:=zA (Kd.V_afterv (ok:=(fun k_=>((P0_ k_∨P1_0_ k_∨P1_1_ k_)∨w.heap.size≤k_)∧k_≠gb290)) (by (with_reducible repeat (first|apply zi|apply zj|apply zh));exact HO_0.out) hg hat);have n1_:=zA (Kd.V_afterv (ok:=(fun k_=>((P0_ k_∨P1_0_ k_∨P1_1_ k_)∨w.heap.size≤k_)∧k_≠gb290)) (by (with_reducible repeat (first|apply zi|apply zj|apply zh));exact HO_291000.out) hg hat);have n2_:=zA (Kd.V_afterv (ok:=(fun k_=>((P0_ k_∨P1_0_ k_∨P1_1_ k_)∨w.heap.size≤k_)∧k_≠gb290)) (by (with_reducible repeat (first|apply zi|apply zj|apply zh));exact HO_291001.out) hg hat);have n3_:=zA (blk_grown (g:=gb290) (o:=.cells #[.slice A1_0 l1_0.length c1_0,.slice A1_1 l1_1.length c1_1] 33 (0,0)) (by (with_reducible repeat (first|refine zM ?_ _|refine zO ?_|refine zN ?_ _));exact BK290.out) hg (Kd.N_away HO327.out (fun _ hk=>hk.2)));have n4_:=zA (Kd.V_afterv (ok:=(fun k_=>((P0_ k_∨P1_0_ k_∨P1_1_ k_)∨w.heap.size≤k_)∧k_≠gb290)) (by (with_reducible repeat (first|apply zi|apply zj|apply zh));exact HO324.out) hg hat);have n5_:=zA (hb);have n6_:=zA (ho);clear HO_0;clear HO_291000;clear HO_291001;clear BK290;clear HO324;clear HB;clear HO327;have HO_0:=n0_;have HO_291000:=n1_;have HO_291001:=n2_;have BK290:=n3_;have HO324:=n4_;have HB:=n5_;have HO330:=n6_;clear n0_ n1_ n2_ n3_ n4_ n5_ n6_;clear ho hb hg hat;have q50:(x5_1:Int)≤((l0.length:Int):Int):=zF (by first|(with_reducible assumption)|assumption);obtain ⟨i050,hi050,_,hsz50,_⟩:=info_parts info33;have hroom50:l0.length≤c0:=(zv HO_0.out).2.1;have hC50:Kd.F k33 _ _ A0 l0.length l0:=(Kd.V_at (base:=w.heap.size) HO_0.out).2.2;have q050:(0:Int)≤(x5_1:Int):=zF (by first|(with_reducible assumption)|assumption);have hcut50:=cut_from (P:=Try.prog) 27 33 .i64 Try.underlying27 hi050 2 hsz50 A0 l0.length c0 x5_1 q050 q50;have hr50:=Kd.F_cut (m:=(x5_1:Int).toNat) (c:=c0) hC50 (by omega) hroom50;obtain ⟨A50,hA50⟩:∃ A1,A1 = (if c0 = (x5_1:Int).toNat then A0 else (A0:Option Addr).map (·.add ((x5_1:Int).toNat * 2))):=⟨_,rfl⟩;obtain ⟨c50,hc50⟩:∃ c1,c1 = c0 - (x5_1:Int).toNat:=⟨_,rfl⟩;have hy50:y331.length = l0.length - (x5_1:Int).toNat:=(by rw [Ny331.out,zR] <;> omega);rw [show (l0).drop (x5_1:Int).toNat = y331 from Ny331.out.symm] at hr50;replace hr50:Kd.F k33 _ _ A50 y331.length y331:=(by rw [hA50];exact hr50);rw [← hy50, ← hA50, ← hc50] at hcut50;have HO335:=zA (show Kd.V k33 33 _ w.heap.size _ (.slice A50 y331.length c50) y331 from Kd.V_mk (by rw [hy50,hc50];exact Nat.sub_le_sub_right hroom50 _) hr50);have HC335:=zA (show y331.length≤c50 from by rw [hy50,hc50];exact Nat.sub_le_sub_right hroom50 _);clear hr50 hC50 hroom50 hi050 hsz50 hc50;have KY50:=zA hy50;have KA50:=zA hA50;clear hy50 hA50;replace q50:=eq_true q50)|((with_reducible refine gate_builtin (b:=.append) (xs:=#[.tmp 45,.tmp 48]) rfl ?_);at_builtin;refine Kd.N_append_rows k33 (w0:=w) w.heap.size rfl (.tmp 45) (.tmp 48) 27 33 (.agg #[(.slice none 0 0),(.slice none 0 0)]) 48 rfl Try.underlying27 info33 rfl (by decide) (by omega) v329 y328 y331 _ _ _ (fun k_=>((P0_ k_∨P1_0_ k_∨P1_1_ k_)∨w.heap.size≤k_)∧k_≠gb290) (fun k_=>((fun k_=>((P0_ k_∨P1_0_ k_∨P1_1_ k_)∨w.heap.size≤k_)∧k_≠gb290)) k_∧some k_≠(v329:Value).ownBlock) rfl rfl ?aO ?aR (fun _ hk=>hk) ?aF ?aB ?aS ?aL ?_;(case aR=>exact (by skip;exact Kd.V_F (Kd.V_mono (ok':=(fun k_=>((fun k_=>((P0_ k_∨P1_0_ k_∨P1_1_ k_)∨w.heap.size≤k_)∧k_≠gb290)) k_∧some k_≠(v329:Value).ownBlock)) (HO335.out) (fun k_ hk=>⟨⟨hk.1.1,hk.1.2⟩,hk.2⟩))));(case aB=>exact (by repeat (first|(with_reducible first|exact HB.out|apply zD|apply zB|apply zC|refine zI ?_ GE290.out)|exact HB.out)));(case aF=>exact (fun k_ hk=>⟨(.inr (Nat.le_trans (zZ (by repeat (first|(with_reducible first|exact HB.out|apply zD|apply zB|apply zC|refine zI ?_ GE290.out)|exact HB.out))) hk)),Kd.freshB (g:=gb290) (o:=.cells #[.slice A1_0 l1_0.length c1_0,.slice A1_1 l1_1.length c1_1] 33 (0,0)) (by (with_reducible repeat (first|refine zM ?_ _|refine zO ?_|refine zN ?_ _));exact BK290.out) k_ hk⟩));(case aO=>exact (by (with_reducible repeat (first|apply Kd.N_alloc|apply Kd.N_drewN|apply Kd.N_drew));exact HO330.out));(case aS=>exact (zZ (by repeat (first|(with_reducible first|exact HB.out|apply zD|apply zB|apply zC|refine zI ?_ GE290.out)|exact HB.out))));(case aL=>have:=LMc41.out;omega);intro v337 w51 ho hb hg hat;rw [← Ny336.out] at ho;have n0_:=zA (Kd.V_afterv (ok:=(fun k_=>((P0_ k_∨P1_0_ k_∨P1_1_ k_)∨w.heap.size≤k_)∧k_≠gb290)) (by (with_reducible repeat (first|apply zi|apply zj|apply zh));exact HO_0.out) hg hat);have n1_:=zA (Kd.V_afterv (ok:=(fun k_=>((P0_ k_∨P1_0_ k_∨P1_1_ k_)∨w.heap.size≤k_)∧k_≠gb290)) (by (with_reducible repeat (first|apply zi|apply zj|apply zh));exact HO_291000.out) hg hat);have n2_:=zA (Kd.V_afterv (ok:=(fun k_=>((P0_ k_∨P1_0_ k_∨P1_1_ k_)∨w.heap.size≤k_)∧k_≠gb290)) (by (with_reducible repeat (first|apply zi|apply zj|apply zh));exact HO_291001.out) hg hat);have n3_:=zA (blk_grown (g:=gb290) (o:=.cells #[.slice A1_0 l1_0.length c1_0,.slice A1_1 l1_1.length c1_1] 33 (0,0)) (by (with_reducible repeat (first|refine zM ?_ _|refine zO ?_|refine zN ?_ _));exact BK290.out) hg (Kd.N_away HO330.out (fun _ hk=>hk.2)));have n4_:=zA (Kd.V_afterv (ok:=(fun k_=>((P0_ k_∨P1_0_ k_∨P1_1_ k_)∨w.heap.size≤k_)∧k_≠gb290)) (by (with_reducible repeat (first|apply zi|apply zj|apply zh));exact HO324.out) hg hat);have n5_:=zA (Kd.V_afterv (ok:=(fun k_=>((P0_ k_∨P1_0_ k_∨P1_1_ k_)∨w.heap.size≤k_)∧k_≠gb290)) (by (with_reducible repeat (first|apply zi|apply zj|apply zh));exact HO335.out) hg hat);have n6_:=zA (hb);have n7_:=zA (ho);clear HO_0;clear HO_291000;clear HO_291001;clear BK290;clear HO324;clear HO335;clear HB;clear HO330;have HO_0:=n0_;have HO_291000:=n1_;have HO_291001:=n2_;have BK290:=n3_;have HO324:=n4_;have HO335:=n5_;have HB:=n6_;have HO338:=n7_;clear n0_ n1_ n2_ n3_ n4_ n5_ n6_ n7_;clear ho hb hg hat))
         go_ret
         exact ⟨_,by first|rfl|(simp [errW_none,errW_some] <;> rfl)|(simp [*,errW_none,errW_some] <;> rfl),Kd.N_V (by (with_reducible repeat (first|apply Kd.N_alloc|apply Kd.N_drewN|apply Kd.N_drew));exact Kd.N_mono HO338.out (fun _ hk=>hk.1)),by repeat (first|(with_reducible first|exact HB.out|apply zD|apply zB|apply zC|refine zI ?_ GE290.out)|exact HB.out)⟩
        ·rw [if_neg c41] at H
         exact absurd H (by simp)
       ·rw [if_neg c38] at H
        exact absurd H (by simp)
      ·rw [if_neg c37] at H
       exact absurd H (by simp)
     ·rw [if_neg c36] at H
      exact absurd H (by simp)
    ·rw [if_neg c35] at H
     exact absurd H (by simp)

end Go.Proofs.Ytdaiohcgdpclnaa.Q
