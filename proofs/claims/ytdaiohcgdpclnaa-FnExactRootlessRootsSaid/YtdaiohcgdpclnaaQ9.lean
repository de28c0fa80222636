import Derived.Test.YtdaiohcgdpclnaaQ0
import Derived.Test.YtdaiohcgdpclnaaQ8
import Derived.Test.YtdaiohcgdpclnaaZ
namespace Go.Proofs.Ytdaiohcgdpclnaa.Q
open Go.RowKit Go.Proofs.YtdaiohcgdpclnaaW.PrintWords Go.Proofs.YtdaiohcgdpclnaaW.PrintLast Go.Proofs.YtdaiohcgdpclnaaW.PrintMore
attribute [local go_sem] max2_int min2_int max_two min_two max_three min_three max_four min_four   -- for this text's walks alone
set_option linter.unusedVariables false
set_option linter.unusedSimpArgs false

/-! ### spec_l3Put: function 64 -/
def spec_l3Put.l0:Nat→List (S33)→Int→List Int→List Int→Option ((List (S33)))
 | 0,_,_,_,_=>none
 | k+1,x0,x5,x316000,x316001=>if x5 < (x0.length:Int) then (if 0≤x5 then ((spec_l2Before.f k ((rd_T33 x0 x5).f0) ((rd_T33 x0 x5).f1) x316000 x316001).bind fun t317=>(if t317 < 0 then (spec_l3Put.l0 k x0 (wrap64 (x5+1)) x316000 x316001) else ((spec_l2Before.f k ((rd_T33 x0 x5).f0) ((rd_T33 x0 x5).f1) x316000 x316001).bind fun t319=>(if t319 = 0 then (some x0) else ((some (([]:List (S33)):List (S33))).bind fun y320=>(if x5≤(x0.length:Int) then ((some (x0.take (x5:Int).toNat:List (S33))).bind fun y323=>(if y320.length+y323.length < 2932031007402 then ((some (y320 ++ y323:List (S33))).bind fun y328=>(if y328.length < 2932031007402 then ((some (y328 ++ [(⟨x316000,x316001⟩:S33)]:List (S33))).bind fun y331=>((some (x0.drop (x5:Int).toNat:List (S33))).bind fun y334=>(if y331.length+y334.length < 2932031007402 then (some (y331 ++ y334)) else (none)))) else (none))) else (none))) else (none))))))) else (none)) else ((some (([]:List (S33)):List (S33))).bind fun y342=>(if 0≤x5 then (if x5≤(x0.length:Int) then ((some (x0.take (x5:Int).toNat:List (S33))).bind fun y345=>(if y342.length+y345.length < 2932031007402 then ((some (y342 ++ y345:List (S33))).bind fun y350=>(if y350.length < 2932031007402 then ((some (y350 ++ [(⟨x316000,x316001⟩:S33)]:List (S33))).bind fun y353=>((some (x0.drop (x5:Int).toNat:List (S33))).bind fun y356=>(if y353.length+y356.length < 2932031007402 then (some (y353 ++ y356)) else (none)))) else (none))) else (none))) else (none)) else (none)))
def spec_l3Put.f (k:Nat) (l0:List (S33)) (l1_0:List Int) (l1_1:List Int):Option ((List (S33))):=spec_l3Put.l0 k l0 0 l1_0 l1_1
theorem spec_l3Put.mono_l:∀ k,(∀ y0 y1 y2 y3,LeO (spec_l3Put.l0 k y0 y1 y2 y3) (spec_l3Put.l0 (k+1) y0 y1 y2 y3))
 | 0=>fun _ _ _ _ r h=>by simp [spec_l3Put.l0] at h
 | k+1=>by
  have ih0:=spec_l3Put.mono_l k
  ·intro y0 y1 y2 y3
   unfold spec_l3Put.l0
   repeat' first
   | (with_reducible exact ih0 _ _ _ _)
   | (with_reducible exact spec_l2Before.mono _ _ _ _ _)
   | (with_reducible exact LeO.refl _)
   | (with_reducible exact za _)
   | (with_reducible refine zc ?_ ?_)
   | (with_reducible refine zb ?_ (fun _=>?_))
theorem spec_l3Put.mono:∀ a0 a1 a2 k,LeO (spec_l3Put.f k a0 a1 a2) (spec_l3Put.f (k+1) a0 a1 a2):=by
 intro a0 a1 a2 k
 have ih0:=spec_l3Put.mono_l k
 unfold spec_l3Put.f
 repeat' first
   | (with_reducible exact ih0 _ _ _ _)
   | (with_reducible exact spec_l2Before.mono _ _ _ _ _)
   | (with_reducible exact LeO.refl _)
   | (with_reducible exact za _)
   | (with_reducible refine zc ?_ ?_)
   | (with_reducible refine zb ?_ (fun _=>?_))
def spec_l3Put.T2:Bool × List (List Nat × List Nat):=(true,[([],[]),([],[]),([1],[1]),([0,2],[0,2]),([3],[3]),([4],[4]),([4],[4]),([5,6,4],[4,5,6]),([7,4],[4,7]),([4],[4]),([8,9,4,4],[4,8,9]),([10,4],[4,10]),([4,11],[4,11])])
def spec_l3Put.B2:List Nat:=[0,0,2,7,15,31,31,127,255,31,1023,2047,4095]
theorem spec_l3Put.tab2:rtab .any (opsOf Try.f64 2) = spec_l3Put.T2:=by kernel_rfl
theorem spec_l3Put.bits2:waitsOk spec_l3Put.T2.2 spec_l3Put.B2 = true:=by kernel_rfl
def spec_l3Put.T4:Bool × List (List Nat × List Nat):=(true,[([],[]),([],[]),([1],[1]),([0,2],[0,2]),([3],[3]),([4],[4]),([4],[4]),([5,6,4],[4,5,6]),([7,4],[4,7]),([4],[4]),([8,9,4,4],[4,8,9]),([10,4],[4,10]),([4,11],[4,11])])
def spec_l3Put.B4:List Nat:=[0,0,2,7,15,31,31,127,255,31,1023,2047,4095]
theorem spec_l3Put.tab4:rtab .any (opsOf Try.f64 4) = spec_l3Put.T4:=by kernel_rfl
theorem spec_l3Put.bits4:waitsOk spec_l3Put.T4.2 spec_l3Put.B4 = true:=by kernel_rfl
set_option maxHeartbeats 8000000 in
set_option maxRecDepth 100000 in
theorem spec_l3Put.calls (k:Nat) (P0_:Nat→Prop) (A0:Option Addr) (c0:Nat) (l0:List (S33)) (P1_0_:Nat→Prop) (A1_0:Option Addr) (c1_0:Nat) (l1_0:List Int) (P1_1_:Nat→Prop) (A1_1:Option Addr) (c1_1:Nat) (l1_1:List Int) (r:List (S33)) (w:World) (hs0:Kd.V k33 33 w w.heap.size (fun k_=>P0_ k_) (.slice A0 l0.length c0) l0) (hs1_0:Kd.V (Kd.int .i64) 3 w w.heap.size (fun k_=>P1_0_ k_) (.slice A1_0 l1_0.length c1_0) l1_0) (hs1_1:Kd.V (Kd.int .i64) 3 w w.heap.size (fun k_=>P1_1_ k_) (.slice A1_1 l1_1.length c1_1) l1_1) (h:spec_l3Put.f k l0 l1_0 l1_1 = some r) :
  Calls Try.prog 64 #[.slice A0 l0.length c0,.agg #[.slice A1_0 l1_0.length c1_0,.slice A1_1 l1_1.length c1_1]] w fun e w' => ∃ v0_:Value,e = .returned (v0_)∧Kd.V k33 33 w' w.heap.size (fun k_=>((P0_ k_∨P1_0_ k_∨P1_1_ k_)∨w.heap.size≤k_)) v0_ r∧Below w.heap.size w w':=by
 have hu33:=Try.underlying33
 have HO0:=zA (show Kd.V k33 33 w w.heap.size (fun k_=>((P0_ k_∨P1_0_ k_∨P1_1_ k_)∨w.heap.size≤k_)) (.slice A0 l0.length c0) l0 from Kd.V_mono hs0 (fun k_ hk=>.inl (.inl hk)))
 have HO1_0:=zA (show Kd.V (Kd.int .i64) 3 w w.heap.size (fun k_=>((P0_ k_∨P1_0_ k_∨P1_1_ k_)∨w.heap.size≤k_)) (.slice A1_0 l1_0.length c1_0) l1_0 from Kd.V_mono hs1_0 (fun k_ hk=>.inl (.inr (.inl hk))))
 have HO1_1:=zA (show Kd.V (Kd.int .i64) 3 w w.heap.size (fun k_=>((P0_ k_∨P1_0_ k_∨P1_1_ k_)∨w.heap.size≤k_)) (.slice A1_1 l1_1.length c1_1) l1_1 from Kd.V_mono hs1_1 (fun k_ hk=>.inl (.inr (.inr hk))))
 have HB:=zA (Below.refl w.heap.size w)
 have H:(spec_l3Put.l0 k l0 0 l1_0 l1_1) = some r:=h
 clear h
 have H':=zA H
 clear H
 go_enter Try.func64,Try.ntmps64
 go_wp2_with (first|((with_reducible refine gate_dst (N:=3) rfl ?_);refine box_event ?hg (N:=3) ?hd (cs:=#[.slice A1_0 l1_0.length c1_0,.slice A1_1 l1_1.length c1_1]) (t:=33) ?hr ?_;(case hd=>rfl);(case hg=>rfl);(case hr=>first|(go_simp;done)|(go_simp;rfl));intro gb315 hg w3 hbox hb;have n0_:=zA (Kd.V_below (Kd.V_elderB (by apply zV_;exact HO0.out) gb315 (Nat.le_of_eq hg.symm)) hb);have n1_:=zA (Kd.V_below (Kd.V_elderB (by apply zV_;exact HO1_0.out) gb315 (Nat.le_of_eq hg.symm)) hb);have n2_:=zA (Kd.V_below (Kd.V_elderB (by apply zV_;exact HO1_1.out) gb315 (Nat.le_of_eq hg.symm)) hb);have n3_:=zA (zR (by exact zB_ HB.out) hb);have n4_:=zA (hbox);have n5_:=zA ((by rw [hg];exact (zQ (by exact zB_ HB.out)):w.heap.size≤gb315));have n6_:=zA ((by rw [hg];exact (zQ (by exact zB_ HB.out)):w.heap.size≤gb315));clear HO0;clear HO1_0;clear HO1_1;clear HB;have HO0:=n0_;have HO1_0:=n1_;have HO1_1:=n2_;have HB:=n3_;have BK315:=n4_;have GW315:=n5_;have GE315:=n6_;clear n0_ n1_ n2_ n3_ n4_ n5_ n6_;clear hb hbox hg))
 go_loopg [5] k (fun kq v5 w' => ∃ (x5_1:Int),v5 = .int .i64 x5_1∧Aside0 (spec_l3Put.l0 kq l0 x5_1 l1_0 l1_1 = some r)∧Aside0 (kq≤k)∧Aside0 (Kd.V k33 33 w' w.heap.size (fun k_=>((P0_ k_∨P1_0_ k_∨P1_1_ k_)∨w.heap.size≤k_)∧k_≠gb315) (.slice A0 l0.length c0) l0)∧Aside0 (Kd.V (Kd.int .i64) 3 w' w.heap.size (fun k_=>((P0_ k_∨P1_0_ k_∨P1_1_ k_)∨w.heap.size≤k_)∧k_≠gb315) (.slice A1_0 l1_0.length c1_0) l1_0)∧Aside0 (Kd.V (Kd.int .i64) 3 w' w.heap.size (fun k_=>((P0_ k_∨P1_0_ k_∨P1_1_ k_)∨w.heap.size≤k_)∧k_≠gb315) (.slice A1_1 l1_1.length c1_1) l1_1)∧Aside0 (w'.heap[gb315]? = some (.cells #[(.slice A1_0 l1_0.length c1_0),(.slice A1_1 l1_1.length c1_1)] 33 (0,0)))∧Aside0 (Below w.heap.size w w'))
 case atStart=>exact ⟨(0),(by first|rfl|(simp;done)|(simp [*];done)),H',⟨Nat.le_refl _⟩,⟨by apply zV_;exact HO0.out⟩,⟨by apply zV_;exact HO1_0.out⟩,⟨by apply zV_;exact HO1_1.out⟩,⟨by (with_reducible repeat (first|refine zG ?_ _|refine zI ?_|refine zH ?_ _));exact BK315.out⟩,⟨by repeat (first|(with_reducible first|exact HB.out|apply zD|apply zB|apply zC|refine zF ?_ GE315.out)|exact HB.out)⟩⟩
 case round =>
  clear H'
  (try clear c1);(try clear p2)
  obtain ⟨x5_1,rfl,HA,HK1,HO_0,HO_316000,HO_316001,BK315,HB⟩:=hrel
  cases gk with
  | zero=>exact absurd HA.out (by simp [spec_l3Put.l0])
  | succ k1 =>
   have H:=HA.out
   clear HA
   simp only [spec_l3Put.l0] at H
   by_cases c4:x5_1 < (l0.length:Int)
   ·rw [if_pos c4] at H
    have c4b0:decide (x5_1 < (l0.length:Int)) = true:=zO c4
    clear c4
    by_cases c5:0≤x5_1
    ·rw [if_pos c5] at H
     have c5b0:decide (0≤x5_1) = true:=zO c5
     clear c5
     replace H:=zz0 H
     obtain ⟨t317,A60,H⟩:=H
     try dsimp only at H
     have A6:=zA A60
     clear A60
     have H9_:=zA H
     clear H
     try go_wp2
     have n0_:=zA (Kd.V_drew HO_0.out)
     have n1_:=zA (Kd.V_drew HO_316000.out)
     have n2_:=zA (Kd.V_drew HO_316001.out)
     have n3_:=zA (zI BK315.out)
     have n4_:=zA (zC HB.out)
     clear HO_0 HO_316000 HO_316001 BK315 HB
     have HO_0:=n0_
     have HO_316000:=n1_
     have HO_316001:=n2_
     have BK315:=n3_
     have HB:=n4_
     clear n0_ n1_ n2_ n3_ n4_
     have p316:0≤(x5_1:Int):=zE (by with_reducible assumption)
     have q316:x5_1 < (l0.length:Int):=zE (by with_reducible assumption)
     obtain ⟨ad316,A316_0,c316_0,A316_1,c316_1,e316,hx316_0,hx316_1,hl316_0,hi316_0,hl316_1,hi316_1⟩:=at_T33 (zk HO_0.out).2.2 x5_1 p316 q316
     cases e316
     obtain ⟨ce316,hce316,hMe316,hcc316⟩:=Kd.V_get HO_0.out z33 x5_1 p316 (by first|exact q316|exact zE (by with_reducible assumption)|(have e_:=(zk HO_0.out).1;omega))
     obtain ⟨ua316_0,uc316_0,ua316_1,uc316_1,rfl,ul316_0,ge316_0,ul316_1,ge316_1⟩:=k33_openF hMe316
     have hv316_0:=hcc316 0 _ rfl
     rw [Nat.add_zero] at hv316_0
     replace hv316_0:=zS (hv316_0.symm.trans hx316_0)
     injection hv316_0 with hva_ hvn_ hvc_
     rw [hva_] at ge316_0
     rw [hvc_] at ul316_0
     have HL316_0:=zA (show Kd.V (Kd.int .i64) 3 _ w.heap.size _ _ ((rd_T33 l0 x5_1).f0) from Kd.V_mk ul316_0 ge316_0)
     clear hva_ hvn_ hvc_ ge316_0 ul316_0
     have hv316_1:=hcc316 1 _ rfl
     rw [add_field _ _ 1 (by omega)] at hv316_1
     replace hv316_1:=zS (hv316_1.symm.trans hx316_1)
     injection hv316_1 with hva_ hvn_ hvc_
     rw [hva_] at ge316_1
     rw [hvc_] at ul316_1
     have HL316_1:=zA (show Kd.V (Kd.int .i64) 3 _ w.heap.size _ _ ((rd_T33 l0 x5_1).f1) from Kd.V_mk ul316_1 ge316_1)
     clear hva_ hvn_ hvc_ ge316_1 ul316_1 hcc316 hce316
     have HR316_0:=zA hi316_0
     have HC316_0:=zA hl316_0
     clear hi316_0 hl316_0
     have HR316_1:=zA hi316_1
     have HC316_1:=zA hl316_1
     clear hi316_1 hl316_1
     replace p316:=eq_true p316
     replace q316:=eq_true q316
     refine start_ (n:=13) (S:=fun w'=>w'.cell? ⟨gb315,0,none⟩ = some (.slice A1_0 l1_0.length c1_0)∧w'.cell? ⟨gb315,1,none⟩ = some (.slice A1_1 l1_1.length c1_1)∧w'.cell? (ad316.add ((x5_1).toNat * 2)) = some (.slice A316_0 ((rd_T33 l0 x5_1).f0).length c316_0)∧w'.cell? ⟨(ad316.add ((x5_1).toNat * 2)).block,(ad316.add ((x5_1).toNat * 2)).off+1,none⟩ = some (.slice A316_1 ((rd_T33 l0 x5_1).f1).length c316_1)) (ds:=[]) #[zf,zf,zf,zf,zf,zf,zf,zf,zf,zf,zf,zf,zf] (by kernel_rfl) rfl rfl ⟨(zT BK315.out 0).trans rfl,(zT BK315.out 1).trans rfl,hx316_0,hx316_1⟩ (fun hHeld=>?_);refine with_tabW spec_l3Put.tab2 spec_l3Put.bits2 (fun HT_ HW_=>?_)
     generalize wr.drew = w8 at HO_0 HO_316000 HO_316001 BK315 HB HL316_0 HL316_1 HR316_0 HR316_1 hx316_0 hx316_1 hHeld ⊢
     refine pure_ (i:=0) (N:=some 7) (v:=?_) (a':=?_) #[zt,zf,zf,zf,zf,zf,zf,zf,zf,zf,zf,zf,zf] rfl rfl (any_of HT_.out (by kernel_rfl)) (fun _ _ _ h=>h) (Or.inl ⟨by rfl,?_⟩) ?_ ?_
     rotate_left
     ·intro w'
      go_simp
      with_reducible rfl
     rotate_left
     ·simp only [Act.put,zP_,i64_w]
      rfl
     refine pure_ (i:=1) (N:=some 8) (v:=?_) (a':=?_) #[zt,zt,zf,zf,zf,zf,zf,zf,zf,zf,zf,zf,zf] rfl rfl (any_of HT_.out (by kernel_rfl)) (fun _ _ _ h=>h) (Or.inl ⟨by rfl,?_⟩) ?_ ?_
     rotate_left
     ·intro w'
      go_simp
      with_reducible rfl
     rotate_left
     ·simp only [Act.put,zP_,i64_w]
      rfl
     refine pure_ (i:=2) (N:=some 9) (v:=?_) (a':=?_) #[zt,zt,zt,zf,zf,zf,zf,zf,zf,zf,zf,zf,zf] rfl rfl (any_of HT_.out (by kernel_rfl)) (fun _ _ _ h=>h) (Or.inl ⟨by rfl,?_⟩) ?_ ?_
     rotate_left
     ·intro w'
      go_simp
      with_reducible rfl
     rotate_left
     ·simp only [Act.put,zP_,i64_w]
      rfl
     refine pure_ (i:=3) (N:=some 10) (v:=?_) (a':=?_) #[zt,zt,zt,zt,zf,zf,zf,zf,zf,zf,zf,zf,zf] rfl rfl (any_of HT_.out (by kernel_rfl)) (fun _ _ _ h=>h) (Or.inl ⟨by rfl,?_⟩) ?_ ?_
     rotate_left
     ·intro w'
      go_simp
      with_reducible rfl
     rotate_left
     ·simp only [Act.put,zP_,i64_w]
      rfl
     refine pure_ (i:=4) (N:=some 11) (v:=?_) (a':=?_) #[zt,zt,zt,zt,zt,zf,zf,zf,zf,zf,zf,zf,zf] rfl rfl (any_of HT_.out (by kernel_rfl)) (fun _ _ _ h=>h) (Or.inl ⟨by rfl,?_⟩) ?_ ?_
     rotate_left
     ·intro w'
      go_simp
      with_reducible rfl
     rotate_left
     ·simp only [Act.put,zP_,i64_w]
      rfl
     refine pure_ (i:=5) (N:=some 12) (v:=?_) (a':=?_) #[zt,zt,zt,zt,zt,zt,zf,zf,zf,zf,zf,zf,zf] rfl rfl (any_of HT_.out (by kernel_rfl)) (fun _ _ _ h=>h) (Or.inl ⟨by rfl,?_⟩) ?_ ?_
     rotate_left
     ·intro w'
      go_simp
      with_reducible rfl
     rotate_left
     ·simp only [Act.put,zP_,i64_w]
      rfl
     refine pure_ (i:=6) (N:=some 13) (v:=?_) (a':=?_) #[zt,zt,zt,zt,zt,zt,zt,zf,zf,zf,zf,zf,zf] rfl rfl (any_of HT_.out (by kernel_rfl)) (fun _ _ _ h=>h) (Or.inl ⟨by rfl,?_⟩) ?_ ?_
     rotate_left
     ·intro w'
      go_simp
      with_reducible rfl
     rotate_left
     ·simp only [Act.put,zP_,i64_w]
      rfl
     refine pure_ (i:=7) (N:=some 14) (v:=?_) (a':=?_) #[zt,zt,zt,zt,zt,zt,zt,zt,zf,zf,zf,zf,zf] rfl rfl (any_of HT_.out (by kernel_rfl)) (fun _ _ _ h=>h) (Or.inl ⟨by rfl,?_⟩) ?_ ?_
     rotate_left
     ·intro w'
      go_simp
      with_reducible rfl
     rotate_left
     ·simp only [Act.put,zP_,i64_w]
      rfl
     refine take_ (i:=8) (N:=some 15) (v:=?_) (a':=?_) #[zt,zt,zt,zt,zt,zt,zt,zt,zt,zf,zf,zf,zf] rfl rfl (take_ofW HT_.out HW_.out (by kernel_rfl)) (fun _ _ _ h=>h) (Or.inl ⟨by rfl,?_⟩) hHeld ?_ ?_
     rotate_left
     ·rintro w' ⟨s0,s1,s2,s3⟩
      go_simp
      with_reducible rfl
     rotate_left
     ·simp only [Act.put,zP_,i64_w]
      rfl
     refine take_ (i:=9) (N:=some 16) (v:=?_) (a':=?_) #[zt,zt,zt,zt,zt,zt,zt,zt,zt,zt,zf,zf,zf] rfl rfl (take_ofW HT_.out HW_.out (by kernel_rfl)) (fun _ _ _ h=>h) (Or.inl ⟨by rfl,?_⟩) hHeld ?_ ?_
     rotate_left
     ·rintro w' ⟨s0,s1,s2,s3⟩
      go_simp
      with_reducible rfl
     rotate_left
     ·simp only [Act.put,zP_,i64_w]
      rfl
     refine one_ (i:=10) (N:=some 17) #[zt,zt,zt,zt,zt,zt,zt,zt,zt,zt,zt,zf,zf] rfl rfl (one_of HT_.out (by kernel_rfl)) (by decide) (fun K hK=>?_)
     refine goes_ Try.func83 (by kernel_rfl) rfl #[.agg #[.slice A316_0 ((rd_T33 l0 x5_1).f0).length c316_0,.slice A316_1 ((rd_T33 l0 x5_1).f1).length c316_1],.agg #[.slice A1_0 l1_0.length c1_0,.slice A1_1 l1_1.length c1_1]] (by rfl) rfl rfl (by (try simp only [zJ,zM,zN]);first|done|rfl|(simp only [zL,zK];rfl)) ?_
     with_reducible refine (spec_l2Before.calls k1 _ _ ((rd_T33 l0 x5_1).f0) _ _ ((rd_T33 l0 x5_1).f1) _ _ l1_0 _ _ l1_1 t317 _ ?side1 ?side2 ?side3 ?side4 ?side5 ?side6 ?side7 ?side8 A6.out).mono ?_
     (case side1=>repeat (first|exact (by repeat (first|(with_reducible exact HR316_0.out)|apply zC_|exact HR316_0.out))|apply zC_))
     (case side2=>exact HC316_0.out)
     (case side3=>repeat (first|exact (by repeat (first|(with_reducible exact HR316_1.out)|apply zC_|exact HR316_1.out))|apply zC_))
     (case side4=>exact HC316_1.out)
     (case side5=>repeat (first|exact (zk HO_316000.out).2.2|apply zC_))
     (case side6=>exact (zk HO_316000.out).2.1)
     (case side7=>repeat (first|exact (zk HO_316001.out).2.2|apply zC_))
     (case side8=>exact (zk HO_316001.out).2.1)
     rintro e w9 ⟨rfl,hb⟩
     have HS2_:=(hb.cell (zY _ _ (hHeld.2.2.1))).trans (hHeld.2.2.1)
     have HS3_:=(hb.cell (zY _ _ (hHeld.2.2.2))).trans (hHeld.2.2.2)
     refine ⟨_,rfl,?_⟩
     have n0_:=zA (Kd.V_below (by apply zV_;exact HO_0.out) hb)
     have n1_:=zA (Kd.V_below (by apply zV_;exact HO_316000.out) hb)
     have n2_:=zA (Kd.V_below (by apply zV_;exact HO_316001.out) hb)
     have n3_:=zA (Kd.V_below (by apply zV_;exact HL316_0.out) hb)
     have n4_:=zA (Kd.V_below (by apply zV_;exact HL316_1.out) hb)
     have n5_:=zA (zX (g:=gb315) (o:=.cells #[.slice A1_0 l1_0.length c1_0,.slice A1_1 l1_1.length c1_1] 33 (0,0)) (by (with_reducible repeat (first|refine zG ?_ _|refine zI ?_|refine zH ?_ _));exact BK315.out) hb)
     have n6_:=zA (zW (by repeat (first|(with_reducible exact HR316_0.out)|apply zC_|exact HR316_0.out)) hb)
     have n7_:=zA (zW (by repeat (first|(with_reducible exact HR316_1.out)|apply zC_|exact HR316_1.out)) hb)
     have n8_:=zA (zR (by repeat (first|(with_reducible first|exact HB.out|apply zD|apply zB|apply zC|refine zF ?_ GE315.out)|exact HB.out)) hb)
     clear HO_0 HO_316000 HO_316001 HL316_0 HL316_1 BK315 HR316_0 HR316_1 HB
     have HO_0:=n0_
     have HO_316000:=n1_
     have HO_316001:=n2_
     have HL316_0:=n3_
     have HL316_1:=n4_
     have BK315:=n5_
     have HR316_0:=n6_
     have HR316_1:=n7_
     have HB:=n8_
     clear n0_ n1_ n2_ n3_ n4_ n5_ n6_ n7_ n8_
     (try clear hb);(try clear hb2);(try clear hk);(try clear hi)
     refine hK.out _ _ ⟨(zT BK315.out 0).trans rfl,(zT BK315.out 1).trans rfl,HS2_,HS3_⟩ (fun hHeld=>?_)
     clear hK K
     refine norm_ (a':=?_) ?_ ?_
     rotate_left
     ·show Act.put _ (some 17) _ = _
      simp only [Act.put,zP_,i64_w]
      rfl
     refine pure_ (i:=11) (N:=some 18) (v:=?_) (a':=?_) #[zt,zt,zt,zt,zt,zt,zt,zt,zt,zt,zt,zt,zf] rfl rfl (any_of HT_.out (by kernel_rfl)) (fun _ _ _ h=>h) (Or.inl ⟨by rfl,?_⟩) ?_ ?_
     rotate_left
     ·intro w'
      go_simp
      with_reducible rfl
     rotate_left
     ·simp only [Act.put,zP_,i64_w]
      rfl
     refine pure_ (i:=12) (N:=some 19) (v:=?_) (a':=?_) #[zt,zt,zt,zt,zt,zt,zt,zt,zt,zt,zt,zt,zt] rfl rfl (any_of HT_.out (by kernel_rfl)) (fun _ _ _ h=>h) (Or.inl ⟨by rfl,?_⟩) ?_ ?_
     rotate_left
     ·intro w'
      go_simp
      with_reducible rfl
     rotate_left
     ·simp only [Act.put,zP_,i64_w]
      rfl
     refine done_ (done_of HT_.out (by kernel_rfl)) ?_
     have H:=H9_.out
     clear H9_
     by_cases c7:t317 < 0
     ·rw [if_pos c7] at H
      have c7b0:decide (t317 < 0) = true:=zO c7
      clear c7
      try rw [c7b0]
      have H':=zA H
      clear H
      try go_wp2
      go_roundg k1
      case measure=>have:=HK1.out;omega
      case rel=>exact ⟨(wrap64 (x5_1+1)),(by first|rfl|(simp;done)|(simp [*];done)),H',⟨by have:=HK1.out;omega⟩,⟨by apply zV_;exact HO_0.out⟩,⟨by apply zV_;exact HO_316000.out⟩,⟨by apply zV_;exact HO_316001.out⟩,⟨by (with_reducible repeat (first|refine zG ?_ _|refine zI ?_|refine zH ?_ _));exact BK315.out⟩,⟨by repeat (first|(with_reducible first|exact HB.out|apply zD|apply zB|apply zC|refine zF ?_ GE315.out)|exact HB.out)⟩⟩
     ·rw [if_neg c7] at H
      have c7b0:decide (t317 < 0) = false:=zP c7
      clear c7
      try rw [c7b0]
      replace H:=zz0 H
      obtain ⟨t319,A100,H⟩:=H
      try dsimp only at H
      have A10:=zA A100
      clear A100
      have H9_:=zA H
      clear H
      try go_wp2
      have n0_:=zA (Kd.V_drew HO_0.out)
      have n1_:=zA (Kd.V_drew HO_316000.out)
      have n2_:=zA (Kd.V_drew HO_316001.out)
      have n3_:=zA (Kd.V_drew HL316_0.out)
      have n4_:=zA (Kd.V_drew HL316_1.out)
      have n5_:=zA (zI BK315.out)
      have n6_:=zA (Kd.C_drew HR316_0.out)
      have n7_:=zA (Kd.C_drew HR316_1.out)
      have n8_:=zA (zC HB.out)
      clear HO_0 HO_316000 HO_316001 HL316_0 HL316_1 BK315 HR316_0 HR316_1 HB
      have HO_0:=n0_
      have HO_316000:=n1_
      have HO_316001:=n2_
      have HL316_0:=n3_
      have HL316_1:=n4_
      have BK315:=n5_
      have HR316_0:=n6_
      have HR316_1:=n7_
      have HB:=n8_
      clear n0_ n1_ n2_ n3_ n4_ n5_ n6_ n7_ n8_
      have p318:0≤(x5_1:Int):=zE (by with_reducible assumption)
      have q318:x5_1 < (l0.length:Int):=zE (by with_reducible assumption)
      obtain ⟨ad318,A318_0,c318_0,A318_1,c318_1,e318,hx318_0,hx318_1,hl318_0,hi318_0,hl318_1,hi318_1⟩:=at_T33 (zk HO_0.out).2.2 x5_1 p318 q318
      obtain rfl:ad316 = ad318:=(by injection e318)
      obtain ⟨ce318,hce318,hMe318,hcc318⟩:=Kd.V_get HO_0.out z33 x5_1 p318 (by first|exact q318|exact zE (by with_reducible assumption)|(have e_:=(zk HO_0.out).1;omega))
      obtain ⟨ua318_0,uc318_0,ua318_1,uc318_1,rfl,ul318_0,ge318_0,ul318_1,ge318_1⟩:=k33_openF hMe318
      have hv318_0:=hcc318 0 _ rfl
      rw [Nat.add_zero] at hv318_0
      replace hv318_0:=zS (hv318_0.symm.trans hx318_0)
      injection hv318_0 with hva_ hvn_ hvc_
      rw [hva_] at ge318_0
      rw [hvc_] at ul318_0
      have HL318_0:=zA (show Kd.V (Kd.int .i64) 3 _ w.heap.size _ _ ((rd_T33 l0 x5_1).f0) from Kd.V_mk ul318_0 ge318_0)
      clear hva_ hvn_ hvc_ ge318_0 ul318_0
      have hv318_1:=hcc318 1 _ rfl
      rw [add_field _ _ 1 (by omega)] at hv318_1
      replace hv318_1:=zS (hv318_1.symm.trans hx318_1)
      injection hv318_1 with hva_ hvn_ hvc_
      rw [hva_] at ge318_1
      rw [hvc_] at ul318_1
      have HL318_1:=zA (show Kd.V (Kd.int .i64) 3 _ w.heap.size _ _ ((rd_T33 l0 x5_1).f1) from Kd.V_mk ul318_1 ge318_1)
      clear hva_ hvn_ hvc_ ge318_1 ul318_1 hcc318 hce318
      have HR318_0:=zA hi318_0
      have HC318_0:=zA hl318_0
      clear hi318_0 hl318_0
      have HR318_1:=zA hi318_1
      have HC318_1:=zA hl318_1
      clear hi318_1 hl318_1
      replace p318:=eq_true p318
      replace q318:=eq_true q318
      refine start_ (n:=13) (S:=fun w'=>w'.cell? ⟨gb315,0,none⟩ = some (.slice A1_0 l1_0.length c1_0)∧w'.cell? ⟨gb315,1,none⟩ = some (.slice A1_1 l1_1.length c1_1)∧w'.cell? (ad316.add ((x5_1).toNat * 2)) = some (.slice A318_0 ((rd_T33 l0 x5_1).f0).length c318_0)∧w'.cell? ⟨(ad316.add ((x5_1).toNat * 2)).block,(ad316.add ((x5_1).toNat * 2)).off+1,none⟩ = some (.slice A318_1 ((rd_T33 l0 x5_1).f1).length c318_1)) (ds:=[]) #[zf,zf,zf,zf,zf,zf,zf,zf,zf,zf,zf,zf,zf] (by kernel_rfl) rfl rfl ⟨(zT BK315.out 0).trans rfl,(zT BK315.out 1).trans rfl,hx318_0,hx318_1⟩ (fun hHeld=>?_);refine with_tabW spec_l3Put.tab4 spec_l3Put.bits4 (fun HT_ HW_=>?_)
      generalize w9.drew = w14 at HO_0 HO_316000 HO_316001 HL316_0 HL316_1 BK315 HR316_0 HR316_1 HB HL318_0 HL318_1 HR318_0 HR318_1 hx318_0 hx318_1 hHeld ⊢
      refine pure_ (i:=0) (N:=some 22) (v:=?_) (a':=?_) #[zt,zf,zf,zf,zf,zf,zf,zf,zf,zf,zf,zf,zf] rfl rfl (any_of HT_.out (by kernel_rfl)) (fun _ _ _ h=>h) (Or.inl ⟨by rfl,?_⟩) ?_ ?_
      rotate_left
      ·intro w'
       go_simp
       with_reducible rfl
      rotate_left
      ·simp only [Act.put,zP_,i64_w]
       rfl
      refine pure_ (i:=1) (N:=some 23) (v:=?_) (a':=?_) #[zt,zt,zf,zf,zf,zf,zf,zf,zf,zf,zf,zf,zf] rfl rfl (any_of HT_.out (by kernel_rfl)) (fun _ _ _ h=>h) (Or.inl ⟨by rfl,?_⟩) ?_ ?_
      rotate_left
      ·intro w'
       go_simp
       with_reducible rfl
      rotate_left
      ·simp only [Act.put,zP_,i64_w]
       rfl
      refine pure_ (i:=2) (N:=some 24) (v:=?_) (a':=?_) #[zt,zt,zt,zf,zf,zf,zf,zf,zf,zf,zf,zf,zf] rfl rfl (any_of HT_.out (by kernel_rfl)) (fun _ _ _ h=>h) (Or.inl ⟨by rfl,?_⟩) ?_ ?_
      rotate_left
      ·intro w'
       go_simp
       with_reducible rfl
      rotate_left
      ·simp only [Act.put,zP_,i64_w]
       rfl
      refine pure_ (i:=3) (N:=some 25) (v:=?_) (a':=?_) #[zt,zt,zt,zt,zf,zf,zf,zf,zf,zf,zf,zf,zf] rfl rfl (any_of HT_.out (by kernel_rfl)) (fun _ _ _ h=>h) (Or.inl ⟨by rfl,?_⟩) ?_ ?_
      rotate_left
      ·intro w'
       go_simp
       with_reducible rfl
      rotate_left
      ·simp only [Act.put,zP_,i64_w]
       rfl
      refine pure_ (i:=4) (N:=some 26) (v:=?_) (a':=?_) #[zt,zt,zt,zt,zt,zf,zf,zf,zf,zf,zf,zf,zf] rfl rfl (any_of HT_.out (by kernel_rfl)) (fun _ _ _ h=>h) (Or.inl ⟨by rfl,?_⟩) ?_ ?_
      rotate_left
      ·intro w'
       go_simp
       with_reducible rfl
      rotate_left
      ·simp only [Act.put,zP_,i64_w]
       rfl
      refine pure_ (i:=5) (N:=some 27) (v:=?_) (a':=?_) #[zt,zt,zt,zt,zt,zt,zf,zf,zf,zf,zf,zf,zf] rfl rfl (any_of HT_.out (by kernel_rfl)) (fun _ _ _ h=>h) (Or.inl ⟨by rfl,?_⟩) ?_ ?_
      rotate_left
      ·intro w'
       go_simp
       with_reducible rfl
      rotate_left
      ·simp only [Act.put,zP_,i64_w]
       rfl
      refine pure_ (i:=6) (N:=some 28) (v:=?_) (a':=?_) #[zt,zt,zt,zt,zt,zt,zt,zf,zf,zf,zf,zf,zf] rfl rfl (any_of HT_.out (by kernel_rfl)) (fun _ _ _ h=>h) (Or.inl ⟨by rfl,?_⟩) ?_ ?_
      rotate_left
      ·intro w'
       go_simp
       with_reducible rfl
      rotate_left
      ·simp only [Act.put,zP_,i64_w]
       rfl
      refine pure_ (i:=7) (N:=some 29) (v:=?_) (a':=?_) #[zt,zt,zt,zt,zt,zt,zt,zt,zf,zf,zf,zf,zf] rfl rfl (any_of HT_.out (by kernel_rfl)) (fun _ _ _ h=>h) (Or.inl ⟨by rfl,?_⟩) ?_ ?_
      rotate_left
      ·intro w'
       go_simp
       with_reducible rfl
      rotate_left
      ·simp only [Act.put,zP_,i64_w]
       rfl
      refine take_ (i:=8) (N:=some 30) (v:=?_) (a':=?_) #[zt,zt,zt,zt,zt,zt,zt,zt,zt,zf,zf,zf,zf] rfl rfl (take_ofW HT_.out HW_.out (by kernel_rfl)) (fun _ _ _ h=>h) (Or.inl ⟨by rfl,?_⟩) hHeld ?_ ?_
      rotate_left
      ·rintro w' ⟨s0,s1,s2,s3⟩
       go_simp
       with_reducible rfl
      rotate_left
      ·simp only [Act.put,zP_,i64_w]
       rfl
      refine take_ (i:=9) (N:=some 31) (v:=?_) (a':=?_) #[zt,zt,zt,zt,zt,zt,zt,zt,zt,zt,zf,zf,zf] rfl rfl (take_ofW HT_.out HW_.out (by kernel_rfl)) (fun _ _ _ h=>h) (Or.inl ⟨by rfl,?_⟩) hHeld ?_ ?_
      rotate_left
      ·rintro w' ⟨s0,s1,s2,s3⟩
       go_simp
       with_reducible rfl
      rotate_left
      ·simp only [Act.put,zP_,i64_w]
       rfl
      refine one_ (i:=10) (N:=some 32) #[zt,zt,zt,zt,zt,zt,zt,zt,zt,zt,zt,zf,zf] rfl rfl (one_of HT_.out (by kernel_rfl)) (by decide) (fun K hK=>?_)
      refine goes_ Try.func83 (by kernel_rfl) rfl #[.agg #[.slice A318_0 ((rd_T33 l0 x5_1).f0).length c318_0,.slice A318_1 ((rd_T33 l0 x5_1).f1).length c318_1],.agg #[.slice A1_0 l1_0.length c1_0,.slice A1_1 l1_1.length c1_1]] (by rfl) rfl rfl (by (try simp only [zJ,zM,zN]);first|done|rfl|(simp only [zL,zK];rfl)) ?_
      with_reducible refine (spec_l2Before.calls k1 _ _ ((rd_T33 l0 x5_1).f0) _ _ ((rd_T33 l0 x5_1).f1) _ _ l1_0 _ _ l1_1 t319 _ ?side1 ?side2 ?side3 ?side4 ?side5 ?side6 ?side7 ?side8 A10.out).mono ?_
      (case side1=>repeat (first|exact (by repeat (first|(with_reducible exact HR318_0.out)|apply zC_|exact HR318_0.out))|apply zC_))
      (case side2=>exact HC318_0.out)
      (case side3=>repeat (first|exact (by repeat (first|(with_reducible exact HR318_1.out)|apply zC_|exact HR318_1.out))|apply zC_))
      (case side4=>exact HC318_1.out)
      (case side5=>repeat (first|exact (zk HO_316000.out).2.2|apply zC_))
      (case side6=>exact (zk HO_316000.out).2.1)
      (case side7=>repeat (first|exact (zk HO_316001.out).2.2|apply zC_))
      (case side8=>exact (zk HO_316001.out).2.1)
      rintro e w15 ⟨rfl,hb⟩
      have HS2_:=(hb.cell (zY _ _ (hHeld.2.2.1))).trans (hHeld.2.2.1)
      have HS3_:=(hb.cell (zY _ _ (hHeld.2.2.2))).trans (hHeld.2.2.2)
      refine ⟨_,rfl,?_⟩
      have n0_:=zA (Kd.V_below (by apply zV_;exact HO_0.out) hb)
      have n1_:=zA (Kd.V_below (by apply zV_;exact HO_316000.out) hb)
      have n2_:=zA (Kd.V_below (by apply zV_;exact HO_316001.out) hb)
      have n3_:=zA (Kd.V_below (by apply zV_;exact HL316_0.out) hb)
      have n4_:=zA (Kd.V_below (by apply zV_;exact HL316_1.out) hb)
      have n5_:=zA (Kd.V_below (by apply zV_;exact HL318_0.out) hb)
      have n6_:=zA (Kd.V_below (by apply zV_;exact HL318_1.out) hb)
      have n7_:=zA (zX (g:=gb315) (o:=.cells #[.slice A1_0 l1_0.length c1_0,.slice A1_1 l1_1.length c1_1] 33 (0,0)) (by (with_reducible repeat (first|refine zG ?_ _|refine zI ?_|refine zH ?_ _));exact BK315.out) hb)
      have n8_:=zA (zW (by repeat (first|(with_reducible exact HR316_0.out)|apply zC_|exact HR316_0.out)) hb)
      have n9_:=zA (zW (by repeat (first|(with_reducible exact HR316_1.out)|apply zC_|exact HR316_1.out)) hb)
      have n10_:=zA (zW (by repeat (first|(with_reducible exact HR318_0.out)|apply zC_|exact HR318_0.out)) hb)
      have n11_:=zA (zW (by repeat (first|(with_reducible exact HR318_1.out)|apply zC_|exact HR318_1.out)) hb)
      have n12_:=zA (zR (by repeat (first|(with_reducible first|exact HB.out|apply zD|apply zB|apply zC|refine zF ?_ GE315.out)|exact HB.out)) hb)
      clear HO_0 HO_316000 HO_316001 HL316_0 HL316_1 HL318_0 HL318_1 BK315 HR316_0 HR316_1 HR318_0 HR318_1 HB
      have HO_0:=n0_
      have HO_316000:=n1_
      have HO_316001:=n2_
      have HL316_0:=n3_
      have HL316_1:=n4_
      have HL318_0:=n5_
      have HL318_1:=n6_
      have BK315:=n7_
      have HR316_0:=n8_
      have HR316_1:=n9_
      have HR318_0:=n10_
      have HR318_1:=n11_
      have HB:=n12_
      clear n0_ n1_ n2_ n3_ n4_ n5_ n6_ n7_ n8_ n9_ n10_ n11_ n12_
      (try clear hb);(try clear hb2);(try clear hk);(try clear hi)
      refine hK.out _ _ ⟨(zT BK315.out 0).trans rfl,(zT BK315.out 1).trans rfl,HS2_,HS3_⟩ (fun hHeld=>?_)
      clear hK K
      refine norm_ (a':=?_) ?_ ?_
      rotate_left
      ·show Act.put _ (some 32) _ = _
       simp only [Act.put,zP_,i64_w]
       rfl
      refine pure_ (i:=11) (N:=some 33) (v:=?_) (a':=?_) #[zt,zt,zt,zt,zt,zt,zt,zt,zt,zt,zt,zt,zf] rfl rfl (any_of HT_.out (by kernel_rfl)) (fun _ _ _ h=>h) (Or.inl ⟨by rfl,?_⟩) ?_ ?_
      rotate_left
      ·intro w'
       go_simp
       with_reducible rfl
      rotate_left
      ·simp only [Act.put,zP_,i64_w]
       rfl
      refine pure_ (i:=12) (N:=some 34) (v:=?_) (a':=?_) #[zt,zt,zt,zt,zt,zt,zt,zt,zt,zt,zt,zt,zt] rfl rfl (any_of HT_.out (by kernel_rfl)) (fun _ _ _ h=>h) (Or.inl ⟨by rfl,?_⟩) ?_ ?_
      rotate_left
      ·intro w'
       go_simp
       with_reducible rfl
      rotate_left
      ·simp only [Act.put,zP_,i64_w]
       rfl
      refine done_ (done_of HT_.out (by kernel_rfl)) ?_
      have H:=H9_.out
      clear H9_
      by_cases c11:t319 = 0
      ·rw [if_pos c11] at H
       have c11b0:(t319 == 0) = true:=beq_iff_eq.mpr c11
       have c11b1:(t319 != 0) = false:=bne_eq_false_iff_eq.mpr c11
       clear c11
       try rw [c11b0]
       obtain rfl:=zS H
       try go_wp2
       go_ret
       exact ⟨_,by first|rfl|(simp [errW_none,errW_some] <;> rfl)|(simp [*,errW_none,errW_some] <;> rfl),by apply zV_;exact Kd.V_mono HO_0.out (fun _ hk=>hk.1),by repeat (first|(with_reducible first|exact HB.out|apply zD|apply zB|apply zC|refine zF ?_ GE315.out)|exact HB.out)⟩
      ·rw [if_neg c11] at H
       have c11b0:(t319 == 0) = false:=beq_eq_false_iff_ne.mpr c11
       have c11b1:(t319 != 0) = true:=bne_iff_ne.mpr c11
       obtain ⟨y320,hy320⟩:∃ y_:List (S33),y_ = (([]:List (S33))):=⟨_,rfl⟩
       replace H:(if x5_1≤(l0.length:Int) then ((some (l0.take (x5_1:Int).toNat:List (S33))).bind fun y323=>(if y320.length+y323.length < 2932031007402 then ((some (y320 ++ y323:List (S33))).bind fun y328=>(if y328.length < 2932031007402 then ((some (y328 ++ [(⟨l1_0,l1_1⟩:S33)]:List (S33))).bind fun y331=>((some (l0.drop (x5_1:Int).toNat:List (S33))).bind fun y334=>(if y331.length+y334.length < 2932031007402 then (some (y331 ++ y334)) else (none)))) else (none))) else (none))) else (none)) = some r:=by (try rw [hy320]);first|with_reducible exact H|with_reducible exact zS_ H|exact H
       have Ny320:=zA hy320
       clear hy320
       have c16b0:=eq_true (zE (by with_reducible assumption):0≤x5_1)
       by_cases c17:x5_1≤(l0.length:Int)
       ·rw [if_pos c17] at H
        have c17b0:=eq_true c17
        have c17b1:decide (x5_1≤(l0.length:Int)) = true:=zO c17
        clear c17
        obtain ⟨y323,hy323⟩:∃ y_:List (S33),y_ = (l0.take (x5_1:Int).toNat):=⟨_,rfl⟩
        replace H:(if y320.length+y323.length < 2932031007402 then ((some (y320 ++ y323:List (S33))).bind fun y328=>(if y328.length < 2932031007402 then ((some (y328 ++ [(⟨l1_0,l1_1⟩:S33)]:List (S33))).bind fun y331=>((some (l0.drop (x5_1:Int).toNat:List (S33))).bind fun y334=>(if y331.length+y334.length < 2932031007402 then (some (y331 ++ y334)) else (none)))) else (none))) else (none)) = some r:=by (try rw [hy323]);first|with_reducible exact H|with_reducible exact zS_ H|exact H
        have Ny323:=zA hy323
        clear hy323
        by_cases c18:y320.length+y323.length < 2932031007402
        ·rw [if_pos c18] at H
         have LMc18:=zA c18
         clear c18
         obtain ⟨y328,hy328⟩:∃ y_:List (S33),y_ = (y320 ++ y323):=⟨_,rfl⟩
         replace H:(if y328.length < 2932031007402 then ((some (y328 ++ [(⟨l1_0,l1_1⟩:S33)]:List (S33))).bind fun y331=>((some (l0.drop (x5_1:Int).toNat:List (S33))).bind fun y334=>(if y331.length+y334.length < 2932031007402 then (some (y331 ++ y334)) else (none)))) else (none)) = some r:=by (try rw [hy328]);first|with_reducible exact H|with_reducible exact zS_ H|exact H
         have Ny328:=zA hy328
         clear hy328
         by_cases c19:y328.length < 2932031007402
         ·rw [if_pos c19] at H
          have LMc19:=zA c19
          clear c19
          obtain ⟨y331,hy331⟩:∃ y_:List (S33),y_ = (y328 ++ [(⟨l1_0,l1_1⟩:S33)]):=⟨_,rfl⟩
          replace H:((some (l0.drop (x5_1:Int).toNat:List (S33))).bind fun y334=>(if y331.length+y334.length < 2932031007402 then (some (y331 ++ y334)) else (none))) = some r:=by (try rw [hy331]);first|with_reducible exact H|with_reducible exact zS_ H|exact H
          have Ny331:=zA hy331
          clear hy331
          have c20b0:=eq_true (zE (by with_reducible assumption):0≤x5_1)
          have c21b0:=eq_true (zE (by with_reducible assumption):x5_1≤(l0.length:Int))
          obtain ⟨y334,hy334⟩:∃ y_:List (S33),y_ = (l0.drop (x5_1:Int).toNat):=⟨_,rfl⟩
          replace H:(if y331.length+y334.length < 2932031007402 then (some (y331 ++ y334)) else (none)) = some r:=by (try rw [hy334]);first|with_reducible exact H|with_reducible exact zS_ H|exact H
          have Ny334:=zA hy334
          clear hy334
          by_cases c22:y331.length+y334.length < 2932031007402
          ·rw [if_pos c22] at H
           have LMc22:=zA c22
           clear c22
           obtain ⟨y339,hy339⟩:∃ y_:List (S33),y_ = (y331 ++ y334):=⟨_,rfl⟩
           replace H:(some y339) = some r:=by (try rw [hy339]);first|with_reducible exact H|with_reducible exact zS_ H|exact H
           have Ny339:=zA hy339
           clear hy339
           obtain rfl:=zS H
           try go_wp2_with (first|((with_reducible refine gate_dst (N:=36) rfl ?_);refine Kd.N_lit k33 _ 33 ?hg (N':=36) ?hd (xs:=([]:List (S33))) (inner:=[]) (ok:=(fun k_=>((P0_ k_∨P1_0_ k_∨P1_1_ k_)∨w.heap.size≤k_)∧k_≠gb315)) (okp:=(fun k_=>((P0_ k_∨P1_0_ k_∨P1_1_ k_)∨w.heap.size≤k_)∧k_≠gb315)) ?hr ?hp (fun _ hk=>hk) ((show ∀ k_,w15.heap.size≤k_→(fun k_=>((P0_ k_∨P1_0_ k_∨P1_1_ k_)∨w.heap.size≤k_)∧k_≠gb315) k_ from fun k_ hk=>⟨(.inr (Nat.le_trans (zQ (by repeat (first|(with_reducible first|exact HB.out|apply zD|apply zB|apply zC|refine zF ?_ GE315.out)|exact HB.out))) hk)),Kd.freshB (g:=gb315) (o:=.cells #[.slice A1_0 l1_0.length c1_0,.slice A1_1 l1_1.length c1_1] 33 (0,0)) (by (with_reducible repeat (first|refine zG ?_ _|refine zI ?_|refine zH ?_ _));exact BK315.out) k_ hk⟩) _ (Nat.le_refl _)) (Below.refl _ _) (Nat.le_refl _) (by simp) ?_;(case hd=>rfl);(case hg=>rfl);(case hr=>first|(go_simp;done)|(go_simp;rfl));(case hp=>exact (Reps.none _ _));intro v321 w27 ho28 hb hg_ hnew_;clear hg_ hnew_;(first|rw [← Ny320.out] at ho28|(simp only [Int.reduceToNat] at ho28;rw [← Ny320.out] at ho28));have n0_:=zA (Kd.V_elder' (by apply zV_;exact HO_0.out) (Kd.N_base ho28) hb);have n1_:=zA (Kd.V_elder' (by apply zV_;exact HO_316000.out) (Kd.N_base ho28) hb);have n2_:=zA (Kd.V_elder' (by apply zV_;exact HO_316001.out) (Kd.N_base ho28) hb);have n3_:=zA (Kd.V_elder' (by apply zV_;exact HL316_0.out) (Kd.N_base ho28) hb);have n4_:=zA (Kd.V_elder' (by apply zV_;exact HL316_1.out) (Kd.N_base ho28) hb);have n5_:=zA (Kd.V_elder' (by apply zV_;exact HL318_0.out) (Kd.N_base ho28) hb);have n6_:=zA (Kd.V_elder' (by apply zV_;exact HL318_1.out) (Kd.N_base ho28) hb);have n7_:=zA (Kd.N_lower ho28 (zQ (by repeat (first|(with_reducible first|exact HB.out|apply zD|apply zB|apply zC|refine zF ?_ GE315.out)|exact HB.out))));have n8_:=zA (zX (g:=gb315) (o:=.cells #[.slice A1_0 l1_0.length c1_0,.slice A1_1 l1_1.length c1_1] 33 (0,0)) (by (with_reducible repeat (first|refine zG ?_ _|refine zI ?_|refine zH ?_ _));exact BK315.out) hb);have n9_:=zA (zW (by repeat (first|(with_reducible exact HR316_0.out)|apply zC_|exact HR316_0.out)) hb);have n10_:=zA (zW (by repeat (first|(with_reducible exact HR316_1.out)|apply zC_|exact HR316_1.out)) hb);have n11_:=zA (zW (by repeat (first|(with_reducible exact HR318_0.out)|apply zC_|exact HR318_0.out)) hb);have n12_:=zA (zW (by repeat (first|(with_reducible exact HR318_1.out)|apply zC_|exact HR318_1.out)) hb);have n13_:=zA (zR (by repeat (first|(with_reducible first|exact HB.out|apply zD|apply zB|apply zC|refine zF ?_ GE315.out)|exact HB.out)) hb);clear HO_0;clear HO_316000;clear HO_316001;clear HL316_0;clear HL316_1;clear HL318_0;clear HL318_1;clear BK315;clear HR316_0;clear HR316_1;clear HR318_0;clear HR318_1;clear HB;have HO_0:=n0_;have HO_316000:=n1_;have HO_316001:=n2_;have HL316_0:=n3_;have HL316_1:=n4_;have HL318_0:=n5_;have HL318_1:=n6_;have HO322:=n7_;have BK315:=n8_;have HR316_0:=n9_;have HR316_1:=n10_;have HR318_0:=n11_;have HR318_1:=n12_;have HB:=n13_;clear n0_ n1_ n2_ n3_ n4_ n5_ n6_ n7_ n8_ n9_ n10_ n11_ n12_ n13_;clear hb ho28;have q29:(x5_1:Int)≤((l0.length:Int):Int):=zE (by with_reducible assumption);obtain ⟨i029,hi029,_,hsz29,_⟩:=info_parts info33;have hroom29:l0.length≤c0:=(zk HO_0.out).2.1;have hC29:Kd.F k33 _ _ (some ad316) l0.length l0:=(Kd.V_at (base:=w.heap.size) HO_0.out).2.2;have hcut29:=cut_to (P:=Try.prog) 27 33 .i64 Try.underlying27 hi029 (some ad316) l0.length c0 x5_1 (zE (by with_reducible assumption)) q29 hroom29;have hr29:=Kd.F_take (m:=(x5_1:Int).toNat) hC29 (by omega);have hy29:y323.length = (x5_1:Int).toNat:=(by rw [Ny323.out,zK];omega);rw [← Ny323.out] at hr29;rw [← hy29] at hcut29;have HO327:=zA (show Kd.V k33 33 _ w.heap.size _ (.slice (some ad316) y323.length c0) y323 from Kd.V_mk (by omega) hr29);have HC327:=zA (show y323.length≤c0 from by omega);clear hr29 hC29 hroom29 hi029 hsz29;have KY29:=zA hy29;clear hy29;replace q29:=eq_true q29)|((with_reducible refine gate_builtin (b:=.append) (xs:=#[.tmp 36,.tmp 39]) rfl ?_);at_builtin;refine Kd.N_append_rows k33 (w0:=w) w.heap.size rfl (.tmp 36) (.tmp 39) 27 33 (.agg #[(.slice none 0 0),(.slice none 0 0)]) 48 rfl Try.underlying27 info33 rfl (by decide) (by omega) v321 y320 y323 _ _ _ (fun k_=>((P0_ k_∨P1_0_ k_∨P1_1_ k_)∨w.heap.size≤k_)∧k_≠gb315) (fun k_=>((fun k_=>((P0_ k_∨P1_0_ k_∨P1_1_ k_)∨w.heap.size≤k_)∧k_≠gb315)) k_∧some k_≠(v321:Value).ownBlock) rfl rfl ?aO ?aR (fun _ hk=>hk) ?aF ?aB ?aS ?aL ?_;(case aR=>exact (by skip;exact Kd.V_F (Kd.V_mono (ok':=(fun k_=>((fun k_=>((P0_ k_∨P1_0_ k_∨P1_1_ k_)∨w.heap.size≤k_)∧k_≠gb315)) k_∧some k_≠(v321:Value).ownBlock)) (HO327.out) (fun k_ hk=>⟨⟨hk.1.1,hk.1.2⟩,hk.2⟩))));(case aB=>exact (by repeat (first|(with_reducible first|exact HB.out|apply zD|apply zB|apply zC|refine zF ?_ GE315.out)|exact HB.out)));(case aF=>exact (fun k_ hk=>⟨(.inr (Nat.le_trans (zQ (by repeat (first|(with_reducible first|exact HB.out|apply zD|apply zB|apply zC|refine zF ?_ GE315.out)|exact HB.out))) hk)),Kd.freshB (g:=gb315) (o:=.cells #[.slice A1_0 l1_0.length c1_0,.slice A1_1 l1_1.length c1_1] 33 (0,0)) (by (with_reducible repeat (first|refine zG ?_ _|refine zI ?_|refine zH ?_ _));exact BK315.out) k_ hk⟩));(case aO=>exact (by apply zN_;exact HO322.out));(case aS=>exact (zQ (by repeat (first|(with_reducible first|exact HB.out|apply zD|apply zB|apply zC|refine zF ?_ GE315.out)|exact HB.out))));(case aL=>have:=LMc18.out;omega);intro v329 w30 ho hb hg hat;rw [← Ny328.out] at ho;have n0_:=zA (Kd.V_afterv (ok:=(fun k_=>((P0_ k_∨P1_0_ k_∨P1_1_ k_)∨w.heap.size≤k_)∧k_≠gb315)) (by apply zV_;exact HO_0.out) hg hat);have n1_:=zA (Kd.V_afterv (ok:=(fun k_=>((P0_ k_∨P1_0_ k_∨P1_1_ k_)∨w.heap.size≤k_)∧k_≠gb315)) (by apply zV_;exact HO_316000.out) hg hat);have n2_:=zA (Kd.V_afterv (ok:=(fun k_=>((P0_ k_∨P1_0_ k_∨P1_1_ k_)∨w.heap.size≤k_)∧k_≠gb315)) (by apply zV_;exact HO_316001.out) hg hat);have n3_:=zA (blk_grown (g:=gb315) (o:=.cells #[.slice A1_0 l1_0.length c1_0,.slice A1_1 l1_1.length c1_1] 33 (0,0)) (by (with_reducible repeat (first|refine zG ?_ _|refine zI ?_|refine zH ?_ _));exact BK315.out) hg (Kd.N_away HO322.out (fun _ hk=>hk.2)));have n4_:=zA (Kd.V_afterv (ok:=(fun k_=>((P0_ k_∨P1_0_ k_∨P1_1_ k_)∨w.heap.size≤k_)∧k_≠gb315)) (by apply zV_;exact HL316_0.out) hg hat);have n5_:=zA (Kd.V_afterv (ok:=(fun k_=>((P0_ k_∨P1_0_ k_∨P1_1_ k_)∨w.heap.size≤k_)∧k_≠gb315)) (by apply zV_;exact HL316_1.out) hg hat);have n6_:=zA (Kd.V_afterv (ok:=(fun k_=>((P0_ k_∨P1_0_ k_∨P1_1_ k_)∨w.heap.size≤k_)∧k_≠gb315)) (by apply zV_;exact HL318_0.out) hg hat);have n7_:=zA (Kd.V_afterv (ok:=(fun k_=>((P0_ k_∨P1_0_ k_∨P1_1_ k_)∨w.heap.size≤k_)∧k_≠gb315)) (by apply zV_;exact HL318_1.out) hg hat);have n8_:=zA (Kd.V_afterv (ok:=(fun k_=>((P0_ k_∨P1_0_ k_∨P1_1_ k_)∨w.heap.size≤k_)∧k_≠gb315)) (by apply zV_;exact HO327.out) hg hat);have n9_:=zA (hb);have n10_:=zA (ho);clear HO_0;clear HO_316000;clear HO_316001;clear BK315;clear HL316_0;clear HL316_1;clear HL318_0;clear HL318_1;clear HO327;clear HB;clear HO322;have HO_0:=n0_;have HO_316000:=n1_;have HO_316001:=n2_;have BK315:=n3_;have HL316_0:=n4_;have HL316_1:=n5_;have HL318_0:=n6_;have HL318_1:=n7_;have HO327:=n8_;have HB:=n9_;have HO330:=n10_;clear n0_ n1_ n2_ n3_ n4_ n5_ n6_ n7_ n8_ n9_ n10_;clear ho hb hg hat;have hcz31_0:w30.cell? ⟨gb315,0,none⟩ = some (.slice A1_0 l1_0.length c1_0):=(zT BK315.out 0).trans rfl;have hcz31_1:w30.cell? ⟨gb315,1,none⟩ = some (.slice A1_1 l1_1.length c1_1):=(zT BK315.out 1).trans rfl;have hfz31_0:=zZ BK315.out 0;have hfz31_1:=zZ BK315.out 1)|((with_reducible refine gate_builtin (b:=.append) (xs:=#[.tmp 41,.tmp 43]) rfl ?_);at_builtin;refine Kd.N_append k33 (w0:=w) w.heap.size rfl (.tmp 41) (.tmp 43) 27 33 (.agg #[(.slice none 0 0),(.slice none 0 0)]) 48 rfl Try.underlying27 info33 rfl (by decide) (by omega) v329 y328 (⟨l1_0,l1_1⟩:S33) [.slice A1_0 l1_0.length c1_0,.slice A1_1 l1_1.length c1_1] (fun k_=>((P0_ k_∨P1_0_ k_∨P1_1_ k_)∨w.heap.size≤k_)∧k_≠gb315) (fun k_=>((fun k_=>((P0_ k_∨P1_0_ k_∨P1_1_ k_)∨w.heap.size≤k_)∧k_≠gb315)) k_∧some k_≠(v329:Value).ownBlock) rfl rfl ?aP (fun _ hk=>hk) ?aF ?aO ?aB ?aS ?aL ?_;(case aP=>exact (k33_mkF _ _ (⟨l1_0,l1_1⟩:S33) (zk (Kd.V_mono (ok':=(fun k_=>((fun k_=>((P0_ k_∨P1_0_ k_∨P1_1_ k_)∨w.heap.size≤k_)∧k_≠gb315)) k_∧some k_≠(v329:Value).ownBlock)) (HO_316000.out) (fun k_ hk=>⟨⟨hk.1.1,hk.1.2⟩,hk.2⟩))).2.1 (Kd.V_F (Kd.V_mono (ok':=(fun k_=>((fun k_=>((P0_ k_∨P1_0_ k_∨P1_1_ k_)∨w.heap.size≤k_)∧k_≠gb315)) k_∧some k_≠(v329:Value).ownBlock)) (HO_316000.out) (fun k_ hk=>⟨⟨hk.1.1,hk.1.2⟩,hk.2⟩))) (zk (Kd.V_mono (ok':=(fun k_=>((fun k_=>((P0_ k_∨P1_0_ k_∨P1_1_ k_)∨w.heap.size≤k_)∧k_≠gb315)) k_∧some k_≠(v329:Value).ownBlock)) (HO_316001.out) (fun k_ hk=>⟨⟨hk.1.1,hk.1.2⟩,hk.2⟩))).2.1 (Kd.V_F (Kd.V_mono (ok':=(fun k_=>((fun k_=>((P0_ k_∨P1_0_ k_∨P1_1_ k_)∨w.heap.size≤k_)∧k_≠gb315)) k_∧some k_≠(v329:Value).ownBlock)) (HO_316001.out) (fun k_ hk=>⟨⟨hk.1.1,hk.1.2⟩,hk.2⟩)))));(case aB=>exact (by repeat (first|(with_reducible first|exact HB.out|apply zD|apply zB|apply zC|refine zF ?_ GE315.out)|exact HB.out)));(case aF=>exact (fun k_ hk=>⟨(.inr (Nat.le_trans (zQ (by repeat (first|(with_reducible first|exact HB.out|apply zD|apply zB|apply zC|refine zF ?_ GE315.out)|exact HB.out))) hk)),Kd.freshB (g:=gb315) (o:=.cells #[.slice A1_0 l1_0.length c1_0,.slice A1_1 l1_1.length c1_1] 33 (0,0)) (by (with_reducible repeat (first|refine zG ?_ _|refine zI ?_|refine zH ?_ _));exact BK315.out) k_ hk⟩));(case aO=>exact (by apply zN_;exact HO330.out));(case aS=>exact (zQ (by repeat (first|(with_reducible first|exact HB.out|apply zD|apply zB|apply zC|refine zF ?_ GE315.out)|exact HB.out))));(case aL=>have:=LMc19.out;omega);intro v332 w32 ho hb hg hat;rw [← Ny331.out] at ho;have n0_:=zA (Kd.V_afterv (ok:=(fun k_=>((P0_ k_∨P1_0_ k_∨P1_1_ k_)∨w.heap.size≤k_)∧k_≠gb315)) (by apply zV_;exact HO_0.out) hg hat);have n1_:=zA (Kd.V_afterv (ok:=(fun k_=>((P0_ k_∨P1_0_ k_∨P1_1_ k_)∨w.heap.size≤k_)∧k_≠gb315)) (by apply zV_;exact HO_316000.out) hg hat);have n2_:=zA (Kd.V_afterv (ok:=(fun k_=>((P0_ k_∨P1_0_ k_∨P1_1_ k_)∨w.heap.size≤k_)∧k_≠gb315)) (by apply zV_;exact HO_316001.out) hg hat);have n3_:=zA (blk_grown (g:=gb315) (o:=.cells #[.slice A1_0 l1_0.length c1_0,.slice A1_1 l1_1.length c1_1] 33 (0,0)) (by (with_reducible repeat (first|refine zG ?_ _|refine zI ?_|refine zH ?_ _));exact BK315.out) hg (Kd.N_away HO330.out (fun _ hk=>hk.2)));have n4_:=zA (Kd.V_afterv (ok:=(fun k_=>((P0_ k_∨P1_0_ k_∨P1_1_ k_)∨w.heap.size≤k_)∧k_≠gb315)) (by apply zV_;exact HL316_0.out) hg hat);have n5_:=zA (Kd.V_afterv (ok:=(fun k_=>((P0_ k_∨P1_0_ k_∨P1_1_ k_)∨w.heap.size≤k_)∧k_≠gb315)) (by apply zV_;exact HL316_1.out) hg hat);have n6_:=zA (Kd.V_afterv (ok:=(fun k_=>((P0_ k_∨P1_0_ k_∨P1_1_ k_)∨w.heap.size≤k_)∧k_≠gb315)) (by apply zV_;exact HL318_0.out) hg hat);have n7_:=zA (Kd.V_afterv (ok:=(fun k_=>((P0_ k_∨P1_0_ k_∨P1_1_ k_)∨w.heap.size≤k_)∧k_≠gb315)) (by apply zV_;exact HL318_1.out) hg hat);have n8_:=zA (Kd.V_afterv (ok:=(fun k_=>((P0_ k_∨P1_0_ k_∨P1_1_ k_)∨w.heap.size≤k_)∧k_≠gb315)) (by apply zV_;exact HO327.out) hg hat);have n9_:=zA (hb);have n10_:=zA (ho);clear HO_0;clear HO_316000;clear HO_316001;clear BK315;clear HL316_0;clear HL316_1;clear HL318_0;clear HL318_1;clear HO327;clear HB;clear HO330;have HO_0:=n0_;have HO_316000:=n1_;have HO_316001:=n2_;have BK315:=n3_;have HL316_0:=n4_;have HL316_1:=n5_;have HL318_0:=n6_;have HL318_1:=n7_;have HO327:=n8_;have HB:=n9_;have HO333:=n10_;clear n0_ n1_ n2_ n3_ n4_ n5_ n6_ n7_ n8_ n9_ n10_;clear ho hb hg hat;have q33:(x5_1:Int)≤((l0.length:Int):Int):=zE (by with_reducible assumption);obtain ⟨i033,hi033,_,hsz33,_⟩:=info_parts info33;have hroom33:l0.length≤c0:=(zk HO_0.out).2.1;have hC33:Kd.F k33 _ _ (some ad316) l0.length l0:=(Kd.V_at (base:=w.heap.size) HO_0.out).2.2;have q033:(0:Int)≤(x5_1:Int):=zE (by with_reducible assumption);have hcut33:=cut_from (P:=Try.prog) 27 33 .i64 Try.underlying27 hi033 2 hsz33 (some ad316) l0.length c0 x5_1 q033 q33;have hr33:=Kd.F_cut (m:=(x5_1:Int).toNat) (c:=c0) hC33 (by omega) hroom33;obtain ⟨A33,hA33⟩:∃ A1,A1 = (if c0 = (x5_1:Int).toNat then (some ad316) else ((some ad316):Option Addr).map (·.add ((x5_1:Int).toNat * 2))):=⟨_,rfl⟩;obtain ⟨c33,hc33⟩:∃ c1,c1 = c0 - (x5_1:Int).toNat:=⟨_,rfl⟩;have hy33:y334.length = l0.length - (x5_1:Int).toNat:=(by rw [Ny334.out,zL] <;> omega);rw [show (l0).drop (x5_1:Int).toNat = y334 from Ny334.out.symm] at hr33;replace hr33:Kd.F k33 _ _ A33 y334.length y334:=(by rw [hA33];exact hr33);rw [← hy33, ← hA33, ← hc33] at hcut33;have HO338:=zA (show Kd.V k33 33 _ w.heap.size _ (.slice A33 y334.length c33) y334 from Kd.V_mk (by rw [hy33,hc33];exact Nat.sub_le_sub_right hroom33 _) hr33);have HC338:=zA (show y334.length≤c33 from by rw [hy33,hc33];exact Nat.sub_le_sub_right hroom33 _);clear hr33 hC33 hroom33 hi033 hsz33 hc33;have KY33:=zA hy33;have KA33:=zA hA33;clear hy33 hA33;replace q33:=eq_true q33)|((with_reducible refine gate_builtin (b:=.append) (xs:=#[.tmp 45,.tmp 48]) rfl ?_);at_builtin;refine Kd.N_append_rows k33 (w0:=w) w.heap.size rfl (.tmp 45) (.tmp 48) 27 33 (.agg #[(.slice none 0 0),(.slice none 0 0)]) 48 rfl Try.underlying27 info33 rfl (by decide) (by omega) v332 y331 y334 _ _ _ (fun k_=>((P0_ k_∨P1_0_ k_∨P1_1_ k_)∨w.heap.size≤k_)∧k_≠gb315) (fun k_=>((fun k_=>((P0_ k_∨P1_0_ k_∨P1_1_ k_)∨w.heap.size≤k_)∧k_≠gb315)) k_∧some k_≠(v332:Value).ownBlock) rfl rfl ?aO ?aR (fun _ hk=>hk) ?aF ?aB ?aS ?aL ?_;(case aR=>exact (by skip;exact Kd.V_F (Kd.V_mono (ok':=(fun k_=>((fun k_=>((P0_ k_∨P1_0_ k_∨P1_1_ k_)∨w.heap.size≤k_)∧k_≠gb315)) k_∧some k_≠(v332:Value).ownBlock)) (HO338.out) (fun k_ hk=>⟨⟨hk.1.1,hk.1.2⟩,hk.2⟩))));(case aB=>exact (by repeat (first|(with_reducible first|exact HB.out|apply zD|apply zB|apply zC|refine zF ?_ GE315.out)|exact HB.out)));(case aF=>exact (fun k_ hk=>⟨(.inr (Nat.le_trans (zQ (by repeat (first|(with_reducible first|exact HB.out|apply zD|apply zB|apply zC|refine zF ?_ GE315.out)|exact HB.out))) hk)),Kd.freshB (g:=gb315) (o:=.cells #[.slice A1_0 l1_0.length c1_0,.slice A1_1 l1_1.length c1_1] 33 (0,0)) (by (with_reducible repeat (first|refine zG ?_ _|refine zI ?_|refine zH ?_ _));exact BK315.out) k_ hk⟩));(case aO=>exact (by apply zN_;exact HO333.out));(case aS=>exact (zQ (by repeat (first|(with_reducible first|exact HB.out|apply zD|apply zB|apply zC|refine zF ?_ GE315.out)|exact HB.out))));(case aL=>have:=LMc22.out;omega);intro v340 w34 ho hb hg hat;rw [← Ny339.out] at ho;have n0_:=zA (Kd.V_afterv (ok:=(fun k_=>((P0_ k_∨P1_0_ k_∨P1_1_ k_)∨w.heap.size≤k_)∧k_≠gb315)) (by apply zV_;exact HO_0.out) hg hat);have n1_:=zA (Kd.V_afterv (ok:=(fun k_=>((P0_ k_∨P1_0_ k_∨P1_1_ k_)∨w.heap.size≤k_)∧k_≠gb315)) (by apply zV_;exact HO_316000.out) hg hat);have n2_:=zA (Kd.V_afterv (ok:=(fun k_=>((P0_ k_∨P1_0_ k_∨P1_1_ k_)∨w.heap.size≤k_)∧k_≠gb315)) (by apply zV_;exact HO_316001.out) hg hat);have n3_:=zA (blk_grown (g:=gb315) (o:=.cells #[.slice A1_0 l1_0.length c1_0,.slice A1_1 l1_1.length c1_1] 33 (0,0)) (by (with_reducible repeat (first|refine zG ?_ _|refine zI ?_|refine zH ?_ _));exact BK315.out) hg (Kd.N_away HO333.out (fun _ hk=>hk.2)));have n4_:=zA (Kd.V_afterv (ok:=(fun k_=>((P0_ k_∨P1_0_ k_∨P1_1_ k_)∨w.heap.size≤k_)∧k_≠gb315)) (by apply zV_;exact HL316_0.out) hg hat);have n5_:=zA (Kd.V_afterv (ok:=(fun k_=>((P0_ k_∨P1_0_ k_∨P1_1_ k_)∨w.heap.size≤k_)∧k_≠gb315)) (by apply zV_;exact HL316_1.out) hg hat);have n6_:=zA (Kd.V_afterv (ok:=(fun k_=>((P0_ k_∨P1_0_ k_∨P1_1_ k_)∨w.heap.size≤k_)∧k_≠gb315)) (by apply zV_;exact HL318_0.out) hg hat);have n7_:=zA (Kd.V_afterv (ok:=(fun k_=>((P0_ k_∨P1_0_ k_∨P1_1_ k_)∨w.heap.size≤k_)∧k_≠gb315)) (by apply zV_;exact HL318_1.out) hg hat);have n8_:=zA (Kd.V_afterv (ok:=(fun k_=>((P0_ k_∨P1_0_ k_∨P1_1_ k_)∨w.heap.size≤k_)∧k_≠gb315)) (by apply zV_;exact HO327.out) hg hat);have n9_:=zA (Kd.V_afterv (ok:=(fun k_=>((P0_ k_∨P1_0_ k_∨P1_1_ k_)∨w.heap.size≤k_)∧k_≠gb315)) (by apply zV_;exact HO338.out) hg hat);have n10_:=zA (hb);have n11_:=zA (ho);clear HO_0;clear HO_316000;clear HO_316001;clear BK315;clear HL316_0;clear HL316_1;clear HL318_0;clear HL318_1;clear HO327;clear HO338;clear HB;clear HO333;have HO_0:=n0_;have HO_316000:=n1_;have HO_316001:=n2_;have BK315:=n3_;have HL316_0:=n4_;have HL316_1:=n5_;have HL318_0:=n6_;have HL318_1:=n7_;have HO327:=n8_;have HO338:=n9_;have HB:=n10_;have HO341:=n11_;clear n0_ n1_ n2_ n3_ n4_ n5_ n6_ n7_ n8_ n9_ n10_ n11_;clear ho hb hg hat))
           go_ret
           exact ⟨_,by first|rfl|(simp [errW_none,errW_some] <;> rfl)|(simp [*,errW_none,errW_some] <;> rfl),Kd.N_V (by apply zN_;exact Kd.N_mono HO341.out (fun _ hk=>hk.1)),by repeat (first|(with_reducible first|exact HB.out|apply zD|apply zB|apply zC|refine zF ?_ GE315.out)|exact HB.out)⟩
          ·rw [if_neg c22] at H
           exact absurd H (by simp)
         ·rw [if_neg c19] at H
          exact absurd H (by simp)
        ·rw [if_neg c18] at H
         exact absurd H (by simp)
       ·rw [if_neg c17] at H
        exact absurd H (by simp)
    ·rw [if_neg c5] at H
     exact absurd H (by simp)
   ·rw [if_neg c4] at H
    have c4b0:decide (x5_1 < (l0.length:Int)) = false:=zP c4
    clear c4
    obtain ⟨y342,hy342⟩:∃ y_:List (S33),y_ = (([]:List (S33))):=⟨_,rfl⟩
    replace H:(if 0≤x5_1 then (if x5_1≤(l0.length:Int) then ((some (l0.take (x5_1:Int).toNat:List (S33))).bind fun y345=>(if y342.length+y345.length < 2932031007402 then ((some (y342 ++ y345:List (S33))).bind fun y350=>(if y350.length < 2932031007402 then ((some (y350 ++ [(⟨l1_0,l1_1⟩:S33)]:List (S33))).bind fun y353=>((some (l0.drop (x5_1:Int).toNat:List (S33))).bind fun y356=>(if y353.length+y356.length < 2932031007402 then (some (y353 ++ y356)) else (none)))) else (none))) else (none))) else (none)) else (none)) = some r:=by (try rw [hy342]);first|with_reducible exact H|with_reducible exact zS_ H|exact H
    have Ny342:=zA hy342
    clear hy342
    by_cases c35:0≤x5_1
    ·rw [if_pos c35] at H
     have c35b0:=eq_true c35
     have c35b1:decide (0≤x5_1) = true:=zO c35
     clear c35
     by_cases c36:x5_1≤(l0.length:Int)
     ·rw [if_pos c36] at H
      have c36b0:=eq_true c36
      have c36b1:decide (x5_1≤(l0.length:Int)) = true:=zO c36
      clear c36
      obtain ⟨y345,hy345⟩:∃ y_:List (S33),y_ = (l0.take (x5_1:Int).toNat):=⟨_,rfl⟩
      replace H:(if y342.length+y345.length < 2932031007402 then ((some (y342 ++ y345:List (S33))).bind fun y350=>(if y350.length < 2932031007402 then ((some (y350 ++ [(⟨l1_0,l1_1⟩:S33)]:List (S33))).bind fun y353=>((some (l0.drop (x5_1:Int).toNat:List (S33))).bind fun y356=>(if y353.length+y356.length < 2932031007402 then (some (y353 ++ y356)) else (none)))) else (none))) else (none)) = some r:=by (try rw [hy345]);first|with_reducible exact H|with_reducible exact zS_ H|exact H
      have Ny345:=zA hy345
      clear hy345
      by_cases c37:y342.length+y345.length < 2932031007402
      ·rw [if_pos c37] at H
       have LMc37:=zA c37
       clear c37
       obtain ⟨y350,hy350⟩:∃ y_:List (S33),y_ = (y342 ++ y345):=⟨_,rfl⟩
       replace H:(if y350.length < 2932031007402 then ((some (y350 ++ [(⟨l1_0,l1_1⟩:S33)]:List (S33))).bind fun y353=>((some (l0.drop (x5_1:Int).toNat:List (S33))).bind fun y356=>(if y353.length+y356.length < 2932031007402 then (some (y353 ++ y356)) else (none)))) else (none)) = some r:=by (try rw [hy350]);first|with_reducible exact H|with_reducible exact zS_ H|exact H
       have Ny350:=zA hy350
       clear hy350
       by_cases c38:y350.length < 2932031007402
       ·rw [if_pos c38] at H
        have LMc38:=zA c38
        clear c38
        obtain ⟨y353,hy353⟩:∃ y_:List (S33),y_ = (y350 ++ [(⟨l1_0,l1_1⟩:S33)]):=⟨_,rfl⟩
        replace H:((some (l0.drop (x5_1:Int).toNat:List (S33))).bind fun y356=>(if y353.length+y356.length < 2932031007402 then (some (y353 ++ y356)) else (none))) = some r:=by (try rw [hy353]);first|with_reducible exact H|with_reducible exact zS_ H|exact H
        have Ny353:=zA hy353
        clear hy353
        have c39b0:=eq_true (zE (by with_reducible assumption):0≤x5_1)
        have c40b0:=eq_true (zE (by with_reducible assumption):x5_1≤(l0.length:Int))
        obtain ⟨y356,hy356⟩:∃ y_:List (S33),y_ = (l0.drop (x5_1:Int).toNat):=⟨_,rfl⟩
        replace H:(if y353.length+y356.length < 2932031007402 then (some (y353 ++ y356)) else (none)) = some r:=by (try rw [hy356]);first|with_reducible exact H|with_reducible exact zS_ H|exact H
        have Ny356:=zA hy356
        clear hy356
        by_cases c41:y353.length+y356.length < 2932031007402
        ·rw [if_pos c41] at H
         have LMc41:=zA c41
         clear c41
         obtain ⟨y361,hy361⟩:∃ y_:List (S33),y_ = (y353 ++ y356):=⟨_,rfl⟩
         replace H:(some y361) = some r:=by (try rw [hy361]);first|with_reducible exact H|with_reducible exact zS_ H|exact H
         have Ny361:=zA hy361
         clear hy361
         obtain rfl:=zS H
         try go_wp2
         have n0_:=zA (Kd.V_drew HO_0.out)
         have n1_:=zA (Kd.V_drew HO_316000.out)
         have n2_:=zA (Kd.V_drew HO_316001.out)
         have n3_:=zA (zI BK315.out)
         have n4_:=zA (zC HB.out)
         clear HO_0 HO_316000 HO_316001 BK315 HB
         have HO_0:=n0_
         have HO_316000:=n1_
         have HO_316001:=n2_
         have BK315:=n3_
         have HB:=n4_
         clear n0_ n1_ n2_ n3_ n4_
         refine start_ (n:=13) (S:=fun w'=>True) (ds:=[]) #[zf,zf,zf,zf,zf,zf,zf,zf,zf,zf,zf,zf,zf] (by kernel_rfl) rfl rfl trivial (fun hHeld=>?_);refine with_tabW spec_l3Put.tab2 spec_l3Put.bits2 (fun HT_ HW_=>?_)
         generalize wr.drew = w42 at HO_0 HO_316000 HO_316001 BK315 HB hHeld ⊢
         refine pure_ (i:=0) (N:=some 7) (v:=?_) (a':=?_) #[zt,zf,zf,zf,zf,zf,zf,zf,zf,zf,zf,zf,zf] rfl rfl (any_of HT_.out (by kernel_rfl)) (fun _ _ _ h=>h) (Or.inl ⟨by rfl,?_⟩) ?_ ?_
         rotate_left
         ·intro w'
          go_simp
          with_reducible rfl
         rotate_left
         ·simp only [Act.put,zP_,i64_w]
          rfl
         refine pure_ (i:=1) (N:=some 8) (v:=?_) (a':=?_) #[zt,zt,zf,zf,zf,zf,zf,zf,zf,zf,zf,zf,zf] rfl rfl (any_of HT_.out (by kernel_rfl)) (fun _ _ _ h=>h) (Or.inl ⟨by rfl,?_⟩) ?_ ?_
         rotate_left
         ·intro w'
          go_simp
          with_reducible rfl
         rotate_left
         ·simp only [Act.put,zP_,i64_w]
          rfl
         refine pure_ (i:=2) (N:=some 9) (v:=?_) (a':=?_) #[zt,zt,zt,zf,zf,zf,zf,zf,zf,zf,zf,zf,zf] rfl rfl (any_of HT_.out (by kernel_rfl)) (fun _ _ _ h=>h) (Or.inl ⟨by rfl,?_⟩) ?_ ?_
         rotate_left
         ·intro w'
          go_simp
          with_reducible rfl
         rotate_left
         ·simp only [Act.put,zP_,i64_w]
          rfl
         refine pure_ (i:=3) (N:=some 10) (v:=?_) (a':=?_) #[zt,zt,zt,zt,zf,zf,zf,zf,zf,zf,zf,zf,zf] rfl rfl (any_of HT_.out (by kernel_rfl)) (fun _ _ _ h=>h) (Or.inl ⟨by rfl,?_⟩) ?_ ?_
         rotate_left
         ·intro w'
          go_simp
          with_reducible rfl
         rotate_left
         ·simp only [Act.put,zP_,i64_w]
          rfl
         refine pure_ (i:=4) (N:=some 11) (v:=?_) (a':=?_) #[zt,zt,zt,zt,zt,zf,zf,zf,zf,zf,zf,zf,zf] rfl rfl (any_of HT_.out (by kernel_rfl)) (fun _ _ _ h=>h) (Or.inl ⟨by rfl,?_⟩) ?_ ?_
         rotate_left
         ·intro w'
          go_simp
          with_reducible rfl
         rotate_left
         ·simp only [Act.put,zP_,i64_w]
          rfl
         refine pure_ (i:=5) (N:=some 12) (v:=undef) (a':=?_) #[zt,zt,zt,zt,zt,zt,zf,zf,zf,zf,zf,zf,zf] rfl rfl (any_of HT_.out (by kernel_rfl)) (fun _ _ _ h=>h) (Or.inr ⟨by rfl,rfl⟩) ?_ ?_
         rotate_left
         ·simp only [Act.put,zP_,i64_w]
          rfl
         refine pure_ (i:=6) (N:=some 13) (v:=undef) (a':=?_) #[zt,zt,zt,zt,zt,zt,zt,zf,zf,zf,zf,zf,zf] rfl rfl (any_of HT_.out (by kernel_rfl)) (fun _ _ _ h=>h) (Or.inr ⟨by rfl,rfl⟩) ?_ ?_
         rotate_left
         ·simp only [Act.put,zP_,i64_w]
          rfl
         refine pure_ (i:=7) (N:=some 14) (v:=undef) (a':=?_) #[zt,zt,zt,zt,zt,zt,zt,zt,zf,zf,zf,zf,zf] rfl rfl (any_of HT_.out (by kernel_rfl)) (fun _ _ _ h=>h) (Or.inr ⟨by rfl,rfl⟩) ?_ ?_
         rotate_left
         ·simp only [Act.put,zP_,i64_w]
          rfl
         refine pure_ (i:=8) (N:=some 15) (v:=undef) (a':=?_) #[zt,zt,zt,zt,zt,zt,zt,zt,zt,zf,zf,zf,zf] rfl rfl (any_of HT_.out (by kernel_rfl)) (fun _ _ _ h=>h) (Or.inr ⟨by rfl,rfl⟩) ?_ ?_
         rotate_left
         ·simp only [Act.put,zP_,i64_w]
          rfl
         refine pure_ (i:=9) (N:=some 16) (v:=undef) (a':=?_) #[zt,zt,zt,zt,zt,zt,zt,zt,zt,zt,zf,zf,zf] rfl rfl (any_of HT_.out (by kernel_rfl)) (fun _ _ _ h=>h) (Or.inr ⟨by rfl,rfl⟩) ?_ ?_
         rotate_left
         ·simp only [Act.put,zP_,i64_w]
          rfl
         refine pure_ (i:=10) (N:=some 17) (v:=undef) (a':=?_) #[zt,zt,zt,zt,zt,zt,zt,zt,zt,zt,zt,zf,zf] rfl rfl (any_of HT_.out (by kernel_rfl)) (fun _ _ _ h=>h) (Or.inr ⟨by rfl,rfl⟩) ?_ ?_
         rotate_left
         ·simp only [Act.put,zP_,i64_w]
          rfl
         refine pure_ (i:=11) (N:=some 18) (v:=undef) (a':=?_) #[zt,zt,zt,zt,zt,zt,zt,zt,zt,zt,zt,zt,zf] rfl rfl (any_of HT_.out (by kernel_rfl)) (fun _ _ _ h=>h) (Or.inr ⟨by rfl,rfl⟩) ?_ ?_
         rotate_left
         ·simp only [Act.put,zP_,i64_w]
          rfl
         refine pure_ (i:=12) (N:=some 19) (v:=?_) (a':=?_) #[zt,zt,zt,zt,zt,zt,zt,zt,zt,zt,zt,zt,zt] rfl rfl (any_of HT_.out (by kernel_rfl)) (fun _ _ _ h=>h) (Or.inl ⟨by rfl,?_⟩) ?_ ?_
         rotate_left
         ·intro w'
          go_simp
          with_reducible rfl
         rotate_left
         ·simp only [Act.put,zP_,i64_w]
          rfl
         refine done_ (done_of HT_.out (by kernel_rfl)) ?_
         try go_wp2
         have n0_:=zA (Kd.V_drew HO_0.out)
         have n1_:=zA (Kd.V_drew HO_316000.out)
         have n2_:=zA (Kd.V_drew HO_316001.out)
         have n3_:=zA (zI BK315.out)
         have n4_:=zA (zC HB.out)
         clear HO_0 HO_316000 HO_316001 BK315 HB
         have HO_0:=n0_
         have HO_316000:=n1_
         have HO_316001:=n2_
         have BK315:=n3_
         have HB:=n4_
         clear n0_ n1_ n2_ n3_ n4_
         refine start_ (n:=13) (S:=fun w'=>True) (ds:=[]) #[zf,zf,zf,zf,zf,zf,zf,zf,zf,zf,zf,zf,zf] (by kernel_rfl) rfl rfl trivial (fun hHeld=>?_);refine with_tabW spec_l3Put.tab4 spec_l3Put.bits4 (fun HT_ HW_=>?_)
         generalize w42.drew = w43 at HO_0 HO_316000 HO_316001 BK315 HB hHeld ⊢
         refine pure_ (i:=0) (N:=some 22) (v:=?_) (a':=?_) #[zt,zf,zf,zf,zf,zf,zf,zf,zf,zf,zf,zf,zf] rfl rfl (any_of HT_.out (by kernel_rfl)) (fun _ _ _ h=>h) (Or.inl ⟨by rfl,?_⟩) ?_ ?_
         rotate_left
         ·intro w'
          go_simp
          with_reducible rfl
         rotate_left
         ·simp only [Act.put,zP_,i64_w]
          rfl
         refine pure_ (i:=1) (N:=some 23) (v:=?_) (a':=?_) #[zt,zt,zf,zf,zf,zf,zf,zf,zf,zf,zf,zf,zf] rfl rfl (any_of HT_.out (by kernel_rfl)) (fun _ _ _ h=>h) (Or.inl ⟨by rfl,?_⟩) ?_ ?_
         rotate_left
         ·intro w'
          go_simp
          with_reducible rfl
         rotate_left
         ·simp only [Act.put,zP_,i64_w]
          rfl
         refine pure_ (i:=2) (N:=some 24) (v:=?_) (a':=?_) #[zt,zt,zt,zf,zf,zf,zf,zf,zf,zf,zf,zf,zf] rfl rfl (any_of HT_.out (by kernel_rfl)) (fun _ _ _ h=>h) (Or.inl ⟨by rfl,?_⟩) ?_ ?_
         rotate_left
         ·intro w'
          go_simp
          with_reducible rfl
         rotate_left
         ·simp only [Act.put,zP_,i64_w]
          rfl
         refine pure_ (i:=3) (N:=some 25) (v:=?_) (a':=?_) #[zt,zt,zt,zt,zf,zf,zf,zf,zf,zf,zf,zf,zf] rfl rfl (any_of HT_.out (by kernel_rfl)) (fun _ _ _ h=>h) (Or.inl ⟨by rfl,?_⟩) ?_ ?_
         rotate_left
         ·intro w'
          go_simp
          with_reducible rfl
         rotate_left
         ·simp only [Act.put,zP_,i64_w]
          rfl
         refine pure_ (i:=4) (N:=some 26) (v:=?_) (a':=?_) #[zt,zt,zt,zt,zt,zf,zf,zf,zf,zf,zf,zf,zf] rfl rfl (any_of HT_.out (by kernel_rfl)) (fun _ _ _ h=>h) (Or.inl ⟨by rfl,?_⟩) ?_ ?_
         rotate_left
         ·intro w'
          go_simp
          with_reducible rfl
         rotate_left
         ·simp only [Act.put,zP_,i64_w]
          rfl
         refine pure_ (i:=5) (N:=some 27) (v:=undef) (a':=?_) #[zt,zt,zt,zt,zt,zt,zf,zf,zf,zf,zf,zf,zf] rfl rfl (any_of HT_.out (by kernel_rfl)) (fun _ _ _ h=>h) (Or.inr ⟨by rfl,rfl⟩) ?_ ?_
         rotate_left
         ·simp only [Act.put,zP_,i64_w]
          rfl
         refine pure_ (i:=6) (N:=some 28) (v:=undef) (a':=?_) #[zt,zt,zt,zt,zt,zt,zt,zf,zf,zf,zf,zf,zf] rfl rfl (any_of HT_.out (by kernel_rfl)) (fun _ _ _ h=>h) (Or.inr ⟨by rfl,rfl⟩) ?_ ?_
         rotate_left
         ·simp only [Act.put,zP_,i64_w]
          rfl
         refine pure_ (i:=7) (N:=some 29) (v:=undef) (a':=?_) #[zt,zt,zt,zt,zt,zt,zt,zt,zf,zf,zf,zf,zf] rfl rfl (any_of HT_.out (by kernel_rfl)) (fun _ _ _ h=>h) (Or.inr ⟨by rfl,rfl⟩) ?_ ?_
         rotate_left
         ·simp only [Act.put,zP_,i64_w]
          rfl
         refine pure_ (i:=8) (N:=some 30) (v:=undef) (a':=?_) #[zt,zt,zt,zt,zt,zt,zt,zt,zt,zf,zf,zf,zf] rfl rfl (any_of HT_.out (by kernel_rfl)) (fun _ _ _ h=>h) (Or.inr ⟨by rfl,rfl⟩) ?_ ?_
         rotate_left
         ·simp only [Act.put,zP_,i64_w]
          rfl
         refine pure_ (i:=9) (N:=some 31) (v:=undef) (a':=?_) #[zt,zt,zt,zt,zt,zt,zt,zt,zt,zt,zf,zf,zf] rfl rfl (any_of HT_.out (by kernel_rfl)) (fun _ _ _ h=>h) (Or.inr ⟨by rfl,rfl⟩) ?_ ?_
         rotate_left
         ·simp only [Act.put,zP_,i64_w]
          rfl
         refine pure_ (i:=10) (N:=some 32) (v:=undef) (a':=?_) #[zt,zt,zt,zt,zt,zt,zt,zt,zt,zt,zt,zf,zf] rfl rfl (any_of HT_.out (by kernel_rfl)) (fun _ _ _ h=>h) (Or.inr ⟨by rfl,rfl⟩) ?_ ?_
         rotate_left
         ·simp only [Act.put,zP_,i64_w]
          rfl
         refine pure_ (i:=11) (N:=some 33) (v:=undef) (a':=?_) #[zt,zt,zt,zt,zt,zt,zt,zt,zt,zt,zt,zt,zf] rfl rfl (any_of HT_.out (by kernel_rfl)) (fun _ _ _ h=>h) (Or.inr ⟨by rfl,rfl⟩) ?_ ?_
         rotate_left
         ·simp only [Act.put,zP_,i64_w]
          rfl
         refine pure_ (i:=12) (N:=some 34) (v:=?_) (a':=?_) #[zt,zt,zt,zt,zt,zt,zt,zt,zt,zt,zt,zt,zt] rfl rfl (any_of HT_.out (by kernel_rfl)) (fun _ _ _ h=>h) (Or.inl ⟨by rfl,?_⟩) ?_ ?_
         rotate_left
         ·intro w'
          go_simp
          with_reducible rfl
         rotate_left
         ·simp only [Act.put,zP_,i64_w]
          rfl
         refine done_ (done_of HT_.out (by kernel_rfl)) ?_
         try go_wp2_with (first|((with_reducible refine gate_dst (N:=36) rfl ?_);refine Kd.N_lit k33 _ 33 ?hg (N':=36) ?hd (xs:=([]:List (S33))) (inner:=[]) (ok:=(fun k_=>((P0_ k_∨P1_0_ k_∨P1_1_ k_)∨w.heap.size≤k_)∧k_≠gb315)) (okp:=(fun k_=>((P0_ k_∨P1_0_ k_∨P1_1_ k_)∨w.heap.size≤k_)∧k_≠gb315)) ?hr ?hp (fun _ hk=>hk) ((show ∀ k_,w43.heap.size≤k_→(fun k_=>((P0_ k_∨P1_0_ k_∨P1_1_ k_)∨w.heap.size≤k_)∧k_≠gb315) k_ from fun k_ hk=>⟨(.inr (Nat.le_trans (zQ (by repeat (first|(with_reducible first|exact HB.out|apply zD|apply zB|apply zC|refine zF ?_ GE315.out)|exact HB.out))) hk)),Kd.freshB (g:=gb315) (o:=.cells #[.slice A1_0 l1_0.length c1_0,.slice A1_1 l1_1.length c1_1] 33 (0,0)) (by (with_reducible repeat (first|refine zG ?_ _|refine zI ?_|refine zH ?_ _));exact BK315.out) k_ hk⟩) _ (Nat.le_refl _)) (Below.refl _ _) (Nat.le_refl _) (by simp) ?_;(case hd=>rfl);(case hg=>rfl);(case hr=>first|(go_simp;done)|(go_simp;rfl));(case hp=>exact (Reps.none _ _));intro v343 w44 ho45 hb hg_ hnew_;clear hg_ hnew_;(first|rw [← Ny342.out] at ho45|(simp only [Int.reduceToNat] at ho45;rw [← Ny342.out] at ho45));have n0_:=zA (Kd.V_elder' (by apply zV_;exact HO_0.out) (Kd.N_base ho45) hb);have n1_:=zA (Kd.V_elder' (by apply zV_;exact HO_316000.out) (Kd.N_base ho45) hb);have n2_:=zA (Kd.V_elder' (by apply zV_;exact HO_316001.out) (Kd.N_base ho45) hb);have n3_:=zA (Kd.N_lower ho45 (zQ (by repeat (first|(with_reducible first|exact HB.out|apply zD|apply zB|apply zC|refine zF ?_ GE315.out)|exact HB.out))));have n4_:=zA (zX (g:=gb315) (o:=.cells #[.slice A1_0 l1_0.length c1_0,.slice A1_1 l1_1.length c1_1] 33 (0,0)) (by (with_reducible repeat (first|refine zG ?_ _|refine zI ?_|refine zH ?_ _));exact BK315.out) hb);have n5_:=zA (zR (by repeat (first|(with_reducible first|exact HB.out|apply zD|apply zB|apply zC|refine zF ?_ GE315.out)|exact HB.out)) hb);clear HO_0;clear HO_316000;clear HO_316001;clear BK315;clear HB;have HO_0:=n0_;have HO_316000:=n1_;have HO_316001:=n2_;have HO344:=n3_;have BK315:=n4_;have HB:=n5_;clear n0_ n1_ n2_ n3_ n4_ n5_;clear hb ho45;have q46:(x5_1:Int)≤((l0.length:Int):Int):=zE (by with_reducible assumption);obtain ⟨i046,hi046,_,hsz46,_⟩:=info_parts info33;have hroom46:l0.length≤c0:=(zk HO_0.out).2.1;have hC46:Kd.F k33 _ _ A0 l0.length l0:=(Kd.V_at (base:=w.heap.size) HO_0.out).2.2;have hcut46:=cut_to (P:=Try.prog) 27 33 .i64 Try.underlying27 hi046 A0 l0.length c0 x5_1 (zE (by with_reducible assumption)) q46 hroom46;have hr46:=Kd.F_take (m:=(x5_1:Int).toNat) hC46 (by omega);have hy46:y345.length = (x5_1:Int).toNat:=(by rw [Ny345.out,zK];omega);rw [← Ny345.out] at hr46;rw [← hy46] at hcut46;have HO349:=zA (show Kd.V k33 33 _ w.heap.size _ (.slice A0 y345.length c0) y345 from Kd.V_mk (by omega) hr46);have HC349:=zA (show y345.length≤c0 from by omega);clear hr46 hC46 hroom46 hi046 hsz46;have KY46:=zA hy46;clear hy46;replace q46:=eq_true q46)|((with_reducible refine gate_builtin (b:=.append) (xs:=#[.tmp 36,.tmp 39]) rfl ?_);at_builtin;refine Kd.N_append_rows k33 (w0:=w) w.heap.size rfl (.tmp 36) (.tmp 39) 27 33 (.agg #[(.slice none 0 0),(.slice none 0 0)]) 48 rfl Try.underlying27 info33 rfl (by decide) (by omega) v343 y342 y345 _ _ _ (fun k_=>((P0_ k_∨P1_0_ k_∨P1_1_ k_)∨w.heap.size≤k_)∧k_≠gb315) (fun k_=>((fun k_=>((P0_ k_∨P1_0_ k_∨P1_1_ k_)∨w.heap.size≤k_)∧k_≠gb315)) k_∧some k_≠(v343:Value).ownBlock) rfl rfl ?aO ?aR (fun _ hk=>hk) ?aF ?aB ?aS ?aL ?_;(case aR=>exact (by skip;exact Kd.V_F (Kd.V_mono (ok':=(fun k_=>((fun k_=>((P0_ k_∨P1_0_ k_∨P1_1_ k_)∨w.heap.size≤k_)∧k_≠gb315)) k_∧some k_≠(v343:Value).ownBlock)) (HO349.out) (fun k_ hk=>⟨⟨hk.1.1,hk.1.2⟩,hk.2⟩))));(case aB=>exact (by repeat (first|(with_reducible first|exact HB.out|apply zD|apply zB|apply zC|refine zF ?_ GE315.out)|exact HB.out)));(case aF=>exact (fun k_ hk=>⟨(.inr (Nat.le_trans (zQ (by repeat (first|(with_reducible first|exact HB.out|apply zD|apply zB|apply zC|refine zF ?_ GE315.out)|exact HB.out))) hk)),Kd.freshB (g:=gb315) (o:=.cells #[.slice A1_0 l1_0.length c1_0,.slice A1_1 l1_1.length c1_1] 33 (0,0)) (by (with_reducible repeat (first|refine zG ?_ _|refine zI ?_|refine zH ?_ _));exact BK315.out) k_ hk⟩));(case aO=>exact (by apply zN_;exact HO344.out));(case aS=>exact (zQ (by repeat (first|(with_reducible first|exact HB.out|apply zD|apply zB|apply zC|refine zF ?_ GE315.out)|exact HB.out))));(case aL=>have:=LMc37.out;omega);intro v351 w47 ho hb hg hat;rw [← Ny350.out] at ho;have n0_:=zA (Kd.V_afterv (ok:=(fun k_=>((P0_ k_∨P1_0_ k_∨P1_1_ k_)∨w.heap.size≤k_)∧k_≠gb315)) (by apply zV_;exact HO_0.out) hg hat);have n1_:=zA (Kd.V_afterv (ok:=(fun k_=>((P0_ k_∨P1_0_ k_∨P1_1_ k_)∨w.heap.size≤k_)∧k_≠gb315)) (by apply zV_;exact HO_316000.out) hg hat);have n2_:=zA (Kd.V_afterv (ok:=(fun k_=>((P0_ k_∨P1_0_ k_∨P1_1_ k_)∨w.heap.size≤k_)∧k_≠gb315)) (by apply zV_;exact HO_316001.out) hg hat);have n3_:=zA (blk_grown (g:=gb315) (o:=.cells #[.slice A1_0 l1_0.length c1_0,.slice A1_1 l1_1.length c1_1] 33 (0,0)) (by (with_reducible repeat (first|refine zG ?_ _|refine zI ?_|refine zH ?_ _));exact BK315.out) hg (Kd.N_away HO344.out (fun _ hk=>hk.2)));have n4_:=zA (Kd.V_afterv (ok:=(fun k_=>((P0_ k_∨P1_0_ k_∨P1_1_ k_)∨w.heap.size≤k_)∧k_≠gb315)) (by apply zV_;exact HO349.out) hg hat);have n5_:=zA (hb);have n6_:=zA (ho);clear HO_0;clear HO_316000;clear HO_316001;clear BK315;clear HO349;clear HB;clear HO344;have HO_0:=n0_;have HO_316000:=n1_;have HO_316001:=n2_;have BK315:=n3_;have HO349:=n4_;have HB:=n5_;have HO352:=n6_;clear n0_ n1_ n2_ n3_ n4_ n5_ n6_;clear ho hb hg hat;have hcz48_0:w47.cell? ⟨gb315,0,none⟩ = some (.slice A1_0 l1_0.length c1_0):=(zT BK315.out 0).trans rfl;have hcz48_1:w47.cell? ⟨gb315,1,none⟩ = some (.slice A1_1 l1_1.length c1_1):=(zT BK315.out 1).trans rfl;have hfz48_0:=zZ BK315.out 0;have hfz48_1:=zZ BK315.out 1)|((with_reducible refine gate_builtin (b:=.append) (xs:=#[.tmp 41,.tmp 43]) rfl ?_);at_builtin;refine Kd.N_append k33 (w0:=w) w.heap.size rfl (.tmp 41) (.tmp 43) 27 33 (.agg #[(.slice none 0 0),(.slice none 0 0)]) 48 rfl Try.underlying27 info33 rfl (by decide) (by omega) v351 y350 (⟨l1_0,l1_1⟩:S33) [.slice A1_0 l1_0.length c1_0,.slice A1_1 l1_1.length c1_1] (fun k_=>((P0_ k_∨P1_0_ k_∨P1_1_ k_)∨w.heap.size≤k_)∧k_≠gb315) (fun k_=>((fun k_=>((P0_ k_∨P1_0_ k_∨P1_1_ k_)∨w.heap.size≤k_)∧k_≠gb315)) k_∧some k_≠(v351:Value).ownBlock) rfl rfl ?aP (fun _ hk=>hk) ?aF ?aO ?aB ?aS ?aL ?_;(case aP=>exact (k33_mkF _ _ (⟨l1_0,l1_1⟩:S33) (zk (Kd.V_mono (ok':=(fun k_=>((fun k_=>((P0_ k_∨P1_0_ k_∨P1_1_ k_)∨w.heap.size≤k_)∧k_≠gb315)) k_∧some k_≠(v351:Value).ownBlock)) (HO_316000.out) (fun k_ hk=>⟨⟨hk.1.1,hk.1.2⟩,hk.2⟩))).2.1 (Kd.V_F (Kd.V_mono (ok':=(fun k_=>((fun k_=>((P0_ k_∨P1_0_ k_∨P1_1_ k_)∨w.heap.size≤k_)∧k_≠gb315)) k_∧some k_≠(v351:Value).ownBlock)) (HO_316000.out) (fun k_ hk=>⟨⟨hk.1.1,hk.1.2⟩,hk.2⟩))) (zk (Kd.V_mono (ok':=(fun k_=>((fun k_=>((P0_ k_∨P1_0_ k_∨P1_1_ k_)∨w.heap.size≤k_)∧k_≠gb315)) k_∧some k_≠(v351:Value).ownBlock)) (HO_316001.out) (fun k_ hk=>⟨⟨hk.1.1,hk.1.2⟩,hk.2⟩))).2.1 (Kd.V_F (Kd.V_mono (ok':=(fun k_=>((fun k_=>((P0_ k_∨P1_0_ k_∨P1_1_ k_)∨w.heap.size≤k_)∧k_≠gb315)) k_∧some k_≠(v351:Value).ownBlock)) (HO_316001.out) (fun k_ hk=>⟨⟨hk.1.1,hk.1.2⟩,hk.2⟩)))));(case aB=>exact (by repeat (first|(with_reducible first|exact HB.out|apply zD|apply zB|apply zC|refine zF ?_ GE315.out)|exact HB.out)));(case aF=>exact (fun k_ hk=>⟨(.inr (Nat.le_trans (zQ (by repeat (first|(with_reducible first|exact HB.out|apply zD|apply zB|apply zC|refine zF ?_ GE315.out)|exact HB.out))) hk)),Kd.freshB (g:=gb315) (o:=.cells #[.slice A1_0 l1_0.length c1_0,.slice A1_1 l1_1.length c1_1] 33 (0,0)) (by (with_reducible repeat (first|refine zG ?_ _|refine zI ?_|refine zH ?_ _));exact BK315.out) k_ hk⟩));(case aO=>exact (by apply zN_;exact HO352.out));(case aS=>exact (zQ (by repeat (first|(with_reducible first|exact HB.out|apply zD|apply zB|apply zC|refine zF ?_ GE315.out)|exact HB.out))));(case aL=>have:=LMc38.out;omega);intro v354 w49 ho hb hg hat;rw [← Ny353.out] at ho;have n0_:=zA (Kd.V_afterv (ok:=(fun k_=>((P0_ k_∨P1_0_ k_∨P1_1_ k_)∨w.heap.size≤k_)∧k_≠gb315)) (by apply zV_;exact HO_0.out) hg hat);have n1_:=zA (Kd.V_afterv (ok:=(fun k_=>((P0_ k_∨P1_0_ k_∨P1_1_ k_)∨w.heap.size≤k_)∧k_≠gb315)) (by apply zV_;exact HO_316000.out) hg hat);have n2_:=zA (Kd.V_afterv (ok:=(fun k_=>((P0_ k_∨P1_0_ k_∨P1_1_ k_)∨w.heap.size≤k_)∧k_≠gb315)) (by apply zV_;exact HO_316001.out) hg hat);have n3_:=zA (blk_grown (g:=gb315) (o:=.cells #[.slice A1_0 l1_0.length c1_0,.slice A1_1 l1_1.length c1_1] 33 (0,0)) (by (with_reducible repeat (first|refine zG ?_ _|refine zI ?_|refine zH ?_ _));exact BK315.out) hg (Kd.N_away HO352.out (fun _ hk=>hk.2)));have n4_:=zA (Kd.V_afterv (ok:=(fun k_=>((P0_ k_∨P1_0_ k_∨P1_1_ k_)∨w.heap.size≤k_)∧k_≠gb315)) (by apply zV_;exact HO349.out) hg hat);have n5_:=zA (hb);have n6_:=zA (ho);clear HO_0;clear HO_316000;clear HO_316001;clear BK315;clear HO349;clear HB;clear HO352;have HO_0:=n0_;have HO_316000:=n1_;have HO_316001:=n2_;have BK315:=n3_;have HO349:=n4_;have HB:=n5_;have HO355:=n6_;clear n0_ n1_ n2_ n3_ n4_ n5_ n6_;clear ho hb hg hat;have q50:(x5_1:Int)≤((l0.length:Int):Int):=zE (by with_reducible assumption);obtain ⟨i050,hi050,_,hsz50,_⟩:=info_parts info33;have hroom50:l0.length≤c0:=(zk HO_0.out).2.1;have hC50:Kd.F k33 _ _ A0 l0.length l0:=(Kd.V_at (base:=w.heap.size) HO_0.out).2.2;have q050:(0:Int)≤(x5_1:Int):=zE (by with_reducible assumption);have hcut50:=cut_from (P:=Try.prog) 27 33 .i64 Try.underlying27 hi050 2 hsz50 A0 l0.length c0 x5_1 q050 q50;have hr50:=Kd.F_cut (m:=(x5_1:Int).toNat) (c:=c0) hC50 (by omega) hroom50;obtain ⟨A50,hA50⟩:∃ A1,A1 = (if c0 = (x5_1:Int).toNat then A0 else (A0:Option Addr).map (·.add ((x5_1:Int).toNat * 2))):=⟨_,rfl⟩;obtain ⟨c50,hc50⟩:∃ c1,c1 = c0 - (x5_1:Int).toNat:=⟨_,rfl⟩;have hy50:y356.length = l0.length - (x5_1:Int).toNat:=(by rw [Ny356.out,zL] <;> omega);rw [show (l0).drop (x5_1:Int).toNat = y356 from Ny356.out.symm] at hr50;replace hr50:Kd.F k33 _ _ A50 y356.length y356:=(by rw [hA50];exact hr50);rw [← hy50, ← hA50, ← hc50] at hcut50;have HO360:=zA (show Kd.V k33 33 _ w.heap.size _ (.slice A50 y356.length c50) y356 from Kd.V_mk (by rw [hy50,hc50];exact Nat.sub_le_sub_right hroom50 _) hr50);have HC360:=zA (show y356.length≤c50 from by rw [hy50,hc50];exact Nat.sub_le_sub_right hroom50 _);clear hr50 hC50 hroom50 hi050 hsz50 hc50;have KY50:=zA hy50;have KA50:=zA hA50;clear hy50 hA50;replace q50:=eq_true q50)|((with_reducible refine gate_builtin (b:=.append) (xs:=#[.tmp 45,.tmp 48]) rfl ?_);at_builtin;refine Kd.N_append_rows k33 (w0:=w) w.heap.size rfl (.tmp 45) (.tmp 48) 27 33 (.agg #[(.slice none 0 0),(.slice none 0 0)]) 48 rfl Try.underlying27 info33 rfl (by decide) (by omega) v354 y353 y356 _ _ _ (fun k_=>((P0_ k_∨P1_0_ k_∨P1_1_ k_)∨w.heap.size≤k_)∧k_≠gb315) (fun k_=>((fun k_=>((P0_ k_∨P1_0_ k_∨P1_1_ k_)∨w.heap.size≤k_)∧k_≠gb315)) k_∧some k_≠(v354:Value).ownBlock) rfl rfl ?aO ?aR (fun _ hk=>hk) ?aF ?aB ?aS ?aL ?_;(case aR=>exact (by skip;exact Kd.V_F (Kd.V_mono (ok':=(fun k_=>((fun k_=>((P0_ k_∨P1_0_ k_∨P1_1_ k_)∨w.heap.size≤k_)∧k_≠gb315)) k_∧some k_≠(v354:Value).ownBlock)) (HO360.out) (fun k_ hk=>⟨⟨hk.1.1,hk.1.2⟩,hk.2⟩))));(case aB=>exact (by repeat (first|(with_reducible first|exact HB.out|apply zD|apply zB|apply zC|refine zF ?_ GE315.out)|exact HB.out)));(case aF=>exact (fun k_ hk=>⟨(.inr (Nat.le_trans (zQ (by repeat (first|(with_reducible first|exact HB.out|apply zD|apply zB|apply zC|refine zF ?_ GE315.out)|exact HB.out))) hk)),Kd.freshB (g:=gb315) (o:=.cells #[.slice A1_0 l1_0.length c1_0,.slice A1_1 l1_1.length c1_1] 33 (0,0)) (by (with_reducible repeat (first|refine zG ?_ _|refine zI ?_|refine zH ?_ _));exact BK315.out) k_ hk⟩));(case aO=>exact (by apply zN_;exact HO355.out));(case aS=>exact (zQ (by repeat (first|(with_reducible first|exact HB.out|apply zD|apply zB|apply zC|refine zF ?_ GE315.out)|exact HB.out))));(case aL=>have:=LMc41.out;omega);intro v362 w51 ho hb hg hat;rw [← Ny361.out] at ho;have n0_:=zA (Kd.V_afterv (ok:=(fun k_=>((P0_ k_∨P1_0_ k_∨P1_1_ k_)∨w.heap.size≤k_)∧k_≠gb315)) (by apply zV_;exact HO_0.out) hg hat);have n1_:=zA (Kd.V_afterv (ok:=(fun k_=>((P0_ k_∨P1_0_ k_∨P1_1_ k_)∨w.heap.size≤k_)∧k_≠gb315)) (by apply zV_;exact HO_316000.out) hg hat);have n2_:=zA (Kd.V_afterv (ok:=(fun k_=>((P0_ k_∨P1_0_ k_∨P1_1_ k_)∨w.heap.size≤k_)∧k_≠gb315)) (by apply zV_;exact HO_316001.out) hg hat);have n3_:=zA (blk_grown (g:=gb315) (o:=.cells #[.slice A1_0 l1_0.length c1_0,.slice A1_1 l1_1.length c1_1] 33 (0,0)) (by (with_reducible repeat (first|refine zG ?_ _|refine zI ?_|refine zH ?_ _));exact BK315.out) hg (Kd.N_away HO355.out (fun _ hk=>hk.2)));have n4_:=zA (Kd.V_afterv (ok:=(fun k_=>((P0_ k_∨P1_0_ k_∨P1_1_ k_)∨w.heap.size≤k_)∧k_≠gb315)) (by apply zV_;exact HO349.out) hg hat);have n5_:=zA (Kd.V_afterv (ok:=(fun k_=>((P0_ k_∨P1_0_ k_∨P1_1_ k_)∨w.heap.size≤k_)∧k_≠gb315)) (by apply zV_;exact HO360.out) hg hat);have n6_:=zA (hb);have n7_:=zA (ho);clear HO_0;clear HO_316000;clear HO_316001;clear BK315;clear HO349;clear HO360;clear HB;clear HO355;have HO_0:=n0_;have HO_316000:=n1_;have HO_316001:=n2_;have BK315:=n3_;have HO349:=n4_;have HO360:=n5_;have HB:=n6_;have HO363:=n7_;clear n0_ n1_ n2_ n3_ n4_ n5_ n6_ n7_;clear ho hb hg hat))
         go_ret
         exact ⟨_,by first|rfl|(simp [errW_none,errW_some] <;> rfl)|(simp [*,errW_none,errW_some] <;> rfl),Kd.N_V (by apply zN_;exact Kd.N_mono HO363.out (fun _ hk=>hk.1)),by repeat (first|(with_reducible first|exact HB.out|apply zD|apply zB|apply zC|refine zF ?_ GE315.out)|exact HB.out)⟩
        ·rw [if_neg c41] at H
         exact absurd H (by simp)
       ·rw [if_neg c38] at H
        exact absurd H (by simp)
      ·rw [if_neg c37] at H
       exact absurd H (by simp)
     ·rw [if_neg c36] at H
      exact absurd H (by simp)
    ·rw [if_neg c35] at H
     exact absurd H (by simp)

end Go.Proofs.Ytdaiohcgdpclnaa.Q
