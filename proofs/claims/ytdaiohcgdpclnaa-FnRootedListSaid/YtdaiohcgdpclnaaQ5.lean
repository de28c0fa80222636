import Derived.Test.YtdaiohcgdpclnaaQ0
import Derived.Test.YtdaiohcgdpclnaaQ4
import Derived.Test.YtdaiohcgdpclnaaZ
namespace Go.Proofs.Ytdaiohcgdpclnaa.Q
open Go.RowKit Go.Proofs.YtdaiohcgdpclnaaW.PrintWords Go.Proofs.YtdaiohcgdpclnaaW.PrintLast Go.Proofs.YtdaiohcgdpclnaaW.PrintMore
attribute [local go_sem] max2_int min2_int max_two min_two max_three min_three max_four min_four   -- for this text's walks alone
set_option linter.unusedVariables false
set_option linter.unusedSimpArgs false

/-! ### spec_l3Put: function 64 -/
def spec_l3Put.l0:Nat→List (S33)→Int→List Int→List Int→Option ((List (S33)))
 | 0,_,_,_,_=>none
 | k+1,x0,x5,x246000,x246001=>if x5 < (x0.length:Int) then (if 0≤x5 then ((spec_l2Before.f k ((rd_T33 x0 x5).f0) ((rd_T33 x0 x5).f1) x246000 x246001).bind fun t247=>(if t247 < 0 then (spec_l3Put.l0 k x0 (wrap64 (x5+1)) x246000 x246001) else ((spec_l2Before.f k ((rd_T33 x0 x5).f0) ((rd_T33 x0 x5).f1) x246000 x246001).bind fun t249=>(if t249 = 0 then (some x0) else ((some (([]:List (S33)):List (S33))).bind fun y250=>(if x5≤(x0.length:Int) then ((some (x0.take (x5:Int).toNat:List (S33))).bind fun y253=>(if y250.length+y253.length < 2932031007402 then ((some (y250 ++ y253:List (S33))).bind fun y258=>(if y258.length < 2932031007402 then ((some (y258 ++ [(⟨x246000,x246001⟩:S33)]:List (S33))).bind fun y261=>((some (x0.drop (x5:Int).toNat:List (S33))).bind fun y264=>(if y261.length+y264.length < 2932031007402 then (some (y261 ++ y264)) else (none)))) else (none))) else (none))) else (none))))))) else (none)) else ((some (([]:List (S33)):List (S33))).bind fun y272=>(if 0≤x5 then (if x5≤(x0.length:Int) then ((some (x0.take (x5:Int).toNat:List (S33))).bind fun y275=>(if y272.length+y275.length < 2932031007402 then ((some (y272 ++ y275:List (S33))).bind fun y280=>(if y280.length < 2932031007402 then ((some (y280 ++ [(⟨x246000,x246001⟩:S33)]:List (S33))).bind fun y283=>((some (x0.drop (x5:Int).toNat:List (S33))).bind fun y286=>(if y283.length+y286.length < 2932031007402 then (some (y283 ++ y286)) else (none)))) else (none))) else (none))) else (none)) else (none)))
def spec_l3Put.f (k:Nat) (l0:List (S33)) (l1_0:List Int) (l1_1:List Int):Option ((List (S33))):=spec_l3Put.l0 k l0 0 l1_0 l1_1
theorem spec_l3Put.mono_l:∀ k,(∀ y0 y1 y2 y3,LeO (spec_l3Put.l0 k y0 y1 y2 y3) (spec_l3Put.l0 (k+1) y0 y1 y2 y3))
 | 0=>fun _ _ _ _ r h=>by simp [spec_l3Put.l0] at h
 | k+1=>by
  have ih0:=spec_l3Put.mono_l k
  ·intro y0 y1 y2 y3
   unfold spec_l3Put.l0
   repeat' first
   | (with_reducible exact ih0 _ _ _ _)
   | (with_reducible exact spec_l2Before.mono _ _ _ _ _)
   | (with_reducible exact LeO.refl _)
   | (with_reducible exact za _)
   | (with_reducible refine zc ?_ ?_)
   | (with_reducible refine zb ?_ (fun _=>?_))
theorem spec_l3Put.mono:∀ a0 a1 a2 k,LeO (spec_l3Put.f k a0 a1 a2) (spec_l3Put.f (k+1) a0 a1 a2):=by
 intro a0 a1 a2 k
 have ih0:=spec_l3Put.mono_l k
 unfold spec_l3Put.f
 repeat' first
   | (with_reducible exact ih0 _ _ _ _)
   | (with_reducible exact spec_l2Before.mono _ _ _ _ _)
   | (with_reducible exact LeO.refl _)
   | (with_reducible exact za _)
   | (with_reducible refine zc ?_ ?_)
   | (with_reducible refine zb ?_ (fun _=>?_))
def spec_l3Put.T2:Bool × List (List Nat × List Nat):=(true,[([],[]),([],[]),([1],[1]),([0,2],[0,2]),([3],[3]),([4],[4]),([4],[4]),([5,6,4],[4,5,6]),([7,4],[4,7]),([4],[4]),([8,9,4,4],[4,8,9]),([10,4],[4,10]),([4,11],[4,11])])
def spec_l3Put.B2:List Nat:=[0,0,2,7,15,31,31,127,255,31,1023,2047,4095]
theorem spec_l3Put.tab2:rtab .any (opsOf Try.f64 2) = spec_l3Put.T2:=by kernel_rfl
theorem spec_l3Put.bits2:waitsOk spec_l3Put.T2.2 spec_l3Put.B2 = true:=by kernel_rfl
def spec_l3Put.T4:Bool × List (List Nat × List Nat):=(true,[([],[]),([],[]),([1],[1]),([0,2],[0,2]),([3],[3]),([4],[4]),([4],[4]),([5,6,4],[4,5,6]),([7,4],[4,7]),([4],[4]),([8,9,4,4],[4,8,9]),([10,4],[4,10]),([4,11],[4,11])])
def spec_l3Put.B4:List Nat:=[0,0,2,7,15,31,31,127,255,31,1023,2047,4095]
theorem spec_l3Put.tab4:rtab .any (opsOf Try.f64 4) = spec_l3Put.T4:=by kernel_rfl
theorem spec_l3Put.bits4:waitsOk spec_l3Put.T4.2 spec_l3Put.B4 = true:=by kernel_rfl
set_option maxHeartbeats 8000000 in
set_option maxRecDepth 100000 in
theorem spec_l3Put.calls (k:Nat) (P0_:Nat→Prop) (A0:Option Addr) (c0:Nat) (l0:List (S33)) (P1_0_:Nat→Prop) (A1_0:Option Addr) (c1_0:Nat) (l1_0:List Int) (P1_1_:Nat→Prop) (A1_1:Option Addr) (c1_1:Nat) (l1_1:List Int) (r:List (S33)) (w:World) (hs0:Kd.V k33 33 w w.heap.size (fun k_=>P0_ k_) (.slice A0 l0.length c0) l0) (hs1_0:Kd.V (Kd.int .i64) 3 w w.heap.size (fun k_=>P1_0_ k_) (.slice A1_0 l1_0.length c1_0) l1_0) (hs1_1:Kd.V (Kd.int .i64) 3 w w.heap.size (fun k_=>P1_1_ k_) (.slice A1_1 l1_1.length c1_1) l1_1) (h:spec_l3Put.f k l0 l1_0 l1_1 = some r) :
  Calls Try.prog 64 #[.slice A0 l0.length c0,.agg #[.slice A1_0 l1_0.length c1_0,.slice A1_1 l1_1.length c1_1]] w fun e w' => ∃ v0_:Value,e = .returned (v0_)∧Kd.V k33 33 w' w.heap.size (fun k_=>((P0_ k_∨P1_0_ k_∨P1_1_ k_)∨w.heap.size≤k_)) v0_ r∧Below w.heap.size w w':=by
 have hu33:=Try.underlying33
 have HO0:=zA (show Kd.V k33 33 w w.heap.size (fun k_=>((P0_ k_∨P1_0_ k_∨P1_1_ k_)∨w.heap.size≤k_)) (.slice A0 l0.length c0) l0 from Kd.V_mono hs0 (fun k_ hk=>.inl (.inl hk)))
 have HO1_0:=zA (show Kd.V (Kd.int .i64) 3 w w.heap.size (fun k_=>((P0_ k_∨P1_0_ k_∨P1_1_ k_)∨w.heap.size≤k_)) (.slice A1_0 l1_0.length c1_0) l1_0 from Kd.V_mono hs1_0 (fun k_ hk=>.inl (.inr (.inl hk))))
 have HO1_1:=zA (show Kd.V (Kd.int .i64) 3 w w.heap.size (fun k_=>((P0_ k_∨P1_0_ k_∨P1_1_ k_)∨w.heap.size≤k_)) (.slice A1_1 l1_1.length c1_1) l1_1 from Kd.V_mono hs1_1 (fun k_ hk=>.inl (.inr (.inr hk))))
 have HB:=zA (Below.refl w.heap.size w)
 have H:(spec_l3Put.l0 k l0 0 l1_0 l1_1) = some r:=h
 clear h
 have H':=zA H
 clear H
 go_enter Try.func64,Try.ntmps64
 go_wp2_with (first|((with_reducible refine gate_dst (N:=3) rfl ?_);refine box_event ?hg (N:=3) ?hd (cs:=#[.slice A1_0 l1_0.length c1_0,.slice A1_1 l1_1.length c1_1]) (t:=33) ?hr ?_;(case hd=>rfl);(case hg=>rfl);(case hr=>first|(go_simp;done)|(go_simp;rfl));intro gb245 hg w3 hbox hb;have n0_:=zA (Kd.V_below (Kd.V_elderB (by apply zV_;exact HO0.out) gb245 (Nat.le_of_eq hg.symm)) hb);have n1_:=zA (Kd.V_below (Kd.V_elderB (by apply zV_;exact HO1_0.out) gb245 (Nat.le_of_eq hg.symm)) hb);have n2_:=zA (Kd.V_below (Kd.V_elderB (by apply zV_;exact HO1_1.out) gb245 (Nat.le_of_eq hg.symm)) hb);have n3_:=zA (zR (by exact zB_ HB.out) hb);have n4_:=zA (hbox);have n5_:=zA ((by rw [hg];exact (zQ (by exact zB_ HB.out)):w.heap.size≤gb245));have n6_:=zA ((by rw [hg];exact (zQ (by exact zB_ HB.out)):w.heap.size≤gb245));clear HO0;clear HO1_0;clear HO1_1;clear HB;have HO0:=n0_;have HO1_0:=n1_;have HO1_1:=n2_;have HB:=n3_;have BK245:=n4_;have GW245:=n5_;have GE245:=n6_;clear n0_ n1_ n2_ n3_ n4_ n5_ n6_;clear hb hbox hg))
 go_loopg [5] k (fun kq v5 w' => ∃ (x5_1:Int),v5 = .int .i64 x5_1∧Aside0 (spec_l3Put.l0 kq l0 x5_1 l1_0 l1_1 = some r)∧Aside0 (kq≤k)∧Aside0 (Kd.V k33 33 w' w.heap.size (fun k_=>((P0_ k_∨P1_0_ k_∨P1_1_ k_)∨w.heap.size≤k_)∧k_≠gb245) (.slice A0 l0.length c0) l0)∧Aside0 (Kd.V (Kd.int .i64) 3 w' w.heap.size (fun k_=>((P0_ k_∨P1_0_ k_∨P1_1_ k_)∨w.heap.size≤k_)∧k_≠gb245) (.slice A1_0 l1_0.length c1_0) l1_0)∧Aside0 (Kd.V (Kd.int .i64) 3 w' w.heap.size (fun k_=>((P0_ k_∨P1_0_ k_∨P1_1_ k_)∨w.heap.size≤k_)∧k_≠gb245) (.slice A1_1 l1_1.length c1_1) l1_1)∧Aside0 (w'.heap[gb245]? = some (.cells #[(.slice A1_0 l1_0.length c1_0),(.slice A1_1 l1_1.length c1_1)] 33 (0,0)))∧Aside0 (Below w.heap.size w w'))
 case atStart=>exact ⟨(0),(by first|rfl|(simp;done)|(simp [*];done)),H',⟨Nat.le_refl _⟩,⟨by apply zV_;exact HO0.out⟩,⟨by apply zV_;exact HO1_0.out⟩,⟨by apply zV_;exact HO1_1.out⟩,⟨by (with_reducible repeat (first|refine zG ?_ _|refine zI ?_|refine zH ?_ _));exact BK245.out⟩,⟨by repeat (first|(with_reducible first|exact HB.out|apply zD|apply zB|apply zC|refine zF ?_ GE245.out)|exact HB.out)⟩⟩
 case round =>
  clear H'
  (try clear c1);(try clear p2)
  obtain ⟨x5_1,rfl,HA,HK1,HO_0,HO_246000,HO_246001,BK245,HB⟩:=hrel
  cases gk with
  | zero=>exact absurd HA.out (by simp [spec_l3Put.l0])
  | succ k1 =>
   have H:=HA.out
   clear HA
   simp only [spec_l3Put.l0] at H
   by_cases c4:x5_1 < (l0.length:Int)
   ·rw [if_pos c4] at H
    have c4b0:decide (x5_1 < (l0.length:Int)) = true:=zO c4
    clear c4
    by_cases c5:0≤x5_1
    ·rw [if_pos c5] at H
     have c5b0:decide (0≤x5_1) = true:=zO c5
     clear c5
     replace H:=zz0 H
     obtain ⟨t247,A60,H⟩:=H
     try dsimp only at H
     have A6:=zA A60
     clear A60
     have H9_:=zA H
     clear H
     try go_wp2
     have n0_:=zA (Kd.V_drew HO_0.out)
     have n1_:=zA (Kd.V_drew HO_246000.out)
     have n2_:=zA (Kd.V_drew HO_246001.out)
     have n3_:=zA (zI BK245.out)
     have n4_:=zA (zC HB.out)
     clear HO_0 HO_246000 HO_246001 BK245 HB
     have HO_0:=n0_
     have HO_246000:=n1_
     have HO_246001:=n2_
     have BK245:=n3_
     have HB:=n4_
     clear n0_ n1_ n2_ n3_ n4_
     have p246:0≤(x5_1:Int):=zE (by with_reducible assumption)
     have q246:x5_1 < (l0.length:Int):=zE (by with_reducible assumption)
     obtain ⟨ad246,A246_0,c246_0,A246_1,c246_1,e246,hx246_0,hx246_1,hl246_0,hi246_0,hl246_1,hi246_1⟩:=at_T33 (Kd.V_reads' HO_0.out).2.2 x5_1 p246 q246
     cases e246
     obtain ⟨ce246,hce246,hMe246,hcc246⟩:=Kd.V_get HO_0.out z33 x5_1 p246 (by first|exact q246|exact zE (by with_reducible assumption)|(have e_:=(Kd.V_reads' HO_0.out).1;omega))
     obtain ⟨ua246_0,uc246_0,ua246_1,uc246_1,rfl,ul246_0,ge246_0,ul246_1,ge246_1⟩:=k33_openF hMe246
     have hv246_0:=hcc246 0 _ rfl
     rw [Nat.add_zero] at hv246_0
     replace hv246_0:=zS (hv246_0.symm.trans hx246_0)
     injection hv246_0 with hva_ hvn_ hvc_
     rw [hva_] at ge246_0
     rw [hvc_] at ul246_0
     have HL246_0:=zA (show Kd.V (Kd.int .i64) 3 _ w.heap.size _ _ ((rd_T33 l0 x5_1).f0) from Kd.V_mk ul246_0 ge246_0)
     clear hva_ hvn_ hvc_ ge246_0 ul246_0
     have hv246_1:=hcc246 1 _ rfl
     rw [add_field _ _ 1 (by omega)] at hv246_1
     replace hv246_1:=zS (hv246_1.symm.trans hx246_1)
     injection hv246_1 with hva_ hvn_ hvc_
     rw [hva_] at ge246_1
     rw [hvc_] at ul246_1
     have HL246_1:=zA (show Kd.V (Kd.int .i64) 3 _ w.heap.size _ _ ((rd_T33 l0 x5_1).f1) from Kd.V_mk ul246_1 ge246_1)
     clear hva_ hvn_ hvc_ ge246_1 ul246_1 hcc246 hce246
     have HR246_0:=zA hi246_0
     have HC246_0:=zA hl246_0
     clear hi246_0 hl246_0
     have HR246_1:=zA hi246_1
     have HC246_1:=zA hl246_1
     clear hi246_1 hl246_1
     replace p246:=eq_true p246
     replace q246:=eq_true q246
     refine start_ (n:=13) (S:=fun w'=>w'.cell? ⟨gb245,0,none⟩ = some (.slice A1_0 l1_0.length c1_0)∧w'.cell? ⟨gb245,1,none⟩ = some (.slice A1_1 l1_1.length c1_1)∧w'.cell? (ad246.add ((x5_1).toNat * 2)) = some (.slice A246_0 ((rd_T33 l0 x5_1).f0).length c246_0)∧w'.cell? ⟨(ad246.add ((x5_1).toNat * 2)).block,(ad246.add ((x5_1).toNat * 2)).off+1,none⟩ = some (.slice A246_1 ((rd_T33 l0 x5_1).f1).length c246_1)) (ds:=[]) #[zf,zf,zf,zf,zf,zf,zf,zf,zf,zf,zf,zf,zf] (by kernel_rfl) rfl rfl ⟨(zT BK245.out 0).trans rfl,(zT BK245.out 1).trans rfl,hx246_0,hx246_1⟩ (fun hHeld=>?_);refine with_tabW spec_l3Put.tab2 spec_l3Put.bits2 (fun HT_ HW_=>?_)
     generalize wr.drew = w8 at HO_0 HO_246000 HO_246001 BK245 HB HL246_0 HL246_1 HR246_0 HR246_1 hx246_0 hx246_1 hHeld ⊢
     refine pure_ (i:=0) (N:=some 7) (v:=?_) (a':=?_) #[zt,zf,zf,zf,zf,zf,zf,zf,zf,zf,zf,zf,zf] rfl rfl (any_of HT_.out (by kernel_rfl)) (fun _ _ _ h=>h) (Or.inl ⟨by rfl,?_⟩) ?_ ?_
     rotate_left
     ·intro w'
      go_simp
      with_reducible rfl
     rotate_left
     ·simp only [Act.put,zP_,i64_w]
      rfl
     refine pure_ (i:=1) (N:=some 8) (v:=?_) (a':=?_) #[zt,zt,zf,zf,zf,zf,zf,zf,zf,zf,zf,zf,zf] rfl rfl (any_of HT_.out (by kernel_rfl)) (fun _ _ _ h=>h) (Or.inl ⟨by rfl,?_⟩) ?_ ?_
     rotate_left
     ·intro w'
      go_simp
      with_reducible rfl
     rotate_left
     ·simp only [Act.put,zP_,i64_w]
      rfl
     refine pure_ (i:=2) (N:=some 9) (v:=?_) (a':=?_) #[zt,zt,zt,zf,zf,zf,zf,zf,zf,zf,zf,zf,zf] rfl rfl (any_of HT_.out (by kernel_rfl)) (fun _ _ _ h=>h) (Or.inl ⟨by rfl,?_⟩) ?_ ?_
     rotate_left
     ·intro w'
      go_simp
      with_reducible rfl
     rotate_left
     ·simp only [Act.put,zP_,i64_w]
      rfl
     refine pure_ (i:=3) (N:=some 10) (v:=?_) (a':=?_) #[zt,zt,zt,zt,zf,zf,zf,zf,zf,zf,zf,zf,zf] rfl rfl (any_of HT_.out (by kernel_rfl)) (fun _ _ _ h=>h) (Or.inl ⟨by rfl,?_⟩) ?_ ?_
     rotate_left
     ·intro w'
      go_simp
      with_reducible rfl
     rotate_left
     ·simp only [Act.put,zP_,i64_w]
      rfl
     refine pure_ (i:=4) (N:=some 11) (v:=?_) (a':=?_) #[zt,zt,zt,zt,zt,zf,zf,zf,zf,zf,zf,zf,zf] rfl rfl (any_of HT_.out (by kernel_rfl)) (fun _ _ _ h=>h) (Or.inl ⟨by rfl,?_⟩) ?_ ?_
     rotate_left
     ·intro w'
      go_simp
      with_reducible rfl
     rotate_left
     ·simp only [Act.put,zP_,i64_w]
      rfl
     refine pure_ (i:=5) (N:=some 12) (v:=?_) (a':=?_) #[zt,zt,zt,zt,zt,zt,zf,zf,zf,zf,zf,zf,zf] rfl rfl (any_of HT_.out (by kernel_rfl)) (fun _ _ _ h=>h) (Or.inl ⟨by rfl,?_⟩) ?_ ?_
     rotate_left
     ·intro w'
      go_simp
      with_reducible rfl
     rotate_left
     ·simp only [Act.put,zP_,i64_w]
      rfl
     refine pure_ (i:=6) (N:=some 13) (v:=?_) (a':=?_) #[zt,zt,zt,zt,zt,zt,zt,zf,zf,zf,zf,zf,zf] rfl rfl (any_of HT_.out (by kernel_rfl)) (fun _ _ _ h=>h) (Or.inl ⟨by rfl,?_⟩) ?_ ?_
     rotate_left
     ·intro w'
      go_simp
      with_reducible rfl
     rotate_left
     ·simp only [Act.put,zP_,i64_w]
      rfl
     refine pure_ (i:=7) (N:=some 14) (v:=?_) (a':=?_) #[zt,zt,zt,zt,zt,zt,zt,zt,zf,zf,zf,zf,zf] rfl rfl (any_of HT_.out (by kernel_rfl)) (fun _ _ _ h=>h) (Or.inl ⟨by rfl,?_⟩) ?_ ?_
     rotate_left
     ·intro w'
      go_simp
      with_reducible rfl
     rotate_left
     ·simp only [Act.put,zP_,i64_w]
      rfl
     refine take_ (i:=8) (N:=some 15) (v:=?_) (a':=?_) #[zt,zt,zt,zt,zt,zt,zt,zt,zt,zf,zf,zf,zf] rfl rfl (take_ofW HT_.out HW_.out (by kernel_rfl)) (fun _ _ _ h=>h) (Or.inl ⟨by rfl,?_⟩) hHeld ?_ ?_
     rotate_left
     ·rintro w' ⟨s0,s1,s2,s3⟩
      go_simp
      with_reducible rfl
     rotate_left
     ·simp only [Act.put,zP_,i64_w]
      rfl
     refine take_ (i:=9) (N:=some 16) (v:=?_) (a':=?_) #[zt,zt,zt,zt,zt,zt,zt,zt,zt,zt,zf,zf,zf] rfl rfl (take_ofW HT_.out HW_.out (by kernel_rfl)) (fun _ _ _ h=>h) (Or.inl ⟨by rfl,?_⟩) hHeld ?_ ?_
     rotate_left
     ·rintro w' ⟨s0,s1,s2,s3⟩
      go_simp
      with_reducible rfl
     rotate_left
     ·simp only [Act.put,zP_,i64_w]
      rfl
     refine one_ (i:=10) (N:=some 17) #[zt,zt,zt,zt,zt,zt,zt,zt,zt,zt,zt,zf,zf] rfl rfl (one_of HT_.out (by kernel_rfl)) (by decide) (fun K hK=>?_)
     refine goes_ Try.func83 (by kernel_rfl) rfl #[.agg #[.slice A246_0 ((rd_T33 l0 x5_1).f0).length c246_0,.slice A246_1 ((rd_T33 l0 x5_1).f1).length c246_1],.agg #[.slice A1_0 l1_0.length c1_0,.slice A1_1 l1_1.length c1_1]] (by rfl) rfl rfl (by (try simp only [zJ,zM,zN]);first|done|rfl|(simp only [zL,zK];rfl)) ?_
     with_reducible refine (spec_l2Before.calls k1 _ _ ((rd_T33 l0 x5_1).f0) _ _ ((rd_T33 l0 x5_1).f1) _ _ l1_0 _ _ l1_1 t247 _ ?side1 ?side2 ?side3 ?side4 ?side5 ?side6 ?side7 ?side8 A6.out).mono ?_
     (case side1=>repeat (first|exact (by repeat (first|(with_reducible exact HR246_0.out)|apply zC_|exact HR246_0.out))|apply zC_))
     (case side2=>exact HC246_0.out)
     (case side3=>repeat (first|exact (by repeat (first|(with_reducible exact HR246_1.out)|apply zC_|exact HR246_1.out))|apply zC_))
     (case side4=>exact HC246_1.out)
     (case side5=>repeat (first|exact (Kd.V_reads' HO_246000.out).2.2|apply zC_))
     (case side6=>exact (Kd.V_reads' HO_246000.out).2.1)
     (case side7=>repeat (first|exact (Kd.V_reads' HO_246001.out).2.2|apply zC_))
     (case side8=>exact (Kd.V_reads' HO_246001.out).2.1)
     rintro e w9 ⟨rfl,hb⟩
     have HS2_:=(hb.cell (zY _ _ (hHeld.2.2.1))).trans (hHeld.2.2.1)
     have HS3_:=(hb.cell (zY _ _ (hHeld.2.2.2))).trans (hHeld.2.2.2)
     refine ⟨_,rfl,?_⟩
     have n0_:=zA (Kd.V_below (by apply zV_;exact HO_0.out) hb)
     have n1_:=zA (Kd.V_below (by apply zV_;exact HO_246000.out) hb)
     have n2_:=zA (Kd.V_below (by apply zV_;exact HO_246001.out) hb)
     have n3_:=zA (Kd.V_below (by apply zV_;exact HL246_0.out) hb)
     have n4_:=zA (Kd.V_below (by apply zV_;exact HL246_1.out) hb)
     have n5_:=zA (zX (g:=gb245) (o:=.cells #[.slice A1_0 l1_0.length c1_0,.slice A1_1 l1_1.length c1_1] 33 (0,0)) (by (with_reducible repeat (first|refine zG ?_ _|refine zI ?_|refine zH ?_ _));exact BK245.out) hb)
     have n6_:=zA (zW (by repeat (first|(with_reducible exact HR246_0.out)|apply zC_|exact HR246_0.out)) hb)
     have n7_:=zA (zW (by repeat (first|(with_reducible exact HR246_1.out)|apply zC_|exact HR246_1.out)) hb)
     have n8_:=zA (zR (by repeat (first|(with_reducible first|exact HB.out|apply zD|apply zB|apply zC|refine zF ?_ GE245.out)|exact HB.out)) hb)
     clear HO_0 HO_246000 HO_246001 HL246_0 HL246_1 BK245 HR246_0 HR246_1 HB
     have HO_0:=n0_
     have HO_246000:=n1_
     have HO_246001:=n2_
     have HL246_0:=n3_
     have HL246_1:=n4_
     have BK245:=n5_
     have HR246_0:=n6_
     have HR246_1:=n7_
     have HB:=n8_
     clear n0_ n1_ n2_ n3_ n4_ n5_ n6_ n7_ n8_
     (try clear hb);(try clear hb2);(try clear hk);(try clear hi)
     refine hK.out _ _ ⟨(zT BK245.out 0).trans rfl,(zT BK245.out 1).trans rfl,HS2_,HS3_⟩ (fun hHeld=>?_)
     clear hK K
     refine norm_ (a':=?_) ?_ ?_
     rotate_left
     ·show Act.put _ (some 17) _ = _
      simp only [Act.put,zP_,i64_w]
      rfl
     refine pure_ (i:=11) (N:=some 18) (v:=?_) (a':=?_) #[zt,zt,zt,zt,zt,zt,zt,zt,zt,zt,zt,zt,zf] rfl rfl (any_of HT_.out (by kernel_rfl)) (fun _ _ _ h=>h) (Or.inl ⟨by rfl,?_⟩) ?_ ?_
     rotate_left
     ·intro w'
      go_simp
      with_reducible rfl
     rotate_left
     ·simp only [Act.put,zP_,i64_w]
      rfl
     refine pure_ (i:=12) (N:=some 19) (v:=?_) (a':=?_) #[zt,zt,zt,zt,zt,zt,zt,zt,zt,zt,zt,zt,zt] rfl rfl (any_of HT_.out (by kernel_rfl)) (fun _ _ _ h=>h) (Or.inl ⟨by rfl,?_⟩) ?_ ?_
     rotate_left
     ·intro w'
      go_simp
      with_reducible rfl
     rotate_left
     ·simp only [Act.put,zP_,i64_w]
      rfl
     refine done_ (done_of HT_.out (by kernel_rfl)) ?_
     have H:=H9_.out
     clear H9_
     by_cases c7:t247 < 0
     ·rw [if_pos c7] at H
      have c7b0:decide (t247 < 0) = true:=zO c7
      clear c7
      try rw [c7b0]
      have H':=zA H
      clear H
      try go_wp2
      go_roundg k1
      case measure=>have:=HK1.out;omega
      case rel=>exact ⟨(wrap64 (x5_1+1)),(by first|rfl|(simp;done)|(simp [*];done)),H',⟨by have:=HK1.out;omega⟩,⟨by apply zV_;exact HO_0.out⟩,⟨by apply zV_;exact HO_246000.out⟩,⟨by apply zV_;exact HO_246001.out⟩,⟨by (with_reducible repeat (first|refine zG ?_ _|refine zI ?_|refine zH ?_ _));exact BK245.out⟩,⟨by repeat (first|(with_reducible first|exact HB.out|apply zD|apply zB|apply zC|refine zF ?_ GE245.out)|exact HB.out)⟩⟩
     ·rw [if_neg c7] at H
      have c7b0:decide (t247 < 0) = false:=zP c7
      clear c7
      try rw [c7b0]
      replace H:=zz0 H
      obtain ⟨t249,A100,H⟩:=H
      try dsimp only at H
      have A10:=zA A100
      clear A100
      have H9_:=zA H
      clear H
      try go_wp2
      have n0_:=zA (Kd.V_drew HO_0.out)
      have n1_:=zA (Kd.V_drew HO_246000.out)
      have n2_:=zA (Kd.V_drew HO_246001.out)
      have n3_:=zA (Kd.V_drew HL246_0.out)
      have n4_:=zA (Kd.V_drew HL246_1.out)
      have n5_:=zA (zI BK245.out)
      have n6_:=zA (Kd.C_drew HR246_0.out)
      have n7_:=zA (Kd.C_drew HR246_1.out)
      have n8_:=zA (zC HB.out)
      clear HO_0 HO_246000 HO_246001 HL246_0 HL246_1 BK245 HR246_0 HR246_1 HB
      have HO_0:=n0_
      have HO_246000:=n1_
      have HO_246001:=n2_
      have HL246_0:=n3_
      have HL246_1:=n4_
      have BK245:=n5_
      have HR246_0:=n6_
      have HR246_1:=n7_
      have HB:=n8_
      clear n0_ n1_ n2_ n3_ n4_ n5_ n6_ n7_ n8_
      have p248:0≤(x5_1:Int):=zE (by with_reducible assumption)
      have q248:x5_1 < (l0.length:Int):=zE (by with_reducible assumption)
      obtain ⟨ad248,A248_0,c248_0,A248_1,c248_1,e248,hx248_0,hx248_1,hl248_0,hi248_0,hl248_1,hi248_1⟩:=at_T33 (Kd.V_reads' HO_0.out).2.2 x5_1 p248 q248
      obtain rfl:ad246 = ad248:=(by injection e248)
      obtain ⟨ce248,hce248,hMe248,hcc248⟩:=Kd.V_get HO_0.out z33 x5_1 p248 (by first|exact q248|exact zE (by with_reducible assumption)|(have e_:=(Kd.V_reads' HO_0.out).1;omega))
      obtain ⟨ua248_0,uc248_0,ua248_1,uc248_1,rfl,ul248_0,ge248_0,ul248_1,ge248_1⟩:=k33_openF hMe248
      have hv248_0:=hcc248 0 _ rfl
      rw [Nat.add_zero] at hv248_0
      replace hv248_0:=zS (hv248_0.symm.trans hx248_0)
      injection hv248_0 with hva_ hvn_ hvc_
      rw [hva_] at ge248_0
      rw [hvc_] at ul248_0
      have HL248_0:=zA (show Kd.V (Kd.int .i64) 3 _ w.heap.size _ _ ((rd_T33 l0 x5_1).f0) from Kd.V_mk ul248_0 ge248_0)
      clear hva_ hvn_ hvc_ ge248_0 ul248_0
      have hv248_1:=hcc248 1 _ rfl
      rw [add_field _ _ 1 (by omega)] at hv248_1
      replace hv248_1:=zS (hv248_1.symm.trans hx248_1)
      injection hv248_1 with hva_ hvn_ hvc_
      rw [hva_] at ge248_1
      rw [hvc_] at ul248_1
      have HL248_1:=zA (show Kd.V (Kd.int .i64) 3 _ w.heap.size _ _ ((rd_T33 l0 x5_1).f1) from Kd.V_mk ul248_1 ge248_1)
      clear hva_ hvn_ hvc_ ge248_1 ul248_1 hcc248 hce248
      have HR248_0:=zA hi248_0
      have HC248_0:=zA hl248_0
      clear hi248_0 hl248_0
      have HR248_1:=zA hi248_1
      have HC248_1:=zA hl248_1
      clear hi248_1 hl248_1
      replace p248:=eq_true p248
      replace q248:=eq_true q248
      refine start_ (n:=13) (S:=fun w'=>w'.cell? ⟨gb245,0,none⟩ = some (.slice A1_0 l1_0.length c1_0)∧w'.cell? ⟨gb245,1,none⟩ = some (.slice A1_1 l1_1.length c1_1)∧w'.cell? (ad246.add ((x5_1).toNat * 2)) = some (.slice A248_0 ((rd_T33 l0 x5_1).f0).length c248_0)∧w'.cell? ⟨(ad246.add ((x5_1).toNat * 2)).block,(ad246.add ((x5_1).toNat * 2)).off+1,none⟩ = some (.slice A248_1 ((rd_T33 l0 x5_1).f1).length c248_1)) (ds:=[]) #[zf,zf,zf,zf,zf,zf,zf,zf,zf,zf,zf,zf,zf] (by kernel_rfl) rfl rfl ⟨(zT BK245.out 0).trans rfl,(zT BK245.out 1).trans rfl,hx248_0,hx248_1⟩ (fun hHeld=>?_);refine with_tabW spec_l3Put.tab4 spec_l3Put.bits4 (fun HT_ HW_=>?_)
      generalize w9.drew = w14 at HO_0 HO_246000 HO_246001 HL246_0 HL246_1 BK245 HR246_0 HR246_1 HB HL248_0 HL248_1 HR248_0 HR248_1 hx248_0 hx248_1 hHeld ⊢
      refine pure_ (i:=0) (N:=some 22) (v:=?_) (a':=?_) #[zt,zf,zf,zf,zf,zf,zf,zf,zf,zf,zf,zf,zf] rfl rfl (any_of HT_.out (by kernel_rfl)) (fun _ _ _ h=>h) (Or.inl ⟨by rfl,?_⟩) ?_ ?_
      rotate_left
      ·intro w'
       go_simp
       with_reducible rfl
      rotate_left
      ·simp only [Act.put,zP_,i64_w]
       rfl
      refine pure_ (i:=1) (N:=some 23) (v:=?_) (a':=?_) #[zt,zt,zf,zf,zf,zf,zf,zf,zf,zf,zf,zf,zf] rfl rfl (any_of HT_.out (by kernel_rfl)) (fun _ _ _ h=>h) (Or.inl ⟨by rfl,?_⟩) ?_ ?_
      rotate_left
      ·intro w'
       go_simp
       with_reducible rfl
      rotate_left
      ·simp only [Act.put,zP_,i64_w]
       rfl
      refine pure_ (i:=2) (N:=some 24) (v:=?_) (a':=?_) #[zt,zt,zt,zf,zf,zf,zf,zf,zf,zf,zf,zf,zf] rfl rfl (any_of HT_.out (by kernel_rfl)) (fun _ _ _ h=>h) (Or.inl ⟨by rfl,?_⟩) ?_ ?_
      rotate_left
      ·intro w'
       go_simp
       with_reducible rfl
      rotate_left
      ·simp only [Act.put,zP_,i64_w]
       rfl
      refine pure_ (i:=3) (N:=some 25) (v:=?_) (a':=?_) #[zt,zt,zt,zt,zf,zf,zf,zf,zf,zf,zf,zf,zf] rfl rfl (any_of HT_.out (by kernel_rfl)) (fun _ _ _ h=>h) (Or.inl ⟨by rfl,?_⟩) ?_ ?_
      rotate_left
      ·intro w'
       go_simp
       with_reducible rfl
      rotate_left
      ·simp only [Act.put,zP_,i64_w]
       rfl
      refine pure_ (i:=4) (N:=some 26) (v:=?_) (a':=?_) #[zt,zt,zt,zt,zt,zf,zf,zf,zf,zf,zf,zf,zf] rfl rfl (any_of HT_.out (by kernel_rfl)) (fun _ _ _ h=>h) (Or.inl ⟨by rfl,?_⟩) ?_ ?_
      rotate_left
      ·intro w'
       go_simp
       with_reducible rfl
      rotate_left
      ·simp only [Act.put,zP_,i64_w]
       rfl
      refine pure_ (i:=5) (N:=some 27) (v:=?_) (a':=?_) #[zt,zt,zt,zt,zt,zt,zf,zf,zf,zf,zf,zf,zf] rfl rfl (any_of HT_.out (by kernel_rfl)) (fun _ _ _ h=>h) (Or.inl ⟨by rfl,?_⟩) ?_ ?_
      rotate_left
      ·intro w'
       go_simp
       with_reducible rfl
      rotate_left
      ·simp only [Act.put,zP_,i64_w]
       rfl
      refine pure_ (i:=6) (N:=some 28) (v:=?_) (a':=?_) #[zt,zt,zt,zt,zt,zt,zt,zf,zf,zf,zf,zf,zf] rfl rfl (any_of HT_.out (by kernel_rfl)) (fun _ _ _ h=>h) (Or.inl ⟨by rfl,?_⟩) ?_ ?_
      rotate_left
      ·intro w'
       go_simp
       with_reducible rfl
      rotate_left
      ·simp only [Act.put,zP_,i64_w]
       rfl
      refine pure_ (i:=7) (N:=some 29) (v:=?_) (a':=?_) #[zt,zt,zt,zt,zt,zt,zt,zt,zf,zf,zf,zf,zf] rfl rfl (any_of HT_.out (by kernel_rfl)) (fun _ _ _ h=>h) (Or.inl ⟨by rfl,?_⟩) ?_ ?_
      rotate_left
      ·intro w'
       go_simp
       with_reducible rfl
      rotate_left
      ·simp only [Act.put,zP_,i64_w]
       rfl
      refine take_ (i:=8) (N:=some 30) (v:=?_) (a':=?_) #[zt,zt,zt,zt,zt,zt,zt,zt,zt,zf,zf,zf,zf] rfl rfl (take_ofW HT_.out HW_.out (by kernel_rfl)) (fun _ _ _ h=>h) (Or.inl ⟨by rfl,?_⟩) hHeld ?_ ?_
      rotate_left
      ·rintro w' ⟨s0,s1,s2,s3⟩
       go_simp
       with_reducible rfl
      rotate_left
      ·simp only [Act.put,zP_,i64_w]
       rfl
      refine take_ (i:=9) (N:=some 31) (v:=?_) (a':=?_) #[zt,zt,zt,zt,zt,zt,zt,zt,zt,zt,zf,zf,zf] rfl rfl (take_ofW HT_.out HW_.out (by kernel_rfl)) (fun _ _ _ h=>h) (Or.inl ⟨by rfl,?_⟩) hHeld ?_ ?_
      rotate_left
      ·rintro w' ⟨s0,s1,s2,s3⟩
       go_simp
       with_reducible rfl
      rotate_left
      ·simp only [Act.put,zP_,i64_w]
       rfl
      refine one_ (i:=10) (N:=some 32) #[zt,zt,zt,zt,zt,zt,zt,zt,zt,zt,zt,zf,zf] rfl rfl (one_of HT_.out (by kernel_rfl)) (by decide) (fun K hK=>?_)
      refine goes_ Try.func83 (by kernel_rfl) rfl #[.agg #[.slice A248_0 ((rd_T33 l0 x5_1).f0).length c248_0,.slice A248_1 ((rd_T33 l0 x5_1).f1).length c248_1],.agg #[.slice A1_0 l1_0.length c1_0,.slice A1_1 l1_1.length c1_1]] (by rfl) rfl rfl (by (try simp only [zJ,zM,zN]);first|done|rfl|(simp only [zL,zK];rfl)) ?_
      with_reducible refine (spec_l2Before.calls k1 _ _ ((rd_T33 l0 x5_1).f0) _ _ ((rd_T33 l0 x5_1).f1) _ _ l1_0 _ _ l1_1 t249 _ ?side1 ?side2 ?side3 ?side4 ?side5 ?side6 ?side7 ?side8 A10.out).mono ?_
      (case side1=>repeat (first|exact (by repeat (first|(with_reducible exact HR248_0.out)|apply zC_|exact HR248_0.out))|apply zC_))
      (case side2=>exact HC248_0.out)
      (case side3=>repeat (first|exact (by repeat (first|(with_reducible exact HR248_1.out)|apply zC_|exact HR248_1.out))|apply zC_))
      (case side4=>exact HC248_1.out)
      (case side5=>repeat (first|exact (Kd.V_reads' HO_246000.out).2.2|apply zC_))
      (case side6=>exact (Kd.V_reads' HO_246000.out).2.1)
      (case side7=>repeat (first|exact (Kd.V_reads' HO_246001.out).2.2|apply zC_))
      (case side8=>exact (Kd.V_reads' HO_246001.out).2.1)
      rintro e w15 ⟨rfl,hb⟩
      have HS2_:=(hb.cell (zY _ _ (hHeld.2.2.1))).trans (hHeld.2.2.1)
      have HS3_:=(hb.cell (zY _ _ (hHeld.2.2.2))).trans (hHeld.2.2.2)
      refine ⟨_,rfl,?_⟩
      have n0_:=zA (Kd.V_below (by apply zV_;exact HO_0.out) hb)
      have n1_:=zA (Kd.V_below (by apply zV_;exact HO_246000.out) hb)
      have n2_:=zA (Kd.V_below (by apply zV_;exact HO_246001.out) hb)
      have n3_:=zA (Kd.V_below (by apply zV_;exact HL246_0.out) hb)
      have n4_:=zA (Kd.V_below (by apply zV_;exact HL246_1.out) hb)
      have n5_:=zA (Kd.V_below (by apply zV_;exact HL248_0.out) hb)
      have n6_:=zA (Kd.V_below (by apply zV_;exact HL248_1.out) hb)
      have n7_:=zA (zX (g:=gb245) (o:=.cells #[.slice A1_0 l1_0.length c1_0,.slice A1_1 l1_1.length c1_1] 33 (0,0)) (by (with_reducible repeat (first|refine zG ?_ _|refine zI ?_|refine zH ?_ _));exact BK245.out) hb)
      have n8_:=zA (zW (by repeat (first|(with_reducible exact HR246_0.out)|apply zC_|exact HR246_0.out)) hb)
      have n9_:=zA (zW (by repeat (first|(with_reducible exact HR246_1.out)|apply zC_|exact HR246_1.out)) hb)
      have n10_:=zA (zW (by repeat (first|(with_reducible exact HR248_0.out)|apply zC_|exact HR248_0.out)) hb)
      have n11_:=zA (zW (by repeat (first|(with_reducible exact HR248_1.out)|apply zC_|exact HR248_1.out)) hb)
      have n12_:=zA (zR (by repeat (first|(with_reducible first|exact HB.out|apply zD|apply zB|apply zC|refine zF ?_ GE245.out)|exact HB.out)) hb)
      clear HO_0 HO_246000 HO_246001 HL246_0 HL246_1 HL248_0 HL248_1 BK245 HR246_0 HR246_1 HR248_0 HR248_1 HB
      have HO_0:=n0_
      have HO_246000:=n1_
      have HO_246001:=n2_
      have HL246_0:=n3_
      have HL246_1:=n4_
      have HL248_0:=n5_
      have HL248_1:=n6_
      have BK245:=n7_
      have HR246_0:=n8_
      have HR246_1:=n9_
      have HR248_0:=n10_
      have HR248_1:=n11_
      have HB:=n12_
      clear n0_ n1_ n2_ n3_ n4_ n5_ n6_ n7_ n8_ n9_ n10_ n11_ n12_
      (try clear hb);(try clear hb2);(try clear hk);(try clear hi)
      refine hK.out _ _ ⟨(zT BK245.out 0).trans rfl,(zT BK245.out 1).trans rfl,HS2_,HS3_⟩ (fun hHeld=>?_)
      clear hK K
      refine norm_ (a':=?_) ?_ ?_
      rotate_left
      ·show Act.put _ (some 32) _ = _
       simp only [Act.put,zP_,i64_w]
       rfl
      refine pure_ (i:=11) (N:=some 33) (v:=?_) (a':=?_) #[zt,zt,zt,zt,zt,zt,zt,zt,zt,zt,zt,zt,zf] rfl rfl (any_of HT_.out (by kernel_rfl)) (fun _ _ _ h=>h) (Or.inl ⟨by rfl,?_⟩) ?_ ?_
      rotate_left
      ·intro w'
       go_simp
       with_reducible rfl
      rotate_left
      ·simp only [Act.put,zP_,i64_w]
       rfl
      refine pure_ (i:=12) (N:=some 34) (v:=?_) (a':=?_) #[zt,zt,zt,zt,zt,zt,zt,zt,zt,zt,zt,zt,zt] rfl rfl (any_of HT_.out (by kernel_rfl)) (fun _ _ _ h=>h) (Or.inl ⟨by rfl,?_⟩) ?_ ?_
      rotate_left
      ·intro w'
       go_simp
       with_reducible rfl
      rotate_left
      ·simp only [Act.put,zP_,i64_w]
       rfl
      refine done_ (done_of HT_.out (by kernel_rfl)) ?_
      have H:=H9_.out
      clear H9_
      by_cases c11:t249 = 0
      ·rw [if_pos c11] at H
       have c11b0:(t249 == 0) = true:=beq_iff_eq.mpr c11
       have c11b1:(t249 != 0) = false:=bne_eq_false_iff_eq.mpr c11
       clear c11
       try rw [c11b0]
       obtain rfl:=zS H
       try go_wp2
       go_ret
       exact ⟨_,by first|rfl|(simp [errW_none,errW_some] <;> rfl)|(simp [*,errW_none,errW_some] <;> rfl),by apply zV_;exact Kd.V_mono HO_0.out (fun _ hk=>hk.1),by repeat (first|(with_reducible first|exact HB.out|apply zD|apply zB|apply zC|refine zF ?_ GE245.out)|exact HB.out)⟩
      ·rw [if_neg c11] at H
       have c11b0:(t249 == 0) = false:=beq_eq_false_iff_ne.mpr c11
       have c11b1:(t249 != 0) = true:=bne_iff_ne.mpr c11
       obtain ⟨y250,hy250⟩:∃ y_:List (S33),y_ = (([]:List (S33))):=⟨_,rfl⟩
       replace H:(if x5_1≤(l0.length:Int) then ((some (l0.take (x5_1:Int).toNat:List (S33))).bind fun y253=>(if y250.length+y253.length < 2932031007402 then ((some (y250 ++ y253:List (S33))).bind fun y258=>(if y258.length < 2932031007402 then ((some (y258 ++ [(⟨l1_0,l1_1⟩:S33)]:List (S33))).bind fun y261=>((some (l0.drop (x5_1:Int).toNat:List (S33))).bind fun y264=>(if y261.length+y264.length < 2932031007402 then (some (y261 ++ y264)) else (none)))) else (none))) else (none))) else (none)) = some r:=by (try rw [hy250]);first|with_reducible exact H|with_reducible exact zS_ H|exact H
       have Ny250:=zA hy250
       clear hy250
       have c16b0:=eq_true (zE (by with_reducible assumption):0≤x5_1)
       by_cases c17:x5_1≤(l0.length:Int)
       ·rw [if_pos c17] at H
        have c17b0:=eq_true c17
        have c17b1:decide (x5_1≤(l0.length:Int)) = true:=zO c17
        clear c17
        obtain ⟨y253,hy253⟩:∃ y_:List (S33),y_ = (l0.take (x5_1:Int).toNat):=⟨_,rfl⟩
        replace H:(if y250.length+y253.length < 2932031007402 then ((some (y250 ++ y253:List (S33))).bind fun y258=>(if y258.length < 2932031007402 then ((some (y258 ++ [(⟨l1_0,l1_1⟩:S33)]:List (S33))).bind fun y261=>((some (l0.drop (x5_1:Int).toNat:List (S33))).bind fun y264=>(if y261.length+y264.length < 2932031007402 then (some (y261 ++ y264)) else (none)))) else (none))) else (none)) = some r:=by (try rw [hy253]);first|with_reducible exact H|with_reducible exact zS_ H|exact H
        have Ny253:=zA hy253
        clear hy253
        by_cases c18:y250.length+y253.length < 2932031007402
        ·rw [if_pos c18] at H
         have LMc18:=zA c18
         clear c18
         obtain ⟨y258,hy258⟩:∃ y_:List (S33),y_ = (y250 ++ y253):=⟨_,rfl⟩
         replace H:(if y258.length < 2932031007402 then ((some (y258 ++ [(⟨l1_0,l1_1⟩:S33)]:List (S33))).bind fun y261=>((some (l0.drop (x5_1:Int).toNat:List (S33))).bind fun y264=>(if y261.length+y264.length < 2932031007402 then (some (y261 ++ y264)) else (none)))) else (none)) = some r:=by (try rw [hy258]);first|with_reducible exact H|with_reducible exact zS_ H|exact H
         have Ny258:=zA hy258
         clear hy258
         by_cases c19:y258.length < 2932031007402
         ·rw [if_pos c19] at H
          have LMc19:=zA c19
          clear c19
          obtain ⟨y261,hy261⟩:∃ y_:List (S33),y_ = (y258 ++ [(⟨l1_0,l1_1⟩:S33)]):=⟨_,rfl⟩
          replace H:((some (l0.drop (x5_1:Int).toNat:List (S33))).bind fun y264=>(if y261.length+y264.length < 2932031007402 then (some (y261 ++ y264)) else (none))) = some r:=by (try rw [hy261]);first|with_reducible exact H|with_reducible exact zS_ H|exact H
          have Ny261:=zA hy261
          clear hy261
          have c20b0:=eq_true (zE (by with_reducible assumption):0≤x5_1)
          have c21b0:=eq_true (zE (by with_reducible assumption):x5_1≤(l0.length:Int))
          obtain ⟨y264,hy264⟩:∃ y_:List (S33),y_ = (l0.drop (x5_1:Int).toNat):=⟨_,rfl⟩
          replace H:(if y261.length+y264.length < 2932031007402 then (some (y261 ++ y264)) else (none)) = some r:=by (try rw [hy264]);first|with_reducible exact H|with_reducible exact zS_ H|exact H
          have Ny264:=zA hy264
          clear hy264
          by_cases c22:y261.length+y264.length < 2932031007402
          ·rw [if_pos c22] at H
           have LMc22:=zA c22
           clear c22
           obtain ⟨y269,hy269⟩:∃ y_:List (S33),y_ = (y261 ++ y264):=⟨_,rfl⟩
           replace H:(some y269) = some r:=by (try rw [hy269]);first|with_reducible exact H|with_reducible exact zS_ H|exact H
           have Ny269:=zA hy269
           clear hy269
           obtain rfl:=zS H
           try go_wp2_with (first|((with_reducible refine gate_dst (N:=36) rfl ?_);refine Kd.N_lit k33 _ 33 ?hg (N':=36) ?hd (xs:=([]:List (S33))) (inner:=[]) (ok:=(fun k_=>((P0_ k_∨P1_0_ k_∨P1_1_ k_)∨w.heap.size≤k_)∧k_≠gb245)) (okp:=(fun k_=>((P0_ k_∨P1_0_ k_∨P1_1_ k_)∨w.heap.size≤k_)∧k_≠gb245)) ?hr ?hp (fun _ hk=>hk) ((show ∀ k_,w15.heap.size≤k_→(fun k_=>((P0_ k_∨P1_0_ k_∨P1_1_ k_)∨w.heap.size≤k_)∧k_≠gb245) k_ from fun k_ hk=>⟨(.inr (Nat.le_trans (zQ (by repeat (first|(with_reducible first|exact HB.out|apply zD|apply zB|apply zC|refine zF ?_ GE245.out)|exact HB.out))) hk)),Kd.freshB (g:=gb245) (o:=.cells #[.slice A1_0 l1_0.length c1_0,.slice A1_1 l1_1.length c1_1] 33 (0,0)) (by (with_reducible repeat (first|refine zG ?_ _|refine zI ?_|refine zH ?_ _));exact BK245.out) k_ hk⟩) _ (Nat.le_refl _)) (Below.refl _ _) (Nat.le_refl _) (by simp) ?_;(case hd=>rfl);(case hg=>rfl);(case hr=>first|(go_simp;done)|(go_simp;rfl));(case hp=>exact (Reps.none _ _));intro v251 w27 ho28 hb hg_ hnew_;clear hg_ hnew_;(first|rw [← Ny250.out] at ho28|(simp only [Int.reduceToNat] at ho28;rw [← Ny250.out] at ho28));have n0_:=zA (Kd.V_elder' (by apply zV_;exact HO_0.out) (Kd.N_base ho28) hb);have n1_:=zA (Kd.V_elder' (by apply zV_;exact HO_246000.out) (Kd.N_base ho28) hb);have n2_:=zA (Kd.V_elder' (by apply zV_;exact HO_246001.out) (Kd.N_base ho28) hb);have n3_:=zA (Kd.V_elder' (by apply zV_;exact HL246_0.out) (Kd.N_base ho28) hb);have n4_:=zA (Kd.V_elder' (by apply zV_;exact HL246_1.out) (Kd.N_base ho28) hb);have n5_:=zA (Kd.V_elder' (by apply zV_;exact HL248_0.out) (Kd.N_base ho28) hb);have n6_:=zA (Kd.V_elder' (by apply zV_;exact HL248_1.out) (Kd.N_base ho28) hb);have n7_:=zA (Kd.N_lower ho28 (zQ (by repeat (first|(with_reducible first|exact HB.out|apply zD|apply zB|apply zC|refine zF ?_ GE245.out)|exact HB.out))));have n8_:=zA (zX (g:=gb245) (o:=.cells #[.slice A1_0 l1_0.length c1_0,.slice A1_1 l1_1.length c1_1] 33 (0,0)) (by (with_reducible repeat (first|refine zG ?_ _|refine zI ?_|refine zH ?_ _));exact BK245.out) hb);have n9_:=zA (zW (by repeat (first|(with_reducible exact HR246_0.out)|apply zC_|exact HR246_0.out)) hb);have n10_:=zA (zW (by repeat (first|(with_reducible exact HR246_1.out)|apply zC_|exact HR246_1.out)) hb);have n11_:=zA (zW (by repeat (first|(with_reducible exact HR248_0.out)|apply zC_|exact HR248_0.out)) hb);have n12_:=zA (zW (by repeat (first|(with_reducible exact HR248_1.out)|apply zC_|exact HR248_1.out)) hb);have n13_:=zA (zR (by repeat (first|(with_reducible first|exact HB.out|apply zD|apply zB|apply zC|refine zF ?_ GE245.out)|exact HB.out)) hb);clear HO_0;clear HO_246000;clear HO_246001;clear HL246_0;clear HL246_1;clear HL248_0;clear HL248_1;clear BK245;clear HR246_0;clear HR246_1;clear HR248_0;clear HR248_1;clear HB;have HO_0:=n0_;have HO_246000:=n1_;have HO_246001:=n2_;have HL246_0:=n3_;have HL246_1:=n4_;have HL248_0:=n5_;have HL248_1:=n6_;have HO252:=n7_;have BK245:=n8_;have HR246_0:=n9_;have HR246_1:=n10_;have HR248_0:=n11_;have HR248_1:=n12_;have HB:=n13_;clear n0_ n1_ n2_ n3_ n4_ n5_ n6_ n7_ n8_ n9_ n10_ n11_ n12_ n13_;clear hb ho28;have q29:(x5_1:Int)≤((l0.length:Int):Int):=zE (by with_reducible assumption);obtain ⟨i029,hi029,_,hsz29,_⟩:=info_parts info33;have hroom29:l0.length≤c0:=(Kd.V_reads' HO_0.out).2.1;have hC29:Kd.F k33 _ _ (some ad246) l0.length l0:=(Kd.V_at (base:=w.heap.size) HO_0.out).2.2;have hcut29:=cut_to (P:=Try.prog) 27 33 .i64 Try.underlying27 hi029 (some ad246) l0.length c0 x5_1 (zE (by with_reducible assumption)) q29 hroom29;have hr29:=Kd.F_take (m:=(x5_1:Int).toNat) hC29 (by omega);have hy29:y253.length = (x5_1:Int).toNat:=(by rw [Ny253.out,zK];omega);rw [← Ny253.out] at hr29;rw [← hy29] at hcut29;have HO257:=zA (show Kd.V k33 33 _ w.heap.size _ (.slice (some ad246) y253.length c0) y253 from Kd.V_mk (by omega) hr29);have HC257:=zA (show y253.length≤c0 from by omega);clear hr29 hC29 hroom29 hi029 hsz29;have KY29:=zA hy29;clear hy29;replace q29:=eq_true q29)|((with_reducible refine gate_builtin (b:=.append) (xs:=#[.tmp 36,.tmp 39]) rfl ?_);at_builtin;refine Kd.N_append_rows k33 (w0:=w) w.heap.size rfl (.tmp 36) (.tmp 39) 27 33 (.agg #[(.slice none 0 0),(.slice none 0 0)]) 48 rfl Try.underlying27 info33 rfl (by decide) (by omega) v251 y250 y253 _ _ _ (fun k_=>((P0_ k_∨P1_0_ k_∨P1_1_ k_)∨w.heap.size≤k_)∧k_≠gb245) (fun k_=>((fun k_=>((P0_ k_∨P1_0_ k_∨P1_1_ k_)∨w.heap.size≤k_)∧k_≠gb245)) k_∧some k_≠(v251:Value).ownBlock) rfl rfl ?aO ?aR (fun _ hk=>hk) ?aF ?aB ?aS ?aL ?_;(case aR=>exact (by skip;exact Kd.V_F (Kd.V_mono (ok':=(fun k_=>((fun k_=>((P0_ k_∨P1_0_ k_∨P1_1_ k_)∨w.heap.size≤k_)∧k_≠gb245)) k_∧some k_≠(v251:Value).ownBlock)) (HO257.out) (fun k_ hk=>⟨⟨hk.1.1,hk.1.2⟩,hk.2⟩))));(case aB=>exact (by repeat (first|(with_reducible first|exact HB.out|apply zD|apply zB|apply zC|refine zF ?_ GE245.out)|exact HB.out)));(case aF=>exact (fun k_ hk=>⟨(.inr (Nat.le_trans (zQ (by repeat (first|(with_reducible first|exact HB.out|apply zD|apply zB|apply zC|refine zF ?_ GE245.out)|exact HB.out))) hk)),Kd.freshB (g:=gb245) (o:=.cells #[.slice A1_0 l1_0.length c1_0,.slice A1_1 l1_1.length c1_1] 33 (0,0)) (by (with_reducible repeat (first|refine zG ?_ _|refine zI ?_|refine zH ?_ _));exact BK245.out) k_ hk⟩));(case aO=>exact (by apply zN_;exact HO252.out));(case aS=>exact (zQ (by repeat (first|(with_reducible first|exact HB.out|apply zD|apply zB|apply zC|refine zF ?_ GE245.out)|exact HB.out))));(case aL=>have:=LMc18.out;omega);intro v259 w30 ho hb hg hat;rw [← Ny258.out] at ho;have n0_:=zA (Kd.V_afterv (ok:=(fun k_=>((P0_ k_∨P1_0_ k_∨P1_1_ k_)∨w.heap.size≤k_)∧k_≠gb245)) (by apply zV_;exact HO_0.out) hg hat);have n1_:=zA (Kd.V_afterv (ok:=(fun k_=>((P0_ k_∨P1_0_ k_∨P1_1_ k_)∨w.heap.size≤k_)∧k_≠gb245)) (by apply zV_;exact HO_246000.out) hg hat);have n2_:=zA (Kd.V_afterv (ok:=(fun k_=>((P0_ k_∨P1_0_ k_∨P1_1_ k_)∨w.heap.size≤k_)∧k_≠gb245)) (by apply zV_;exact HO_246001.out) hg hat);have n3_:=zA (blk_grown (g:=gb245) (o:=.cells #[.slice A1_0 l1_0.length c1_0,.slice A1_1 l1_1.length c1_1] 33 (0,0)) (by (with_reducible repeat (first|refine zG ?_ _|refine zI ?_|refine zH ?_ _));exact BK245.out) hg (Kd.N_away HO252.out (fun _ hk=>hk.2)));have n4_:=zA (Kd.V_afterv (ok:=(fun k_=>((P0_ k_∨P1_0_ k_∨P1_1_ k_)∨w.heap.size≤k_)∧k_≠gb245)) (by apply zV_;exact HL246_0.out) hg hat);have n5_:=zA (Kd.V_afterv (ok:=(fun k_=>((P0_ k_∨P1_0_ k_∨P1_1_ k_)∨w.heap.size≤k_)∧k_≠gb245)) (by apply zV_;exact HL246_1.out) hg hat);have n6_:=zA (Kd.V_afterv (ok:=(fun k_=>((P0_ k_∨P1_0_ k_∨P1_1_ k_)∨w.heap.size≤k_)∧k_≠gb245)) (by apply zV_;exact HL248_0.out) hg hat);have n7_:=zA (Kd.V_afterv (ok:=(fun k_=>((P0_ k_∨P1_0_ k_∨P1_1_ k_)∨w.heap.size≤k_)∧k_≠gb245)) (by apply zV_;exact HL248_1.out) hg hat);have n8_:=zA (Kd.V_afterv (ok:=(fun k_=>((P0_ k_∨P1_0_ k_∨P1_1_ k_)∨w.heap.size≤k_)∧k_≠gb245)) (by apply zV_;exact HO257.out) hg hat);have n9_:=zA (hb);have n10_:=zA (ho);clear HO_0;clear HO_246000;clear HO_246001;clear BK245;clear HL246_0;clear HL246_1;clear HL248_0;clear HL248_1;clear HO257;clear HB;clear HO252;have HO_0:=n0_;have HO_246000:=n1_;have HO_246001:=n2_;have BK245:=n3_;have HL246_0:=n4_;have HL246_1:=n5_;have HL248_0:=n6_;have HL248_1:=n7_;have HO257:=n8_;have HB:=n9_;have HO260:=n10_;clear n0_ n1_ n2_ n3_ n4_ n5_ n6_ n7_ n8_ n9_ n10_;clear ho hb hg hat;have hcz31_0:w30.cell? ⟨gb245,0,none⟩ = some (.slice A1_0 l1_0.length c1_0):=(zT BK245.out 0).trans rfl;have hcz31_1:w30.cell? ⟨gb245,1,none⟩ = some (.slice A1_1 l1_1.length c1_1):=(zT BK245.out 1).trans rfl;have hfz31_0:=zZ BK245.out 0;have hfz31_1:=zZ BK245.out 1)|((with_reducible refine gate_builtin (b:=.append) (xs:=#[.tmp 41,.tmp 43]) rfl ?_);at_builtin;refine Kd.N_append k33 (w0:=w) w.heap.size rfl (.tmp 41) (.tmp 43) 27 33 (.agg #[(.slice none 0 0),(.slice none 0 0)]) 48 rfl Try.underlying27 info33 rfl (by decide) (by omega) v259 y258 (⟨l1_0,l1_1⟩:S33) [.slice A1_0 l1_0.length c1_0,.slice A1_1 l1_1.length c1_1] (fun k_=>((P0_ k_∨P1_0_ k_∨P1_1_ k_)∨w.heap.size≤k_)∧k_≠gb245) (fun k_=>((fun k_=>((P0_ k_∨P1_0_ k_∨P1_1_ k_)∨w.heap.size≤k_)∧k_≠gb245)) k_∧some k_≠(v259:Value).ownBlock) rfl rfl ?aP (fun _ hk=>hk) ?aF ?aO ?aB ?aS ?aL ?_;(case aP=>exact (k33_mkF _ _ (⟨l1_0,l1_1⟩:S33) (Kd.V_reads' (Kd.V_mono (ok':=(fun k_=>((fun k_=>((P0_ k_∨P1_0_ k_∨P1_1_ k_)∨w.heap.size≤k_)∧k_≠gb245)) k_∧some k_≠(v259:Value).ownBlock)) (HO_246000.out) (fun k_ hk=>⟨⟨hk.1.1,hk.1.2⟩,hk.2⟩))).2.1 (Kd.V_F (Kd.V_mono (ok':=(fun k_=>((fun k_=>((P0_ k_∨P1_0_ k_∨P1_1_ k_)∨w.heap.size≤k_)∧k_≠gb245)) k_∧some k_≠(v259:Value).ownBlock)) (HO_246000.out) (fun k_ hk=>⟨⟨hk.1.1,hk.1.2⟩,hk.2⟩))) (Kd.V_reads' (Kd.V_mono (ok':=(fun k_=>((fun k_=>((P0_ k_∨P1_0_ k_∨P1_1_ k_)∨w.heap.size≤k_)∧k_≠gb245)) k_∧some k_≠(v259:Value).ownBlock)) (HO_246001.out) (fun k_ hk=>⟨⟨hk.1.1,hk.1.2⟩,hk.2⟩))).2.1 (Kd.V_F (Kd.V_mono (ok':=(fun k_=>((fun k_=>((P0_ k_∨P1_0_ k_∨P1_1_ k_)∨w.heap.size≤k_)∧k_≠gb245)) k_∧some k_≠(v259:Value).ownBlock)) (HO_246001.out) (fun k_ hk=>⟨⟨hk.1.1,hk.1.2⟩,hk.2⟩)))));(case aB=>exact (by repeat (first|(with_reducible first|exact HB.out|apply zD|apply zB|apply zC|refine zF ?_ GE245.out)|exact HB.out)));(case aF=>exact (fun k_ hk=>⟨(.inr (Nat.le_trans (zQ (by repeat (first|(with_reducible first|exact HB.out|apply zD|apply zB|apply zC|refine zF ?_ GE245.out)|exact HB.out))) hk)),Kd.freshB (g:=gb245) (o:=.cells #[.slice A1_0 l1_0.length c1_0,.slice A1_1 l1_1.length c1_1] 33 (0,0)) (by (with_reducible repeat (first|refine zG ?_ _|refine zI ?_|refine zH ?_ _));exact BK245.out) k_ hk⟩));(case aO=>exact (by apply zN_;exact HO260.out));(case aS=>exact (zQ (by repeat (first|(with_reducible first|exact HB.out|apply zD|apply zB|apply zC|refine zF ?_ GE245.out)|exact HB.out))));(case aL=>have:=LMc19.out;omega);intro v262 w32 ho hb hg hat;rw [← Ny261.out] at ho;have n0_:=zA (Kd.V_afterv (ok:=(fun k_=>((P0_ k_∨P1_0_ k_∨P1_1_ k_)∨w.heap.size≤k_)∧k_≠gb245)) (by apply zV_;exact HO_0.out) hg hat);have n1_:=zA (Kd.V_afterv (ok:=(fun k_=>((P0_ k_∨P1_0_ k_∨P1_1_ k_)∨w.heap.size≤k_)∧k_≠gb245)) (by apply zV_;exact HO_246000.out) hg hat);have n2_:=zA (Kd.V_afterv (ok:=(fun k_=>((P0_ k_∨P1_0_ k_∨P1_1_ k_)∨w.heap.size≤k_)∧k_≠gb245)) (by apply zV_;exact HO_246001.out) hg hat);have n3_:=zA (blk_grown (g:=gb245) (o:=.cells #[.slice A1_0 l1_0.length c1_0,.slice A1_1 l1_1.length c1_1] 33 (0,0)) (by (with_reducible repeat (first|refine zG ?_ _|refine zI ?_|refine zH ?_ _));exact BK245.out) hg (Kd.N_away HO260.out (fun _ hk=>hk.2)));have n4_:=zA (Kd.V_afterv (ok:=(fun k_=>((P0_ k_∨P1_0_ k_∨P1_1_ k_)∨w.heap.size≤k_)∧k_≠gb245)) (by apply zV_;exact HL246_0.out) hg hat);have n5_:=zA (Kd.V_afterv (ok:=(fun k_=>((P0_ k_∨P1_0_ k_∨P1_1_ k_)∨w.heap.size≤k_)∧k_≠gb245)) (by apply zV_;exact HL246_1.out) hg hat);have n6_:=zA (Kd.V_afterv (ok:=(fun k_=>((P0_ k_∨P1_0_ k_∨P1_1_ k_)∨w.heap.size≤k_)∧k_≠gb245)) (by apply zV_;exact HL248_0.out) hg hat);have n7_:=zA (Kd.V_afterv (ok:=(fun k_=>((P0_ k_∨P1_0_ k_∨P1_1_ k_)∨w.heap.size≤k_)∧k_≠gb245)) (by apply zV_;exact HL248_1.out) hg hat);have n8_:=zA (Kd.V_afterv (ok:=(fun k_=>((P0_ k_∨P1_0_ k_∨P1_1_ k_)∨w.heap.size≤k_)∧k_≠gb245)) (by apply zV_;exact HO257.out) hg hat);have n9_:=zA (hb);have n10_:=zA (ho);clear HO_0;clear HO_246000;clear HO_246001;clear BK245;clear HL246_0;clear HL246_1;clear HL248_0;clear HL248_1;clear HO257;clear HB;clear HO260;have HO_0:=n0_;have HO_246000:=n1_;have HO_246001:=n2_;have BK245:=n3_;have HL246_0:=n4_;have HL246_1:=n5_;have HL248_0:=n6_;have HL248_1:=n7_;have HO257:=n8_;have HB:=n9_;have HO263:=n10_;clear n0_ n1_ n2_ n3_ n4_ n5_ n6_ n7_ n8_ n9_ n10_;clear ho hb hg hat;have q33:(x5_1:Int)≤((l0.length:Int):Int):=zE (by with_reducible assumption);obtain ⟨i033,hi033,_,hsz33,_⟩:=info_parts info33;have hroom33:l0.length≤c0:=(Kd.V_reads' HO_0.out).2.1;have hC33:Kd.F k33 _ _ (some ad246) l0.length l0:=(Kd.V_at (base:=w.heap.size) HO_0.out).2.2;have q033:(0:Int)≤(x5_1:Int):=zE (by with_reducible assumption);have hcut33:=cut_from (P:=Try.prog) 27 33 .i64 Try.underlying27 hi033 2 hsz33 (some ad246) l0.length c0 x5_1 q033 q33;have hr33:=Kd.F_cut (m:=(x5_1:Int).toNat) (c:=c0) hC33 (by omega) hroom33;obtain ⟨A33,hA33⟩:∃ A1,A1 = (if c0 = (x5_1:Int).toNat then (some ad246) else ((some ad246):Option Addr).map (·.add ((x5_1:Int).toNat * 2))):=⟨_,rfl⟩;obtain ⟨c33,hc33⟩:∃ c1,c1 = c0 - (x5_1:Int).toNat:=⟨_,rfl⟩;have hy33:y264.length = l0.length - (x5_1:Int).toNat:=(by rw [Ny264.out,zL] <;> omega);rw [show (l0).drop (x5_1:Int).toNat = y264 from Ny264.out.symm] at hr33;replace hr33:Kd.F k33 _ _ A33 y264.length y264:=(by rw [hA33];exact hr33);rw [← hy33, ← hA33, ← hc33] at hcut33;have HO268:=zA (show Kd.V k33 33 _ w.heap.size _ (.slice A33 y264.length c33) y264 from Kd.V_mk (by rw [hy33,hc33];exact Nat.sub_le_sub_right hroom33 _) hr33);have HC268:=zA (show y264.length≤c33 from by rw [hy33,hc33];exact Nat.sub_le_sub_right hroom33 _);clear hr33 hC33 hroom33 hi033 hsz33 hc33;have KY33:=zA hy33;have KA33:=zA hA33;clear hy33 hA33;replace q33:=eq_true q33)|((with_reducible refine gate_builtin (b:=.append) (xs:=#[.tmp 45,.tmp 48]) rfl ?_);at_builtin;refine Kd.N_append_rows k33 (w0:=w) w.heap.size rfl (.tmp 45) (.tmp 48) 27 33 (.agg #[(.slice none 0 0),(.slice none 0 0)]) 48 rfl Try.underlying27 info33 rfl (by decide) (by omega) v262 y261 y264 _ _ _ (fun k_=>((P0_ k_∨P1_0_ k_∨P1_1_ k_)∨w.heap.size≤k_)∧k_≠gb245) (fun k_=>((fun k_=>((P0_ k_∨P1_0_ k_∨P1_1_ k_)∨w.heap.size≤k_)∧k_≠gb245)) k_∧some k_≠(v262:Value).ownBlock) rfl rfl ?aO ?aR (fun _ hk=>hk) ?aF ?aB ?aS ?aL ?_;(case aR=>exact (by skip;exact Kd.V_F (Kd.V_mono (ok':=(fun k_=>((fun k_=>((P0_ k_∨P1_0_ k_∨P1_1_ k_)∨w.heap.size≤k_)∧k_≠gb245)) k_∧some k_≠(v262:Value).ownBlock)) (HO268.out) (fun k_ hk=>⟨⟨hk.1.1,hk.1.2⟩,hk.2⟩))));(case aB=>exact (by repeat (first|(with_reducible first|exact HB.out|apply zD|apply zB|apply zC|refine zF ?_ GE245.out)|exact HB.out)));(case aF=>exact (fun k_ hk=>⟨(.inr (Nat.le_trans (zQ (by repeat (first|(with_reducible first|exact HB.out|apply zD|apply zB|apply zC|refine zF ?_ GE245.out)|exact HB.out))) hk)),Kd.freshB (g:=gb245) (o:=.cells #[.slice A1_0 l1_0.length c1_0,.slice A1_1 l1_1.length c1_1] 33 (0,0)) (by (with_reducible repeat (first|refine zG ?_ _|refine zI ?_|refine zH ?_ _));exact BK245.out) k_ hk⟩));(case aO=>exact (by apply zN_;exact HO263.out));(case aS=>exact (zQ (by repeat (first|(with_reducible first|exact HB.out|apply zD|apply zB|apply zC|refine zF ?_ GE245.out)|exact HB.out))));(case aL=>have:=LMc22.out;omega);intro v270 w34 ho hb hg hat;rw [← Ny269.out] at ho;have n0_:=zA (Kd.V_afterv (ok:=(fun k_=>((P0_ k_∨P1_0_ k_∨P1_1_ k_)∨w.heap.size≤k_)∧k_≠gb245)) (by apply zV_;exact HO_0.out) hg hat);have n1_:=zA (Kd.V_afterv (ok:=(fun k_=>((P0_ k_∨P1_0_ k_∨P1_1_ k_)∨w.heap.size≤k_)∧k_≠gb245)) (by apply zV_;exact HO_246000.out) hg hat);have n2_:=zA (Kd.V_afterv (ok:=(fun k_=>((P0_ k_∨P1_0_ k_∨P1_1_ k_)∨w.heap.size≤k_)∧k_≠gb245)) (by apply zV_;exact HO_246001.out) hg hat);have n3_:=zA (blk_grown (g:=gb245) (o:=.cells #[.slice A1_0 l1_0.length c1_0,.slice A1_1 l1_1.length c1_1] 33 (0,0)) (by (with_reducible repeat (first|refine zG ?_ _|refine zI ?_|refine zH ?_ _));exact BK245.out) hg (Kd.N_away HO263.out (fun _ hk=>hk.2)));have n4_:=zA (Kd.V_afterv (ok:=(fun k_=>((P0_ k_∨P1_0_ k_∨P1_1_ k_)∨w.heap.size≤k_)∧k_≠gb245)) (by apply zV_;exact HL246_0.out) hg hat);have n5_:=zA (Kd.V_afterv (ok:=(fun k_=>((P0_ k_∨P1_0_ k_∨P1_1_ k_)∨w.heap.size≤k_)∧k_≠gb245)) (by apply zV_;exact HL246_1.out) hg hat);have n6_:=zA (Kd.V_afterv (ok:=(fun k_=>((P0_ k_∨P1_0_ k_∨P1_1_ k_)∨w.heap.size≤k_)∧k_≠gb245)) (by apply zV_;exact HL248_0.out) hg hat);have n7_:=zA (Kd.V_afterv (ok:=(fun k_=>((P0_ k_∨P1_0_ k_∨P1_1_ k_)∨w.heap.size≤k_)∧k_≠gb245)) (by apply zV_;exact HL248_1.out) hg hat);have n8_:=zA (Kd.V_afterv (ok:=(fun k_=>((P0_ k_∨P1_0_ k_∨P1_1_ k_)∨w.heap.size≤k_)∧k_≠gb245)) (by apply zV_;exact HO257.out) hg hat);have n9_:=zA (Kd.V_afterv (ok:=(fun k_=>((P0_ k_∨P1_0_ k_∨P1_1_ k_)∨w.heap.size≤k_)∧k_≠gb245)) (by apply zV_;exact HO268.out) hg hat);have n10_:=zA (hb);have n11_:=zA (ho);clear HO_0;clear HO_246000;clear HO_246001;clear BK245;clear HL246_0;clear HL246_1;clear HL248_0;clear HL248_1;clear HO257;clear HO268;clear HB;clear HO263;have HO_0:=n0_;have HO_246000:=n1_;have HO_246001:=n2_;have BK245:=n3_;have HL246_0:=n4_;have HL246_1:=n5_;have HL248_0:=n6_;have HL248_1:=n7_;have HO257:=n8_;have HO268:=n9_;have HB:=n10_;have HO271:=n11_;clear n0_ n1_ n2_ n3_ n4_ n5_ n6_ n7_ n8_ n9_ n10_ n11_;clear ho hb hg hat))
           go_ret
           exact ⟨_,by first|rfl|(simp [errW_none,errW_some] <;> rfl)|(simp [*,errW_none,errW_some] <;> rfl),Kd.N_V (by apply zN_;exact Kd.N_mono HO271.out (fun _ hk=>hk.1)),by repeat (first|(with_reducible first|exact HB.out|apply zD|apply zB|apply zC|refine zF ?_ GE245.out)|exact HB.out)⟩
          ·rw [if_neg c22] at H
           exact absurd H (by simp)
         ·rw [if_neg c19] at H
          exact absurd H (by simp)
        ·rw [if_neg c18] at H
         exact absurd H (by simp)
       ·rw [if_neg c17] at H
        exact absurd H (by simp)
    ·rw [if_neg c5] at H
     exact absurd H (by simp)
   ·rw [if_neg c4] at H
    have c4b0:decide (x5_1 < (l0.length:Int)) = false:=zP c4
    clear c4
    obtain ⟨y272,hy272⟩:∃ y_:List (S33),y_ = (([]:List (S33))):=⟨_,rfl⟩
    replace H:(if 0≤x5_1 then (if x5_1≤(l0.length:Int) then ((some (l0.take (x5_1:Int).toNat:List (S33))).bind fun y275=>(if y272.length+y275.length < 2932031007402 then ((some (y272 ++ y275:List (S33))).bind fun y280=>(if y280.length < 2932031007402 then ((some (y280 ++ [(⟨l1_0,l1_1⟩:S33)]:List (S33))).bind fun y283=>((some (l0.drop (x5_1:Int).toNat:List (S33))).bind fun y286=>(if y283.length+y286.length < 2932031007402 then (some (y283 ++ y286)) else (none)))) else (none))) else (none))) else (none)) else (none)) = some r:=by (try rw [hy272]);first|with_reducible exact H|with_reducible exact zS_ H|exact H
    have Ny272:=zA hy272
    clear hy272
    by_cases c35:0≤x5_1
    ·rw [if_pos c35] at H
     have c35b0:=eq_true c35
     have c35b1:decide (0≤x5_1) = true:=zO c35
     clear c35
     by_cases c36:x5_1≤(l0.length:Int)
     ·rw [if_pos c36] at H
      have c36b0:=eq_true c36
      have c36b1:decide (x5_1≤(l0.length:Int)) = true:=zO c36
      clear c36
      obtain ⟨y275,hy275⟩:∃ y_:List (S33),y_ = (l0.take (x5_1:Int).toNat):=⟨_,rfl⟩
      replace H:(if y272.length+y275.length < 2932031007402 then ((some (y272 ++ y275:List (S33))).bind fun y280=>(if y280.length < 2932031007402 then ((some (y280 ++ [(⟨l1_0,l1_1⟩:S33)]:List (S33))).bind fun y283=>((some (l0.drop (x5_1:Int).toNat:List (S33))).bind fun y286=>(if y283.length+y286.length < 2932031007402 then (some (y283 ++ y286)) else (none)))) else (none))) else (none)) = some r:=by (try rw [hy275]);first|with_reducible exact H|with_reducible exact zS_ H|exact H
      have Ny275:=zA hy275
      clear hy275
      by_cases c37:y272.length+y275.length < 2932031007402
      ·rw [if_pos c37] at H
       have LMc37:=zA c37
       clear c37
       obtain ⟨y280,hy280⟩:∃ y_:List (S33),y_ = (y272 ++ y275):=⟨_,rfl⟩
       replace H:(if y280.length < 2932031007402 then ((some (y280 ++ [(⟨l1_0,l1_1⟩:S33)]:List (S33))).bind fun y283=>((some (l0.drop (x5_1:Int).toNat:List (S33))).bind fun y286=>(if y283.length+y286.length < 2932031007402 then (some (y283 ++ y286)) else (none)))) else (none)) = some r:=by (try rw [hy280]);first|with_reducible exact H|with_reducible exact zS_ H|exact H
       have Ny280:=zA hy280
       clear hy280
       by_cases c38:y280.length < 2932031007402
       ·rw [if_pos c38] at H
        have LMc38:=zA c38
        clear c38
        obtain ⟨y283,hy283⟩:∃ y_:List (S33),y_ = (y280 ++ [(⟨l1_0,l1_1⟩:S33)]):=⟨_,rfl⟩
        replace H:((some (l0.drop (x5_1:Int).toNat:List (S33))).bind fun y286=>(if y283.length+y286.length < 2932031007402 then (some (y283 ++ y286)) else (none))) = some r:=by (try rw [hy283]);first|with_reducible exact H|with_reducible exact zS_ H|exact H
        have Ny283:=zA hy283
        clear hy283
        have c39b0:=eq_true (zE (by with_reducible assumption):0≤x5_1)
        have c40b0:=eq_true (zE (by with_reducible assumption):x5_1≤(l0.length:Int))
        obtain ⟨y286,hy286⟩:∃ y_:List (S33),y_ = (l0.drop (x5_1:Int).toNat):=⟨_,rfl⟩
        replace H:(if y283.length+y286.length < 2932031007402 then (some (y283 ++ y286)) else (none)) = some r:=by (try rw [hy286]);first|with_reducible exact H|with_reducible exact zS_ H|exact H
        have Ny286:=zA hy286
        clear hy286
        by_cases c41:y283.length+y286.length < 2932031007402
        ·rw [if_pos c41] at H
         have LMc41:=zA c41
         clear c41
         obtain ⟨y291,hy291⟩:∃ y_:List (S33),y_ = (y283 ++ y286):=⟨_,rfl⟩
         replace H:(some y291) = some r:=by (try rw [hy291]);first|with_reducible exact H|with_reducible exact zS_ H|exact H
         have Ny291:=zA hy291
         clear hy291
         obtain rfl:=zS H
         try go_wp2
         have n0_:=zA (Kd.V_drew HO_0.out)
         have n1_:=zA (Kd.V_drew HO_246000.out)
         have n2_:=zA (Kd.V_drew HO_246001.out)
         have n3_:=zA (zI BK245.out)
         have n4_:=zA (zC HB.out)
         clear HO_0 HO_246000 HO_246001 BK245 HB
         have HO_0:=n0_
         have HO_246000:=n1_
         have HO_246001:=n2_
         have BK245:=n3_
         have HB:=n4_
         clear n0_ n1_ n2_ n3_ n4_
         refine start_ (n:=13) (S:=fun w'=>True) (ds:=[]) #[zf,zf,zf,zf,zf,zf,zf,zf,zf,zf,zf,zf,zf] (by kernel_rfl) rfl rfl trivial (fun hHeld=>?_);refine with_tabW spec_l3Put.tab2 spec_l3Put.bits2 (fun HT_ HW_=>?_)
         generalize wr.drew = w42 at HO_0 HO_246000 HO_246001 BK245 HB hHeld ⊢
         refine pure_ (i:=0) (N:=some 7) (v:=?_) (a':=?_) #[zt,zf,zf,zf,zf,zf,zf,zf,zf,zf,zf,zf,zf] rfl rfl (any_of HT_.out (by kernel_rfl)) (fun _ _ _ h=>h) (Or.inl ⟨by rfl,?_⟩) ?_ ?_
         rotate_left
         ·intro w'
          go_simp
          with_reducible rfl
         rotate_left
         ·simp only [Act.put,zP_,i64_w]
          rfl
         refine pure_ (i:=1) (N:=some 8) (v:=?_) (a':=?_) #[zt,zt,zf,zf,zf,zf,zf,zf,zf,zf,zf,zf,zf] rfl rfl (any_of HT_.out (by kernel_rfl)) (fun _ _ _ h=>h) (Or.inl ⟨by rfl,?_⟩) ?_ ?_
         rotate_left
         ·intro w'
          go_simp
          with_reducible rfl
         rotate_left
         ·simp only [Act.put,zP_,i64_w]
          rfl
         refine pure_ (i:=2) (N:=some 9) (v:=?_) (a':=?_) #[zt,zt,zt,zf,zf,zf,zf,zf,zf,zf,zf,zf,zf] rfl rfl (any_of HT_.out (by kernel_rfl)) (fun _ _ _ h=>h) (Or.inl ⟨by rfl,?_⟩) ?_ ?_
         rotate_left
         ·intro w'
          go_simp
          with_reducible rfl
         rotate_left
         ·simp only [Act.put,zP_,i64_w]
          rfl
         refine pure_ (i:=3) (N:=some 10) (v:=?_) (a':=?_) #[zt,zt,zt,zt,zf,zf,zf,zf,zf,zf,zf,zf,zf] rfl rfl (any_of HT_.out (by kernel_rfl)) (fun _ _ _ h=>h) (Or.inl ⟨by rfl,?_⟩) ?_ ?_
         rotate_left
         ·intro w'
          go_simp
          with_reducible rfl
         rotate_left
         ·simp only [Act.put,zP_,i64_w]
          rfl
         refine pure_ (i:=4) (N:=some 11) (v:=?_) (a':=?_) #[zt,zt,zt,zt,zt,zf,zf,zf,zf,zf,zf,zf,zf] rfl rfl (any_of HT_.out (by kernel_rfl)) (fun _ _ _ h=>h) (Or.inl ⟨by rfl,?_⟩) ?_ ?_
         rotate_left
         ·intro w'
          go_simp
          with_reducible rfl
         rotate_left
         ·simp only [Act.put,zP_,i64_w]
          rfl
         refine pure_ (i:=5) (N:=some 12) (v:=undef) (a':=?_) #[zt,zt,zt,zt,zt,zt,zf,zf,zf,zf,zf,zf,zf] rfl rfl (any_of HT_.out (by kernel_rfl)) (fun _ _ _ h=>h) (Or.inr ⟨by rfl,rfl⟩) ?_ ?_
         rotate_left
         ·simp only [Act.put,zP_,i64_w]
          rfl
         refine pure_ (i:=6) (N:=some 13) (v:=undef) (a':=?_) #[zt,zt,zt,zt,zt,zt,zt,zf,zf,zf,zf,zf,zf] rfl rfl (any_of HT_.out (by kernel_rfl)) (fun _ _ _ h=>h) (Or.inr ⟨by rfl,rfl⟩) ?_ ?_
         rotate_left
         ·simp only [Act.put,zP_,i64_w]
          rfl
         refine pure_ (i:=7) (N:=some 14) (v:=undef) (a':=?_) #[zt,zt,zt,zt,zt,zt,zt,zt,zf,zf,zf,zf,zf] rfl rfl (any_of HT_.out (by kernel_rfl)) (fun _ _ _ h=>h) (Or.inr ⟨by rfl,rfl⟩) ?_ ?_
         rotate_left
         ·simp only [Act.put,zP_,i64_w]
          rfl
         refine pure_ (i:=8) (N:=some 15) (v:=undef) (a':=?_) #[zt,zt,zt,zt,zt,zt,zt,zt,zt,zf,zf,zf,zf] rfl rfl (any_of HT_.out (by kernel_rfl)) (fun _ _ _ h=>h) (Or.inr ⟨by rfl,rfl⟩) ?_ ?_
         rotate_left
         ·simp only [Act.put,zP_,i64_w]
          rfl
         refine pure_ (i:=9) (N:=some 16) (v:=undef) (a':=?_) #[zt,zt,zt,zt,zt,zt,zt,zt,zt,zt,zf,zf,zf] rfl rfl (any_of HT_.out (by kernel_rfl)) (fun _ _ _ h=>h) (Or.inr ⟨by rfl,rfl⟩) ?_ ?_
         rotate_left
         ·simp only [Act.put,zP_,i64_w]
          rfl
         refine pure_ (i:=10) (N:=some 17) (v:=undef) (a':=?_) #[zt,zt,zt,zt,zt,zt,zt,zt,zt,zt,zt,zf,zf] rfl rfl (any_of HT_.out (by kernel_rfl)) (fun _ _ _ h=>h) (Or.inr ⟨by rfl,rfl⟩) ?_ ?_
         rotate_left
         ·simp only [Act.put,zP_,i64_w]
          rfl
         refine pure_ (i:=11) (N:=some 18) (v:=undef) (a':=?_) #[zt,zt,zt,zt,zt,zt,zt,zt,zt,zt,zt,zt,zf] rfl rfl (any_of HT_.out (by kernel_rfl)) (fun _ _ _ h=>h) (Or.inr ⟨by rfl,rfl⟩) ?_ ?_
         rotate_left
         ·simp only [Act.put,zP_,i64_w]
          rfl
         refine pure_ (i:=12) (N:=some 19) (v:=?_) (a':=?_) #[zt,zt,zt,zt,zt,zt,zt,zt,zt,zt,zt,zt,zt] rfl rfl (any_of HT_.out (by kernel_rfl)) (fun _ _ _ h=>h) (Or.inl ⟨by rfl,?_⟩) ?_ ?_
         rotate_left
         ·intro w'
          go_simp
          with_reducible rfl
         rotate_left
         ·simp only [Act.put,zP_,i64_w]
          rfl
         refine done_ (done_of HT_.out (by kernel_rfl)) ?_
         try go_wp2
         have n0_:=zA (Kd.V_drew HO_0.out)
         have n1_:=zA (Kd.V_drew HO_246000.out)
         have n2_:=zA (Kd.V_drew HO_246001.out)
         have n3_:=zA (zI BK245.out)
         have n4_:=zA (zC HB.out)
         clear HO_0 HO_246000 HO_246001 BK245 HB
         have HO_0:=n0_
         have HO_246000:=n1_
         have HO_246001:=n2_
         have BK245:=n3_
         have HB:=n4_
         clear n0_ n1_ n2_ n3_ n4_
         refine start_ (n:=13) (S:=fun w'=>True) (ds:=[]) #[zf,zf,zf,zf,zf,zf,zf,zf,zf,zf,zf,zf,zf] (by kernel_rfl) rfl rfl trivial (fun hHeld=>?_);refine with_tabW spec_l3Put.tab4 spec_l3Put.bits4 (fun HT_ HW_=>?_)
         generalize w42.drew = w43 at HO_0 HO_246000 HO_246001 BK245 HB hHeld ⊢
         refine pure_ (i:=0) (N:=some 22) (v:=?_) (a':=?_) #[zt,zf,zf,zf,zf,zf,zf,zf,zf,zf,zf,zf,zf] rfl rfl (any_of HT_.out (by kernel_rfl)) (fun _ _ _ h=>h) (Or.inl ⟨by rfl,?_⟩) ?_ ?_
         rotate_left
         ·intro w'
          go_simp
          with_reducible rfl
         rotate_left
         ·simp only [Act.put,zP_,i64_w]
          rfl
         refine pure_ (i:=1) (N:=some 23) (v:=?_) (a':=?_) #[zt,zt,zf,zf,zf,zf,zf,zf,zf,zf,zf,zf,zf] rfl rfl (any_of HT_.out (by kernel_rfl)) (fun _ _ _ h=>h) (Or.inl ⟨by rfl,?_⟩) ?_ ?_
         rotate_left
         ·intro w'
          go_simp
          with_reducible rfl
         rotate_left
         ·simp only [Act.put,zP_,i64_w]
          rfl
         refine pure_ (i:=2) (N:=some 24) (v:=?_) (a':=?_) #[zt,zt,zt,zf,zf,zf,zf,zf,zf,zf,zf,zf,zf] rfl rfl (any_of HT_.out (by kernel_rfl)) (fun _ _ _ h=>h) (Or.inl ⟨by rfl,?_⟩) ?_ ?_
         rotate_left
         ·intro w'
          go_simp
          with_reducible rfl
         rotate_left
         ·simp only [Act.put,zP_,i64_w]
          rfl
         refine pure_ (i:=3) (N:=some 25) (v:=?_) (a':=?_) #[zt,zt,zt,zt,zf,zf,zf,zf,zf,zf,zf,zf,zf] rfl rfl (any_of HT_.out (by kernel_rfl)) (fun _ _ _ h=>h) (Or.inl ⟨by rfl,?_⟩) ?_ ?_
         rotate_left
         ·intro w'
          go_simp
          with_reducible rfl
         rotate_left
         ·simp only [Act.put,zP_,i64_w]
          rfl
         refine pure_ (i:=4) (N:=some 26) (v:=?_) (a':=?_) #[zt,zt,zt,zt,zt,zf,zf,zf,zf,zf,zf,zf,zf] rfl rfl (any_of HT_.out (by kernel_rfl)) (fun _ _ _ h=>h) (Or.inl ⟨by rfl,?_⟩) ?_ ?_
         rotate_left
         ·intro w'
          go_simp
          with_reducible rfl
         rotate_left
         ·simp only [Act.put,zP_,i64_w]
          rfl
         refine pure_ (i:=5) (N:=some 27) (v:=undef) (a':=?_) #[zt,zt,zt,zt,zt,zt,zf,zf,zf,zf,zf,zf,zf] rfl rfl (any_of HT_.out (by kernel_rfl)) (fun _ _ _ h=>h) (Or.inr ⟨by rfl,rfl⟩) ?_ ?_
         rotate_left
         ·simp only [Act.put,zP_,i64_w]
          rfl
         refine pure_ (i:=6) (N:=some 28) (v:=undef) (a':=?_) #[zt,zt,zt,zt,zt,zt,zt,zf,zf,zf,zf,zf,zf] rfl rfl (any_of HT_.out (by kernel_rfl)) (fun _ _ _ h=>h) (Or.inr ⟨by rfl,rfl⟩) ?_ ?_
         rotate_left
         ·simp only [Act.put,zP_,i64_w]
          rfl
         refine pure_ (i:=7) (N:=some 29) (v:=undef) (a':=?_) #[zt,zt,zt,zt,zt,zt,zt,zt,zf,zf,zf,zf,zf] rfl rfl (any_of HT_.out (by kernel_rfl)) (fun _ _ _ h=>h) (Or.inr ⟨by rfl,rfl⟩) ?_ ?_
         rotate_left
         ·simp only [Act.put,zP_,i64_w]
          rfl
         refine pure_ (i:=8) (N:=some 30) (v:=undef) (a':=?_) #[zt,zt,zt,zt,zt,zt,zt,zt,zt,zf,zf,zf,zf] rfl rfl (any_of HT_.out (by kernel_rfl)) (fun _ _ _ h=>h) (Or.inr ⟨by rfl,rfl⟩) ?_ ?_
         rotate_left
         ·simp only [Act.put,zP_,i64_w]
          rfl
         refine pure_ (i:=9) (N:=some 31) (v:=undef) (a':=?_) #[zt,zt,zt,zt,zt,zt,zt,zt,zt,zt,zf,zf,zf] rfl rfl (any_of HT_.out (by kernel_rfl)) (fun _ _ _ h=>h) (Or.inr ⟨by rfl,rfl⟩) ?_ ?_
         rotate_left
         ·simp only [Act.put,zP_,i64_w]
          rfl
         refine pure_ (i:=10) (N:=some 32) (v:=undef) (a':=?_) #[zt,zt,zt,zt,zt,zt,zt,zt,zt,zt,zt,zf,zf] rfl rfl (any_of HT_.out (by kernel_rfl)) (fun _ _ _ h=>h) (Or.inr ⟨by rfl,rfl⟩) ?_ ?_
         rotate_left
         ·simp only [Act.put,zP_,i64_w]
          rfl
         refine pure_ (i:=11) (N:=some 33) (v:=undef) (a':=?_) #[zt,zt,zt,zt,zt,zt,zt,zt,zt,zt,zt,zt,zf] rfl rfl (any_of HT_.out (by kernel_rfl)) (fun _ _ _ h=>h) (Or.inr ⟨by rfl,rfl⟩) ?_ ?_
         rotate_left
         ·simp only [Act.put,zP_,i64_w]
          rfl
         refine pure_ (i:=12) (N:=some 34) (v:=?_) (a':=?_) #[zt,zt,zt,zt,zt,zt,zt,zt,zt,zt,zt,zt,zt] rfl rfl (any_of HT_.out (by kernel_rfl)) (fun _ _ _ h=>h) (Or.inl ⟨by rfl,?_⟩) ?_ ?_
         rotate_left
         ·intro w'
          go_simp
          with_reducible rfl
         rotate_left
         ·simp only [Act.put,zP_,i64_w]
          rfl
         refine done_ (done_of HT_.out (by kernel_rfl)) ?_
         try go_wp2_with (first|((with_reducible refine gate_dst (N:=36) rfl ?_);refine Kd.N_lit k33 _ 33 ?hg (N':=36) ?hd (xs:=([]:List (S33))) (inner:=[]) (ok:=(fun k_=>((P0_ k_∨P1_0_ k_∨P1_1_ k_)∨w.heap.size≤k_)∧k_≠gb245)) (okp:=(fun k_=>((P0_ k_∨P1_0_ k_∨P1_1_ k_)∨w.heap.size≤k_)∧k_≠gb245)) ?hr ?hp (fun _ hk=>hk) ((show ∀ k_,w43.heap.size≤k_→(fun k_=>((P0_ k_∨P1_0_ k_∨P1_1_ k_)∨w.heap.size≤k_)∧k_≠gb245) k_ from fun k_ hk=>⟨(.inr (Nat.le_trans (zQ (by repeat (first|(with_reducible first|exact HB.out|apply zD|apply zB|apply zC|refine zF ?_ GE245.out)|exact HB.out))) hk)),Kd.freshB (g:=gb245) (o:=.cells #[.slice A1_0 l1_0.length c1_0,.slice A1_1 l1_1.length c1_1] 33 (0,0)) (by (with_reducible repeat (first|refine zG ?_ _|refine zI ?_|refine zH ?_ _));exact BK245.out) k_ hk⟩) _ (Nat.le_refl _)) (Below.refl _ _) (Nat.le_refl _) (by simp) ?_;(case hd=>rfl);(case hg=>rfl);(case hr=>first|(go_simp;done)|(go_simp;rfl));(case hp=>exact (Reps.none _ _));intro v273 w44 ho45 hb hg_ hnew_;clear hg_ hnew_;(first|rw [← Ny272.out] at ho45|(simp only [Int.reduceToNat] at ho45;rw [← Ny272.out] at ho45));have n0_:=zA (Kd.V_elder' (by apply zV_;exact HO_0.out) (Kd.N_base ho45) hb);have n1_:=zA (Kd.V_elder' (by apply zV_;exact HO_246000.out) (Kd.N_base ho45) hb);have n2_:=zA (Kd.V_elder' (by apply zV_;exact HO_246001.out) (Kd.N_base ho45) hb);have n3_:=zA (Kd.N_lower ho45 (zQ (by repeat (first|(with_reducible first|exact HB.out|apply zD|apply zB|apply zC|refine zF ?_ GE245.out)|exact HB.out))));have n4_:=zA (zX (g:=gb245) (o:=.cells #[.slice A1_0 l1_0.length c1_0,.slice A1_1 l1_1.length c1_1] 33 (0,0)) (by (with_reducible repeat (first|refine zG ?_ _|refine zI ?_|refine zH ?_ _));exact BK245.out) hb);have n5_:=zA (zR (by repeat (first|(with_reducible first|exact HB.out|apply zD|apply zB|apply zC|refine zF ?_ GE245.out)|exact HB.out)) hb);clear HO_0;clear HO_246000;clear HO_246001;clear BK245;clear HB;have HO_0:=n0_;have HO_246000:=n1_;have HO_246001:=n2_;have HO274:=n3_;have BK245:=n4_;have HB:=n5_;clear n0_ n1_ n2_ n3_ n4_ n5_;clear hb ho45;have q46:(x5_1:Int)≤((l0.length:Int):Int):=zE (by with_reducible assumption);obtain ⟨i046,hi046,_,hsz46,_⟩:=info_parts info33;have hroom46:l0.length≤c0:=(Kd.V_reads' HO_0.out).2.1;have hC46:Kd.F k33 _ _ A0 l0.length l0:=(Kd.V_at (base:=w.heap.size) HO_0.out).2.2;have hcut46:=cut_to (P:=Try.prog) 27 33 .i64 Try.underlying27 hi046 A0 l0.length c0 x5_1 (zE (by with_reducible assumption)) q46 hroom46;have hr46:=Kd.F_take (m:=(x5_1:Int).toNat) hC46 (by omega);have hy46:y275.length = (x5_1:Int).toNat:=(by rw [Ny275.out,zK];omega);rw [← Ny275.out] at hr46;rw [← hy46] at hcut46;have HO279:=zA (show Kd.V k33 33 _ w.heap.size _ (.slice A0 y275.length c0) y275 from Kd.V_mk (by omega) hr46);have HC279:=zA (show y275.length≤c0 from by omega);clear hr46 hC46 hroom46 hi046 hsz46;have KY46:=zA hy46;clear hy46;replace q46:=eq_true q46)|((with_reducible refine gate_builtin (b:=.append) (xs:=#[.tmp 36,.tmp 39]) rfl ?_);at_builtin;refine Kd.N_append_rows k33 (w0:=w) w.heap.size rfl (.tmp 36) (.tmp 39) 27 33 (.agg #[(.slice none 0 0),(.slice none 0 0)]) 48 rfl Try.underlying27 info33 rfl (by decide) (by omega) v273 y272 y275 _ _ _ (fun k_=>((P0_ k_∨P1_0_ k_∨P1_1_ k_)∨w.heap.size≤k_)∧k_≠gb245) (fun k_=>((fun k_=>((P0_ k_∨P1_0_ k_∨P1_1_ k_)∨w.heap.size≤k_)∧k_≠gb245)) k_∧some k_≠(v273:Value).ownBlock) rfl rfl ?aO ?aR (fun _ hk=>hk) ?aF ?aB ?aS ?aL ?_;(case aR=>exact (by skip;exact Kd.V_F (Kd.V_mono (ok':=(fun k_=>((fun k_=>((P0_ k_∨P1_0_ k_∨P1_1_ k_)∨w.heap.size≤k_)∧k_≠gb245)) k_∧some k_≠(v273:Value).ownBlock)) (HO279.out) (fun k_ hk=>⟨⟨hk.1.1,hk.1.2⟩,hk.2⟩))));(case aB=>exact (by repeat (first|(with_reducible first|exact HB.out|apply zD|apply zB|apply zC|refine zF ?_ GE245.out)|exact HB.out)));(case aF=>exact (fun k_ hk=>⟨(.inr (Nat.le_trans (zQ (by repeat (first|(with_reducible first|exact HB.out|apply zD|apply zB|apply zC|refine zF ?_ GE245.out)|exact HB.out))) hk)),Kd.freshB (g:=gb245) (o:=.cells #[.slice A1_0 l1_0.length c1_0,.slice A1_1 l1_1.length c1_1] 33 (0,0)) (by (with_reducible repeat (first|refine zG ?_ _|refine zI ?_|refine zH ?_ _));exact BK245.out) k_ hk⟩));(case aO=>exact (by apply zN_;exact HO274.out));(case aS=>exact (zQ (by repeat (first|(with_reducible first|exact HB.out|apply zD|apply zB|apply zC|refine zF ?_ GE245.out)|exact HB.out))));(case aL=>have:=LMc37.out;omega);intro v281 w47 ho hb hg hat;rw [← Ny280.out] at ho;have n0_:=zA (Kd.V_afterv (ok:=(fun k_=>((P0_ k_∨P1_0_ k_∨P1_1_ k_)∨w.heap.size≤k_)∧k_≠gb245)) (by apply zV_;exact HO_0.out) hg hat);have n1_:=zA (Kd.V_afterv (ok:=(fun k_=>((P0_ k_∨P1_0_ k_∨P1_1_ k_)∨w.heap.size≤k_)∧k_≠gb245)) (by apply zV_;exact HO_246000.out) hg hat);have n2_:=zA (Kd.V_afterv (ok:=(fun k_=>((P0_ k_∨P1_0_ k_∨P1_1_ k_)∨w.heap.size≤k_)∧k_≠gb245)) (by apply zV_;exact HO_246001.out) hg hat);have n3_:=zA (blk_grown (g:=gb245) (o:=.cells #[.slice A1_0 l1_0.length c1_0,.slice A1_1 l1_1.length c1_1] 33 (0,0)) (by (with_reducible repeat (first|refine zG ?_ _|refine zI ?_|refine zH ?_ _));exact BK245.out) hg (Kd.N_away HO274.out (fun _ hk=>hk.2)));have n4_:=zA (Kd.V_afterv (ok:=(fun k_=>((P0_ k_∨P1_0_ k_∨P1_1_ k_)∨w.heap.size≤k_)∧k_≠gb245)) (by apply zV_;exact HO279.out) hg hat);have n5_:=zA (hb);have n6_:=zA (ho);clear HO_0;clear HO_246000;clear HO_246001;clear BK245;clear HO279;clear HB;clear HO274;have HO_0:=n0_;have HO_246000:=n1_;have HO_246001:=n2_;have BK245:=n3_;have HO279:=n4_;have HB:=n5_;have HO282:=n6_;clear n0_ n1_ n2_ n3_ n4_ n5_ n6_;clear ho hb hg hat;have hcz48_0:w47.cell? ⟨gb245,0,none⟩ = some (.slice A1_0 l1_0.length c1_0):=(zT BK245.out 0).trans rfl;have hcz48_1:w47.cell? ⟨gb245,1,none⟩ = some (.slice A1_1 l1_1.length c1_1):=(zT BK245.out 1).trans rfl;have hfz48_0:=zZ BK245.out 0;have hfz48_1:=zZ BK245.out 1)|((with_reducible refine gate_builtin (b:=.append) (xs:=#[.tmp 41,.tmp 43]) rfl ?_);at_builtin;refine Kd.N_append k33 (w0:=w) w.heap.size rfl (.tmp 41) (.tmp 43) 27 33 (.agg #[(.slice none 0 0),(.slice none 0 0)]) 48 rfl Try.underlying27 info33 rfl (by decide) (by omega) v281 y280 (⟨l1_0,l1_1⟩:S33) [.slice A1_0 l1_0.length c1_0,.slice A1_1 l1_1.length c1_1] (fun k_=>((P0_ k_∨P1_0_ k_∨P1_1_ k_)∨w.heap.size≤k_)∧k_≠gb245) (fun k_=>((fun k_=>((P0_ k_∨P1_0_ k_∨P1_1_ k_)∨w.heap.size≤k_)∧k_≠gb245)) k_∧some k_≠(v281:Value).ownBlock) rfl rfl ?aP (fun _ hk=>hk) ?aF ?aO ?aB ?aS ?aL ?_;(case aP=>exact (k33_mkF _ _ (⟨l1_0,l1_1⟩:S33) (Kd.V_reads' (Kd.V_mono (ok':=(fun k_=>((fun k_=>((P0_ k_∨P1_0_ k_∨P1_1_ k_)∨w.heap.size≤k_)∧k_≠gb245)) k_∧some k_≠(v281:Value).ownBlock)) (HO_246000.out) (fun k_ hk=>⟨⟨hk.1.1,hk.1.2⟩,hk.2⟩))).2.1 (Kd.V_F (Kd.V_mono (ok':=(fun k_=>((fun k_=>((P0_ k_∨P1_0_ k_∨P1_1_ k_)∨w.heap.size≤k_)∧k_≠gb245)) k_∧some k_≠(v281:Value).ownBlock)) (HO_246000.out) (fun k_ hk=>⟨⟨hk.1.1,hk.1.2⟩,hk.2⟩))) (Kd.V_reads' (Kd.V_mono (ok':=(fun k_=>((fun k_=>((P0_ k_∨P1_0_ k_∨P1_1_ k_)∨w.heap.size≤k_)∧k_≠gb245)) k_∧some k_≠(v281:Value).ownBlock)) (HO_246001.out) (fun k_ hk=>⟨⟨hk.1.1,hk.1.2⟩,hk.2⟩))).2.1 (Kd.V_F (Kd.V_mono (ok':=(fun k_=>((fun k_=>((P0_ k_∨P1_0_ k_∨P1_1_ k_)∨w.heap.size≤k_)∧k_≠gb245)) k_∧some k_≠(v281:Value).ownBlock)) (HO_246001.out) (fun k_ hk=>⟨⟨hk.1.1,hk.1.2⟩,hk.2⟩)))));(case aB=>exact (by repeat (first|(with_reducible first|exact HB.out|apply zD|apply zB|apply zC|refine zF ?_ GE245.out)|exact HB.out)));(case aF=>exact (fun k_ hk=>⟨(.inr (Nat.le_trans (zQ (by repeat (first|(with_reducible first|exact HB.out|apply zD|apply zB|apply zC|refine zF ?_ GE245.out)|exact HB.out))) hk)),Kd.freshB (g:=gb245) (o:=.cells #[.slice A1_0 l1_0.length c1_0,.slice A1_1 l1_1.length c1_1] 33 (0,0)) (by (with_reducible repeat (first|refine zG ?_ _|refine zI ?_|refine zH ?_ _));exact BK245.out) k_ hk⟩));(case aO=>exact (by apply zN_;exact HO282.out));(case aS=>exact (zQ (by repeat (first|(with_reducible first|exact HB.out|apply zD|apply zB|apply zC|refine zF ?_ GE245.out)|exact HB.out))));(case aL=>have:=LMc38.out;omega);intro v284 w49 ho hb hg hat;rw [← Ny283.out] at ho;have n0_:=zA (Kd.V_afterv (ok:=(fun k_=>((P0_ k_∨P1_0_ k_∨P1_1_ k_)∨w.heap.size≤k_)∧k_≠gb245)) (by apply zV_;exact HO_0.out) hg hat);have n1_:=zA (Kd.V_afterv (ok:=(fun k_=>((P0_ k_∨P1_0_ k_∨P1_1_ k_)∨w.heap.size≤k_)∧k_≠gb245)) (by apply zV_;exact HO_246000.out) hg hat);have n2_:=zA (Kd.V_afterv (ok:=(fun k_=>((P0_ k_∨P1_0_ k_∨P1_1_ k_)∨w.heap.size≤k_)∧k_≠gb245)) (by apply zV_;exact HO_246001.out) hg hat);have n3_:=zA (blk_grown (g:=gb245) (o:=.cells #[.slice A1_0 l1_0.length c1_0,.slice A1_1 l1_1.length c1_1] 33 (0,0)) (by (with_reducible repeat (first|refine zG ?_ _|refine zI ?_|refine zH ?_ _));exact BK245.out) hg (Kd.N_away HO282.out (fun _ hk=>hk.2)));have n4_:=zA (Kd.V_afterv (ok:=(fun k_=>((P0_ k_∨P1_0_ k_∨P1_1_ k_)∨w.heap.size≤k_)∧k_≠gb245)) (by apply zV_;exact HO279.out) hg hat);have n5_:=zA (hb);have n6_:=zA (ho);clear HO_0;clear HO_246000;clear HO_246001;clear BK245;clear HO279;clear HB;clear HO282;have HO_0:=n0_;have HO_246000:=n1_;have HO_246001:=n2_;have BK245:=n3_;have HO279:=n4_;have HB:=n5_;have HO285:=n6_;clear n0_ n1_ n2_ n3_ n4_ n5_ n6_;clear ho hb hg hat;have q50:(x5_1:Int)≤((l0.length:Int):Int):=zE (by with_reducible assumption);obtain ⟨i050,hi050,_,hsz50,_⟩:=info_parts info33;have hroom50:l0.length≤c0:=(Kd.V_reads' HO_0.out).2.1;have hC50:Kd.F k33 _ _ A0 l0.length l0:=(Kd.V_at (base:=w.heap.size) HO_0.out).2.2;have q050:(0:Int)≤(x5_1:Int):=zE (by with_reducible assumption);have hcut50:=cut_from (P:=Try.prog) 27 33 .i64 Try.underlying27 hi050 2 hsz50 A0 l0.length c0 x5_1 q050 q50;have hr50:=Kd.F_cut (m:=(x5_1:Int).toNat) (c:=c0) hC50 (by omega) hroom50;obtain ⟨A50,hA50⟩:∃ A1,A1 = (if c0 = (x5_1:Int).toNat then A0 else (A0:Option Addr).map (·.add ((x5_1:Int).toNat * 2))):=⟨_,rfl⟩;obtain ⟨c50,hc50⟩:∃ c1,c1 = c0 - (x5_1:Int).toNat:=⟨_,rfl⟩;have hy50:y286.length = l0.length - (x5_1:Int).toNat:=(by rw [Ny286.out,zL] <;> omega);rw [show (l0).drop (x5_1:Int).toNat = y286 from Ny286.out.symm] at hr50;replace hr50:Kd.F k33 _ _ A50 y286.length y286:=(by rw [hA50];exact hr50);rw [← hy50, ← hA50, ← hc50] at hcut50;have HO290:=zA (show Kd.V k33 33 _ w.heap.size _ (.slice A50 y286.length c50) y286 from Kd.V_mk (by rw [hy50,hc50];exact Nat.sub_le_sub_right hroom50 _) hr50);have HC290:=zA (show y286.length≤c50 from by rw [hy50,hc50];exact Nat.sub_le_sub_right hroom50 _);clear hr50 hC50 hroom50 hi050 hsz50 hc50;have KY50:=zA hy50;have KA50:=zA hA50;clear hy50 hA50;replace q50:=eq_true q50)|((with_reducible refine gate_builtin (b:=.append) (xs:=#[.tmp 45,.tmp 48]) rfl ?_);at_builtin;refine Kd.N_append_rows k33 (w0:=w) w.heap.size rfl (.tmp 45) (.tmp 48) 27 33 (.agg #[(.slice none 0 0),(.slice none 0 0)]) 48 rfl Try.underlying27 info33 rfl (by decide) (by omega) v284 y283 y286 _ _ _ (fun k_=>((P0_ k_∨P1_0_ k_∨P1_1_ k_)∨w.heap.size≤k_)∧k_≠gb245) (fun k_=>((fun k_=>((P0_ k_∨P1_0_ k_∨P1_1_ k_)∨w.heap.size≤k_)∧k_≠gb245)) k_∧some k_≠(v284:Value).ownBlock) rfl rfl ?aO ?aR (fun _ hk=>hk) ?aF ?aB ?aS ?aL ?_;(case aR=>exact (by skip;exact Kd.V_F (Kd.V_mono (ok':=(fun k_=>((fun k_=>((P0_ k_∨P1_0_ k_∨P1_1_ k_)∨w.heap.size≤k_)∧k_≠gb245)) k_∧some k_≠(v284:Value).ownBlock)) (HO290.out) (fun k_ hk=>⟨⟨hk.1.1,hk.1.2⟩,hk.2⟩))));(case aB=>exact (by repeat (first|(with_reducible first|exact HB.out|apply zD|apply zB|apply zC|refine zF ?_ GE245.out)|exact HB.out)));(case aF=>exact (fun k_ hk=>⟨(.inr (Nat.le_trans (zQ (by repeat (first|(with_reducible first|exact HB.out|apply zD|apply zB|apply zC|refine zF ?_ GE245.out)|exact HB.out))) hk)),Kd.freshB (g:=gb245) (o:=.cells #[.slice A1_0 l1_0.length c1_0,.slice A1_1 l1_1.length c1_1] 33 (0,0)) (by (with_reducible repeat (first|refine zG ?_ _|refine zI ?_|refine zH ?_ _));exact BK245.out) k_ hk⟩));(case aO=>exact (by apply zN_;exact HO285.out));(case aS=>exact (zQ (by repeat (first|(with_reducible first|exact HB.out|apply zD|apply zB|apply zC|refine zF ?_ GE245.out)|exact HB.out))));(case aL=>have:=LMc41.out;omega);intro v292 w51 ho hb hg hat;rw [← Ny291.out] at ho;have n0_:=zA (Kd.V_afterv (ok:=(fun k_=>((P0_ k_∨P1_0_ k_∨P1_1_ k_)∨w.heap.size≤k_)∧k_≠gb245)) (by apply zV_;exact HO_0.out) hg hat);have n1_:=zA (Kd.V_afterv (ok:=(fun k_=>((P0_ k_∨P1_0_ k_∨P1_1_ k_)∨w.heap.size≤k_)∧k_≠gb245)) (by apply zV_;exact HO_246000.out) hg hat);have n2_:=zA (Kd.V_afterv (ok:=(fun k_=>((P0_ k_∨P1_0_ k_∨P1_1_ k_)∨w.heap.size≤k_)∧k_≠gb245)) (by apply zV_;exact HO_246001.out) hg hat);have n3_:=zA (blk_grown (g:=gb245) (o:=.cells #[.slice A1_0 l1_0.length c1_0,.slice A1_1 l1_1.length c1_1] 33 (0,0)) (by (with_reducible repeat (first|refine zG ?_ _|refine zI ?_|refine zH ?_ _));exact BK245.out) hg (Kd.N_away HO285.out (fun _ hk=>hk.2)));have n4_:=zA (Kd.V_afterv (ok:=(fun k_=>((P0_ k_∨P1_0_ k_∨P1_1_ k_)∨w.heap.size≤k_)∧k_≠gb245)) (by apply zV_;exact HO279.out) hg hat);have n5_:=zA (Kd.V_afterv (ok:=(fun k_=>((P0_ k_∨P1_0_ k_∨P1_1_ k_)∨w.heap.size≤k_)∧k_≠gb245)) (by apply zV_;exact HO290.out) hg hat);have n6_:=zA (hb);have n7_:=zA (ho);clear HO_0;clear HO_246000;clear HO_246001;clear BK245;clear HO279;clear HO290;clear HB;clear HO285;have HO_0:=n0_;have HO_246000:=n1_;have HO_246001:=n2_;have BK245:=n3_;have HO279:=n4_;have HO290:=n5_;have HB:=n6_;have HO293:=n7_;clear n0_ n1_ n2_ n3_ n4_ n5_ n6_ n7_;clear ho hb hg hat))
         go_ret
         exact ⟨_,by first|rfl|(simp [errW_none,errW_some] <;> rfl)|(simp [*,errW_none,errW_some] <;> rfl),Kd.N_V (by apply zN_;exact Kd.N_mono HO293.out (fun _ hk=>hk.1)),by repeat (first|(with_reducible first|exact HB.out|apply zD|apply zB|apply zC|refine zF ?_ GE245.out)|exact HB.out)⟩
        ·rw [if_neg c41] at H
         exact absurd H (by simp)
       ·rw [if_neg c38] at H
        exact absurd H (by simp)
      ·rw [if_neg c37] at H
       exact absurd H (by simp)
     ·rw [if_neg c36] at H
      exact absurd H (by simp)
    ·rw [if_neg c35] at H
     exact absurd H (by simp)

end Go.Proofs.Ytdaiohcgdpclnaa.Q
