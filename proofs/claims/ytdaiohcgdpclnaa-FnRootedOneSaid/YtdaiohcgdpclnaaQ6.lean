import Derived.Test.YtdaiohcgdpclnaaQ0
import Derived.Test.YtdaiohcgdpclnaaQ5
import Derived.Test.YtdaiohcgdpclnaaZ
namespace Go.Proofs.Ytdaiohcgdpclnaa.Q
open Go.RowKit Go.Proofs.YtdaiohcgdpclnaaW.PrintWords Go.Proofs.YtdaiohcgdpclnaaW.PrintLast Go.Proofs.YtdaiohcgdpclnaaW.PrintMore
attribute [local go_sem] max2_int min2_int max_two min_two max_three min_three max_four min_four   -- for this text's walks alone
set_option linter.unusedVariables false
set_option linter.unusedSimpArgs false

/-! ### spec_l3Put: function 64 -/
def spec_l3Put.l0:Nat→List (S33)→Int→List Int→List Int→Option ((List (S33)))
 | 0,_,_,_,_=>none
 | k+1,x0,x5,x211000,x211001=>if x5 < (x0.length:Int) then (if 0≤x5 then ((spec_l2Before.f k ((rd_T33 x0 x5).f0) ((rd_T33 x0 x5).f1) x211000 x211001).bind fun t212=>(if t212 < 0 then (spec_l3Put.l0 k x0 (wrap64 (x5+1)) x211000 x211001) else ((spec_l2Before.f k ((rd_T33 x0 x5).f0) ((rd_T33 x0 x5).f1) x211000 x211001).bind fun t214=>(if t214 = 0 then (some x0) else ((some (([]:List (S33)):List (S33))).bind fun y215=>(if x5≤(x0.length:Int) then ((some (x0.take (x5:Int).toNat:List (S33))).bind fun y218=>(if y215.length+y218.length < 2932031007402 then ((some (y215 ++ y218:List (S33))).bind fun y223=>(if y223.length < 2932031007402 then ((some (y223 ++ [(⟨x211000,x211001⟩:S33)]:List (S33))).bind fun y226=>((some (x0.drop (x5:Int).toNat:List (S33))).bind fun y229=>(if y226.length+y229.length < 2932031007402 then (some (y226 ++ y229)) else (none)))) else (none))) else (none))) else (none))))))) else (none)) else ((some (([]:List (S33)):List (S33))).bind fun y237=>(if 0≤x5 then (if x5≤(x0.length:Int) then ((some (x0.take (x5:Int).toNat:List (S33))).bind fun y240=>(if y237.length+y240.length < 2932031007402 then ((some (y237 ++ y240:List (S33))).bind fun y245=>(if y245.length < 2932031007402 then ((some (y245 ++ [(⟨x211000,x211001⟩:S33)]:List (S33))).bind fun y248=>((some (x0.drop (x5:Int).toNat:List (S33))).bind fun y251=>(if y248.length+y251.length < 2932031007402 then (some (y248 ++ y251)) else (none)))) else (none))) else (none))) else (none)) else (none)))
def spec_l3Put.f (k:Nat) (l0:List (S33)) (l1_0:List Int) (l1_1:List Int):Option ((List (S33))):=spec_l3Put.l0 k l0 0 l1_0 l1_1
theorem spec_l3Put.mono_l:∀ k,(∀ y0 y1 y2 y3,LeO (spec_l3Put.l0 k y0 y1 y2 y3) (spec_l3Put.l0 (k+1) y0 y1 y2 y3))
 | 0=>fun _ _ _ _ r h=>by simp [spec_l3Put.l0] at h
 | k+1=>by
  have ih0:=spec_l3Put.mono_l k
  ·intro y0 y1 y2 y3
   unfold spec_l3Put.l0
   repeat' first
   | (with_reducible exact ih0 _ _ _ _)
   | (with_reducible exact spec_l2Before.mono _ _ _ _ _)
   | (with_reducible exact LeO.refl _)
   | (with_reducible exact zm _)
   | (with_reducible refine zo ?_ ?_)
   | (with_reducible refine zn ?_ (fun _=>?_))
   | exact ih0 _ _ _ _
   | exact spec_l2Before.mono _ _ _ _ _
   | exact zm _
   | refine zo ?_ ?_
   | refine zn ?_ (fun _=>?_)
theorem spec_l3Put.mono:∀ a0 a1 a2 k,LeO (spec_l3Put.f k a0 a1 a2) (spec_l3Put.f (k+1) a0 a1 a2):=by
 intro a0 a1 a2 k
 have ih0:=spec_l3Put.mono_l k
 unfold spec_l3Put.f
 repeat' first
   | (with_reducible exact ih0 _ _ _ _)
   | (with_reducible exact spec_l2Before.mono _ _ _ _ _)
   | (with_reducible exact LeO.refl _)
   | (with_reducible exact zm _)
   | (with_reducible refine zo ?_ ?_)
   | (with_reducible refine zn ?_ (fun _=>?_))
   | exact ih0 _ _ _ _
   | exact spec_l2Before.mono _ _ _ _ _
   | exact zm _
   | refine zo ?_ ?_
   | refine zn ?_ (fun _=>?_)
def spec_l3Put.T2:Bool × List (List Nat × List Nat):=(true,[([],[]),([],[]),([1],[1]),([0,2],[0,2]),([3],[3]),([4],[4]),([4],[4]),([5,6,4],[4,5,6]),([7,4],[4,7]),([4],[4]),([8,9,4,4],[4,8,9]),([10,4],[4,10]),([4,11],[4,11])])
def spec_l3Put.B2:List Nat:=[0,0,2,7,15,31,31,127,255,31,1023,2047,4095]
theorem spec_l3Put.tab2:rtab .any (opsOf Try.f64 2) = spec_l3Put.T2:=by kernel_rfl
theorem spec_l3Put.bits2:waitsOk spec_l3Put.T2.2 spec_l3Put.B2 = true:=by kernel_rfl
def spec_l3Put.T4:Bool × List (List Nat × List Nat):=(true,[([],[]),([],[]),([1],[1]),([0,2],[0,2]),([3],[3]),([4],[4]),([4],[4]),([5,6,4],[4,5,6]),([7,4],[4,7]),([4],[4]),([8,9,4,4],[4,8,9]),([10,4],[4,10]),([4,11],[4,11])])
def spec_l3Put.B4:List Nat:=[0,0,2,7,15,31,31,127,255,31,1023,2047,4095]
theorem spec_l3Put.tab4:rtab .any (opsOf Try.f64 4) = spec_l3Put.T4:=by kernel_rfl
theorem spec_l3Put.bits4:waitsOk spec_l3Put.T4.2 spec_l3Put.B4 = true:=by kernel_rfl
set_option maxHeartbeats 8000000 in
set_option maxRecDepth 100000 in
theorem spec_l3Put.calls (k:Nat) (P0_:Nat→Prop) (A0:Option Addr) (c0:Nat) (l0:List (S33)) (P1_0_:Nat→Prop) (A1_0:Option Addr) (c1_0:Nat) (l1_0:List Int) (P1_1_:Nat→Prop) (A1_1:Option Addr) (c1_1:Nat) (l1_1:List Int) (r:List (S33)) (w:World) (hs0:Kd.V k33 33 w w.heap.size (fun k_=>P0_ k_) (.slice A0 l0.length c0) l0) (hs1_0:Kd.V (Kd.int .i64) 3 w w.heap.size (fun k_=>P1_0_ k_) (.slice A1_0 l1_0.length c1_0) l1_0) (hs1_1:Kd.V (Kd.int .i64) 3 w w.heap.size (fun k_=>P1_1_ k_) (.slice A1_1 l1_1.length c1_1) l1_1) (h:spec_l3Put.f k l0 l1_0 l1_1 = some r) :
  Calls Try.prog 64 #[.slice A0 l0.length c0,.agg #[.slice A1_0 l1_0.length c1_0,.slice A1_1 l1_1.length c1_1]] w fun e w' => ∃ v0_:Value,e = .returned (v0_)∧Kd.V k33 33 w' w.heap.size (fun k_=>((P0_ k_∨P1_0_ k_∨P1_1_ k_)∨w.heap.size≤k_)) v0_ r∧Below w.heap.size w w':=by
 have hu33:=Try.underlying33
 have HO0:=zA (show Kd.V k33 33 w w.heap.size (fun k_=>((P0_ k_∨P1_0_ k_∨P1_1_ k_)∨w.heap.size≤k_)) (.slice A0 l0.length c0) l0 from Kd.V_mono hs0 (fun k_ hk=>.inl (.inl hk)))
 have HO1_0:=zA (show Kd.V (Kd.int .i64) 3 w w.heap.size (fun k_=>((P0_ k_∨P1_0_ k_∨P1_1_ k_)∨w.heap.size≤k_)) (.slice A1_0 l1_0.length c1_0) l1_0 from Kd.V_mono hs1_0 (fun k_ hk=>.inl (.inr (.inl hk))))
 have HO1_1:=zA (show Kd.V (Kd.int .i64) 3 w w.heap.size (fun k_=>((P0_ k_∨P1_0_ k_∨P1_1_ k_)∨w.heap.size≤k_)) (.slice A1_1 l1_1.length c1_1) l1_1 from Kd.V_mono hs1_1 (fun k_ hk=>.inl (.inr (.inr hk))))
 have HB:=zA (Below.refl w.heap.size w)
 have H:(spec_l3Put.l0 k l0 0 l1_0 l1_1) = some r:=h
 clear h
 have H':=zA H
 clear H
 go_enter Try.func64,Try.ntmps64
 go_wp2_with (first|((with_reducible refine gate_dst (N:=3) rfl ?_);refine box_event ?hg (N:=3) ?hd (cs:=#[.slice A1_0 l1_0.length c1_0,.slice A1_1 l1_1.length c1_1]) (t:=33) ?hr ?_;(case hd=>rfl);(case hg=>rfl);(case hr=>first|(go_simp;done)|(go_simp;rfl));intro gb210 hg w3 hbox hb;have n0_:=zA (Kd.V_below (Kd.V_elderB (by (with_reducible repeat (first|apply zi|apply zj|apply zh));exact HO0.out) gb210 (Nat.le_of_eq hg.symm)) hb);have n1_:=zA (Kd.V_below (Kd.V_elderB (by (with_reducible repeat (first|apply zi|apply zj|apply zh));exact HO1_0.out) gb210 (Nat.le_of_eq hg.symm)) hb);have n2_:=zA (Kd.V_below (Kd.V_elderB (by (with_reducible repeat (first|apply zi|apply zj|apply zh));exact HO1_1.out) gb210 (Nat.le_of_eq hg.symm)) hb);have n3_:=zA (za (by repeat (first|(with_reducible first|exact HB.out|apply zD|apply zB|apply zC)|exact HB.out)) hb);have n4_:=zA (hbox);have n5_:=zA ((by rw [hg];exact (zZ (by repeat (first|(with_reducible first|exact HB.out|apply zD|apply zB|apply zC)|exact HB.out))):w.heap.size≤gb210));have n6_:=zA ((by rw [hg];exact (zZ (by repeat (first|(with_reducible first|exact HB.out|apply zD|apply zB|apply zC)|exact HB.out))):w.heap.size≤gb210));clear HO0;clear HO1_0;clear HO1_1;clear HB;have HO0:=n0_;have HO1_0:=n1_;have HO1_1:=n2_;have HB:=n3_;have BK210:=n4_;have GW210:=n5_;have GE210:=n6_;clear n0_ n1_ n2_ n3_ n4_ n5_ n6_;clear hb hbox hg))
 go_loopg [5] k (fun kq v5 w' => ∃ (x5_1:Int),v5 = .int .i64 x5_1∧Aside0 (spec_l3Put.l0 kq l0 x5_1 l1_0 l1_1 = some r)∧Aside0 (kq≤k)∧Aside0 (Kd.V k33 33 w' w.heap.size (fun k_=>((P0_ k_∨P1_0_ k_∨P1_1_ k_)∨w.heap.size≤k_)∧k_≠gb210) (.slice A0 l0.length c0) l0)∧Aside0 (Kd.V (Kd.int .i64) 3 w' w.heap.size (fun k_=>((P0_ k_∨P1_0_ k_∨P1_1_ k_)∨w.heap.size≤k_)∧k_≠gb210) (.slice A1_0 l1_0.length c1_0) l1_0)∧Aside0 (Kd.V (Kd.int .i64) 3 w' w.heap.size (fun k_=>((P0_ k_∨P1_0_ k_∨P1_1_ k_)∨w.heap.size≤k_)∧k_≠gb210) (.slice A1_1 l1_1.length c1_1) l1_1)∧Aside0 (w'.heap[gb210]? = some (.cells #[(.slice A1_0 l1_0.length c1_0),(.slice A1_1 l1_1.length c1_1)] 33 (0,0)))∧Aside0 (Below w.heap.size w w'))
 case atStart=>exact ⟨(0),(by first|rfl|(simp;done)|(simp [*];done)),H',⟨Nat.le_refl _⟩,⟨by (with_reducible repeat (first|apply zi|apply zj|apply zh));exact HO0.out⟩,⟨by (with_reducible repeat (first|apply zi|apply zj|apply zh));exact HO1_0.out⟩,⟨by (with_reducible repeat (first|apply zi|apply zj|apply zh));exact HO1_1.out⟩,⟨by (with_reducible repeat (first|refine zM ?_ _|refine zO ?_|refine zN ?_ _));exact BK210.out⟩,⟨by repeat (first|(with_reducible first|exact HB.out|apply zD|apply zB|apply zC|refine zI ?_ GE210.out)|exact HB.out)⟩⟩
 case round =>
  clear H'
  try clear c1
  try clear p2
  obtain ⟨x5_1,rfl,HA,HK1,HO_0,HO_211000,HO_211001,BK210,HB⟩:=hrel
  cases gk with
  | zero=>exact absurd HA.out (by simp [spec_l3Put.l0])
  | succ k1 =>
   have H:=HA.out
   clear HA
   simp only [spec_l3Put.l0] at H
   by_cases c4:x5_1 < (l0.length:Int)
   ·rw [if_pos c4] at H
    have c4b0:decide (x5_1 < (l0.length:Int)) = true:=zU c4
    clear c4
    by_cases c5:0≤x5_1
    ·rw [if_pos c5] at H
     have c5b0:decide (0≤x5_1) = true:=zU c5
     clear c5
     replace H:=zz0 H
     obtain ⟨t212,A60,H⟩:=H
     replace H:(if t212 < 0 then (spec_l3Put.l0 k1 l0 (wrap64 (x5_1+1)) l1_0 l1_1) else ((spec_l2Before.f k1 ((rd_T33 l0 x5_1).f0) ((rd_T33 l0 x5_1).f1) l1_0 l1_1).bind fun t214=>(if t214 = 0 then (some l0) else ((some (([]:List (S33)):List (S33))).bind fun y215=>(if x5_1≤(l0.length:Int) then ((some (l0.take (x5_1:Int).toNat:List (S33))).bind fun y218=>(if y215.length+y218.length < 2932031007402 then ((some (y215 ++ y218:List (S33))).bind fun y223=>(if y223.length < 2932031007402 then ((some (y223 ++ [(⟨l1_0,l1_1⟩:S33)]:List (S33))).bind fun y226=>((some (l0.drop (x5_1:Int).toNat:List (S33))).bind fun y229=>(if y226.length+y229.length < 2932031007402 then (some (y226 ++ y229)) else (none)))) else (none))) else (none))) else (none)))))) = some r:=H
     have A6:=zA A60
     clear A60
     by_cases c7:t212 < 0
     ·rw [if_pos c7] at H
      have c7b0:decide (t212 < 0) = true:=zU c7
      clear c7
      have H':=zA H
      clear H
      try go_wp2
      have n0_:=zA (zh HO_0.out)
      have n1_:=zA (zh HO_211000.out)
      have n2_:=zA (zh HO_211001.out)
      have n3_:=zA (zO BK210.out)
      have n4_:=zA (zC HB.out)
      clear HO_0
      clear HO_211000
      clear HO_211001
      clear BK210
      clear HB
      have HO_0:=n0_
      have HO_211000:=n1_
      have HO_211001:=n2_
      have BK210:=n3_
      have HB:=n4_
      clear n0_ n1_ n2_ n3_ n4_
      have p211:0≤(x5_1:Int):=zF (by first|(with_reducible assumption)|assumption)
      have q211:x5_1 < (l0.length:Int):=zF (by first|(with_reducible assumption)|assumption)
      obtain ⟨ad211,A211_0,c211_0,A211_1,c211_1,e211,hx211_0,hx211_1,hl211_0,hi211_0,hl211_1,hi211_1⟩:=at_T33 (zs HO_0.out).2.2 x5_1 p211 q211
      cases e211
      obtain ⟨ce211,hce211,hMe211,hcc211⟩:=Kd.V_get HO_0.out z33 x5_1 p211 (by first|exact q211|exact zF (by first|(with_reducible assumption)|assumption)|(have e_:=(zs HO_0.out).1;omega))
      obtain ⟨ua211_0,uc211_0,ua211_1,uc211_1,rfl,ul211_0,ge211_0,ul211_1,ge211_1⟩:=k33_openF hMe211
      have hv211_0:=hcc211 0 _ rfl
      rw [Nat.add_zero] at hv211_0
      replace hv211_0:=zb (hv211_0.symm.trans hx211_0)
      injection hv211_0 with hva_ hvn_ hvc_
      rw [hva_] at ge211_0
      rw [hvc_] at ul211_0
      have HL211_0:=zA (show Kd.V (Kd.int .i64) 3 _ w.heap.size _ _ ((rd_T33 l0 x5_1).f0) from Kd.V_mk ul211_0 ge211_0)
      clear hva_ hvn_ hvc_ ge211_0 ul211_0
      have hv211_1:=hcc211 1 _ rfl
      rw [add_field _ _ 1 (by omega)] at hv211_1
      replace hv211_1:=zb (hv211_1.symm.trans hx211_1)
      injection hv211_1 with hva_ hvn_ hvc_
      rw [hva_] at ge211_1
      rw [hvc_] at ul211_1
      have HL211_1:=zA (show Kd.V (Kd.int .i64) 3 _ w.heap.size _ _ ((rd_T33 l0 x5_1).f1) from Kd.V_mk ul211_1 ge211_1)
      clear hva_ hvn_ hvc_ ge211_1 ul211_1
      clear hcc211 hce211
      have HR211_0:=zA hi211_0
      have HC211_0:=zA hl211_0
      clear hi211_0 hl211_0
      have HR211_1:=zA hi211_1
      have HC211_1:=zA hl211_1
      clear hi211_1 hl211_1
      replace p211:=eq_true p211
      replace q211:=eq_true q211
      refine start_ (n:=13) (S:=fun w'=>w'.cell? ⟨gb210,0,none⟩ = some (.slice A1_0 l1_0.length c1_0)∧w'.cell? ⟨gb210,1,none⟩ = some (.slice A1_1 l1_1.length c1_1)∧w'.cell? (ad211.add ((x5_1).toNat * 2)) = some (.slice A211_0 ((rd_T33 l0 x5_1).f0).length c211_0)∧w'.cell? ⟨(ad211.add ((x5_1).toNat * 2)).block,(ad211.add ((x5_1).toNat * 2)).off+1,none⟩ = some (.slice A211_1 ((rd_T33 l0 x5_1).f1).length c211_1)) (ds:=[]) #[false,false,false,false,false,false,false,false,false,false,false,false,false] (by kernel_rfl) rfl rfl ⟨(zc BK210.out 0).trans rfl,(zc BK210.out 1).trans rfl,hx211_0,hx211_1⟩ (fun hHeld=>?_);refine with_tabW spec_l3Put.tab2 spec_l3Put.bits2 (fun HT_ HW_=>?_)
      generalize wr.drew = w8 at HO_0 HO_211000 HO_211001 BK210 HB HL211_0 HL211_1 HR211_0 HR211_1 hx211_0 hx211_1 hHeld ⊢
      refine pure_ (i:=0) (N:=some 7) (v:=?_) (a':=?_) #[true,false,false,false,false,false,false,false,false,false,false,false,false] rfl rfl (any_of HT_.out (by kernel_rfl)) (fun _ _ _ h=>h) (Or.inl ⟨by rfl,?_⟩) ?_ ?_
      rotate_left
      ·intro w'
       go_simp
       with_reducible rfl
      rotate_left
      ·simp only [Act.put,zE,zG,zH,i64_w,i32_w]
       rfl
      refine pure_ (i:=1) (N:=some 8) (v:=?_) (a':=?_) #[true,true,false,false,false,false,false,false,false,false,false,false,false] rfl rfl (any_of HT_.out (by kernel_rfl)) (fun _ _ _ h=>h) (Or.inl ⟨by rfl,?_⟩) ?_ ?_
      rotate_left
      ·intro w'
       go_simp
       with_reducible rfl
      rotate_left
      ·simp only [Act.put,zE,zG,zH,i64_w,i32_w]
       rfl
      refine pure_ (i:=2) (N:=some 9) (v:=?_) (a':=?_) #[true,true,true,false,false,false,false,false,false,false,false,false,false] rfl rfl (any_of HT_.out (by kernel_rfl)) (fun _ _ _ h=>h) (Or.inl ⟨by rfl,?_⟩) ?_ ?_
      rotate_left
      ·intro w'
       go_simp
       with_reducible rfl
      rotate_left
      ·simp only [Act.put,zE,zG,zH,i64_w,i32_w]
       rfl
      refine pure_ (i:=3) (N:=some 10) (v:=?_) (a':=?_) #[true,true,true,true,false,false,false,false,false,false,false,false,false] rfl rfl (any_of HT_.out (by kernel_rfl)) (fun _ _ _ h=>h) (Or.inl ⟨by rfl,?_⟩) ?_ ?_
      rotate_left
      ·intro w'
       go_simp
       with_reducible rfl
      rotate_left
      ·simp only [Act.put,zE,zG,zH,i64_w,i32_w]
       rfl
      refine pure_ (i:=4) (N:=some 11) (v:=?_) (a':=?_) #[true,true,true,true,true,false,false,false,false,false,false,false,false] rfl rfl (any_of HT_.out (by kernel_rfl)) (fun _ _ _ h=>h) (Or.inl ⟨by rfl,?_⟩) ?_ ?_
      rotate_left
      ·intro w'
       go_simp
       with_reducible rfl
      rotate_left
      ·simp only [Act.put,zE,zG,zH,i64_w,i32_w]
       rfl
      refine pure_ (i:=5) (N:=some 12) (v:=?_) (a':=?_) #[true,true,true,true,true,true,false,false,false,false,false,false,false] rfl rfl (any_of HT_.out (by kernel_rfl)) (fun _ _ _ h=>h) (Or.inl ⟨by rfl,?_⟩) ?_ ?_
      rotate_left
      ·intro w'
       go_simp
       with_reducible rfl
      rotate_left
      ·simp only [Act.put,zE,zG,zH,i64_w,i32_w]
       rfl
      refine pure_ (i:=6) (N:=some 13) (v:=?_) (a':=?_) #[true,true,true,true,true,true,true,false,false,false,false,false,false] rfl rfl (any_of HT_.out (by kernel_rfl)) (fun _ _ _ h=>h) (Or.inl ⟨by rfl,?_⟩) ?_ ?_
      rotate_left
      ·intro w'
       go_simp
       with_reducible rfl
      rotate_left
      ·simp only [Act.put,zE,zG,zH,i64_w,i32_w]
       rfl
      refine pure_ (i:=7) (N:=some 14) (v:=?_) (a':=?_) #[true,true,true,true,true,true,true,true,false,false,false,false,false] rfl rfl (any_of HT_.out (by kernel_rfl)) (fun _ _ _ h=>h) (Or.inl ⟨by rfl,?_⟩) ?_ ?_
      rotate_left
      ·intro w'
       go_simp
       with_reducible rfl
      rotate_left
      ·simp only [Act.put,zE,zG,zH,i64_w,i32_w]
       rfl
      refine take_ (i:=8) (N:=some 15) (v:=?_) (a':=?_) #[true,true,true,true,true,true,true,true,true,false,false,false,false] rfl rfl (take_ofW HT_.out HW_.out (by kernel_rfl)) (fun _ _ _ h=>h) (Or.inl ⟨by rfl,?_⟩) hHeld ?_ ?_
      rotate_left
      ·rintro w' ⟨s0,s1,s2,s3⟩
       go_simp
       with_reducible rfl
      rotate_left
      ·simp only [Act.put,zE,zG,zH,i64_w,i32_w]
       rfl
      refine take_ (i:=9) (N:=some 16) (v:=?_) (a':=?_) #[true,true,true,true,true,true,true,true,true,true,false,false,false] rfl rfl (take_ofW HT_.out HW_.out (by kernel_rfl)) (fun _ _ _ h=>h) (Or.inl ⟨by rfl,?_⟩) hHeld ?_ ?_
      rotate_left
      ·rintro w' ⟨s0,s1,s2,s3⟩
       go_simp
       with_reducible rfl
      rotate_left
      ·simp only [Act.put,zE,zG,zH,i64_w,i32_w]
       rfl
      refine one_ (i:=10) (N:=some 17) #[true,true,true,true,true,true,true,true,true,true,true,false,false] rfl rfl (one_of HT_.out (by kernel_rfl)) (by decide) (fun K hK=>?_)
      refine goes_ Try.func83 (by kernel_rfl) rfl #[.agg #[.slice A211_0 ((rd_T33 l0 x5_1).f0).length c211_0,.slice A211_1 ((rd_T33 l0 x5_1).f1).length c211_1],.agg #[.slice A1_0 l1_0.length c1_0,.slice A1_1 l1_1.length c1_1]] (by rfl) rfl rfl (by (try simp only [zP,zS,zT]);first|done|rfl|(simp only [zR,zQ];rfl)) ?_
      with_reducible refine (spec_l2Before.calls k1 _ _ ((rd_T33 l0 x5_1).f0) _ _ ((rd_T33 l0 x5_1).f1) _ _ l1_0 _ _ l1_1 t212 _ ?side1 ?side2 ?side3 ?side4 ?side5 ?side6 ?side7 ?side8 A6.out).mono ?_
      (case side1=>repeat (first|exact (by repeat (first|(with_reducible exact HR211_0.out)|(with_reducible refine zW ?_ _)|(with_reducible refine zX ?_ _)|(with_reducible refine zY ?_)|exact HR211_0.out))|(with_reducible refine zW ?_ _)|(with_reducible refine zX ?_ _)|(with_reducible refine zY ?_)))
      (case side2=>exact HC211_0.out)
      (case side3=>repeat (first|exact (by repeat (first|(with_reducible exact HR211_1.out)|(with_reducible refine zW ?_ _)|(with_reducible refine zX ?_ _)|(with_reducible refine zY ?_)|exact HR211_1.out))|(with_reducible refine zW ?_ _)|(with_reducible refine zX ?_ _)|(with_reducible refine zY ?_)))
      (case side4=>exact HC211_1.out)
      (case side5=>repeat (first|exact (zs HO_211000.out).2.2|(with_reducible refine zW ?_ _)|(with_reducible refine zX ?_ _)|(with_reducible refine zY ?_)))
      (case side6=>exact (zs HO_211000.out).2.1)
      (case side7=>repeat (first|exact (zs HO_211001.out).2.2|(with_reducible refine zW ?_ _)|(with_reducible refine zX ?_ _)|(with_reducible refine zY ?_)))
      (case side8=>exact (zs HO_211001.out).2.1)
      rintro e w9 ⟨rfl,hb⟩
      have HS2_:=(hb.cell (zk _ _ (hHeld.2.2.1))).trans (hHeld.2.2.1)
      have HS3_:=(hb.cell (zk _ _ (hHeld.2.2.2))).trans (hHeld.2.2.2)
      refine ⟨_,rfl,?_⟩
      have n0_:=zA (Kd.V_below (by (with_reducible repeat (first|apply zi|apply zj|apply zh));exact HO_0.out) hb)
      have n1_:=zA (Kd.V_below (by (with_reducible repeat (first|apply zi|apply zj|apply zh));exact HO_211000.out) hb)
      have n2_:=zA (Kd.V_below (by (with_reducible repeat (first|apply zi|apply zj|apply zh));exact HO_211001.out) hb)
      have n3_:=zA (Kd.V_below (by (with_reducible repeat (first|apply zi|apply zj|apply zh));exact HL211_0.out) hb)
      have n4_:=zA (Kd.V_below (by (with_reducible repeat (first|apply zi|apply zj|apply zh));exact HL211_1.out) hb)
      have n5_:=zA (zg (g:=gb210) (o:=.cells #[.slice A1_0 l1_0.length c1_0,.slice A1_1 l1_1.length c1_1] 33 (0,0)) (by (with_reducible repeat (first|refine zM ?_ _|refine zO ?_|refine zN ?_ _));exact BK210.out) hb)
      have n6_:=zA (zf (by repeat (first|(with_reducible exact HR211_0.out)|(with_reducible refine zW ?_ _)|(with_reducible refine zX ?_ _)|(with_reducible refine zY ?_)|exact HR211_0.out)) hb)
      have n7_:=zA (zf (by repeat (first|(with_reducible exact HR211_1.out)|(with_reducible refine zW ?_ _)|(with_reducible refine zX ?_ _)|(with_reducible refine zY ?_)|exact HR211_1.out)) hb)
      have n8_:=zA (za (by repeat (first|(with_reducible first|exact HB.out|apply zD|apply zB|apply zC|refine zI ?_ GE210.out)|exact HB.out)) hb)
      clear HO_0
      clear HO_211000
      clear HO_211001
      clear HL211_0
      clear HL211_1
      clear BK210
      clear HR211_0
      clear HR211_1
      clear HB
      have HO_0:=n0_
      have HO_211000:=n1_
      have HO_211001:=n2_
      have HL211_0:=n3_
      have HL211_1:=n4_
      have BK210:=n5_
      have HR211_0:=n6_
      have HR211_1:=n7_
      have HB:=n8_
      clear n0_ n1_ n2_ n3_ n4_ n5_ n6_ n7_ n8_
      (try clear hb)
      (try clear hb2)
      (try clear hk)
      (try clear hi)
      refine hK.out _ _ ⟨(zc BK210.out 0).trans rfl,(zc BK210.out 1).trans rfl,HS2_,HS3_⟩ (fun hHeld=>?_)
      clear hK K
      refine norm_ (a':=?_) ?_ ?_
      rotate_left
      ·show Act.put _ (some 17) _ = _
       simp only [Act.put,zE,zG,zH,i64_w,i32_w]
       rfl
      refine pure_ (i:=11) (N:=some 18) (v:=?_) (a':=?_) #[true,true,true,true,true,true,true,true,true,true,true,true,false] rfl rfl (any_of HT_.out (by kernel_rfl)) (fun _ _ _ h=>h) (Or.inl ⟨by rfl,?_⟩) ?_ ?_
      rotate_left
      ·intro w'
       go_simp
       with_reducible rfl
      rotate_left
      ·simp only [Act.put,zE,zG,zH,i64_w,i32_w]
       rfl
      refine pure_ (i:=12) (N:=some 19) (v:=?_) (a':=?_) #[true,true,true,true,true,true,true,true,true,true,true,true,true] rfl rfl (any_of HT_.out (by kernel_rfl)) (fun _ _ _ h=>h) (Or.inl ⟨by rfl,?_⟩) ?_ ?_
      rotate_left
      ·intro w'
       go_simp
       with_reducible rfl
      rotate_left
      ·simp only [Act.put,zE,zG,zH,i64_w,i32_w]
       rfl
      refine done_ (done_of HT_.out (by kernel_rfl)) ?_
      try go_wp2
      go_roundg k1
      case measure=>have:=HK1.out;omega
      case rel=>exact ⟨(wrap64 (x5_1+1)),(by first|rfl|(simp;done)|(simp [*];done)),H',⟨by have:=HK1.out;omega⟩,⟨by (with_reducible repeat (first|apply zi|apply zj|apply zh));exact HO_0.out⟩,⟨by (with_reducible repeat (first|apply zi|apply zj|apply zh));exact HO_211000.out⟩,⟨by (with_reducible repeat (first|apply zi|apply zj|apply zh));exact HO_211001.out⟩,⟨by (with_reducible repeat (first|refine zM ?_ _|refine zO ?_|refine zN ?_ _));exact BK210.out⟩,⟨by repeat (first|(with_reducible first|exact HB.out|apply zD|apply zB|apply zC|refine zI ?_ GE210.out)|exact HB.out)⟩⟩
     ·rw [if_neg c7] at H
      have c7b0:decide (t212 < 0) = false:=zV c7
      clear c7
      replace H:=zz0 H
      obtain ⟨t214,A100,H⟩:=H
      replace H:(if t214 = 0 then (some l0) else ((some (([]:List (S33)):List (S33))).bind fun y215=>(if x5_1≤(l0.length:Int) then ((some (l0.take (x5_1:Int).toNat:List (S33))).bind fun y218=>(if y215.length+y218.length < 2932031007402 then ((some (y215 ++ y218:List (S33))).bind fun y223=>(if y223.length < 2932031007402 then ((some (y223 ++ [(⟨l1_0,l1_1⟩:S33)]:List (S33))).bind fun y226=>((some (l0.drop (x5_1:Int).toNat:List (S33))).bind fun y229=>(if y226.length+y229.length < 2932031007402 then (some (y226 ++ y229)) else (none)))) else (none))) else (none))) else (none)))) = some r:=H
      have A10:=zA A100
      clear A100
      by_cases c11:t214 = 0
      ·rw [if_pos c11] at H
       have c11b0:(t214 == 0) = true:=beq_iff_eq.mpr c11
       have c11b1:(t214 != 0) = false:=bne_eq_false_iff_eq.mpr c11
       clear c11
       obtain rfl:=zb H
       try go_wp2
       have n0_:=zA (zh HO_0.out)
       have n1_:=zA (zh HO_211000.out)
       have n2_:=zA (zh HO_211001.out)
       have n3_:=zA (zO BK210.out)
       have n4_:=zA (zC HB.out)
       clear HO_0
       clear HO_211000
       clear HO_211001
       clear BK210
       clear HB
       have HO_0:=n0_
       have HO_211000:=n1_
       have HO_211001:=n2_
       have BK210:=n3_
       have HB:=n4_
       clear n0_ n1_ n2_ n3_ n4_
       have p211:0≤(x5_1:Int):=zF (by first|(with_reducible assumption)|assumption)
       have q211:x5_1 < (l0.length:Int):=zF (by first|(with_reducible assumption)|assumption)
       obtain ⟨ad211,A211_0,c211_0,A211_1,c211_1,e211,hx211_0,hx211_1,hl211_0,hi211_0,hl211_1,hi211_1⟩:=at_T33 (zs HO_0.out).2.2 x5_1 p211 q211
       cases e211
       obtain ⟨ce211,hce211,hMe211,hcc211⟩:=Kd.V_get HO_0.out z33 x5_1 p211 (by first|exact q211|exact zF (by first|(with_reducible assumption)|assumption)|(have e_:=(zs HO_0.out).1;omega))
       obtain ⟨ua211_0,uc211_0,ua211_1,uc211_1,rfl,ul211_0,ge211_0,ul211_1,ge211_1⟩:=k33_openF hMe211
       have hv211_0:=hcc211 0 _ rfl
       rw [Nat.add_zero] at hv211_0
       replace hv211_0:=zb (hv211_0.symm.trans hx211_0)
       injection hv211_0 with hva_ hvn_ hvc_
       rw [hva_] at ge211_0
       rw [hvc_] at ul211_0
       have HL211_0:=zA (show Kd.V (Kd.int .i64) 3 _ w.heap.size _ _ ((rd_T33 l0 x5_1).f0) from Kd.V_mk ul211_0 ge211_0)
       clear hva_ hvn_ hvc_ ge211_0 ul211_0
       have hv211_1:=hcc211 1 _ rfl
       rw [add_field _ _ 1 (by omega)] at hv211_1
       replace hv211_1:=zb (hv211_1.symm.trans hx211_1)
       injection hv211_1 with hva_ hvn_ hvc_
       rw [hva_] at ge211_1
       rw [hvc_] at ul211_1
       have HL211_1:=zA (show Kd.V (Kd.int .i64) 3 _ w.heap.size _ _ ((rd_T33 l0 x5_1).f1) from Kd.V_mk ul211_1 ge211_1)
       clear hva_ hvn_ hvc_ ge211_1 ul211_1
       clear hcc211 hce211
       have HR211_0:=zA hi211_0
       have HC211_0:=zA hl211_0
       clear hi211_0 hl211_0
       have HR211_1:=zA hi211_1
       have HC211_1:=zA hl211_1
       clear hi211_1 hl211_1
       replace p211:=eq_true p211
       replace q211:=eq_true q211
       refine start_ (n:=13) (S:=fun w'=>w'.cell? ⟨gb210,0,none⟩ = some (.slice A1_0 l1_0.length c1_0)∧w'.cell? ⟨gb210,1,none⟩ = some (.slice A1_1 l1_1.length c1_1)∧w'.cell? (ad211.add ((x5_1).toNat * 2)) = some (.slice A211_0 ((rd_T33 l0 x5_1).f0).length c211_0)∧w'.cell? ⟨(ad211.add ((x5_1).toNat * 2)).block,(ad211.add ((x5_1).toNat * 2)).off+1,none⟩ = some (.slice A211_1 ((rd_T33 l0 x5_1).f1).length c211_1)) (ds:=[]) #[false,false,false,false,false,false,false,false,false,false,false,false,false] (by kernel_rfl) rfl rfl ⟨(zc BK210.out 0).trans rfl,(zc BK210.out 1).trans rfl,hx211_0,hx211_1⟩ (fun hHeld=>?_);refine with_tabW spec_l3Put.tab2 spec_l3Put.bits2 (fun HT_ HW_=>?_)
       generalize wr.drew = w12 at HO_0 HO_211000 HO_211001 BK210 HB HL211_0 HL211_1 HR211_0 HR211_1 hx211_0 hx211_1 hHeld ⊢
       refine pure_ (i:=0) (N:=some 7) (v:=?_) (a':=?_) #[true,false,false,false,false,false,false,false,false,false,false,false,false] rfl rfl (any_of HT_.out (by kernel_rfl)) (fun _ _ _ h=>h) (Or.inl ⟨by rfl,?_⟩) ?_ ?_
       rotate_left
       ·intro w'
        go_simp
        with_reducible rfl
       rotate_left
       ·simp only [Act.put,zE,zG,zH,i64_w,i32_w]
        rfl
       refine pure_ (i:=1) (N:=some 8) (v:=?_) (a':=?_) #[true,true,false,false,false,false,false,false,false,false,false,false,false] rfl rfl (any_of HT_.out (by kernel_rfl)) (fun _ _ _ h=>h) (Or.inl ⟨by rfl,?_⟩) ?_ ?_
       rotate_left
       ·intro w'
        go_simp
        with_reducible rfl
       rotate_left
       ·simp only [Act.put,zE,zG,zH,i64_w,i32_w]
        rfl
       refine pure_ (i:=2) (N:=some 9) (v:=?_) (a':=?_) #[true,true,true,false,false,false,false,false,false,false,false,false,false] rfl rfl (any_of HT_.out (by kernel_rfl)) (fun _ _ _ h=>h) (Or.inl ⟨by rfl,?_⟩) ?_ ?_
       rotate_left
       ·intro w'
        go_simp
        with_reducible rfl
       rotate_left
       ·simp only [Act.put,zE,zG,zH,i64_w,i32_w]
        rfl
       refine pure_ (i:=3) (N:=some 10) (v:=?_) (a':=?_) #[true,true,true,true,false,false,false,false,false,false,false,false,false] rfl rfl (any_of HT_.out (by kernel_rfl)) (fun _ _ _ h=>h) (Or.inl ⟨by rfl,?_⟩) ?_ ?_
       rotate_left
       ·intro w'
        go_simp
        with_reducible rfl
       rotate_left
       ·simp only [Act.put,zE,zG,zH,i64_w,i32_w]
        rfl
       refine pure_ (i:=4) (N:=some 11) (v:=?_) (a':=?_) #[true,true,true,true,true,false,false,false,false,false,false,false,false] rfl rfl (any_of HT_.out (by kernel_rfl)) (fun _ _ _ h=>h) (Or.inl ⟨by rfl,?_⟩) ?_ ?_
       rotate_left
       ·intro w'
        go_simp
        with_reducible rfl
       rotate_left
       ·simp only [Act.put,zE,zG,zH,i64_w,i32_w]
        rfl
       refine pure_ (i:=5) (N:=some 12) (v:=?_) (a':=?_) #[true,true,true,true,true,true,false,false,false,false,false,false,false] rfl rfl (any_of HT_.out (by kernel_rfl)) (fun _ _ _ h=>h) (Or.inl ⟨by rfl,?_⟩) ?_ ?_
       rotate_left
       ·intro w'
        go_simp
        with_reducible rfl
       rotate_left
       ·simp only [Act.put,zE,zG,zH,i64_w,i32_w]
        rfl
       refine pure_ (i:=6) (N:=some 13) (v:=?_) (a':=?_) #[true,true,true,true,true,true,true,false,false,false,false,false,false] rfl rfl (any_of HT_.out (by kernel_rfl)) (fun _ _ _ h=>h) (Or.inl ⟨by rfl,?_⟩) ?_ ?_
       rotate_left
       ·intro w'
        go_simp
        with_reducible rfl
       rotate_left
       ·simp only [Act.put,zE,zG,zH,i64_w,i32_w]
        rfl
       refine pure_ (i:=7) (N:=some 14) (v:=?_) (a':=?_) #[true,true,true,true,true,true,true,true,false,false,false,false,false] rfl rfl (any_of HT_.out (by kernel_rfl)) (fun _ _ _ h=>h) (Or.inl ⟨by rfl,?_⟩) ?_ ?_
       rotate_left
       ·intro w'
        go_simp
        with_reducible rfl
       rotate_left
       ·simp only [Act.put,zE,zG,zH,i64_w,i32_w]
        rfl
       refine take_ (i:=8) (N:=some 15) (v:=?_) (a':=?_) #[true,true,true,true,true,true,true,true,true,false,false,false,false] rfl rfl (take_ofW HT_.out HW_.out (by kernel_rfl)) (fun _ _ _ h=>h) (Or.inl ⟨by rfl,?_⟩) hHeld ?_ ?_
       rotate_left
       ·rintro w' ⟨s0,s1,s2,s3⟩
        go_simp
        with_reducible rfl
       rotate_left
       ·simp only [Act.put,zE,zG,zH,i64_w,i32_w]
        rfl
       refine take_ (i:=9) (N:=some 16) (v:=?_) (a':=?_) #[true,true,true,true,true,true,true,true,true,true,false,false,false] rfl rfl (take_ofW HT_.out HW_.out (by kernel_rfl)) (fun _ _ _ h=>h) (Or.inl ⟨by rfl,?_⟩) hHeld ?_ ?_
       rotate_left
       ·rintro w' ⟨s0,s1,s2,s3⟩
        go_simp
        with_reducible rfl
       rotate_left
       ·simp only [Act.put,zE,zG,zH,i64_w,i32_w]
        rfl
       refine one_ (i:=10) (N:=some 17) #[true,true,true,true,true,true,true,true,true,true,true,false,false] rfl rfl (one_of HT_.out (by kernel_rfl)) (by decide) (fun K hK=>?_)
       refine goes_ Try.func83 (by kernel_rfl) rfl #[.agg #[.slice A211_0 ((rd_T33 l0 x5_1).f0).length c211_0,.slice A211_1 ((rd_T33 l0 x5_1).f1).length c211_1],.agg #[.slice A1_0 l1_0.length c1_0,.slice A1_1 l1_1.length c1_1]] (by rfl) rfl rfl (by (try simp only [zP,zS,zT]);first|done|rfl|(simp only [zR,zQ];rfl)) ?_
       with_reducible refine (spec_l2Before.calls k1 _ _ ((rd_T33 l0 x5_1).f0) _ _ ((rd_T33 l0 x5_1).f1) _ _ l1_0 _ _ l1_1 t212 _ ?side1 ?side2 ?side3 ?side4 ?side5 ?side6 ?side7 ?side8 A6.out).mono ?_
       (case side1=>repeat (first|exact (by repeat (first|(with_reducible exact HR211_0.out)|(with_reducible refine zW ?_ _)|(with_reducible refine zX ?_ _)|(with_reducible refine zY ?_)|exact HR211_0.out))|(with_reducible refine zW ?_ _)|(with_reducible refine zX ?_ _)|(with_reducible refine zY ?_)))
       (case side2=>exact HC211_0.out)
       (case side3=>repeat (first|exact (by repeat (first|(with_reducible exact HR211_1.out)|(with_reducible refine zW ?_ _)|(with_reducible refine zX ?_ _)|(with_reducible refine zY ?_)|exact HR211_1.out))|(with_reducible refine zW ?_ _)|(with_reducible refine zX ?_ _)|(with_reducible refine zY ?_)))
       (case side4=>exact HC211_1.out)
       (case side5=>repeat (first|exact (zs HO_211000.out).2.2|(with_reducible refine zW ?_ _)|(with_reducible refine zX ?_ _)|(with_reducible refine zY ?_)))
       (case side6=>exact (zs HO_211000.out).2.1)
       (case side7=>repeat (first|exact (zs HO_211001.out).2.2|(with_reducible refine zW ?_ _)|(with_reducible refine zX ?_ _)|(with_reducible refine zY ?_)))
       (case side8=>exact (zs HO_211001.out).2.1)
       rintro e w13 ⟨rfl,hb⟩
       have HS2_:=(hb.cell (zk _ _ (hHeld.2.2.1))).trans (hHeld.2.2.1)
       have HS3_:=(hb.cell (zk _ _ (hHeld.2.2.2))).trans (hHeld.2.2.2)
       refine ⟨_,rfl,?_⟩
       have n0_:=zA (Kd.V_below (by (with_reducible repeat (first|apply zi|apply zj|apply zh));exact HO_0.out) hb)
       have n1_:=zA (Kd.V_below (by (with_reducible repeat (first|apply zi|apply zj|apply zh));exact HO_211000.out) hb)
       have n2_:=zA (Kd.V_below (by (with_reducible repeat (first|apply zi|apply zj|apply zh));exact HO_211001.out) hb)
       have n3_:=zA (Kd.V_below (by (with_reducible repeat (first|apply zi|apply zj|apply zh));exact HL211_0.out) hb)
       have n4_:=zA (Kd.V_below (by (with_reducible repeat (first|apply zi|apply zj|apply zh));exact HL211_1.out) hb)
       have n5_:=zA (zg (g:=gb210) (o:=.cells #[.slice A1_0 l1_0.length c1_0,.slice A1_1 l1_1.length c1_1] 33 (0,0)) (by (with_reducible repeat (first|refine zM ?_ _|refine zO ?_|refine zN ?_ _));exact BK210.out) hb)
       have n6_:=zA (zf (by repeat (first|(with_reducible exact HR211_0.out)|(with_reducible refine zW ?_ _)|(with_reducible refine zX ?_ _)|(with_reducible refine zY ?_)|exact HR211_0.out)) hb)
       have n7_:=zA (zf (by repeat (first|(with_reducible exact HR211_1.out)|(with_reducible refine zW ?_ _)|(with_reducible refine zX ?_ _)|(with_reducible refine zY ?_)|exact HR211_1.out)) hb)
       have n8_:=zA (za (by repeat (first|(with_reducible first|exact HB.out|apply zD|apply zB|apply zC|refine zI ?_ GE210.out)|exact HB.out)) hb)
       clear HO_0
       clear HO_211000
       clear HO_211001
       clear HL211_0
       clear HL211_1
       clear BK210
       clear HR211_0
       clear HR211_1
       clear HB
       have HO_0:=n0_
       have HO_211000:=n1_
       have HO_211001:=n2_
       have HL211_0:=n3_
       have HL211_1:=n4_
       have BK210:=n5_
       have HR211_0:=n6_
       have HR211_1:=n7_
       have HB:=n8_
       clear n0_ n1_ n2_ n3_ n4_ n5_ n6_ n7_ n8_
       (try clear hb)
       (try clear hb2)
       (try clear hk)
       (try clear hi)
       refine hK.out _ _ ⟨(zc BK210.out 0).trans rfl,(zc BK210.out 1).trans rfl,HS2_,HS3_⟩ (fun hHeld=>?_)
       clear hK K
       refine norm_ (a':=?_) ?_ ?_
       rotate_left
       ·show Act.put _ (some 17) _ = _
        simp only [Act.put,zE,zG,zH,i64_w,i32_w]
        rfl
       refine pure_ (i:=11) (N:=some 18) (v:=?_) (a':=?_) #[true,true,true,true,true,true,true,true,true,true,true,true,false] rfl rfl (any_of HT_.out (by kernel_rfl)) (fun _ _ _ h=>h) (Or.inl ⟨by rfl,?_⟩) ?_ ?_
       rotate_left
       ·intro w'
        go_simp
        with_reducible rfl
       rotate_left
       ·simp only [Act.put,zE,zG,zH,i64_w,i32_w]
        rfl
       refine pure_ (i:=12) (N:=some 19) (v:=?_) (a':=?_) #[true,true,true,true,true,true,true,true,true,true,true,true,true] rfl rfl (any_of HT_.out (by kernel_rfl)) (fun _ _ _ h=>h) (Or.inl ⟨by rfl,?_⟩) ?_ ?_
       rotate_left
       ·intro w'
        go_simp
        with_reducible rfl
       rotate_left
       ·simp only [Act.put,zE,zG,zH,i64_w,i32_w]
        rfl
       refine done_ (done_of HT_.out (by kernel_rfl)) ?_
       try go_wp2
       have n0_:=zA (zh HO_0.out)
       have n1_:=zA (zh HO_211000.out)
       have n2_:=zA (zh HO_211001.out)
       have n3_:=zA (zh HL211_0.out)
       have n4_:=zA (zh HL211_1.out)
       have n5_:=zA (zO BK210.out)
       have n6_:=zA (zY HR211_0.out)
       have n7_:=zA (zY HR211_1.out)
       have n8_:=zA (zC HB.out)
       clear HO_0
       clear HO_211000
       clear HO_211001
       clear HL211_0
       clear HL211_1
       clear BK210
       clear HR211_0
       clear HR211_1
       clear HB
       have HO_0:=n0_
       have HO_211000:=n1_
       have HO_211001:=n2_
       have HL211_0:=n3_
       have HL211_1:=n4_
       have BK210:=n5_
       have HR211_0:=n6_
       have HR211_1:=n7_
       have HB:=n8_
       clear n0_ n1_ n2_ n3_ n4_ n5_ n6_ n7_ n8_
       have p213:0≤(x5_1:Int):=zF (by first|(with_reducible assumption)|assumption)
       have q213:x5_1 < (l0.length:Int):=zF (by first|(with_reducible assumption)|assumption)
       obtain ⟨ad213,A213_0,c213_0,A213_1,c213_1,e213,hx213_0,hx213_1,hl213_0,hi213_0,hl213_1,hi213_1⟩:=at_T33 (zs HO_0.out).2.2 x5_1 p213 q213
       obtain rfl:ad211 = ad213:=(by injection e213)
       obtain ⟨ce213,hce213,hMe213,hcc213⟩:=Kd.V_get HO_0.out z33 x5_1 p213 (by first|exact q213|exact zF (by first|(with_reducible assumption)|assumption)|(have e_:=(zs HO_0.out).1;omega))
       obtain ⟨ua213_0,uc213_0,ua213_1,uc213_1,rfl,ul213_0,ge213_0,ul213_1,ge213_1⟩:=k33_openF hMe213
       have hv213_0:=hcc213 0 _ rfl
       rw [Nat.add_zero] at hv213_0
       replace hv213_0:=zb (hv213_0.symm.trans hx213_0)
       injection hv213_0 with hva_ hvn_ hvc_
       rw [hva_] at ge213_0
       rw [hvc_] at ul213_0
       have HL213_0:=zA (show Kd.V (Kd.int .i64) 3 _ w.heap.size _ _ ((rd_T33 l0 x5_1).f0) from Kd.V_mk ul213_0 ge213_0)
       clear hva_ hvn_ hvc_ ge213_0 ul213_0
       have hv213_1:=hcc213 1 _ rfl
       rw [add_field _ _ 1 (by omega)] at hv213_1
       replace hv213_1:=zb (hv213_1.symm.trans hx213_1)
       injection hv213_1 with hva_ hvn_ hvc_
       rw [hva_] at ge213_1
       rw [hvc_] at ul213_1
       have HL213_1:=zA (show Kd.V (Kd.int .i64) 3 _ w.heap.size _ _ ((rd_T33 l0 x5_1).f1) from Kd.V_mk ul213_1 ge213_1)
       clear hva_ hvn_ hvc_ ge213_1 ul213_1
       clear hcc213 hce213
       have HR213_0:=zA hi213_0
       have HC213_0:=zA hl213_0
       clear hi213_0 hl213_0
       have HR213_1:=zA hi213_1
       have HC213_1:=zA hl213_1
       clear hi213_1 hl213_1
       replace p213:=eq_true p213
       replace q213:=eq_true q213
       refine start_ (n:=13) (S:=fun w'=>w'.cell? ⟨gb210,0,none⟩ = some (.slice A1_0 l1_0.length c1_0)∧w'.cell? ⟨gb210,1,none⟩ = some (.slice A1_1 l1_1.length c1_1)∧w'.cell? (ad211.add ((x5_1).toNat * 2)) = some (.slice A213_0 ((rd_T33 l0 x5_1).f0).length c213_0)∧w'.cell? ⟨(ad211.add ((x5_1).toNat * 2)).block,(ad211.add ((x5_1).toNat * 2)).off+1,none⟩ = some (.slice A213_1 ((rd_T33 l0 x5_1).f1).length c213_1)) (ds:=[]) #[false,false,false,false,false,false,false,false,false,false,false,false,false] (by kernel_rfl) rfl rfl ⟨(zc BK210.out 0).trans rfl,(zc BK210.out 1).trans rfl,hx213_0,hx213_1⟩ (fun hHeld=>?_);refine with_tabW spec_l3Put.tab4 spec_l3Put.bits4 (fun HT_ HW_=>?_)
       generalize w13.drew = w14 at HO_0 HO_211000 HO_211001 HL211_0 HL211_1 BK210 HR211_0 HR211_1 HB HL213_0 HL213_1 HR213_0 HR213_1 hx213_0 hx213_1 hHeld ⊢
       refine pure_ (i:=0) (N:=some 22) (v:=?_) (a':=?_) #[true,false,false,false,false,false,false,false,false,false,false,false,false] rfl rfl (any_of HT_.out (by kernel_rfl)) (fun _ _ _ h=>h) (Or.inl ⟨by rfl,?_⟩) ?_ ?_
       rotate_left
       ·intro w'
        go_simp
        with_reducible rfl
       rotate_left
       ·simp only [Act.put,zE,zG,zH,i64_w,i32_w]
        rfl
       refine pure_ (i:=1) (N:=some 23) (v:=?_) (a':=?_) #[true,true,false,false,false,false,false,false,false,false,false,false,false] rfl rfl (any_of HT_.out (by kernel_rfl)) (fun _ _ _ h=>h) (Or.inl ⟨by rfl,?_⟩) ?_ ?_
       rotate_left
       ·intro w'
        go_simp
        with_reducible rfl
       rotate_left
       ·simp only [Act.put,zE,zG,zH,i64_w,i32_w]
        rfl
       refine pure_ (i:=2) (N:=some 24) (v:=?_) (a':=?_) #[true,true,true,false,false,false,false,false,false,false,false,false,false] rfl rfl (any_of HT_.out (by kernel_rfl)) (fun _ _ _ h=>h) (Or.inl ⟨by rfl,?_⟩) ?_ ?_
       rotate_left
       ·intro w'
        go_simp
        with_reducible rfl
       rotate_left
       ·simp only [Act.put,zE,zG,zH,i64_w,i32_w]
        rfl
       refine pure_ (i:=3) (N:=some 25) (v:=?_) (a':=?_) #[true,true,true,true,false,false,false,false,false,false,false,false,false] rfl rfl (any_of HT_.out (by kernel_rfl)) (fun _ _ _ h=>h) (Or.inl ⟨by rfl,?_⟩) ?_ ?_
       rotate_left
       ·intro w'
        go_simp
        with_reducible rfl
       rotate_left
       ·simp only [Act.put,zE,zG,zH,i64_w,i32_w]
        rfl
       refine pure_ (i:=4) (N:=some 26) (v:=?_) (a':=?_) #[true,true,true,true,true,false,false,false,false,false,false,false,false] rfl rfl (any_of HT_.out (by kernel_rfl)) (fun _ _ _ h=>h) (Or.inl ⟨by rfl,?_⟩) ?_ ?_
       rotate_left
       ·intro w'
        go_simp
        with_reducible rfl
       rotate_left
       ·simp only [Act.put,zE,zG,zH,i64_w,i32_w]
        rfl
       refine pure_ (i:=5) (N:=some 27) (v:=?_) (a':=?_) #[true,true,true,true,true,true,false,false,false,false,false,false,false] rfl rfl (any_of HT_.out (by kernel_rfl)) (fun _ _ _ h=>h) (Or.inl ⟨by rfl,?_⟩) ?_ ?_
       rotate_left
       ·intro w'
        go_simp
        with_reducible rfl
       rotate_left
       ·simp only [Act.put,zE,zG,zH,i64_w,i32_w]
        rfl
       refine pure_ (i:=6) (N:=some 28) (v:=?_) (a':=?_) #[true,true,true,true,true,true,true,false,false,false,false,false,false] rfl rfl (any_of HT_.out (by kernel_rfl)) (fun _ _ _ h=>h) (Or.inl ⟨by rfl,?_⟩) ?_ ?_
       rotate_left
       ·intro w'
        go_simp
        with_reducible rfl
       rotate_left
       ·simp only [Act.put,zE,zG,zH,i64_w,i32_w]
        rfl
       refine pure_ (i:=7) (N:=some 29) (v:=?_) (a':=?_) #[true,true,true,true,true,true,true,true,false,false,false,false,false] rfl rfl (any_of HT_.out (by kernel_rfl)) (fun _ _ _ h=>h) (Or.inl ⟨by rfl,?_⟩) ?_ ?_
       rotate_left
       ·intro w'
        go_simp
        with_reducible rfl
       rotate_left
       ·simp only [Act.put,zE,zG,zH,i64_w,i32_w]
        rfl
       refine take_ (i:=8) (N:=some 30) (v:=?_) (a':=?_) #[true,true,true,true,true,true,true,true,true,false,false,false,false] rfl rfl (take_ofW HT_.out HW_.out (by kernel_rfl)) (fun _ _ _ h=>h) (Or.inl ⟨by rfl,?_⟩) hHeld ?_ ?_
       rotate_left
       ·rintro w' ⟨s0,s1,s2,s3⟩
        go_simp
        with_reducible rfl
       rotate_left
       ·simp only [Act.put,zE,zG,zH,i64_w,i32_w]
        rfl
       refine take_ (i:=9) (N:=some 31) (v:=?_) (a':=?_) #[true,true,true,true,true,true,true,true,true,true,false,false,false] rfl rfl (take_ofW HT_.out HW_.out (by kernel_rfl)) (fun _ _ _ h=>h) (Or.inl ⟨by rfl,?_⟩) hHeld ?_ ?_
       rotate_left
       ·rintro w' ⟨s0,s1,s2,s3⟩
        go_simp
        with_reducible rfl
       rotate_left
       ·simp only [Act.put,zE,zG,zH,i64_w,i32_w]
        rfl
       refine one_ (i:=10) (N:=some 32) #[true,true,true,true,true,true,true,true,true,true,true,false,false] rfl rfl (one_of HT_.out (by kernel_rfl)) (by decide) (fun K hK=>?_)
       refine goes_ Try.func83 (by kernel_rfl) rfl #[.agg #[.slice A213_0 ((rd_T33 l0 x5_1).f0).length c213_0,.slice A213_1 ((rd_T33 l0 x5_1).f1).length c213_1],.agg #[.slice A1_0 l1_0.length c1_0,.slice A1_1 l1_1.length c1_1]] (by rfl) rfl rfl (by (try simp only [zP,zS,zT]);first|done|rfl|(simp only [zR,zQ];rfl)) ?_
       with_reducible refine (spec_l2Before.calls k1 _ _ ((rd_T33 l0 x5_1).f0) _ _ ((rd_T33 l0 x5_1).f1) _ _ l1_0 _ _ l1_1 t214 _ ?side1 ?side2 ?side3 ?side4 ?side5 ?side6 ?side7 ?side8 A10.out).mono ?_
       (case side1=>repeat (first|exact (by repeat (first|(with_reducible exact HR213_0.out)|(with_reducible refine zW ?_ _)|(with_reducible refine zX ?_ _)|(with_reducible refine zY ?_)|exact HR213_0.out))|(with_reducible refine zW ?_ _)|(with_reducible refine zX ?_ _)|(with_reducible refine zY ?_)))
       (case side2=>exact HC213_0.out)
       (case side3=>repeat (first|exact (by repeat (first|(with_reducible exact HR213_1.out)|(with_reducible refine zW ?_ _)|(with_reducible refine zX ?_ _)|(with_reducible refine zY ?_)|exact HR213_1.out))|(with_reducible refine zW ?_ _)|(with_reducible refine zX ?_ _)|(with_reducible refine zY ?_)))
       (case side4=>exact HC213_1.out)
       (case side5=>repeat (first|exact (zs HO_211000.out).2.2|(with_reducible refine zW ?_ _)|(with_reducible refine zX ?_ _)|(with_reducible refine zY ?_)))
       (case side6=>exact (zs HO_211000.out).2.1)
       (case side7=>repeat (first|exact (zs HO_211001.out).2.2|(with_reducible refine zW ?_ _)|(with_reducible refine zX ?_ _)|(with_reducible refine zY ?_)))
       (case side8=>exact (zs HO_211001.out).2.1)
       rintro e w15 ⟨rfl,hb⟩
       have HS2_:=(hb.cell (zk _ _ (hHeld.2.2.1))).trans (hHeld.2.2.1)
       have HS3_:=(hb.cell (zk _ _ (hHeld.2.2.2))).trans (hHeld.2.2.2)
       refine ⟨_,rfl,?_⟩
       have n0_:=zA (Kd.V_below (by (with_reducible repeat (first|apply zi|apply zj|apply zh));exact HO_0.out) hb)
       have n1_:=zA (Kd.V_below (by (with_reducible repeat (first|apply zi|apply zj|apply zh));exact HO_211000.out) hb)
       have n2_:=zA (Kd.V_below (by (with_reducible repeat (first|apply zi|apply zj|apply zh));exact HO_211001.out) hb)
       have n3_:=zA (Kd.V_below (by (with_reducible repeat (first|apply zi|apply zj|apply zh));exact HL211_0.out) hb)
       have n4_:=zA (Kd.V_below (by (with_reducible repeat (first|apply zi|apply zj|apply zh));exact HL211_1.out) hb)
       have n5_:=zA (Kd.V_below (by (with_reducible repeat (first|apply zi|apply zj|apply zh));exact HL213_0.out) hb)
       have n6_:=zA (Kd.V_below (by (with_reducible repeat (first|apply zi|apply zj|apply zh));exact HL213_1.out) hb)
       have n7_:=zA (zg (g:=gb210) (o:=.cells #[.slice A1_0 l1_0.length c1_0,.slice A1_1 l1_1.length c1_1] 33 (0,0)) (by (with_reducible repeat (first|refine zM ?_ _|refine zO ?_|refine zN ?_ _));exact BK210.out) hb)
       have n8_:=zA (zf (by repeat (first|(with_reducible exact HR211_0.out)|(with_reducible refine zW ?_ _)|(with_reducible refine zX ?_ _)|(with_reducible refine zY ?_)|exact HR211_0.out)) hb)
       have n9_:=zA (zf (by repeat (first|(with_reducible exact HR211_1.out)|(with_reducible refine zW ?_ _)|(with_reducible refine zX ?_ _)|(with_reducible refine zY ?_)|exact HR211_1.out)) hb)
       have n10_:=zA (zf (by repeat (first|(with_reducible exact HR213_0.out)|(with_reducible refine zW ?_ _)|(with_reducible refine zX ?_ _)|(with_reducible refine zY ?_)|exact HR213_0.out)) hb)
       have n11_:=zA (zf (by repeat (first|(with_reducible exact HR213_1.out)|(with_reducible refine zW ?_ _)|(with_reducible refine zX ?_ _)|(with_reducible refine zY ?_)|exact HR213_1.out)) hb)
       have n12_:=zA (za (by repeat (first|(with_reducible first|exact HB.out|apply zD|apply zB|apply zC|refine zI ?_ GE210.out)|exact HB.out)) hb)
       clear HO_0
       clear HO_211000
       clear HO_211001
       clear HL211_0
       clear HL211_1
       clear HL213_0
       clear HL213_1
       clear BK210
       clear HR211_0
       clear HR211_1
       clear HR213_0
       clear HR213_1
       clear HB
       have HO_0:=n0_
       have HO_211000:=n1_
       have HO_211001:=n2_
       have HL211_0:=n3_
       have HL211_1:=n4_
       have HL213_0:=n5_
       have HL213_1:=n6_
       have BK210:=n7_
       have HR211_0:=n8_
       have HR211_1:=n9_
       have HR213_0:=n10_
       have HR213_1:=n11_
       have HB:=n12_
       clear n0_ n1_ n2_ n3_ n4_ n5_ n6_ n7_ n8_ n9_ n10_ n11_ n12_
       (try clear hb)
       (try clear hb2)
       (try clear hk)
       (try clear hi)
       refine hK.out _ _ ⟨(zc BK210.out 0).trans rfl,(zc BK210.out 1).trans rfl,HS2_,HS3_⟩ (fun hHeld=>?_)
       clear hK K
       refine norm_ (a':=?_) ?_ ?_
       rotate_left
       ·show Act.put _ (some 32) _ = _
        simp only [Act.put,zE,zG,zH,i64_w,i32_w]
        rfl
       refine pure_ (i:=11) (N:=some 33) (v:=?_) (a':=?_) #[true,true,true,true,true,true,true,true,true,true,true,true,false] rfl rfl (any_of HT_.out (by kernel_rfl)) (fun _ _ _ h=>h) (Or.inl ⟨by rfl,?_⟩) ?_ ?_
       rotate_left
       ·intro w'
        go_simp
        with_reducible rfl
       rotate_left
       ·simp only [Act.put,zE,zG,zH,i64_w,i32_w]
        rfl
       refine pure_ (i:=12) (N:=some 34) (v:=?_) (a':=?_) #[true,true,true,true,true,true,true,true,true,true,true,true,true] rfl rfl (any_of HT_.out (by kernel_rfl)) (fun _ _ _ h=>h) (Or.inl ⟨by rfl,?_⟩) ?_ ?_
       rotate_left
       ·intro w'
        go_simp
        with_reducible rfl
       rotate_left
       ·simp only [Act.put,zE,zG,zH,i64_w,i32_w]
        rfl
       refine done_ (done_of HT_.out (by kernel_rfl)) ?_
       try go_wp2
       go_ret
       exact ⟨_,by first|rfl|(simp [errW_none,errW_some] <;> rfl)|(simp [*,errW_none,errW_some] <;> rfl),by (with_reducible repeat (first|apply zi|apply zj|apply zh));exact Kd.V_mono HO_0.out (fun _ hk=>hk.1),by repeat (first|(with_reducible first|exact HB.out|apply zD|apply zB|apply zC|refine zI ?_ GE210.out)|exact HB.out)⟩
      ·rw [if_neg c11] at H
       have c11b0:(t214 == 0) = false:=beq_eq_false_iff_ne.mpr c11
       have c11b1:(t214 != 0) = true:=bne_iff_ne.mpr c11
       obtain ⟨y215,hy215⟩:∃ y_:List (S33),y_ = (([]:List (S33))):=⟨_,rfl⟩
       replace H:(if x5_1≤(l0.length:Int) then ((some (l0.take (x5_1:Int).toNat:List (S33))).bind fun y218=>(if y215.length+y218.length < 2932031007402 then ((some (y215 ++ y218:List (S33))).bind fun y223=>(if y223.length < 2932031007402 then ((some (y223 ++ [(⟨l1_0,l1_1⟩:S33)]:List (S33))).bind fun y226=>((some (l0.drop (x5_1:Int).toNat:List (S33))).bind fun y229=>(if y226.length+y229.length < 2932031007402 then (some (y226 ++ y229)) else (none)))) else (none))) else (none))) else (none)) = some r:=by first|(rw [hy215];with_reducible exact H)|(have H2_:=(Option.bind_some _ _).symm.trans H;rw [hy215];with_reducible exact H2_)|(have H2_:=(Option.bind_some _ _).symm.trans H;with_reducible exact H2_)|with_reducible exact H|(rw [hy215];exact H)|exact H
       have Ny215:=zA hy215
       clear hy215
       have c16b0:=eq_true (zF (by first|(with_reducible assumption)|assumption):0≤x5_1)
       by_cases c17:x5_1≤(l0.length:Int)
       ·rw [if_pos c17] at H
        have c17b0:=eq_true c17
        have c17b1:decide (x5_1≤(l0.length:Int)) = true:=zU c17
        clear c17
        obtain ⟨y218,hy218⟩:∃ y_:List (S33),y_ = (l0.take (x5_1:Int).toNat):=⟨_,rfl⟩
        replace H:(if y215.length+y218.length < 2932031007402 then ((some (y215 ++ y218:List (S33))).bind fun y223=>(if y223.length < 2932031007402 then ((some (y223 ++ [(⟨l1_0,l1_1⟩:S33)]:List (S33))).bind fun y226=>((some (l0.drop (x5_1:Int).toNat:List (S33))).bind fun y229=>(if y226.length+y229.length < 2932031007402 then (some (y226 ++ y229)) else (none)))) else (none))) else (none)) = some r:=by first|(rw [hy218];with_reducible exact H)|(have H2_:=(Option.bind_some _ _).symm.trans H;rw [hy218];with_reducible exact H2_)|(have H2_:=(Option.bind_some _ _).symm.trans H;with_reducible exact H2_)|with_reducible exact H|(rw [hy218];exact H)|exact H
        have Ny218:=zA hy218
        clear hy218
        by_cases c18:y215.length+y218.length < 2932031007402
        ·rw [if_pos c18] at H
         have LMc18:=zA c18
         clear c18
         obtain ⟨y223,hy223⟩:∃ y_:List (S33),y_ = (y215 ++ y218):=⟨_,rfl⟩
         replace H:(if y223.length < 2932031007402 then ((some (y223 ++ [(⟨l1_0,l1_1⟩:S33)]:List (S33))).bind fun y226=>((some (l0.drop (x5_1:Int).toNat:List (S33))).bind fun y229=>(if y226.length+y229.length < 2932031007402 then (some (y226 ++ y229)) else (none)))) else (none)) = some r:=by first|(rw [hy223];with_reducible exact H)|(have H2_:=(Option.bind_some _ _).symm.trans H;rw [hy223];with_reducible exact H2_)|(have H2_:=(Option.bind_some _ _).symm.trans H;with_reducible exact H2_)|with_reducible exact H|(rw [hy223];exact H)|exact H
         have Ny223:=zA hy223
         clear hy223
         by_cases c19:y223.length < 2932031007402
         ·rw [if_pos c19] at H
          have LMc19:=zA c19
          clear c19
          obtain ⟨y226,hy226⟩:∃ y_:List (S33),y_ = (y223 ++ [(⟨l1_0,l1_1⟩:S33)]):=⟨_,rfl⟩
          replace H:((some (l0.drop (x5_1:Int).toNat:List (S33))).bind fun y229=>(if y226.length+y229.length < 2932031007402 then (some (y226 ++ y229)) else (none))) = some r:=by first|(rw [hy226];with_reducible exact H)|(have H2_:=(Option.bind_some _ _).symm.trans H;rw [hy226];with_reducible exact H2_)|(have H2_:=(Option.bind_some _ _).symm.trans H;with_reducible exact H2_)|with_reducible exact H|(rw [hy226];exact H)|exact H
          have Ny226:=zA hy226
          clear hy226
          have c20b0:=eq_true (zF (by first|(with_reducible assumption)|assumption):0≤x5_1)
          have c21b0:=eq_true (zF (by first|(with_reducible assumption)|assumption):x5_1≤(l0.length:Int))
          obtain ⟨y229,hy229⟩:∃ y_:List (S33),y_ = (l0.drop (x5_1:Int).toNat):=⟨_,rfl⟩
          replace H:(if y226.length+y229.length < 2932031007402 then (some (y226 ++ y229)) else (none)) = some r:=by first|(rw [hy229];with_reducible exact H)|(have H2_:=(Option.bind_some _ _).symm.trans H;rw [hy229];with_reducible exact H2_)|(have H2_:=(Option.bind_some _ _).symm.trans H;with_reducible exact H2_)|with_reducible exact H|(rw [hy229];exact H)|exact H
          have Ny229:=zA hy229
          clear hy229
          by_cases c22:y226.length+y229.length < 2932031007402
          ·rw [if_pos c22] at H
           have LMc22:=zA c22
           clear c22
           obtain ⟨y234,hy234⟩:∃ y_:List (S33),y_ = (y226 ++ y229):=⟨_,rfl⟩
           replace H:(some y234) = some r:=by first|(rw [hy234];with_reducible exact H)|(have H2_:=(Option.bind_some _ _).symm.trans H;rw [hy234];with_reducible exact H2_)|(have H2_:=(Option.bind_some _ _).symm.trans H;with_reducible exact H2_)|with_reducible exact H|(rw [hy234];exact H)|exact H
           have Ny234:=zA hy234
           clear hy234
           obtain rfl:=zb H
           try go_wp2
           have n0_:=zA (zh HO_0.out)
           have n1_:=zA (zh HO_211000.out)
           have n2_:=zA (zh HO_211001.out)
           have n3_:=zA (zO BK210.out)
           have n4_:=zA (zC HB.out)
           clear HO_0
           clear HO_211000
           clear HO_211001
           clear BK210
           clear HB
           have HO_0:=n0_
           have HO_211000:=n1_
           have HO_211001:=n2_
           have BK210:=n3_
           have HB:=n4_
           clear n0_ n1_ n2_ n3_ n4_
           have p211:0≤(x5_1:Int):=zF (by first|(with_reducible assumption)|assumption)
           have q211:x5_1 < (l0.length:Int):=zF (by first|(with_reducible assumption)|assumption)
           obtain ⟨ad211,A211_0,c211_0,A211_1,c211_1,e211,hx211_0,hx211_1,hl211_0,hi211_0,hl211_1,hi211_1⟩:=at_T33 (zs HO_0.out).2.2 x5_1 p211 q211
           cases e211
           obtain ⟨ce211,hce211,hMe211,hcc211⟩:=Kd.V_get HO_0.out z33 x5_1 p211 (by first|exact q211|exact zF (by first|(with_reducible assumption)|assumption)|(have e_:=(zs HO_0.out).1;omega))
           obtain ⟨ua211_0,uc211_0,ua211_1,uc211_1,rfl,ul211_0,ge211_0,ul211_1,ge211_1⟩:=k33_openF hMe211
           have hv211_0:=hcc211 0 _ rfl
           rw [Nat.add_zero] at hv211_0
           replace hv211_0:=zb (hv211_0.symm.trans hx211_0)
           injection hv211_0 with hva_ hvn_ hvc_
           rw [hva_] at ge211_0
           rw [hvc_] at ul211_0
           have HL211_0:=zA (show Kd.V (Kd.int .i64) 3 _ w.heap.size _ _ ((rd_T33 l0 x5_1).f0) from Kd.V_mk ul211_0 ge211_0)
           clear hva_ hvn_ hvc_ ge211_0 ul211_0
           have hv211_1:=hcc211 1 _ rfl
           rw [add_field _ _ 1 (by omega)] at hv211_1
           replace hv211_1:=zb (hv211_1.symm.trans hx211_1)
           injection hv211_1 with hva_ hvn_ hvc_
           rw [hva_] at ge211_1
           rw [hvc_] at ul211_1
           have HL211_1:=zA (show Kd.V (Kd.int .i64) 3 _ w.heap.size _ _ ((rd_T33 l0 x5_1).f1) from Kd.V_mk ul211_1 ge211_1)
           clear hva_ hvn_ hvc_ ge211_1 ul211_1
           clear hcc211 hce211
           have HR211_0:=zA hi211_0
           have HC211_0:=zA hl211_0
           clear hi211_0 hl211_0
           have HR211_1:=zA hi211_1
           have HC211_1:=zA hl211_1
           clear hi211_1 hl211_1
           replace p211:=eq_true p211
           replace q211:=eq_true q211
           refine start_ (n:=13) (S:=fun w'=>w'.cell? ⟨gb210,0,none⟩ = some (.slice A1_0 l1_0.length c1_0)∧w'.cell? ⟨gb210,1,none⟩ = some (.slice A1_1 l1_1.length c1_1)∧w'.cell? (ad211.add ((x5_1).toNat * 2)) = some (.slice A211_0 ((rd_T33 l0 x5_1).f0).length c211_0)∧w'.cell? ⟨(ad211.add ((x5_1).toNat * 2)).block,(ad211.add ((x5_1).toNat * 2)).off+1,none⟩ = some (.slice A211_1 ((rd_T33 l0 x5_1).f1).length c211_1)) (ds:=[]) #[false,false,false,false,false,false,false,false,false,false,false,false,false] (by kernel_rfl) rfl rfl ⟨(zc BK210.out 0).trans rfl,(zc BK210.out 1).trans rfl,hx211_0,hx211_1⟩ (fun hHeld=>?_);refine with_tabW spec_l3Put.tab2 spec_l3Put.bits2 (fun HT_ HW_=>?_)
           generalize wr.drew = w23 at HO_0 HO_211000 HO_211001 BK210 HB HL211_0 HL211_1 HR211_0 HR211_1 hx211_0 hx211_1 hHeld ⊢
           refine pure_ (i:=0) (N:=some 7) (v:=?_) (a':=?_) #[true,false,false,false,false,false,false,false,false,false,false,false,false] rfl rfl (any_of HT_.out (by kernel_rfl)) (fun _ _ _ h=>h) (Or.inl ⟨by rfl,?_⟩) ?_ ?_
           rotate_left
           ·intro w'
            go_simp
            with_reducible rfl
           rotate_left
           ·simp only [Act.put,zE,zG,zH,i64_w,i32_w]
            rfl
           refine pure_ (i:=1) (N:=some 8) (v:=?_) (a':=?_) #[true,true,false,false,false,false,false,false,false,false,false,false,false] rfl rfl (any_of HT_.out (by kernel_rfl)) (fun _ _ _ h=>h) (Or.inl ⟨by rfl,?_⟩) ?_ ?_
           rotate_left
           ·intro w'
            go_simp
            with_reducible rfl
           rotate_left
           ·simp only [Act.put,zE,zG,zH,i64_w,i32_w]
            rfl
           refine pure_ (i:=2) (N:=some 9) (v:=?_) (a':=?_) #[true,true,true,false,false,false,false,false,false,false,false,false,false] rfl rfl (any_of HT_.out (by kernel_rfl)) (fun _ _ _ h=>h) (Or.inl ⟨by rfl,?_⟩) ?_ ?_
           rotate_left
           ·intro w'
            go_simp
            with_reducible rfl
           rotate_left
           ·simp only [Act.put,zE,zG,zH,i64_w,i32_w]
            rfl
           refine pure_ (i:=3) (N:=some 10) (v:=?_) (a':=?_) #[true,true,true,true,false,false,false,false,false,false,false,false,false] rfl rfl (any_of HT_.out (by kernel_rfl)) (fun _ _ _ h=>h) (Or.inl ⟨by rfl,?_⟩) ?_ ?_
           rotate_left
           ·intro w'
            go_simp
            with_reducible rfl
           rotate_left
           ·simp only [Act.put,zE,zG,zH,i64_w,i32_w]
            rfl
           refine pure_ (i:=4) (N:=some 11) (v:=?_) (a':=?_) #[true,true,true,true,true,false,false,false,false,false,false,false,false] rfl rfl (any_of HT_.out (by kernel_rfl)) (fun _ _ _ h=>h) (Or.inl ⟨by rfl,?_⟩) ?_ ?_
           rotate_left
           ·intro w'
            go_simp
            with_reducible rfl
           rotate_left
           ·simp only [Act.put,zE,zG,zH,i64_w,i32_w]
            rfl
           refine pure_ (i:=5) (N:=some 12) (v:=?_) (a':=?_) #[true,true,true,true,true,true,false,false,false,false,false,false,false] rfl rfl (any_of HT_.out (by kernel_rfl)) (fun _ _ _ h=>h) (Or.inl ⟨by rfl,?_⟩) ?_ ?_
           rotate_left
           ·intro w'
            go_simp
            with_reducible rfl
           rotate_left
           ·simp only [Act.put,zE,zG,zH,i64_w,i32_w]
            rfl
           refine pure_ (i:=6) (N:=some 13) (v:=?_) (a':=?_) #[true,true,true,true,true,true,true,false,false,false,false,false,false] rfl rfl (any_of HT_.out (by kernel_rfl)) (fun _ _ _ h=>h) (Or.inl ⟨by rfl,?_⟩) ?_ ?_
           rotate_left
           ·intro w'
            go_simp
            with_reducible rfl
           rotate_left
           ·simp only [Act.put,zE,zG,zH,i64_w,i32_w]
            rfl
           refine pure_ (i:=7) (N:=some 14) (v:=?_) (a':=?_) #[true,true,true,true,true,true,true,true,false,false,false,false,false] rfl rfl (any_of HT_.out (by kernel_rfl)) (fun _ _ _ h=>h) (Or.inl ⟨by rfl,?_⟩) ?_ ?_
           rotate_left
           ·intro w'
            go_simp
            with_reducible rfl
           rotate_left
           ·simp only [Act.put,zE,zG,zH,i64_w,i32_w]
            rfl
           refine take_ (i:=8) (N:=some 15) (v:=?_) (a':=?_) #[true,true,true,true,true,true,true,true,true,false,false,false,false] rfl rfl (take_ofW HT_.out HW_.out (by kernel_rfl)) (fun _ _ _ h=>h) (Or.inl ⟨by rfl,?_⟩) hHeld ?_ ?_
           rotate_left
           ·rintro w' ⟨s0,s1,s2,s3⟩
            go_simp
            with_reducible rfl
           rotate_left
           ·simp only [Act.put,zE,zG,zH,i64_w,i32_w]
            rfl
           refine take_ (i:=9) (N:=some 16) (v:=?_) (a':=?_) #[true,true,true,true,true,true,true,true,true,true,false,false,false] rfl rfl (take_ofW HT_.out HW_.out (by kernel_rfl)) (fun _ _ _ h=>h) (Or.inl ⟨by rfl,?_⟩) hHeld ?_ ?_
           rotate_left
           ·rintro w' ⟨s0,s1,s2,s3⟩
            go_simp
            with_reducible rfl
           rotate_left
           ·simp only [Act.put,zE,zG,zH,i64_w,i32_w]
            rfl
           refine one_ (i:=10) (N:=some 17) #[true,true,true,true,true,true,true,true,true,true,true,false,false] rfl rfl (one_of HT_.out (by kernel_rfl)) (by decide) (fun K hK=>?_)
           refine goes_ Try.func83 (by kernel_rfl) rfl #[.agg #[.slice A211_0 ((rd_T33 l0 x5_1).f0).length c211_0,.slice A211_1 ((rd_T33 l0 x5_1).f1).length c211_1],.agg #[.slice A1_0 l1_0.length c1_0,.slice A1_1 l1_1.length c1_1]] (by rfl) rfl rfl (by (try simp only [zP,zS,zT]);first|done|rfl|(simp only [zR,zQ];rfl)) ?_
           with_reducible refine (spec_l2Before.calls k1 _ _ ((rd_T33 l0 x5_1).f0) _ _ ((rd_T33 l0 x5_1).f1) _ _ l1_0 _ _ l1_1 t212 _ ?side1 ?side2 ?side3 ?side4 ?side5 ?side6 ?side7 ?side8 A6.out).mono ?_
           (case side1=>repeat (first|exact (by repeat (first|(with_reducible exact HR211_0.out)|(with_reducible refine zW ?_ _)|(with_reducible refine zX ?_ _)|(with_reducible refine zY ?_)|exact HR211_0.out))|(with_reducible refine zW ?_ _)|(with_reducible refine zX ?_ _)|(with_reducible refine zY ?_)))
           (case side2=>exact HC211_0.out)
           (case side3=>repeat (first|exact (by repeat (first|(with_reducible exact HR211_1.out)|(with_reducible refine zW ?_ _)|(with_reducible refine zX ?_ _)|(with_reducible refine zY ?_)|exact HR211_1.out))|(with_reducible refine zW ?_ _)|(with_reducible refine zX ?_ _)|(with_reducible refine zY ?_)))
           (case side4=>exact HC211_1.out)
           (case side5=>repeat (first|exact (zs HO_211000.out).2.2|(with_reducible refine zW ?_ _)|(with_reducible refine zX ?_ _)|(with_reducible refine zY ?_)))
           (case side6=>exact (zs HO_211000.out).2.1)
           (case side7=>repeat (first|exact (zs HO_211001.out).2.2|(with_reducible refine zW ?_ _)|(with_reducible refine zX ?_ _)|(with_reducible refine zY ?_)))
           (case side8=>exact (zs HO_211001.out).2.1)
           rintro e w24 ⟨rfl,hb⟩
           have HS2_:=(hb.cell (zk _ _ (hHeld.2.2.1))).trans (hHeld.2.2.1)
           have HS3_:=(hb.cell (zk _ _ (hHeld.2.2.2))).trans (hHeld.2.2.2)
           refine ⟨_,rfl,?_⟩
           have n0_:=zA (Kd.V_below (by (with_reducible repeat (first|apply zi|apply zj|apply zh));exact HO_0.out) hb)
           have n1_:=zA (Kd.V_below (by (with_reducible repeat (first|apply zi|apply zj|apply zh));exact HO_211000.out) hb)
           have n2_:=zA (Kd.V_below (by (with_reducible repeat (first|apply zi|apply zj|apply zh));exact HO_211001.out) hb)
           have n3_:=zA (Kd.V_below (by (with_reducible repeat (first|apply zi|apply zj|apply zh));exact HL211_0.out) hb)
           have n4_:=zA (Kd.V_below (by (with_reducible repeat (first|apply zi|apply zj|apply zh));exact HL211_1.out) hb)
           have n5_:=zA (zg (g:=gb210) (o:=.cells #[.slice A1_0 l1_0.length c1_0,.slice A1_1 l1_1.length c1_1] 33 (0,0)) (by (with_reducible repeat (first|refine zM ?_ _|refine zO ?_|refine zN ?_ _));exact BK210.out) hb)
           have n6_:=zA (zf (by repeat (first|(with_reducible exact HR211_0.out)|(with_reducible refine zW ?_ _)|(with_reducible refine zX ?_ _)|(with_reducible refine zY ?_)|exact HR211_0.out)) hb)
           have n7_:=zA (zf (by repeat (first|(with_reducible exact HR211_1.out)|(with_reducible refine zW ?_ _)|(with_reducible refine zX ?_ _)|(with_reducible refine zY ?_)|exact HR211_1.out)) hb)
           have n8_:=zA (za (by repeat (first|(with_reducible first|exact HB.out|apply zD|apply zB|apply zC|refine zI ?_ GE210.out)|exact HB.out)) hb)
           clear HO_0
           clear HO_211000
           clear HO_211001
           clear HL211_0
           clear HL211_1
           clear BK210
           clear HR211_0
           clear HR211_1
           clear HB
           have HO_0:=n0_
           have HO_211000:=n1_
           have HO_211001:=n2_
           have HL211_0:=n3_
           have HL211_1:=n4_
           have BK210:=n5_
           have HR211_0:=n6_
           have HR211_1:=n7_
           have HB:=n8_
           clear n0_ n1_ n2_ n3_ n4_ n5_ n6_ n7_ n8_
           (try clear hb)
           (try clear hb2)
           (try clear hk)
           (try clear hi)
           refine hK.out _ _ ⟨(zc BK210.out 0).trans rfl,(zc BK210.out 1).trans rfl,HS2_,HS3_⟩ (fun hHeld=>?_)
           clear hK K
           refine norm_ (a':=?_) ?_ ?_
           rotate_left
           ·show Act.put _ (some 17) _ = _
            simp only [Act.put,zE,zG,zH,i64_w,i32_w]
            rfl
           refine pure_ (i:=11) (N:=some 18) (v:=?_) (a':=?_) #[true,true,true,true,true,true,true,true,true,true,true,true,false] rfl rfl (any_of HT_.out (by kernel_rfl)) (fun _ _ _ h=>h) (Or.inl ⟨by rfl,?_⟩) ?_ ?_
           rotate_left
           ·intro w'
            go_simp
            with_reducible rfl
           rotate_left
           ·simp only [Act.put,zE,zG,zH,i64_w,i32_w]
            rfl
           refine pure_ (i:=12) (N:=some 19) (v:=?_) (a':=?_) #[true,true,true,true,true,true,true,true,true,true,true,true,true] rfl rfl (any_of HT_.out (by kernel_rfl)) (fun _ _ _ h=>h) (Or.inl ⟨by rfl,?_⟩) ?_ ?_
           rotate_left
           ·intro w'
            go_simp
            with_reducible rfl
           rotate_left
           ·simp only [Act.put,zE,zG,zH,i64_w,i32_w]
            rfl
           refine done_ (done_of HT_.out (by kernel_rfl)) ?_
           try go_wp2
           have n0_:=zA (zh HO_0.out)
           have n1_:=zA (zh HO_211000.out)
           have n2_:=zA (zh HO_211001.out)
           have n3_:=zA (zh HL211_0.out)
           have n4_:=zA (zh HL211_1.out)
           have n5_:=zA (zO BK210.out)
           have n6_:=zA (zY HR211_0.out)
           have n7_:=zA (zY HR211_1.out)
           have n8_:=zA (zC HB.out)
           clear HO_0
           clear HO_211000
           clear HO_211001
           clear HL211_0
           clear HL211_1
           clear BK210
           clear HR211_0
           clear HR211_1
           clear HB
           have HO_0:=n0_
           have HO_211000:=n1_
           have HO_211001:=n2_
           have HL211_0:=n3_
           have HL211_1:=n4_
           have BK210:=n5_
           have HR211_0:=n6_
           have HR211_1:=n7_
           have HB:=n8_
           clear n0_ n1_ n2_ n3_ n4_ n5_ n6_ n7_ n8_
           have p213:0≤(x5_1:Int):=zF (by first|(with_reducible assumption)|assumption)
           have q213:x5_1 < (l0.length:Int):=zF (by first|(with_reducible assumption)|assumption)
           obtain ⟨ad213,A213_0,c213_0,A213_1,c213_1,e213,hx213_0,hx213_1,hl213_0,hi213_0,hl213_1,hi213_1⟩:=at_T33 (zs HO_0.out).2.2 x5_1 p213 q213
           obtain rfl:ad211 = ad213:=(by injection e213)
           obtain ⟨ce213,hce213,hMe213,hcc213⟩:=Kd.V_get HO_0.out z33 x5_1 p213 (by first|exact q213|exact zF (by first|(with_reducible assumption)|assumption)|(have e_:=(zs HO_0.out).1;omega))
           obtain ⟨ua213_0,uc213_0,ua213_1,uc213_1,rfl,ul213_0,ge213_0,ul213_1,ge213_1⟩:=k33_openF hMe213
           have hv213_0:=hcc213 0 _ rfl
           rw [Nat.add_zero] at hv213_0
           replace hv213_0:=zb (hv213_0.symm.trans hx213_0)
           injection hv213_0 with hva_ hvn_ hvc_
           rw [hva_] at ge213_0
           rw [hvc_] at ul213_0
           have HL213_0:=zA (show Kd.V (Kd.int .i64) 3 _ w.heap.size _ _ ((rd_T33 l0 x5_1).f0) from Kd.V_mk ul213_0 ge213_0)
           clear hva_ hvn_ hvc_ ge213_0 ul213_0
           have hv213_1:=hcc213 1 _ rfl
           rw [add_field _ _ 1 (by omega)] at hv213_1
           replace hv213_1:=zb (hv213_1.symm.trans hx213_1)
           injection hv213_1 with hva_ hvn_ hvc_
           rw [hva_] at ge213_1
           rw [hvc_] at ul213_1
           have HL213_1:=zA (show Kd.V (Kd.int .i64) 3 _ w.heap.size _ _ ((rd_T33 l0 x5_1).f1) from Kd.V_mk ul213_1 ge213_1)
           clear hva_ hvn_ hvc_ ge213_1 ul213_1
           clear hcc213 hce213
           have HR213_0:=zA hi213_0
           have HC213_0:=zA hl213_0
           clear hi213_0 hl213_0
           have HR213_1:=zA hi213_1
           have HC213_1:=zA hl213_1
           clear hi213_1 hl213_1
           replace p213:=eq_true p213
           replace q213:=eq_true q213
           refine start_ (n:=13) (S:=fun w'=>w'.cell? ⟨gb210,0,none⟩ = some (.slice A1_0 l1_0.length c1_0)∧w'.cell? ⟨gb210,1,none⟩ = some (.slice A1_1 l1_1.length c1_1)∧w'.cell? (ad211.add ((x5_1).toNat * 2)) = some (.slice A213_0 ((rd_T33 l0 x5_1).f0).length c213_0)∧w'.cell? ⟨(ad211.add ((x5_1).toNat * 2)).block,(ad211.add ((x5_1).toNat * 2)).off+1,none⟩ = some (.slice A213_1 ((rd_T33 l0 x5_1).f1).length c213_1)) (ds:=[]) #[false,false,false,false,false,false,false,false,false,false,false,false,false] (by kernel_rfl) rfl rfl ⟨(zc BK210.out 0).trans rfl,(zc BK210.out 1).trans rfl,hx213_0,hx213_1⟩ (fun hHeld=>?_);refine with_tabW spec_l3Put.tab4 spec_l3Put.bits4 (fun HT_ HW_=>?_)
           generalize w24.drew = w25 at HO_0 HO_211000 HO_211001 HL211_0 HL211_1 BK210 HR211_0 HR211_1 HB HL213_0 HL213_1 HR213_0 HR213_1 hx213_0 hx213_1 hHeld ⊢
           refine pure_ (i:=0) (N:=some 22) (v:=?_) (a':=?_) #[true,false,false,false,false,false,false,false,false,false,false,false,false] rfl rfl (any_of HT_.out (by kernel_rfl)) (fun _ _ _ h=>h) (Or.inl ⟨by rfl,?_⟩) ?_ ?_
           rotate_left
           ·intro w'
            go_simp
            with_reducible rfl
           rotate_left
           ·simp only [Act.put,zE,zG,zH,i64_w,i32_w]
            rfl
           refine pure_ (i:=1) (N:=some 23) (v:=?_) (a':=?_) #[true,true,false,false,false,false,false,false,false,false,false,false,false] rfl rfl (any_of HT_.out (by kernel_rfl)) (fun _ _ _ h=>h) (Or.inl ⟨by rfl,?_⟩) ?_ ?_
           rotate_left
           ·intro w'
            go_simp
            with_reducible rfl
           rotate_left
           ·simp only [Act.put,zE,zG,zH,i64_w,i32_w]
            rfl
           refine pure_ (i:=2) (N:=some 24) (v:=?_) (a':=?_) #[true,true,true,false,false,false,false,false,false,false,false,false,false] rfl rfl (any_of HT_.out (by kernel_rfl)) (fun _ _ _ h=>h) (Or.inl ⟨by rfl,?_⟩) ?_ ?_
           rotate_left
           ·intro w'
            go_simp
            with_reducible rfl
           rotate_left
           ·simp only [Act.put,zE,zG,zH,i64_w,i32_w]
            rfl
           refine pure_ (i:=3) (N:=some 25) (v:=?_) (a':=?_) #[true,true,true,true,false,false,false,false,false,false,false,false,false] rfl rfl (any_of HT_.out (by kernel_rfl)) (fun _ _ _ h=>h) (Or.inl ⟨by rfl,?_⟩) ?_ ?_
           rotate_left
           ·intro w'
            go_simp
            with_reducible rfl
           rotate_left
           ·simp only [Act.put,zE,zG,zH,i64_w,i32_w]
            rfl
           refine pure_ (i:=4) (N:=some 26) (v:=?_) (a':=?_) #[true,true,true,true,true,false,false,false,false,false,false,false,false] rfl rfl (any_of HT_.out (by kernel_rfl)) (fun _ _ _ h=>h) (Or.inl ⟨by rfl,?_⟩) ?_ ?_
           rotate_left
           ·intro w'
            go_simp
            with_reducible rfl
           rotate_left
           ·simp only [Act.put,zE,zG,zH,i64_w,i32_w]
            rfl
           refine pure_ (i:=5) (N:=some 27) (v:=?_) (a':=?_) #[true,true,true,true,true,true,false,false,false,false,false,false,false] rfl rfl (any_of HT_.out (by kernel_rfl)) (fun _ _ _ h=>h) (Or.inl ⟨by rfl,?_⟩) ?_ ?_
           rotate_left
           ·intro w'
            go_simp
            with_reducible rfl
           rotate_left
           ·simp only [Act.put,zE,zG,zH,i64_w,i32_w]
            rfl
           refine pure_ (i:=6) (N:=some 28) (v:=?_) (a':=?_) #[true,true,true,true,true,true,true,false,false,false,false,false,false] rfl rfl (any_of HT_.out (by kernel_rfl)) (fun _ _ _ h=>h) (Or.inl ⟨by rfl,?_⟩) ?_ ?_
           rotate_left
           ·intro w'
            go_simp
            with_reducible rfl
           rotate_left
           ·simp only [Act.put,zE,zG,zH,i64_w,i32_w]
            rfl
           refine pure_ (i:=7) (N:=some 29) (v:=?_) (a':=?_) #[true,true,true,true,true,true,true,true,false,false,false,false,false] rfl rfl (any_of HT_.out (by kernel_rfl)) (fun _ _ _ h=>h) (Or.inl ⟨by rfl,?_⟩) ?_ ?_
           rotate_left
           ·intro w'
            go_simp
            with_reducible rfl
           rotate_left
           ·simp only [Act.put,zE,zG,zH,i64_w,i32_w]
            rfl
           refine take_ (i:=8) (N:=some 30) (v:=?_) (a':=?_) #[true,true,true,true,true,true,true,true,true,false,false,false,false] rfl rfl (take_ofW HT_.out HW_.out (by kernel_rfl)) (fun _ _ _ h=>h) (Or.inl ⟨by rfl,?_⟩) hHeld ?_ ?_
           rotate_left
           ·rintro w' ⟨s0,s1,s2,s3⟩
            go_simp
            with_reducible rfl
           rotate_left
           ·simp only [Act.put,zE,zG,zH,i64_w,i32_w]
            rfl
           refine take_ (i:=9) (N:=some 31) (v:=?_) (a':=?_) #[true,true,true,true,true,true,true,true,true,true,false,false,false] rfl rfl (take_ofW HT_.out HW_.out (by kernel_rfl)) (fun _ _ _ h=>h) (Or.inl ⟨by rfl,?_⟩) hHeld ?_ ?_
           rotate_left
           ·rintro w' ⟨s0,s1,s2,s3⟩
            go_simp
            with_reducible rfl
           rotate_left
           ·simp only [Act.put,zE,zG,zH,i64_w,i32_w]
            rfl
           refine one_ (i:=10) (N:=some 32) #[true,true,true,true,true,true,true,true,true,true,true,false,false] rfl rfl (one_of HT_.out (by kernel_rfl)) (by decide) (fun K hK=>?_)
           refine goes_ Try.func83 (by kernel_rfl) rfl #[.agg #[.slice A213_0 ((rd_T33 l0 x5_1).f0).length c213_0,.slice A213_1 ((rd_T33 l0 x5_1).f1).length c213_1],.agg #[.slice A1_0 l1_0.length c1_0,.slice A1_1 l1_1.length c1_1]] (by rfl) rfl rfl (by (try simp only [zP,zS,zT]);first|done|rfl|(simp only [zR,zQ];rfl)) ?_
           with_reducible refine (spec_l2Before.calls k1 _ _ ((rd_T33 l0 x5_1).f0) _ _ ((rd_T33 l0 x5_1).f1) _ _ l1_0 _ _ l1_1 t214 _ ?side1 ?side2 ?side3 ?side4 ?side5 ?side6 ?side7 ?side8 A10.out).mono ?_
           (case side1=>repeat (first|exact (by repeat (first|(with_reducible exact HR213_0.out)|(with_reducible refine zW ?_ _)|(with_reducible refine zX ?_ _)|(with_reducible refine zY ?_)|exact HR213_0.out))|(with_reducible refine zW ?_ _)|(with_reducible refine zX ?_ _)|(with_reducible refine zY ?_)))
           (case side2=>exact HC213_0.out)
           (case side3=>repeat (first|exact (by repeat (first|(with_reducible exact HR213_1.out)|(with_reducible refine zW ?_ _)|(with_reducible refine zX ?_ _)|(with_reducible refine zY ?_)|exact HR213_1.out))|(with_reducible refine zW ?_ _)|(with_reducible refine zX ?_ _)|(with_reducible refine zY ?_)))
           (case side4=>exact HC213_1.out)
           (case side5=>repeat (first|exact (zs HO_211000.out).2.2|(with_reducible refine zW ?_ _)|(with_reducible refine zX ?_ _)|(with_reducible refine zY ?_)))
           (case side6=>exact (zs HO_211000.out).2.1)
           (case side7=>repeat (first|exact (zs HO_211001.out).2.2|(with_reducible refine zW ?_ _)|(with_reducible refine zX ?_ _)|(with_reducible refine zY ?_)))
           (case side8=>exact (zs HO_211001.out).2.1)
           rintro e w26 ⟨rfl,hb⟩
           have HS2_:=(hb.cell (zk _ _ (hHeld.2.2.1))).trans (hHeld.2.2.1)
           have HS3_:=(hb.cell (zk _ _ (hHeld.2.2.2))).trans (hHeld.2.2.2)
           refine ⟨_,rfl,?_⟩
           have n0_:=zA (Kd.V_below (by (with_reducible repeat (first|apply zi|apply zj|apply zh));exact HO_0.out) hb)
           have n1_:=zA (Kd.V_below (by (with_reducible repeat (first|apply zi|apply zj|apply zh));exact HO_211000.out) hb)
           have n2_:=zA (Kd.V_below (by (with_reducible repeat (first|apply zi|apply zj|apply zh));exact HO_211001.out) hb)
           have n3_:=zA (Kd.V_below (by (with_reducible repeat (first|apply zi|apply zj|apply zh));exact HL211_0.out) hb)
           have n4_:=zA (Kd.V_below (by (with_reducible repeat (first|apply zi|apply zj|apply zh));exact HL211_1.out) hb)
           have n5_:=zA (Kd.V_below (by (with_reducible repeat (first|apply zi|apply zj|apply zh));exact HL213_0.out) hb)
           have n6_:=zA (Kd.V_below (by (with_reducible repeat (first|apply zi|apply zj|apply zh));exact HL213_1.out) hb)
           have n7_:=zA (zg (g:=gb210) (o:=.cells #[.slice A1_0 l1_0.length c1_0,.slice A1_1 l1_1.length c1_1] 33 (0,0)) (by (with_reducible repeat (first|refine zM ?_ _|refine zO ?_|refine zN ?_ _));exact BK210.out) hb)
           have n8_:=zA (zf (by repeat (first|(with_reducible exact HR211_0.out)|(with_reducible refine zW ?_ _)|(with_reducible refine zX ?_ _)|(with_reducible refine zY ?_)|exact HR211_0.out)) hb)
           have n9_:=zA (zf (by repeat (first|(with_reducible exact HR211_1.out)|(with_reducible refine zW ?_ _)|(with_reducible refine zX ?_ _)|(with_reducible refine zY ?_)|exact HR211_1.out)) hb)
           have n10_:=zA (zf (by repeat (first|(with_reducible exact HR213_0.out)|(with_reducible refine zW ?_ _)|(with_reducible refine zX ?_ _)|(with_reducible refine zY ?_)|exact HR213_0.out)) hb)
           have n11_:=zA (zf (by repeat (first|(with_reducible exact HR213_1.out)|(with_reducible refine zW ?_ _)|(with_reducible refine zX ?_ _)|(with_reducible refine zY ?_)|exact HR213_1.out)) hb)
           have n12_:=zA (za (by repeat (first|(with_reducible first|exact HB.out|apply zD|apply zB|apply zC|refine zI ?_ GE210.out)|exact HB.out)) hb)
           clear HO_0
           clear HO_211000
           clear HO_211001
           clear HL211_0
           clear HL211_1
           clear HL213_0
           clear HL213_1
           clear BK210
           clear HR211_0
           clear HR211_1
           clear HR213_0
           clear HR213_1
           clear HB
           have HO_0:=n0_
           have HO_211000:=n1_
           have HO_211001:=n2_
           have HL211_0:=n3_
           have HL211_1:=n4_
           have HL213_0:=n5_
           have HL213_1:=n6_
           have BK210:=n7_
           have HR211_0:=n8_
           have HR211_1:=n9_
           have HR213_0:=n10_
           have HR213_1:=n11_
           have HB:=n12_
           clear n0_ n1_ n2_ n3_ n4_ n5_ n6_ n7_ n8_ n9_ n10_ n11_ n12_
           (try clear hb)
           (try clear hb2)
           (try clear hk)
           (try clear hi)
           refine hK.out _ _ ⟨(zc BK210.out 0).trans rfl,(zc BK210.out 1).trans rfl,HS2_,HS3_⟩ (fun hHeld=>?_)
           clear hK K
           refine norm_ (a':=?_) ?_ ?_
           rotate_left
           ·show Act.put _ (some 32) _ = _
            simp only [Act.put,zE,zG,zH,i64_w,i32_w]
            rfl
           refine pure_ (i:=11) (N:=some 33) (v:=?_) (a':=?_) #[true,true,true,true,true,true,true,true,true,true,true,true,false] rfl rfl (any_of HT_.out (by kernel_rfl)) (fun _ _ _ h=>h) (Or.inl ⟨by rfl,?_⟩) ?_ ?_
           rotate_left
           ·intro w'
            go_simp
            with_reducible rfl
           rotate_left
           ·simp only [Act.put,zE,zG,zH,i64_w,i32_w]
            rfl
           refine pure_ (i:=12) (N:=some 34) (v:=?_) (a':=?_) #[true,true,true,true,true,true,true,true,true,true,true,true,true] rfl rfl (any_of HT_.out (by kernel_rfl)) (fun _ _ _ h=>h) (Or.inl ⟨by rfl,?_⟩) ?_ ?_
           rotate_left
           ·intro w'
            go_simp
            with_reducible rfl
           rotate_left
           ·simp only [Act.put,zE,zG,zH,i64_w,i32_w]
            rfl
           refine done_ (done_of HT_.out (by kernel_rfl)) ?_
           try go_wp2_with (first|((with_reducible refine gate_dst (N:=36) rfl ?_);refine Kd.N_lit k33 _ 33 ?hg (N':=36) ?hd (xs:=([]:List (S33))) (inner:=[]) (ok:=(fun k_=>((P0_ k_∨P1_0_ k_∨P1_1_ k_)∨w.heap.size≤k_)∧k_≠gb210)) (okp:=(fun k_=>((P0_ k_∨P1_0_ k_∨P1_1_ k_)∨w.heap.size≤k_)∧k_≠gb210)) ?hr ?hp (fun _ hk=>hk) ((show ∀ k_,w26.heap.size≤k_→(fun k_=>((P0_ k_∨P1_0_ k_∨P1_1_ k_)∨w.heap.size≤k_)∧k_≠gb210) k_ from fun k_ hk=>⟨(.inr (Nat.le_trans (zZ (by repeat (first|(with_reducible first|exact HB.out|apply zD|apply zB|apply zC|refine zI ?_ GE210.out)|exact HB.out))) hk)),Kd.freshB (g:=gb210) (o:=.cells #[.slice A1_0 l1_0.length c1_0,.slice A1_1 l1_1.length c1_1] 33 (0,0)) (by (with_reducible repeat (first|refine zM ?_ _|refine zO ?_|refine zN ?_ _));exact BK210.out) k_ hk⟩) _ (Nat.le_refl _)) (Below.refl _ _) (Nat.le_refl _) (by simp) ?_;(case hd=>rfl);(case hg=>rfl);(case hr=>first|(go_simp;done)|(go_simp;rfl));(case hp=>exact (Reps.none _ _));intro v216 w27 ho28 hb hg_ hnew_;clear hg_ hnew_;(first|rw [← Ny215.out] at ho28|(simp only [Int.reduceToNat] at ho28;rw [← Ny215.out] at ho28));have n0_:=zA (Kd.V_elder' (by (with_reducible repeat (first|apply zi|apply zj|apply zh));exact HO_0.out) (Kd.N_base ho28) hb);have n1_:=zA (Kd.V_elder' (by (with_reducible repeat (first|apply zi|apply zj|apply zh));exact HO_211000.out) (Kd.N_base ho28) hb);have n2_:=zA (Kd.V_elder' (by (with_reducible repeat (first|apply zi|apply zj|apply zh));exact HO_211001.out) (Kd.N_base ho28) hb);have n3_:=zA (Kd.V_elder' (by (with_reducible repeat (first|apply zi|apply zj|apply zh));exact HL211_0.out) (Kd.N_base ho28) hb);have n4_:=zA (Kd.V_elder' (by (with_reducible repeat (first|apply zi|apply zj|apply zh));exact HL211_1.out) (Kd.N_base ho28) hb);have n5_:=zA (Kd.V_elder' (by (with_reducible repeat (first|apply zi|apply zj|apply zh));exact HL213_0.out) (Kd.N_base ho28) hb);have n6_:=zA (Kd.V_elder' (by (with_reducible repeat (first|apply zi|apply zj|apply zh));exact HL213_1.out) (Kd.N_base ho28) hb);have n7_:=zA (Kd.N_lower ho28 (zZ (by repeat (first|(with_reducible first|exact HB.out|apply zD|apply zB|apply zC|refine zI ?_ GE210.out)|exact HB.out))));have n8_:=zA (zg (g:=gb210) (o:=.cells #[.slice A1_0 l1_0.length c1_0,.slice A1_1 l1_1.length c1_1] 33 (0,0)) (by (with_reducible repeat (first|refine zM ?_ _|refine zO ?_|refine zN ?_ _));exact BK210.out) hb);have n9_:=zA (zf (by repeat (first|(with_reducible exact HR211_0.out)|(with_reducible refine zW ?_ _)|(with_reducible refine zX ?_ _)|(with_reducible refine zY ?_)|exact HR211_0.out)) hb);have n10_:=zA (zf (by repeat (first|(with_reducible exact HR211_1.out)|(with_reducible refine zW ?_ _)|(with_reducible refine zX ?_ _)|(with_reducible refine zY ?_)|exact HR211_1.out)) hb);have n11_:=zA (zf (by repeat (first|(with_reducible exact HR213_0.out)|(with_reducible refine zW ?_ _)|(with_reducible refine zX ?_ _)|(with_reducible refine zY ?_)|exact HR213_0.out)) hb);have n12_:=zA (zf (by repeat (first|(with_reducible exact HR213_1.out)|(with_reducible refine zW ?_ _)|(with_reducible refine zX ?_ _)|(with_reducible refine zY ?_)|exact HR213_1.out)) hb);have n13_:=zA (za (by repeat (first|(with_reducible first|exact HB.out|apply zD|apply zB|apply zC|refine zI ?_ GE210.out)|exact HB.out)) hb);clear HO_0;clear HO_211000;clear HO_211001;clear HL211_0;clear HL211_1;clear HL213_0;clear HL213_1;clear BK210;clear HR211_0;clear HR211_1;clear HR213_0;clear HR213_1;clear HB;have HO_0:=n0_;have HO_211000:=n1_;have HO_211001:=n2_;have HL211_0:=n3_;have HL211_1:=n4_;have HL213_0:=n5_;have HL213_1:=n6_;have HO217:=n7_;have BK210:=n8_;have HR211_0:=n9_;have HR211_1:=n10_;have HR213_0:=n11_;have HR213_1:=n12_;have HB:=n13_;clear n0_ n1_ n2_ n3_ n4_ n5_ n6_ n7_ n8_ n9_ n10_ n11_ n12_ n13_;clear hb ho28;have q29:(x5_1:Int)≤((l0.length:Int):Int):=zF (by first|(with_reducible assumption)|assumption);obtain ⟨i029,hi029,_,hsz29,_⟩:=info_parts info33;have hroom29:l0.length≤c0:=(zs HO_0.out).2.1;have hC29:Kd.F k33 _ _ (some ad211) l0.length l0:=(Kd.V_at (base:=w.heap.size) HO_0.out).2.2;have hcut29:=cut_to (P:=Try.prog) 27 33 .i64 Try.underlying27 hi029 (some ad211) l0.length c0 x5_1 (zF (by first|(with_reducible assumption)|assumption)) q29 hroom29;have hr29:=Kd.F_take (m:=(x5_1:Int).toNat) hC29 (by omega);have hy29:y218.length = (x5_1:Int).toNat:=(by rw [Ny218.out,zQ];omega);rw [← Ny218.out] at hr29;rw [← hy29] at hcut29;have HO222:=zA (show Kd.V k33 33 _ w.heap.size _ (.slice (some ad211) y218.length c0) y218 from Kd.V_mk (by omega) hr29);have HC222:=zA (show y218.length≤c0 from by omega);clear hr29 hC29 hroom29 hi029 hsz29;have KY29:=zA hy29;clear hy29;replace q29:=eq_true q29)|((with_reducible refine gate_builtin (b:=.append) (xs:=#[.tmp 36,.tmp 39]) rfl ?_);at_builtin;refine Kd.N_append_rows k33 (w0:=w) w.heap.size rfl (.tmp 36) (.tmp 39) 27 33 (.agg #[(.slice none 0 0),(.slice none 0 0)]) 48 rfl Try.underlying27 info33 rfl (by decide) (by omega) v216 y215 y218 _ _ _ (fun k_=>((P0_ k_∨P1_0_ k_∨P1_1_ k_)∨w.heap.size≤k_)∧k_≠gb210) (fun k_=>((fun k_=>((P0_ k_∨P1_0_ k_∨P1_1_ k_)∨w.heap.size≤k_)∧k_≠gb210)) k_∧some k_≠(v216:Value).ownBlock) rfl rfl ?aO ?aR (fun _ hk=>hk) ?aF ?aB ?aS ?aL ?_;(case aR=>exact (by skip;exact Kd.V_F (Kd.V_mono (ok':=(fun k_=>((fun k_=>((P0_ k_∨P1_0_ k_∨P1_1_ k_)∨w.heap.size≤k_)∧k_≠gb210)) k_∧some k_≠(v216:Value).ownBlock)) (HO222.out) (fun k_ hk=>⟨⟨hk.1.1,hk.1.2⟩,hk.2⟩))));(case aB=>exact (by repeat (first|(with_reducible first|exact HB.out|apply zD|apply zB|apply zC|refine zI ?_ GE210.out)|exact HB.out)));(case aF=>exact (fun k_ hk=>⟨(.inr (Nat.le_trans (zZ (by repeat (first|(with_reducible first|exact HB.out|apply zD|apply zB|apply zC|refine zI ?_ GE210.out)|exact HB.out))) hk)),Kd.freshB (g:=gb210) (o:=.cells #[.slice A1_0 l1_0.length c1_0,.slice A1_1 l1_1.length c1_1] 33 (0,0)) (by (with_reducible repeat (first|refine zM ?_ _|refine zO ?_|refine zN ?_ _));exact BK210.out) k_ hk⟩));(case aO=>exact (by (with_reducible repeat (first|apply Kd.N_alloc|apply Kd.N_drewN|apply Kd.N_drew));exact HO217.out));(case aS=>exact (zZ (by repeat (first|(with_reducible first|exact HB.out|apply zD|apply zB|apply zC|refine zI ?_ GE210.out)|exact HB.out))));(case aL=>have:=LMc18.out;omega);intro v224 w30 ho hb hg hat;rw [← Ny223.out] at ho;have n0_:=zA (Kd.V_afterv (ok:=(fun k_=>((P0_ k_∨P1_0_ k_∨P1_1_ k_)∨w.heap.size≤k_)∧k_≠gb210)) (by (with_reducible repeat (first|apply zi|apply zj|apply zh));exact HO_0.out) hg hat);have n1_:=zA (Kd.V_afterv (ok:=(fun k_=>((P0_ k_∨P1_0_ k_∨P1_1_ k_)∨w.heap.size≤k_)∧k_≠gb210)) (by (with_reducible repeat (first|apply zi|apply zj|apply zh));exact HO_211000.out) hg hat);have n2_:=zA (Kd.V_afterv (ok:=(fun k_=>((P0_ k_∨P1_0_ k_∨P1_1_ k_)∨w.heap.size≤k_)∧k_≠gb210)) (by (with_reducible repeat (first|apply zi|apply zj|apply zh));exact HO_211001.out) hg hat);have n3_:=zA (blk_grown (g:=gb210) (o:=.cells #[.slice A1_0 l1_0.length c1_0,.slice A1_1 l1_1.length c1_1] 33 (0,0)) (by (with_reducible repeat (first|refine zM ?_ _|refine zO ?_|refine zN ?_ _));exact BK210.out) hg (Kd.N_away HO217.out (fun _ hk=>hk.2)));have n4_:=zA (Kd.V_afterv (ok:=(fun k_=>((P0_ k_∨P1_0_ k_∨P1_1_ k_)∨w.heap.size≤k_)∧k_≠gb210)) (by (with_reducible repeat (first|apply zi|apply zj|apply zh));exact HL211_0.out) hg hat);have n5_:=zA (Kd.V_afterv (ok:=(fun k_=>((P0_ k_∨P1_0_ k_∨P1_1_ k_)∨w.heap.size≤k_)∧k_≠gb210)) (by (with_reducible repeat (first|apply zi|apply zj|apply zh));exact HL211_1.out) hg hat);have n6_:=zA (Kd.V_afterv (ok:=(fun k_=>((P0_ k_∨P1_0_ k_∨P1_1_ k_)∨w.heap.size≤k_)∧k_≠gb210)) (by (with_reducible repeat (first|apply zi|apply zj|apply zh));exact HL213_0.out) hg hat);have n7_:=zA (Kd.V_afterv (ok:=(fun k_=>((P0_ k_∨P1_0_ k_∨P1_1_ k_)∨w.heap.size≤k_)∧k_≠gb210)) (by (with_reducible repeat (first|apply zi|apply zj|apply zh));exact HL213_1.out) hg hat);have n8_:=zA (Kd.V_afterv (ok:=(fun k_=>((P0_ k_∨P1_0_ k_∨P1_1_ k_)∨w.heap.size≤k_)∧k_≠gb210)) (by (with_reducible repeat (first|apply zi|apply zj|apply zh));exact HO222.out) hg hat);have n9_:=zA (hb);have n10_:=zA (ho);clear HO_0;clear HO_211000;clear HO_211001;clear BK210;clear HL211_0;clear HL211_1;clear HL213_0;clear HL213_1;clear HO222;clear HB;clear HO217;have HO_0:=n0_;have HO_211000:=n1_;have HO_211001:=n2_;have BK210:=n3_;have HL211_0:=n4_;have HL211_1:=n5_;have HL213_0:=n6_;have HL213_1:=n7_;have HO222:=n8_;have HB:=n9_;have HO225:=n10_;clear n0_ n1_ n2_ n3_ n4_ n5_ n6_ n7_ n8_ n9_ n10_;clear ho hb hg hat;have hcz31_0:w30.cell? ⟨gb210,0,none⟩ = some (.slice A1_0 l1_0.length c1_0):=(zc BK210.out 0).trans rfl;have hcz31_1:w30.cell? ⟨gb210,1,none⟩ = some (.slice A1_1 l1_1.length c1_1):=(zc BK210.out 1).trans rfl;have hfz31_0:=zl BK210.out 0;have hfz31_1:=zl BK210.out 1)|((with_reducible refine gate_builtin (b:=.append) (xs:=#[.tmp 41,.tmp 43]) rfl ?_);at_builtin;refine Kd.N_append k33 (w0:=w) w.heap.size rfl (.tmp 41) (.tmp 43) 27 33 (.agg #[(.slice none 0 0),(.slice none 0 0)]) 48 rfl Try.underlying27 info33 rfl (by decide) (by omega) v224 y223 (⟨l1_0,l1_1⟩:S33) [.slice A1_0 l1_0.length c1_0,.slice A1_1 l1_1.length c1_1] (fun k_=>((P0_ k_∨P1_0_ k_∨P1_1_ k_)∨w.heap.size≤k_)∧k_≠gb210) (fun k_=>((fun k_=>((P0_ k_∨P1_0_ k_∨P1_1_ k_)∨w.heap.size≤k_)∧k_≠gb210)) k_∧some k_≠(v224:Value).ownBlock) rfl rfl ?aP (fun _ hk=>hk) ?aF ?aO ?aB ?aS ?aL ?_;(case aP=>exact (k33_mkF _ _ (⟨l1_0,l1_1⟩:S33) (zs (Kd.V_mono (ok':=(fun k_=>((fun k_=>((P0_ k_∨P1_0_ k_∨P1_1_ k_)∨w.heap.size≤k_)∧k_≠gb210)) k_∧some k_≠(v224:Value).ownBlock)) (HO_211000.out) (fun k_ hk=>⟨⟨hk.1.1,hk.1.2⟩,hk.2⟩))).2.1 (Kd.V_F (Kd.V_mono (ok':=(fun k_=>((fun k_=>((P0_ k_∨P1_0_ k_∨P1_1_ k_)∨w.heap.size≤k_)∧k_≠gb210)) k_∧some k_≠(v224:Value).ownBlock)) (HO_211000.out) (fun k_ hk=>⟨⟨hk.1.1,hk.1.2⟩,hk.2⟩))) (zs (Kd.V_mono (ok':=(fun k_=>((fun k_=>((P0_ k_∨P1_0_ k_∨P1_1_ k_)∨w.heap.size≤k_)∧k_≠gb210)) k_∧some k_≠(v224:Value).ownBlock)) (HO_211001.out) (fun k_ hk=>⟨⟨hk.1.1,hk.1.2⟩,hk.2⟩))).2.1 (Kd.V_F (Kd.V_mono (ok':=(fun k_=>((fun k_=>((P0_ k_∨P1_0_ k_∨P1_1_ k_)∨w.heap.size≤k_)∧k_≠gb210)) k_∧some k_≠(v224:Value).ownBlock)) (HO_211001.out) (fun k_ hk=>⟨⟨hk.1.1,hk.1.2⟩,hk.2⟩)))));(case aB=>exact (by repeat (first|(with_reducible first|exact HB.out|apply zD|apply zB|apply zC|refine zI ?_ GE210.out)|exact HB.out)));(case aF=>exact (fun k_ hk=>⟨(.inr (Nat.le_trans (zZ (by repeat (first|(with_reducible first|exact HB.out|apply zD|apply zB|apply zC|refine zI ?_ GE210.out)|exact HB.out))) hk)),Kd.freshB (g:=gb210) (o:=.cells #[.slice A1_0 l1_0.length c1_0,.slice A1_1 l1_1.length c1_1] 33 (0,0)) (by (with_reducible repeat (first|refine zM ?_ _|refine zO ?_|refine zN ?_ _));exact BK210.out) k_ hk⟩));(case aO=>exact (by (with_reducible repeat (first|apply Kd.N_alloc|apply Kd.N_drewN|apply Kd.N_drew));exact HO225.out));(case aS=>exact (zZ (by repeat (first|(with_reducible first|exact HB.out|apply zD|apply zB|apply zC|refine zI ?_ GE210.out)|exact HB.out))));(case aL=>have:=LMc19.out;omega);intro v227 w32 ho hb hg hat;rw [← Ny226.out] at ho;have n0_:=zA (Kd.V_afterv (ok:=(fun k_=>((P0_ k_∨P1_0_ k_∨P1_1_ k_)∨w.heap.size≤k_)∧k_≠gb210)) (by (with_reducible repeat (first|apply zi|apply zj|apply zh));exact HO_0.out) hg hat);have n1_:=zA (Kd.V_afterv (ok:=(fun k_=>((P0_ k_∨P1_0_ k_∨P1_1_ k_)∨w.heap.size≤k_)∧k_≠gb210)) (by (with_reducible repeat (first|apply zi|apply zj|apply zh));exact HO_211000.out) hg hat);have n2_:=zA (Kd.V_afterv (ok:=(fun k_=>((P0_ k_∨P1_0_ k_∨P1_1_ k_)∨w.heap.size≤k_)∧k_≠gb210)) (by (with_reducible repeat (first|apply zi|apply zj|apply zh));exact HO_211001.out) hg hat);have n3_:=zA (blk_grown (g:=gb210) (o:=.cells #[.slice A1_0 l1_0.length c1_0,.slice A1_1 l1_1.length c1_1] 33 (0,0)) (by (with_reducible repeat (first|refine zM ?_ _|refine zO ?_|refine zN ?_ _));exact BK210.out) hg (Kd.N_away HO225.out (fun _ hk=>hk.2)));have n4_:=zA (Kd.V_afterv (ok:=(fun k_=>((P0_ k_∨P1_0_ k_∨P1_1_ k_)∨w.heap.size≤k_)∧k_≠gb210)) (by (with_reducible repeat (first|apply zi|apply zj|apply zh));exact HL211_0.out) hg hat);have n5_:=zA (Kd.V_afterv (ok:=(fun k_=>((P0_ k_∨P1_0_ k_∨P1_1_ k_)∨w.heap.size≤k_)∧k_≠gb210)) (by (with_reducible repeat (first|apply zi|apply zj|apply zh));exact HL211_1.out) hg hat);have n6_:=zA (Kd.V_afterv (ok:=(fun k_=>((P0_ k_∨P1_0_ k_∨P1_1_ k_)∨w.heap.size≤k_)∧k_≠gb210)) (by (with_reducible repeat (first|apply zi|apply zj|apply zh));exact HL213_0.out) hg hat);have n7_:=zA (Kd.V_afterv (ok:=(fun k_=>((P0_ k_∨P1_0_ k_∨P1_1_ k_)∨w.heap.size≤k_)∧k_≠gb210)) (by (with_reducible repeat (first|apply zi|apply zj|apply zh));exact HL213_1.out) hg hat);have n8_:=zA (Kd.V_afterv (ok:=(fun k_=>((P0_ k_∨P1_0_ k_∨P1_1_ k_)∨w.heap.size≤k_)∧k_≠gb210)) (by (with_reducible repeat (first|apply zi|apply zj|apply zh));exact HO222.out) hg hat);have n9_:=zA (hb);have n10_:=zA (ho);clear HO_0;clear HO_211000;clear HO_211001;clear BK210;clear HL211_0;clear HL211_1;clear HL213_0;clear HL213_1;clear HO222;clear HB;clear HO225;have HO_0:=n0_;have HO_211000:=n1_;have HO_211001:=n2_;have BK210:=n3_;have HL211_0:=n4_;have HL211_1:=n5_;have HL213_0:=n6_;have HL213_1:=n7_;have HO222:=n8_;have HB:=n9_;have HO228:=n10_;clear n0_ n1_ n2_ n3_ n4_ n5_ n6_ n7_ n8_ n9_ n10_;clear ho hb hg hat;have q33:(x5_1:Int)≤((l0.length:Int):Int):=zF (by first|(with_reducible assumption)|assumption);obtain ⟨i033,hi033,_,hsz33,_⟩:=info_parts info33;have hroom33:l0.length≤c0:=(zs HO_0.out).2.1;have hC33:Kd.F k33 _ _ (some ad211) l0.length l0:=(Kd.V_at (base:=w.heap.size) HO_0.out).2.2;have q033:(0:Int)≤(x5_1:Int):=zF (by first|(with_reducible assumption)|assumption);have hcut33:=cut_from (P:=Try.prog) 27 33 .i64 Try.underlying27 hi033 2 hsz33 (some ad211) l0.length c0 x5_1 q033 q33;have hr33:=Kd.F_cut (m:=(x5_1:Int).toNat) (c:=c0) hC33 (by omega) hroom33;obtain ⟨A33,hA33⟩:∃ A1,A1 = (if c0 = (x5_1:Int).toNat then (some ad211) else ((some ad211):Option Addr).map (·.add ((x5_1:Int).toNat * 2))):=⟨_,rfl⟩;obtain ⟨c33,hc33⟩:∃ c1,c1 = c0 - (x5_1:Int).toNat:=⟨_,rfl⟩;have hy33:y229.length = l0.length - (x5_1:Int).toNat:=(by rw [Ny229.out,zR] <;> omega);rw [show (l0).drop (x5_1:Int).toNat = y229 from Ny229.out.symm] at hr33;replace hr33:Kd.F k33 _ _ A33 y229.length y229:=(by rw [hA33];exact hr33);rw [← hy33, ← hA33, ← hc33] at hcut33;have HO233:=zA (show Kd.V k33 33 _ w.heap.size _ (.slice A33 y229.length c33) y229 from Kd.V_mk (by rw [hy33,hc33];exact Nat.sub_le_sub_right hroom33 _) hr33);have HC233:=zA (show y229.length≤c33 from by rw [hy33,hc33];exact Nat.sub_le_sub_right hroom33 _);clear hr33 hC33 hroom33 hi033 hsz33 hc33;have KY33:=zA hy33;have KA33:=zA hA33;clear hy33 hA33;replace q33:=eq_true q33)|((with_reducible refine gate_builtin (b:=.append) (xs:=#[.tmp 45,.tmp 48]) rfl ?_);at_builtin;refine Kd.N_append_rows k33 (w0:=w) w.heap.size rfl (.tmp 45) (.tmp 48) 27 33 (.agg #[(.slice none 0 0),(.slice none 0 0)]) 48 rfl Try.underlying27 info33 rfl (by decide) (by omega) v227 y226 y229 _ _ _ (fun k_=>((P0_ k_∨P1_0_ k_∨P1_1_ k_)∨w.heap.size≤k_)∧k_≠gb210) (fun k_=>((fun k_=>((P0_ k_∨P1_0_ k_∨P1_1_ k_)∨w.heap.size≤k_)∧k_≠gb210)) k_∧some k_≠(v227:Value).ownBlock) rfl rfl ?aO ?aR (fun _ hk=>hk) ?aF ?aB ?aS ?aL ?_;(case aR=>exact (by skip;exact Kd.V_F (Kd.V_mono (ok':=(fun k_=>((fun k_=>((P0_ k_∨P1_0_ k_∨P1_1_ k_)∨w.heap.size≤k_)∧k_≠gb210)) k_∧some k_≠(v227:Value).ownBlock)) (HO233.out) (fun k_ hk=>⟨⟨hk.1.1,hk.1.2⟩,hk.2⟩))));(case aB=>exact (by repeat (first|(with_reducible first|exact HB.out|apply zD|apply zB|apply zC|refine zI ?_ GE210.out)|exact HB.out)));(case aF=>exact (fun k_ hk=>⟨(.inr (Nat.le_trans (zZ (by repeat (first|(with_reducible first|exact HB.out|apply zD|apply zB|apply zC|refine zI ?_ GE210.out)|exact HB.out))) hk)),Kd.freshB (g:=gb210) (o:=.cells #[.slice A1_0 l1_0.length c1_0,.slice A1_1 l1_1.length c1_1] 33 (0,0)) (by (with_reducible repeat (first|refine zM ?_ _|refine zO ?_|refine zN ?_ _));exact BK210.out) k_ hk⟩));(case aO=>exact (by (with_reducible repeat (first|apply Kd.N_alloc|apply Kd.N_drewN|apply Kd.N_drew));exact HO228.out));(case aS=>exact (zZ (by repeat (first|(with_reducible first|exact HB.out|apply zD|apply zB|apply zC|refine zI ?_ GE210.out)|exact HB.out))));(case aL=>have:=LMc22.out;omega);intro v235 w34 ho hb hg hat;rw [← Ny234.out] at ho;have n0_:=zA (Kd.V_afterv (ok:=(fun k_=>((P0_ k_∨P1_0_ k_∨P1_1_ k_)∨w.heap.size≤k_)∧k_≠gb210)) (by (with_reducible repeat (first|apply zi|apply zj|apply zh));exact HO_0.out) hg hat);have n1_:=zA (Kd.V_afterv (ok:=(fun k_=>((P0_ k_∨P1_0_ k_∨P1_1_ k_)∨w.heap.size≤k_)∧k_≠gb210)) (by (with_reducible repeat (first|apply zi|apply zj|apply zh));exact HO_211000.out) hg hat);have n2_:=zA (Kd.V_afterv (ok:=(fun k_=>((P0_ k_∨P1_0_ k_∨P1_1_ k_)∨w.heap.size≤k_)∧k_≠gb210)) (by (with_reducible repeat (first|apply zi|apply zj|apply zh));exact HO_211001.out) hg hat);have n3_:=zA (blk_grown (g:=gb210) (o:=.cells #[.slice A1_0 l1_0.length c1_0,.slice A1_1 l1_1.length c1_1] 33 (0,0)) (by (with_reducible repeat (first|refine zM ?_ _|refine zO ?_|refine zN ?_ _));exact BK210.out) hg (Kd.N_away HO228.out (fun _ hk=>hk.2)));have n4_:=zA (Kd.V_afterv (ok:=(fun k_=>((P0_ k_∨P1_0_ k_∨P1_1_ k_)∨w.heap.size≤k_)∧k_≠gb210)) (by (with_reducible repeat (first|apply zi|apply zj|apply zh));exact HL211_0.out) hg hat);have n5_:=zA (Kd.V_afterv (ok:=(fun k_=>((P0_ k_∨P1_0_ k_∨P1_1_ k_)∨w.heap.size≤k_)∧k_≠gb210)) (by (with_reducible repeat (first|apply zi|apply zj|apply zh));exact HL211_1.out) hg hat);have n6_:=zA (Kd.V_afterv (ok:=(fun k_=>((P0_ k_∨P1_0_ k_∨P1_1_ k_)∨w.heap.size≤k_)∧k_≠gb210)) (by (with_reducible repeat (first|apply zi|apply zj|apply zh));exact HL213_0.out) hg hat);have n7_:=zA (Kd.V_afterv (ok:=(fun k_=>((P0_ k_∨P1_0_ k_∨P1_1_ k_)∨w.heap.size≤k_)∧k_≠gb210)) (by (with_reducible repeat (first|apply zi|apply zj|apply zh));exact HL213_1.out) hg hat);have n8_:=zA (Kd.V_afterv (ok:=(fun k_=>((P0_ k_∨P1_0_ k_∨P1_1_ k_)∨w.heap.size≤k_)∧k_≠gb210)) (by (with_reducible repeat (first|apply zi|apply zj|apply zh));exact HO222.out) hg hat);have n9_:=zA (Kd.V_afterv (ok:=(fun k_=>((P0_ k_∨P1_0_ k_∨P1_1_ k_)∨w.heap.size≤k_)∧k_≠gb210)) (by (with_reducible repeat (first|apply zi|apply zj|apply zh));exact HO233.out) hg hat);have n10_:=zA (hb);have n11_:=zA (ho);clear HO_0;clear HO_211000;clear HO_211001;clear BK210;clear HL211_0;clear HL211_1;clear HL213_0;clear HL213_1;clear HO222;clear HO233;clear HB;clear HO228;have HO_0:=n0_;have HO_211000:=n1_;have HO_211001:=n2_;have BK210:=n3_;have HL211_0:=n4_;have HL211_1:=n5_;have HL213_0:=n6_;have HL213_1:=n7_;have HO222:=n8_;have HO233:=n9_;have HB:=n10_;have HO236:=n11_;clear n0_ n1_ n2_ n3_ n4_ n5_ n6_ n7_ n8_ n9_ n10_ n11_;clear ho hb hg hat))
           go_ret
           exact ⟨_,by first|rfl|(simp [errW_none,errW_some] <;> rfl)|(simp [*,errW_none,errW_some] <;> rfl),Kd.N_V (by (with_reducible repeat (first|apply Kd.N_alloc|apply Kd.N_drewN|apply Kd.N_drew));exact Kd.N_mono HO236.out (fun _ hk=>hk.1)),by repeat (first|(with_reducible first|exact HB.out|apply zD|apply zB|apply zC|refine zI ?_ GE210.out)|exact HB.out)⟩
          ·rw [if_neg c22] at H
           exact absurd H (by simp)
         ·rw [if_neg c19] at H
          exact absurd H (by simp)
        ·rw [if_neg c18] at H
         exact absurd H (by simp)
       ·rw [if_neg c17] at H
        exact absurd H (by simp)
    ·rw [if_neg c5] at H
     exact absurd H (by simp)
   ·rw [if_neg c4] at H
    have c4b0:decide (x5_1 < (l0.length:Int)) = false:=zV c4
    clear c4
    obtain ⟨y237,hy237⟩:∃ y_:List (S33),y_ = (([]:List (S33))):=⟨_,rfl⟩
    replace H:(if 0≤x5_1 then (if x5_1≤(l0.length:Int) then ((some (l0.take (x5_1:Int).toNat:List (S33))).bind fun y240=>(if y237.length+y240.length < 2932031007402 then ((some (y237 ++ y240:List (S33))).bind fun y245=>(if y245.length < 2932031007402 then ((some (y245 ++ [(⟨l1_0,l1_1⟩:S33)]:List (S33))).bind fun y248=>((some (l0.drop (x5_1:Int).toNat:List (S33))).bind fun y251=>(if y248.length+y251.length < 2932031007402 then (some (y248 ++ y251)) else (none)))) else (none))) else (none))) else (none)) else (none)) = some r:=by first|(rw [hy237];with_reducible exact H)|(have H2_:=(Option.bind_some _ _).symm.trans H;rw [hy237];with_reducible exact H2_)|(have H2_:=(Option.bind_some _ _).symm.trans H;with_reducible exact H2_)|with_reducible exact H|(rw [hy237];exact H)|exact H
    have Ny237:=zA hy237
    clear hy237
    by_cases c35:0≤x5_1
    ·rw [if_pos c35] at H
     have c35b0:=eq_true c35
     have c35b1:decide (0≤x5_1) = true:=zU c35
     clear c35
     by_cases c36:x5_1≤(l0.length:Int)
     ·rw [if_pos c36] at H
      have c36b0:=eq_true c36
      have c36b1:decide (x5_1≤(l0.length:Int)) = true:=zU c36
      clear c36
      obtain ⟨y240,hy240⟩:∃ y_:List (S33),y_ = (l0.take (x5_1:Int).toNat):=⟨_,rfl⟩
      replace H:(if y237.length+y240.length < 2932031007402 then ((some (y237 ++ y240:List (S33))).bind fun y245=>(if y245.length < 2932031007402 then ((some (y245 ++ [(⟨l1_0,l1_1⟩:S33)]:List (S33))).bind fun y248=>((some (l0.drop (x5_1:Int).toNat:List (S33))).bind fun y251=>(if y248.length+y251.length < 2932031007402 then (some (y248 ++ y251)) else (none)))) else (none))) else (none)) = some r:=by first|(rw [hy240];with_reducible exact H)|(have H2_:=(Option.bind_some _ _).symm.trans H;rw [hy240];with_reducible exact H2_)|(have H2_:=(Option.bind_some _ _).symm.trans H;with_reducible exact H2_)|with_reducible exact H|(rw [hy240];exact H)|exact H
      have Ny240:=zA hy240
      clear hy240
      by_cases c37:y237.length+y240.length < 2932031007402
      ·rw [if_pos c37] at H
       have LMc37:=zA c37
       clear c37
       obtain ⟨y245,hy245⟩:∃ y_:List (S33),y_ = (y237 ++ y240):=⟨_,rfl⟩
       replace H:(if y245.length < 2932031007402 then ((some (y245 ++ [(⟨l1_0,l1_1⟩:S33)]:List (S33))).bind fun y248=>((some (l0.drop (x5_1:Int).toNat:List (S33))).bind fun y251=>(if y248.length+y251.length < 2932031007402 then (some (y248 ++ y251)) else (none)))) else (none)) = some r:=by first|(rw [hy245];with_reducible exact H)|(have H2_:=(Option.bind_some _ _).symm.trans H;rw [hy245];with_reducible exact H2_)|(have H2_:=(Option.bind_some _ _).symm.trans H;with_reducible exact H2_)|with_reducible exact H|(rw [hy245];exact H)|exact H
       have Ny245:=zA hy245
       clear hy245
       by_cases c38:y245.length < 2932031007402
       ·rw [if_pos c38] at H
        have LMc38:=zA c38
        clear c38
        obtain ⟨y248,hy248⟩:∃ y_:List (S33),y_ = (y245 ++ [(⟨l1_0,l1_1⟩:S33)]):=⟨_,rfl⟩
        replace H:((some (l0.drop (x5_1:Int).toNat:List (S33))).bind fun y251=>(if y248.length+y251.length < 2932031007402 then (some (y248 ++ y251)) else (none))) = some r:=by first|(rw [hy248];with_reducible exact H)|(have H2_:=(Option.bind_some _ _).symm.trans H;rw [hy248];with_reducible exact H2_)|(have H2_:=(Option.bind_some _ _).symm.trans H;with_reducible exact H2_)|with_reducible exact H|(rw [hy248];exact H)|exact H
        have Ny248:=zA hy248
        clear hy248
        have c39b0:=eq_true (zF (by first|(with_reducible assumption)|assumption):0≤x5_1)
        have c40b0:=eq_true (zF (by first|(with_reducible assumption)|assumption):x5_1≤(l0.length:Int))
        obtain ⟨y251,hy251⟩:∃ y_:List (S33),y_ = (l0.drop (x5_1:Int).toNat):=⟨_,rfl⟩
        replace H:(if y248.length+y251.length < 2932031007402 then (some (y248 ++ y251)) else (none)) = some r:=by first|(rw [hy251];with_reducible exact H)|(have H2_:=(Option.bind_some _ _).symm.trans H;rw [hy251];with_reducible exact H2_)|(have H2_:=(Option.bind_some _ _).symm.trans H;with_reducible exact H2_)|with_reducible exact H|(rw [hy251];exact H)|exact H
        have Ny251:=zA hy251
        clear hy251
        by_cases c41:y248.length+y251.length < 2932031007402
        ·rw [if_pos c41] at H
         have LMc41:=zA c41
         clear c41
         obtain ⟨y256,hy256⟩:∃ y_:List (S33),y_ = (y248 ++ y251):=⟨_,rfl⟩
         replace H:(some y256) = some r:=by first|(rw [hy256];with_reducible exact H)|(have H2_:=(Option.bind_some _ _).symm.trans H;rw [hy256];with_reducible exact H2_)|(have H2_:=(Option.bind_some _ _).symm.trans H;with_reducible exact H2_)|with_reducible exact H|(rw [hy256];exact H)|exact H
         have Ny256:=zA hy256
         clear hy256
         obtain rfl:=zb H
         try go_wp2
         have n0_:=zA (zh HO_0.out)
         have n1_:=zA (zh HO_211000.out)
         have n2_:=zA (zh HO_211001.out)
         have n3_:=zA (zO BK210.out)
         have n4_:=zA (zC HB.out)
         clear HO_0
         clear HO_211000
         clear HO_211001
         clear BK210
         clear HB
         have HO_0:=n0_
         have HO_211000:=n1_
         have HO_211001:=n2_
         have BK210:=n3_
         have HB:=n4_
         clear n0_ n1_ n2_ n3_ n4_
         refine start_ (n:=13) (S:=fun w'=>True) (ds:=[]) #[false,false,false,false,false,false,false,false,false,false,false,false,false] (by kernel_rfl) rfl rfl trivial (fun hHeld=>?_);refine with_tabW spec_l3Put.tab2 spec_l3Put.bits2 (fun HT_ HW_=>?_)
         generalize wr.drew = w42 at HO_0 HO_211000 HO_211001 BK210 HB hHeld ⊢
         refine pure_ (i:=0) (N:=some 7) (v:=?_) (a':=?_) #[true,false,false,false,false,false,false,false,false,false,false,false,false] rfl rfl (any_of HT_.out (by kernel_rfl)) (fun _ _ _ h=>h) (Or.inl ⟨by rfl,?_⟩) ?_ ?_
         rotate_left
         ·intro w'
          go_simp
          with_reducible rfl
         rotate_left
         ·simp only [Act.put,zE,zG,zH,i64_w,i32_w]
          rfl
         refine pure_ (i:=1) (N:=some 8) (v:=?_) (a':=?_) #[true,true,false,false,false,false,false,false,false,false,false,false,false] rfl rfl (any_of HT_.out (by kernel_rfl)) (fun _ _ _ h=>h) (Or.inl ⟨by rfl,?_⟩) ?_ ?_
         rotate_left
         ·intro w'
          go_simp
          with_reducible rfl
         rotate_left
         ·simp only [Act.put,zE,zG,zH,i64_w,i32_w]
          rfl
         refine pure_ (i:=2) (N:=some 9) (v:=?_) (a':=?_) #[true,true,true,false,false,false,false,false,false,false,false,false,false] rfl rfl (any_of HT_.out (by kernel_rfl)) (fun _ _ _ h=>h) (Or.inl ⟨by rfl,?_⟩) ?_ ?_
         rotate_left
         ·intro w'
          go_simp
          with_reducible rfl
         rotate_left
         ·simp only [Act.put,zE,zG,zH,i64_w,i32_w]
          rfl
         refine pure_ (i:=3) (N:=some 10) (v:=?_) (a':=?_) #[true,true,true,true,false,false,false,false,false,false,false,false,false] rfl rfl (any_of HT_.out (by kernel_rfl)) (fun _ _ _ h=>h) (Or.inl ⟨by rfl,?_⟩) ?_ ?_
         rotate_left
         ·intro w'
          go_simp
          with_reducible rfl
         rotate_left
         ·simp only [Act.put,zE,zG,zH,i64_w,i32_w]
          rfl
         refine pure_ (i:=4) (N:=some 11) (v:=?_) (a':=?_) #[true,true,true,true,true,false,false,false,false,false,false,false,false] rfl rfl (any_of HT_.out (by kernel_rfl)) (fun _ _ _ h=>h) (Or.inl ⟨by rfl,?_⟩) ?_ ?_
         rotate_left
         ·intro w'
          go_simp
          with_reducible rfl
         rotate_left
         ·simp only [Act.put,zE,zG,zH,i64_w,i32_w]
          rfl
         refine pure_ (i:=5) (N:=some 12) (v:=undef) (a':=?_) #[true,true,true,true,true,true,false,false,false,false,false,false,false] rfl rfl (any_of HT_.out (by kernel_rfl)) (fun _ _ _ h=>h) (Or.inr ⟨by rfl,rfl⟩) ?_ ?_
         rotate_left
         ·simp only [Act.put,zE,zG,zH,i64_w,i32_w]
          rfl
         refine pure_ (i:=6) (N:=some 13) (v:=undef) (a':=?_) #[true,true,true,true,true,true,true,false,false,false,false,false,false] rfl rfl (any_of HT_.out (by kernel_rfl)) (fun _ _ _ h=>h) (Or.inr ⟨by rfl,rfl⟩) ?_ ?_
         rotate_left
         ·simp only [Act.put,zE,zG,zH,i64_w,i32_w]
          rfl
         refine pure_ (i:=7) (N:=some 14) (v:=undef) (a':=?_) #[true,true,true,true,true,true,true,true,false,false,false,false,false] rfl rfl (any_of HT_.out (by kernel_rfl)) (fun _ _ _ h=>h) (Or.inr ⟨by rfl,rfl⟩) ?_ ?_
         rotate_left
         ·simp only [Act.put,zE,zG,zH,i64_w,i32_w]
          rfl
         refine pure_ (i:=8) (N:=some 15) (v:=undef) (a':=?_) #[true,true,true,true,true,true,true,true,true,false,false,false,false] rfl rfl (any_of HT_.out (by kernel_rfl)) (fun _ _ _ h=>h) (Or.inr ⟨by rfl,rfl⟩) ?_ ?_
         rotate_left
         ·simp only [Act.put,zE,zG,zH,i64_w,i32_w]
          rfl
         refine pure_ (i:=9) (N:=some 16) (v:=undef) (a':=?_) #[true,true,true,true,true,true,true,true,true,true,false,false,false] rfl rfl (any_of HT_.out (by kernel_rfl)) (fun _ _ _ h=>h) (Or.inr ⟨by rfl,rfl⟩) ?_ ?_
         rotate_left
         ·simp only [Act.put,zE,zG,zH,i64_w,i32_w]
          rfl
         refine pure_ (i:=10) (N:=some 17) (v:=undef) (a':=?_) #[true,true,true,true,true,true,true,true,true,true,true,false,false] rfl rfl (any_of HT_.out (by kernel_rfl)) (fun _ _ _ h=>h) (Or.inr ⟨by rfl,rfl⟩) ?_ ?_
         rotate_left
         ·simp only [Act.put,zE,zG,zH,i64_w,i32_w]
          rfl
         refine pure_ (i:=11) (N:=some 18) (v:=undef) (a':=?_) #[true,true,true,true,true,true,true,true,true,true,true,true,false] rfl rfl (any_of HT_.out (by kernel_rfl)) (fun _ _ _ h=>h) (Or.inr ⟨by rfl,rfl⟩) ?_ ?_
         rotate_left
         ·simp only [Act.put,zE,zG,zH,i64_w,i32_w]
          rfl
         refine pure_ (i:=12) (N:=some 19) (v:=?_) (a':=?_) #[true,true,true,true,true,true,true,true,true,true,true,true,true] rfl rfl (any_of HT_.out (by kernel_rfl)) (fun _ _ _ h=>h) (Or.inl ⟨by rfl,?_⟩) ?_ ?_
         rotate_left
         ·intro w'
          go_simp
          with_reducible rfl
         rotate_left
         ·simp only [Act.put,zE,zG,zH,i64_w,i32_w]
          rfl
         refine done_ (done_of HT_.out (by kernel_rfl)) ?_
         try go_wp2
         have n0_:=zA (zh HO_0.out)
         have n1_:=zA (zh HO_211000.out)
         have n2_:=zA (zh HO_211001.out)
         have n3_:=zA (zO BK210.out)
         have n4_:=zA (zC HB.out)
         clear HO_0
         clear HO_211000
         clear HO_211001
         clear BK210
         clear HB
         have HO_0:=n0_
         have HO_211000:=n1_
         have HO_211001:=n2_
         have BK210:=n3_
         have HB:=n4_
         clear n0_ n1_ n2_ n3_ n4_
         refine start_ (n:=13) (S:=fun w'=>True) (ds:=[]) #[false,false,false,false,false,false,false,false,false,false,false,false,false] (by kernel_rfl) rfl rfl trivial (fun hHeld=>?_);refine with_tabW spec_l3Put.tab4 spec_l3Put.bits4 (fun HT_ HW_=>?_)
         generalize w42.drew = w43 at HO_0 HO_211000 HO_211001 BK210 HB hHeld ⊢
         refine pure_ (i:=0) (N:=some 22) (v:=?_) (a':=?_) #[true,false,false,false,false,false,false,false,false,false,false,false,false] rfl rfl (any_of HT_.out (by kernel_rfl)) (fun _ _ _ h=>h) (Or.inl ⟨by rfl,?_⟩) ?_ ?_
         rotate_left
         ·intro w'
          go_simp
          with_reducible rfl
         rotate_left
         ·simp only [Act.put,zE,zG,zH,i64_w,i32_w]
          rfl
         refine pure_ (i:=1) (N:=some 23) (v:=?_) (a':=?_) #[true,true,false,false,false,false,false,false,false,false,false,false,false] rfl rfl (any_of HT_.out (by kernel_rfl)) (fun _ _ _ h=>h) (Or.inl ⟨by rfl,?_⟩) ?_ ?_
         rotate_left
         ·intro w'
          go_simp
          with_reducible rfl
         rotate_left
         ·simp only [Act.put,zE,zG,zH,i64_w,i32_w]
          rfl
         refine pure_ (i:=2) (N:=some 24) (v:=?_) (a':=?_) #[true,true,true,false,false,false,false,false,false,false,false,false,false] rfl rfl (any_of HT_.out (by kernel_rfl)) (fun _ _ _ h=>h) (Or.inl ⟨by rfl,?_⟩) ?_ ?_
         rotate_left
         ·intro w'
          go_simp
          with_reducible rfl
         rotate_left
         ·simp only [Act.put,zE,zG,zH,i64_w,i32_w]
          rfl
         refine pure_ (i:=3) (N:=some 25) (v:=?_) (a':=?_) #[true,true,true,true,false,false,false,false,false,false,false,false,false] rfl rfl (any_of HT_.out (by kernel_rfl)) (fun _ _ _ h=>h) (Or.inl ⟨by rfl,?_⟩) ?_ ?_
         rotate_left
         ·intro w'
          go_simp
          with_reducible rfl
         rotate_left
         ·simp only [Act.put,zE,zG,zH,i64_w,i32_w]
          rfl
         refine pure_ (i:=4) (N:=some 26) (v:=?_) (a':=?_) #[true,true,true,true,true,false,false,false,false,false,false,false,false] rfl rfl (any_of HT_.out (by kernel_rfl)) (fun _ _ _ h=>h) (Or.inl ⟨by rfl,?_⟩) ?_ ?_
         rotate_left
         ·intro w'
          go_simp
          with_reducible rfl
         rotate_left
         ·simp only [Act.put,zE,zG,zH,i64_w,i32_w]
          rfl
         refine pure_ (i:=5) (N:=some 27) (v:=undef) (a':=?_) #[true,true,true,true,true,true,false,false,false,false,false,false,false] rfl rfl (any_of HT_.out (by kernel_rfl)) (fun _ _ _ h=>h) (Or.inr ⟨by rfl,rfl⟩) ?_ ?_
         rotate_left
         ·simp only [Act.put,zE,zG,zH,i64_w,i32_w]
          rfl
         refine pure_ (i:=6) (N:=some 28) (v:=undef) (a':=?_) #[true,true,true,true,true,true,true,false,false,false,false,false,false] rfl rfl (any_of HT_.out (by kernel_rfl)) (fun _ _ _ h=>h) (Or.inr ⟨by rfl,rfl⟩) ?_ ?_
         rotate_left
         ·simp only [Act.put,zE,zG,zH,i64_w,i32_w]
          rfl
         refine pure_ (i:=7) (N:=some 29) (v:=undef) (a':=?_) #[true,true,true,true,true,true,true,true,false,false,false,false,false] rfl rfl (any_of HT_.out (by kernel_rfl)) (fun _ _ _ h=>h) (Or.inr ⟨by rfl,rfl⟩) ?_ ?_
         rotate_left
         ·simp only [Act.put,zE,zG,zH,i64_w,i32_w]
          rfl
         refine pure_ (i:=8) (N:=some 30) (v:=undef) (a':=?_) #[true,true,true,true,true,true,true,true,true,false,false,false,false] rfl rfl (any_of HT_.out (by kernel_rfl)) (fun _ _ _ h=>h) (Or.inr ⟨by rfl,rfl⟩) ?_ ?_
         rotate_left
         ·simp only [Act.put,zE,zG,zH,i64_w,i32_w]
          rfl
         refine pure_ (i:=9) (N:=some 31) (v:=undef) (a':=?_) #[true,true,true,true,true,true,true,true,true,true,false,false,false] rfl rfl (any_of HT_.out (by kernel_rfl)) (fun _ _ _ h=>h) (Or.inr ⟨by rfl,rfl⟩) ?_ ?_
         rotate_left
         ·simp only [Act.put,zE,zG,zH,i64_w,i32_w]
          rfl
         refine pure_ (i:=10) (N:=some 32) (v:=undef) (a':=?_) #[true,true,true,true,true,true,true,true,true,true,true,false,false] rfl rfl (any_of HT_.out (by kernel_rfl)) (fun _ _ _ h=>h) (Or.inr ⟨by rfl,rfl⟩) ?_ ?_
         rotate_left
         ·simp only [Act.put,zE,zG,zH,i64_w,i32_w]
          rfl
         refine pure_ (i:=11) (N:=some 33) (v:=undef) (a':=?_) #[true,true,true,true,true,true,true,true,true,true,true,true,false] rfl rfl (any_of HT_.out (by kernel_rfl)) (fun _ _ _ h=>h) (Or.inr ⟨by rfl,rfl⟩) ?_ ?_
         rotate_left
         ·simp only [Act.put,zE,zG,zH,i64_w,i32_w]
          rfl
         refine pure_ (i:=12) (N:=some 34) (v:=?_) (a':=?_) #[true,true,true,true,true,true,true,true,true,true,true,true,true] rfl rfl (any_of HT_.out (by kernel_rfl)) (fun _ _ _ h=>h) (Or.inl ⟨by rfl,?_⟩) ?_ ?_
         rotate_left
         ·intro w'
          go_simp
          with_reducible rfl
         rotate_left
         ·simp only [Act.put,zE,zG,zH,i64_w,i32_w]
          rfl
         refine done_ (done_of HT_.out (by kernel_rfl)) ?_
         try go_wp2_with (first|((with_reducible refine gate_dst (N:=36) rfl ?_);refine Kd.N_lit k33 _ 33 ?hg (N':=36) ?hd (xs:=([]:List (S33))) (inner:=[]) (ok:=(fun k_=>((P0_ k_∨P1_0_ k_∨P1_1_ k_)∨w.heap.size≤k_)∧k_≠gb210)) (okp:=(fun k_=>((P0_ k_∨P1_0_ k_∨P1_1_ k_)∨w.heap.size≤k_)∧k_≠gb210)) ?hr ?hp (fun _ hk=>hk) ((show ∀ k_,w43.heap.size≤k_→(fun k_=>((P0_ k_∨P1_0_ k_∨P1_1_ k_)∨w.heap.size≤k_)∧k_≠gb210) k_ from fun k_ hk=>⟨(.inr (Nat.le_trans (zZ (by repeat (first|(with_reducible first|exact HB.out|apply zD|apply zB|apply zC|refine zI ?_ GE210.out)|exact HB.out))) hk)),Kd.freshB (g:=gb210) (o:=.cells #[.slice A1_0 l1_0.length c1_0,.slice A1_1 l1_1.length c1_1] 33 (0,0)) (by (with_reducible repeat (first|refine zM ?_ _|refine zO ?_|refine zN ?_ _));exact BK210.out) k_ hk⟩) _ (Nat.le_refl _)) (Below.refl _ _) (Nat.le_refl _) (by simp) ?_;(case hd=>rfl);(case hg=>rfl);(case hr=>first|(go_simp;done)|(go_simp;rfl));(case hp=>exact (Reps.none _ _));intro v238 w44 ho45 hb hg_ hnew_;clear hg_ hnew_;(first|rw [← Ny237.out] at ho45|(simp only [Int.reduceToNat] at ho45;rw [← Ny237.out] at ho45));have n0_:=zA (Kd.V_elder' (by (with_reducible repeat (first|apply zi|apply zj|apply zh));exact HO_0.out) (Kd.N_base ho45) hb);have n1_:=zA (Kd.V_elder' (by (with_reducible repeat (first|apply zi|apply zj|apply zh));exact HO_211000.out) (Kd.N_base ho45) hb);have n2_:=zA (Kd.V_elder' (by (with_reducible repeat (first|apply zi|apply zj|apply zh));exact HO_211001.out) (Kd.N_base ho45) hb);have n3_:=zA (Kd.N_lower ho45 (zZ (by repeat (first|(with_reducible first|exact HB.out|apply zD|apply zB|apply zC|refine zI ?_ GE210.out)|exact HB.out))));have n4_:=zA (zg (g:=gb210) (o:=.cells #[.slice A1_0 l1_0.length c1_0,.slice A1_1 l1_1.length c1_1] 33 (0,0)) (by (with_reducible repeat (first|refine zM ?_ _|refine zO ?_|refine zN ?_ _));exact BK210.out) hb);have n5_:=zA (za (by repeat (first|(with_reducible first|exact HB.out|apply zD|apply zB|apply zC|refine zI ?_ GE210.out)|exact HB.out)) hb);clear HO_0;clear HO_211000;clear HO_211001;clear BK210;clear HB;have HO_0:=n0_;have HO_211000:=n1_;have HO_211001:=n2_;have HO239:=n3_;have BK210:=n4_;have HB:=n5_;clear n0_ n1_ n2_ n3_ n4_ n5_;clear hb ho45;have q46:(x5_1:Int)≤((l0.length:Int):Int):=zF (by first|(with_reducible assumption)|assumption);obtain ⟨i046,hi046,_,hsz46,_⟩:=info_parts info33;have hroom46:l0.length≤c0:=(zs HO_0.out).2.1;have hC46:Kd.F k33 _ _ A0 l0.length l0:=(Kd.V_at (base:=w.heap.size) HO_0.out).2.2;have hcut46:=cut_to (P:=Try.prog) 27 33 .i64 Try.underlying27 hi046 A0 l0.length c0 x5_1 (zF (by first|(with_reducible assumption)|assumption)) q46 hroom46;have hr46:=Kd.F_take (m:=(x5_1:Int).toNat) hC46 (by omega);have hy46:y240.length = (x5_1:Int).toNat:=(by rw [Ny240.out,zQ];omega);rw [← Ny240.out] at hr46;rw [← hy46] at hcut46;have HO244:=zA (show Kd.V k33 33 _ w.heap.size _ (.slice A0 y240.length c0) y240 from Kd.V_mk (by omega) hr46);have HC244:=zA (show y240.length≤c0 from by omega);clear hr46 hC46 hroom46 hi046 hsz46;have KY46:=zA hy46;clear hy46;replace q46:=eq_true q46)|((with_reducible refine gate_builtin (b:=.append) (xs:=#[.tmp 36,.tmp 39]) rfl ?_);at_builtin;refine Kd.N_append_rows k33 (w0:=w) w.heap.size rfl (.tmp 36) (.tmp 39) 27 33 (.agg #[(.slice none 0 0),(.slice none 0 0)]) 48 rfl Try.underlying27 info33 rfl (by decide) (by omega) v238 y237 y240 _ _ _ (fun k_=>((P0_ k_∨P1_0_ k_∨P1_1_ k_)∨w.heap.size≤k_)∧k_≠gb210) (fun k_=>((fun k_=>((P0_ k_∨P1_0_ k_∨P1_1_ k_)∨w.heap.size≤k_)∧k_≠gb210)) k_∧some k_≠(v238:Value).ownBlock) rfl rfl ?aO ?aR (fun _ hk=>hk) ?aF ?aB ?aS ?aL ?_;(case aR=>exact (by skip;exact Kd.V_F (Kd.V_mono (ok':=(fun k_=>((fun k_=>((P0_ k_∨P1_0_ k_∨P1_1_ k_)∨w.heap.size≤k_)∧k_≠gb210)) k_∧some k_≠(v238:Value).ownBlock)) (HO244.out) (fun k_ hk=>⟨⟨hk.1.1,hk.1.2⟩,hk.2⟩))));(case aB=>exact (by repeat (first|(with_reducible first|exact HB.out|apply zD|apply zB|apply zC|refine zI ?_ GE210.out)|exact HB.out)));(case aF=>exact (fun k_ hk=>⟨(.inr (Nat.le_trans (zZ (by repeat (first|(with_reducible first|exact HB.out|apply zD|apply zB|apply zC|refine zI ?_ GE210.out)|exact HB.out))) hk)),Kd.freshB (g:=gb210) (o:=.cells #[.slice A1_0 l1_0.length c1_0,.slice A1_1 l1_1.length c1_1] 33 (0,0)) (by (with_reducible repeat (first|refine zM ?_ _|refine zO ?_|refine zN ?_ _));exact BK210.out) k_ hk⟩));(case aO=>exact (by (with_reducible repeat (first|apply Kd.N_alloc|apply Kd.N_drewN|apply Kd.N_drew));exact HO239.out));(case aS=>exact (zZ (by repeat (first|(with_reducible first|exact HB.out|apply zD|apply zB|apply zC|refine zI ?_ GE210.out)|exact HB.out))));(case aL=>have:=LMc37.out;omega);intro v246 w47 ho hb hg hat;rw [← Ny245.out] at ho;have n0_:=zA (Kd.V_afterv (ok:=(fun k_=>((P0_ k_∨P1_0_ k_∨P1_1_ k_)∨w.heap.size≤k_)∧k_≠gb210)) (by (with_reducible repeat (first|apply zi|apply zj|apply zh));exact HO_0.out) hg hat);have n1_:=zA (Kd.V_afterv (ok:=(fun k_=>((P0_ k_∨P1_0_ k_∨P1_1_ k_)∨w.heap.size≤k_)∧k_≠gb210)) (by (with_reducible repeat (first|apply zi|apply zj|apply zh));exact HO_211000.out) hg hat);have n2_:=zA (Kd.V_afterv (ok:=(fun k_=>((P0_ k_∨P1_0_ k_∨P1_1_ k_)∨w.heap.size≤k_)∧k_≠gb210)) (by (with_reducible repeat (first|apply zi|apply zj|apply zh));exact HO_211001.out) hg hat);have n3_:=zA (blk_grown (g:=gb210) (o:=.cells #[.slice A1_0 l1_0.length c1_0,.slice A1_1 l1_1.length c1_1] 33 (0,0)) (by (with_reducible repeat (first|refine zM ?_ _|refine zO ?_|refine zN ?_ _));exact BK210.out) hg (Kd.N_away HO239.out (fun _ hk=>hk.2)));have n4_:=zA (Kd.V_afterv (ok:=(fun k_=>((P0_ k_∨P1_0_ k_∨P1_1_ k_)∨w.heap.size≤k_)∧k_≠gb210)) (by (with_reducible repeat (first|apply zi|apply zj|apply zh));exact HO244.out) hg hat);have n5_:=zA (hb);have n6_:=zA (ho);clear HO_0;clear HO_211000;clear HO_211001;clear BK210;clear HO244;clear HB;clear HO239;have HO_0:=n0_;have HO_211000:=n1_;have HO_211001:=n2_;have BK210:=n3_;have HO244:=n4_;have HB:=n5_;have HO247:=n6_;clear n0_ n1_ n2_ n3_ n4_ n5_ n6_;clear ho hb hg hat;have hcz48_0:w47.cell? ⟨gb210,0,none⟩ = some (.slice A1_0 l1_0.length c1_0):=(zc BK210.out 0).trans rfl;have hcz48_1:w47.cell? ⟨gb210,1,none⟩ = some (.slice A1_1 l1_1.length c1_1):=(zc BK210.out 1).trans rfl;have hfz48_0:=zl BK210.out 0;have hfz48_1:=zl BK210.out 1)|((with_reducible refine gate_builtin (b:=.append) (xs:=#[.tmp 41,.tmp 43]) rfl ?_);at_builtin;refine Kd.N_append k33 (w0:=w) w.heap.size rfl (.tmp 41) (.tmp 43) 27 33 (.agg #[(.slice none 0 0),(.slice none 0 0)]) 48 rfl Try.underlying27 info33 rfl (by decide) (by omega) v246 y245 (⟨l1_0,l1_1⟩:S33) [.slice A1_0 l1_0.length c1_0,.slice A1_1 l1_1.length c1_1] (fun k_=>((P0_ k_∨P1_0_ k_∨P1_1_ k_)∨w.heap.size≤k_)∧k_≠gb210) (fun k_=>((fun k_=>((P0_ k_∨P1_0_ k_∨P1_1_ k_)∨w.heap.size≤k_)∧k_≠gb210)) k_∧some k_≠(v246:Value).ownBlock) rfl rfl ?aP (fun _ hk=>hk) ?aF ?aO ?aB ?aS ?aL ?_;(case aP=>exact (k33_mkF _ _ (⟨l1_0,l1_1⟩:S33) (zs (Kd.V_mono (ok':=(fun k_=>((fun k_=>((P0_ k_∨P1_0_ k_∨P1_1_ k_)∨w.heap.size≤k_)∧k_≠gb210)) k_∧some k_≠(v246:Value).ownBlock)) (HO_211000.out) (fun k_ hk=>⟨⟨hk.1.1,hk.1.2⟩,hk.2⟩))).2.1 (Kd.V_F (Kd.V_mono (ok':=(fun k_=>((fun k_=>((P0_ k_∨P1_0_ k_∨P1_1_ k_)∨w.heap.size≤k_)∧k_≠gb210)) k_∧some k_≠(v246:Value).ownBlock)) (HO_211000.out) (fun k_ hk=>⟨⟨hk.1.1,hk.1.2⟩,hk.2⟩))) (zs (Kd.V_mono (ok':=(fun k_=>((fun k_=>((P0_ k_∨P1_0_ k_∨P1_1_ k_)∨w.heap.size≤k_)∧k_≠gb210)) k_∧some k_≠(v246:Value).ownBlock)) (HO_211001.out) (fun k_ hk=>⟨⟨hk.1.1,hk.1.2⟩,hk.2⟩))).2.1 (Kd.V_F (Kd.V_mono (ok':=(fun k_=>((fun k_=>((P0_ k_∨P1_0_ k_∨P1_1_ k_)∨w.heap.size≤k_)∧k_≠gb210)) k_∧some k_≠(v246:Value).ownBlock)) (HO_211001.out) (fun k_ hk=>⟨⟨hk.1.1,hk.1.2⟩,hk.2⟩)))));(case aB=>exact (by repeat (first|(with_reducible first|exact HB.out|apply zD|apply zB|apply zC|refine zI ?_ GE210.out)|exact HB.out)));(case aF=>exact (fun k_ hk=>⟨(.inr (Nat.le_trans (zZ (by repeat (first|(with_reducible first|exact HB.out|apply zD|apply zB|apply zC|refine zI ?_ GE210.out)|exact HB.out))) hk)),Kd.freshB (g:=gb210) (o:=.cells #[.slice A1_0 l1_0.length c1_0,.slice A1_1 l1_1.length c1_1] 33 (0,0)) (by (with_reducible repeat (first|refine zM ?_ _|refine zO ?_|refine zN ?_ _));exact BK210.out) k_ hk⟩));(case aO=>exact (by (with_reducible repeat (first|apply Kd.N_alloc|apply Kd.N_drewN|apply Kd.N_drew));exact HO247.out));(case aS=>exact (zZ (by repeat (first|(with_reducible first|exact HB.out|apply zD|apply zB|apply zC|refine zI ?_ GE210.out)|exact HB.out))));(case aL=>have:=LMc38.out;omega);intro v249 w49 ho hb hg hat;rw [← Ny248.out] at ho;have n0_:=zA (Kd.V_afterv (ok:=(fun k_=>((P0_ k_∨P1_0_ k_∨P1_1_ k_)∨w.heap.size≤k_)∧k_≠gb210)) (by (with_reducible repeat (first|apply zi|apply zj|apply zh));exact HO_0.out) hg hat);have n1_:=zA (Kd.V_afterv (ok:=(fun k_=>((P0_ k_∨P1_0_ k_∨P1_1_ k_)∨w.heap.size≤k_)∧k_≠gb210)) (by (with_reducible repeat (first|apply zi|apply zj|apply zh));exact HO_211000.out) hg hat);have n2_:=zA (Kd.V_afterv (ok:=(fun k_=>((P0_ k_∨P1_0_ k_∨P1_1_ k_)∨w.heap.size≤k_)∧k_≠gb210)) (by (with_reducible repeat (first|apply zi|apply zj|apply zh));exact HO_211001.out) hg hat);have n3_:=zA (blk_grown (g:=gb210) (o:=.cells #[.slice A1_0 l1_0.length c1_0,.slice A1_1 l1_1.length c1_1] 33 (0,0)) (by (with_reducible repeat (first|refine zM ?_ _|refine zO ?_|refine zN ?_ _));exact BK210.out) hg (Kd.N_away HO247.out (fun _ hk=>hk.2)));have n4_:=zA (Kd.V_afterv (ok:=(fun k_=>((P0_ k_∨P1_0_ k_∨P1_1_ k_)∨w.heap.size≤k_)∧k_≠gb210)) (by (with_reducible repeat (first|apply zi|apply zj|apply zh));exact HO244.out) hg hat);have n5_:=zA (hb);have n6_:=zA (ho);clear HO_0;clear HO_211000;clear HO_211001;clear BK210;clear HO244;clear HB;clear HO247;have HO_0:=n0_;have HO_211000:=n1_;have HO_211001:=n2_;have BK210:=n3_;have HO244:=n4_;have HB:=n5_;have HO250:=n6_;clear n0_ n1_ n2_ n3_ n4_ n5_ n6_;clear ho hb hg hat;have q50:(x5_1:Int)≤((l0.length:Int):Int):=zF (by first|(with_reducible assumption)|assumption);obtain ⟨i050,hi050,_,hsz50,_⟩:=info_parts info33;have hroom50:l0.length≤c0:=(zs HO_0.out).2.1;have hC50:Kd.F k33 _ _ A0 l0.length l0:=(Kd.V_at (base:=w.heap.size) HO_0.out).2.2;have q050:(0:Int)≤(x5_1:Int):=zF (by first|(with_reducible assumption)|assumption);have hcut50:=cut_from (P:=Try.prog) 27 33 .i64 Try.underlying27 hi050 2 hsz50 A0 l0.length c0 x5_1 q050 q50;have hr50:=Kd.F_cut (m:=(x5_1:Int).toNat) (c:=c0) hC50 (by omega) hroom50;obtain ⟨A50,hA50⟩:∃ A1,A1 = (if c0 = (x5_1:Int).toNat then A0 else (A0:Option Addr).map (·.add ((x5_1:Int).toNat * 2))):=⟨_,rfl⟩;obtain ⟨c50,hc50⟩:∃ c1,c1 = c0 - (x5_1:Int).toNat:=⟨_,rfl⟩;have hy50:y251.length = l0.length - (x5_1:Int).toNat:=(by rw [Ny251.out,zR] <;> omega);rw [show (l0).drop (x5_1:Int).toNat = y251 from Ny251.out.symm] at hr50;replace hr50:Kd.F k33 _ _ A50 y251.length y251:=(by rw [hA50];exact hr50);rw [← hy50, ← hA50, ← hc50] at hcut50;have HO255:=zA (show Kd.V k33 33 _ w.heap.size _ (.slice A50 y251.length c50) y251 from Kd.V_mk (by rw [hy50,hc50];exact Nat.sub_le_sub_right hroom50 _) hr50);have HC255:=zA (show y251.length≤c50 from by rw [hy50,hc50];exact Nat.sub_le_sub_right hroom50 _);clear hr50 hC50 hroom50 hi050 hsz50 hc50;have KY50:=zA hy50;have KA50:=zA hA50;clear hy50 hA50;replace q50:=eq_true q50)|((with_reducible refine gate_builtin (b:=.append) (xs:=#[.tmp 45,.tmp 48]) rfl ?_);at_builtin;refine Kd.N_append_rows k33 (w0:=w) w.heap.size rfl (.tmp 45) (.tmp 48) 27 33 (.agg #[(.slice none 0 0),(.slice none 0 0)]) 48 rfl Try.underlying27 info33 rfl (by decide) (by omega) v249 y248 y251 _ _ _ (fun k_=>((P0_ k_∨P1_0_ k_∨P1_1_ k_)∨w.heap.size≤k_)∧k_≠gb210) (fun k_=>((fun k_=>((P0_ k_∨P1_0_ k_∨P1_1_ k_)∨w.heap.size≤k_)∧k_≠gb210)) k_∧some k_≠(v249:Value).ownBlock) rfl rfl ?aO ?aR (fun _ hk=>hk) ?aF ?aB ?aS ?aL ?_;(case aR=>exact (by skip;exact Kd.V_F (Kd.V_mono (ok':=(fun k_=>((fun k_=>((P0_ k_∨P1_0_ k_∨P1_1_ k_)∨w.heap.size≤k_)∧k_≠gb210)) k_∧some k_≠(v249:Value).ownBlock)) (HO255.out) (fun k_ hk=>⟨⟨hk.1.1,hk.1.2⟩,hk.2⟩))));(case aB=>exact (by repeat (first|(with_reducible first|exact HB.out|apply zD|apply zB|apply zC|refine zI ?_ GE210.out)|exact HB.out)));(case aF=>exact (fun k_ hk=>⟨(.inr (Nat.le_trans (zZ (by repeat (first|(with_reducible first|exact HB.out|apply zD|apply zB|apply zC|refine zI ?_ GE210.out)|exact HB.out))) hk)),Kd.freshB (g:=gb210) (o:=.cells #[.slice A1_0 l1_0.length c1_0,.slice A1_1 l1_1.length c1_1] 33 (0,0)) (by (with_reducible repeat (first|refine zM ?_ _|refine zO ?_|refine zN ?_ _));exact BK210.out) k_ hk⟩));(case aO=>exact (by (with_reducible repeat (first|apply Kd.N_alloc|apply Kd.N_drewN|apply Kd.N_drew));exact HO250.out));(case aS=>exact (zZ (by repeat (first|(with_reducible first|exact HB.out|apply zD|apply zB|apply zC|refine zI ?_ GE210.out)|exact HB.out))));(case aL=>have:=LMc41.out;omega);intro v257 w51 ho hb hg hat;rw [← Ny256.out] at ho;have n0_:=zA (Kd.V_afterv (ok:=(fun k_=>((P0_ k_∨P1_0_ k_∨P1_1_ k_)∨w.heap.size≤k_)∧k_≠gb210)) (by (with_reducible repeat (first|apply zi|apply zj|apply zh));exact HO_0.out) hg hat);have n1_:=zA (Kd.V_afterv (ok:=(fun k_=>((P0_ k_∨P1_0_ k_∨P1_1_ k_)∨w.heap.size≤k_)∧k_≠gb210)) (by (with_reducible repeat (first|apply zi|apply zj|apply zh));exact HO_211000.out) hg hat);have n2_:=zA (Kd.V_afterv (ok:=(fun k_=>((P0_ k_∨P1_0_ k_∨P1_1_ k_)∨w.heap.size≤k_)∧k_≠gb210)) (by (with_reducible repeat (first|apply zi|apply zj|apply zh));exact HO_211001.out) hg hat);have n3_:=zA (blk_grown (g:=gb210) (o:=.cells #[.slice A1_0 l1_0.length c1_0,.slice A1_1 l1_1.length c1_1] 33 (0,0)) (by (with_reducible repeat (first|refine zM ?_ _|refine zO ?_|refine zN ?_ _));exact BK210.out) hg (Kd.N_away HO250.out (fun _ hk=>hk.2)));have n4_:=zA (Kd.V_afterv (ok:=(fun k_=>((P0_ k_∨P1_0_ k_∨P1_1_ k_)∨w.heap.size≤k_)∧k_≠gb210)) (by (with_reducible repeat (first|apply zi|apply zj|apply zh));exact HO244.out) hg hat);have n5_:=zA (Kd.V_afterv (ok:=(fun k_=>((P0_ k_∨P1_0_ k_∨P1_1_ k_)∨w.heap.size≤k_)∧k_≠gb210)) (by (with_reducible repeat (first|apply zi|apply zj|apply zh));exact HO255.out) hg hat);have n6_:=zA (hb);have n7_:=zA (ho);clear HO_0;clear HO_211000;clear HO_211001;clear BK210;clear HO244;clear HO255;clear HB;clear HO250;have HO_0:=n0_;have HO_211000:=n1_;have HO_211001:=n2_;have BK210:=n3_;have HO244:=n4_;have HO255:=n5_;have HB:=n6_;have HO258:=n7_;clear n0_ n1_ n2_ n3_ n4_ n5_ n6_ n7_;clear ho hb hg hat))
         go_ret
         exact ⟨_,by first|rfl|(simp [errW_none,errW_some] <;> rfl)|(simp [*,errW_none,errW_some] <;> rfl),Kd.N_V (by (with_reducible repeat (first|apply Kd.N_alloc|apply Kd.N_drewN|apply Kd.N_drew));exact Kd.N_mono HO258.out (fun _ hk=>hk.1)),by repeat (first|(with_reducible first|exact HB.out|apply zD|apply zB|apply zC|refine zI ?_ GE210.out)|exact HB.out)⟩
        ·rw [if_neg c41] at H
         exact absurd H (by simp)
       ·rw [if_neg c38] at H
        exact absurd H (by simp)
      ·rw [if_neg c37] at H
       exact absurd H (by simp)
     ·rw [if_neg c36] at H
      exact absurd H (by simp)
    ·rw [if_neg c35] at H
     exact absurd H (by simp)

end Go.Proofs.Ytdaiohcgdpclnaa.Q
