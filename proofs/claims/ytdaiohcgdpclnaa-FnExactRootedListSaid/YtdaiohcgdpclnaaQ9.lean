import Derived.Test.YtdaiohcgdpclnaaQ0
import Derived.Test.YtdaiohcgdpclnaaQ10
import Derived.Test.YtdaiohcgdpclnaaQ8
import Derived.Test.YtdaiohcgdpclnaaZ
namespace Go.Proofs.Ytdaiohcgdpclnaa.Q
open Go.RowKit Go.Proofs.YtdaiohcgdpclnaaW.PrintWords Go.Proofs.YtdaiohcgdpclnaaW.PrintLast Go.Proofs.YtdaiohcgdpclnaaW.PrintMore
attribute [local go_sem] max2_int min2_int max_two min_two max_three min_three max_four min_four   -- for this text's walks alone
set_option linter.unusedVariables false
set_option linter.unusedSimpArgs false

/-! ### laws_FnExactRootedList: function 10 (a section of my own) -/
def laws_FnExactRootedList.f (k:Nat) (a0:Int) (a1:Int):Option (Bool):=(spec_RootedList.f k a0 a1).bind fun s=>(impl_RootedList.f a0 a1).bind fun o=>if s.2 = o.2∧o.1.length≤1000000∧laws_eqMapS.f 200 o.1 s.1 = some true then (laws_markMapS.all o.1 1).bind fun m=>if laws_heldMapS.f 200 m.1 1 = some m.2∧0≤m.2 then some true else none else none
set_option maxHeartbeats 8000000 in
set_option maxRecDepth 100000 in
/-- the list, its rows all apart -/
theorem laws_FnExactRootedList.ril (a0:Int) (a1:Int) (r1:List (S33)) (r2:Bool) (w:World) (h:impl_RootedList.f a0 a1 = some (r1,r2)) :
  Calls Try.prog 18 #[.int .i64 a0,.int .i64 a1] w fun e w' => ∃ v0_:Value,e = .returned (.tuple #[v0_,.bool r2])∧Kd.S impl_rooted.kS 33 w' w.heap.size (fun _=>True) v0_ r1∧Below w.heap.size w w':=by
 have HB:=zA (Below.refl w.heap.size w)
 unfold impl_RootedList.f at h
 by_cases c3:a0 < 1
 ·rw [if_pos c3] at h
  have c3b0:decide (a0 < 1) = true:=zO c3
  clear c3
  simp only [Option.some.injEq,Prod.mk.injEq] at h
  obtain ⟨rfl,rfl⟩:=h
  go_enter Try.func18,Try.ntmps18
  go_wp2
  go_ret2
  exact ⟨_,rfl,Kd.S_nil _ _ _ _ _,HB.out⟩
 rw [if_neg c3] at h
 have c3b0:decide (a0 < 1) = false:=zP c3
 clear c3
 by_cases c4:a0 > 2
 ·rw [if_pos c4] at h
  have c4b0:decide (2 < a0) = true:=zO c4
  clear c4
  simp only [Option.some.injEq,Prod.mk.injEq] at h
  obtain ⟨rfl,rfl⟩:=h
  go_enter Try.func18,Try.ntmps18
  go_wp2
  go_ret2
  exact ⟨_,rfl,Kd.S_nil _ _ _ _ _,HB.out⟩
 rw [if_neg c4] at h
 have c4b0:decide (2 < a0) = false:=zP c4
 clear c4
 by_cases c5:a1 < 0
 ·rw [if_pos c5] at h
  have c5b0:decide (a1 < 0) = true:=zO c5
  clear c5
  simp only [Option.some.injEq,Prod.mk.injEq] at h
  obtain ⟨rfl,rfl⟩:=h
  go_enter Try.func18,Try.ntmps18
  go_wp2
  go_ret2
  exact ⟨_,rfl,Kd.S_nil _ _ _ _ _,HB.out⟩
 rw [if_neg c5] at h
 have c5b0:decide (a1 < 0) = false:=zP c5
 clear c5
 obtain ⟨L,hL,h⟩:=zz0 h
 simp only [Option.some.injEq,Prod.mk.injEq] at h
 obtain ⟨rfl,rfl⟩:=h
 have HL:=zA hL
 clear hL
 go_enter Try.func18,Try.ntmps18
 go_wp2_with (go_at_call 42;refine (impl_rooted.callsS a0 a1 L _ HL.out).mono ?_;rintro e w2 ⟨v2,rfl,ho,hb⟩;have HO2:=zA ho;have HB2:=zA hb;clear ho hb)
 go_ret2
 exact ⟨_,rfl,HO2.out,HB2.out⟩
set_option maxHeartbeats 16000000 in
set_option maxRecDepth 100000 in
set_option maxHeartbeats 8000000 in
set_option maxRecDepth 100000 in
theorem laws_FnExactRootedList.calls (k:Nat) (a0:Int) (a1:Int) (r:Bool) (w:World) (h:laws_FnExactRootedList.f k a0 a1 = some r) :
  Calls Try.prog 10 #[.int .i64 a0,.int .i64 a1] w fun e w'=>e = .returned (.bool r)∧Below w.heap.size w w':=by
 unfold laws_FnExactRootedList.f at h
 obtain ⟨⟨s1,s2⟩,hs,h⟩:=zz0 h
 obtain ⟨⟨L,bb⟩,hg,h⟩:=zz0 h
 simp only at h
 by_cases c1:¬ (s2 = bb∧L.length≤1000000∧laws_eqMapS.f 200 L s1 = some true)
 ·rw [if_neg c1] at h;cases h
 replace c1:=Classical.not_not.mp c1
 rw [if_pos c1] at h
 obtain ⟨rfl,hl,he⟩:=c1
 obtain ⟨⟨m,k1⟩,hm,h⟩:=zz0 h
 simp only at h
 by_cases c3:¬ (laws_heldMapS.f 200 m 1 = some k1∧0≤k1)
 ·rw [if_neg c3] at h;cases h
 replace c3:=Classical.not_not.mp c3
 rw [if_pos c3] at h
 obtain rfl:=zS h
 have HS:=zA hs
 have HG:=zA hg
 have HE:=zA he
 have HM:=zA hm
 have HD:=zA c3
 have HL:=zA hl
 have hk1:decide (k1 < 0) = false:=zP (by have:=c3.2;omega)
 clear hs hg he hm c3 hl h
 have key:∀ b:Bool,s2 = b→Calls Try.prog 10 #[.int .i64 a0,.int .i64 a1] w fun e w'=>e = .returned (.bool true)∧Below w.heap.size w w':=by
  intro b hbb
  subst hbb
  cases s2
  all_goals
   go_enter Try.func10,Try.ntmps10
   go_upto_region 2 with (go_at_call 19;refine (spec_RootedList.calls k a0 a1 s1 _ _ HS.out).mono ?_;rintro e w1 ⟨v1,rfl,ho,hb⟩;obtain ⟨Aw,cw,rfl⟩:=Kd.V_slice ho;have HC1:=zA (Kd.V_reads' ho).2;have HB1:=zA hb;clear ho hb)
   go_upto_region 3 with (go_at_call 18;refine (laws_FnExactRootedList.ril a0 a1 L _ w1 HG.out).mono ?_;rintro e w2 ⟨v2,rfl,ho,hb⟩;obtain ⟨Ag,cg,rfl⟩:=Kd.S_slice ho;have HO2:=zA ho;have HB2:=zA hb;clear ho hb)
   have HR2:=zA (Kd.S_reads' (impl_rooted.kS_S HO2.out)).2
   have HW2:=zA (zW HC1.out.2 HB2.out)
   go_upto_region 5 with (go_at_call 33;refine (laws_eqMapS.calls 200 Ag cg L Aw cw s1 true _ HR2.out.2 HR2.out.1 HW2.out HC1.out.1 HE.out).mono ?_;rintro e w2b ⟨rfl,hb⟩;have HB2b:=zA (zR HB2.out hb);have HO2b:=zA (Kd.S_below HO2.out hb);clear hb)
   clear HR2 HW2
   go_upto_region 7 with (go_at_call 34;refine (laws_markMapS.marksA L m 1 k1 HM.out HL.out Ag cg _ w1 HO2b.out HB2b.out).mono ?_;rintro e w3 ⟨rfl,⟨hm1,hm2⟩,hb⟩;have HM3:=zA (And.intro hm1 hm2);have HB3:=zA hb;clear hm1 hm2 hb)
   have HLG:=zA (show L.length≤cg from (Kd.S_reads' (impl_rooted.kS_S HO2.out)).2.1)
   clear HO2 HO2b
   have HG3:=zA (show Kd.C k33 w3 Ag m.length m∧m.length≤cg∧m.length = L.length from ⟨HM3.out.2,by rw [HM3.out.1];exact HLG.out,HM3.out.1⟩)
   have HHC:=zA (show ∀ W,Kd.C k33 W Ag m.length m→Calls Try.prog 35 #[.slice Ag L.length cg,.int .i64 1] W fun e w'=>e = .returned (.int .i64 k1)∧Drawn0 W w' from fun W hW=>by
    have h1:=laws_heldMapS.calls 200 Ag cg m 1 k1 W hW HG3.out.2.1 HD.out.1
    rw [HG3.out.2.2] at h1
    exact h1)
   clear HM3
   go_upto_region 13 with (go_at_call 35;refine (HHC.out _ HG3.out.1).mono ?_;rintro e w' ⟨rfl,⟨n2,rfl⟩⟩)
   go_upto_region 14 with (go_at_call 18;refine (laws_FnExactRootedList.ril a0 a1 L _ _ HG.out).mono ?_;rintro e w4 ⟨v4,rfl,ho,hb⟩;obtain ⟨Ah,ch,rfl⟩:=Kd.S_slice ho;have HO4:=zA (Kd.S_reads' (impl_rooted.kS_S ho)).2;have HB4:=zA hb;clear ho hb)
   have HW4:=zA (zW (Kd.C_drewN (zW HC1.out.2 HB3.out) n2) HB4.out)
   have HG4:=zA (zW (Kd.C_drewN HG3.out.1 n2) HB4.out)
   have HBB:=zA (zR (zB (zR HB1.out HB3.out) n2) HB4.out)
   clear HB1 HB2 HB2b HB3 HB4 HG3
   go_upto_region 16 with (go_at_call 33;refine (laws_eqMapS.calls 200 Ah ch L Aw cw s1 true _ HO4.out.2 HO4.out.1 HW4.out HC1.out.1 HE.out).mono ?_;rintro e w5 ⟨rfl,hb⟩;have HG5:=zA (zW HG4.out hb);have HB5:=zA (zR HBB.out hb);clear hb)
   clear HO4 HW4 HG4 HBB
   go_wp2_with (go_at_call 35;refine (HHC.out _ HG5.out).mono ?_;rintro e w' ⟨rfl,⟨n4,rfl⟩⟩)
   go_ret
   exact ⟨rfl,zB HB5.out _⟩
 exact key s2 rfl
def laws_FnExactRootedList.Pure:Prop := ∀ (a0 a1:Int),(Lit.int .i64 a0).wf = true→(Lit.int .i64 a1).wf = true → ∃ k,laws_FnExactRootedList.f k a0 a1 = some true
theorem laws_FnExactRootedList.walk (P:laws_FnExactRootedList.Pure) (a0:Int) (a1:Int) (w:World) (w0:(Lit.int .i64 a0).wf = true) (w1:(Lit.int .i64 a1).wf = true) :
  Calls Try.prog 10 #[.int .i64 a0,.int .i64 a1] w fun e w'=>e = .returned (.bool true)∧Below w.heap.size w w':=by
 obtain ⟨k,h⟩:=P a0 a1 w0 w1
 exact laws_FnExactRootedList.calls k a0 a1 true w h

end Go.Proofs.Ytdaiohcgdpclnaa.Q
