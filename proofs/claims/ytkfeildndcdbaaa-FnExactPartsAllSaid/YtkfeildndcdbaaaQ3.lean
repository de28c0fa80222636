import Derived.Test.YtkfeildndcdbaaaQ0
import Derived.Test.YtkfeildndcdbaaaQ1
import Derived.Test.YtkfeildndcdbaaaQ2
namespace Go.Proofs.Ytkfeildndcdbaaa.Q
open Go.RowKit Go.Proofs.YtkfeildndcdbaaaW.PrintWords Go.Proofs.YtkfeildndcdbaaaW.PrintLast Go.Proofs.YtkfeildndcdbaaaW.PrintMore
attribute [local go_sem] max2_int min2_int max_two min_two max_three min_three max_four min_four   -- for this text's walks alone
set_option linter.unusedVariables false
set_option linter.unusedSimpArgs false

/-! ### laws_FnExactPartsAll: function 3 (a section of my own) -/
def laws_FnExactPartsAll.f (k : Nat) (a0 : Int) : Option (Bool) := (spec_PartsAll.f k a0).bind fun s => (impl_PartsAll.f a0).bind fun g => if s = g ∧ g.1.length ≤ 1000000 then (laws_eqIntSS.f 200 g.1 s.1).bind fun e => if e = true then (laws_markIntSS.all g.1 1).bind fun m => if laws_heldIntSS.f 200 m.1 1 = some m.2 ∧ 0 ≤ m.2 then some true else none else none else none
set_option maxHeartbeats 16000000 in
set_option maxRecDepth 100000 in
set_option maxHeartbeats 8000000 in
set_option maxRecDepth 100000 in
theorem laws_FnExactPartsAll.calls (k : Nat) (a0 : Int) (r : Bool) (w : World) (h : laws_FnExactPartsAll.f k a0 = some r) :
    Calls Try.prog 3 #[.int .i64 a0] w fun e w' => e = .returned (.bool r) ∧ Below w.heap.size w w' := by
  unfold laws_FnExactPartsAll.f at h
  obtain ⟨s, hs, h⟩ := Option.bind_eq_some_iff.mp h
  obtain ⟨⟨L, bb⟩, hg, h⟩ := Option.bind_eq_some_iff.mp h
  by_cases c1 : ¬ (s = (L, bb) ∧ L.length ≤ 1000000)
  · rw [if_neg c1] at h; cases h
  replace c1 := Classical.not_not.mp c1
  rw [if_pos c1] at h
  obtain ⟨rfl, hl⟩ := c1
  obtain ⟨e, he, h⟩ := Option.bind_eq_some_iff.mp h
  by_cases c2 : ¬ (e = true)
  · rw [if_neg c2] at h; cases h
  replace c2 := Classical.not_not.mp c2
  rw [if_pos c2] at h
  subst c2
  obtain ⟨⟨m, k1⟩, hm, h⟩ := Option.bind_eq_some_iff.mp h
  by_cases c3 : ¬ (laws_heldIntSS.f 200 m 1 = some k1 ∧ 0 ≤ k1)
  · rw [if_neg c3] at h; cases h
  replace c3 := Classical.not_not.mp c3
  rw [if_pos c3] at h
  obtain rfl := Option.some.inj h
  have HS := Aside0.mk hs
  have HG := Aside0.mk hg
  have HE := Aside0.mk he
  have HM := Aside0.mk hm
  have HD := Aside0.mk c3
  have HL := Aside0.mk hl
  have HB := Aside0.mk (Below.refl w.heap.size w)
  have hk1 : decide (k1 < 0) = false := decide_eq_false (by have := c3.2; omega)
  clear hs hg he hm c3 hl h
  have key : ∀ b : Bool, bb = b → Calls Try.prog 3 #[.int .i64 a0] w fun e w' => e = .returned (.bool true) ∧ Below w.heap.size w w' := by
    intro b hbb
    subst hbb
    cases bb
    all_goals
      go_enter Try.func3, Try.ntmps3
      go_upto_region 2 with (go_at_call 15; refine (spec_PartsAll.calls k a0 L _ _ HS.out).mono ?_; rintro e w1 ⟨v1, rfl, ho, hb⟩; obtain ⟨Aw, cw, rfl, lw, gw⟩ := Kd.N_reads ho; have HC1 := Aside0.mk (And.intro lw gw); have HB1 := Aside0.mk hb; clear ho hb lw gw)
      go_upto_region 3 with (go_at_call 16; refine (impl_PartsAll.calls a0 L _ w1 HG.out).mono ?_; rintro e w2 ⟨v2, rfl, ho, hb⟩; obtain ⟨Ag, cg, rfl⟩ := Kd.S_slice ho; have HO2 := Aside0.mk ho; have HB2 := Aside0.mk hb; clear ho hb)
      have HR2 := Aside0.mk (Kd.S_reads' HO2.out).2
      have HW2 := Aside0.mk (Kd.C_below HC1.out.2 HB2.out)
      go_upto_region 6 with (go_at_call 17; refine (laws_eqIntSS.calls 200 Ag cg L Aw cw L true _ HR2.out.2 HR2.out.1 HW2.out HC1.out.1 HE.out).mono ?_; rintro e w' ⟨rfl, ⟨n1, rfl⟩⟩)
      clear HR2 HW2
      go_upto_region 8 with (go_at_call 18; refine (laws_markIntSS.marksA L m 1 k1 HM.out HL.out Ag cg _ w1 (Kd.S_drewN HO2.out _) (pw_below_drewN HB2.out _)).mono ?_; rintro e w3 ⟨rfl, ⟨hm1, hm2⟩, hb⟩; have HM3 := Aside0.mk (And.intro hm1 hm2); have HB3 := Aside0.mk hb; clear hm1 hm2 hb)
      have HLG := Aside0.mk (show L.length ≤ cg from (Kd.S_reads' HO2.out).2.1)
      clear HO2
      have HG3 := Aside0.mk (show Kd.C (Kd.slice 3 (Kd.int .i64)) w3 Ag m.length m ∧ m.length ≤ cg ∧ m.length = L.length from ⟨HM3.out.2, by rw [HM3.out.1]; exact HLG.out, HM3.out.1⟩)
      have HHC := Aside0.mk (show ∀ W, Kd.C (Kd.slice 3 (Kd.int .i64)) W Ag m.length m → Calls Try.prog 19 #[.slice Ag L.length cg, .int .i64 1] W fun e w' => e = .returned (.int .i64 k1) ∧ Drawn0 W w' from fun W hW => by
        have h1 := laws_heldIntSS.calls 200 Ag cg m 1 k1 W hW HG3.out.2.1 HD.out.1
        rw [HG3.out.2.2] at h1
        exact h1)
      clear HM3
      go_upto_region 13 with (go_at_call 19; refine (HHC.out _ HG3.out.1).mono ?_; rintro e w' ⟨rfl, ⟨n2, rfl⟩⟩)
      go_upto_region 14 with (go_at_call 16; refine (impl_PartsAll.calls a0 L _ _ HG.out).mono ?_; rintro e w4 ⟨v4, rfl, ho, hb⟩; obtain ⟨Ah, ch, rfl⟩ := Kd.S_slice ho; have HO4 := Aside0.mk (Kd.S_reads' ho).2; have HB4 := Aside0.mk hb; clear ho hb)
      have HW4 := Aside0.mk (Kd.C_below (Kd.C_drewN (Kd.C_below HC1.out.2 HB3.out) n2) HB4.out)
      have HG4 := Aside0.mk (Kd.C_below (Kd.C_drewN HG3.out.1 n2) HB4.out)
      have HBB := Aside0.mk (below_step (pw_below_drewN (below_step HB1.out HB3.out) n2) HB4.out)
      clear HB1 HB2 HB3 HB4 HG3
      go_upto_region 17 with (go_at_call 17; refine (laws_eqIntSS.calls 200 Ah ch L Aw cw L true _ HO4.out.2 HO4.out.1 HW4.out HC1.out.1 HE.out).mono ?_; rintro e w' ⟨rfl, ⟨n3, rfl⟩⟩)
      clear HO4 HW4
      go_wp2_with (go_at_call 19; refine (HHC.out _ (Kd.C_drewN HG4.out _)).mono ?_; rintro e w' ⟨rfl, ⟨n4, rfl⟩⟩)
      go_ret
      exact ⟨rfl, pw_below_drewN HBB.out _⟩
  exact key bb rfl
def laws_FnExactPartsAll.Pure : Prop := ∀ (a0 : Int), (Lit.int .i64 a0).wf = true → ∃ k, laws_FnExactPartsAll.f k a0 = some true
theorem laws_FnExactPartsAll.walk (P : laws_FnExactPartsAll.Pure) (a0 : Int) (w : World) (w0 : (Lit.int .i64 a0).wf = true) :
    Calls Try.prog 3 #[.int .i64 a0] w fun e w' => e = .returned (.bool true) ∧ Below w.heap.size w w' := by
  obtain ⟨k, h⟩ := P a0 w0
  exact laws_FnExactPartsAll.calls k a0 true w h

end Go.Proofs.Ytkfeildndcdbaaa.Q
