import Derived.Test.YtonlecigglbohaaLdraw
import Derived.Test.YtonlecigglbohaaLgl
import Derived.Test.YtonlecigglbohaaLturnS
import Derived.Test.YtonlecigglbohaaLformS
import Derived.Test.YtonlecigglbohaaLsame
import Derived.Test.YtonlecigglbohaaLturnK0
import Derived.Test.YtonlecigglbohaaLturnK1
import Derived.Test.YtonlecigglbohaaLturnK2
import Derived.Test.YtonlecigglbohaaQ3
import Derived.Test.YtonlecigglbohaaQ1
import Derived.Test.YtonlecigglbohaaQ2
import Derived.Test.YtonlecigglbohaaQ8
/- Turned all around, a gluing is as it was: the law, for every code. -/
namespace Go.Proofs.Ytonlecigglbohaa.Pure
set_option linter.unusedVariables false
set_option linter.unusedSimpArgs false
open Go.RowKit Go.Proofs.Ytonlecigglbohaa.Q Go.Proofs.YtonlecigglbohaaW.PrintWords Go.Proofs.YtonlecigglbohaaW.PrintMore Go.Proofs.YtonlecigglbohaaW.PrintLast Go.Proofs.Ytonlecigglbohaa.M Go.Proofs.Ytonlecigglbohaa.B Go.Proofs.Ytonlecigglbohaa.Lpick Go.Proofs.Ytonlecigglbohaa.Ldraw Go.Proofs.Ytonlecigglbohaa.Lgv Go.Proofs.Ytonlecigglbohaa.Lgl Go.Proofs.Ytonlecigglbohaa.Lcorn Go.Proofs.Ytonlecigglbohaa.Lturn Go.Proofs.Ytonlecigglbohaa.LturnK Go.Proofs.Ytonlecigglbohaa.Lperm Go.Proofs.Ytonlecigglbohaa.Lmv Go.Proofs.Ytonlecigglbohaa.Lform Go.Proofs.Ytonlecigglbohaa.Lsame

theorem t_all (p : List Int) (h : gvB p = true) : tchk p = true :=
  gv_cases tchk (by decide +kernel) (by decide +kernel) (by decide +kernel) (by decide +kernel) (gl5_all tchk t_0 t_1 t_2 t_3 t_4 t_5 t_6 t_7 t_8) p h
theorem turns_ev : ∀ (d : Nat) (x y : List Int), itT d x = some y → Ev (fun k => laws_FnGluingTurn.turns k d x) y
  | 0, x, y, h => Ev.congr (fun k => by simp only [laws_FnGluingTurn.turns]) (Ev.same (Ev.now x) (Option.some.inj h))
  | d + 1, x, y, h => by
    simp only [itT] at h
    by_cases c : gvB x = true
    · rw [if_pos c] at h
      have hl := ((gvB_iff x).1 c).1
      have e := impl_turn x (by omega)
      unfold turnR at e
      rw [if_pos c] at e
      show Ev (fun k => (impl_GluingTurn.f k x).bind fun o => if o.2 = true then laws_FnGluingTurn.turns k d o.1 else none) y
      exact Ev.bind e (Ev.pos rfl (turns_ev d _ y h))
    · rw [if_neg c] at h; cases h
theorem gl_perm (p : List Int) (h : gvB p = true) : (2 ≤ p.length ∧ p.length ≤ 10) ∧ Into p ∧ Inj p ∧ ∀ i, i < p.length → nth p i ≠ i ∧ nth p (fn p i) = i := by
  obtain ⟨h1, h2⟩ := (gvB_iff p).1 h
  refine ⟨h1, fun i hi => ⟨(h2 i hi).1, (h2 i hi).2.1⟩, fun i j hi hj e => ?_, fun i hi => ⟨(h2 i hi).2.2.1, (h2 i hi).2.2.2⟩⟩
  have a := (h2 i hi).2.2.2
  rw [e, (h2 j hj).2.2.2] at a
  omega
theorem mod_inj (n a b : Nat) (ha : a < n) (hb : b < n) (h : (a + 1) % n = (b + 1) % n) : a = b := by
  have s : ∀ x, x < n → (x + 1) % n = if x + 1 = n then 0 else x + 1 := by
    intro x hx; split
    · rename_i e; rw [e, Nat.mod_self]
    · exact Nat.mod_eq_of_lt (by omega)
  rw [s a ha, s b hb] at h
  split at h <;> split at h <;> omega
theorem mod_nat (x : Int) (n : Nat) (h : 0 ≤ x) : ((x + 1) % (n : Int)).toNat = (x.toNat + 1) % n := by
  obtain ⟨m, rfl⟩ := Int.eq_ofNat_of_zero_le h
  rw [show ((m : Int) + 1) = ((m + 1 : Nat) : Int) by omega, ← Int.natCast_emod, Int.toNat_natCast, Int.toNat_natCast]
theorem gl_mv (p : List Int) (h : gvB p = true) : mvB (corn p) p = true := by
  obtain ⟨h1, hi, hj, hv⟩ := gl_perm p h
  have hl := corn_len p
  have ci := corn_into p
  have cf : ∀ i, i < p.length → fn (corn p) i = (fn p i + 1) % p.length := by
    intro i hii
    have := hi i hii
    show (nth (corn p) i).toNat = _
    rw [corn_nth p i hii]
    exact mod_nat _ _ this.1
  have cj : Inj (corn p) := by
    intro i j a b e
    rw [hl] at a b
    have e2 : fn (corn p) i = fn (corn p) j := by unfold fn; rw [e]
    rw [cf i a, cf j b] at e2
    have := mod_inj p.length _ _ (fn_lt hi a) (fn_lt hi b) e2
    exact fn_inj hi hj a b this
  refine (mv_iff _ _).2 ⟨(pB_iff _).2 ⟨by omega, ci, cj⟩, (pB_iff _).2 ⟨by omega, hi, hj⟩, hl, (inv_iff p).2 hv, fun S hS => ?_⟩
  have next : ∀ i, i < p.length → S ((i + 1) % p.length) = S i := by
    intro i hii
    have hf := fn_lt hi hii
    obtain ⟨a1, a2⟩ := hS.2 i (by omega)
    obtain ⟨b1, _⟩ := hS.2 (fn p i) (by omega)
    have hff : fn p (fn p i) = i := by
      show (nth p (fn p i)).toNat = i
      rw [(hv i hii).2]; omega
    rw [cf _ hf, hff] at b1
    rw [b1, a2]
  intro i hii
  rw [hl] at hii
  induction i with
  | zero => exact hS.1
  | succ i ih =>
    have := next i (by omega)
    rw [Nat.mod_eq_of_lt hii] at this
    rw [this]; exact ih (by omega)
theorem gl_iso (p : List Int) (h : gvB p = true) (hq : gvB (turned p) = true) (ht : ∀ i, i < p.length → nth (turned p) ((i + 1) % p.length) = (nth p i + 1) % (p.length : Int)) : Iso p.length (fun i => (i + 1) % p.length) (corn p) p (corn (turned p)) (turned p) := by
  obtain ⟨h1, hi, hj, hv⟩ := gl_perm p h
  have tl := turned_len p
  have hm : ∀ x, x % p.length < p.length := fun x => Nat.mod_lt _ (by omega)
  have ef : ∀ i, i < p.length → fn (turned p) ((i + 1) % p.length) = (fn p i + 1) % p.length := by
    intro i hii
    have := hi i hii
    show (nth (turned p) _).toNat = _
    rw [ht i hii]
    exact mod_nat _ _ this.1
  have cf : ∀ i, i < p.length → fn (corn p) i = (fn p i + 1) % p.length := by
    intro i hii
    have := hi i hii
    show (nth (corn p) i).toNat = _
    rw [corn_nth p i hii]
    exact mod_nat _ _ this.1
  refine ⟨fun d _ => hm _, fun d e hd he hh => mod_inj p.length d e hd he hh, fun d hd => ?_, ef⟩
  have e1 := ef d hd
  show (nth (corn (turned p)) ((d + 1) % p.length)).toNat = (fn (corn p) d + 1) % p.length
  rw [cf d hd, corn_nth _ _ (by rw [tl]; exact hm _), tl]
  have hx : nth (turned p) ((d + 1) % p.length) = (((fn p d + 1) % p.length : Nat) : Int) := by
    rw [← e1]
    exact (fn_cast (gl_perm _ hq).2.1 (by rw [tl]; exact hm _)).symm
  rw [hx]
  exact mod_nat _ _ (by omega)
theorem map_impl (l : List Int) (h : gvB l = true) : Ev (fun k => impl_GluingMap.f k l) (corn l, l, true) := by
  have hg := gv_nn l h
  unfold impl_GluingMap.f
  refine Ev.bind (impl_gv l (by omega)) ?_
  rw [h]
  refine Ev.pos rfl (Ev.bind (impl_corn l hg.1 hg.2.1) (Ev.bindc (a := l) ?_ (Ev.now _)))
  unfold slices_Clone_int_int.f
  rw [if_pos (by omega)]
theorem FnGluingTurn : laws_FnGluingTurn.Pure := by
  intro l h1 h2 h3
  refine Ev.rounds ?_
  unfold laws_FnGluingTurn.f
  by_cases hb : (l.length : Int) > 1048576
  · exact Ev.pos hb (Ev.now _)
  refine Ev.neg hb ?_
  have hd : EvP (fun k => spec_DrawGluingTurn.f k l) (fun x => x.length ≤ 1000) := by
    obtain ⟨b, hb, hrb⟩ := open_rb l h3
    unfold spec_DrawGluingTurn.f
    refine EvP.bindc hb ?_
    refine EvP.bind (gl_p b hrb 0 5 (by omega) (by omega) (by omega) (by omega)) (fun r h => ?_)
    exact EvP.now (by omega)
  refine Ev.bindp hd ?_
  intro p hx
  have ei := impl_turn p (by omega)
  have es := spec_turn p (by omega)
  unfold turnR at ei es
  cases hg : gvB p with
  | false =>
    rw [hg] at ei es
    exact Ev.bind ei (Ev.bind es (Ev.pos rfl (Ev.bind (same_self [] (by simp)) (Ev.pos rfl (Ev.neg (by simp) (Ev.now _))))))
  | true =>
    rw [hg] at ei es
    have tl := turned_len p
    have hc := t_all p hg
    simp only [tchk, Bool.and_eq_true, beq_iff_eq] at hc
    obtain ⟨⟨⟨⟨c1, c2⟩, c3⟩, c4⟩, c5⟩ := hc
    have ht : ∀ i, i < p.length → nth (turned p) ((i + 1) % p.length) = (nth p i + 1) % (p.length : Int) := by
      rw [allFrom_iff] at c5
      intro i hi
      simpa using c5 i (Nat.zero_le _) (by omega)
    obtain ⟨v, v1, v2⟩ := eqv_is c3
    obtain ⟨u, u1, u2⟩ := eqv_is c4
    have hs := (same_ev (gl_iso p hg c1 ht) (gl_mv p hg) (gl_mv _ c1) (corn_len p) (by rw [corn_len, tl])).1
    refine Ev.bind ei (Ev.bind es (Ev.pos rfl (Ev.bind (same_self (turned p) (by omega)) (Ev.pos rfl (Ev.pos rfl ?_)))))
    unfold laws_FnGluingTurn.r
    refine Ev.bind (turns_ev _ _ _ c2) (Ev.bind (map_impl p hg) (Ev.bind (map_impl _ c1) (Ev.bind (same_self p (by omega)) ?_)))
    refine Ev.bind (Ev.of (fun k => impl_GluingGenus.mono _ k) v1) (Ev.bind (Ev.of (fun k => impl_GluingGenus.mono _ k) v2) ?_)
    refine Ev.bind (Ev.of (fun k => impl_GluingChord.mono _ k) u1) (Ev.bind (Ev.of (fun k => impl_GluingChord.mono _ k) u2) ?_)
    exact Ev.bind hs (Ev.pos ⟨rfl, rfl, rfl, rfl, rfl, rfl, hx⟩ (Ev.now _))
end Go.Proofs.Ytonlecigglbohaa.Pure
