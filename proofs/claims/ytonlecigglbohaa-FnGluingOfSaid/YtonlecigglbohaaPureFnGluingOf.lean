import Derived.Test.YtonlecigglbohaaLgof
import Derived.Test.YtonlecigglbohaaLmdraw
import Derived.Test.YtonlecigglbohaaLdraw
import Derived.Test.YtonlecigglbohaaLcorn
import Derived.Test.YtonlecigglbohaaLform
import Derived.Test.YtonlecigglbohaaLsame
import Derived.Test.YtonlecigglbohaaQ7
import Derived.Test.YtonlecigglbohaaQ10
import Derived.Test.YtonlecigglbohaaQ9
import Derived.Test.YtonlecigglbohaaQ1
/- A map with one face is a gluing: the law, for every code. -/
namespace Go.Proofs.Ytonlecigglbohaa.Pure
set_option linter.unusedVariables false
set_option linter.unusedSimpArgs false
open Go.RowKit Go.Proofs.Ytonlecigglbohaa.Q Go.Proofs.YtonlecigglbohaaW.PrintWords Go.Proofs.YtonlecigglbohaaW.PrintMore Go.Proofs.YtonlecigglbohaaW.PrintLast Go.Proofs.Ytonlecigglbohaa.M Go.Proofs.Ytonlecigglbohaa.B Go.Proofs.Ytonlecigglbohaa.Lpick Go.Proofs.Ytonlecigglbohaa.Lgv Go.Proofs.Ytonlecigglbohaa.Lcorn Go.Proofs.Ytonlecigglbohaa.Lperm Go.Proofs.Ytonlecigglbohaa.Lmv Go.Proofs.Ytonlecigglbohaa.Lform Go.Proofs.Ytonlecigglbohaa.Lsame Go.Proofs.Ytonlecigglbohaa.Lgof

theorem gl_perm (p : List Int) (h : gvB p = true) : (2 ≤ p.length ∧ p.length ≤ 10) ∧ Into p ∧ Inj p ∧ ∀ i, i < p.length → nth p i ≠ i ∧ nth p (fn p i) = i := by
  obtain ⟨h1, h2⟩ := (gvB_iff p).1 h
  refine ⟨h1, fun i hi => ⟨(h2 i hi).1, (h2 i hi).2.1⟩, fun i j hi hj e => ?_, fun i hi => ⟨(h2 i hi).2.2.1, (h2 i hi).2.2.2⟩⟩
  have a := (h2 i hi).2.2.2
  rw [e, (h2 j hj).2.2.2] at a
  omega
theorem mod_inj (n a b : Nat) (ha : a < n) (hb : b < n) (h : (a + 1) % n = (b + 1) % n) : a = b := by
  have s : ∀ x, x < n → (x + 1) % n = if x + 1 = n then 0 else x + 1 := by
    intro x hx; split
    · rename_i e; rw [e, Nat.mod_self]
    · exact Nat.mod_eq_of_lt (by omega)
  rw [s a ha, s b hb] at h
  split at h <;> split at h <;> omega
theorem mod_nat (x : Int) (n : Nat) (h : 0 ≤ x) : ((x + 1) % (n : Int)).toNat = (x.toNat + 1) % n := by
  obtain ⟨m, rfl⟩ := Int.eq_ofNat_of_zero_le h
  rw [show ((m : Int) + 1) = ((m + 1 : Nat) : Int) by omega, ← Int.natCast_emod, Int.toNat_natCast, Int.toNat_natCast]
theorem corn_fn (p : List Int) (hi : Into p) (i : Nat) (h : i < p.length) : fn (corn p) i = (fn p i + 1) % p.length := by
  have := hi i h
  show (nth (corn p) i).toNat = _
  rw [corn_nth p i h]
  exact mod_nat _ _ this.1
theorem gl_mv (p : List Int) (h : gvB p = true) : mvB (corn p) p = true := by
  obtain ⟨h1, hi, hj, hv⟩ := gl_perm p h
  have hl := corn_len p
  have ci := corn_into p
  have cf := corn_fn p hi
  have cj : Inj (corn p) := by
    intro i j a b e
    rw [hl] at a b
    have e2 : fn (corn p) i = fn (corn p) j := by unfold fn; rw [e]
    rw [cf i a, cf j b] at e2
    have := mod_inj p.length _ _ (fn_lt hi a) (fn_lt hi b) e2
    exact fn_inj hi hj a b this
  refine (mv_iff _ _).2 ⟨(pB_iff _).2 ⟨by omega, ci, cj⟩, (pB_iff _).2 ⟨by omega, hi, hj⟩, hl, (inv_iff p).2 hv, fun S hS => ?_⟩
  have next : ∀ i, i < p.length → S ((i + 1) % p.length) = S i := by
    intro i hii
    have hf := fn_lt hi hii
    obtain ⟨a1, a2⟩ := hS.2 i (by omega)
    obtain ⟨b1, _⟩ := hS.2 (fn p i) (by omega)
    have hff : fn p (fn p i) = i := by
      show (nth p (fn p i)).toNat = i
      rw [(hv i hii).2]; omega
    rw [cf _ hf, hff] at b1
    rw [b1, a2]
  intro i hii
  rw [hl] at hii
  induction i with
  | zero => exact hS.1
  | succ i ih =>
    have := next i (by omega)
    rw [Nat.mod_eq_of_lt hii] at this
    rw [this]; exact ih (by omega)
theorem map_impl (l : List Int) (h : gvB l = true) : Ev (fun k => impl_GluingMap.f k l) (corn l, l, true) := by
  have hg := gv_nn l h
  unfold impl_GluingMap.f
  refine Ev.bind (impl_gv l (by omega)) ?_
  rw [h]
  refine Ev.pos rfl (Ev.bind (impl_corn l hg.1 hg.2.1) (Ev.bindc (a := l) ?_ (Ev.now _)))
  unfold slices_Clone_int_int.f
  rw [if_pos (by omega)]
theorem form_impl (t f : List Int) (r : Nat) (hv : mvB t f = true) (hr : r < t.length) : Ev (fun k => impl_MapForm.f k t f (r : Int)) ((form t f r).1, (form t f r).2, true) := by
  obtain ⟨hm, hn, _⟩ := mv_map hv
  obtain ⟨l1, i1, j1, _⟩ := names_ok t f hm.it hm.jt hm.iF hm.jf hm.len hm.con r hr
  unfold impl_MapForm.f
  refine Ev.bind (impl_mv t f) ?_
  rw [hv]
  refine Ev.pos rfl (Ev.neg (by omega) ?_)
  rw [show decide ((r : Int) ≥ (t.length : Int)) = false from decide_eq_false (by omega)]
  refine Ev.step (fun k => by simp only [impl_MapForm.j0]; rw [if_neg (by simp)]) ?_
  exact Ev.bind (impl_names t f hm.it hm.iF hm.len (by omega) r hr) (Ev.bind (impl_ren t f _ hm.it hm.iF hm.len (by omega) i1 j1 l1) (Ev.now _))
section
variable {t f : List Int} (hv : mvB t f = true) (h10 : t.length ≤ 10) {r : Nat} (hr : r < t.length) (h1 : (cycles (ml f t)).length = 1)
include hv h10 hr h1
/-- what is read off is a gluing -/
theorem gof_gv : gvB (ren (pl (ml f t) r) f) = true := by
  obtain ⟨hm, hn, hinv⟩ := mv_map hv
  obtain ⟨pi, pj, pn, pf, hn', hl, fi, ti⟩ := face hv
  have hd := one_cycle (ml f t) pi pj h1 r (by omega)
  obtain ⟨ll, lh⟩ := pl_ok (ml f t) pi r (by omega) hd
  have ni := pl_into (ml f t) pi r (by omega) hd
  have nj := pl_inj (ml f t) pi r (by omega) hd
  have rl : (ren (pl (ml f t) r) f).length = t.length := by rw [ren_len]; omega
  have hev : f.length % 2 = 0 := even_of_invol f.length (fn f) (fun i hi => fn_lt hm.iF hi) (fun i hi => by
    show (nth f (fn f i)).toNat = i
    rw [(hinv i hi).2]; omega) (fun i hi e => (hinv i hi).1 (by rw [← fn_cast hm.iF hi, e]))
  refine (gvB_iff _).2 ⟨by omega, fun i hi => ?_⟩
  obtain ⟨d, hd', rfl⟩ := onto (pl (ml f t) r) ni nj i (by omega)
  have hfd := fn_lt hm.iF (i := d) (by omega)
  have e1 := ren_nth (pl (ml f t) r) f ni nj d hd'
  have b1 := ni (fn f d) (by omega)
  have e2 := ren_nth (pl (ml f t) r) f ni nj (fn f d) (by omega)
  have hff : fn f (fn f d) = d := by
    show (nth f (fn f d)).toNat = d
    rw [(hinv d (by omega)).2]; omega
  rw [e1]
  refine ⟨b1.1, by omega, fun e => ?_, ?_⟩
  · rw [fn_cast ni hd'] at e
    have := nj (fn f d) d (by omega) hd' e
    exact (hinv d (by omega)).1 (by rw [← fn_cast hm.iF (by omega), this])
  · show nth _ (fn (pl (ml f t) r) (fn f d)) = _
    rw [e2, hff, fn_cast ni hd']
theorem gof_iso : Iso t.length (fn (pl (ml f t) r)) t f (corn (ren (pl (ml f t) r) f)) (ren (pl (ml f t) r) f) := by
  obtain ⟨hm, hn, hinv⟩ := mv_map hv
  obtain ⟨pi, pj, pn, pf, hn', hl, fi, ti⟩ := face hv
  have hd := one_cycle (ml f t) pi pj h1 r (by omega)
  obtain ⟨ll, lh⟩ := pl_ok (ml f t) pi r (by omega) hd
  have ni := pl_into (ml f t) pi r (by omega) hd
  have nj := pl_inj (ml f t) pi r (by omega) hd
  have rl : (ren (pl (ml f t) r) f).length = t.length := by rw [ren_len]; omega
  have hg := gof_gv hv h10 hr h1
  obtain ⟨_, gi, gj, gv⟩ := gl_perm _ hg
  have flip : ∀ d, d < t.length → fn (ren (pl (ml f t) r) f) (fn (pl (ml f t) r) d) = fn (pl (ml f t) r) (fn f d) := fun d hd' => by
    show (nth (ren (pl (ml f t) r) f) (fn (pl (ml f t) r) d)).toNat = _
    rw [ren_nth _ f ni nj d (by omega)]; rfl
  have fpl : ∀ j, j < (ml f t).length → fn (pl (ml f t) r) (it (ml f t) j r) = j := fun j hj => by unfold fn; rw [lh j hj]; omega
  -- one step on along the face
  have next : ∀ d, d < t.length → fn (pl (ml f t) r) (fn (ml f t) d) = (fn (pl (ml f t) r) d + 1) % t.length := by
    intro d hd'
    obtain ⟨j, hj, rfl⟩ := all_met (ml f t) pi r (by omega) hd d (by omega)
    rw [fpl j hj]
    show fn (pl (ml f t) r) (it (ml f t) (j + 1) r) = _
    by_cases e : j + 1 < t.length
    · rw [fpl (j + 1) (by omega), Nat.mod_eq_of_lt e]
    · have ej : j + 1 = t.length := by omega
      obtain ⟨i, hi, ei⟩ := all_met (ml f t) pi r (by omega) hd (it (ml f t) (j + 1) r) (it_lt pi (by omega) _)
      have i0 : i = 0 := by
        rcases Nat.eq_zero_or_pos i with h | h
        · exact h
        · exfalso
          obtain ⟨i', rfl⟩ : ∃ i', i = i' + 1 := ⟨i - 1, by omega⟩
          have := fn_inj pi pj (it_lt pi (by omega) i') (it_lt pi (by omega) j) ei
          exact hd i' j (by omega) hj this
      rw [ej, Nat.mod_self, ← ej, ← ei, i0]
      exact fpl 0 (by omega)
  refine ⟨fun d hd' => by have := fn_lt ni (i := d) (by omega); omega, fun d e a b h => fn_inj ni nj (by omega) (by omega) h, fun d hd' => ?_, flip⟩
  have hfd := fn_lt hm.iF (i := d) (by omega)
  have hff : fn f (fn f d) = d := by
    show (nth f (fn f d)).toNat = d
    rw [(hinv d (by omega)).2]; omega
  rw [corn_fn _ gi _ (by rw [rl]; have := fn_lt ni (i := d) (by omega); omega), flip d hd', rl, ← next (fn f d) (by omega), ml_fn f t (fn f d) (by omega), hff]
theorem gof_zero : fn (pl (ml f t) r) r = 0 := by
  obtain ⟨pi, pj, pn, pf, hn', hl, fi, ti⟩ := face hv
  have hd := one_cycle (ml f t) pi pj h1 r (by omega)
  have := (pl_ok (ml f t) pi r (by omega) hd).2 0 (by omega)
  show (nth (pl (ml f t) r) (it (ml f t) 0 r)).toNat = 0
  rw [this]; rfl
theorem r_p : Ev (fun k => laws_FnGluingOf.r k t f (r : Int) (ren (pl (ml f t) r) f)) true := by
  obtain ⟨hm, hn, hinv⟩ := mv_map hv
  have hg := gof_gv hv h10 hr h1
  have hI := gof_iso hv h10 hr h1
  have h0 := gof_zero hv h10 hr h1
  have hv' := gl_mv _ hg
  obtain ⟨hm', hn', _⟩ := mv_map hv'
  obtain ⟨pi, pj, pn, pf, _, hl, fi, ti⟩ := face hv
  have hd := one_cycle (ml f t) pi pj h1 r (by omega)
  have ll := (pl_ok (ml f t) pi r (by omega) hd).1
  have rl : (ren (pl (ml f t) r) f).length = t.length := by rw [ren_len]; omega
  have cl := corn_len (ren (pl (ml f t) r) f)
  have hF := form_iso hI hm hm' rfl (by omega) r hr
  rw [h0] at hF
  have e1 := form_impl (corn (ren (pl (ml f t) r) f)) (ren (pl (ml f t) r) f) 0 hv' (by omega)
  rw [hF] at e1
  have hs := (same_ev hI hv hv' rfl (by omega)).2
  have sz := form_sz hm r hr
  unfold laws_FnGluingOf.r
  refine Ev.bind (map_impl _ hg) (Ev.bind e1 (Ev.bind (form_impl t f r hv hr) (Ev.bind (sameMap_self _ _ (by rw [sz.1]; omega) (by rw [sz.2]; omega)) (Ev.bind hs (Ev.pos ⟨rfl, rfl, rfl, rfl, rfl⟩ (Ev.now _))))))
end
theorem at_p (b : List Int) (hb : RB b) (p n : Int) (h0 : 0 ≤ n) (hn : n ≤ 1000) (h4 : 0 ≤ p) (h5 : p ≤ 100000) : EvP (fun k => spec_l91At.f k b p n) (fun _ => True) := by
  have jt : ∀ p, 0 ≤ p → p ≤ 200000 → EvP (fun k => spec_l91At.j0 k n true b p) (fun _ => True) := by
    intro p h4 h5
    refine EvP.step ?_ (fun k => by simp only [spec_l91At.j0]; exact if_pos trivial)
    refine EvP.bindc rfl (EvP.bind (pick_p b p 2 hb h4 (by omega) (by omega) (by omega)) ?_)
    rintro ⟨v, p'⟩ ⟨⟨v0, v1⟩, e⟩
    simp only at v0 v1 e
    exact EvP.pos v0 (EvP.pos (by simpa using v1) (EvP.now trivial))
  unfold spec_l91At.f
  by_cases c : n = 0
  · exact EvP.pos c (jt p h4 (by omega))
  refine EvP.neg c ?_
  refine EvP.bind (pick_p b p 20 hb h4 (by omega) (by omega) (by omega)) ?_
  rintro ⟨v, p'⟩ ⟨⟨v0, v1⟩, e⟩
  simp only at v0 v1 e
  subst e
  dsimp only
  cases hz : (v == 0) with
  | true => exact jt (p + 1) (by omega) (by omega)
  | false =>
    refine EvP.step ?_ (fun k => by simp only [spec_l91At.j0]; exact if_neg (by simp))
    exact EvP.bind (pick_p b (p + 1) n hb (by omega) (by omega) (by omega) (by omega)) (fun r h => EvP.now trivial)
theorem copy_ev (l : List Int) (hl : l.length ≤ 1000) : spec_l2Copy.f l = some l := by
  unfold spec_l2Copy.f
  show (if ([] : List Int).length + l.length < 17592186044416 then some ([] ++ l) else none) = some l
  rw [if_pos (by simp; omega)]
  rfl
theorem smap_ev (q : List Int) (hq : q.length ≤ 1000) : Ev (fun k => spec_GluingMap.f k q) (if gvB q = true then (corn q, q, true) else ([], [], false)) := by
  unfold spec_GluingMap.f
  refine Ev.bind (spec_gv q (by omega)) ?_
  cases hg : gvB q with
  | false => exact Ev.neg (by simp) (Ev.now _)
  | true =>
    have h := gv_nn q hg
    exact Ev.pos rfl (Ev.bind (spec_corn q h.1 h.2.1) (Ev.bindc (copy_ev q hq) (Ev.now _)))
theorem draw_p (l : List Int) (h3 : ∀ x ∈ l, (Lit.int .u8 x).wf = true) : EvP (fun k => spec_DrawGluingOf.f k l) (fun r => r.1.length ≤ 20 ∧ r.2.1.length ≤ 20) := by
  obtain ⟨b, hb, hrb⟩ := open_rb l h3
  unfold spec_DrawGluingOf.f
  refine EvP.bindc hb ?_
  refine EvP.bind (pick_p b 0 4 hrb (by omega) (by omega) (by omega) (by omega)) ?_
  rintro ⟨v, p'⟩ ⟨⟨v0, v1⟩, e⟩
  simp only at v0 v1 e
  subst e
  dsimp only
  by_cases c : v = 0
  · refine EvP.pos c (EvP.bind (Lmdraw.map_q b hrb _ 4 (by omega) (by omega) (by omega) (by omega)) ?_)
    rintro ⟨t, f, p'⟩ ⟨⟨a1, a2⟩, a3, a4⟩
    simp only at a1 a2 a3 a4
    dsimp only
    exact EvP.bind (at_p b hrb p' (t.length : Int) (by omega) (by omega) a3 (by omega)) (fun r _ => EvP.now ⟨a1, a2⟩)
  refine EvP.neg c (EvP.bind (Ldraw.gl_p b hrb _ 5 (by omega) (by omega) (by omega) (by omega)) ?_)
  rintro ⟨q, p'⟩ ⟨⟨a1, a2⟩, a3, a4⟩
  simp only at a1 a2 a3 a4
  dsimp only
  refine EvP.bind (EvP.of (P := fun r => r = if gvB q = true then (corn q, q, true) else ([], [], false)) rfl (smap_ev q (by omega))) ?_
  rintro _ rfl
  cases hg : gvB q with
  | false => exact EvP.neg (by simp) (EvP.now ⟨by simp, by simp⟩)
  | true =>
    refine EvP.pos rfl ?_
    show EvP (fun k => (spec_l91Perm.f k b p' ((corn q).length : Int)).bind fun bt692 => (spec_l2Rename.f k (corn q) q bt692.1).bind fun bt696 => (spec_l91At.f k b bt692.2 (bt696.1.length : Int)).bind fun bt702 => some (bt696.1, bt696.2, bt702.1)) _
    have cl := corn_len q
    refine EvP.bind (Lmdraw.perm_p b hrb p' (corn q).length (by omega) (by omega) (by omega)) ?_
    rintro ⟨P, p2⟩ ⟨⟨t1, t2, t3⟩, e⟩
    simp only at t1 t2 t3 e
    subst e
    dsimp only
    obtain ⟨p1, p2', p3, _, _⟩ := (mv_iff _ _).1 (gl_mv q hg)
    have pP : pB P = true := (pB_iff P).2 ⟨by omega, t2, t3⟩
    have eR : Ev (fun k => spec_l2Rename.f k (corn q) q P) (ren P (corn q), ren P q) := by
      unfold spec_l2Rename.f
      exact Ev.bind (spec_conj (corn q) P p1 pP (by omega)) (Ev.bind (spec_conj q P p2' pP (by omega)) (Ev.now _))
    refine EvP.bind (EvP.of (P := fun r => r = (ren P (corn q), ren P q)) rfl eR) ?_
    rintro _ rfl
    dsimp only
    have rl1 := ren_len P (corn q)
    have rl2 := ren_len P q
    exact EvP.bind (at_p b hrb _ _ (by omega) (by omega) (by omega) (by omega)) (fun r _ => EvP.now ⟨by show (ren P (corn q)).length ≤ 20; omega, by show (ren P q).length ≤ 20; omega⟩)
theorem FnGluingOf : laws_FnGluingOf.Pure := by
  intro l h1 h2 h3
  refine Ev.rounds ?_
  unfold laws_FnGluingOf.f
  by_cases hb : (l.length : Int) > 1048576
  · exact Ev.pos hb (Ev.now _)
  refine Ev.neg hb ?_
  refine Ev.bindp (draw_p l h3) ?_
  rintro ⟨t, f, r⟩ ⟨lt, lf⟩
  simp only at lt lf
  dsimp only
  refine Ev.bind (impl_gof t f r) (Ev.bind (spec_gof t f r (by omega) (by omega)) (Ev.pos rfl ?_))
  by_cases h : mvB t f = true ∧ t.length ≤ 10 ∧ (0 ≤ r ∧ r < t.length) ∧ (cycles (ml f t)).length = 1
  · rw [show gofR t f r = (ren (pl (ml f t) r.toNat) f, true) from if_pos h]
    obtain ⟨hv, h10, hr, hc⟩ := h
    obtain ⟨m, rfl⟩ := Int.eq_ofNat_of_zero_le hr.1
    obtain ⟨pi, pj, pn, pf, _, hl, fi, ti⟩ := face hv
    have hd := one_cycle (ml f t) pi pj hc m (by omega)
    have ll := (pl_ok (ml f t) pi m (by omega) hd).1
    refine Ev.bind (same_self _ (by show (ren _ f).length ≤ _; rw [ren_len, Int.toNat_natCast]; omega)) (Ev.pos rfl (Ev.pos rfl ?_))
    exact r_p hv h10 (by omega) hc
  · rw [gof_no h]
    exact Ev.bind (same_self [] (by simp)) (Ev.pos rfl (Ev.neg (by simp) (Ev.now _)))
end Go.Proofs.Ytonlecigglbohaa.Pure
