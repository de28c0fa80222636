import Derived.Test.YtonlecigglbohaaM7
import Derived.Test.YtonlecigglbohaaLmv
import Derived.Test.YtonlecigglbohaaLcyc
import Derived.Test.YtonlecigglbohaaQ2
import Derived.Test.YtonlecigglbohaaQ4
import Derived.Test.YtonlecigglbohaaQ3
/- Both programs read the same gluing off a map of one face. -/
namespace Go.Proofs.Ytonlecigglbohaa.Lgof
set_option linter.unusedVariables false
set_option linter.unusedSimpArgs false
open Go.RowKit Go.Proofs.YtonlecigglbohaaW.PrintWords Go.Proofs.YtonlecigglbohaaW.PrintMore Go.Proofs.Ytonlecigglbohaa.Q Go.Proofs.Ytonlecigglbohaa.M Go.Proofs.Ytonlecigglbohaa.B Go.Proofs.Ytonlecigglbohaa.Lperm Go.Proofs.Ytonlecigglbohaa.Lmv

theorem rd_two (a b c : Int) : rd [a, b, c] 2 = c := rfl
open Classical in
/-- what both answer -/
noncomputable def gofR (t f : List Int) (r : Int) : List Int × Bool := if mvB t f = true ∧ t.length ≤ 10 ∧ (0 ≤ r ∧ r < t.length) ∧ (cycles (ml f t)).length = 1 then (ren (pl (ml f t) r.toNat) f, true) else ([], false)
theorem spec_conj (f b : List Int) (hf : pB f = true) (hb : pB b = true) (hl : f.length = b.length) : Ev (fun k => spec_PermConj.f k f b) (ren b f, true) := by
  obtain ⟨f1, f2, f3⟩ := (pB_iff f).1 hf
  obtain ⟨b1, b2, b3⟩ := (pB_iff b).1 hb
  have kl := bk_len b
  have ki := bk_into b b2 b3
  have mi := ml_into (bk b) f ki f2 (by omega)
  have mlen := ml_len (bk b) f
  unfold spec_PermConj.f
  refine Ev.bind (spec_both f b (by omega) (by omega)) ?_
  rw [hf, hb, show decide (f.length = b.length) = true from decide_eq_true hl]
  refine Ev.pos rfl (Ev.bind (spec_bk b b2 (by omega)) (Ev.bind (spec_ml (bk b) f (fun i h => by have := ki i h; omega) (by omega)) (Ev.bind (spec_ml (ml (bk b) f) b (fun i h => by have := mi i h; omega) (by omega)) (Ev.now _))))
/-! ### the program's two loops -/
theorem impl_l1 (t f place ord R : List Int) (n : Nat) (hn : n ≤ 1000) (hf : Into f) (lf : f.length = n) (lp : place.length = n) (lo : ord.length = n) (ho : ∀ j, j < n → 0 ≤ nth ord j ∧ nth ord j < n) (lR : R.length = n) (hR : ∀ j, j < n → nth R j = nth place (fn f (nth ord j).toNat)) : ∀ (u i : Nat) (out : List Int), i + u = n → out.length = i → (∀ j, j < i → nth out j = nth R j) →
    Ev (fun k => impl_GluingOf.l1 k place out ord (n : Int) (i : Int) t f) (R, true) := by
  intro u
  induction u with
  | zero =>
    intro i out h1 h2 h3
    have e : out = R := ext_nth (by omega) (fun j hj => h3 j (by omega))
    rw [e]
    exact Ev.ret (fun k => by simp only [impl_GluingOf.l1]; rw [if_neg (by omega)])
  | succ u ih =>
    intro i out h1 h2 h3
    obtain ⟨o1, o2⟩ := ho i (by omega)
    have hx := hf (nth ord i).toNat (by omega)
    refine Ev.step (fun k => ?_) (ih (i + 1) (out ++ [nth place (fn f (nth ord i).toNat)]) (by omega) (by simp; omega) (fun j hj => ?_))
    · simp only [impl_GluingOf.l1]
      rw [if_pos (by omega), if_pos (by omega), if_pos (by omega), rdn, if_pos (by omega), if_pos (by omega), rd_eq, if_pos (by omega), if_pos (by omega), if_pos (by omega), rd_eq, wrs i (by omega)]
      rfl
    · rw [nth_app]
      by_cases e : j < out.length
      · rw [if_pos e]; exact h3 j (by omega)
      · have : j = i := by omega
        subst this
        rw [if_neg e, show j - out.length = 0 by omega, hR j (by omega)]; rfl
theorem impl_l0 (t f p : List Int) (hp : Into p) (hn : p.length ≤ 1000) (R : List Int × Bool) : ∀ (u i d : Nat) (acc ord : List Int), i + u = p.length → acc.length = p.length → ord.length = i → d < p.length →
    Ev (fun k => impl_GluingOf.l1 k (plF p u i d acc) [] (ord ++ orb p u d) ((ord ++ orb p u d).length : Int) 0 t f) R → Ev (fun k => impl_GluingOf.l0 k p acc ord (d : Int) t f) R := by
  intro u
  induction u with
  | zero =>
    intro i d acc ord h1 h2 h3 h4 h
    refine Ev.step (fun k => ?_) h
    simp only [impl_GluingOf.l0]
    rw [if_neg (by omega)]
    simp [plF, orb]
  | succ u ih =>
    intro i d acc ord h1 h2 h3 h4 h
    have hd := fn_lt hp h4
    refine Ev.step (fun k => ?_) (ih (i + 1) (fn p d) (acc.set d i) (ord ++ [(d : Int)]) (by omega) (by simp; omega) (by simp; omega) hd ?_)
    · simp only [impl_GluingOf.l0]
      rw [if_pos (by omega), if_pos (by omega), if_pos (by omega), if_pos (by omega), if_pos (by omega), rdn, ← fn_cast hp h4, h3, Int.toNat_natCast]
    · rw [List.append_assoc]; exact h
theorem spec_l0 (t f p : List Int) (hp : Into p) (hn : p.length ≤ 1000) (R : List Int × Bool) : ∀ (u i d : Nat) (acc : List Int), i + u = p.length → acc.length = p.length → d < p.length →
    Ev (fun k => (spec_PermConj.f k f (plF p u i d acc)).bind fun bt => some (bt.1, true)) R → Ev (fun k => spec_GluingOf.l0 k acc p (d : Int) (i : Int) t f) R := by
  intro u
  induction u with
  | zero =>
    intro i d acc h1 h2 h4 h
    refine Ev.step (fun k => ?_) h
    simp only [spec_GluingOf.l0]
    rw [if_neg (by omega)]
    rfl
  | succ u ih =>
    intro i d acc h1 h2 h4 h
    have hd := fn_lt hp h4
    refine Ev.step (fun k => ?_) (ih (i + 1) (fn p d) (acc.set d i) (by omega) (by simp; omega) hd h)
    simp only [spec_GluingOf.l0]
    rw [if_pos (by omega), if_pos (by omega), if_pos (by omega), if_pos (by omega), rdn, ← fn_cast hp h4, wrs i (by omega), Int.toNat_natCast]
section
variable {t f : List Int} (hv : mvB t f = true)
include hv
theorem face : Into (ml f t) ∧ Inj (ml f t) ∧ (ml f t).length = t.length ∧ Fit f t ∧ (1 ≤ t.length ∧ t.length ≤ 12) ∧ f.length = t.length ∧ Into f ∧ Into t := by
  obtain ⟨hm, hn, hinv⟩ := mv_map hv
  have hlen := hm.len
  exact ⟨ml_into f t hm.iF hm.it (by omega), ml_inj f t hm.iF hm.it (by omega) hm.jf hm.jt, by rw [ml_len]; exact hlen, fun i h => by have := hm.iF i h; omega, hn, hlen, hm.iF, hm.it⟩
theorem impl_good (r : Nat) (hr : r < t.length) (h1 : (cycles (ml f t)).length = 1) : Ev (fun k => impl_GluingOf.j0 k (r : Int) (ml f t) false t f) (ren (pl (ml f t) r) f, true) := by
  obtain ⟨pi, pj, pn, pf, hn, hl, fi, ti⟩ := face hv
  have hd := one_cycle (ml f t) pi pj h1 r (by omega)
  obtain ⟨ll, lh⟩ := pl_ok (ml f t) pi r (by omega) hd
  refine Ev.step (fun k => by simp only [impl_GluingOf.j0]; rw [if_neg (by simp), if_pos (by omega), if_pos (by omega), Int.toNat_natCast]) ?_
  refine impl_l0 t f (ml f t) pi (by omega) _ (ml f t).length 0 r _ [] (by omega) (by simp) rfl (by omega) ?_
  have ho := orb_len (ml f t) (ml f t).length r
  refine Ev.congr (fun k => by rw [List.nil_append, ho]) ?_
  refine impl_l1 t f (pl (ml f t) r) (orb (ml f t) (ml f t).length r) _ (ml f t).length (by omega) fi (by omega) ll ho (fun j hj => ?_) (by rw [ren_len]; exact ll) (fun j hj => ?_) (ml f t).length 0 [] (by omega) rfl (fun j h => by omega)
  · rw [orb_nth _ _ _ _ hj]
    have := it_lt pi (x := r) (by omega) j
    omega
  · rw [orb_nth _ _ _ _ hj, Int.toNat_natCast]
    have e : fn (pl (ml f t) r) (it (ml f t) j r) = j := by unfold fn; rw [lh j hj]; omega
    have hi := it_lt pi (x := r) (by omega) j
    have := ren_nth (pl (ml f t) r) f (pl_into _ pi r (by omega) hd) (pl_inj _ pi r (by omega) hd) (it (ml f t) j r) (by omega)
    rw [e] at this
    exact this
theorem pl_pB (r : Nat) (hr : r < t.length) (h1 : (cycles (ml f t)).length = 1) : pB (pl (ml f t) r) = true := by
  obtain ⟨pi, pj, pn, pf, hn, hl, fi, ti⟩ := face hv
  have hd := one_cycle (ml f t) pi pj h1 r (by omega)
  obtain ⟨ll, lh⟩ := pl_ok (ml f t) pi r (by omega) hd
  exact (pB_iff _).2 ⟨by omega, pl_into _ pi r (by omega) hd, pl_inj _ pi r (by omega) hd⟩
theorem spec_faces : Ev (fun k => spec_l2Faces.f k t f) (ml f t) := by
  obtain ⟨pi, pj, pn, pf, hn, hl, fi, ti⟩ := face hv
  unfold spec_l2Faces.f
  exact Ev.bind (spec_ml f t pf (by omega)) (Ev.now _)
theorem spec_good (r : Nat) (hr : r < t.length) (h1 : (cycles (ml f t)).length = 1) : Ev (fun k => spec_GluingOf.j0 k (r : Int) false t f) (ren (pl (ml f t) r) f, true) := by
  obtain ⟨pi, pj, pn, pf, hn, hl, fi, ti⟩ := face hv
  obtain ⟨p1, p2, p3, _, hcon⟩ := (mv_iff t f).1 hv
  have hd := one_cycle (ml f t) pi pj h1 r (by omega)
  obtain ⟨ll, lh⟩ := pl_ok (ml f t) pi r (by omega) hd
  refine Ev.step (fun k => by simp only [spec_GluingOf.j0]; rw [if_neg (by simp), if_pos (by omega), if_pos (by omega), Int.toNat_natCast]) ?_
  refine Ev.bind (spec_faces hv) ?_
  refine Ev.congr (fun k => by rw [← pn]) ?_
  refine spec_l0 t f (ml f t) pi (by omega) _ (ml f t).length 0 r _ (by omega) (by simp) (by omega) ?_
  refine Ev.bind (spec_conj f (pl (ml f t) r) p2 (pl_pB hv r hr h1) (by omega)) (Ev.now _)
theorem spec_cnt : Ev (fun k => spec_l2Counts.f k t f) [((cycles t).length : Int), wrap64 ((f.length : Int) / 2), ((cycles (ml f t)).length : Int)] := by
  obtain ⟨pi, pj, pn, pf, hn, hl, fi, ti⟩ := face hv
  unfold spec_l2Counts.f
  exact Ev.bind (Lcyc.spec_cycles t ti (by omega)) (Ev.bind (spec_faces hv) (Ev.bind (Lcyc.spec_cycles (ml f t) pi (by omega)) (Ev.now _)))
end
theorem impl_bad (p : List Int) (r : Int) (t f : List Int) : Ev (fun k => impl_GluingOf.j0 k r p true t f) ([], false) := Ev.ret (fun k => by simp only [impl_GluingOf.j0]; rfl)
theorem spec_bad (r : Int) (t f : List Int) : Ev (fun k => spec_GluingOf.j0 k r true t f) ([], false) := Ev.ret (fun k => by simp only [spec_GluingOf.j0]; rfl)
theorem gof_no {t f : List Int} {r : Int} (h : ¬ (mvB t f = true ∧ t.length ≤ 10 ∧ (0 ≤ r ∧ r < t.length) ∧ (cycles (ml f t)).length = 1)) : gofR t f r = ([], false) := if_neg h
theorem impl_gof (t f : List Int) (r : Int) : Ev (fun k => impl_GluingOf.f k t f r) (gofR t f r) := by
  unfold impl_GluingOf.f
  cases hv : mvB t f with
  | false =>
    have e : Ev (fun k => impl_MapFaces.f k t f) ([], false) := by
      unfold impl_MapFaces.f
      refine Ev.bind (impl_mv t f) ?_
      rw [hv]
      exact Ev.neg (by simp) (Ev.now _)
    refine Ev.bind e (Ev.neg (by simp) ?_)
    rw [gof_no (by rw [hv]; simp)]
    exact impl_bad _ _ _ _
  | true =>
    obtain ⟨pi, pj, pn, pf, hn, hl, fi, ti⟩ := face hv
    have e : Ev (fun k => impl_MapFaces.f k t f) (ml f t, true) := by
      unfold impl_MapFaces.f
      refine Ev.bind (impl_mv t f) ?_
      rw [hv]
      exact Ev.pos rfl (Ev.bind (impl_ml f t pf (by omega)) (Ev.now _))
    refine Ev.bind e (Ev.pos rfl (Ev.bind (Lcyc.impl_cycles (ml f t) pi (by omega)) ?_))
    by_cases c1 : (cycles (ml f t)).length = 1
    · refine Ev.pos (by omega) ?_
      by_cases c2 : t.length ≤ 10
      · refine Ev.neg (by show ¬ ((ml f t).length : Int) > 10; omega) ?_
        by_cases c3 : r < 0
        · refine Ev.pos c3 ?_
          rw [gof_no (by omega)]
          exact impl_bad _ _ _ _
        · refine Ev.neg c3 ?_
          by_cases c4 : r < t.length
          · obtain ⟨m, rfl⟩ := Int.eq_ofNat_of_zero_le (by omega : 0 ≤ r)
            rw [show decide ((m : Int) ≥ ((ml f t).length : Int)) = false from decide_eq_false (by omega)]
            have h := impl_good hv m (by omega) c1
            have hg : gofR t f (m : Int) = (ren (pl (ml f t) m) f, true) := if_pos ⟨hv, c2, ⟨by omega, c4⟩, c1⟩
            rw [hg]
            exact h
          · rw [show decide (r ≥ ((ml f t).length : Int)) = true from decide_eq_true (by omega), gof_no (by omega)]
            exact impl_bad _ _ _ _
      · refine Ev.pos (by show ((ml f t).length : Int) > 10; omega) ?_
        rw [gof_no (by omega)]
        exact impl_bad _ _ _ _
    · refine Ev.neg (by omega) ?_
      rw [gof_no (fun h => c1 h.2.2.2)]
      exact impl_bad _ _ _ _
theorem spec_gof (t f : List Int) (r : Int) (h1 : t.length ≤ 35184372088832) (h2 : f.length ≤ 35184372088832) : Ev (fun k => spec_GluingOf.f k t f r) (gofR t f r) := by
  have hD : Ev (fun k => spec_l2Dart.f k t f r) (mvB t f && decide (0 ≤ r ∧ r < t.length)) := by
    unfold spec_l2Dart.f
    refine Ev.bind (spec_mv t f h1 h2) ?_
    cases hv : mvB t f with
    | false => exact Ev.neg (by simp) (Ev.now _)
    | true =>
      obtain ⟨pi, pj, pn, pf, hn, hl, fi, ti⟩ := face hv
      refine Ev.pos rfl (Ev.bindc (L1.l6In r 0 _) (Ev.same (Ev.now _) ?_))
      rw [wr ((t.length : Int) - 1) (by omega) (by omega), Bool.true_and]
      exact decide_eq_decide.2 ⟨fun h => by omega, fun h => by omega⟩
  unfold spec_GluingOf.f
  refine Ev.bind hD ?_
  by_cases c : mvB t f = true ∧ (0 ≤ r ∧ r < t.length)
  · obtain ⟨hv, hr⟩ := c
    obtain ⟨pi, pj, pn, pf, hn, hl, fi, ti⟩ := face hv
    refine Ev.pos (by rw [hv, decide_eq_true hr]; rfl) ?_
    by_cases c2 : t.length ≤ 10
    · refine Ev.neg (by omega) (Ev.bind (spec_cnt hv) (Ev.pos (by simp) ?_))
      rw [rd_two]
      by_cases c1 : (cycles (ml f t)).length = 1
      · obtain ⟨m, rfl⟩ := Int.eq_ofNat_of_zero_le hr.1
        rw [show (((cycles (ml f t)).length : Int) != 1) = false by simp [c1]]
        have hg : gofR t f (m : Int) = (ren (pl (ml f t) m) f, true) := if_pos ⟨hv, c2, hr, c1⟩
        rw [hg]
        exact spec_good hv m (by omega) c1
      · rw [show (((cycles (ml f t)).length : Int) != 1) = true by simp; omega, gof_no (fun h => c1 h.2.2.2)]
        exact spec_bad _ _ _
    · refine Ev.pos (by omega) ?_
      rw [gof_no (by omega)]
      exact spec_bad _ _ _
  · refine Ev.neg (fun h => c ?_) ?_
    · simp only [Bool.and_eq_true, decide_eq_true_eq] at h; exact h
    · rw [gof_no (fun h => c ⟨h.1, h.2.2.1⟩)]
      exact spec_bad _ _ _
end Go.Proofs.Ytonlecigglbohaa.Lgof
