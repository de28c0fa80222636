import Derived.Test.YtonlecigglbohaaLmdraw
import Derived.Test.YtonlecigglbohaaLcycI
import Derived.Test.YtonlecigglbohaaLsame
import Derived.Test.YtonlecigglbohaaQ6
import Derived.Test.YtonlecigglbohaaQ3
/- Maps hang together: the law, for every code. -/
namespace Go.Proofs.Ytonlecigglbohaa.Pure
set_option linter.unusedVariables false
set_option linter.unusedSimpArgs false
open Go.RowKit Go.Proofs.Ytonlecigglbohaa.Q Go.Proofs.YtonlecigglbohaaW.PrintWords Go.Proofs.YtonlecigglbohaaW.PrintMore Go.Proofs.YtonlecigglbohaaW.PrintLast Go.Proofs.Ytonlecigglbohaa.M Go.Proofs.Ytonlecigglbohaa.B Go.Proofs.Ytonlecigglbohaa.Lpick Go.Proofs.Ytonlecigglbohaa.Lperm Go.Proofs.Ytonlecigglbohaa.Lmv Go.Proofs.Ytonlecigglbohaa.Lmdraw Go.Proofs.Ytonlecigglbohaa.Lsame

def fchk (n : Int) : Bool := match spec_l3Flip.f 20 n with
  | some l => decide (l.length ≤ 20)
  | none => false
theorem f_all : [1, 2, 3, 4].all fchk = true := by decide +kernel
theorem z_all : (List.range 13).all (fun n => laws_sumOf.f 30 (List.replicate n 0) == some 0) = true := by decide +kernel
theorem draw_p (l : List Int) (h3 : ∀ x ∈ l, (Lit.int .u8 x).wf = true) : EvP (fun k => spec_DrawMapValid.f k l) (fun r => r.1.length ≤ 20 ∧ r.2.length ≤ 20) := by
  obtain ⟨b, hb, hrb⟩ := open_rb l h3
  unfold spec_DrawMapValid.f
  refine EvP.bindc hb ?_
  refine EvP.bind (pick_p b 0 6 hrb (by omega) (by omega) (by omega) (by omega)) ?_
  rintro ⟨v, p'⟩ ⟨⟨v0, v1⟩, e⟩
  simp only at v0 v1 e
  subst e
  dsimp only
  by_cases c : v = 0
  · refine EvP.pos c ?_
    refine EvP.bind (pick_p b (0 + 1) 4 hrb (by omega) (by omega) (by omega) (by omega)) ?_
    rintro ⟨v, p'⟩ ⟨⟨v0, v1⟩, e⟩
    simp only at v0 v1 e
    subst e
    dsimp only
    obtain ⟨m, rfl⟩ := Int.eq_ofNat_of_zero_le v0
    have e1 : wrap64 (2 * wrap64 (1 + (m : Int))) = ((2 * (1 + m) : Nat) : Int) := by
      rw [wr (1 + (m : Int)) (by omega) (by omega), wr _ (by omega) (by omega)]; omega
    have e2 : wrap64 (Int.tdiv ((2 * (1 + m) : Nat) : Int) 2) = (m : Int) + 1 := by
      rw [Int.tdiv_eq_ediv_of_nonneg (by omega), wr _ (by omega) (by omega)]; omega
    simp only [e1, e2]
    refine EvP.bind (perm_p b hrb _ (2 * (1 + m)) (by omega) (by omega) (by omega)) ?_
    rintro ⟨P, p'⟩ ⟨⟨t1, t2, t3⟩, e⟩
    simp only at t1
    dsimp only
    have hm : m = 0 ∨ m = 1 ∨ m = 2 ∨ m = 3 := by omega
    have hf : fchk ((m : Int) + 1) = true := by
      have := f_all
      simp only [List.all_cons, List.all_nil, Bool.and_eq_true] at this
      rcases hm with rfl | rfl | rfl | rfl
      · exact this.1
      · exact this.2.1
      · exact this.2.2.1
      · exact this.2.2.2.1
    unfold fchk at hf
    split at hf
    · rename_i q hq
      refine EvP.bind (EvP.of (P := fun r => r = q) rfl (Ev.of (fun k => spec_l3Flip.mono _ k) hq)) ?_
      rintro _ rfl
      exact EvP.now ⟨by show P.length ≤ 20; omega, by simpa using hf⟩
    · cases hf
  · refine EvP.neg c ?_
    exact EvP.bind (map_p b hrb _ 6 (by omega) (by omega) (by omega) (by omega)) (fun r h => EvP.now h)
section
variable {t f : List Int} (hv : mvB t f = true)
include hv
theorem orb_p : ∃ R, R = List.replicate t.length 0 ∧ Ev (fun k => impl_PermOrbits.f k t f) (R, true) := by
  obtain ⟨hm, hn, hinv⟩ := mv_map hv
  obtain ⟨p1, p2, p3, _, hcon⟩ := (mv_iff t f).1 hv
  have hlen := hm.len
  obtain ⟨R, ⟨hR, hz⟩, eR⟩ := impl_orb hm.it hm.iF hm.len (by omega)
  have hR0 : R = List.replicate t.length 0 := ext_nth (by rw [hR.len]; simp) (fun j hj => by rw [hz.2 hcon j (by have := hR.len; omega), nth_replicate _ _ _ (by have := hR.len; omega)])
  refine ⟨R, hR0, ?_⟩
  unfold impl_PermOrbits.f
  refine Ev.bindc (impl_pv t) ?_
  rw [p1]
  refine Ev.pos rfl (Ev.bindc (impl_pv f) ?_)
  rw [p2]
  exact Ev.pos rfl (Ev.pos (by omega) (Ev.bind eR (Ev.now _)))
theorem mul_p : Ev (fun k => impl_mul.f k f t) (ml f t) := by
  obtain ⟨hm, hn, hinv⟩ := mv_map hv
  have hlen := hm.len
  exact impl_ml f t (fun i h => by have := hm.iF i h; omega) (by omega)
theorem cnt_p : Ev (fun k => impl_MapCounts.f k t f) ([((cycles t).length : Int), wrap64 ((f.length : Int) / 2), ((cycles (ml f t)).length : Int)], true) := by
  obtain ⟨hm, hn, hinv⟩ := mv_map hv
  obtain ⟨p1, p2, p3, _, hcon⟩ := (mv_iff t f).1 hv
  have hlen := hm.len
  have hfac := ml_into f t hm.iF hm.it (by omega)
  have lfac := ml_len f t
  unfold impl_MapCounts.f
  refine Ev.bind (impl_mv t f) ?_
  rw [hv]
  exact Ev.pos rfl (Ev.bind (Lcyc.impl_cycles t hm.it (by omega)) (Ev.bind (mul_p hv) (Ev.bind (Lcyc.impl_cycles (ml f t) hfac (by omega)) (Ev.now _))))
theorem fac_p : Ev (fun k => impl_MapFaces.f k t f) (ml f t, true) := by
  unfold impl_MapFaces.f
  refine Ev.bind (impl_mv t f) ?_
  rw [hv]
  exact Ev.pos rfl (Ev.bind (mul_p hv) (Ev.now _))
theorem bck_p : Ev (fun k => impl_PermBack.f k t) (bk t, true) := by
  obtain ⟨hm, hn, hinv⟩ := mv_map hv
  obtain ⟨p1, p2, p3, _, hcon⟩ := (mv_iff t f).1 hv
  unfold impl_PermBack.f
  refine Ev.bindc (impl_pv t) ?_
  rw [p1]
  exact Ev.pos rfl (Ev.bind (impl_bk t hm.it (by omega)) (Ev.now _))
omit hv in
theorem pm_p (a b : List Int) (ha : pB a = true) (hb' : pB b = true) (hl : a.length = b.length) : Ev (fun k => impl_PermMul.f k a b) (ml a b, true) := by
  obtain ⟨a1, a2, a3⟩ := (pB_iff a).1 ha
  unfold impl_PermMul.f
  refine Ev.bindc (impl_pv a) ?_
  rw [ha]
  refine Ev.pos rfl (Ev.bindc (impl_pv b) ?_)
  rw [hb']
  exact Ev.pos rfl (Ev.pos (by omega) (Ev.bind (impl_ml a b (fun i h => by have := a2 i h; omega) (by omega)) (Ev.now _)))
theorem x_p : ml f (ml f t) = t := by
  obtain ⟨hm, hn, hinv⟩ := mv_map hv
  have hlen := hm.len
  apply ext_nth (by rw [ml_len]; omega)
  intro i hi
  rw [ml_len] at hi
  have hfi := fn_lt hm.iF hi
  rw [ml_nth _ _ _ hi, ml_nth _ _ _ hfi]
  have : fn f (fn f i) = i := by
    show (nth f (fn f i)).toNat = i
    rw [(hinv i hi).2]; omega
  rw [this]
theorem y_p : ml t (bk t) = stay t.length := by
  obtain ⟨hm, hn, hinv⟩ := mv_map hv
  apply ext_nth (by rw [ml_len, stay_len])
  intro i hi
  rw [ml_len] at hi
  rw [ml_nth _ _ _ hi, bk_nth t hm.it hm.jt i hi, stay_nth _ _ hi]
theorem y2_p : Ev (fun k => impl_PermMul.f k f (ml f t)) (t, true) := by
  obtain ⟨hm, hn, hinv⟩ := mv_map hv
  obtain ⟨p1, p2, p3, _, hcon⟩ := (mv_iff t f).1 hv
  have hlen := hm.len
  have hfac := ml_into f t hm.iF hm.it (by omega)
  have jfac := ml_inj f t hm.iF hm.it (by omega) hm.jf hm.jt
  have lfac := ml_len f t
  have q1 : pB (ml f t) = true := (pB_iff _).2 ⟨by omega, hfac, jfac⟩
  have h := pm_p f (ml f t) p2 q1 (by omega)
  rw [x_p hv] at h
  exact h
theorem y3_p : Ev (fun k => impl_PermMul.f k t (bk t)) (stay t.length, true) := by
  obtain ⟨hm, hn, hinv⟩ := mv_map hv
  obtain ⟨p1, p2, p3, _, hcon⟩ := (mv_iff t f).1 hv
  have bl := bk_len t
  have q2 : pB (bk t) = true := (pB_iff _).2 ⟨by omega, bk_into t hm.it hm.jt, bk_inj t hm.it hm.jt⟩
  have h := pm_p t (bk t) p1 q2 (by omega)
  rw [y_p hv] at h
  exact h
theorem even_p : (t.length : Int) = wrap64 (2 * wrap64 ((f.length : Int) / 2)) := by
  obtain ⟨hm, hn, hinv⟩ := mv_map hv
  have hlen := hm.len
  have hev : f.length % 2 = 0 := even_of_invol f.length (fn f) (fun i hi => fn_lt hm.iF hi) (fun i hi => by
    show (nth f (fn f i)).toNat = i
    rw [(hinv i hi).2]; omega) (fun i hi e => (hinv i hi).1 (by rw [← fn_cast hm.iF hi, e]))
  rw [wr ((f.length : Int) / 2) (by omega) (by omega), wr _ (by omega) (by omega)]
  omega
omit hv in
theorem rd_one (a b c : Int) : rd [a, b, c] 1 = b := rfl
theorem r_p : Ev (fun k => laws_FnMap.r k t f) true := by
  obtain ⟨hm, hn, hinv⟩ := mv_map hv
  obtain ⟨R, hR0, e1⟩ := orb_p hv
  have hs : Ev (fun k => laws_sumOf.f k R) 0 := by
    have := List.all_eq_true.1 z_all t.length (by simp; omega)
    rw [hR0]
    exact Ev.of (fun k => laws_sumOf.mono _ k) (by simpa using this)
  have hE : (t.length : Int) = wrap64 (2 * rd [((cycles t).length : Int), wrap64 ((f.length : Int) / 2), ((cycles (ml f t)).length : Int)] 1) := by rw [rd_one]; exact even_p hv
  unfold laws_FnMap.r
  refine Ev.bind e1 (Ev.bind (cnt_p hv) (Ev.bind (fac_p hv) (Ev.bind (bck_p hv) (Ev.bind (y2_p hv) (Ev.bind (y3_p hv) (Ev.bind hs (Ev.bind (stay_ev t.length (by omega)) (Ev.bind (same_self (stay t.length) (by rw [stay_len]; omega)) ?_))))))))
  refine Ev.pos ⟨rfl, rfl, rfl, rfl, rfl, rfl, rfl, ?_, hE, rfl⟩ (Ev.now _)
  show 1 < [((cycles t).length : Int), wrap64 ((f.length : Int) / 2), ((cycles (ml f t)).length : Int)].length
  simp
end
theorem FnMap : laws_FnMap.Pure := by
  intro l h1 h2 h3
  refine Ev.rounds ?_
  unfold laws_FnMap.f
  by_cases hb : (l.length : Int) > 1048576
  · exact Ev.pos hb (Ev.now _)
  refine Ev.neg hb ?_
  refine Ev.bindp (draw_p l h3) ?_
  rintro ⟨t, f⟩ ⟨lt, lf⟩
  simp only at lt lf
  refine Ev.bind (impl_mv t f) (Ev.bind (spec_mv t f (by omega) (by omega)) (Ev.pos rfl ?_))
  cases hv : mvB t f with
  | false => exact Ev.neg (by simp) (Ev.now _)
  | true => exact Ev.pos rfl (r_p hv)
end Go.Proofs.Ytonlecigglbohaa.Pure
