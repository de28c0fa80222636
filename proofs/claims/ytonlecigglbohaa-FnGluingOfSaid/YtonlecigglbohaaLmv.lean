import Derived.Test.YtonlecigglbohaaLperm
import Derived.Test.YtonlecigglbohaaQ1
import Derived.Test.YtonlecigglbohaaQ3
import Derived.Test.YtonlecigglbohaaQ2
/- Both programs' test of a map: two permutations, partners, and all hangs together. -/
namespace Go.Proofs.Ytonlecigglbohaa.Lmv
set_option linter.unusedVariables false
set_option linter.unusedSimpArgs false
open Go.RowKit Go.Proofs.YtonlecigglbohaaW.PrintWords Go.Proofs.YtonlecigglbohaaW.PrintMore Go.Proofs.Ytonlecigglbohaa.Q Go.Proofs.Ytonlecigglbohaa.M Go.Proofs.Ytonlecigglbohaa.B Go.Proofs.Ytonlecigglbohaa.Lperm

theorem rdl (l : List (List Int)) (i : Nat) : rd_L1 l (i : Int) = nth l i := by
  show l.getD (i : Int).toNat [] = l.getD i default
  rw [Int.toNat_natCast]; rfl
theorem mn_min (a b : Int) : mn a b = min a b := by unfold mn; omega
/-! ### the program's labels -/
def passI (p : List Int) : Nat → Nat → List Int × Bool → List Int × Bool
  | 0, _, s => s
  | d + 1, i, s => passI p d (i + 1) (if nth s.1 i = low2 p s.1 i ∧ nth s.1 (fn p i) = low2 p s.1 i then s else (stepI p s.1 i, true))
theorem passI_ok {a b p : List Int} (hp : Into p) (hl : p.length = a.length) (hpab : p = a ∨ p = b) : ∀ (d i : Nat) (s : List Int × Bool), i + d = a.length → Lab a b s.1 →
    Lab a b (passI p d i s).1 ∧ tot (passI p d i s).1 ≤ tot s.1 ∧ ((passI p d i s).2 = true → s.2 = true ∨ tot (passI p d i s).1 < tot s.1) ∧
    ((passI p d i s).2 = false → s.2 = false ∧ (passI p d i s).1 = s.1 ∧ ∀ k, i ≤ k → k < a.length → nth s.1 (fn p k) = nth s.1 k) := by
  intro d
  induction d with
  | zero => intro i s h1 h2; exact ⟨h2, Int.le_refl _, fun h => .inl h, fun h => ⟨h, rfl, fun k h3 h4 => by omega⟩⟩
  | succ d ih =>
    intro i s h1 h2
    simp only [passI]
    by_cases c : nth s.1 i = low2 p s.1 i ∧ nth s.1 (fn p i) = low2 p s.1 i
    · rw [if_pos c]
      obtain ⟨r1, r2, r3, r4⟩ := ih (i + 1) s (by omega) h2
      refine ⟨r1, r2, r3, fun h => ?_⟩
      obtain ⟨q1, q2, q3⟩ := r4 h
      refine ⟨q1, q2, fun k h3 h4 => ?_⟩
      by_cases e : k = i
      · rw [e, c.2, c.1]
      · exact q3 k (by omega) h4
    · rw [if_neg c]
      obtain ⟨s1, s2, s3⟩ := stepI_lab hp hl hpab h2 i (by omega)
      obtain ⟨r1, r2, r3, r4⟩ := ih (i + 1) (stepI p s.1 i, true) (by omega) s1
      have hlt := s3 (by
        by_cases e : nth s.1 i = low2 p s.1 i
        · exact .inr (fun e2 => c ⟨e, e2⟩)
        · exact .inl e)
      refine ⟨r1, Int.le_trans r2 s2, fun _ => .inr (by have := r2; simp only at this; omega), fun h => ?_⟩
      have := (r4 h).1
      simp at this
theorem l2_ev {a b p : List Int} (hp : Into p) (hl : p.length = a.length) (hpab : p = a ∨ p = b) (hn : a.length ≤ 1000) (X : List (List Int)) (m j : Int) (R : List Int) : ∀ (d i : Nat) (s : List Int × Bool), i + d = a.length → Lab a b s.1 →
    Ev (fun k => impl_orbits.l1 k X (passI p d i s).1 (passI p d i s).2 X m (wrap64 (j + 1))) R → Ev (fun k => impl_orbits.l2 k X s.1 s.2 X m j p (p.length : Int) i) R := by
  intro d
  induction d with
  | zero =>
    intro i s h1 h2 h3
    refine Ev.step (fun k => ?_) h3
    simp only [impl_orbits.l2]
    rw [if_neg (by omega)]; rfl
  | succ d ih =>
    intro i s h1 h2 h3
    have hx := hp i (by omega)
    have hlen := h2.len
    simp only [passI] at h3
    refine Ev.step (fun k => ?_) (ih (i + 1) _ (by omega) ?_ h3)
    · simp only [impl_orbits.l2]
      rw [if_pos (by omega), if_pos (by omega), if_pos (by omega), if_pos (by omega), rdn, if_pos (by omega), if_pos (by omega), wrs i (by omega), rdn, rd_eq, mn_min]
      show (if nth s.1 i = low2 p s.1 i then if nth s.1 (fn p i) = low2 p s.1 i then _ else _ else _) = _
      by_cases c1 : nth s.1 i = low2 p s.1 i
      · by_cases c2 : nth s.1 (fn p i) = low2 p s.1 i
        · rw [if_pos c1, if_pos c2, if_pos ⟨c1, c2⟩]
        · rw [if_pos c1, if_neg c2, if_neg (fun h => c2 h.2)]; rfl
      · rw [if_neg c1, if_neg (fun h => c1 h.1)]; rfl
    · by_cases c : nth s.1 i = low2 p s.1 i ∧ nth s.1 (fn p i) = low2 p s.1 i
      · rw [if_pos c]; exact h2
      · rw [if_neg c]; exact (stepI_lab hp hl hpab h2 i (by omega)).1
theorem orb_loop {a b : List Int} (ha : Into a) (hb : Into b) (hl : b.length = a.length) (hn : a.length ≤ 1000) : ∀ (T : Nat) (out : List Int), Lab a b out → (tot out).toNat = T →
    EvP (fun k => impl_orbits.l0 k [a, b] out true) (fun R => Lab a b R ∧ (∀ i, i < a.length → nth R (fn a i) = nth R i) ∧ ∀ i, i < a.length → nth R (fn b i) = nth R i) := by
  intro T
  induction T using Nat.strongRecOn with
  | ind T ih =>
    intro out h hT
    obtain ⟨p1, p2, p3, p4⟩ := passI_ok ha rfl (.inl rfl) a.length 0 (out, false) (by omega) h
    obtain ⟨q1, q2, q3, q4⟩ := passI_ok hb hl (.inr rfl) a.length 0 (passI a a.length 0 (out, false)) (by omega) p1
    have nn : ∀ o, Lab a b o → 0 ≤ tot o := fun o ho => tot_nn o (fun i hi => (ho.nn i (by have := ho.len; omega)).1)
    have go : ∀ R, Ev (fun k => impl_orbits.l0 k [a, b] (passI b a.length 0 (passI a a.length 0 (out, false))).1 (passI b a.length 0 (passI a a.length 0 (out, false))).2) R → Ev (fun k => impl_orbits.l0 k [a, b] out true) R := by
      intro R hR
      refine Ev.step (f := fun k => impl_orbits.l1 k [a, b] out false [a, b] 2 0) (fun k => by simp only [impl_orbits.l0]; rfl) ?_
      refine Ev.step (f := fun k => impl_orbits.l2 k [a, b] out false [a, b] 2 0 a (a.length : Int) ((0 : Nat) : Int)) (fun k => by simp only [impl_orbits.l1]; rfl) ?_
      refine l2_ev ha rfl (.inl rfl) hn [a, b] 2 0 R a.length 0 (out, false) (by omega) h ?_
      refine Ev.step (f := fun k => impl_orbits.l2 k [a, b] (passI a a.length 0 (out, false)).1 (passI a a.length 0 (out, false)).2 [a, b] 2 1 b (b.length : Int) ((0 : Nat) : Int)) (fun k => by simp only [impl_orbits.l1]; rw [show wrap64 (0 + 1) = 1 by unfold wrap64; omega]; rfl) ?_
      refine l2_ev hb hl (.inr rfl) hn [a, b] 2 1 R a.length 0 (passI a a.length 0 (out, false)) (by omega) p1 ?_
      exact Ev.step (fun k => by simp only [impl_orbits.l1]; rw [show wrap64 (1 + 1) = 2 by unfold wrap64; omega]; rfl) hR
    cases hf : (passI b a.length 0 (passI a a.length 0 (out, false))).2 with
    | false =>
      obtain ⟨r1, r2, r3⟩ := q4 hf
      obtain ⟨s1, s2, s3⟩ := p4 r1
      rw [hf, r2, s2] at go
      simp only at s3 s2
      rw [s2] at r3
      exact ⟨out, ⟨h, fun i hi => s3 i (by omega) hi, fun i hi => r3 i (by omega) hi⟩, go out (Ev.ret (fun k => by simp only [impl_orbits.l0]; rfl))⟩
    | true =>
      have hlt : tot (passI b a.length 0 (passI a a.length 0 (out, false))).1 < tot out := by
        have q2' : tot (passI b a.length 0 (passI a a.length 0 (out, false))).1 ≤ tot (passI a a.length 0 (out, false)).1 := q2
        have p2' : tot (passI a a.length 0 (out, false)).1 ≤ tot out := p2
        rcases q3 hf with g | g
        · rcases p3 g with g2 | g2
          · cases g2
          · exact Int.lt_of_le_of_lt q2' g2
        · exact Int.lt_of_lt_of_le g p2'
      obtain ⟨R, hR, e⟩ := ih (tot (passI b a.length 0 (passI a a.length 0 (out, false))).1).toNat (by have := nn _ q1; have := nn _ h; omega) _ q1 rfl
      rw [hf] at go
      exact ⟨R, hR, go R e⟩
theorem idl_lab (a b : List Int) : Lab a b (idl a.length) := Lab.start a b _ (idl_len _) (fun i hi => idl_nth _ _ hi)
theorem impl_orb {a b : List Int} (ha : Into a) (hb : Into b) (hl : b.length = a.length) (hn : 0 < a.length ∧ a.length ≤ 1000) :
    EvP (fun k => impl_orbits.f k [a, b]) (fun R => Lab a b R ∧ ((∀ i, i < a.length → nth R i = 0) ↔ Con a b)) := by
  unfold impl_orbits.f
  refine EvP.pos (by simp) ?_
  obtain ⟨R, ⟨h1, h2, h3⟩, e⟩ := orb_loop ha hb hl hn.2 _ (idl a.length) (idl_lab a b) rfl
  exact ⟨R, ⟨h1, con_of_still h1 hn.1 h2 h3⟩, Ev.bind (impl_st a.length (by omega)) e⟩
/-! ### the reference's -/
theorem s1_ev {a b : List Int} (ha : Into a) (hb : Into b) (hl : b.length = a.length) (hn : a.length ≤ 1000) (r : Nat) (hr : r ≤ 1000) (R : List Int) : ∀ (d i : Nat) (out : List Int), i + d = a.length → Lab a b out →
    Ev (fun k => spec_l1Orbits.l0 k a b (roundS a b d i out) ((r + 1 : Nat) : Int)) R → Ev (fun k => spec_l1Orbits.l1 k a b out r i) R := by
  intro d
  induction d with
  | zero =>
    intro i out h1 h2 h3
    refine Ev.step (fun k => ?_) h3
    simp only [spec_l1Orbits.l1]
    rw [if_neg (by omega), wrs r (by omega)]; rfl
  | succ d ih =>
    intro i out h1 h2 h3
    have hx := ha i (by omega)
    have hy := hb i (by omega)
    have hlen := h2.len
    refine Ev.step (fun k => ?_) (ih (i + 1) (stepS a b out i) (by omega) (stepS_lab ha hb hl h2 i (by omega)).1 h3)
    simp only [spec_l1Orbits.l1]
    rw [if_pos (by omega), if_pos (by omega), if_pos (by omega), rdn, if_pos (by omega), if_pos (by omega), if_pos (by omega), rdn, if_pos (by omega), if_pos (by omega), wrs i (by omega), rdn, rd_eq, rd_eq, mn_min, mn_min]
    rfl
theorem s0_ev {a b : List Int} (ha : Into a) (hb : Into b) (hl : b.length = a.length) (hn : a.length ≤ 1000) : ∀ (d r : Nat) (out : List Int), r + d = a.length → Lab a b out → Ev (fun k => spec_l1Orbits.l0 k a b out r) (roundsS a b d out) := by
  intro d
  induction d with
  | zero =>
    intro r out h1 h2
    refine Ev.ret (fun k => ?_)
    simp only [spec_l1Orbits.l0]
    rw [if_neg (by omega)]; rfl
  | succ d ih =>
    intro r out h1 h2
    refine Ev.step (f := fun k => spec_l1Orbits.l1 k a b out r ((0 : Nat) : Int)) (fun k => by simp only [spec_l1Orbits.l0]; rw [if_pos (by omega)]; rfl) ?_
    refine s1_ev ha hb hl hn r (by omega) _ a.length 0 out (by omega) h2 ?_
    exact ih (r + 1) _ (by omega) (roundS_lab ha hb hl a.length 0 out h2 (by omega)).1
theorem spec_orb {a b : List Int} (ha : Into a) (hb : Into b) (hl : b.length = a.length) (hn : 0 < a.length ∧ a.length ≤ 1000) :
    EvP (fun k => spec_l1Orbits.f k a b) (fun R => Lab a b R ∧ ((∀ i, i < a.length → nth R i = 0) ↔ Con a b)) := by
  refine ⟨roundsS a b a.length (idl a.length), ⟨(roundsS_lab ha hb hl a.length _ (idl_lab a b)).1, roundsS_con ha hb hl _ hn.1 (idl_lab a b) (idl_nth _ _ hn.1)⟩, ?_⟩
  unfold spec_l1Orbits.f
  exact Ev.bind (spec_id a.length (by omega)) (s0_ev ha hb hl hn.2 a.length 0 _ (by omega) (idl_lab a b))
/-! ### maps -/
def invB (f : List Int) (d i : Nat) : Bool := allFrom (fun i => decide (nth f i ≠ i) && decide (nth f (fn f i) = i)) i d
open Classical in
noncomputable def mvB (t f : List Int) : Bool := pB t && pB f && decide (t.length = f.length) && invB f f.length 0 && decide (Con t f)
theorem mv_iff (t f : List Int) : mvB t f = true ↔ pB t = true ∧ pB f = true ∧ t.length = f.length ∧ invB f f.length 0 = true ∧ Con t f := by
  unfold mvB
  simp only [Bool.and_eq_true, decide_eq_true_eq, and_assoc]
theorem inv_iff (f : List Int) : invB f f.length 0 = true ↔ ∀ i, i < f.length → nth f i ≠ i ∧ nth f (fn f i) = i := by
  unfold invB
  rw [allFrom_iff]
  simp only [Bool.and_eq_true, decide_eq_true_eq, Nat.zero_add]
  exact ⟨fun h i hi => h i (Nat.zero_le _) hi, fun h i _ hi => h i hi⟩
theorem mv_map {t f : List Int} (h : mvB t f = true) : IsMap t f ∧ (1 ≤ t.length ∧ t.length ≤ 12) ∧ ∀ i, i < f.length → nth f i ≠ i ∧ nth f (fn f i) = i := by
  obtain ⟨h1, h2, h3, h4, h5⟩ := (mv_iff t f).1 h
  obtain ⟨a1, a2, a3⟩ := (pB_iff t).1 h1
  obtain ⟨b1, b2, b3⟩ := (pB_iff f).1 h2
  exact ⟨⟨a2, a3, b2, b3, h3.symm, h5⟩, a1, (inv_iff f).1 h4⟩
theorem max_lp (l : List Int) : ∀ (d i : Nat) (m : Int), i + d = l.length → 0 ≤ m → (∀ j, j < l.length → 0 ≤ nth l j) → 0 ≤ slices_Max_int_int.lp l d i m ∧ (slices_Max_int_int.lp l d i m = 0 ↔ m = 0 ∧ ∀ j, i ≤ j → j < l.length → nth l j = 0) := by
  intro d
  induction d with
  | zero => intro i m h1 h2 h3; exact ⟨h2, ⟨fun h => ⟨h, fun j h4 h5 => by omega⟩, fun h => h.1⟩⟩
  | succ d ih =>
    intro i m h1 h2 h3
    have hi := h3 i (by omega)
    simp only [slices_Max_int_int.lp, rdn]
    have hm : mx m (nth l i) = max m (nth l i) := by unfold mx; omega
    rw [hm]
    obtain ⟨r1, r2⟩ := ih (i + 1) (max m (nth l i)) (by omega) (by omega) h3
    refine ⟨r1, r2.trans ⟨fun ⟨e, h⟩ => ⟨by omega, fun j h4 h5 => ?_⟩, fun ⟨e, h⟩ => ⟨by have := h i (Nat.le_refl _) (by omega); omega, fun j h4 h5 => h j (by omega) h5⟩⟩⟩
    by_cases g : j = i
    · rw [g]; omega
    · exact h j (by omega) h5
theorem max_zero (l : List Int) (hl : 1 ≤ l.length) (h : ∀ j, j < l.length → 0 ≤ nth l j) : ∃ m, slices_Max_int_int.f l = some m ∧ ((m == 0) = true ↔ ∀ j, j < l.length → nth l j = 0) := by
  unfold slices_Max_int_int.f
  rw [if_neg (by omega)]
  obtain ⟨h1, h2⟩ := max_lp l (l.length - 1) 1 (rd l 0) (by omega) (h 0 (by omega)) h
  refine ⟨_, rfl, ?_⟩
  rw [beq_iff_eq, h2]
  constructor
  · rintro ⟨a, b⟩ j hj
    by_cases e : j = 0
    · rw [e]; exact a
    · exact b j (by omega) hj
  · intro hz; exact ⟨hz 0 (by omega), fun j _ hj => hz j hj⟩
theorem impl_mvloop (t f : List Int) (ht : pB t = true) (hf : pB f = true) (hl : t.length = f.length) : ∀ (d i : Nat), i + d = f.length → (∀ j, j < i → nth f j ≠ j ∧ nth f (fn f j) = j) → Ev (fun k => impl_MapValid.l0 k f f.length i t f) (mvB t f) := by
  obtain ⟨a1, a2, a3⟩ := (pB_iff t).1 ht
  obtain ⟨b1, b2, b3⟩ := (pB_iff f).1 hf
  intro d
  induction d with
  | zero =>
    intro i h1 h2
    refine Ev.step (f := fun k => (impl_orbits.f k [t, f]).bind fun t287 => (slices_Max_int_int.f t287).bind fun t290 => some (t290 == 0)) (fun k => by simp only [impl_MapValid.l0]; rw [if_neg (by omega)]) ?_
    refine Ev.bindp (impl_orb a2 b2 hl.symm (by omega)) (fun R hR => ?_)
    obtain ⟨m, hm, hz⟩ := max_zero R (by rw [hR.1.len]; omega) (fun j hj => (hR.1.nn j (by have := hR.1.len; omega)).1)
    refine Ev.bindc hm (Ev.same (Ev.now _) ?_)
    refine Bool.eq_iff_iff.2 ?_
    rw [hz, mv_iff, hR.1.len, hR.2]
    exact ⟨fun h => ⟨ht, hf, hl, (inv_iff f).2 (fun i hi => h2 i (by omega)), h⟩, fun h => h.2.2.2.2⟩
  | succ d ih =>
    intro i h1 h2
    have hx := b2 i (by omega)
    by_cases c : nth f i ≠ i ∧ nth f (fn f i) = i
    · refine Ev.step (fun k => ?_) (ih (i + 1) (by omega) (fun j hj => ?_))
      · simp only [impl_MapValid.l0]
        rw [if_pos (by omega), if_pos (by omega), if_pos (by omega), rdn, if_neg c.1, if_pos (by omega), if_pos (by omega), rd_eq, wrs i (by omega)]
        exact if_pos c.2
      · by_cases e : j = i
        · rw [e]; exact c
        · exact h2 j (by omega)
    · have hno : mvB t f = false := Bool.eq_false_iff.2 (fun h => c ((mv_map h).2.2 i (by omega)))
      rw [hno]
      refine Ev.ret (fun k => ?_)
      simp only [impl_MapValid.l0]
      rw [if_pos (by omega), if_pos (by omega), if_pos (by omega), rdn]
      by_cases c1 : nth f i = i
      · rw [if_pos c1]
      · rw [if_neg c1, if_pos (by omega), if_pos (by omega), rd_eq]
        exact if_neg (fun e => c ⟨c1, e⟩)
theorem mv_no (t f : List Int) (h : ¬ (pB t = true ∧ pB f = true ∧ t.length = f.length)) : mvB t f = false := Bool.eq_false_iff.2 (fun e => h (by have := (mv_iff t f).1 e; exact ⟨this.1, this.2.1, this.2.2.1⟩))
theorem impl_mv (t f : List Int) : Ev (fun k => impl_MapValid.f k t f) (mvB t f) := by
  have stop : Ev (fun k => impl_MapValid.j0 k true t f) false := Ev.ret (fun k => by simp only [impl_MapValid.j0]; rfl)
  unfold impl_MapValid.f
  refine Ev.bindc (impl_pv t) ?_
  cases hp : pB t with
  | false => exact Ev.neg (by simp) (Ev.same stop (mv_no t f (by simp [hp])).symm)
  | true =>
    refine Ev.pos rfl (Ev.bindc (impl_pv f) ?_)
    cases hq : pB f with
    | false => exact Ev.neg (by simp) (Ev.same stop (mv_no t f (by simp [hq])).symm)
    | true =>
      refine Ev.pos rfl ?_
      by_cases hl : t.length = f.length
      · refine Ev.congr (fun k => by rw [show ((t.length : Int) != (f.length : Int)) = false by simp [hl]]) (Ev.step (fun k => by simp only [impl_MapValid.j0]; rw [if_neg (by simp)]) ?_)
        exact impl_mvloop t f hp hq hl f.length 0 (by omega) (fun j hj => by omega)
      · refine Ev.congr (fun k => by rw [show ((t.length : Int) != (f.length : Int)) = true by simp; omega]) (Ev.same stop (mv_no t f (fun h => hl h.2.2)).symm)
theorem spec_zero (R : List Int) (hn : R.length ≤ 1000) : ∀ (d i : Nat), i + d = R.length → Ev (fun k => spec_MapValid.l1 k R i) (allFrom (fun j => decide (nth R j = 0)) i d) := by
  intro d
  induction d with
  | zero =>
    intro i h
    refine Ev.ret (fun k => ?_)
    simp only [spec_MapValid.l1]
    rw [if_neg (by omega)]; rfl
  | succ d ih =>
    intro i h
    by_cases c : nth R i = 0
    · refine Ev.step (fun k => ?_) (Ev.same (ih (i + 1) (by omega)) (by simp [allFrom, c]))
      simp only [spec_MapValid.l1]
      rw [if_pos (by omega), if_pos (by omega), rdn, if_pos c, wrs i (by omega)]
    · refine Ev.ret (fun k => ?_)
      simp only [spec_MapValid.l1]
      rw [if_pos (by omega), if_pos (by omega), rdn, if_neg c]
      simp [allFrom, c]
theorem spec_mvloop (t f : List Int) (ht : pB t = true) (hf : pB f = true) (hl : t.length = f.length) : ∀ (d i : Nat), i + d = f.length → (∀ j, j < i → nth f j ≠ j ∧ nth f (fn f j) = j) → Ev (fun k => spec_MapValid.l0 k i t f) (mvB t f) := by
  obtain ⟨a1, a2, a3⟩ := (pB_iff t).1 ht
  obtain ⟨b1, b2, b3⟩ := (pB_iff f).1 hf
  intro d
  induction d with
  | zero =>
    intro i h1 h2
    refine Ev.step (f := fun k => (spec_l1Orbits.f k t f).bind fun t530 => spec_MapValid.l1 k t530 0) (fun k => by simp only [spec_MapValid.l0]; rw [if_neg (by omega)]) ?_
    refine Ev.bindp (spec_orb a2 b2 hl.symm (by omega)) (fun R hR => ?_)
    refine Ev.same (spec_zero R (by rw [hR.1.len]; omega) R.length 0 (by omega)) ?_
    refine Bool.eq_iff_iff.2 ?_
    rw [allFrom_iff, mv_iff]
    simp only [decide_eq_true_eq]
    constructor
    · intro h
      exact ⟨ht, hf, hl, (inv_iff f).2 (fun i hi => h2 i (by omega)), hR.2.1 (fun i hi => h i (Nat.zero_le _) (by rw [hR.1.len]; omega))⟩
    · intro h j _ hj
      exact hR.2.2 h.2.2.2.2 j (by have := hR.1.len; omega)
  | succ d ih =>
    intro i h1 h2
    have hx := b2 i (by omega)
    by_cases c : nth f i ≠ i ∧ nth f (fn f i) = i
    · refine Ev.step (fun k => ?_) (ih (i + 1) (by omega) (fun j hj => ?_))
      · simp only [spec_MapValid.l0]
        rw [if_pos (by omega), if_pos (by omega), rdn, if_neg c.1, if_pos (by omega), if_pos (by omega), rd_eq, wrs i (by omega)]
        exact if_pos c.2
      · by_cases e : j = i
        · rw [e]; exact c
        · exact h2 j (by omega)
    · have hno : mvB t f = false := Bool.eq_false_iff.2 (fun h => c ((mv_map h).2.2 i (by omega)))
      rw [hno]
      refine Ev.ret (fun k => ?_)
      simp only [spec_MapValid.l0]
      rw [if_pos (by omega), if_pos (by omega), rdn]
      by_cases c1 : nth f i = i
      · rw [if_pos c1]
      · rw [if_neg c1, if_pos (by omega), if_pos (by omega), rd_eq]
        exact if_neg (fun e => c ⟨c1, e⟩)
theorem spec_both (t f : List Int) (h1 : t.length ≤ 35184372088832) (h2 : f.length ≤ 35184372088832) : Ev (fun k => spec_l1Both.f k t f) (pB t && pB f && decide (t.length = f.length)) := by
  unfold spec_l1Both.f
  refine Ev.bind (spec_pv t h1) ?_
  cases pB t with
  | false => exact Ev.neg (by simp) (Ev.now _)
  | true =>
    refine Ev.pos rfl (Ev.bind (spec_pv f h2) ?_)
    cases pB f with
    | false => exact Ev.neg (by simp) (Ev.now _)
    | true => exact Ev.pos rfl (Ev.same (Ev.now _) (by refine Bool.eq_iff_iff.2 ?_; simp; omega))
theorem spec_mv (t f : List Int) (h1 : t.length ≤ 35184372088832) (h2 : f.length ≤ 35184372088832) : Ev (fun k => spec_MapValid.f k t f) (mvB t f) := by
  unfold spec_MapValid.f
  refine Ev.bind (spec_both t f h1 h2) ?_
  by_cases c : pB t = true ∧ pB f = true ∧ t.length = f.length
  · refine Ev.pos (by simp [c.1, c.2.1, c.2.2]) ?_
    exact spec_mvloop t f c.1 c.2.1 c.2.2 f.length 0 (by omega) (fun j hj => by omega)
  · refine Ev.neg (fun h => c ?_) (Ev.same (Ev.now _) (mv_no t f c).symm)
    simp only [Bool.and_eq_true, decide_eq_true_eq] at h
    exact ⟨h.1.1, h.1.2, h.2⟩
end Go.Proofs.Ytonlecigglbohaa.Lmv
