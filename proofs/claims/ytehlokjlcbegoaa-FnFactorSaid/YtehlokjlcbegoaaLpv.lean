import Derived.Test.YtehlokjlcbegoaaL1
import Derived.Test.YtehlokjlcbegoaaM2
import Derived.Test.YtehlokjlcbegoaaQ6
import Derived.Test.YtehlokjlcbegoaaQ2
/- The test of a partition: both programs answer alike; what passes is one of twenty-nine lists. -/
namespace Go.Proofs.Ytehlokjlcbegoaa.Lpv
set_option linter.unusedVariables false
set_option linter.unusedSimpArgs false
open Go.RowKit Go.Proofs.YtehlokjlcbegoaaW.PrintWords Go.Proofs.YtehlokjlcbegoaaW.PrintMore Go.Proofs.Ytehlokjlcbegoaa.Q Go.Proofs.Ytehlokjlcbegoaa.M Go.Proofs.Ytehlokjlcbegoaa.B Go.Proofs.Ytehlokjlcbegoaa.L1

/-- the number i is from 1 to 6 and no greater than the one ahead -/
def okP (p : List Int) (i : Nat) : Bool := decide (1 ≤ nth p i) && decide (nth p i ≤ 6) && (decide (i = 0) || decide (nth p i ≤ nth p (i - 1)))
def sumFrom (p : List Int) : Nat → Nat → Int
  | _, 0 => 0
  | i, d + 1 => nth p i + sumFrom p (i + 1) d
def pvB (p : List Int) : Bool := allFrom (okP p) 0 p.length && decide (1 ≤ sumFrom p 0 p.length) && decide (sumFrom p 0 p.length ≤ 6)
theorem okP_iff (p : List Int) (i : Nat) : okP p i = true ↔ 1 ≤ nth p i ∧ nth p i ≤ 6 ∧ (i = 0 ∨ nth p i ≤ nth p (i - 1)) := by
  simp only [okP, Bool.and_eq_true, Bool.or_eq_true, decide_eq_true_eq, and_assoc]
theorem okP_false (p : List Int) (i : Nat) (h : ¬ (1 ≤ nth p i ∧ nth p i ≤ 6 ∧ (i = 0 ∨ nth p i ≤ nth p (i - 1)))) : okP p i = false := by
  cases e : okP p i with
  | false => rfl
  | true => exact absurd ((okP_iff p i).1 e) h
theorem sumFrom_pos (p : List Int) : ∀ d i, allFrom (okP p) i d = true → (d : Int) ≤ sumFrom p i d := by
  intro d
  induction d with
  | zero => intro i _; simp [sumFrom]
  | succ d ih =>
    intro i h
    simp only [allFrom, Bool.and_eq_true] at h
    have := ih (i + 1) h.2
    have h1 := (okP_iff p i).1 h.1
    simp only [sumFrom]
    omega
theorem spec_loop (p : List Int) (hl : p.length ≤ 35184372088832) : ∀ (d i : Nat) (s : Int), i + d = p.length → 0 ≤ s → s ≤ 6 →
    Ev (fun k => spec_PartsValid.l0 k p s i) (allFrom (okP p) i d && decide (1 ≤ s + sumFrom p i d) && decide (s + sumFrom p i d ≤ 6)) := by
  intro d
  induction d with
  | zero =>
    intro i s h h0 h6
    refine Ev.ret (fun k => ?_)
    simp only [spec_PartsValid.l0]
    rw [if_neg (by omega)]
    simp only [allFrom, sumFrom, Bool.true_and, Int.add_zero]
    rw [decide_eq_true h6, Bool.and_true]
    rfl
  | succ d ih =>
    intro i s h h0 h6
    have hw : (0 : Nat) < i → wrap64 ((i : Int) - 1) = ((i - 1 : Nat) : Int) := fun hi => by rw [wr _ (by omega) (by omega)]; omega
    by_cases h1 : 1 ≤ nth p i ∧ nth p i ≤ 6
    · have e1 : spec_l6In.f (rd p i) 1 6 = some true := by rw [l6In, rdn]; simp [h1]
      -- what stands behind the test
      have rest : ∀ x : Bool, (i = 0 ∨ nth p i ≤ nth p (i - 1)) = (x = false) → Ev (fun k => spec_PartsValid.j1 k p s i x) (allFrom (okP p) i (d + 1) && decide (1 ≤ s + sumFrom p i (d + 1)) && decide (s + sumFrom p i (d + 1) ≤ 6)) := by
        intro x hx
        cases x with
        | true =>
          refine Ev.ret (fun k => ?_)
          simp only [spec_PartsValid.j1]
          have : okP p i = false := okP_false p i (fun hq => by have := hx.mp hq.2.2; cases this)
          simp [allFrom, this]
        | false =>
          have hok : okP p i = true := (okP_iff p i).2 ⟨h1.1, h1.2, hx.mpr rfl⟩
          have w1 : wrap64 (s + nth p i) = s + nth p i := wr _ (by omega) (by omega)
          by_cases h3 : s + nth p i > 6
          · refine Ev.ret (fun k => ?_)
            simp only [spec_PartsValid.j1]
            rw [if_neg (by simp), if_pos (by omega), if_pos (by omega), rdn, w1, if_pos h3]
            cases ha : allFrom (okP p) i (d + 1) with
            | false => simp
            | true =>
              simp only [allFrom, Bool.and_eq_true] at ha
              have := sumFrom_pos p d (i + 1) ha.2
              have hn : ¬ (s + sumFrom p i (d + 1) ≤ 6) := by simp only [sumFrom]; omega
              simp [hn]
          · refine Ev.step (fun k => ?_) (Ev.same (ih (i + 1) (s + nth p i) (by omega) (by omega) (by omega)) ?_)
            · simp only [spec_PartsValid.j1]
              rw [if_neg (by simp), if_pos (by omega), if_pos (by omega), rdn, w1, if_neg h3, wrs i (by omega)]
            · rw [show s + nth p i + sumFrom p (i + 1) d = s + sumFrom p i (d + 1) by simp only [sumFrom]; omega]
              simp [allFrom, hok]
      by_cases hi : i = 0
      · refine Ev.step (fun k => ?_) (rest false (by simp [hi]))
        simp only [spec_PartsValid.l0]
        rw [if_pos (by omega), if_pos (by omega), e1]
        simp only [Option.bind_some, if_true]
        rw [if_neg (by omega)]
      · refine Ev.step (fun k => ?_) (rest (decide (nth p i > nth p (i - 1))) (by simp [hi]))
        simp only [spec_PartsValid.l0]
        rw [if_pos (by omega), if_pos (by omega), e1]
        simp only [Option.bind_some, if_true]
        rw [if_pos (by omega), hw (by omega), if_pos (by omega), if_pos (by omega), rdn, rdn]
    · have e1 : spec_l6In.f (rd p i) 1 6 = some false := by rw [l6In, rdn]; simp; omega
      refine Ev.step (f := fun k => spec_PartsValid.j1 k p s i true) (fun k => ?_) (Ev.ret (fun k => ?_))
      · simp only [spec_PartsValid.l0]
        rw [if_pos (by omega), if_pos (by omega), e1]
        simp
      · simp only [spec_PartsValid.j1]
        have : okP p i = false := okP_false p i (fun hq => h1 ⟨hq.1, hq.2.1⟩)
        simp [allFrom, this]
theorem spec_pv (p : List Int) (hl : p.length ≤ 35184372088832) : Ev (fun k => spec_PartsValid.f k p) (pvB p) := by
  refine Ev.same (Ev.congr (fun k => ?_) (spec_loop p hl p.length 0 0 (by omega) (by omega) (by omega))) ?_
  · unfold spec_PartsValid.f; rfl
  · unfold pvB; simp
theorem impl_loop (p : List Int) (hl : p.length ≤ 1000000000) : ∀ (d i : Nat) (s : Int), i + d = p.length → 0 ≤ s → s ≤ 6 * i →
    Ev (fun k => impl_PartsValid.l0 k p s p p.length i) (allFrom (okP p) i d && decide (1 ≤ s + sumFrom p i d) && decide (s + sumFrom p i d ≤ 6)) := by
  intro d
  induction d with
  | zero =>
    intro i s h h0 h6
    refine Ev.ret (fun k => ?_)
    simp only [impl_PartsValid.l0]
    rw [if_neg (by omega)]
    simp only [allFrom, sumFrom, Bool.true_and, Int.add_zero]
    by_cases h1 : s ≥ 1
    · rw [if_pos h1, decide_eq_true (show (1 : Int) ≤ s from h1), Bool.true_and]
    · rw [if_neg h1, decide_eq_false (show ¬ (1 : Int) ≤ s from h1), Bool.false_and]
  | succ d ih =>
    intro i s h h0 h6
    have hno : okP p i = false → (allFrom (okP p) i (d + 1) && decide (1 ≤ s + sumFrom p i (d + 1)) && decide (s + sumFrom p i (d + 1) ≤ 6)) = false := fun h => by simp [allFrom, h]
    have hw : (0 : Nat) < i → wrap64 ((i : Int) - 1) = ((i - 1 : Nat) : Int) := fun hi => by rw [wr _ (by omega) (by omega)]; omega
    by_cases h1 : nth p i < 1
    · refine Ev.ret (fun k => ?_)
      simp only [impl_PartsValid.l0]
      rw [if_pos (by omega), if_pos (by omega), if_pos (by omega), rdn, if_pos h1, hno (okP_false p i (fun hq => by omega))]
    by_cases h2 : nth p i > 6
    · refine Ev.ret (fun k => ?_)
      simp only [impl_PartsValid.l0]
      rw [if_pos (by omega), if_pos (by omega), if_pos (by omega), rdn, if_neg h1, if_pos h2, hno (okP_false p i (fun hq => by omega))]
    have w1 : wrap64 (s + nth p i) = s + nth p i := wr _ (by omega) (by omega)
    have go : okP p i = true → Ev (fun k => impl_PartsValid.l0 k p (s + nth p i) p p.length ((i + 1 : Nat) : Int)) (allFrom (okP p) i (d + 1) && decide (1 ≤ s + sumFrom p i (d + 1)) && decide (s + sumFrom p i (d + 1) ≤ 6)) := by
      intro hok
      refine Ev.same (ih (i + 1) (s + nth p i) (by omega) (by omega) (by omega)) ?_
      rw [show s + nth p i + sumFrom p (i + 1) d = s + sumFrom p i (d + 1) by simp only [sumFrom]; omega]
      simp [allFrom, hok]
    by_cases hi : i = 0
    · refine Ev.step (fun k => ?_) (go ((okP_iff p i).2 ⟨by omega, by omega, .inl hi⟩))
      simp only [impl_PartsValid.l0]
      rw [if_pos (by omega), if_pos (by omega), if_pos (by omega), rdn, if_neg h1, if_neg h2, if_neg (by omega), w1, wrs i (by omega)]
    · by_cases h3 : nth p i > nth p (i - 1)
      · refine Ev.ret (fun k => ?_)
        simp only [impl_PartsValid.l0]
        rw [if_pos (by omega), if_pos (by omega), if_pos (by omega), rdn, if_neg h1, if_neg h2, if_pos (by omega), hw (by omega), if_pos (by omega), if_pos (by omega), rdn, if_pos h3, hno (okP_false p i (fun hq => by omega))]
      · refine Ev.step (fun k => ?_) (go ((okP_iff p i).2 ⟨by omega, by omega, .inr (by omega)⟩))
        simp only [impl_PartsValid.l0]
        rw [if_pos (by omega), if_pos (by omega), if_pos (by omega), rdn, if_neg h1, if_neg h2, if_pos (by omega), hw (by omega), if_pos (by omega), if_pos (by omega), rdn, if_neg h3, w1, wrs i (by omega)]
theorem impl_pv (p : List Int) (hl : p.length ≤ 1000000000) : Ev (fun k => impl_PartsValid.f k p) (pvB p) := by
  refine Ev.same (Ev.congr (fun k => ?_) (impl_loop p hl p.length 0 0 (by omega) (by omega) (by omega))) ?_
  · unfold impl_PartsValid.f; rfl
  · unfold pvB; simp
/-- what passes, as a list -/
theorem chain_of (p : List Int) : ∀ (d i : Nat) (m : Int), i + d = p.length → allFrom (okP p) i d = true → (i = 0 → m = 6) → (0 < i → m = nth p (i - 1)) → chainOK m (p.drop i) = true ∧ sumI (p.drop i) = sumFrom p i d := by
  intro d
  induction d with
  | zero =>
    intro i m h1 h2 h3 h4
    rw [List.drop_of_length_le (by omega)]
    simp [chainOK, sumI, sumFrom]
  | succ d ih =>
    intro i m h1 h2 h3 h4
    simp only [allFrom, Bool.and_eq_true] at h2
    have hq := (okP_iff p i).1 h2.1
    have := ih (i + 1) (nth p i) (by omega) h2.2 (by omega) (fun _ => by simp)
    rw [drop_nth p i (by omega)]
    simp only [chainOK, sumI, sumFrom, Bool.and_eq_true, decide_eq_true_eq, this.1, this.2, and_true]
    by_cases hi : i = 0
    · rw [h3 hi]; omega
    · rw [h4 (by omega)]; omega
theorem pv_cases (P : List Int → Bool) (h : pts.all P = true) (p : List Int) (hp : pvB p = true) : P p = true := by
  simp only [pvB, Bool.and_eq_true, decide_eq_true_eq] at hp
  have := chain_of p p.length 0 6 (by omega) hp.1.1 (fun _ => rfl) (fun h => by omega)
  rw [List.drop_zero] at this
  refine pt_cases P h p this.1 (by omega) (fun e => ?_)
  subst e
  simp [sumFrom] at hp
end Go.Proofs.Ytehlokjlcbegoaa.Lpv
