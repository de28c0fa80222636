import Derived.Test.YtonlecigglbohaaL1
import Derived.Test.YtonlecigglbohaaQ7
import Derived.Test.YtonlecigglbohaaQ1
/- The test of a gluing: both programs answer alike, and what they ask. -/
namespace Go.Proofs.Ytonlecigglbohaa.Lgv
set_option linter.unusedVariables false
set_option linter.unusedSimpArgs false
open Go.RowKit Go.Proofs.YtonlecigglbohaaW.PrintWords Go.Proofs.YtonlecigglbohaaW.PrintMore Go.Proofs.Ytonlecigglbohaa.Q Go.Proofs.Ytonlecigglbohaa.M Go.Proofs.Ytonlecigglbohaa.B Go.Proofs.Ytonlecigglbohaa.L1

/-- is the side i glued to a partner -/
def okG (p : List Int) (i : Nat) : Bool :=
  decide (0 ≤ nth p i) && decide (nth p i < p.length) && decide (nth p i ≠ i) && decide (nth p (nth p i).toNat = i)
def gvB (p : List Int) : Bool := decide (2 ≤ p.length ∧ p.length ≤ 10) && allFrom (okG p) 0 p.length

theorem okG_iff (p : List Int) (i : Nat) : okG p i = true ↔ 0 ≤ nth p i ∧ nth p i < p.length ∧ nth p i ≠ i ∧ nth p (nth p i).toNat = i := by
  simp [okG, and_assoc]
theorem gvB_iff (p : List Int) : gvB p = true ↔ (2 ≤ p.length ∧ p.length ≤ 10) ∧ ∀ i, i < p.length → 0 ≤ nth p i ∧ nth p i < p.length ∧ nth p i ≠ i ∧ nth p (nth p i).toNat = i := by
  simp only [gvB, Bool.and_eq_true, decide_eq_true_eq, allFrom_iff]
  constructor
  · rintro ⟨h, g⟩; exact ⟨h, fun i hi => (okG_iff p i).1 (g i (by omega) (by omega))⟩
  · rintro ⟨h, g⟩; exact ⟨h, fun i _ hi => (okG_iff p i).2 (g i (by omega))⟩
theorem even_of_all (p : List Int) (h : allFrom (okG p) 0 p.length = true) : p.length % 2 = 0 := by
  rw [allFrom_iff] at h
  have g : ∀ i, i < p.length → 0 ≤ nth p i ∧ nth p i < p.length ∧ nth p i ≠ i ∧ nth p (nth p i).toNat = i :=
    fun i hi => (okG_iff p i).1 (h i (by omega) (by omega))
  refine even_of_invol p.length (fun i => (nth p i).toNat) ?_ ?_ ?_
  · intro i hi; have := g i hi; show (nth p i).toNat < p.length; omega
  · intro i hi; have := g i hi; show (nth p (nth p i).toNat).toNat = i; rw [this.2.2.2]; omega
  · intro i hi; have := g i hi; show (nth p i).toNat ≠ i; omega

theorem spec_loop (p : List Int) (hl : p.length ≤ 35184372088832) : ∀ (d i : Nat), i + d = p.length →
    Ev (fun k => spec_GluingValid.l0 k p i) (allFrom (okG p) i d && decide (2 ≤ p.length ∧ p.length ≤ 10)) := by
  intro d
  induction d with
  | zero =>
    intro i h
    refine Ev.ret (fun k => ?_)
    simp only [spec_GluingValid.l0]
    rw [if_neg (by omega), l6In]
    simp only [Option.bind_some, allFrom, Bool.true_and]
    congr 1
    simp only [decide_eq_decide]; omega
  | succ d ih =>
    intro i h
    have hw : wrap64 ((p.length : Int) - 1) = (p.length : Int) - 1 := wr _ (by omega) (by omega)
    by_cases h1 : 0 ≤ nth p i ∧ nth p i < p.length
    · obtain ⟨h1, h2⟩ := h1
      have e1 : spec_l6In.f (rd p i) 0 (wrap64 ((p.length : Int) - 1)) = some true := by
        rw [l6In, rdn, hw]; simp [h1]; omega
      by_cases h3 : nth p i = i
      · refine Ev.ret (fun k => ?_)
        simp only [spec_GluingValid.l0]
        rw [if_pos (by omega), if_pos (by omega), e1]
        simp only [Option.bind_some, if_true]
        rw [rdn, if_pos h3]
        simp [allFrom, okG, h3]
      · by_cases h4 : nth p (nth p i).toNat = i
        · refine Ev.step (fun k => ?_) (Ev.same (ih (i + 1) (by omega)) ?_)
          · simp only [spec_GluingValid.l0]
            rw [if_pos (by omega), if_pos (by omega), e1]
            simp only [Option.bind_some, if_true]
            rw [rdn, if_neg h3, if_pos h1, if_pos h2]
            rw [if_pos (by rw [rd_eq]; exact h4), wrs i (by omega)]
          · have : okG p i = true := (okG_iff p i).2 ⟨h1, h2, h3, h4⟩
            simp [allFrom, this]
        · refine Ev.ret (fun k => ?_)
          simp only [spec_GluingValid.l0]
          rw [if_pos (by omega), if_pos (by omega), e1]
          simp only [Option.bind_some, if_true]
          rw [rdn, if_neg h3, if_pos h1, if_pos h2, if_neg (by rw [rd_eq]; exact h4)]
          have : okG p i = false := by
            cases hq : okG p i with
            | false => rfl
            | true => exact absurd ((okG_iff p i).1 hq).2.2.2 h4
          simp [allFrom, this]
    · refine Ev.ret (fun k => ?_)
      have e1 : spec_l6In.f (rd p i) 0 (wrap64 ((p.length : Int) - 1)) = some false := by
        rw [l6In, rdn, hw]; simp; omega
      simp only [spec_GluingValid.l0]
      rw [if_pos (by omega), if_pos (by omega), e1]
      have : okG p i = false := by
        cases hq : okG p i with
        | false => rfl
        | true => exact absurd ⟨((okG_iff p i).1 hq).1, ((okG_iff p i).1 hq).2.1⟩ h1
      simp [allFrom, this]
theorem spec_gv (p : List Int) (hl : p.length ≤ 35184372088832) : Ev (fun k => spec_GluingValid.f k p) (gvB p) := by
  refine Ev.same (Ev.congr (fun k => ?_) (spec_loop p hl p.length 0 (by omega))) ?_
  · unfold spec_GluingValid.f; rfl
  · unfold gvB; rw [Bool.and_comm]

theorem impl_loop (p : List Int) (hl : p.length ≤ 35184372088832) : ∀ (d i : Nat), i + d = p.length →
    Ev (fun k => impl_GluingValid.l0 k p p p.length i) (allFrom (okG p) i d) := by
  intro d
  induction d with
  | zero =>
    intro i h
    refine Ev.ret (fun k => ?_)
    simp only [impl_GluingValid.l0]
    rw [if_neg (by omega)]; rfl
  | succ d ih =>
    intro i h
    have hno : okG p i = false → allFrom (okG p) i (d + 1) = false := fun h => by simp [allFrom, h]
    have hq : okG p i = true → allFrom (okG p) i (d + 1) = allFrom (okG p) (i + 1) d := fun h => by simp [allFrom, h]
    by_cases h1 : nth p i < 0
    · refine Ev.ret (fun k => ?_)
      simp only [impl_GluingValid.l0]
      rw [if_pos (by omega), if_pos (by omega), if_pos (by omega), rdn, if_pos h1, hno]
      cases e : okG p i with
      | false => rfl
      | true => have := (okG_iff p i).1 e; omega
    · by_cases h2 : nth p i ≥ p.length
      · refine Ev.ret (fun k => ?_)
        simp only [impl_GluingValid.l0]
        rw [if_pos (by omega), if_pos (by omega), if_pos (by omega), rdn, if_neg h1, if_pos h2, hno]
        cases e : okG p i with
        | false => rfl
        | true => have := (okG_iff p i).1 e; omega
      · by_cases h3 : nth p i = i
        · refine Ev.ret (fun k => ?_)
          simp only [impl_GluingValid.l0]
          rw [if_pos (by omega), if_pos (by omega), if_pos (by omega), rdn, if_neg h1, if_neg h2, if_pos h3, hno]
          cases e : okG p i with
          | false => rfl
          | true => have := (okG_iff p i).1 e; omega
        · by_cases h4 : nth p (nth p i).toNat = i
          · refine Ev.step (fun k => ?_) (Ev.same (ih (i + 1) (by omega)) ?_)
            · simp only [impl_GluingValid.l0]
              rw [if_pos (by omega), if_pos (by omega), if_pos (by omega), rdn, if_neg h1, if_neg h2, if_neg h3, if_pos (by omega), if_pos (by omega), if_pos (by rw [rd_eq]; exact h4), wrs i (by omega)]
            · rw [hq ((okG_iff p i).2 ⟨by omega, by omega, h3, h4⟩)]
          · refine Ev.ret (fun k => ?_)
            simp only [impl_GluingValid.l0]
            rw [if_pos (by omega), if_pos (by omega), if_pos (by omega), rdn, if_neg h1, if_neg h2, if_neg h3, if_pos (by omega), if_pos (by omega), if_neg (by rw [rd_eq]; exact h4), hno]
            cases e : okG p i with
            | false => rfl
            | true => exact absurd ((okG_iff p i).1 e).2.2.2 h4
theorem impl_gv (p : List Int) (hl : p.length ≤ 35184372088832) : Ev (fun k => impl_GluingValid.f k p) (gvB p) := by
  by_cases h1 : (p.length : Int) < 2
  · refine Ev.congr (fun k => by unfold impl_GluingValid.f; rw [if_pos h1]) (Ev.ret (fun k => ?_))
    simp only [impl_GluingValid.j0]
    have : ¬ (2 ≤ p.length ∧ p.length ≤ 10) := by omega
    simp [gvB, this]
  · by_cases h2 : (p.length : Int) > 10
    · refine Ev.congr (fun k => by unfold impl_GluingValid.f; rw [if_neg h1, if_pos h2]) (Ev.ret (fun k => ?_))
      simp only [impl_GluingValid.j0]
      have : ¬ (2 ≤ p.length ∧ p.length ≤ 10) := by omega
      simp [gvB, this]
    · have h12 : 2 ≤ p.length ∧ p.length ≤ 10 := by omega
      refine Ev.congr (fun k => by unfold impl_GluingValid.f; rw [if_neg h1, if_neg h2]) ?_
      by_cases h3 : p.length % 2 = 0
      · have e : (((p.length : Int) % 2) != 0) = false := by simp; omega
        rw [e]
        refine Ev.step (fun k => by simp only [impl_GluingValid.j0]; rw [if_neg (by simp)]; rfl) (Ev.same (impl_loop p hl p.length 0 (by omega)) ?_)
        simp [gvB, h12]
      · have e : (((p.length : Int) % 2) != 0) = true := by simp; omega
        rw [e]
        refine Ev.ret (fun k => ?_)
        simp only [impl_GluingValid.j0]
        cases ha : allFrom (okG p) 0 p.length with
        | false => simp [gvB, ha]
        | true => exact absurd (even_of_all p ha) h3
end Go.Proofs.Ytonlecigglbohaa.Lgv
