import Derived.Test.YtonlecigglbohaaB1
import Derived.Test.YtonlecigglbohaaQ5
import Derived.Test.YtonlecigglbohaaQ2
/- What the laws' small helpers and the tests of a gluing answer. -/
namespace Go.Proofs.Ytonlecigglbohaa.L1
set_option linter.unusedVariables false
set_option linter.unusedSimpArgs false
open Go.RowKit Go.Proofs.YtonlecigglbohaaW.PrintWords Go.Proofs.YtonlecigglbohaaW.PrintMore Go.Proofs.Ytonlecigglbohaa.Q Go.Proofs.Ytonlecigglbohaa.M Go.Proofs.Ytonlecigglbohaa.B

theorem toIntS_loop (l : List Int) (hl : l.length ≤ 35184372088832) : ∀ (d i : Nat) (acc : List Int), acc.length = l.length → i + d = l.length →
    (∀ j, j < i → nth acc j = nth l j) → Ev (fun k => laws_toIntS.l0 k l acc i) l := by
  intro d
  induction d with
  | zero =>
    intro i acc h1 h2 h3
    have e : acc = l := ext_nth h1 (fun j hj => h3 j (by omega))
    refine Ev.ret (fun k => ?_)
    simp only [laws_toIntS.l0]
    rw [if_neg (by omega), e]
  | succ d ih =>
    intro i acc h1 h2 h3
    refine Ev.step (fun k => ?_) (ih (i + 1) (acc.set i (nth l i)) (by simpa using h1) (by omega) ?_)
    · simp only [laws_toIntS.l0]
      rw [if_pos (by omega), if_pos (by omega), if_pos (by omega), wrs i (by omega), rdn]
      rfl
    · intro j hj
      by_cases e : i = j
      · subst e; rw [nth_set_self _ _ _ (by omega)]
      · rw [nth_set_ne _ _ _ _ e]; exact h3 j (by omega)
theorem toIntS (l : List Int) (hl : l.length ≤ 35184372088832) : Ev (fun k => laws_toIntS.f k l) l := by
  refine Ev.congr (fun k => ?_) (toIntS_loop l hl l.length 0 (List.replicate l.length 0) (by simp) (by omega) (fun j hj => by omega))
  unfold laws_toIntS.f
  rw [if_pos (by omega), if_pos (by simpa using hl)]
  rfl
theorem eqIntS_loop (a b : List Int) (hl : a.length = b.length) (hb : a.length ≤ 35184372088832) : ∀ (d i : Nat), i + d = a.length →
    (∀ j, j < i → nth a j = nth b j) → Ev (fun k => laws_eqIntS.l0 k a b i) (decide (a = b)) := by
  intro d
  induction d with
  | zero =>
    intro i h2 h3
    have e : a = b := ext_nth hl (fun j hj => h3 j (by omega))
    refine Ev.ret (fun k => ?_)
    simp only [laws_eqIntS.l0]
    rw [if_neg (by omega)]; simp [e]
  | succ d ih =>
    intro i h2 h3
    by_cases e : nth a i = nth b i
    · refine Ev.step (fun k => ?_) (ih (i + 1) (by omega) ?_)
      · simp only [laws_eqIntS.l0]
        rw [if_pos (by omega), if_pos (by omega), if_pos (by omega), rdn, rdn, if_pos e, wrs i (by omega)]
      · intro j hj
        by_cases e' : i = j
        · subst e'; exact e
        · exact h3 j (by omega)
    · refine Ev.ret (fun k => ?_)
      simp only [laws_eqIntS.l0]
      rw [if_pos (by omega), if_pos (by omega), if_pos (by omega), rdn, rdn, if_neg e]
      have : ¬ a = b := fun h => e (by rw [h])
      simp [this]
theorem eqIntS (a b : List Int) (hb : a.length ≤ 35184372088832) : Ev (fun k => laws_eqIntS.f k a b) (decide (a = b)) := by
  by_cases hl : a.length = b.length
  · refine Ev.congr (fun k => ?_) (eqIntS_loop a b hl hb a.length 0 (by omega) (fun j hj => by omega))
    unfold laws_eqIntS.f
    rw [if_pos (by omega)]; rfl
  · refine Ev.congr (fun k => ?_) (Ev.now _)
    unfold laws_eqIntS.f
    rw [if_neg (by omega)]
    have : ¬ a = b := fun h => hl (by rw [h])
    simp [this]
theorem eqIntS_self (a : List Int) (hb : a.length ≤ 35184372088832) : Ev (fun k => laws_eqIntS.f k a a) true :=
  Ev.same (eqIntS a a hb) (by simp)
theorem l6In (a b c : Int) : spec_l6In.f a b c = some (decide (b ≤ a ∧ a ≤ c)) := by
  unfold spec_l6In.f
  by_cases h : a ≥ b
  · rw [if_pos h]; simp [h]
  · rw [if_neg h]; simp; omega
end Go.Proofs.Ytonlecigglbohaa.L1
