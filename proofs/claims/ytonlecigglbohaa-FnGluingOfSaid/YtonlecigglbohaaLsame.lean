import Derived.Test.YtonlecigglbohaaB1
import Derived.Test.YtonlecigglbohaaM4
import Derived.Test.YtonlecigglbohaaQ1
/- The laws' own helpers: lists compared, mixed, summed up. -/
namespace Go.Proofs.Ytonlecigglbohaa.Lsame
set_option linter.unusedVariables false
set_option linter.unusedSimpArgs false
open Go.RowKit Go.Proofs.YtonlecigglbohaaW.PrintWords Go.Proofs.YtonlecigglbohaaW.PrintMore Go.Proofs.Ytonlecigglbohaa.Q Go.Proofs.Ytonlecigglbohaa.M Go.Proofs.Ytonlecigglbohaa.B

theorem same_loop (a b : List Int) (hl : a.length = b.length) (hb : a.length ≤ 35184372088832) : ∀ (d i : Nat), i + d = a.length →
    (∀ j, j < i → nth a j = nth b j) → Ev (fun k => laws_sameInts.l0 k a b i) (decide (a = b)) := by
  intro d
  induction d with
  | zero =>
    intro i h2 h3
    have e : a = b := ext_nth hl (fun j hj => h3 j (by omega))
    refine Ev.ret (fun k => ?_)
    simp only [laws_sameInts.l0]
    rw [if_neg (by omega)]; simp [e]
  | succ d ih =>
    intro i h2 h3
    by_cases e : nth a i = nth b i
    · refine Ev.step (fun k => ?_) (ih (i + 1) (by omega) ?_)
      · simp only [laws_sameInts.l0]
        rw [if_pos (by omega), if_pos (by omega), if_pos (by omega), rdn, rdn, if_pos e, wrs i (by omega)]
      · intro j hj
        by_cases e' : i = j
        · subst e'; exact e
        · exact h3 j (by omega)
    · refine Ev.ret (fun k => ?_)
      simp only [laws_sameInts.l0]
      rw [if_pos (by omega), if_pos (by omega), if_pos (by omega), rdn, rdn, if_neg e]
      have : ¬ a = b := fun h => e (by rw [h])
      simp [this]
theorem same (a b : List Int) (hb : a.length ≤ 35184372088832) : Ev (fun k => laws_sameInts.f k a b) (decide (a = b)) := by
  by_cases hl : a.length = b.length
  · refine Ev.congr (fun k => ?_) (same_loop a b hl hb a.length 0 (by omega) (fun j hj => by omega))
    unfold laws_sameInts.f
    rw [if_pos (by omega)]; rfl
  · refine Ev.congr (fun k => ?_) (Ev.now _)
    unfold laws_sameInts.f
    rw [if_neg (by omega)]
    have : ¬ a = b := fun h => hl (by rw [h])
    simp [this]
theorem same_self (a : List Int) (hb : a.length ≤ 35184372088832) : Ev (fun k => laws_sameInts.f k a a) true := Ev.same (same a a hb) (by simp)
theorem sameMap_self (a b : List Int) (ha : a.length ≤ 35184372088832) (hb : b.length ≤ 35184372088832) : Ev (fun k => laws_sameMap.f k a b a b) true := by
  unfold laws_sameMap.f
  refine Ev.bind (same_self a ha) (Ev.pos rfl ?_)
  exact Ev.bind (same_self b hb) (Ev.now _)
end Go.Proofs.Ytonlecigglbohaa.Lsame
