import Derived.Test.YtonlecigglbohaaB1
import Derived.Test.YtonlecigglbohaaM4
import Derived.Test.YtonlecigglbohaaQ2
import Derived.Test.YtonlecigglbohaaQ6
/- The laws' own helpers: lists compared, mixed, summed up. -/
namespace Go.Proofs.Ytonlecigglbohaa.Lsame
set_option linter.unusedVariables false
set_option linter.unusedSimpArgs false
open Go.RowKit Go.Proofs.YtonlecigglbohaaW.PrintWords Go.Proofs.YtonlecigglbohaaW.PrintMore Go.Proofs.Ytonlecigglbohaa.Q Go.Proofs.Ytonlecigglbohaa.M Go.Proofs.Ytonlecigglbohaa.B

theorem same_loop (a b : List Int) (hl : a.length = b.length) (hb : a.length ≤ 35184372088832) : ∀ (d i : Nat), i + d = a.length →
    (∀ j, j < i → nth a j = nth b j) → Ev (fun k => laws_sameInts.l0 k a b i) (decide (a = b)) := by
  intro d
  induction d with
  | zero =>
    intro i h2 h3
    have e : a = b := ext_nth hl (fun j hj => h3 j (by omega))
    refine Ev.ret (fun k => ?_)
    simp only [laws_sameInts.l0]
    rw [if_neg (by omega)]; simp [e]
  | succ d ih =>
    intro i h2 h3
    by_cases e : nth a i = nth b i
    · refine Ev.step (fun k => ?_) (ih (i + 1) (by omega) ?_)
      · simp only [laws_sameInts.l0]
        rw [if_pos (by omega), if_pos (by omega), if_pos (by omega), rdn, rdn, if_pos e, wrs i (by omega)]
      · intro j hj
        by_cases e' : i = j
        · subst e'; exact e
        · exact h3 j (by omega)
    · refine Ev.ret (fun k => ?_)
      simp only [laws_sameInts.l0]
      rw [if_pos (by omega), if_pos (by omega), if_pos (by omega), rdn, rdn, if_neg e]
      have : ¬ a = b := fun h => e (by rw [h])
      simp [this]
theorem same (a b : List Int) (hb : a.length ≤ 35184372088832) : Ev (fun k => laws_sameInts.f k a b) (decide (a = b)) := by
  by_cases hl : a.length = b.length
  · refine Ev.congr (fun k => ?_) (same_loop a b hl hb a.length 0 (by omega) (fun j hj => by omega))
    unfold laws_sameInts.f
    rw [if_pos (by omega)]; rfl
  · refine Ev.congr (fun k => ?_) (Ev.now _)
    unfold laws_sameInts.f
    rw [if_neg (by omega)]
    have : ¬ a = b := fun h => hl (by rw [h])
    simp [this]
theorem same_self (a : List Int) (hb : a.length ≤ 35184372088832) : Ev (fun k => laws_sameInts.f k a a) true := Ev.same (same a a hb) (by simp)
def stay (n : Nat) : List Int := (List.range n).map fun (i : Nat) => (i : Int)
theorem stay_len (n : Nat) : (stay n).length = n := by simp [stay]
theorem stay_nth (n i : Nat) (h : i < n) : nth (stay n) i = i := by
  unfold stay; rw [nth_map _ _ _ (by simpa using h), nth_range _ _ h]
theorem stay_loop (n : Nat) (ha : n ≤ 17592186044416) : ∀ (d i : Nat) (acc : List Int), i + d = n → acc.length = i → (∀ j, j < i → nth acc j = j) → Ev (fun k => laws_stayOf.l0 k n acc i) (stay n) := by
  intro d
  induction d with
  | zero =>
    intro i acc h1 h2 h3
    have e : acc = stay n := ext_nth (by rw [h2, stay_len]; omega) (fun j hj => by rw [h3 j (by omega), stay_nth _ _ (by omega)])
    refine Ev.ret (fun k => ?_)
    simp only [laws_stayOf.l0]
    rw [if_neg (by omega), e]
  | succ d ih =>
    intro i acc h1 h2 h3
    refine Ev.step (fun k => ?_) (ih (i + 1) (acc ++ [(i : Int)]) (by omega) (by simp [h2]) (fun j hj => ?_))
    · simp only [laws_stayOf.l0]
      rw [if_pos (by omega), if_pos (by omega), wrs i (by omega)]
    · by_cases e : j = i
      · subst e; rw [← h2, nth_app_last, h2]
      · rw [nth_app_lt _ _ _ (by omega)]; exact h3 j (by omega)
theorem stay_ev (n : Nat) (ha : n ≤ 17592186044416) : Ev (fun k => laws_stayOf.f k (n : Int)) (stay n) :=
  Ev.congr (fun k => by unfold laws_stayOf.f; rfl) (stay_loop n ha n 0 [] (by omega) rfl (fun j hj => by omega))
end Go.Proofs.Ytonlecigglbohaa.Lsame
