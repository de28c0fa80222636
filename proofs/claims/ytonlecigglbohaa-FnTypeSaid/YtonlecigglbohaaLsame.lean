import Derived.Test.YtonlecigglbohaaB1
import Derived.Test.YtonlecigglbohaaM4
import Derived.Test.YtonlecigglbohaaQ1
import Derived.Test.YtonlecigglbohaaQ6
/- The laws' own helpers: lists compared, mixed, summed up. -/
namespace Go.Proofs.Ytonlecigglbohaa.Lsame
set_option linter.unusedVariables false
set_option linter.unusedSimpArgs false
open Go.RowKit Go.Proofs.YtonlecigglbohaaW.PrintWords Go.Proofs.YtonlecigglbohaaW.PrintMore Go.Proofs.Ytonlecigglbohaa.Q Go.Proofs.Ytonlecigglbohaa.M Go.Proofs.Ytonlecigglbohaa.B

theorem same_loop (a b : List Int) (hl : a.length = b.length) (hb : a.length ≤ 35184372088832) : ∀ (d i : Nat), i + d = a.length →
    (∀ j, j < i → nth a j = nth b j) → Ev (fun k => laws_sameInts.l0 k a b i) (decide (a = b)) := by
  intro d
  induction d with
  | zero =>
    intro i h2 h3
    have e : a = b := ext_nth hl (fun j hj => h3 j (by omega))
    refine Ev.ret (fun k => ?_)
    simp only [laws_sameInts.l0]
    rw [if_neg (by omega)]; simp [e]
  | succ d ih =>
    intro i h2 h3
    by_cases e : nth a i = nth b i
    · refine Ev.step (fun k => ?_) (ih (i + 1) (by omega) ?_)
      · simp only [laws_sameInts.l0]
        rw [if_pos (by omega), if_pos (by omega), if_pos (by omega), rdn, rdn, if_pos e, wrs i (by omega)]
      · intro j hj
        by_cases e' : i = j
        · subst e'; exact e
        · exact h3 j (by omega)
    · refine Ev.ret (fun k => ?_)
      simp only [laws_sameInts.l0]
      rw [if_pos (by omega), if_pos (by omega), if_pos (by omega), rdn, rdn, if_neg e]
      have : ¬ a = b := fun h => e (by rw [h])
      simp [this]
theorem same (a b : List Int) (hb : a.length ≤ 35184372088832) : Ev (fun k => laws_sameInts.f k a b) (decide (a = b)) := by
  by_cases hl : a.length = b.length
  · refine Ev.congr (fun k => ?_) (same_loop a b hl hb a.length 0 (by omega) (fun j hj => by omega))
    unfold laws_sameInts.f
    rw [if_pos (by omega)]; rfl
  · refine Ev.congr (fun k => ?_) (Ev.now _)
    unfold laws_sameInts.f
    rw [if_neg (by omega)]
    have : ¬ a = b := fun h => hl (by rw [h])
    simp [this]
theorem same_self (a : List Int) (hb : a.length ≤ 35184372088832) : Ev (fun k => laws_sameInts.f k a a) true := Ev.same (same a a hb) (by simp)
def mix (n by_ : Nat) : List Int := (List.range n).map fun (i : Nat) => (((i + by_) % n : Nat) : Int)
theorem mix_len (n b : Nat) : (mix n b).length = n := by simp [mix]
theorem mix_nth (n b i : Nat) (h : i < n) : nth (mix n b) i = (((i + b) % n : Nat) : Int) := by
  unfold mix; rw [nth_map _ _ _ (by simpa using h), nth_range _ _ h]
theorem mix_into (n b : Nat) : Into (mix n b) := by
  intro i hi
  rw [mix_len] at hi ⊢
  rw [mix_nth _ _ _ hi]
  have := Nat.mod_lt (i + b) (show 0 < n by omega)
  omega
theorem mod_inj (n i j b : Nat) (hi : i < n) (hj : j < n) (h : (i + b) % n = (j + b) % n) : i = j := by
  have key : ∀ i j : Nat, i < n → j < n → i ≤ j → (i + b) % n = (j + b) % n → i = j := by
    intro i j hi hj hij h
    have e : (j + b - (i + b)) % n = 0 := Nat.sub_mod_eq_zero_of_mod_eq h.symm
    rw [show j + b - (i + b) = j - i by omega, Nat.mod_eq_of_lt (by omega)] at e
    omega
  rcases Nat.le_total i j with g | g
  · exact key i j hi hj g h
  · exact (key j i hj hi g h.symm).symm
theorem mix_inj (n b : Nat) : Inj (mix n b) := by
  intro i j hi hj h
  rw [mix_len] at hi hj
  rw [mix_nth _ _ _ hi, mix_nth _ _ _ hj] at h
  exact mod_inj n i j b hi hj (by omega)
theorem mix_loop (n b : Nat) (hn : n ≤ 1000000) (hb : b ≤ 1000000) : ∀ (d i : Nat) (acc : List Int), i + d = n → acc.length = i → (∀ j, j < i → nth acc j = nth (mix n b) j) → Ev (fun k => laws_mixOf.l0 k n b acc i) (mix n b) := by
  intro d
  induction d with
  | zero =>
    intro i acc h1 h2 h3
    have e : acc = mix n b := ext_nth (by rw [h2, mix_len]; omega) (fun j hj => h3 j (by omega))
    refine Ev.ret (fun k => ?_)
    simp only [laws_mixOf.l0]
    rw [if_neg (by omega), e]
  | succ d ih =>
    intro i acc h1 h2 h3
    refine Ev.step (fun k => ?_) (ih (i + 1) (acc ++ [nth (mix n b) i]) (by omega) (by simp [h2]) (fun j hj => ?_))
    · simp only [laws_mixOf.l0]
      rw [if_pos (by omega), if_neg (by omega), if_pos (by omega), wrs i (by omega), wr _ (by omega) (by omega), mix_nth _ _ _ (by omega), Int.tmod_eq_emod_of_nonneg (by omega)]
      rfl
    · by_cases e : j = i
      · subst e; rw [← h2, nth_app_last, h2]
      · rw [nth_app_lt _ _ _ (by omega)]; exact h3 j (by omega)
theorem mix_ev (n b : Nat) (hn : n ≤ 1000000) (hb : b ≤ 1000000) : Ev (fun k => laws_mixOf.f k n b) (mix n b) :=
  Ev.congr (fun k => by unfold laws_mixOf.f; rfl) (mix_loop n b hn hb n 0 [] (by omega) rfl (fun j hj => by omega))
end Go.Proofs.Ytonlecigglbohaa.Lsame
