import Derived.Test.YtonlecigglbohaaLgv
import Derived.Test.YtonlecigglbohaaLcyc
import Derived.Test.YtonlecigglbohaaQ7
import Derived.Test.YtonlecigglbohaaQ1
/- The permutation of a gluing's corners. -/
namespace Go.Proofs.Ytonlecigglbohaa.Lcorn
set_option linter.unusedVariables false
set_option linter.unusedSimpArgs false
open Go.RowKit Go.Proofs.YtonlecigglbohaaW.PrintWords Go.Proofs.YtonlecigglbohaaW.PrintMore Go.Proofs.Ytonlecigglbohaa.Q Go.Proofs.Ytonlecigglbohaa.M Go.Proofs.Ytonlecigglbohaa.B Go.Proofs.Ytonlecigglbohaa.L1 Go.Proofs.Ytonlecigglbohaa.Lgv Go.Proofs.Ytonlecigglbohaa.Lcyc

def corn (p : List Int) : List Int := p.map (fun x => (x + 1) % (p.length : Int))
theorem corn_len (p : List Int) : (corn p).length = p.length := by simp [corn]
theorem corn_nth (p : List Int) (i : Nat) (h : i < p.length) : nth (corn p) i = (nth p i + 1) % (p.length : Int) := by
  unfold corn; rw [nth_map _ _ _ h]
theorem corn_into (p : List Int) : Into (corn p) := by
  intro i hi
  rw [corn_len] at hi
  rw [corn_nth p i hi, corn_len]
  exact ⟨Int.emod_nonneg _ (by omega), Int.emod_lt_of_pos _ (by omega)⟩
theorem tm (x : Int) (n : Nat) (h : 0 ≤ x) : Int.tmod x n = x % (n : Int) := Int.tmod_eq_emod_of_nonneg h
/-- small and not negative -/
def Nn (p : List Int) : Prop := ∀ i, i < p.length → 0 ≤ nth p i ∧ nth p i ≤ 1000000
theorem spec_loop (p : List Int) (hp : Nn p) (hn : p.length ≤ 1000) : ∀ (d i : Nat) (acc : List Int), i + d = p.length → acc.length = i → (∀ j, j < i → nth acc j = nth (corn p) j) →
    Ev (fun k => spec_l4Corners.l0 k p acc i) (corn p) := by
  intro d
  induction d with
  | zero =>
    intro i acc h1 h2 h3
    have e : acc = corn p := ext_nth (by rw [corn_len]; omega) (fun j hj => h3 j (by omega))
    refine Ev.ret (fun k => ?_)
    simp only [spec_l4Corners.l0]
    rw [if_neg (by omega), e]
  | succ d ih =>
    intro i acc h1 h2 h3
    have hx := hp i (by omega)
    refine Ev.step (fun k => ?_) (ih (i + 1) (acc ++ [(nth p i + 1) % (p.length : Int)]) (by omega) (by simp [h2]) ?_)
    · simp only [spec_l4Corners.l0]
      rw [if_pos (by omega), if_pos (by omega), if_neg (by omega), if_pos (by omega), rdn, wr (nth p i + 1) (by omega) (by omega), tm _ _ (by omega), wrs i (by omega)]
    · intro j hj
      by_cases e : j = i
      · subst e; rw [← h2, nth_app_last, h2, corn_nth p _ (by omega)]
      · rw [nth_app_lt _ _ _ (by omega)]; exact h3 j (by omega)
theorem spec_corn (p : List Int) (hp : Nn p) (hn : p.length ≤ 1000) : Ev (fun k => spec_l4Corners.f k p) (corn p) := by
  refine Ev.congr (fun k => ?_) (spec_loop p hp hn p.length 0 [] (by omega) rfl (fun j h => by omega))
  unfold spec_l4Corners.f; rfl
theorem impl_loop (p : List Int) (hp : Nn p) (hn : p.length ≤ 1000) : ∀ (d i : Nat) (acc : List Int), i + d = p.length → acc.length = p.length → (∀ j, j < i → nth acc j = nth (corn p) j) →
    Ev (fun k => impl_turnOf.l0 k p acc p p.length i) (corn p) := by
  intro d
  induction d with
  | zero =>
    intro i acc h1 h2 h3
    have e : acc = corn p := ext_nth (by rw [corn_len]; omega) (fun j hj => h3 j (by omega))
    refine Ev.ret (fun k => ?_)
    simp only [impl_turnOf.l0]
    rw [if_neg (by omega), e]
  | succ d ih =>
    intro i acc h1 h2 h3
    have hx := hp i (by omega)
    refine Ev.step (fun k => ?_) (ih (i + 1) (acc.set i ((nth p i + 1) % (p.length : Int))) (by omega) (by simpa using h2) ?_)
    · simp only [impl_turnOf.l0]
      rw [if_pos (by omega), if_pos (by omega), if_pos (by omega), if_neg (by omega), if_pos (by omega), rdn, wr (nth p i + 1) (by omega) (by omega), tm _ _ (by omega), wrs i (by omega)]
      rfl
    · intro j hj
      by_cases e : i = j
      · subst e; rw [nth_set_self _ _ _ (by omega), corn_nth p _ (by omega)]
      · rw [nth_set_ne _ _ _ _ e]; exact h3 j (by omega)
theorem impl_corn (p : List Int) (hp : Nn p) (hn : p.length ≤ 1000) : Ev (fun k => impl_turnOf.f k p) (corn p) := by
  refine Ev.congr (fun k => ?_) (impl_loop p hp hn p.length 0 (List.replicate p.length 0) (by omega) (by simp) (fun j h => by omega))
  unfold impl_turnOf.f
  rw [if_pos (by omega), if_pos (by simp; omega)]
  rfl
theorem gv_nn (p : List Int) (h : gvB p = true) : Nn p ∧ p.length ≤ 1000 ∧ (2 ≤ p.length ∧ p.length ≤ 10) := by
  have := (gvB_iff p).1 h
  exact ⟨fun i hi => by have := this.2 i hi; omega, by omega, this.1⟩
end Go.Proofs.Ytonlecigglbohaa.Lcorn
