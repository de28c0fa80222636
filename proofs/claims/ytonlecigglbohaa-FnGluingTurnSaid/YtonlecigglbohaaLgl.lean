import Derived.Test.YtonlecigglbohaaLgv
import Derived.Test.YtonlecigglbohaaM2
/- What holds for each of the listed gluings holds for every gluing that passes the test. -/
namespace Go.Proofs.Ytonlecigglbohaa.Lgl
open Go.Proofs.Ytonlecigglbohaa.M Go.Proofs.Ytonlecigglbohaa.Lgv
theorem gv_even (p : List Int) (h : gvB p = true) : p.length % 2 = 0 := by
  simp only [gvB, Bool.and_eq_true] at h
  exact even_of_all p h.2
theorem gv_cases (P : List Int → Bool) (h1 : (gls 1).all P = true) (h2 : (gls 2).all P = true) (h3 : (gls 3).all P = true) (h4 : (gls 4).all P = true) (h5 : (gls 5).all P = true)
    (p : List Int) (h : gvB p = true) : P p = true :=
  gl_cases P h1 h2 h3 h4 h5 p ((gvB_iff p).1 h).2 (gv_even p h) ((gvB_iff p).1 h).1
/-- what holds for each of n pieces holds for the whole list -/
theorem all_chunks {α : Type} (P : α → Bool) (m : Nat) : ∀ (n : Nat) (l : List α), l.length ≤ m * n → (∀ i, i < n → ((l.drop (m * i)).take m).all P = true) → l.all P = true := by
  intro n
  induction n with
  | zero => intro l h _; (have : l = [] := List.eq_nil_of_length_eq_zero (by simpa using h)); simp [this]
  | succ n ih =>
    intro l h k
    have h0 := k 0 (by omega)
    rw [Nat.mul_zero, List.drop_zero] at h0
    have h1 := ih (l.drop m) (by simp only [List.length_drop]; rw [Nat.mul_succ] at h; omega) (fun i hi => by
      have := k (i + 1) (by omega)
      rw [List.drop_drop, show m + m * i = m * (i + 1) by rw [Nat.mul_succ]; omega]
      exact this)
    rw [← List.take_append_drop m l, List.all_append, h0, h1]; rfl
def gl5 (i : Nat) : List (List Int) := ((gls 5).drop (105 * i)).take 105
theorem gl5_len : (gls 5).length ≤ 105 * 9 := by decide +kernel
theorem gl5_all (P : List Int → Bool) (h0 : (gl5 0).all P = true) (h1 : (gl5 1).all P = true) (h2 : (gl5 2).all P = true) (h3 : (gl5 3).all P = true) (h4 : (gl5 4).all P = true) (h5 : (gl5 5).all P = true) (h6 : (gl5 6).all P = true) (h7 : (gl5 7).all P = true) (h8 : (gl5 8).all P = true) : (gls 5).all P = true := by
  refine all_chunks P 105 9 _ gl5_len (fun i hi => ?_)
  have : i = 0 ∨ i = 1 ∨ i = 2 ∨ i = 3 ∨ i = 4 ∨ i = 5 ∨ i = 6 ∨ i = 7 ∨ i = 8 := by omega
  rcases this with rfl | rfl | rfl | rfl | rfl | rfl | rfl | rfl | rfl
  · exact h0
  · exact h1
  · exact h2
  · exact h3
  · exact h4
  · exact h5
  · exact h6
  · exact h7
  · exact h8
end Go.Proofs.Ytonlecigglbohaa.Lgl
