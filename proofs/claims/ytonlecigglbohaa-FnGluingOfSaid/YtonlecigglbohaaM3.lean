import Derived.Test.YtonlecigglbohaaM1
/- The cycles of a permutation, as both programs walk them. -/
namespace Go.Proofs.Ytonlecigglbohaa.M
set_option linter.unusedVariables false
set_option linter.unusedSimpArgs false

/-- from a point on, until a point has been seen -/
def walk (p : List Int) : Nat → List Bool → Int → List Int → List Bool × List Int
  | 0, seen, _, c => (seen, c)
  | f + 1, seen, x, c => if nth seen x.toNat = true then (seen, c) else walk p f (seen.set x.toNat true) (nth p x.toNat) (c ++ [x])
def cycLoop (p : List Int) : Nat → Nat → List Bool → List (List Int) → List (List Int)
  | 0, _, _, out => out
  | d + 1, i, seen, out => if nth seen i = true then cycLoop p d (i + 1) seen out
      else cycLoop p d (i + 1) (walk p (seen.count false) seen i []).1 (out ++ [(walk p (seen.count false) seen i []).2])
def cycles (p : List Int) : List (List Int) := cycLoop p p.length 0 (List.replicate p.length false) []
/-- each number is one of the points -/
def Into (p : List Int) : Prop := ∀ i, i < p.length → 0 ≤ nth p i ∧ nth p i < p.length

theorem count_set (l : List Bool) : ∀ (i : Nat), i < l.length → nth l i = false → (l.set i true).count false + 1 = l.count false := by
  induction l with
  | nil => intro i h; simp at h
  | cons a l ih =>
    intro i h e
    cases i with
    | zero =>
      have : a = false := e
      subst this
      simp
    | succ i =>
      have := ih i (by simpa using h) e
      simp only [List.set_cons_succ, List.count_cons]
      omega
theorem count_zero (l : List Bool) (h : l.count false = 0) (i : Nat) (hi : i < l.length) : nth l i = true := by
  cases e : nth l i with
  | true => rfl
  | false => have := count_set l i hi e; omega
theorem count_le (l : List Bool) : l.count false ≤ l.length := List.count_le_length
theorem walk_len (p : List Int) : ∀ (f : Nat) (seen : List Bool) (x : Int) (c : List Int), (walk p f seen x c).1.length = seen.length
  | 0, _, _, _ => rfl
  | f + 1, seen, x, c => by
    simp only [walk]
    by_cases h : nth seen x.toNat = true
    · rw [if_pos h]
    · rw [if_neg h, walk_len p f]; simp
theorem walk_grow (p : List Int) : ∀ (f : Nat) (seen : List Bool) (x : Int) (c : List Int), c.length ≤ (walk p f seen x c).2.length
  | 0, _, _, _ => Nat.le_refl _
  | f + 1, seen, x, c => by
    simp only [walk]
    by_cases h : nth seen x.toNat = true
    · rw [if_pos h]; exact Nat.le_refl _
    · rw [if_neg h]
      have := walk_grow p f (seen.set x.toNat true) (nth p x.toNat) (c ++ [x])
      simp at this ⊢
      omega
end Go.Proofs.Ytonlecigglbohaa.M
