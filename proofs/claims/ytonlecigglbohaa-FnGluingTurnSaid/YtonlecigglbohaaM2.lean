import Derived.Test.YtonlecigglbohaaM1
/- All gluings of at most ten sides, all partitions of at most six: lists that hold each of them. -/
namespace Go.Proofs.Ytonlecigglbohaa.M
set_option linter.unusedVariables false
set_option linter.unusedSimpArgs false

/-! ### gluings -/
def firstFree : List Int → Nat → Option Nat
  | [], _ => none
  | x :: xs, i => if x = -1 then some i else firstFree xs (i + 1)
/-- the numbers from k on, d of them, at which q is free -/
def frees (q : List Int) : Nat → Nat → List Nat
  | _, 0 => []
  | k, d + 1 => if nth q k = -1 then k :: frees q (k + 1) d else frees q (k + 1) d
/-- all ways to go on from some partners -/
def glExt : Nat → List Int → List (List Int)
  | 0, q => [q]
  | fuel + 1, q => match firstFree q 0 with
    | none => [q]
    | some a => (frees q (a + 1) (q.length - (a + 1))).flatMap fun (k : Nat) => glExt fuel ((q.set a (k : Int)).set k (a : Int))
def gls (n : Nat) : List (List Int) := glExt (2 * n) (List.replicate (2 * n) (-1))

theorem firstFree_none : ∀ (q : List Int) (i : Nat), firstFree q i = none → ∀ j, j < q.length → nth q j ≠ -1
  | [], i, _, j, h => by simp at h
  | x :: xs, i, e, j, h => by
    simp only [firstFree] at e
    by_cases hx : x = -1
    · rw [if_pos hx] at e; cases e
    · rw [if_neg hx] at e
      cases j with
      | zero => exact hx
      | succ j => exact firstFree_none xs (i + 1) e j (by simpa using h)
theorem firstFree_some : ∀ (q : List Int) (i a : Nat), firstFree q i = some a → i ≤ a ∧ a - i < q.length ∧ nth q (a - i) = -1 ∧ ∀ j, j < a - i → nth q j ≠ -1
  | [], i, a, e => by simp [firstFree] at e
  | x :: xs, i, a, e => by
    simp only [firstFree] at e
    by_cases hx : x = -1
    · rw [if_pos hx] at e
      obtain rfl := Option.some.inj e
      refine ⟨Nat.le_refl _, by simp, by rw [Nat.sub_self]; exact hx, fun j h => by omega⟩
    · rw [if_neg hx] at e
      obtain ⟨h1, h2, h3, h4⟩ := firstFree_some xs (i + 1) a e
      have ea : a - i = (a - (i + 1)) + 1 := by omega
      refine ⟨by omega, by simp; omega, by rw [ea]; exact h3, fun j h => ?_⟩
      cases j with
      | zero => exact hx
      | succ j => exact h4 j (by omega)
theorem mem_frees (q : List Int) : ∀ (d k j : Nat), k ≤ j → j < k + d → nth q j = -1 → j ∈ frees q k d := by
  intro d
  induction d with
  | zero => intro k j h1 h2; omega
  | succ d ih =>
    intro k j h1 h2 h3
    simp only [frees]
    by_cases e : j = k
    · subst e; rw [if_pos h3]; simp
    · have := ih (k + 1) j (by omega) (by omega) h3
      by_cases h : nth q k = -1
      · rw [if_pos h]; exact List.mem_cons_of_mem _ this
      · rw [if_neg h]; exact this
/-- a list of partners -/
def IsGl (p : List Int) : Prop := ∀ i, i < p.length → 0 ≤ nth p i ∧ nth p i < p.length ∧ nth p i ≠ i ∧ nth p (nth p i).toNat = i
theorem mem_glExt (p : List Int) (hp : IsGl p) : ∀ (fuel b : Nat) (q : List Int), q.length = p.length → p.length ≤ b + fuel →
    (∀ j, j < b → j < q.length → nth q j ≠ -1) → (∀ j, j < q.length → nth q j = -1 ∨ nth q j = nth p j) →
    (∀ j, j < q.length → nth q j ≠ -1 → nth q (nth p j).toNat ≠ -1) → p ∈ glExt fuel q := by
  intro fuel
  induction fuel with
  | zero =>
    intro b q hl hb h1 h2 h3
    have e : q = p := ext_nth hl (fun j hj => by
      rcases h2 j hj with h | h
      · exact absurd h (h1 j (by omega) hj)
      · exact h)
    simp [glExt, e]
  | succ fuel ih =>
    intro b q hl hb h1 h2 h3
    simp only [glExt]
    cases hf : firstFree q 0 with
    | none =>
      have := firstFree_none q 0 hf
      have e : q = p := ext_nth hl (fun j hj => by
        rcases h2 j hj with h | h
        · exact absurd h (this j hj)
        · exact h)
      simp [e]
    | some a =>
      obtain ⟨_, ha1, ha2, ha3⟩ := firstFree_some q 0 a hf
      rw [Nat.sub_zero] at ha1 ha2 ha3
      have hba : b ≤ a := by
        refine Nat.le_of_not_lt fun h => ?_
        exact h1 a h ha1 ha2
      obtain ⟨g1, g2, g3, g4⟩ := hp a (by omega)
      generalize hk : (nth p a).toNat = k at g4
      have hkp : nth p a = (k : Int) := by omega
      have hkl : k < q.length := by omega
      have hkf : nth q k = -1 := by
        refine Classical.byContradiction fun h => ?_
        have := h3 k hkl h
        rw [g4, Int.toNat_natCast] at this
        exact this ha2
      have hak : a < k := by
        refine Nat.lt_of_le_of_ne (Nat.le_of_not_lt fun h => ?_) (fun h => g3 (by rw [hkp, ← h]))
        exact ha3 k h hkf
      simp only [List.mem_flatMap]
      refine ⟨k, mem_frees q (q.length - (a + 1)) (a + 1) k (by omega) (by omega) hkf, ?_⟩
      refine ih (a + 1) _ (by simpa using hl) (by omega) ?_ ?_ ?_
      · intro j hj hjl
        simp only [List.length_set] at hjl
        rw [nth_set]
        by_cases e1 : k = j ∧ k < (q.set a ↑k).length
        · rw [if_pos e1]; omega
        · rw [if_neg e1, nth_set]
          by_cases e2 : a = j ∧ a < q.length
          · rw [if_pos e2]; omega
          · rw [if_neg e2]
            have e3 : j ≠ a := fun h => e2 ⟨h.symm, ha1⟩
            exact ha3 j (by omega)
      · intro j hjl
        simp only [List.length_set] at hjl
        rw [nth_set]
        by_cases e1 : k = j ∧ k < (q.set a ↑k).length
        · rw [if_pos e1]; right; rw [← e1.1, g4]
        · rw [if_neg e1, nth_set]
          by_cases e2 : a = j ∧ a < q.length
          · rw [if_pos e2]; right; rw [← e2.1, hkp]
          · rw [if_neg e2]; exact h2 j hjl
      · intro j hjl hj
        simp only [List.length_set] at hjl
        by_cases e1 : j = k
        · rw [e1, g4, Int.toNat_natCast, nth_set_ne _ _ _ _ (by omega), nth_set_self _ _ _ ha1]; omega
        · by_cases e2 : j = a
          · rw [e2, hk, nth_set_self _ _ _ (by simpa using hkl)]; omega
          · have hq : nth q j ≠ -1 := by
              rwa [nth_set_ne _ _ _ _ (by omega), nth_set_ne _ _ _ _ (by omega)] at hj
            have := h3 j hjl hq
            by_cases e3 : (nth p j).toNat = k
            · rw [e3] at this; exact absurd hkf this
            · by_cases e4 : (nth p j).toNat = a
              · rw [e4] at this; exact absurd ha2 this
              · rw [nth_set_ne _ _ _ _ (by omega), nth_set_ne _ _ _ _ (by omega)]; exact this
theorem mem_gls (p : List Int) (hp : IsGl p) (n : Nat) (hn : p.length = 2 * n) : p ∈ gls n := by
  unfold gls
  refine mem_glExt p hp (2 * n) 0 _ (by simp [hn]) (by omega) (fun j h => by omega) ?_ ?_
  · intro j hj; left; exact nth_replicate _ _ _ (by simpa using hj)
  · intro j hj h; exact absurd (nth_replicate _ _ _ (by simpa using hj)) h
/-- an answer that holds for all gluings of two to ten sides -/
theorem gl_cases (P : List Int → Bool) (h1 : (gls 1).all P = true) (h2 : (gls 2).all P = true) (h3 : (gls 3).all P = true) (h4 : (gls 4).all P = true) (h5 : (gls 5).all P = true)
    (p : List Int) (hp : IsGl p) (he : p.length % 2 = 0) (hl : 2 ≤ p.length ∧ p.length ≤ 10) : P p = true := by
  have hm := mem_gls p hp (p.length / 2) (by omega)
  have : p.length / 2 = 1 ∨ p.length / 2 = 2 ∨ p.length / 2 = 3 ∨ p.length / 2 = 4 ∨ p.length / 2 = 5 := by omega
  rcases this with e | e | e | e | e <;> rw [e] at hm
  · exact List.all_eq_true.1 h1 p hm
  · exact List.all_eq_true.1 h2 p hm
  · exact List.all_eq_true.1 h3 p hm
  · exact List.all_eq_true.1 h4 p hm
  · exact List.all_eq_true.1 h5 p hm

/-! ### partitions -/
/-- no number greater than the one ahead (m for the first), each at least 1 -/
def chainOK : Int → List Int → Bool
  | _, [] => true
  | m, x :: xs => decide (1 ≤ x ∧ x ≤ m) && chainOK x xs
def sumI : List Int → Int
  | [] => 0
  | x :: xs => x + sumI xs
/-- all of them up to a sum -/
def ptExt : Nat → Nat → Nat → List (List Int)
  | 0, _, _ => [[]]
  | fuel + 1, m, s => [] :: ((List.range (min m s)).flatMap fun x => (ptExt fuel (x + 1) (s - (x + 1))).map fun l => ((x + 1 : Nat) : Int) :: l)
def pts : List (List Int) := (ptExt 6 6 6).filter fun l => decide (l ≠ [])
theorem sumI_nonneg : ∀ (m : Int) (l : List Int), chainOK m l = true → 0 ≤ sumI l ∧ (l.length : Int) ≤ sumI l
  | _, [], _ => by simp [sumI]
  | m, x :: xs, h => by
    simp only [chainOK, Bool.and_eq_true, decide_eq_true_eq] at h
    have := sumI_nonneg x xs h.2
    simp only [sumI, List.length_cons]
    omega
theorem mem_ptExt : ∀ (fuel m s : Nat) (l : List Int), chainOK m l = true → sumI l ≤ s → s ≤ fuel → l ∈ ptExt fuel m s
  | 0, m, s, l, h1, h2, h3 => by
    cases l with
    | nil => simp [ptExt]
    | cons x xs => have := sumI_nonneg m _ h1; simp only [List.length_cons] at this; omega
  | fuel + 1, m, s, [], h1, h2, h3 => by simp [ptExt]
  | fuel + 1, m, s, x :: xs, h1, h2, h3 => by
    simp only [chainOK, Bool.and_eq_true, decide_eq_true_eq] at h1
    obtain ⟨⟨a1, a2⟩, a3⟩ := h1
    have hs := sumI_nonneg x xs a3
    simp only [sumI] at h2
    obtain ⟨y, hy⟩ : ∃ y : Nat, x = ((y + 1 : Nat) : Int) := ⟨(x - 1).toNat, by omega⟩
    subst hy
    simp only [ptExt]
    refine List.mem_cons_of_mem _ (List.mem_flatMap.2 ⟨y, by simp; omega, List.mem_map.2 ⟨xs, ?_, rfl⟩⟩)
    exact mem_ptExt fuel (y + 1) (s - (y + 1)) xs a3 (by omega) (by omega)
theorem pt_cases (P : List Int → Bool) (h : pts.all P = true) (l : List Int) (h1 : chainOK 6 l = true) (h2 : sumI l ≤ 6) (h3 : l ≠ []) : P l = true := by
  have := mem_ptExt 6 6 6 l h1 h2 (Nat.le_refl _)
  exact List.all_eq_true.1 h l (List.mem_filter.2 ⟨this, by simpa using h3⟩)
end Go.Proofs.Ytonlecigglbohaa.M
