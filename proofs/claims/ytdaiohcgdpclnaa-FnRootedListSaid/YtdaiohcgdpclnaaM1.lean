/- Plain facts on lists and numbers: no program in sight. -/
namespace Go.Proofs.Ytdaiohcgdpclnaa.M

/-- an element, or the type's usual one past the end -/
def nth {α : Type} [Inhabited α] (l : List α) (i : Nat) : α := l.getD i default
section
variable {α : Type} [Inhabited α]
theorem nth_lt (l : List α) (i : Nat) (h : i < l.length) : nth l i = l[i] := by
  simp [nth, List.getD_eq_getElem?_getD, h]
theorem nth_ge (l : List α) (i : Nat) (h : l.length ≤ i) : nth l i = default := by
  simp [nth, List.getD_eq_getElem?_getD, List.getElem?_eq_none h]
theorem ext_nth {a b : List α} (hl : a.length = b.length) (h : ∀ j, j < a.length → nth a j = nth b j) : a = b := by
  apply List.ext_getElem hl
  intro i h1 h2
  have := h i h1
  rwa [nth_lt _ _ h1, nth_lt _ _ h2] at this
theorem nth_set (l : List α) (i j : Nat) (v : α) : nth (l.set i v) j = if i = j ∧ i < l.length then v else nth l j := by
  simp only [nth, List.getD_eq_getElem?_getD, List.getElem?_set]
  by_cases h : i = j
  · subst h
    by_cases h2 : i < l.length
    · simp [h2]
    · simp [h2]
  · simp [h]
theorem nth_set_ne (l : List α) (i j : Nat) (v : α) (h : i ≠ j) : nth (l.set i v) j = nth l j := by
  rw [nth_set, if_neg (by omega)]
theorem nth_set_self (l : List α) (i : Nat) (v : α) (h : i < l.length) : nth (l.set i v) i = v := by
  rw [nth_set, if_pos ⟨rfl, h⟩]
theorem nth_app (l m : List α) (j : Nat) : nth (l ++ m) j = if j < l.length then nth l j else nth m (j - l.length) := by
  simp only [nth, List.getD_eq_getElem?_getD]
  by_cases h : j < l.length
  · simp [h, List.getElem?_append_left h]
  · simp [h, List.getElem?_append_right (Nat.le_of_not_lt h)]
theorem nth_app_lt (l m : List α) (j : Nat) (h : j < l.length) : nth (l ++ m) j = nth l j := by rw [nth_app, if_pos h]
theorem nth_app_last (l : List α) (v : α) : nth (l ++ [v]) l.length = v := by
  rw [nth_app, if_neg (by omega), Nat.sub_self]; rfl
theorem nth_replicate (n j : Nat) (v : α) (h : j < n) : nth (List.replicate n v) j = v := by
  rw [nth_lt _ _ (by simpa using h)]; simp
theorem nth_map {β : Type} [Inhabited β] (f : α → β) (l : List α) (j : Nat) (h : j < l.length) : nth (l.map f) j = f (nth l j) := by
  rw [nth_lt _ _ (by simpa using h), nth_lt _ _ h]; simp
theorem nth_mem (l : List α) (i : Nat) (h : i < l.length) : nth l i ∈ l := by
  rw [nth_lt _ _ h]; exact List.getElem_mem h
theorem mem_nth {l : List α} {x : α} (h : x ∈ l) : ∃ i, i < l.length ∧ nth l i = x := by
  obtain ⟨i, hi, e⟩ := List.getElem_of_mem h
  exact ⟨i, hi, by rw [nth_lt _ _ hi, e]⟩
theorem take_succ_nth (l : List α) (i : Nat) (h : i < l.length) : l.take (i + 1) = l.take i ++ [nth l i] := by
  rw [List.take_succ_eq_append_getElem h, nth_lt _ _ h]
theorem drop_nth (l : List α) (i : Nat) (h : i < l.length) : l.drop i = nth l i :: l.drop (i + 1) := by
  rw [List.drop_eq_getElem_cons h, nth_lt _ _ h]
theorem nth_take (l : List α) (k j : Nat) (h : j < k) : nth (l.take k) j = nth l j := by
  simp only [nth, List.getD_eq_getElem?_getD, List.getElem?_take]
  rw [if_pos h]
theorem nth_cons_zero (x : α) (l : List α) : nth (x :: l) 0 = x := rfl
theorem nth_cons_succ (x : α) (l : List α) (j : Nat) : nth (x :: l) (j + 1) = nth l j := rfl
end
theorem nth_range (n j : Nat) (h : j < n) : nth (List.range n) j = j := by
  rw [nth_lt _ _ (by simpa using h)]; simp

/-- do all of d numbers from i on pass -/
def allFrom (f : Nat → Bool) : Nat → Nat → Bool
  | _, 0 => true
  | i, d + 1 => f i && allFrom f (i + 1) d
theorem allFrom_iff (f : Nat → Bool) : ∀ d i, allFrom f i d = true ↔ ∀ j, i ≤ j → j < i + d → f j = true := by
  intro d
  induction d with
  | zero => intro i; simp [allFrom]; intro j h1 h2; omega
  | succ d ih =>
    intro i
    simp only [allFrom, Bool.and_eq_true, ih]
    constructor
    · rintro ⟨h1, h2⟩ j h3 h4
      by_cases e : j = i
      · rw [e]; exact h1
      · exact h2 j (by omega) (by omega)
    · intro h
      exact ⟨h i (by omega) (by omega), fun j h1 h2 => h j (by omega) (by omega)⟩
theorem allFrom_congr (f g : Nat → Bool) : ∀ d i, (∀ j, i ≤ j → j < i + d → f j = g j) → allFrom f i d = allFrom g i d := by
  intro d
  induction d with
  | zero => intro i _; rfl
  | succ d ih =>
    intro i h
    simp only [allFrom]
    rw [h i (by omega) (by omega), ih (i + 1) (fun j h1 h2 => h j (by omega) (by omega))]

/-! ### functions that go into 0 .. n-1 and one to one -/
theorem perm_range (n : Nat) (f : Nat → Nat) (hb : ∀ i, i < n → f i < n) (hi : ∀ i j, i < n → j < n → f i = f j → i = j) :
    ((List.range n).map f).Perm (List.range n) := by
  have hn : ((List.range n).map f).Nodup := by
    rw [List.nodup_iff_pairwise_ne, List.pairwise_map]
    refine List.Pairwise.imp_of_mem ?_ (List.nodup_iff_pairwise_ne.1 (List.nodup_range (n := n)))
    intro a b ha hb' hab h
    exact hab (hi a b (by simpa using ha) (by simpa using hb') h)
  refine (List.perm_ext_iff_of_nodup hn List.nodup_range).2 ?_
  have hs : (List.range n).map f ⊆ List.range n := by
    intro x hx
    obtain ⟨i, h1, rfl⟩ := List.mem_map.1 hx
    simpa using hb i (by simpa using h1)
  intro a
  constructor
  · exact fun h => hs h
  · intro ha
    refine Classical.byContradiction fun hna => ?_
    have : (a :: (List.range n).map f).length ≤ (List.range n).length := by
      refine List.Nodup.length_le_of_subset (List.nodup_cons.2 ⟨hna, hn⟩) ?_
      intro x hx
      rcases List.mem_cons.1 hx with rfl | hx
      · exact ha
      · exact hs hx
    simp at this
    omega
/-- one to one is onto -/
theorem onto_of_inj (n : Nat) (f : Nat → Nat) (hb : ∀ i, i < n → f i < n) (hi : ∀ i j, i < n → j < n → f i = f j → i = j) :
    ∀ j, j < n → ∃ i, i < n ∧ f i = j := by
  intro j hj
  have := (perm_range n f hb hi).mem_iff (a := j)
  obtain ⟨i, h1, h2⟩ := List.mem_map.1 (this.2 (by simpa using hj))
  exact ⟨i, by simpa using h1, h2⟩
/-- partners: an even number of them -/
theorem even_of_invol (n : Nat) (f : Nat → Nat) (hb : ∀ i, i < n → f i < n) (h2 : ∀ i, i < n → f (f i) = i) (h3 : ∀ i, i < n → f i ≠ i) : n % 2 = 0 := by
  have hp := perm_range n f hb (fun i j hi hj h => by have := h2 i hi; rw [h, h2 j hj] at this; exact this.symm)
  have e1 : (List.range n).countP (fun i => decide (i < f i)) = (List.range n).countP (fun i => decide (f i < i)) := by
    have := hp.countP_eq (fun i => decide (f i < i))
    rw [List.countP_map] at this
    rw [← this]
    apply List.countP_congr
    intro i hi
    have hi : i < n := by simpa using hi
    simp [h2 i hi]
  have e2 := List.length_eq_countP_add_countP (fun i => decide (i < f i)) (l := List.range n)
  have e3 : (List.range n).countP (fun i => decide ¬ (decide (i < f i)) = true) = (List.range n).countP (fun i => decide (f i < i)) := by
    apply List.countP_congr
    intro i hi
    have := h3 i (by simpa using hi)
    simp; omega
  rw [e3, ← e1] at e2
  simp at e2
  omega
end Go.Proofs.Ytdaiohcgdpclnaa.M
