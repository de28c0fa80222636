import Derived.Test.YtonlecigglbohaaM4
/- Labels that go down along two permutations: all are nought in the end just where the points hang together. -/
namespace Go.Proofs.Ytonlecigglbohaa.M
set_option linter.unusedVariables false
set_option linter.unusedSimpArgs false
set_option linter.unusedSectionVars false

/-- a set that parts no point from where it goes -/
def Whole (a b : List Int) (S : Nat → Bool) : Prop := S 0 = true ∧ ∀ i, i < a.length → S (fn a i) = S i ∧ S (fn b i) = S i
/-- the points hang together -/
def Con (a b : List Int) : Prop := ∀ S, Whole a b S → ∀ i, i < a.length → S i = true
structure Lab (a b out : List Int) : Prop where
  len : out.length = a.length
  nn : ∀ i, i < a.length → 0 ≤ nth out i ∧ nth out i ≤ i
  tie : ∀ S, Whole a b S → ∀ i, i < a.length → nth out i = 0 → S i = true
theorem Lab.con {a b out : List Int} (h : Lab a b out) (hz : ∀ i, i < a.length → nth out i = 0) : Con a b := fun S hS i hi => h.tie S hS i hi (hz i hi)
/-- the labels at the begin -/
theorem Lab.start (a b out : List Int) (hl : out.length = a.length) (h : ∀ i, i < a.length → nth out i = i) : Lab a b out :=
  ⟨hl, fun i hi => by rw [h i hi]; omega, fun S hS i hi e => by rw [h i hi] at e; have : i = 0 := by omega
                                                                subst this; exact hS.1⟩
theorem Lab.low {a b out : List Int} (h : Lab a b out) (i : Nat) (hi : i < a.length) (x : Int) (h0 : 0 ≤ x) (h1 : x ≤ nth out i) (hx : x = 0 → ∀ S, Whole a b S → S i = true) : Lab a b (out.set i x) := by
  refine ⟨by simpa using h.len, fun j hj => ?_, fun S hS j hj e => ?_⟩
  · rw [nth_set]
    split
    · rename_i g; have := h.nn i hi; omega
    · exact h.nn j hj
  · rw [nth_set] at e
    split at e
    · rename_i g; rw [← g.1]; exact hx e S hS
    · exact h.tie S hS j hj e
theorem set_le (out : List Int) (i : Nat) (x : Int) (h : x ≤ nth out i) (j : Nat) : nth (out.set i x) j ≤ nth out j := by
  rw [nth_set]
  split
  · rename_i g; rw [← g.1]; exact h
  · exact Int.le_refl _
/-- how many are nought -/
def zs (n : Nat) (out : List Int) : Nat := (List.range n).countP fun j => decide (nth out j = 0)
theorem countP_lt {α : Type} (p q : α → Bool) : ∀ (l : List α), (∀ x ∈ l, p x = true → q x = true) → (∃ x ∈ l, p x = false ∧ q x = true) → l.countP p < l.countP q
  | [], _, h => by obtain ⟨x, hx, _⟩ := h; simp at hx
  | y :: l, h, ⟨x, hx, h1, h2⟩ => by
    have hm : l.countP p ≤ l.countP q := List.countP_mono_left (fun z hz => h z (List.mem_cons_of_mem _ hz))
    rw [List.countP_cons, List.countP_cons]
    by_cases e : x = y
    · subst e; rw [h1, h2]; simp; omega
    · have hx' : x ∈ l := (List.mem_cons.1 hx).resolve_left e
      have := countP_lt p q l (fun z hz => h z (List.mem_cons_of_mem _ hz)) ⟨x, hx', h1, h2⟩
      have hy := h y (by simp)
      cases hp : p y with
      | false => simp; split <;> omega
      | true => rw [hy hp]; simp; omega
theorem all_nought (n : Nat) (out : List Int) (h : n ≤ zs n out) : ∀ i, i < n → nth out i = 0 := by
  intro i hi
  have e : (List.range n).countP (fun j => decide (nth out j = 0)) = (List.range n).length := by
    have := List.countP_le_length (p := fun j => decide (nth out j = 0)) (l := List.range n)
    unfold zs at h
    simp at this ⊢
    omega
  have := (List.countP_eq_length.1 e) i (by simpa using hi)
  simpa using this

/-! ### the reference: so many rounds -/
def low3 (a b out : List Int) (i : Nat) : Int := min (nth out i) (min (nth out (fn a i)) (nth out (fn b i)))
def stepS (a b out : List Int) (i : Nat) : List Int := ((out.set i (low3 a b out i)).set (fn a i) (low3 a b out i)).set (fn b i) (low3 a b out i)
def roundS (a b : List Int) : Nat → Nat → List Int → List Int
  | 0, _, out => out
  | d + 1, i, out => roundS a b d (i + 1) (stepS a b out i)
def roundsS (a b : List Int) : Nat → List Int → List Int
  | 0, out => out
  | r + 1, out => roundsS a b r (roundS a b a.length 0 out)
section
variable {a b : List Int} (ha : Into a) (hb : Into b) (hl : b.length = a.length)
include ha hb hl
theorem stepS_lab {out : List Int} (h : Lab a b out) (i : Nat) (hi : i < a.length) :
    Lab a b (stepS a b out i) ∧ (∀ j, nth (stepS a b out i) j ≤ nth out j) ∧ nth (stepS a b out i) i = low3 a b out i ∧ nth (stepS a b out i) (fn a i) = low3 a b out i ∧ nth (stepS a b out i) (fn b i) = low3 a b out i := by
  have l1 := fn_lt ha hi
  have l2 := fn_lt hb (i := i) (by omega)
  have n0 := h.nn i hi
  have n1 := h.nn _ l1
  have n2 := h.nn (fn b i) (by omega)
  have hlen := h.len
  generalize hx : low3 a b out i = x
  have hx' : x = min (nth out i) (min (nth out (fn a i)) (nth out (fn b i))) := hx.symm
  have x0 : 0 ≤ x := by omega
  have x1 : x ≤ nth out i := by omega
  have x2 : x ≤ nth out (fn a i) := by omega
  have x3 : x ≤ nth out (fn b i) := by omega
  have ties : x = 0 → ∀ S, Whole a b S → S i = true ∧ S (fn a i) = true ∧ S (fn b i) = true := by
    intro e S hS
    obtain ⟨t1, t2⟩ := hS.2 i hi
    have hz : nth out i = 0 ∨ nth out (fn a i) = 0 ∨ nth out (fn b i) = 0 := by omega
    rcases hz with h1 | h1 | h1
    · have := h.tie S hS i hi h1; rw [t1, t2]; exact ⟨this, this, this⟩
    · have := h.tie S hS _ l1 h1; rw [t1] at this; rw [t1, t2]; exact ⟨this, this, this⟩
    · have := h.tie S hS _ (by omega) h1; rw [t2] at this; rw [t1, t2]; exact ⟨this, this, this⟩
  have a1 : nth (out.set i x) (fn a i) = if i = fn a i ∧ i < out.length then x else nth out (fn a i) := nth_set _ _ _ _
  have a2 : x ≤ nth (out.set i x) (fn a i) := by rw [a1]; split <;> omega
  have a3 : nth ((out.set i x).set (fn a i) x) (fn b i) = if fn a i = fn b i ∧ fn a i < (out.set i x).length then x else nth (out.set i x) (fn b i) := nth_set _ _ _ _
  have a4 : nth (out.set i x) (fn b i) = if i = fn b i ∧ i < out.length then x else nth out (fn b i) := nth_set _ _ _ _
  have a5 : x ≤ nth ((out.set i x).set (fn a i) x) (fn b i) := by
    rw [a3]; split
    · exact Int.le_refl _
    · rw [a4]; split <;> omega
  unfold stepS
  rw [hx]
  refine ⟨((h.low i hi x x0 x1 (fun e S hS => (ties e S hS).1)).low (fn a i) l1 x x0 a2 (fun e S hS => (ties e S hS).2.1)).low (fn b i) (by omega) x x0 a5 (fun e S hS => (ties e S hS).2.2), fun j => ?_, ?_, ?_, ?_⟩
  · exact Int.le_trans (set_le _ _ _ a5 j) (Int.le_trans (set_le _ _ _ a2 j) (set_le _ _ _ x1 j))
  · rw [nth_set]; split
    · rfl
    · rw [nth_set]; split
      · rfl
      · rw [nth_set_self _ _ _ (by omega)]
  · rw [nth_set]; split
    · rfl
    · rw [nth_set_self _ _ _ (by simp; omega)]
  · rw [nth_set_self _ _ _ (by simp; omega)]
theorem roundS_lab : ∀ (d i : Nat) (out : List Int), Lab a b out → i + d = a.length →
    Lab a b (roundS a b d i out) ∧ (∀ j, nth (roundS a b d i out) j ≤ nth out j) ∧ ∀ k, i ≤ k → k < a.length →
      nth (roundS a b d i out) k ≤ low3 a b out k ∧ nth (roundS a b d i out) (fn a k) ≤ low3 a b out k ∧ nth (roundS a b d i out) (fn b k) ≤ low3 a b out k := by
  intro d
  induction d with
  | zero => intro i out h e; exact ⟨h, fun _ => Int.le_refl _, fun k h1 h2 => by omega⟩
  | succ d ih =>
    intro i out h e
    obtain ⟨s1, s2, s3, s4, s5⟩ := stepS_lab ha hb hl h i (by omega)
    obtain ⟨r1, r2, r3⟩ := ih (i + 1) _ s1 (by omega)
    refine ⟨r1, fun j => Int.le_trans (r2 j) (s2 j), fun k h1 h2 => ?_⟩
    show nth (roundS a b d (i + 1) (stepS a b out i)) k ≤ _ ∧ nth (roundS a b d (i + 1) (stepS a b out i)) (fn a k) ≤ _ ∧ nth (roundS a b d (i + 1) (stepS a b out i)) (fn b k) ≤ _
    by_cases g : k = i
    · subst g
      have q1 := r2 k
      have q2 := r2 (fn a k)
      have q3 := r2 (fn b k)
      omega
    · obtain ⟨t1, t2, t3⟩ := r3 k (by omega) h2
      have q1 := s2 k
      have q2 := s2 (fn a k)
      have q3 := s2 (fn b k)
      have m : low3 a b (stepS a b out i) k ≤ low3 a b out k := by unfold low3; omega
      omega
theorem roundsS_lab : ∀ (r : Nat) (out : List Int), Lab a b out → Lab a b (roundsS a b r out) ∧ ∀ j, nth (roundsS a b r out) j ≤ nth out j := by
  intro r
  induction r with
  | zero => intro out h; exact ⟨h, fun _ => Int.le_refl _⟩
  | succ r ih =>
    intro out h
    obtain ⟨r1, r2, _⟩ := roundS_lab ha hb hl a.length 0 out h (by omega)
    obtain ⟨q1, q2⟩ := ih _ r1
    exact ⟨q1, fun j => Int.le_trans (q2 j) (r2 j)⟩
theorem roundsS_all (hc : Con a b) : ∀ (r : Nat) (out : List Int), Lab a b out → nth out 0 = 0 → a.length ≤ zs a.length out + r → ∀ i, i < a.length → nth (roundsS a b r out) i = 0 := by
  intro r
  induction r with
  | zero => intro out h h0 hz; exact all_nought a.length out (by omega)
  | succ r ih =>
    intro out h h0 hz
    obtain ⟨r1, r2, r3⟩ := roundS_lab ha hb hl a.length 0 out h (by omega)
    have keep : ∀ j, j < a.length → nth out j = 0 → nth (roundS a b a.length 0 out) j = 0 := fun j hj e => by
      have := r2 j; have := (r1.nn j hj).1; omega
    by_cases hall : ∀ i, i < a.length → nth out i = 0
    · intro i hi
      obtain ⟨q1, q2⟩ := roundsS_lab ha hb hl (r + 1) out h
      have := q2 i; have := (q1.nn i hi).1; have := hall i hi; omega
    · by_cases hn : a.length = 0
      · intro i hi; omega
      refine ih _ r1 (keep 0 (by omega) h0) ?_
      have hlt : zs a.length out < zs a.length (roundS a b a.length 0 out) := by
        apply countP_lt
        · intro x hx e
          simp only [decide_eq_true_eq] at e ⊢
          exact keep x (by simpa using hx) e
        · refine Classical.byContradiction fun hno => hall fun i hi => ?_
          have := hc (fun j => decide (nth out j = 0)) ⟨by simpa using h0, fun k hk => ?_⟩ i hi
          · simpa using this
          · have nk := h.nn k hk
            have la := fn_lt ha hk
            have lb := fn_lt hb (i := k) (by omega)
            have na := h.nn _ la
            have nb := h.nn (fn b k) (by omega)
            obtain ⟨t1, t2, t3⟩ := r3 k (by omega) hk
            have p1 := (r1.nn k hk).1
            have p2 := (r1.nn _ la).1
            have p3 := (r1.nn (fn b k) (by omega)).1
            have no : ∀ x, x < a.length → nth (roundS a b a.length 0 out) x = 0 → nth out x = 0 := by
              intro x hx e
              refine Classical.byContradiction fun g => hno ⟨x, by simpa using hx, by simpa using g, by simpa using e⟩
            have hz3 : low3 a b out k = 0 → nth out k = 0 ∧ nth out (fn a k) = 0 ∧ nth out (fn b k) = 0 := fun e =>
              ⟨no k hk (by omega), no _ la (by omega), no _ (by omega) (by omega)⟩
            unfold low3 at hz3
            by_cases g : nth out k = 0 ∨ nth out (fn a k) = 0 ∨ nth out (fn b k) = 0
            · obtain ⟨e1, e2, e3⟩ := hz3 (by omega)
              simp [e1, e2, e3]
            · have e1 : ¬ nth out k = 0 := fun e => g (.inl e)
              have e2 : ¬ nth out (fn a k) = 0 := fun e => g (.inr (.inl e))
              have e3 : ¬ nth out (fn b k) = 0 := fun e => g (.inr (.inr e))
              simp [e1, e2, e3]
      omega
theorem roundsS_con (out : List Int) (hn : 0 < a.length) (h : Lab a b out) (h0 : nth out 0 = 0) : (∀ i, i < a.length → nth (roundsS a b a.length out) i = 0) ↔ Con a b := by
  constructor
  · intro hz; exact (roundsS_lab ha hb hl a.length out h).1.con hz
  · intro hc; exact roundsS_all ha hb hl hc a.length out h h0 (by omega)
end

/-! ### the program: until nothing changes -/
def tot : List Int → Int
  | [] => 0
  | x :: xs => x + tot xs
theorem tot_set : ∀ (l : List Int) (i : Nat) (x : Int), i < l.length → tot (l.set i x) = tot l - nth l i + x
  | [], i, x, h => by simp at h
  | y :: l, 0, x, h => by show x + tot l = y + tot l - y + x; omega
  | y :: l, i + 1, x, h => by
    show y + tot (l.set i x) = y + tot l - nth l i + x
    rw [tot_set l i x (by simpa using h)]; omega
theorem tot_nn : ∀ (l : List Int), (∀ i, i < l.length → 0 ≤ nth l i) → 0 ≤ tot l
  | [], _ => Int.le_refl _
  | y :: l, h => by
    have h1 := h 0 (by simp)
    have h2 := tot_nn l (fun i hi => h (i + 1) (by simp; omega))
    show 0 ≤ y + tot l
    have : nth (y :: l) 0 = y := rfl
    omega
def low2 (p out : List Int) (i : Nat) : Int := min (nth out i) (nth out (fn p i))
def stepI (p out : List Int) (i : Nat) : List Int := (out.set i (low2 p out i)).set (fn p i) (low2 p out i)
section
variable {a b : List Int} {p : List Int} (hp : Into p) (hl : p.length = a.length) (hpab : p = a ∨ p = b)
include hp hl hpab
theorem stepI_lab {out : List Int} (h : Lab a b out) (i : Nat) (hi : i < a.length) :
    Lab a b (stepI p out i) ∧ tot (stepI p out i) ≤ tot out ∧ (nth out i ≠ low2 p out i ∨ nth out (fn p i) ≠ low2 p out i → tot (stepI p out i) < tot out) := by
  have l1 := fn_lt hp (i := i) (by omega)
  have n0 := h.nn i hi
  have n1 := h.nn (fn p i) (by omega)
  have hlen := h.len
  generalize hx : low2 p out i = x
  have hx' : x = min (nth out i) (nth out (fn p i)) := hx.symm
  have x0 : 0 ≤ x := by omega
  have x1 : x ≤ nth out i := by omega
  have x2 : x ≤ nth out (fn p i) := by omega
  have ties : x = 0 → ∀ S, Whole a b S → S i = true ∧ S (fn p i) = true := by
    intro e S hS
    have t1 : S (fn p i) = S i := by
      rcases hpab with rfl | rfl
      · exact (hS.2 i hi).1
      · exact (hS.2 i hi).2
    have hz : nth out i = 0 ∨ nth out (fn p i) = 0 := by omega
    rcases hz with h1 | h1
    · have := h.tie S hS i hi h1; rw [t1]; exact ⟨this, this⟩
    · have := h.tie S hS _ (by omega) h1; rw [t1] at this; rw [t1]; exact ⟨this, this⟩
  have a1 : nth (out.set i x) (fn p i) = if i = fn p i ∧ i < out.length then x else nth out (fn p i) := nth_set _ _ _ _
  have a2 : x ≤ nth (out.set i x) (fn p i) := by rw [a1]; split <;> omega
  unfold stepI
  rw [hx]
  refine ⟨(h.low i hi x x0 x1 (fun e S hS => (ties e S hS).1)).low (fn p i) (by omega) x x0 a2 (fun e S hS => (ties e S hS).2), ?_, ?_⟩
  · rw [tot_set _ _ _ (by simp; omega), tot_set _ _ _ (by omega)]; omega
  · intro hne
    rw [tot_set _ _ _ (by simp; omega), tot_set _ _ _ (by omega), a1]
    split
    · rename_i g
      rw [← g.1] at hne
      omega
    · omega
theorem stepI_same {out : List Int} (h : Lab a b out) (i : Nat) (hi : i < a.length) (h1 : nth out i = low2 p out i) (h2 : nth out (fn p i) = low2 p out i) : stepI p out i = out := by
  have l1 := fn_lt hp (i := i) (by omega)
  have hlen := h.len
  unfold stepI
  apply ext_nth (by simp)
  intro j hj
  rw [nth_set]; split
  · rename_i g; rw [← g.1, h2]
  · rw [nth_set]; split
    · rename_i g; rw [← g.1, h1]
    · rfl
end
/-- nothing changes any more -/
theorem con_of_still {a b out : List Int} (h : Lab a b out) (hn : 0 < a.length) (h1 : ∀ i, i < a.length → nth out (fn a i) = nth out i) (h2 : ∀ i, i < a.length → nth out (fn b i) = nth out i) :
    (∀ i, i < a.length → nth out i = 0) ↔ Con a b := by
  constructor
  · exact h.con
  · intro hc i hi
    have h0 := h.nn 0 hn
    have := hc (fun j => decide (nth out j = 0)) ⟨by simp; omega, fun k hk => by simp [h1 k hk, h2 k hk]⟩ i hi
    simpa using this
end Go.Proofs.Ytonlecigglbohaa.M
