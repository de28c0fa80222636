import Derived.Test.YtonlecigglbohaaLpick
import Derived.Test.YtonlecigglbohaaQ7
import Derived.Test.YtonlecigglbohaaQ8
/- Drawn permutations and drawn gluings: every draw comes to an end. -/
namespace Go.Proofs.Ytonlecigglbohaa.Ldraw
set_option linter.unusedVariables false
set_option linter.unusedSimpArgs false
open Go.RowKit Go.Proofs.YtonlecigglbohaaW.PrintWords Go.Proofs.YtonlecigglbohaaW.PrintMore Go.Proofs.Ytonlecigglbohaa.Q Go.Proofs.Ytonlecigglbohaa.M Go.Proofs.Ytonlecigglbohaa.B Go.Proofs.Ytonlecigglbohaa.Lpick

/-- every entry lies in 0 .. n-1 -/
def In (n : Nat) (x : List Int) : Prop := ∀ i, i < x.length → 0 ≤ nth x i ∧ nth x i < n
theorem In.nil (n : Nat) : In n [] := fun i h => by simp at h
theorem In.app {n : Nat} {x : List Int} (h : In n x) (v : Int) (h0 : 0 ≤ v) (h1 : v < n) : In n (x ++ [v]) := by
  intro i hi
  simp only [List.length_append, List.length_cons, List.length_nil] at hi
  by_cases e : i = x.length
  · subst e; rw [nth_app_last]; exact ⟨h0, h1⟩
  · rw [nth_app_lt _ _ _ (by omega)]; exact h i (by omega)
theorem In.set {n : Nat} {x : List Int} (h : In n x) (i : Nat) (v : Int) (h0 : 0 ≤ v) (h1 : v < n) : In n (x.set i v) := by
  intro j hj
  rw [List.length_set] at hj
  by_cases e : i = j
  · subst e; rw [nth_set_self _ _ _ hj]; exact ⟨h0, h1⟩
  · rw [nth_set_ne _ _ _ _ e]; exact h j hj
theorem In.take {n : Nat} {x : List Int} (h : In n x) (m : Nat) : In n (x.take m) := by
  intro j hj
  rw [List.length_take] at hj
  have : nth (x.take m) j = nth x j := by
    unfold nth; rw [List.getD_eq_getElem?_getD, List.getD_eq_getElem?_getD, List.getElem?_take_of_lt (by omega)]
  rw [this]; exact h j (by omega)

theorem perm_loop (b : List Int) (hb : RB b) (n : Nat) (hn : n ≤ 1000) : ∀ (d i : Nat) (acc : List Int) (p : Int), i + d = n → acc.length = i → In n acc → 0 ≤ p → p + d ≤ 100000 →
    EvP (fun k => spec_l91Perm.l0 k n acc i b p) (fun r => r.1.length = n ∧ In n r.1 ∧ p ≤ r.2 ∧ r.2 = p + d) := by
  intro d
  induction d with
  | zero =>
    intro i acc p h1 h2 h3 h4 h5
    refine EvP.of (r := (acc, p)) ⟨by show acc.length = n; omega, h3, Int.le_refl _, by simp⟩ (Ev.ret (fun k => ?_))
    simp only [spec_l91Perm.l0]
    rw [if_neg (by omega)]
  | succ d ih =>
    intro i acc p h1 h2 h3 h4 h5
    have hw := wrs i (by omega)
    refine EvP.step ?_ (fun k => by simp only [spec_l91Perm.l0]; rw [if_pos (by omega), hw])
    refine EvP.bind (pick_p b p ((i + 1 : Nat) : Int) hb h4 (by omega) (by omega) (by omega)) ?_
    rintro ⟨v, p'⟩ ⟨⟨v0, v1⟩, e⟩
    simp only at v0 v1 e
    subst e
    by_cases hv : v = (i : Int)
    · refine EvP.pos hv ?_
      refine EvP.pos (by omega) ?_
      refine EvP.mono (ih (i + 1) (acc ++ [(i : Int)]) (p + 1) (by omega) (by simp [h2]) (h3.app _ (by omega) (by omega)) (by omega) (by omega)) ?_
      rintro r ⟨a, b, c, d⟩; exact ⟨a, b, by omega, by omega⟩
    · refine EvP.neg hv ?_
      refine EvP.pos v0 ?_
      refine EvP.pos (by omega) ?_
      refine EvP.pos (by omega) ?_
      have hx := h3 v.toNat (by omega)
      refine EvP.bindc (a := acc ++ [rd acc v]) rfl ?_
      refine EvP.pos (by simp; omega) ?_
      refine EvP.mono (ih (i + 1) ((acc ++ [rd acc v]).set v.toNat i) (p + 1) (by omega) (by simp [h2]) ((h3.app _ (by rw [rd_eq]; omega) (by rw [rd_eq]; omega)).set _ _ (by omega) (by omega)) (by omega) (by omega)) ?_
      rintro r ⟨a, b, c, d⟩; exact ⟨a, b, by omega, by omega⟩
theorem perm_p (b : List Int) (hb : RB b) (p n : Int) (h0 : 0 ≤ n) (hn : n ≤ 1000) (h4 : 0 ≤ p) (h5 : p ≤ 90000) :
    EvP (fun k => spec_l91Perm.f k b p n) (fun r => (r.1.length : Int) = n ∧ In n.toNat r.1 ∧ p ≤ r.2 ∧ r.2 = p + n) := by
  obtain ⟨m, rfl⟩ := Int.eq_ofNat_of_zero_le h0
  refine EvP.mono (EvP.congr (perm_loop b hb m (by omega) m 0 [] p (by omega) rfl (In.nil _) h4 (by omega)) (fun k => by unfold spec_l91Perm.f; rfl)) ?_
  rintro r ⟨a, b, c, d⟩
  exact ⟨by omega, by simpa using b, c, d⟩

theorem gl_loop0 (b : List Int) (hb : RB b) (n : Nat) (hn : n ≤ 1000) : ∀ (d i : Nat) (q s : List Int) (p : Int), i + d = n → q.length = n → s.length ≤ i → In n s → 0 ≤ p → p + d ≤ 100000 →
    EvP (fun k => spec_l91Gluing.l0 k n q s i b p) (fun r => r.1.length = n ∧ p ≤ r.2 ∧ r.2 ≤ p + d) := by
  intro d
  induction d with
  | zero =>
    intro i q s p h1 h2 hs hi h4 h5
    refine EvP.of (r := (q, p)) ⟨by show q.length = n; omega, Int.le_refl _, by simp⟩ (Ev.ret (fun k => ?_))
    simp only [spec_l91Gluing.l0]
    rw [if_neg (by omega)]
  | succ d ih =>
    intro i q s p h1 h2 hs hi h4 h5
    have hw := wrs i (by omega)
    refine EvP.step ?_ (fun k => by simp only [spec_l91Gluing.l0]; rw [if_pos (by omega), hw])
    have push : ∀ p', p ≤ p' → p' ≤ p + 1 → EvP (fun k => if s.length < 17592186044416 then (spec_l91Gluing.l0 k n q (s ++ [(i : Int)]) ((i + 1 : Nat) : Int) b p') else none) (fun r => r.1.length = n ∧ p ≤ r.2 ∧ r.2 ≤ p + ((d + 1 : Nat) : Int)) := by
      intro p' g1 g2
      refine EvP.pos (by omega) ?_
      refine EvP.mono (ih (i + 1) q (s ++ [(i : Int)]) p' (by omega) h2 (by simp; omega) (hi.app _ (by omega) (by omega)) (by omega) (by omega)) ?_
      rintro r ⟨a, c, d⟩; exact ⟨a, by omega, by omega⟩
    by_cases hs0 : (s.length : Int) > 0
    · refine EvP.pos hs0 ?_
      have hw2 : wrap64 ((s.length : Int) - 1) = ((s.length - 1 : Nat) : Int) := by rw [wr _ (by omega) (by omega)]; omega
      have ht := hi (s.length - 1) (by omega)
      have pop : ∀ p', p ≤ p' → p' ≤ p + 1 → EvP (fun k => (if 0 ≤ (wrap64 ((s.length : Int) - 1)) then (if (wrap64 ((s.length : Int) - 1)) < (s.length : Int) then (if (wrap64 ((s.length : Int) - 1)) ≤ (s.length : Int) then (if 0 ≤ (i : Int) then (if (i : Int) < (q.length : Int) then (if 0 ≤ (rd s (wrap64 ((s.length : Int) - 1))) then (if (rd s (wrap64 ((s.length : Int) - 1))) < (q.length : Int) then (spec_l91Gluing.l0 k n ((q.set (i : Int).toNat (rd s (wrap64 ((s.length : Int) - 1)))).set ((rd s (wrap64 ((s.length : Int) - 1))) : Int).toNat i) (s.take ((wrap64 ((s.length : Int) - 1)) : Int).toNat) ((i + 1 : Nat) : Int) b p') else (none)) else (none)) else (none)) else (none)) else (none)) else (none)) else (none))) (fun r => r.1.length = n ∧ p ≤ r.2 ∧ r.2 ≤ p + ((d + 1 : Nat) : Int)) := by
        intro p' g1 g2
        rw [hw2]
        simp only [rdn]
        refine EvP.pos (by omega) ?_
        refine EvP.pos (by omega) ?_
        refine EvP.pos (by omega) ?_
        refine EvP.pos (by omega) ?_
        refine EvP.pos (by omega) ?_
        refine EvP.pos (by omega) ?_
        refine EvP.pos (by omega) ?_
        refine EvP.mono (ih (i + 1) _ _ p' (by omega) (by simpa using h2) (by simp; omega) (hi.take _) (by omega) (by omega)) ?_
        rintro r ⟨a, c, d⟩; exact ⟨a, by omega, by omega⟩
      refine EvP.bind (pick_p b p 2 hb h4 (by omega) (by omega) (by omega)) ?_
      rintro ⟨v, p'⟩ ⟨⟨v0, v1⟩, e⟩
      simp only at v0 v1 e
      subst e
      by_cases hv : v = 0
      · exact EvP.pos hv (pop (p + 1) (by omega) (by omega))
      · refine EvP.neg hv ?_
        by_cases hx : (s.length : Int) = wrap64 ((n : Int) - i)
        · exact EvP.pos hx (pop (p + 1) (by omega) (by omega))
        · exact EvP.neg hx (push (p + 1) (by omega) (by omega))
    · exact EvP.neg hs0 (push p (by omega) (by omega))
theorem gl_loop1 (b : List Int) (hb : RB b) (n : Nat) (hn : n ≤ 1000) (hn0 : 0 < n) (x : List Int) (hxl : x.length = n) (hx : In n x) : ∀ (d i : Nat) (q : List Int) (p : Int), i + d = n + 1 → q.length = n → 0 ≤ p → p ≤ 100000 →
    EvP (fun k => spec_l91Gluing.l1 k n q x i b p) (fun r => r.1.length = n ∧ p ≤ r.2 ∧ r.2 ≤ p + 2) := by
  have last : ∀ (i : Nat) (q : List Int) (p : Int), n ≤ i + 1 → i ≤ n + 1 → q.length = n → 0 ≤ p → p ≤ 100000 →
    EvP (fun k => spec_l91Gluing.l1 k n q x i b p) (fun r => r.1.length = n ∧ p ≤ r.2 ∧ r.2 ≤ p + 2) := by
    intro i q p hi hi2 h2 h4 h5
    have hw := wrs i (by omega)
    refine EvP.step ?_ (fun k => by simp only [spec_l91Gluing.l1]; rw [if_neg (by omega)])
    refine EvP.bind (pick_p b p 20 hb h4 (by omega) (by omega) (by omega)) ?_
    rintro ⟨v, p'⟩ ⟨⟨v0, v1⟩, e⟩
    simp only at v0 v1 e
    subst e
    by_cases hv : v = 0
    · refine EvP.pos hv ?_
      refine EvP.bindc rfl ?_
      refine EvP.bind (pick_p b (p + 1) 3 hb (by omega) (by omega) (by omega) (by omega)) ?_
      rintro ⟨v, p'⟩ ⟨⟨v0, v1⟩, e⟩
      simp only at v0 v1 e
      subst e
      refine EvP.pos v0 ?_
      refine EvP.pos (by show v < 3; omega) ?_
      refine EvP.pos (by omega) ?_
      exact EvP.now ⟨by simpa using h2, by show p ≤ p + 1 + 1; omega, by show p + 1 + 1 ≤ p + 2; omega⟩
    · refine EvP.neg hv ?_
      exact EvP.now ⟨h2, by show p ≤ p + 1; omega, by show p + 1 ≤ p + 2; omega⟩
  intro d
  induction d using Nat.strongRecOn with
  | ind d ih =>
    intro i q p h1 h2 h4 h5
    by_cases hi : n ≤ i + 1
    · exact last i q p hi (by omega) h2 h4 h5
    have hw := wrs i (by omega)
    have hw2 : wrap64 ((i : Int) + 2) = ((i + 2 : Nat) : Int) := by rw [wr _ (by omega) (by omega)]; omega
    have g1 := hx i (by omega)
    have g2 := hx (i + 1) (by omega)
    refine EvP.step ?_ (fun k => by simp only [spec_l91Gluing.l1]; rw [hw, hw2, if_pos (by omega), if_pos (by omega), if_pos (by omega), if_pos (by omega), if_pos (by omega)])
    simp only [rdn]
    refine EvP.pos (by omega) ?_
    refine EvP.pos (by omega) ?_
    refine EvP.pos (by omega) ?_
    refine EvP.pos (by omega) ?_
    exact ih (d - 2) (by omega) (i + 2) _ p (by omega) (by simpa using h2) h4 h5
theorem gl_p (b : List Int) (hb : RB b) (p a : Int) (h0 : 1 ≤ a) (ha : a ≤ 100) (h4 : 0 ≤ p) (h5 : p ≤ 10000) :
    EvP (fun k => spec_l91Gluing.f k b p a) (fun r => (2 ≤ r.1.length ∧ (r.1.length : Int) ≤ 2 * a) ∧ p ≤ r.2 ∧ r.2 ≤ p + 1000) := by
  unfold spec_l91Gluing.f
  refine EvP.bind (pick_p b p a hb h4 (by omega) (by omega) (by omega)) ?_
  rintro ⟨v, p'⟩ ⟨⟨v0, v1⟩, e⟩
  simp only at v0 v1 e
  subst e
  obtain ⟨m, rfl⟩ := Int.eq_ofNat_of_zero_le v0
  have e1 : wrap64 (2 * wrap64 (1 + (m : Int))) = ((2 * (1 + m) : Nat) : Int) := by
    rw [wr (1 + (m : Int)) (by omega) (by omega), wr _ (by omega) (by omega)]; omega
  simp only [e1]
  refine EvP.pos (by omega) ?_
  refine EvP.pos (by omega) ?_
  refine EvP.bindc rfl ?_
  refine EvP.bind (pick_p b (p + 1) 3 hb (by omega) (by omega) (by omega) (by omega)) ?_
  rintro ⟨v, p'⟩ ⟨⟨v0, v1⟩, e⟩
  simp only at v0 v1 e
  subst e
  by_cases hv : v = 0
  · refine EvP.pos hv ?_
    refine EvP.mono (gl_loop0 b hb (2 * (1 + m)) (by omega) (2 * (1 + m)) 0 _ [] _ (by omega) (by rw [List.length_replicate, Int.toNat_natCast]) (by simp) (In.nil _) (by omega) (by omega)) ?_
    rintro r ⟨a, c, d⟩; exact ⟨⟨by omega, by omega⟩, by omega, by omega⟩
  · refine EvP.neg hv ?_
    refine EvP.bind (perm_p b hb _ _ (by omega) (by omega) (by omega) (by omega)) ?_
    rintro ⟨x, p'⟩ ⟨a, c, d, e⟩
    simp only at a c d e
    subst e
    refine EvP.mono (gl_loop1 b hb (2 * (1 + m)) (by omega) (by omega) x (by omega) (by rw [Int.toNat_natCast] at c; exact c) _ 0 _ _ (Nat.zero_add _) (by rw [List.length_replicate, Int.toNat_natCast]) (by omega) (by omega)) ?_
    rintro r ⟨a, c, d⟩; exact ⟨⟨by omega, by omega⟩, by omega, by omega⟩
end Go.Proofs.Ytonlecigglbohaa.Ldraw
