import Derived.Test.YtonlecigglbohaaM6
/- A permutation of one cycle: every point is met once from every other; names along the cycle. -/
namespace Go.Proofs.Ytonlecigglbohaa.M
set_option linter.unusedVariables false
set_option linter.unusedSimpArgs false

theorem one_cycle (p : List Int) (hp : Into p) (hj : Inj p) (h1 : (cycles p).length = 1) (r : Nat) (hr : r < p.length) : ∀ a b, a < b → b < p.length → it p a r ≠ it p b r := by
  obtain ⟨ok, cnt⟩ := cycles_ok p hp hj
  have hs := cycles_sum p hp hj
  obtain ⟨c, hc⟩ := List.length_eq_one_iff.1 h1
  rw [hc] at ok cnt hs
  obtain ⟨x, hx, c0, c1, c2, c3⟩ := ok c (by simp)
  have hl : c.length = p.length := by simpa using hs
  have hm := cnt r hr
  have hmem : (r : Int) ∈ c := by
    have h0 : 0 < [c].flatten.count (r : Int) := by omega
    have := List.count_pos_iff.1 h0
    simpa using this
  obtain ⟨i, hi, e⟩ := mem_nth hmem
  have er : r = it p i x := by have := c1 i hi; omega
  intro a b hab hb e2
  have sw : ∀ a, it p a r = it p i (it p a x) := fun a => by rw [er, ← it_add, ← it_add, Nat.add_comm]
  rw [sw a, sw b] at e2
  exact c3 a b hab (by omega) (it_inj hp hj (it_lt hp hx a) (it_lt hp hx b) i e2)
/-- names along the way -/
def plF (p : List Int) : Nat → Nat → Nat → List Int → List Int
  | 0, _, _, acc => acc
  | u + 1, i, d, acc => plF p u (i + 1) (fn p d) (acc.set d i)
def pl (p : List Int) (r : Nat) : List Int := plF p p.length 0 r (List.replicate p.length 0)
def orb (p : List Int) : Nat → Nat → List Int
  | 0, _ => []
  | u + 1, d => (d : Int) :: orb p u (fn p d)
theorem orb_len (p : List Int) : ∀ u d, (orb p u d).length = u
  | 0, _ => rfl
  | u + 1, d => by simp [orb, orb_len p u]
theorem it_fn (p : List Int) (x : Nat) : ∀ k, it p k (fn p x) = it p (k + 1) x
  | 0 => rfl
  | k + 1 => by
    show fn p (it p k (fn p x)) = fn p (it p (k + 1) x)
    rw [it_fn p x k]
theorem orb_nth (p : List Int) : ∀ u d j, j < u → nth (orb p u d) j = (it p j d : Int)
  | 0, _, _, h => absurd h (Nat.not_lt_zero _)
  | u + 1, d, 0, _ => rfl
  | u + 1, d, j + 1, h => by
    show nth (orb p u (fn p d)) j = _
    rw [orb_nth p u _ j (by omega), it_fn]
theorem plF_ok (p : List Int) (hp : Into p) (r : Nat) (hr : r < p.length) (hd : ∀ a b, a < b → b < p.length → it p a r ≠ it p b r) : ∀ (u i : Nat) (acc : List Int), i + u = p.length → acc.length = p.length → (∀ j, j < i → nth acc (it p j r) = (j : Int)) →
    (plF p u i (it p i r) acc).length = p.length ∧ ∀ j, j < p.length → nth (plF p u i (it p i r) acc) (it p j r) = (j : Int) := by
  intro u
  induction u with
  | zero => intro i acc h1 h2 h3; exact ⟨h2, fun j hj => h3 j (by omega)⟩
  | succ u ih =>
    intro i acc h1 h2 h3
    have hi := it_lt hp hr i
    refine ih (i + 1) (acc.set (it p i r) i) (by omega) (by simp [h2]) (fun j hj => ?_)
    rw [nth_set]
    by_cases e : j = i
    · rw [e, if_pos ⟨rfl, by omega⟩]
    · rw [if_neg (fun h => hd j i (by omega) (by omega) h.1.symm)]
      exact h3 j (by omega)
theorem pl_ok (p : List Int) (hp : Into p) (r : Nat) (hr : r < p.length) (hd : ∀ a b, a < b → b < p.length → it p a r ≠ it p b r) : (pl p r).length = p.length ∧ ∀ j, j < p.length → nth (pl p r) (it p j r) = (j : Int) :=
  plF_ok p hp r hr hd p.length 0 _ (by omega) (by simp) (fun j h => by omega)
theorem all_met (p : List Int) (hp : Into p) (r : Nat) (hr : r < p.length) (hd : ∀ a b, a < b → b < p.length → it p a r ≠ it p b r) (d : Nat) (h : d < p.length) : ∃ j, j < p.length ∧ it p j r = d :=
  onto_of_inj p.length (fun j => it p j r) (fun j _ => it_lt hp hr j) (fun i j hi hj e => by
    rcases Nat.lt_trichotomy i j with g | g | g
    · exact absurd e (hd i j g hj)
    · exact g
    · exact absurd e.symm (hd j i g hi)) d h
theorem pl_into (p : List Int) (hp : Into p) (r : Nat) (hr : r < p.length) (hd : ∀ a b, a < b → b < p.length → it p a r ≠ it p b r) : Into (pl p r) := by
  obtain ⟨l, h⟩ := pl_ok p hp r hr hd
  intro d hd'
  obtain ⟨j, hj, rfl⟩ := all_met p hp r hr hd d (by omega)
  rw [h j hj]; omega
theorem pl_inj (p : List Int) (hp : Into p) (r : Nat) (hr : r < p.length) (hd : ∀ a b, a < b → b < p.length → it p a r ≠ it p b r) : Inj (pl p r) := by
  obtain ⟨l, h⟩ := pl_ok p hp r hr hd
  intro a b ha hb e
  obtain ⟨i, hi, rfl⟩ := all_met p hp r hr hd a (by omega)
  obtain ⟨j, hj, rfl⟩ := all_met p hp r hr hd b (by omega)
  rw [h i hi, h j hj] at e
  rw [show i = j by omega]
/-- the partners, told along the way -/
theorem ren_pl (p f : List Int) (hp : Into p) (r : Nat) (hr : r < p.length) (hd : ∀ a b, a < b → b < p.length → it p a r ≠ it p b r) (out : List Int) (hl : out.length = p.length) (h : ∀ j, j < p.length → nth out j = nth (pl p r) (fn f (it p j r))) : out = ren (pl p r) f := by
  obtain ⟨l, hn⟩ := pl_ok p hp r hr hd
  apply ext_nth (by rw [ren_len]; omega)
  intro j hj
  have e : fn (pl p r) (it p j r) = j := by unfold fn; rw [hn j (by omega)]; omega
  have hi := it_lt hp hr j
  have := ren_nth (pl p r) f (pl_into p hp r hr hd) (pl_inj p hp r hr hd) (it p j r) (by omega)
  rw [e] at this
  rw [this]
  exact h j (by omega)
end Go.Proofs.Ytonlecigglbohaa.M
