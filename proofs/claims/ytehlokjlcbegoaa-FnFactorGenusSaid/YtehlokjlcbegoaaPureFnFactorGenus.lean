import Derived.Test.YtehlokjlcbegoaaLtdraw
import Derived.Test.YtehlokjlcbegoaaLfg
import Derived.Test.YtehlokjlcbegoaaQ4
import Derived.Test.YtehlokjlcbegoaaQ5
/- The genus of a list of types has no order: the law, for every code. -/
namespace Go.Proofs.Ytehlokjlcbegoaa.Pure
set_option linter.unusedVariables false
set_option linter.unusedSimpArgs false
open Go.RowKit Go.Proofs.Ytehlokjlcbegoaa.Q Go.Proofs.YtehlokjlcbegoaaW.PrintWords Go.Proofs.YtehlokjlcbegoaaW.PrintMore Go.Proofs.YtehlokjlcbegoaaW.PrintLast Go.Proofs.Ytehlokjlcbegoaa.M Go.Proofs.Ytehlokjlcbegoaa.B Go.Proofs.Ytehlokjlcbegoaa.Lpick Go.Proofs.Ytehlokjlcbegoaa.L1 Go.Proofs.Ytehlokjlcbegoaa.Lpv Go.Proofs.Ytehlokjlcbegoaa.Ltyp Go.Proofs.Ytehlokjlcbegoaa.Lfg Go.Proofs.Ytehlokjlcbegoaa.Ltdraw

def ones (n : Int) : List Int := List.replicate n.toNat 1
def swp (n : Int) : List Int := 2 :: List.replicate (n.toNat - 2) 1
def nchk (n : Int) : Bool := (match impl_PartsAll.f n with
  | some r => r.2 && decide (1 ≤ r.1.length ∧ r.1.length ≤ 1000) && (r.1.getD (r.1.length - 1) [] == ones n)
  | none => false) && (laws_swapType.f 30 n == some (swp n))
theorem n_all : [1, 2, 3, 4, 5, 6].all nchk = true := by decide +kernel
def lchk (x : List Int) : Bool := (laws_sumOf.f 30 x == some (sumI x)) && decide ((x.length : Int) ≤ sumI x)
theorem l_all : pts.all lchk = true := by decide +kernel
def uchk (n : Int) : Bool := pvB (ones n) && decide (sumI (ones n) = n ∧ ((ones n).length : Int) = n) && (decide (n < 2) || (pvB (swp n) && decide (sumI (swp n) = n ∧ ((swp n).length : Int) = n - 1)))
theorem u_all : [1, 2, 3, 4, 5, 6].all uchk = true := by decide +kernel
theorem six (P : Int → Bool) (h : [1, 2, 3, 4, 5, 6].all P = true) (n : Int) (h1 : 1 ≤ n ∧ n ≤ 6) : P n = true := by
  have : n = 1 ∨ n = 2 ∨ n = 3 ∨ n = 4 ∨ n = 5 ∨ n = 6 := by omega
  simp only [List.all_cons, List.all_nil, Bool.and_eq_true] at h
  rcases this with rfl | rfl | rfl | rfl | rfl | rfl
  · exact h.1
  · exact h.2.1
  · exact h.2.2.1
  · exact h.2.2.2.1
  · exact h.2.2.2.2.1
  · exact h.2.2.2.2.2.1
/-- the sum of n less each length -/
def tl (n : Int) : List (List Int) → Int
  | [] => 0
  | r :: rs => n - (r.length : Int) + tl n rs
theorem tl_app (n : Int) (a b : List (List Int)) : tl n (a ++ b) = tl n a + tl n b := by
  induction a with
  | nil => simp [tl]
  | cons r a ih => simp only [List.cons_append, tl, ih]; omega
theorem tl_rev (n : Int) (a : List (List Int)) : tl n a.reverse = tl n a := by
  induction a with
  | nil => rfl
  | cons r a ih => rw [List.reverse_cons, tl_app, ih]; simp only [tl]; omega
theorem tl_range (n : Int) (h0 : 0 ≤ n) (h6 : n ≤ 6) : ∀ (l : List (List Int)), (∀ x ∈ l, 0 ≤ n - (x.length : Int)) → 0 ≤ tl n l ∧ tl n l ≤ 6 * l.length
  | [], _ => by simp [tl]
  | r :: rs, h => by
    have := h r (by simp)
    have := tl_range n h0 h6 rs (fun x hx => h x (List.mem_cons_of_mem _ hx))
    simp only [tl, List.length_cons]; omega
theorem acc_tl (n : Int) (h0 : 0 ≤ n) (h6 : n ≤ 6) (l : List (List Int)) (hx : ∀ x ∈ l, 0 ≤ n - (x.length : Int)) : ∀ (d i : Nat) (x : Int), i + d = l.length → -1000 ≤ x → x + 6 * d ≤ 100000 → acc n l d i x = x + tl n (l.drop i) := by
  intro d
  induction d with
  | zero => intro i x h1 h2 h3; rw [List.drop_eq_nil_of_le (by omega)]; simp [acc, tl]
  | succ d ih =>
    intro i x h1 h2 h3
    have hm := hx _ (nth_mem l i (by omega))
    have w : wrap64 (wrap64 (x + n) - ((nth l i).length : Int)) = x + (n - ((nth l i).length : Int)) := by unfold wrap64; omega
    simp only [acc]
    rw [w, ih (i + 1) _ (by omega) (by omega) (by omega), drop_nth l i (by omega)]
    simp only [tl]; omega
/-- rows of one sum -/
def Ok (n : Int) (l : List (List Int)) : Prop := ∀ x ∈ l, pvB x = true ∧ sumI x = n
theorem Ok.ty {n : Int} {l : List (List Int)} (h : Ok n l) (h1 : 1 ≤ l.length ∧ l.length ≤ 6) : tyB l = true ∧ sumI (nth l 0) = n := by
  have h0 := (h _ (nth_mem l 0 (by omega))).2
  refine ⟨(tyB_iff l).2 ⟨h1, fun i hi => ?_⟩, h0⟩
  have := h _ (nth_mem l i hi)
  exact ⟨this.1, by rw [this.2, h0]⟩
theorem ok_of {l : List (List Int)} (h : tyB l = true) : (1 ≤ l.length ∧ l.length ≤ 6) ∧ Ok (sumI (nth l 0)) l := by
  obtain ⟨h1, h2⟩ := (tyB_iff l).1 h
  refine ⟨h1, fun x hx => ?_⟩
  obtain ⟨i, hi, rfl⟩ := mem_nth hx
  exact h2 i hi
theorem Ok.short {n : Int} {l : List (List Int)} (h : Ok n l) : ∀ x ∈ l, 0 ≤ n - (x.length : Int) := by
  intro x hx
  have hl := pv_cases _ l_all x (h x hx).1
  simp only [lchk, Bool.and_eq_true, decide_eq_true_eq] at hl
  have := (h x hx).2
  omega
theorem gen_is {n : Int} (hn : 1 ≤ n ∧ n ≤ 6) {l : List (List Int)} (h : Ok n l) (h1 : 1 ≤ l.length ∧ l.length ≤ 6) : gen l = half (2 - 2 * n + tl n l) := by
  obtain ⟨t1, t2⟩ := h.ty h1
  unfold gen
  rw [if_pos t1, t2, acc_tl n (by omega) (by omega) l h.short l.length 0 _ (by omega) (by unfold wrap64; omega) (by unfold wrap64; omega), List.drop_zero]
  congr 1
  unfold wrap64; omega
theorem half_two (x : Int) (h0 : 0 ≤ x) (h1 : x ≤ 1000) (hh : half x ≠ -1) : half (x + 2) = half x + 1 := by
  have e : Int.tmod x 2 = x % 2 := Int.tmod_eq_emod_of_nonneg h0
  have e2 : Int.tmod (x + 2) 2 = (x + 2) % 2 := Int.tmod_eq_emod_of_nonneg (by omega)
  have e3 : Int.tdiv x 2 = x / 2 := Int.tdiv_eq_ediv_of_nonneg h0
  have e4 : Int.tdiv (x + 2) 2 = (x + 2) / 2 := Int.tdiv_eq_ediv_of_nonneg (by omega)
  by_cases c : x % 2 = 0
  · rw [half_b (x + 2) (by omega) (by omega), half_b x (by omega) (by omega), e3, e4]
    unfold wrap64; omega
  · exact absurd (half_c x (by omega) (by omega)) hh
theorem half_le (x : Int) (h1 : x ≤ 1000) : half x ≤ 1000 := by
  by_cases c : x < 0
  · rw [half_a x c]; omega
  · by_cases d : Int.tmod x 2 = 0
    · rw [half_b x c d, Int.tdiv_eq_ediv_of_nonneg (by omega)]; unfold wrap64; omega
    · rw [half_c x c d]; omega
theorem getD_nth (l : List (List Int)) (i : Nat) : l.getD i [] = nth l i := rfl
theorem FnFactorGenus : laws_FnFactorGenus.Pure := by
  intro l h1 h2 h3
  refine Ev.rounds ?_
  unfold laws_FnFactorGenus.f
  by_cases hb : (l.length : Int) > 1048576
  · exact Ev.pos hb (Ev.now _)
  refine Ev.neg hb ?_
  have hd : EvP (fun k => spec_DrawFactorGenus.f k l) (fun x => x.length ≤ 12 ∧ Short x) := by
    obtain ⟨b, hb, hrb⟩ := open_rb l h3
    unfold spec_DrawFactorGenus.f
    refine EvP.bindc hb ?_
    exact EvP.bind (types_p b hrb _ 6 4 (by omega) (by omega) (by omega) (by omega) (by omega) (by omega)) (fun r h => EvP.now h)
  refine Ev.bindp hd ?_
  rintro ty ⟨hl, hs⟩
  have hx : ∀ l : List (List Int), Short l → ∀ x ∈ l, x.length ≤ 1048576 := fun l h x hx => by have := h x hx; omega
  refine Ev.bind (impl_gen ty (by omega) (hx ty hs)) (Ev.bind (spec_gen ty (by omega) (hx ty hs)) (Ev.pos rfl ?_))
  by_cases hneg : gen ty < 0
  · exact Ev.pos hneg (Ev.now _)
  refine Ev.neg hneg ?_
  have ht : tyB ty = true := by
    refine Classical.byContradiction fun h => hneg ?_
    unfold gen; rw [if_neg h]; omega
  obtain ⟨hr, hok⟩ := ok_of ht
  have hn := sum_range _ ((tyB_iff ty).1 ht |>.2 0 (by omega)).1
  generalize hN : sumI (nth ty 0) = n at hok hn
  unfold laws_FnFactorGenus.r
  refine Ev.pos (by omega) ?_
  have hrow := hok _ (nth_mem ty 0 (by omega))
  have hl0 := pv_cases _ l_all _ hrow.1
  simp only [lchk, Bool.and_eq_true, beq_iff_eq] at hl0
  rw [getD_nth]
  refine Ev.bind (Ev.same (Ev.of (fun k => laws_sumOf.mono _ k) hl0.1) hrow.2) ?_
  have hnc := six nchk n_all n hn
  simp only [nchk, Bool.and_eq_true, beq_iff_eq] at hnc
  obtain ⟨hnc, hsw⟩ := hnc
  split at hnc
  · rename_i r hr'
    simp only [Bool.and_eq_true, decide_eq_true_eq, beq_iff_eq] at hnc
    obtain ⟨⟨b1, b2⟩, b3⟩ := hnc
    refine Ev.bindc hr' (Ev.pos ⟨b2.1, b2.2, b1⟩ ?_)
    rw [b3]
    refine Ev.bind (Ev.of (fun k => laws_swapType.mono _ k) hsw) ?_
    have hu := six uchk u_all n hn
    simp only [uchk, Bool.and_eq_true, Bool.or_eq_true, decide_eq_true_eq] at hu
    obtain ⟨⟨u1, u2, u3⟩, u4⟩ := hu
    have rng := tl_range n (by omega) (by omega) ty hok.short
    have hso : (ones n).length ≤ 20 := by omega
    have hss : (swp n).length ≤ 20 := by simp [swp]; omega
    have s1 : Short ty.reverse := fun x hx => hs x (by simpa using hx)
    have s2 := hs.app (ones n) hso
    have s3 : Short (ty ++ [swp n, swp n]) := by
      rw [show ty ++ [swp n, swp n] = (ty ++ [swp n]) ++ [swp n] by simp]
      exact (hs.app _ hss).app _ hss
    refine Ev.bind (impl_gen ty.reverse (by simp; omega) (hx _ s1)) (Ev.bind (impl_gen (ty ++ [ones n]) (by simp; omega) (hx _ s2)) (Ev.bind (impl_gen (ty ++ [swp n, swp n]) (by simp; omega) (hx _ s3)) ?_))
    have g0 := gen_is hn hok hr
    have x0 : 0 ≤ 2 - 2 * n + tl n ty := by
      refine Classical.byContradiction fun h => hneg ?_
      rw [g0, half_a _ (by omega)]; omega
    refine Ev.pos ⟨?_, ?_, ?_, ?_⟩ (Ev.now _)
    · rw [g0, gen_is hn (l := ty.reverse) (fun x hx => hok x (by simpa using hx)) (by simpa using hr), tl_rev]
    · by_cases c : 6 < ty.length + 1
      · exact .inl c
      · right
        rw [g0, gen_is hn (l := ty ++ [ones n]) (fun x hx => by
          rcases List.mem_append.1 hx with hx | hx
          · exact hok x hx
          · rw [List.mem_singleton.1 hx]; exact ⟨u1, u2⟩) (by simp; omega), tl_app]
        simp only [tl]
        congr 1
        omega
    · by_cases c : 6 < ty.length + 2
      · exact .inl c
      · by_cases c2 : n < 2
        · exact .inr (.inl c2)
        · right; right
          obtain ⟨v1, v2, v3⟩ := u4.resolve_left c2
          rw [g0, gen_is hn (l := ty ++ [swp n, swp n]) (fun x hx => by
            rcases List.mem_append.1 hx with hx | hx
            · exact hok x hx
            · have : x = swp n := by simpa using hx
              rw [this]; exact ⟨v1, v2⟩) (by simp; omega), tl_app, ← half_two _ x0 (by omega) (by rw [← g0]; omega)]
          simp only [tl]
          congr 1
          omega
    · rw [g0]; exact half_le _ (by omega)
  · cases hnc
end Go.Proofs.Ytehlokjlcbegoaa.Pure
