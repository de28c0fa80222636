import Derived.Test.YtkfeildndcdbaaaB1
import Derived.Test.YtkfeildndcdbaaaQ1
import Derived.Test.YtkfeildndcdbaaaQ4
/- The count of gluings: the program answers as the reference, for all arguments. -/
namespace Go.Proofs.Ytkfeildndcdbaaa.Pure
set_option linter.unusedVariables false
set_option linter.unusedSimpArgs false
open Go.RowKit Go.Proofs.Ytkfeildndcdbaaa.Q Go.Proofs.YtkfeildndcdbaaaW.PrintWords Go.Proofs.YtkfeildndcdbaaaW.PrintLast Go.Proofs.Ytkfeildndcdbaaa.M Go.Proofs.Ytkfeildndcdbaaa.B

def gen1 (x : List Int) : Int := (impl_gluedGenus.f 2000 x).getD 0
/-- how many of them have the genus, from m on -/
def fold (g : Int) : List (List Int) → Int → Int
  | [], m => m
  | x :: xs, m => fold g xs (if gen1 x = g then wrap64 (m + 1) else m)
def chk (n : Int) : Bool := match impl_GluingCount.gen 12 (List.replicate (2 * n).toNat (-1)) with
  | some L => decide (L.length ≤ 1000000) && L.all (fun x => decide (x.length ≤ 40) && (impl_gluedGenus.f 2000 x).isSome) && L.all (fun x => spec_GluingGenus.f 500 x == some (gen1 x)) && (match spec_l4Free.f 60 n with
    | some fr => spec_l4All.f 500 fr == some L
    | none => false)
  | none => false
theorem chk_all : (List.range 4).all (fun i => chk (1 + (i : Int))) = true := by decide +kernel
theorem cnt_fold (g : Int) : ∀ (L : List (List Int)) (m : Int), (∀ x ∈ L, (impl_gluedGenus.f 2000 x).isSome = true) →
    L.foldl (fun m x => m.bind fun m => (impl_gluedGenus.f 2000 x).bind fun t => some (if t = g then wrap64 (m + 1) else m)) (some m) = some (fold g L m) := by
  intro L
  induction L with
  | nil => intro m _; rfl
  | cons x xs ih =>
    intro m h
    obtain ⟨t, ht⟩ := Option.isSome_iff_exists.mp (h x (by simp))
    rw [List.foldl_cons]
    simp only [Option.bind_some, ht, fold]
    rw [ih _ (fun y hy => h y (by simp [hy]))]
    simp [gen1, ht]
theorem spec_fold (g : Int) (L : List (List Int)) (hL : L.length ≤ 1000000) (h : ∀ x ∈ L, Ev (fun k => spec_GluingGenus.f k x) (gen1 x)) : ∀ (d i : Nat) (m : Int), i + d = L.length → Ev (fun k => spec_GluingCount.l0 k g m L i) (fold g (L.drop i) m) := by
  intro d
  induction d with
  | zero =>
    intro i m e
    refine Ev.ret (fun k => ?_)
    simp only [spec_GluingCount.l0]
    rw [if_neg (by omega), List.drop_of_length_le (by omega)]; rfl
  | succ d ih =>
    intro i m e
    have hx : rd_L1 L (i : Int) = nth L i := by
      show L.getD (i : Int).toNat _ = _
      rw [Int.toNat_natCast]; rfl
    have hg := h (nth L i) (nth_mem L i (by omega))
    rw [drop_nth L i (by omega)]
    simp only [fold]
    refine Ev.step (f := fun k => (spec_GluingGenus.f k (nth L i)).bind fun t => if t = g then spec_GluingCount.l0 k g (wrap64 (m + 1)) L ((i + 1 : Nat) : Int) else spec_GluingCount.l0 k g m L ((i + 1 : Nat) : Int)) (fun k => ?_) ?_
    · simp only [spec_GluingCount.l0]
      rw [if_pos (by omega), if_pos (by omega), hx, wrs i (by omega)]
    · refine Ev.bind hg ?_
      by_cases c : gen1 (nth L i) = g
      · rw [if_pos c]; exact Ev.pos c (ih (i + 1) _ (by omega))
      · rw [if_neg c]; exact Ev.neg c (ih (i + 1) _ (by omega))
theorem FnExactGluingCount : laws_FnExactGluingCount.Pure := by
  intro n g h1 h2
  refine Ev.rounds ?_
  unfold laws_FnExactGluingCount.f
  have hin : spec_l6In.f n 1 4 = some (decide (1 ≤ n ∧ n ≤ 4)) := by
    unfold spec_l6In.f
    by_cases h : n ≥ 1
    · rw [if_pos h]; simp [h]
    · rw [if_neg h]; simp; omega
  have go : ∀ v, Ev (fun k => spec_GluingCount.f k n g) v → impl_GluingCount.f n g = some v → Ev (fun k => (spec_GluingCount.f k n g).bind fun t185 => ((impl_GluingCount.f n g).bind fun t186 => (if t186 = t185 then (some true) else (some false)))) true := by
    intro v hs hi
    exact Ev.bind hs (Ev.bindc hi (Ev.pos rfl (Ev.now _)))
  have stop : Ev (fun k => spec_GluingCount.j0 k n g true) (-1) := Ev.ret (fun k => by simp only [spec_GluingCount.j0]; rfl)
  by_cases hn : 1 ≤ n ∧ n ≤ 4
  · by_cases hg : g < 0
    · refine go (-1) ?_ ?_
      · unfold spec_GluingCount.f
        rw [hin]
        refine Ev.bindc rfl (Ev.pos (by simp [hn]) ?_)
        rw [decide_eq_true hg]; exact stop
      · unfold impl_GluingCount.f
        rw [if_neg (by omega), if_neg (by omega), if_pos hg]
    · have hc := all_ints 4 (fun i => chk (1 + i)) chk_all (n - 1) (by omega) (by omega)
      simp only [show 1 + (n - 1) = n by omega] at hc
      unfold chk at hc
      split at hc
      · rename_i L hL
        simp only [Bool.and_eq_true, decide_eq_true_eq] at hc
        obtain ⟨⟨⟨c1, c2⟩, c3⟩, c4⟩ := hc
        split at c4
        · rename_i fr hfr
          have hsp : ∀ x ∈ L, Ev (fun k => spec_GluingGenus.f k x) (gen1 x) := fun x hx => by
            have := List.all_eq_true.1 c3 x hx
            exact Ev.of (fun k => spec_GluingGenus.mono _ k) (by simpa using this)
          refine go (fold g L 0) ?_ ?_
          · unfold spec_GluingCount.f
            rw [hin]
            refine Ev.bindc rfl (Ev.pos (by simp [hn]) ?_)
            rw [decide_eq_false hg]
            refine Ev.step (f := fun k => (spec_l4Free.f k n).bind fun t174 => ((spec_l4All.f k t174).bind fun t177 => (spec_GluingCount.l0 k g 0 t177 0))) (fun k => by simp only [spec_GluingCount.j0]; rw [if_neg (by simp)]) ?_
            refine Ev.bind (Ev.of (fun k => spec_l4Free.mono _ k) hfr) ?_
            refine Ev.bind (Ev.of (fun k => spec_l4All.mono _ k) (by simpa using c4)) ?_
            exact spec_fold g L c1 hsp L.length 0 0 (by omega)
          · unfold impl_GluingCount.f
            rw [if_neg (by omega), if_neg (by omega), if_neg hg, hL, Option.bind_some, if_pos c1, if_pos c2]
            unfold impl_GluingCount.cnt
            refine cnt_fold g L 0 (fun x hx => ?_)
            have := List.all_eq_true.1 c2 x hx
            simp only [Bool.and_eq_true] at this
            exact this.2
        · cases c4
      · cases hc
  · refine go (-1) ?_ ?_
    · unfold spec_GluingCount.f
      rw [hin]
      exact Ev.bindc rfl (Ev.neg (by simpa using hn) stop)
    · unfold impl_GluingCount.f
      by_cases h : n < 1
      · rw [if_pos h]
      · rw [if_neg h, if_pos (by omega)]
end Go.Proofs.Ytkfeildndcdbaaa.Pure
