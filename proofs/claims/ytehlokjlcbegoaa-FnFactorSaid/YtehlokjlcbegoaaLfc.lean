import Derived.Test.YtehlokjlcbegoaaLtyp
import Derived.Test.YtehlokjlcbegoaaQ6
import Derived.Test.YtehlokjlcbegoaaQ9
/- The number of factorizations: both programs reckon the same. -/
namespace Go.Proofs.Ytehlokjlcbegoaa.Lfc
set_option linter.unusedVariables false
set_option linter.unusedSimpArgs false
open Go.RowKit Go.Proofs.YtehlokjlcbegoaaW.PrintWords Go.Proofs.YtehlokjlcbegoaaW.PrintMore Go.Proofs.Ytehlokjlcbegoaa.Q Go.Proofs.Ytehlokjlcbegoaa.M Go.Proofs.Ytehlokjlcbegoaa.B Go.Proofs.Ytehlokjlcbegoaa.L1 Go.Proofs.Ytehlokjlcbegoaa.Lpv Go.Proofs.Ytehlokjlcbegoaa.Ltyp

def deg (s : List Int) : Int := (impl_CharDegree.f 100 s).getD 0
def csz (t : List Int) : Int := (impl_ClassSize.f 100 t).getD 0
def chi (s t : List Int) : Int := ((impl_CharValue.f 300 s t).getD (0, false)).1
def pchk (s t : List Int) : Bool := (impl_CharDegree.f 100 s == some (deg s)) && (spec_l5Degree.f 100 s == some (deg s)) && (deg s != 0) && (impl_ClassSize.f 100 t == some (csz t)) && (spec_ClassSize.f 100 t == some (csz t)) && (impl_CharValue.f 300 s t == some (chi s t, true)) && (spec_l5Char.f 300 s t == some (chi s t))
theorem pairs_all : (pts.all fun s => pts.all fun t => if sumI s = sumI t then pchk s t else true) = true := by decide +kernel
structure Good (s t : List Int) : Prop where
  d1 : Ev (fun k => impl_CharDegree.f k s) (deg s)
  d2 : Ev (fun k => spec_l5Degree.f k s) (deg s)
  d0 : deg s ≠ 0
  c1 : Ev (fun k => impl_ClassSize.f k t) (csz t)
  c2 : Ev (fun k => spec_ClassSize.f k t) (csz t)
  x1 : Ev (fun k => impl_CharValue.f k s t) (chi s t, true)
  x2 : Ev (fun k => spec_l5Char.f k s t) (chi s t)
theorem good (s t : List Int) (hs : pvB s = true) (ht : pvB t = true) (h : sumI s = sumI t) : Good s t := by
  have h1 := pv_cases _ (pv_cases (fun s => pts.all fun t => if sumI s = sumI t then pchk s t else true) pairs_all s hs) t ht
  rw [if_pos h] at h1
  simp only [pchk, Bool.and_eq_true, beq_iff_eq, bne_iff_ne] at h1
  obtain ⟨⟨⟨⟨⟨⟨a1, a2⟩, a3⟩, a4⟩, a5⟩, a6⟩, a7⟩ := h1
  exact ⟨Ev.of (fun k => impl_CharDegree.mono _ k) a1, Ev.of (fun k => spec_l5Degree.mono _ k) a2, a3, Ev.of (fun k => impl_ClassSize.mono _ k) a4, Ev.of (fun k => spec_ClassSize.mono _ k) a5, Ev.of (fun k => impl_CharValue.mono _ _ k) a6, Ev.of (fun k => spec_l5Char.mono _ _ k) a7⟩
def shp (n : Int) : List (List Int) := ((impl_PartsAll.f n).getD ([], false)).1
def fct (n : Int) : Int := (impl_factorial.f 60 n).getD 0
def nchk (n : Int) : Bool := (impl_PartsAll.f n == some (shp n, true)) && (spec_l5All.f 200 n n == some (shp n)) && (impl_factorial.f 60 n == some (fct n)) && (spec_l5Times.f 60 n == some (fct n)) && (fct n != 0) && ((shp n).all fun s => pvB s && decide (sumI s = n)) && decide ((shp n).length ≤ 1000)
theorem nums_all : [1, 2, 3, 4, 5, 6].all nchk = true := by decide +kernel
structure Nums (n : Int) : Prop where
  p1 : impl_PartsAll.f n = some (shp n, true)
  p2 : Ev (fun k => spec_l5All.f k n n) (shp n)
  f1 : Ev (fun k => impl_factorial.f k n) (fct n)
  f2 : Ev (fun k => spec_l5Times.f k n) (fct n)
  f0 : fct n ≠ 0
  mem : ∀ s ∈ shp n, pvB s = true ∧ sumI s = n
  len : (shp n).length ≤ 1000
theorem nums (n : Int) (h : 1 ≤ n ∧ n ≤ 6) : Nums n := by
  have hm : n ∈ [(1 : Int), 2, 3, 4, 5, 6] := by
    have : n = 1 ∨ n = 2 ∨ n = 3 ∨ n = 4 ∨ n = 5 ∨ n = 6 := by omega
    rcases this with rfl | rfl | rfl | rfl | rfl | rfl <;> decide
  have h1 := List.all_eq_true.1 nums_all n hm
  simp only [nchk, Bool.and_eq_true, beq_iff_eq, bne_iff_ne, List.all_eq_true, decide_eq_true_eq] at h1
  obtain ⟨⟨⟨⟨⟨⟨a1, a2⟩, a3⟩, a4⟩, a5⟩, a6⟩, a7⟩ := h1
  exact ⟨a1, Ev.of (fun k => spec_l5All.mono _ _ k) a2, Ev.of (fun k => impl_factorial.mono _ k) a3, Ev.of (fun k => spec_l5Times.mono _ k) a4, a5, a6, a7⟩
def om (s t : List Int) : Int := wrap64 (Int.tdiv (wrap64 (csz t * chi s t)) (deg s))
def pl (l : List (List Int)) (s : List Int) : Nat → Nat → Int → Int
  | 0, _, x => x
  | d + 1, i, x => pl l s d (i + 1) (wrap64 (x * om s (nth l i)))
def sl (l S : List (List Int)) : Nat → Nat → Int → Int
  | 0, _, x => x
  | d + 1, j, x => sl l S d (j + 1) (wrap64 (x + pl l (nth S j) l.length 0 (wrap64 (deg (nth S j) * deg (nth S j)))))
theorem impl_in (l S : List (List Int)) (n y : Int) (s : List Int) (j : Int) (r : Int) (hl : l.length ≤ 1000) (hg : ∀ i, i < l.length → Good s (nth l i)) : ∀ (d i : Nat) (x : Int), i + d = l.length →
    Ev (fun k => impl_FactorCount.l0 k l n (wrap64 (y + pl l s d i x)) S (S.length : Int) (wrap64 (j + 1))) r → Ev (fun k => impl_FactorCount.l1 k l n y s (deg s) x S (S.length : Int) j l (l.length : Int) (i : Int)) r := by
  intro d
  induction d with
  | zero =>
    intro i x h hr
    refine Ev.step (f := fun k => impl_FactorCount.l0 k l n (wrap64 (y + x)) S (S.length : Int) (wrap64 (j + 1))) (fun k => ?_) hr
    simp only [impl_FactorCount.l1]
    rw [if_neg (by omega)]
  | succ d ih =>
    intro i x h hr
    have g := hg i (by omega)
    refine Ev.step (f := fun k => (impl_CharValue.f k s (nth l i)).bind fun b => (impl_ClassSize.f k (nth l i)).bind fun t => if deg s = 0 then none else impl_FactorCount.l1 k l n y s (deg s) (wrap64 (x * wrap64 (Int.tdiv (wrap64 (t * b.1)) (deg s)))) S (S.length : Int) j l (l.length : Int) ((i + 1 : Nat) : Int)) (fun k => ?_) ?_
    · simp only [impl_FactorCount.l1]
      rw [if_pos (by omega), if_pos (by omega), if_pos (by omega), wrs i (by omega), show rd_L1 l (i : Int) = nth l i from rdl l i]
    · refine Ev.bind g.x1 (Ev.bind g.c1 (Ev.neg g.d0 ?_))
      exact ih (i + 1) _ (by omega) hr
theorem impl_out (l S : List (List Int)) (n : Int) (hl : l.length ≤ 1000) (hS : S.length ≤ 1000) (hn : Nums n) (hl1 : 1 ≤ l.length) (hg : ∀ s ∈ S, ∀ i, i < l.length → Good s (nth l i)) : ∀ (d j : Nat) (y : Int), j + d = S.length →
    Ev (fun k => impl_FactorCount.l0 k l n y S (S.length : Int) (j : Int)) (wrap64 (Int.tdiv (sl l S d j y) (fct n))) := by
  intro d
  induction d with
  | zero =>
    intro j y h
    refine Ev.step (f := fun k => (impl_factorial.f k n).bind fun t => if t = 0 then none else some (wrap64 (Int.tdiv y t))) (fun k => ?_) (Ev.bind hn.f1 (Ev.neg hn.f0 (Ev.now _)))
    simp only [impl_FactorCount.l0]
    rw [if_neg (by omega)]
  | succ d ih =>
    intro j y h
    have hm := nth_mem S j (by omega)
    have g := hg _ hm
    refine Ev.step (f := fun k => (impl_CharDegree.f k (nth S j)).bind fun t => impl_FactorCount.l1 k l n y (nth S j) t (wrap64 (t * t)) S (S.length : Int) (j : Int) l (l.length : Int) 0) (fun k => ?_) ?_
    · simp only [impl_FactorCount.l0]
      rw [if_pos (by omega), if_pos (by omega), if_pos (by omega), show rd_L1 S (j : Int) = nth S j from rdl S j]
    · refine Ev.bind (g 0 (by omega)).d1 ?_
      refine impl_in l S n y (nth S j) j _ hl g l.length 0 _ (by omega) ?_
      rw [wrs j (by omega)]
      exact ih (j + 1) _ (by omega)
theorem spec_in (l S : List (List Int)) (n y : Int) (j : Nat) (r : Int) (hl : l.length ≤ 1000) (hj : j < S.length) (hS : S.length ≤ 1000) (hg : ∀ i, i < l.length → Good (nth S j) (nth l i)) : ∀ (d i : Nat) (x : Int), i + d = l.length →
    Ev (fun k => spec_FactorCount.l0 k l n S (wrap64 (y + pl l (nth S j) d i x)) (wrap64 ((j : Int) + 1))) r → Ev (fun k => spec_FactorCount.l1 k l n S y (j : Int) (deg (nth S j)) x (i : Int)) r := by
  intro d
  induction d with
  | zero =>
    intro i x h hr
    refine Ev.step (f := fun k => spec_FactorCount.l0 k l n S (wrap64 (y + x)) (wrap64 ((j : Int) + 1))) (fun k => ?_) hr
    simp only [spec_FactorCount.l1]
    rw [if_neg (by omega)]
  | succ d ih =>
    intro i x h hr
    have g := hg i (by omega)
    refine Ev.step (f := fun k => (spec_ClassSize.f k (nth l i)).bind fun t => (spec_l5Char.f k (nth S j) (nth l i)).bind fun b => if deg (nth S j) = 0 then none else spec_FactorCount.l1 k l n S y (j : Int) (deg (nth S j)) (wrap64 (x * wrap64 (Int.tdiv (wrap64 (t * b)) (deg (nth S j))))) ((i + 1 : Nat) : Int)) (fun k => ?_) ?_
    · simp only [spec_FactorCount.l1]
      rw [if_pos (by omega), if_pos (by omega), show rd_L1 l (i : Int) = nth l i from rdl l i]
      congr 1
      funext t
      rw [if_pos (by omega), if_pos (by omega), wrs i (by omega), show rd_L1 S (j : Int) = nth S j from rdl S j]
    · refine Ev.bind g.c2 (Ev.bind g.x2 (Ev.neg g.d0 ?_))
      exact ih (i + 1) _ (by omega) hr
theorem spec_out (l S : List (List Int)) (n : Int) (hl : l.length ≤ 1000) (hS : S.length ≤ 1000) (hn : Nums n) (hl1 : 1 ≤ l.length) (hg : ∀ s ∈ S, ∀ i, i < l.length → Good s (nth l i)) : ∀ (d j : Nat) (y : Int), j + d = S.length →
    Ev (fun k => spec_FactorCount.l0 k l n S y (j : Int)) (wrap64 (Int.tdiv (sl l S d j y) (fct n))) := by
  intro d
  induction d with
  | zero =>
    intro j y h
    refine Ev.step (f := fun k => (spec_l5Times.f k n).bind fun t => if t = 0 then none else some (wrap64 (Int.tdiv y t))) (fun k => ?_) (Ev.bind hn.f2 (Ev.neg hn.f0 (Ev.now _)))
    simp only [spec_FactorCount.l0]
    rw [if_neg (by omega)]
  | succ d ih =>
    intro j y h
    have hm := nth_mem S j (by omega)
    have g := hg _ hm
    refine Ev.step (f := fun k => (spec_l5Degree.f k (nth S j)).bind fun t => spec_FactorCount.l1 k l n S y (j : Int) t (wrap64 (t * t)) 0) (fun k => ?_) ?_
    · simp only [spec_FactorCount.l0]
      rw [if_pos (by omega), if_pos (by omega), show rd_L1 S (j : Int) = nth S j from rdl S j]
    · refine Ev.bind (g 0 (by omega)).d2 ?_
      refine spec_in l S n y j _ hl (by omega) hS g l.length 0 _ (by omega) ?_
      rw [wrs j (by omega)]
      exact ih (j + 1) _ (by omega)
/-- the number that both tell -/
def cnt (l : List (List Int)) : Int := if tyB l = true then wrap64 (Int.tdiv (sl l (shp (sumI (nth l 0))) (shp (sumI (nth l 0))).length 0 0) (fct (sumI (nth l 0)))) else -1
theorem goods (l : List (List Int)) (ht : tyB l = true) : ∀ s ∈ shp (sumI (nth l 0)), ∀ i, i < l.length → Good s (nth l i) := by
  intro s hs i hi
  have hb := (tyB_iff l).1 ht
  have hn := nums _ (sum_range _ (hb.2 0 (by omega)).1)
  have hm := hn.mem s hs
  exact good s (nth l i) hm.1 (hb.2 i hi).1 (by rw [hm.2, (hb.2 i hi).2])
theorem spec_cnt (l : List (List Int)) (hl : l.length ≤ 1048576) (hx : ∀ x ∈ l, x.length ≤ 1048576) : Ev (fun k => spec_FactorCount.f k l) (cnt l) := by
  unfold spec_FactorCount.f cnt
  refine Ev.bind (spec_ty l hl hx) ?_
  cases ht : tyB l with
  | false => rw [if_neg (by simp)]; exact Ev.neg (by simp) (Ev.now _)
  | true =>
    have hb := (tyB_iff l).1 ht
    have hn := nums _ (sum_range _ (hb.2 0 (by omega)).1)
    rw [if_pos rfl]
    refine Ev.pos rfl (Ev.pos (by omega) ?_)
    rw [show rd_L1 l 0 = nth l 0 from rdl l 0]
    refine Ev.bind (spec_sum _ (hb.2 0 (by omega)).1) ?_
    refine Ev.bind hn.p2 ?_
    exact spec_out l _ _ (by omega) hn.len hn (by omega) (goods l ht) _ 0 0 (by omega)
theorem impl_cnt (l : List (List Int)) (hl : l.length ≤ 1048576) (hx : ∀ x ∈ l, x.length ≤ 1048576) : Ev (fun k => impl_FactorCount.f k l) (cnt l) := by
  unfold impl_FactorCount.f cnt
  refine Ev.bind (impl_ty l hl hx) ?_
  cases ht : tyB l with
  | false => rw [if_neg (by simp), if_neg (by simp)]; exact Ev.pos (by omega) (Ev.now _)
  | true =>
    have hb := (tyB_iff l).1 ht
    have hr := sum_range _ (hb.2 0 (by omega)).1
    have hn := nums _ hr
    rw [if_pos rfl, if_pos rfl]
    refine Ev.neg (by omega) ?_
    rw [hn.p1]
    refine Ev.congr (fun k => Option.bind_some _ _) ?_
    exact impl_out l _ _ (by omega) hn.len hn (by omega) (goods l ht) _ 0 0 (by omega)
end Go.Proofs.Ytehlokjlcbegoaa.Lfc
