import Derived.Test.YtehlokjlcbegoaaLtyp
import Derived.Test.YtehlokjlcbegoaaQ3
import Derived.Test.YtehlokjlcbegoaaQ4
/- The genus of a list of types: both programs reckon the same. -/
namespace Go.Proofs.Ytehlokjlcbegoaa.Lfg
set_option linter.unusedVariables false
set_option linter.unusedSimpArgs false
open Go.RowKit Go.Proofs.YtehlokjlcbegoaaW.PrintWords Go.Proofs.YtehlokjlcbegoaaW.PrintMore Go.Proofs.Ytehlokjlcbegoaa.Q Go.Proofs.Ytehlokjlcbegoaa.M Go.Proofs.Ytehlokjlcbegoaa.B Go.Proofs.Ytehlokjlcbegoaa.L1 Go.Proofs.Ytehlokjlcbegoaa.Lpv Go.Proofs.Ytehlokjlcbegoaa.Ltyp

theorem wr_assoc (a b c : Int) : wrap64 (wrap64 (a + b) - c) = wrap64 (a + wrap64 (b - c)) := by unfold wrap64; omega
/-- what is told of twice the genus -/
def half (x : Int) : Int := if x < 0 then -1 else if Int.tmod x 2 = 0 then wrap64 (Int.tdiv x 2) else -1
theorem half_a (x : Int) (c : x < 0) : half x = -1 := by unfold half; rw [if_pos c]
theorem half_b (x : Int) (c : ¬ x < 0) (d : Int.tmod x 2 = 0) : half x = wrap64 (Int.tdiv x 2) := by unfold half; rw [if_neg c, if_pos d]
theorem half_c (x : Int) (c : ¬ x < 0) (d : ¬ Int.tmod x 2 = 0) : half x = -1 := by unfold half; rw [if_neg c, if_neg d]
def acc (n : Int) (l : List (List Int)) : Nat → Nat → Int → Int
  | 0, _, x => x
  | d + 1, i, x => acc n l d (i + 1) (wrap64 (wrap64 (x + n) - ((nth l i).length : Int)))
theorem spec_loop (l : List (List Int)) (n : Int) (hl : l.length ≤ 1048576) : ∀ (d i : Nat) (x : Int), i + d = l.length → Ev (fun k => spec_FactorGenus.l0 k l n x i) (half (acc n l d i x)) := by
  intro d
  induction d with
  | zero =>
    intro i x h
    refine Ev.ret (fun k => ?_)
    simp only [spec_FactorGenus.l0]
    rw [if_neg (by omega)]
    simp only [acc]
    by_cases c1 : x < 0
    · rw [if_pos c1, half_a x c1]
    · rw [if_neg c1]
      by_cases c2 : Int.tmod x 2 = 0
      · rw [if_pos c2, half_b x c1 c2]
      · rw [if_neg c2, half_c x c1 c2]
  | succ d ih =>
    intro i x h
    refine Ev.step (f := fun k => spec_FactorGenus.l0 k l n (wrap64 (wrap64 (x + n) - ((nth l i).length : Int))) ((i + 1 : Nat) : Int)) (fun k => ?_) (ih (i + 1) _ (by omega))
    simp only [spec_FactorGenus.l0]
    rw [if_pos (by omega), if_pos (by omega), wrs i (by omega), show rd_L2 l (i : Int) = nth l i from rdl l i]
theorem impl_loop (l : List (List Int)) (n : Int) (hl : l.length ≤ 1048576) : ∀ (d i : Nat) (x : Int), i + d = l.length → Ev (fun k => impl_FactorGenus.l0 k n x l (l.length : Int) i) (half (acc n l d i x)) := by
  intro d
  induction d with
  | zero =>
    intro i x h
    refine Ev.ret (fun k => ?_)
    simp only [impl_FactorGenus.l0]
    rw [if_neg (by omega)]
    simp only [acc]
    by_cases c1 : x < 0
    · rw [if_pos c1, half_a x c1]
    · rw [if_neg c1]
      by_cases c2 : Int.tmod x 2 = 0
      · rw [if_pos c2, half_b x c1 c2]
      · rw [if_neg c2, half_c x c1 c2]
  | succ d ih =>
    intro i x h
    refine Ev.step (f := fun k => impl_FactorGenus.l0 k n (wrap64 (wrap64 (x + n) - ((nth l i).length : Int))) l (l.length : Int) ((i + 1 : Nat) : Int)) (fun k => ?_) (ih (i + 1) _ (by omega))
    simp only [impl_FactorGenus.l0]
    rw [if_pos (by omega), if_pos (by omega), if_pos (by omega), wrs i (by omega), show rd_L2 l (i : Int) = nth l i from rdl l i, wr_assoc]
/-- the genus that both tell -/
def gen (l : List (List Int)) : Int := if tyB l = true then half (acc (sumI (nth l 0)) l l.length 0 (wrap64 (2 - wrap64 (2 * sumI (nth l 0))))) else -1
theorem spec_gen (l : List (List Int)) (hl : l.length ≤ 1048576) (hx : ∀ x ∈ l, x.length ≤ 1048576) : Ev (fun k => spec_FactorGenus.f k l) (gen l) := by
  unfold spec_FactorGenus.f gen
  refine Ev.bind (spec_ty l hl hx) ?_
  cases ht : tyB l with
  | false => rw [if_neg (by simp)]; exact Ev.neg (by simp) (Ev.now _)
  | true =>
    have hb := (tyB_iff l).1 ht
    rw [if_pos rfl]
    refine Ev.pos rfl (Ev.pos (by omega) ?_)
    rw [show rd_L2 l 0 = nth l 0 from rdl l 0]
    refine Ev.bind (spec_sum _ (hb.2 0 (by omega)).1) ?_
    exact spec_loop l _ hl l.length 0 _ (by omega)
theorem impl_gen (l : List (List Int)) (hl : l.length ≤ 1048576) (hx : ∀ x ∈ l, x.length ≤ 1048576) : Ev (fun k => impl_FactorGenus.f k l) (gen l) := by
  unfold impl_FactorGenus.f gen
  refine Ev.bind (impl_ty l hl hx) ?_
  cases ht : tyB l with
  | false => rw [if_neg (by simp), if_neg (by simp)]; exact Ev.pos (by omega) (Ev.now _)
  | true =>
    have hb := (tyB_iff l).1 ht
    have hr := sum_range _ (hb.2 0 (by omega)).1
    rw [if_pos rfl, if_pos rfl]
    refine Ev.neg (by omega) ?_
    exact impl_loop l _ hl l.length 0 _ (by omega)
end Go.Proofs.Ytehlokjlcbegoaa.Lfg
