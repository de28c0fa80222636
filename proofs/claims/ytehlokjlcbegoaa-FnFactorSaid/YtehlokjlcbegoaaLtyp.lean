import Derived.Test.YtehlokjlcbegoaaLpv
import Derived.Test.YtehlokjlcbegoaaQ3
import Derived.Test.YtehlokjlcbegoaaQ7
import Derived.Test.YtehlokjlcbegoaaQ2
import Derived.Test.YtehlokjlcbegoaaQ6
/- The test of a list of types: both programs ask the same. -/
namespace Go.Proofs.Ytehlokjlcbegoaa.Ltyp
set_option linter.unusedVariables false
set_option linter.unusedSimpArgs false
open Go.RowKit Go.Proofs.YtehlokjlcbegoaaW.PrintWords Go.Proofs.YtehlokjlcbegoaaW.PrintMore Go.Proofs.Ytehlokjlcbegoaa.Q Go.Proofs.Ytehlokjlcbegoaa.M Go.Proofs.Ytehlokjlcbegoaa.B Go.Proofs.Ytehlokjlcbegoaa.L1 Go.Proofs.Ytehlokjlcbegoaa.Lpv

theorem rdl (l : List (List Int)) (i : Nat) : rd_L1 l (i : Int) = nth l i := by
  show l.getD (i : Int).toNat _ = _
  rw [Int.toNat_natCast]; rfl
def sumChk (x : List Int) : Bool := (spec_l5Sum.f 30 x == some (sumI x)) && (impl_sumOf.f 30 x == some (sumI x)) && decide (1 ≤ sumI x ∧ sumI x ≤ 6)
theorem sum_all : pts.all sumChk = true := by decide +kernel
theorem spec_sum (x : List Int) (h : pvB x = true) : Ev (fun k => spec_l5Sum.f k x) (sumI x) := by
  have := pv_cases sumChk sum_all x h
  simp only [sumChk, Bool.and_eq_true, beq_iff_eq] at this
  exact Ev.of (fun k => spec_l5Sum.mono _ k) this.1.1
theorem impl_sum (x : List Int) (h : pvB x = true) : Ev (fun k => impl_sumOf.f k x) (sumI x) := by
  have := pv_cases sumChk sum_all x h
  simp only [sumChk, Bool.and_eq_true, beq_iff_eq] at this
  exact Ev.of (fun k => impl_sumOf.mono _ k) this.1.2
theorem sum_range (x : List Int) (h : pvB x = true) : 1 ≤ sumI x ∧ sumI x ≤ 6 := by
  have := pv_cases sumChk sum_all x h
  simp only [sumChk, Bool.and_eq_true, beq_iff_eq, decide_eq_true_eq] at this
  exact this.2
def okT (l : List (List Int)) (i : Nat) : Bool := pvB (nth l i) && decide (sumI (nth l i) = sumI (nth l 0))
def tyB (l : List (List Int)) : Bool := decide (1 ≤ l.length ∧ l.length ≤ 6) && allFrom (okT l) 0 l.length
theorem tyB_iff (l : List (List Int)) : tyB l = true ↔ (1 ≤ l.length ∧ l.length ≤ 6) ∧ ∀ i, i < l.length → pvB (nth l i) = true ∧ sumI (nth l i) = sumI (nth l 0) := by
  simp only [tyB, Bool.and_eq_true, decide_eq_true_eq, allFrom_iff, okT]
  constructor
  · rintro ⟨h, g⟩; exact ⟨h, fun i hi => g i (by omega) (by omega)⟩
  · rintro ⟨h, g⟩; exact ⟨h, fun i _ hi => g i (by omega)⟩
theorem spec_ty_loop (l : List (List Int)) (hl : l.length ≤ 1048576) (hx : ∀ x ∈ l, x.length ≤ 1048576) : ∀ (d i : Nat), i + d = l.length → (0 < i → pvB (nth l 0) = true) →
    Ev (fun k => spec_l5Types.l0 k l i) (allFrom (okT l) i d && decide (1 ≤ l.length ∧ l.length ≤ 6)) := by
  intro d
  induction d with
  | zero =>
    intro i h _
    refine Ev.ret (fun k => ?_)
    simp only [spec_l5Types.l0]
    rw [if_neg (by omega), l6In]
    simp only [Option.bind_some, allFrom, Bool.true_and]
    congr 1
    simp only [decide_eq_decide]; omega
  | succ d ih =>
    intro i h h0
    have hxi := hx (nth l i) (nth_mem l i (by omega))
    have hp := spec_pv (nth l i) (by omega)
    refine Ev.step (f := fun k => (spec_PartsValid.f k (nth l i)).bind fun t617 => (if t617 = true then ((spec_l5Sum.f k (nth l i)).bind fun t619 => (if 0 < (l.length : Int) then ((spec_l5Sum.f k (nth l 0)).bind fun t621 => (if t619 = t621 then (spec_l5Types.l0 k l ((i + 1 : Nat) : Int)) else (some false))) else (none))) else (some false))) (fun k => ?_) ?_
    · simp only [spec_l5Types.l0]
      rw [if_pos (by omega), if_pos (by omega), rdl, wrs i (by omega), show rd_L1 l 0 = nth l 0 from rdl l 0]
    · refine Ev.bind hp ?_
      cases hq : pvB (nth l i) with
      | false =>
        refine Ev.neg (by simp) ?_
        simp only [allFrom, okT, hq, Bool.false_and]
        exact Ev.now _
      | true =>
        refine Ev.pos rfl ?_
        have hq0 : pvB (nth l 0) = true := by
          by_cases e : i = 0
          · rw [← e]; exact hq
          · exact h0 (by omega)
        refine Ev.bind (spec_sum _ hq) (Ev.pos (by omega) (Ev.bind (spec_sum _ hq0) ?_))
        by_cases e : sumI (nth l i) = sumI (nth l 0)
        · refine Ev.pos e ?_
          refine Ev.same (ih (i + 1) (by omega) (fun _ => hq0)) ?_
          simp [allFrom, okT, hq, e]
        · refine Ev.neg e ?_
          simp only [allFrom, okT, hq, decide_eq_false e, Bool.true_and, Bool.false_and]
          exact Ev.now _
theorem spec_ty (l : List (List Int)) (hl : l.length ≤ 1048576) (hx : ∀ x ∈ l, x.length ≤ 1048576) : Ev (fun k => spec_l5Types.f k l) (tyB l) := by
  refine Ev.same (Ev.congr (fun k => ?_) (spec_ty_loop l hl hx l.length 0 (by omega) (fun h => by omega))) (by unfold tyB; rw [Bool.and_comm])
  unfold spec_l5Types.f; rfl
theorem impl_ty_loop (l : List (List Int)) (hl : l.length ≤ 1048576) (hl1 : 1 ≤ l.length) (hx : ∀ x ∈ l, x.length ≤ 1048576) : ∀ (d i : Nat), i + d = l.length → (0 < i → pvB (nth l 0) = true) →
    Ev (fun k => impl_typesSum.l0 k l l l.length i) (if allFrom (okT l) i d = true then sumI (nth l 0) else -1) := by
  intro d
  induction d with
  | zero =>
    intro i h h0
    refine Ev.step (f := fun k => (impl_sumOf.f k (nth l 0)).bind fun t => some t) (fun k => ?_) (Ev.bind (impl_sum _ (h0 (by omega))) (Ev.now _))
    simp only [impl_typesSum.l0]
    rw [if_neg (by omega), if_pos (by omega), show rd_L1 l 0 = nth l 0 from rdl l 0]
  | succ d ih =>
    intro i h h0
    have hxi := hx (nth l i) (nth_mem l i (by omega))
    have hp := impl_pv (nth l i) (by omega)
    refine Ev.step (f := fun k => (impl_PartsValid.f k (nth l i)).bind fun t617 => (if t617 = true then ((impl_sumOf.f k (nth l i)).bind fun t619 => (if 0 < (l.length : Int) then ((impl_sumOf.f k (nth l 0)).bind fun t621 => (if t619 = t621 then (impl_typesSum.l0 k l l l.length ((i + 1 : Nat) : Int)) else (some (-1)))) else (none))) else (some (-1)))) (fun k => ?_) ?_
    · simp only [impl_typesSum.l0]
      rw [if_pos (by omega), if_pos (by omega), if_pos (by omega), rdl, wrs i (by omega), show rd_L1 l 0 = nth l 0 from rdl l 0]
    · refine Ev.bind hp ?_
      cases hq : pvB (nth l i) with
      | false =>
        refine Ev.neg (by simp) ?_
        simp only [allFrom, okT, hq, Bool.false_and]
        exact Ev.now _
      | true =>
        refine Ev.pos rfl ?_
        have hq0 : pvB (nth l 0) = true := by
          by_cases e : i = 0
          · rw [← e]; exact hq
          · exact h0 (by omega)
        refine Ev.bind (impl_sum _ hq) (Ev.pos (by omega) (Ev.bind (impl_sum _ hq0) ?_))
        by_cases e : sumI (nth l i) = sumI (nth l 0)
        · refine Ev.pos e ?_
          refine Ev.same (ih (i + 1) (by omega) (fun _ => hq0)) ?_
          simp [allFrom, okT, hq, e]
        · refine Ev.neg e ?_
          simp only [allFrom, okT, hq, decide_eq_false e, Bool.true_and, Bool.false_and]
          exact Ev.now _
theorem impl_ty (l : List (List Int)) (hl : l.length ≤ 1048576) (hx : ∀ x ∈ l, x.length ≤ 1048576) : Ev (fun k => impl_typesSum.f k l) (if tyB l = true then sumI (nth l 0) else -1) := by
  unfold impl_typesSum.f
  have stop : Ev (fun k => impl_typesSum.j0 k l true) (-1) := Ev.ret (fun k => by simp only [impl_typesSum.j0]; rfl)
  by_cases h1 : (l.length : Int) < 1
  · refine Ev.pos h1 (Ev.same stop ?_)
    rw [if_neg]
    intro h; have := ((tyB_iff l).1 h).1; omega
  refine Ev.neg h1 ?_
  by_cases h2 : (l.length : Int) > 6
  · rw [decide_eq_true h2]
    refine Ev.same stop ?_
    rw [if_neg]
    intro h; have := ((tyB_iff l).1 h).1; omega
  rw [decide_eq_false h2]
  refine Ev.step (f := fun k => impl_typesSum.l0 k l l (l.length : Int) 0) (fun k => by simp only [impl_typesSum.j0]; rw [if_neg (by simp)]) ?_
  refine Ev.same (impl_ty_loop l hl (by omega) hx l.length 0 (by omega) (fun h => by omega)) ?_
  have : tyB l = allFrom (okT l) 0 l.length := by unfold tyB; rw [decide_eq_true ⟨by omega, by omega⟩, Bool.true_and]
  rw [this]
end Go.Proofs.Ytehlokjlcbegoaa.Ltyp
