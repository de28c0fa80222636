import Derived.Test.YtonlecigglbohaaB1
import Derived.Test.YtonlecigglbohaaM3
import Derived.Test.YtonlecigglbohaaQ3
import Derived.Test.YtonlecigglbohaaQ2
/- Both programs walk the same cycles. -/
namespace Go.Proofs.Ytonlecigglbohaa.Lcyc
set_option linter.unusedVariables false
set_option linter.unusedSimpArgs false
open Go.RowKit Go.Proofs.YtonlecigglbohaaW.PrintWords Go.Proofs.YtonlecigglbohaaW.PrintMore Go.Proofs.Ytonlecigglbohaa.Q Go.Proofs.Ytonlecigglbohaa.M Go.Proofs.Ytonlecigglbohaa.B

theorem spec_inner (p : List Int) (hp : Into p) (hn : p.length ≤ 1000000) (out : List (List Int)) (ho : out.length ≤ 1000000) (i : Nat) (hi : i < p.length) (R : List (List Int)) : ∀ (u : Nat) (seen : List Bool) (x : Nat) (c : List Int), seen.length = p.length → seen.count false = u →
    x < p.length → c.length + u ≤ 1000000 → Ev (fun k => spec_l1Cycles.l0 k p (out ++ [(walk p u seen x c).2]) (walk p u seen x c).1 ((i + 1 : Nat) : Int)) R → Ev (fun k => spec_l1Cycles.l1 k p out seen i c x) R := by
  intro u
  induction u with
  | zero =>
    intro seen x c h1 h2 h3 h4 h5
    have e := count_zero seen h2 x (by omega)
    refine Ev.step (fun k => ?_) h5
    simp only [spec_l1Cycles.l1]
    rw [if_pos (by omega), if_pos (by omega), rdb, if_pos e, if_pos (by omega), wrs i (by omega)]
    rfl
  | succ u ih =>
    intro seen x c h1 h2 h3 h4 h5
    simp only [walk, Int.toNat_natCast] at h5
    by_cases e : nth seen x = true
    · rw [if_pos e] at h5
      refine Ev.step (fun k => ?_) h5
      simp only [spec_l1Cycles.l1]
      rw [if_pos (by omega), if_pos (by omega), rdb, if_pos e, if_pos (by omega), wrs i (by omega)]
    · rw [if_neg e] at h5
      have hx := hp x h3
      have hc := count_set seen x (by omega) (by simpa using e)
      obtain ⟨y, hy⟩ : ∃ y : Nat, nth p x = y := ⟨(nth p x).toNat, by omega⟩
      rw [hy] at h5
      refine Ev.step (fun k => ?_) (ih (seen.set x true) y (c ++ [(x : Int)]) (by simpa using h1) (by omega) (by omega) (by simp; omega) h5)
      simp only [spec_l1Cycles.l1]
      rw [if_pos (by omega), if_pos (by omega), rdb, if_neg e, if_pos (by omega), if_pos (by omega), rdn, hy]
      rfl
theorem spec_outer (p : List Int) (hp : Into p) (hn : p.length ≤ 1000) : ∀ (d i : Nat) (seen : List Bool) (out : List (List Int)), i + d = p.length → seen.length = p.length → out.length ≤ i →
    Ev (fun k => spec_l1Cycles.l0 k p out seen i) (cycLoop p d i seen out) := by
  intro d
  induction d with
  | zero =>
    intro i seen out h1 h2 h3
    refine Ev.ret (fun k => ?_)
    simp only [spec_l1Cycles.l0]
    rw [if_neg (by omega)]; rfl
  | succ d ih =>
    intro i seen out h1 h2 h3
    simp only [cycLoop]
    by_cases e : nth seen i = true
    · rw [if_pos e]
      refine Ev.step (fun k => ?_) (ih (i + 1) seen out (by omega) h2 (by omega))
      simp only [spec_l1Cycles.l0]
      rw [if_pos (by omega), if_pos (by omega), if_pos (by omega), rdb, if_pos e, wrs i (by omega)]
    · rw [if_neg e]
      have hc := count_le seen
      refine Ev.step (fun k => ?_) (spec_inner p hp (by omega) out (by omega) i (by omega) _ (seen.count false) seen i [] h2 rfl (by omega) (by simp; omega)
        (ih (i + 1) _ _ (by omega) (by rw [walk_len, h2]) (by simp; omega)))
      simp only [spec_l1Cycles.l0]
      rw [if_pos (by omega), if_pos (by omega), if_pos (by omega), rdb, if_neg e]
theorem spec_cycles (p : List Int) (hp : Into p) (hn : p.length ≤ 1000) : Ev (fun k => spec_l1Cycles.f k p) (cycles p) := by
  refine Ev.congr (fun k => ?_) (spec_outer p hp hn p.length 0 (List.replicate p.length false) [] (by omega) (by simp) (by simp))
  unfold spec_l1Cycles.f
  rw [if_pos (by omega), if_pos (by simp; omega)]
  rfl
theorem impl_inner (p : List Int) (hp : Into p) (hn : p.length ≤ 1000000) (out : List (List Int)) (ho : out.length ≤ 1000000) (i : Nat) (hi : i < p.length) (R : List (List Int)) : ∀ (u : Nat) (seen : List Bool) (x : Nat) (c : List Int), seen.length = p.length → seen.count false = u →
    x < p.length → c.length + u ≤ 1000000 → 0 < c.length → Ev (fun k => impl_cyclesOf.l0 k p (out ++ [(walk p u seen x c).2]) (walk p u seen x c).1 p.length ((i + 1 : Nat) : Int)) R → Ev (fun k => impl_cyclesOf.l1 k p out seen c x p.length i) R := by
  intro u
  induction u with
  | zero =>
    intro seen x c h1 h2 h3 h4 h6 h5
    have e := count_zero seen h2 x (by omega)
    refine Ev.step (fun k => ?_) h5
    simp only [impl_cyclesOf.l1]
    rw [if_pos (by omega), if_pos (by omega), rdb, if_pos e, if_pos (by omega), if_pos (by omega), wrs i (by omega)]
    rfl
  | succ u ih =>
    intro seen x c h1 h2 h3 h4 h6 h5
    simp only [walk, Int.toNat_natCast] at h5
    by_cases e : nth seen x = true
    · rw [if_pos e] at h5
      refine Ev.step (fun k => ?_) h5
      simp only [impl_cyclesOf.l1]
      rw [if_pos (by omega), if_pos (by omega), rdb, if_pos e, if_pos (by omega), if_pos (by omega), wrs i (by omega)]
    · rw [if_neg e] at h5
      have hx := hp x h3
      have hc := count_set seen x (by omega) (by simpa using e)
      obtain ⟨y, hy⟩ : ∃ y : Nat, nth p x = y := ⟨(nth p x).toNat, by omega⟩
      rw [hy] at h5
      refine Ev.step (fun k => ?_) (ih (seen.set x true) y (c ++ [(x : Int)]) (by simpa using h1) (by omega) (by omega) (by simp; omega) (by simp) h5)
      simp only [impl_cyclesOf.l1]
      rw [if_pos (by omega), if_pos (by omega), rdb, if_neg e, if_pos (by omega), if_pos (by omega), rdn, hy]
      rfl
theorem impl_outer (p : List Int) (hp : Into p) (hn : p.length ≤ 1000) : ∀ (d i : Nat) (seen : List Bool) (out : List (List Int)), i + d = p.length → seen.length = p.length → out.length ≤ i →
    Ev (fun k => impl_cyclesOf.l0 k p out seen p.length i) (cycLoop p d i seen out) := by
  intro d
  induction d with
  | zero =>
    intro i seen out h1 h2 h3
    refine Ev.ret (fun k => ?_)
    simp only [impl_cyclesOf.l0]
    rw [if_neg (by omega)]; rfl
  | succ d ih =>
    intro i seen out h1 h2 h3
    simp only [cycLoop]
    by_cases e : nth seen i = true
    · rw [if_pos e]
      refine Ev.step (f := fun k => impl_cyclesOf.l1 k p out seen [] i p.length i) (fun k => ?_) (Ev.step (fun k => ?_) (ih (i + 1) seen out (by omega) h2 (by omega)))
      · simp only [impl_cyclesOf.l0]
        rw [if_pos (by omega)]
      · simp only [impl_cyclesOf.l1]
        rw [if_pos (by omega), if_pos (by omega), rdb, if_pos e, if_neg (by simp), wrs i (by omega)]
    · rw [if_neg e]
      have hc := count_le seen
      have hs := count_set seen i (by omega) (by simpa using e)
      have hx := hp i (by omega)
      obtain ⟨y, hy⟩ : ∃ y : Nat, nth p i = y := ⟨(nth p i).toNat, by omega⟩
      have hw : walk p (seen.count false) seen i [] = walk p ((seen.set i true).count false) (seen.set i true) y [(i : Int)] := by
        rw [← hs]
        simp only [walk, Int.toNat_natCast]
        rw [if_neg e, hy]; rfl
      rw [hw]
      refine Ev.step (f := fun k => impl_cyclesOf.l1 k p out seen [] i p.length i) (fun k => ?_) (Ev.step (fun k => ?_) (impl_inner p hp (by omega) out (by omega) i (by omega) _ ((seen.set i true).count false) (seen.set i true) y [(i : Int)] (by simpa using h2) rfl (by omega) (by simp; omega) (by simp)
        (ih (i + 1) _ _ (by omega) (by rw [walk_len]; simpa using h2) (by simp; omega))))
      · simp only [impl_cyclesOf.l0]
        rw [if_pos (by omega)]
      · simp only [impl_cyclesOf.l1]
        rw [if_pos (by omega), if_pos (by omega), rdb, if_neg e, if_pos (by simp), if_pos (by omega), rdn, hy]
        rfl
theorem impl_cycles (p : List Int) (hp : Into p) (hn : p.length ≤ 1000) : Ev (fun k => impl_cyclesOf.f k p) (cycles p) := by
  refine Ev.congr (fun k => ?_) (impl_outer p hp hn p.length 0 (List.replicate p.length false) [] (by omega) (by simp) (by simp))
  unfold impl_cyclesOf.f
  rw [if_pos (by omega), if_pos (by simp; omega)]
  rfl
end Go.Proofs.Ytonlecigglbohaa.Lcyc
