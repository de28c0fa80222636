import Derived.Test.YtonlecigglbohaaLcornS
import Derived.Test.YtonlecigglbohaaQ4
import Derived.Test.YtonlecigglbohaaQ1
/- The turned gluing. -/
namespace Go.Proofs.Ytonlecigglbohaa.Lturn
set_option linter.unusedVariables false
set_option linter.unusedSimpArgs false
open Go.RowKit Go.Proofs.YtonlecigglbohaaW.PrintWords Go.Proofs.YtonlecigglbohaaW.PrintMore Go.Proofs.Ytonlecigglbohaa.Q Go.Proofs.Ytonlecigglbohaa.M Go.Proofs.Ytonlecigglbohaa.B Go.Proofs.Ytonlecigglbohaa.L1 Go.Proofs.Ytonlecigglbohaa.Lgv Go.Proofs.Ytonlecigglbohaa.Lcorn

def tLoop (p : List Int) : Nat → Nat → List Int → List Int
  | 0, _, acc => acc
  | d + 1, i, acc => tLoop p d (i + 1) (acc.set ((i + 1) % p.length) ((nth p i + 1) % (p.length : Int)))
def turned (p : List Int) : List Int := tLoop p p.length 0 (List.replicate p.length 0)
theorem tLoop_len (p : List Int) : ∀ (d i : Nat) (acc : List Int), (tLoop p d i acc).length = acc.length
  | 0, _, _ => rfl
  | d + 1, i, acc => by simp only [tLoop]; rw [tLoop_len p d]; simp
theorem turned_len (p : List Int) : (turned p).length = p.length := by unfold turned; rw [tLoop_len]; simp
theorem toN (i n : Nat) : ((((i + 1 : Nat) : Int) % (n : Int)) : Int).toNat = (i + 1) % n := by omega
theorem spec_loop (p : List Int) (hp : Nn p) (hn : p.length ≤ 1000) : ∀ (d i : Nat) (acc : List Int), i + d = p.length → acc.length = p.length →
    Ev (fun k => spec_GluingTurn.l0 k p acc i) (tLoop p d i acc, true) := by
  intro d
  induction d with
  | zero =>
    intro i acc h1 h2
    refine Ev.ret (fun k => ?_)
    simp only [spec_GluingTurn.l0]
    rw [if_neg (by omega)]; rfl
  | succ d ih =>
    intro i acc h1 h2
    have hx := hp i (by omega)
    have hm : 0 ≤ ((i + 1 : Nat) : Int) % (p.length : Int) ∧ ((i + 1 : Nat) : Int) % (p.length : Int) < p.length := ⟨Int.emod_nonneg _ (by omega), Int.emod_lt_of_pos _ (by omega)⟩
    refine Ev.step (fun k => ?_) (ih (i + 1) _ (by omega) (by simpa using h2))
    simp only [spec_GluingTurn.l0]
    rw [if_pos (by omega), if_neg (by omega), if_pos (by omega), wrs i (by omega), tm _ _ (by omega), if_pos hm.1, if_pos (by rw [h2]; exact hm.2), rdn, wr (nth p i + 1) (by omega) (by omega), tm _ _ (by omega), toN]
theorem impl_loop (p : List Int) (hp : Nn p) (hn : p.length ≤ 1000) : ∀ (d i : Nat) (acc : List Int), i + d = p.length → acc.length = p.length →
    Ev (fun k => impl_GluingTurn.l0 k p acc p p.length i) (tLoop p d i acc, true) := by
  intro d
  induction d with
  | zero =>
    intro i acc h1 h2
    refine Ev.ret (fun k => ?_)
    simp only [impl_GluingTurn.l0]
    rw [if_neg (by omega)]; rfl
  | succ d ih =>
    intro i acc h1 h2
    have hx := hp i (by omega)
    have hm : 0 ≤ ((i + 1 : Nat) : Int) % (p.length : Int) ∧ ((i + 1 : Nat) : Int) % (p.length : Int) < p.length := ⟨Int.emod_nonneg _ (by omega), Int.emod_lt_of_pos _ (by omega)⟩
    refine Ev.step (fun k => ?_) (ih (i + 1) _ (by omega) (by simpa using h2))
    simp only [impl_GluingTurn.l0]
    rw [if_pos (by omega), if_pos (by omega), if_pos (by omega), if_neg (by omega), wrs i (by omega), tm _ _ (by omega), if_pos hm.1, if_pos (by rw [h2]; exact hm.2), rdn, wr (nth p i + 1) (by omega) (by omega), tm _ _ (by omega), toN]
/-- the answer of both -/
def turnR (p : List Int) : List Int × Bool := if gvB p then (turned p, true) else ([], false)
theorem spec_turn (p : List Int) (hl : p.length ≤ 35184372088832) : Ev (fun k => spec_GluingTurn.f k p) (turnR p) := by
  unfold spec_GluingTurn.f
  refine Ev.bind (spec_gv p hl) ?_
  cases h : gvB p with
  | false => refine Ev.neg (by simp) (Ev.same (Ev.now _) ?_); simp [turnR, h]
  | true =>
    have hg := gv_nn p h
    refine Ev.pos rfl ?_
    refine Ev.pos (by omega) ?_
    refine Ev.pos (by simp; omega) ?_
    refine Ev.same (spec_loop p hg.1 hg.2.1 p.length 0 _ (by omega) (by simp)) ?_
    simp [turnR, h, turned]
theorem impl_turn (p : List Int) (hl : p.length ≤ 35184372088832) : Ev (fun k => impl_GluingTurn.f k p) (turnR p) := by
  unfold impl_GluingTurn.f
  refine Ev.bind (impl_gv p hl) ?_
  cases h : gvB p with
  | false => refine Ev.neg (by simp) (Ev.same (Ev.now _) ?_); simp [turnR, h]
  | true =>
    have hg := gv_nn p h
    refine Ev.pos rfl ?_
    refine Ev.pos (by omega) ?_
    refine Ev.pos (by simp; omega) ?_
    refine Ev.same (impl_loop p hg.1 hg.2.1 p.length 0 _ (by omega) (by simp)) ?_
    simp [turnR, h, turned]
end Go.Proofs.Ytonlecigglbohaa.Lturn
