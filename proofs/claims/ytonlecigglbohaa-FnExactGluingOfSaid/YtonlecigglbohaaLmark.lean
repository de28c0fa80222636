import Derived.Test.YtonlecigglbohaaL1
import Derived.Test.YtonlecigglbohaaQ5
/- Marks that are written into a list and found there again. -/
namespace Go.Proofs.Ytonlecigglbohaa.Lmark
set_option linter.unusedVariables false
set_option linter.unusedSimpArgs false
open Go.RowKit Go.Proofs.YtonlecigglbohaaW.PrintWords Go.Proofs.YtonlecigglbohaaW.PrintMore Go.Proofs.Ytonlecigglbohaa.Q Go.Proofs.Ytonlecigglbohaa.M Go.Proofs.Ytonlecigglbohaa.B Go.Proofs.Ytonlecigglbohaa.L1

def marks (m : Int) (n : Nat) : List Int := (List.range n).map (fun (i : Nat) => m + (i : Int))
theorem marks_len (m : Int) (n : Nat) : (marks m n).length = n := by simp [marks]
theorem marks_nth (m : Int) (n i : Nat) (h : i < n) : nth (marks m n) i = m + i := by
  unfold marks
  rw [nth_map _ _ _ (by simpa using h), nth_range _ _ h]
theorem mark_loop (n : Nat) (m0 : Int) (hn : n ≤ 1000000000) (h0 : 0 ≤ m0) (h1 : m0 ≤ 1000000000000) : ∀ (d i : Nat) (acc : List Int), acc.length = n → i + d = n →
    (∀ j, j < i → nth acc j = m0 + j) → Ev (fun k => laws_markIntS.l0 k acc (m0 + i) i) (m0 + n, marks m0 n) := by
  intro d
  induction d with
  | zero =>
    intro i acc e1 e2 e3
    have e : acc = marks m0 n := ext_nth (by rw [marks_len, e1]) (fun j hj => by rw [marks_nth _ _ _ (by omega)]; exact e3 j (by omega))
    refine Ev.ret (fun k => ?_)
    simp only [laws_markIntS.l0]
    rw [if_neg (by omega), e, show i = n by omega]
  | succ d ih =>
    intro i acc e1 e2 e3
    refine Ev.step (fun k => ?_) (ih (i + 1) (acc.set i (m0 + i)) (by simpa using e1) (by omega) ?_)
    · simp only [laws_markIntS.l0]
      rw [if_pos (by omega), if_pos (by omega), wrs i (by omega), wr (m0 + i + 1) (by omega) (by omega)]
      rw [show m0 + (i : Int) + 1 = m0 + ((i + 1 : Nat) : Int) by omega]
      rfl
    · intro j hj
      by_cases e : i = j
      · subst e; rw [nth_set_self _ _ _ (by omega)]
      · rw [nth_set_ne _ _ _ _ e]; exact e3 j (by omega)
theorem markIntS (l : List Int) (m0 : Int) (hn : l.length ≤ 1000000000) (h0 : 0 ≤ m0) (h1 : m0 ≤ 1000000000000) : Ev (fun k => laws_markIntS.f k l m0) (m0 + l.length, marks m0 l.length) := by
  refine Ev.congr (fun k => ?_) (mark_loop l.length m0 hn h0 h1 l.length 0 l rfl (by omega) (fun j h => by omega))
  unfold laws_markIntS.f
  simp
theorem held_loop (n : Nat) (m0 : Int) (hn : n ≤ 1000000000) (h0 : 0 ≤ m0) (h1 : m0 ≤ 1000000000000) : ∀ (d i : Nat), i + d = n →
    Ev (fun k => laws_heldIntS.l0 k (marks m0 n) (m0 + i) i) (m0 + n) := by
  intro d
  induction d with
  | zero =>
    intro i e2
    refine Ev.ret (fun k => ?_)
    simp only [laws_heldIntS.l0, marks_len]
    rw [if_neg (by omega), show i = n by omega]
  | succ d ih =>
    intro i e2
    refine Ev.step (fun k => ?_) (ih (i + 1) (by omega))
    simp only [laws_heldIntS.l0, marks_len]
    rw [if_pos (by omega), if_pos (by omega), rdn, marks_nth _ _ _ (by omega), if_pos rfl, wrs i (by omega), wr (m0 + i + 1) (by omega) (by omega)]
    rw [show m0 + (i : Int) + 1 = m0 + ((i + 1 : Nat) : Int) by omega]
theorem heldIntS (n : Nat) (m0 : Int) (hn : n ≤ 1000000000) (h0 : 0 ≤ m0) (h1 : m0 ≤ 1000000000000) : Ev (fun k => laws_heldIntS.f k (marks m0 n) m0) (m0 + n) := by
  refine Ev.congr (fun k => ?_) (held_loop n m0 hn h0 h1 n 0 (by omega))
  unfold laws_heldIntS.f
  simp
end Go.Proofs.Ytonlecigglbohaa.Lmark
