import Derived.Test.YtehlokjlcbegoaaLparts
import Derived.Test.YtehlokjlcbegoaaQ2
/- Drawn lists of types: every draw comes to an end, and the lists are short. -/
namespace Go.Proofs.Ytehlokjlcbegoaa.Ltdraw
set_option linter.unusedVariables false
set_option linter.unusedSimpArgs false
open Go.RowKit Go.Proofs.YtehlokjlcbegoaaW.PrintWords Go.Proofs.YtehlokjlcbegoaaW.PrintMore Go.Proofs.Ytehlokjlcbegoaa.Q Go.Proofs.Ytehlokjlcbegoaa.M Go.Proofs.Ytehlokjlcbegoaa.B Go.Proofs.Ytehlokjlcbegoaa.Lpick Go.Proofs.Ytehlokjlcbegoaa.Lparts

def Short (l : List (List Int)) : Prop := ∀ x ∈ l, x.length ≤ 20
theorem Short.app {l : List (List Int)} (h : Short l) (x : List Int) (hx : x.length ≤ 20) : Short (l ++ [x]) := by
  intro y hy
  rcases List.mem_append.1 hy with hy | hy
  · exact h y hy
  · rw [List.mem_singleton.1 hy]; exact hx
theorem types_loop (b : List Int) (hb : RB b) (n : Int) (h0 : 1 ≤ n) (h1 : n ≤ 7) (m : Nat) (hm : m ≤ 20) : ∀ (d i : Nat) (acc : List (List Int)) (p : Int), i + d = m → acc.length = i → Short acc → 0 ≤ p → p + 10 * d ≤ 5000 →
    EvP (fun k => spec_l91Types.l0 k n acc m i b p) (fun r => r.1.length ≤ m + 1 ∧ Short r.1) := by
  intro d
  induction d with
  | zero =>
    intro i acc p e1 e2 hs p0 p1
    refine EvP.step (g' := fun k => (spec_l6Rd_pick.f k b p 30).bind fun bt174 => (if bt174.1 = 0 then (some ((([] : List (List Int))), bt174.2)) else (if bt174.1 = 1 then ((spec_l6Rd_pick.f k b bt174.2 4).bind fun bt179 => ((spec_l91Parts.f k b bt179.2 (wrap64 (1 + bt179.1))).bind fun bt181 => (if acc.length < 5864062014805 then (some ((acc ++ [bt181.1]), bt181.2)) else (none)))) else (some (acc, bt174.2))))) ?_ (fun k => by simp only [spec_l91Types.l0]; rw [if_neg (by omega)])
    refine EvP.bind (pick_p b p 30 hb p0 (by omega) (by omega) (by omega)) ?_
    rintro ⟨v, p'⟩ ⟨⟨v0, v1⟩, e⟩
    simp only at v0 v1 e
    subst e
    dsimp only
    by_cases c0 : v = 0
    · exact EvP.pos c0 (EvP.now ⟨by simp, fun x hx => by simp at hx⟩)
    refine EvP.neg c0 ?_
    by_cases c1 : v = 1
    · refine EvP.pos c1 ?_
      refine EvP.bind (pick_p b (p + 1) 4 hb (by omega) (by omega) (by omega) (by omega)) ?_
      rintro ⟨v, p'⟩ ⟨⟨v0, v1⟩, e⟩
      simp only at v0 v1 e
      subst e
      dsimp only
      rw [wr (1 + v) (by omega) (by omega)]
      refine EvP.bind (parts_p b hb _ (1 + v) (by omega) (by omega) (by omega) (by omega)) (fun r h => ?_)
      refine EvP.pos (by omega) (EvP.now ⟨by simp; omega, hs.app _ h.1⟩)
    · exact EvP.neg c1 (EvP.now ⟨by show acc.length ≤ m + 1; omega, hs⟩)
  | succ d ih =>
    intro i acc p e1 e2 hs p0 p1
    refine EvP.step (g' := fun k => (spec_l91Parts.f k b p n).bind fun bt167 => (if acc.length < 5864062014805 then (spec_l91Types.l0 k n (acc ++ [bt167.1]) m ((i + 1 : Nat) : Int) b bt167.2) else (none))) ?_ (fun k => by simp only [spec_l91Types.l0]; rw [if_pos (by omega), wrs i (by omega)])
    refine EvP.bind (parts_p b hb p n h0 h1 p0 (by omega)) ?_
    rintro ⟨x, p'⟩ ⟨h, q0, q1⟩
    simp only at h q0 q1
    dsimp only
    refine EvP.pos (by omega) ?_
    exact ih (i + 1) (acc ++ [x]) p' (by omega) (by simp [e2]) (hs.app _ h) (by omega) (by omega)
theorem types_p (b : List Int) (hb : RB b) (p a m : Int) (h0 : 1 ≤ a) (ha : a ≤ 6) (m0 : 1 ≤ m) (m1 : m ≤ 10) (h4 : 0 ≤ p) (h5 : p ≤ 1000) :
    EvP (fun k => spec_l91Types.f k b p a m) (fun r => r.1.length ≤ 12 ∧ Short r.1) := by
  unfold spec_l91Types.f
  refine EvP.bind (pick_p b p a hb h4 (by omega) (by omega) (by omega)) ?_
  rintro ⟨v, p'⟩ ⟨⟨v0, v1⟩, e⟩
  simp only at v0 v1 e
  subst e
  dsimp only
  refine EvP.bind (pick_p b (p + 1) m hb (by omega) (by omega) (by omega) (by omega)) ?_
  rintro ⟨u, p'⟩ ⟨⟨u0, u1⟩, e⟩
  simp only at u0 u1 e
  subst e
  dsimp only
  obtain ⟨j, rfl⟩ := Int.eq_ofNat_of_zero_le u0
  rw [wr (1 + v) (by omega) (by omega), show wrap64 (1 + (j : Int)) = ((1 + j : Nat) : Int) by rw [wr _ (by omega) (by omega)]; omega]
  exact EvP.mono (types_loop b hb (1 + v) (by omega) (by omega) (1 + j) (by omega) (1 + j) 0 [] _ (by omega) rfl (fun x hx => by simp at hx) (by omega) (by omega)) (fun r h => ⟨by omega, h.2⟩)
end Go.Proofs.Ytehlokjlcbegoaa.Ltdraw
