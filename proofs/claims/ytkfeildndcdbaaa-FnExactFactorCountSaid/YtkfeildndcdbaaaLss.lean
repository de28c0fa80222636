import Derived.Test.YtkfeildndcdbaaaL1
import Derived.Test.YtkfeildndcdbaaaQ11
import Derived.Test.YtkfeildndcdbaaaQ1
import Derived.Test.YtkfeildndcdbaaaQ5
/- Slices of slices that come in: their size, their copy, their comparison. -/
namespace Go.Proofs.Ytkfeildndcdbaaa.Lss
set_option linter.unusedVariables false
set_option linter.unusedSimpArgs false
open Go.RowKit Go.Proofs.YtkfeildndcdbaaaW.PrintWords Go.Proofs.YtkfeildndcdbaaaW.PrintMore Go.Proofs.Ytkfeildndcdbaaa.Q Go.Proofs.Ytkfeildndcdbaaa.M Go.Proofs.Ytkfeildndcdbaaa.B Go.Proofs.Ytkfeildndcdbaaa.L1

theorem rdl (l : List (List Int)) (i : Nat) : rd_L1 l (i : Int) = nth l i := by
  show l.getD (i : Int).toNat _ = _
  rw [Int.toNat_natCast]; rfl
theorem sz_loop (l : List (List Int)) (hl : l.length ≤ 1048576) (hx : ∀ x ∈ l, x.length ≤ 9223372036854775807) : ∀ (d i : Nat) (m : Int), i + d = l.length → 0 ≤ m → m ≤ 1048576 →
    ∃ v, Ev (fun k => laws_szIntSS.l0 k l m i) v ∧ (v < 0 ∨ ∀ j, i ≤ j → j < l.length → (nth l j).length ≤ 1048576) := by
  intro d
  induction d with
  | zero =>
    intro i m h h0 h1
    refine ⟨m, Ev.ret (fun k => ?_), .inr (fun j h2 h3 => by omega)⟩
    simp only [laws_szIntSS.l0]
    rw [if_neg (by omega)]
  | succ d ih =>
    intro i m h h0 h1
    have hxi := hx (nth l i) (nth_mem l i (by omega))
    have w1 : wrap64 (m - ((nth l i).length : Int)) = m - ((nth l i).length : Int) := wr _ (by omega) (by omega)
    by_cases c : m - ((nth l i).length : Int) < 0
    · refine ⟨-1, Ev.ret (fun k => ?_), .inl (by omega)⟩
      simp only [laws_szIntSS.l0]
      rw [if_pos (by omega), if_pos (by omega), rdl]
      unfold laws_szIntS.f
      rw [w1, if_pos c, Option.bind_some, if_pos (by omega)]
    · obtain ⟨v, hv, hj⟩ := ih (i + 1) (m - ((nth l i).length : Int)) (by omega) (by omega) (by omega)
      refine ⟨v, Ev.step (fun k => ?_) hv, hj.imp id (fun hj j h2 h3 => ?_)⟩
      · simp only [laws_szIntSS.l0]
        rw [if_pos (by omega), if_pos (by omega), rdl]
        unfold laws_szIntS.f
        rw [w1, if_neg c, Option.bind_some, if_neg c, wrs i (by omega)]
      · by_cases e : j = i
        · rw [e]; omega
        · exact hj j (by omega) h3
theorem sz_ev (l : List (List Int)) (hl : l.length ≤ 9223372036854775807) (hx : ∀ x ∈ l, x.length ≤ 9223372036854775807) :
    ∃ v, Ev (fun k => laws_szIntSS.f k l 1048576) v ∧ (v < 0 ∨ (l.length ≤ 1048576 ∧ ∀ x ∈ l, x.length ≤ 1048576)) := by
  have w1 : wrap64 (1048576 - (l.length : Int)) = 1048576 - (l.length : Int) := wr _ (by omega) (by omega)
  by_cases c : 1048576 - (l.length : Int) < 0
  · refine ⟨-1, Ev.congr (fun k => ?_) (Ev.now _), .inl (by omega)⟩
    unfold laws_szIntSS.f
    rw [w1, if_pos c]
  · obtain ⟨v, hv, hj⟩ := sz_loop l (by omega) hx l.length 0 (1048576 - (l.length : Int)) (by omega) (by omega) (by omega)
    refine ⟨v, Ev.congr (fun k => ?_) hv, hj.imp id (fun hj => ⟨by omega, fun x hx => ?_⟩)⟩
    · unfold laws_szIntSS.f
      rw [w1, if_neg c]; rfl
    · obtain ⟨j, h1, h2⟩ := mem_nth hx
      rw [← h2]; exact hj j (by omega) h1
theorem toIntSS_loop (l : List (List Int)) (hl : l.length ≤ 1048576) (hx : ∀ x ∈ l, x.length ≤ 1048576) : ∀ (d i : Nat) (acc : List (List Int)), acc.length = l.length → i + d = l.length →
    (∀ j, j < i → nth acc j = nth l j) → Ev (fun k => laws_toIntSS.l0 k l acc i) l := by
  intro d
  induction d with
  | zero =>
    intro i acc h1 h2 h3
    have e : acc = l := ext_nth h1 (fun j hj => h3 j (by omega))
    refine Ev.ret (fun k => ?_)
    simp only [laws_toIntSS.l0]
    rw [if_neg (by omega), e]
  | succ d ih =>
    intro i acc h1 h2 h3
    refine Ev.step (f := fun k => (laws_toIntS.f k (nth l i)).bind fun t => laws_toIntSS.l0 k l (acc.set i t) ((i + 1 : Nat) : Int)) (fun k => ?_) (Ev.bind (toIntS (nth l i) (by have := hx _ (nth_mem l i (by omega)); omega)) (ih (i + 1) (acc.set i (nth l i)) (by simpa using h1) (by omega) ?_))
    · simp only [laws_toIntSS.l0]
      rw [if_pos (by omega), if_pos (by omega), rdl]
      congr 1
      funext t
      rw [if_pos (by omega), wrs i (by omega), Int.toNat_natCast]
    · intro j hj
      by_cases e : i = j
      · subst e; rw [nth_set_self _ _ _ (by omega)]
      · rw [nth_set_ne _ _ _ _ e]; exact h3 j (by omega)
theorem toIntSS (l : List (List Int)) (hl : l.length ≤ 1048576) (hx : ∀ x ∈ l, x.length ≤ 1048576) : Ev (fun k => laws_toIntSS.f k l) l := by
  refine Ev.congr (fun k => ?_) (toIntSS_loop l hl hx l.length 0 (List.replicate l.length []) (by simp) (by omega) (fun j hj => by omega))
  unfold laws_toIntSS.f
  rw [if_pos (by omega), if_pos (by simp; omega)]
  rfl
theorem eqSS_loop (l : List (List Int)) (hl : l.length ≤ 1048576) (hx : ∀ x ∈ l, x.length ≤ 1048576) : ∀ (d i : Nat), i + d = l.length → Ev (fun k => laws_eqIntSS.l0 k l l i) true := by
  intro d
  induction d with
  | zero =>
    intro i h
    refine Ev.ret (fun k => ?_)
    simp only [laws_eqIntSS.l0]
    rw [if_neg (by omega)]
  | succ d ih =>
    intro i h
    refine Ev.step (f := fun k => (laws_eqIntS.f k (nth l i) (nth l i)).bind fun t => if t = true then laws_eqIntSS.l0 k l l ((i + 1 : Nat) : Int) else some false) (fun k => ?_) (Ev.bind (eqIntS_self (nth l i) (by have := hx _ (nth_mem l i (by omega)); omega)) (Ev.pos rfl (ih (i + 1) (by omega))))
    simp only [laws_eqIntSS.l0]
    rw [if_pos (by omega), if_pos (by omega), if_pos (by omega), rdl, wrs i (by omega)]
theorem eqSS_self (l : List (List Int)) (hl : l.length ≤ 1048576) (hx : ∀ x ∈ l, x.length ≤ 1048576) : Ev (fun k => laws_eqIntSS.f k l l) true := by
  refine Ev.congr (fun k => ?_) (eqSS_loop l hl hx l.length 0 (by omega))
  unfold laws_eqIntSS.f
  rw [if_pos rfl]; rfl
end Go.Proofs.Ytkfeildndcdbaaa.Lss
