import Derived.Test.YtonlecigglbohaaB1
import Derived.Test.YtonlecigglbohaaM6
import Derived.Test.YtonlecigglbohaaL1
import Derived.Test.YtonlecigglbohaaQ1
import Derived.Test.YtonlecigglbohaaQ3
import Derived.Test.YtonlecigglbohaaQ2
import Derived.Test.YtonlecigglbohaaQ5
import Derived.Test.YtonlecigglbohaaQ4
/- Both programs' permutations: valid ones, products, the way back. -/
namespace Go.Proofs.Ytonlecigglbohaa.Lperm
set_option linter.unusedVariables false
set_option linter.unusedSimpArgs false
open Go.RowKit Go.Proofs.YtonlecigglbohaaW.PrintWords Go.Proofs.YtonlecigglbohaaW.PrintMore Go.Proofs.Ytonlecigglbohaa.Q Go.Proofs.Ytonlecigglbohaa.M Go.Proofs.Ytonlecigglbohaa.B

def okI (p : List Int) (i : Nat) : Bool := decide (0 ≤ nth p i ∧ nth p i < p.length) && allFrom (fun j => decide (nth p j ≠ nth p i)) 0 i
def pB (p : List Int) : Bool := decide (1 ≤ p.length ∧ p.length ≤ 12) && allFrom (okI p) 0 p.length
theorem okI_iff (p : List Int) (i : Nat) : okI p i = true ↔ (0 ≤ nth p i ∧ nth p i < p.length) ∧ ∀ j, j < i → nth p j ≠ nth p i := by
  unfold okI
  rw [Bool.and_eq_true, decide_eq_true_eq, allFrom_iff]
  simp only [decide_eq_true_eq]
  exact ⟨fun ⟨a, b⟩ => ⟨a, fun j hj => b j (Nat.zero_le _) (by omega)⟩, fun ⟨a, b⟩ => ⟨a, fun j _ hj => b j (by omega)⟩⟩
theorem pB_iff (p : List Int) : pB p = true ↔ (1 ≤ p.length ∧ p.length ≤ 12) ∧ Into p ∧ Inj p := by
  unfold pB
  rw [Bool.and_eq_true, decide_eq_true_eq, allFrom_iff]
  refine and_congr Iff.rfl ?_
  constructor
  · intro h
    have k : ∀ i, i < p.length → (0 ≤ nth p i ∧ nth p i < p.length) ∧ ∀ j, j < i → nth p j ≠ nth p i := fun i hi => (okI_iff p i).1 (h i (Nat.zero_le _) (by omega))
    refine ⟨fun i hi => (k i hi).1, fun i j hi hj e => ?_⟩
    rcases Nat.lt_trichotomy i j with g | g | g
    · exact absurd e ((k j hj).2 i g)
    · exact g
    · exact absurd e.symm ((k i hi).2 j g)
  · rintro ⟨h1, h2⟩ i _ hi
    exact (okI_iff p i).2 ⟨h1 i (by omega), fun j hj e => by have := h2 j i (by omega) (by omega) e; omega⟩
theorem spec_in (p : List Int) (hl : p.length ≤ 35184372088832) (i : Nat) (hi : i < p.length) (R : Bool) (hR : Ev (fun k => spec_PermValid.l0 k p ((i + 1 : Nat) : Int)) R) : ∀ (d j : Nat), j + d = i → Ev (fun k => spec_PermValid.l1 k p i j) (if allFrom (fun j => decide (nth p j ≠ nth p i)) j d = true then R else false) := by
  intro d
  induction d with
  | zero =>
    intro j h
    refine Ev.step (fun k => ?_) (Ev.same hR (by simp [allFrom]))
    simp only [spec_PermValid.l1]
    rw [if_neg (by omega), wrs i (by omega)]
  | succ d ih =>
    intro j h
    by_cases e : nth p j = nth p i
    · refine Ev.ret (fun k => ?_)
      simp only [spec_PermValid.l1]
      rw [if_pos (by omega), if_pos (by omega), if_pos (by omega), if_pos (by omega), if_pos (by omega), rdn, rdn, if_pos e]
      simp [allFrom, e]
    · refine Ev.step (fun k => ?_) (Ev.same (ih (j + 1) (by omega)) (by simp [allFrom, e]))
      simp only [spec_PermValid.l1]
      rw [if_pos (by omega), if_pos (by omega), if_pos (by omega), if_pos (by omega), if_pos (by omega), rdn, rdn, if_neg e, wrs j (by omega)]
theorem spec_loop (p : List Int) (hl : p.length ≤ 35184372088832) : ∀ (d i : Nat), i + d = p.length → Ev (fun k => spec_PermValid.l0 k p i) (if allFrom (okI p) i d = true then decide (1 ≤ p.length ∧ p.length ≤ 12) else false) := by
  intro d
  induction d with
  | zero =>
    intro i h
    refine Ev.ret (fun k => ?_)
    simp only [spec_PermValid.l0]
    rw [if_neg (by omega), L1.l6In]
    simp only [allFrom, if_true, Option.bind_some]
    congr 1
    exact decide_eq_decide.2 (by omega)
  | succ d ih =>
    intro i h
    by_cases e : 0 ≤ nth p i ∧ nth p i < p.length
    · refine Ev.step (fun k => ?_) (Ev.same (spec_in p hl i (by omega) _ (ih (i + 1) (by omega)) i 0 (by omega)) ?_)
      · simp only [spec_PermValid.l0]
        rw [if_pos (by omega), if_pos (by omega), rdn, L1.l6In, wr _ (by omega) (by omega)]
        simp only [Option.bind_some]
        rw [decide_eq_true (by omega), if_pos rfl]; rfl
      · simp only [allFrom, okI, decide_eq_true e, Bool.true_and]
        cases allFrom (fun j => decide (nth p j ≠ nth p i)) 0 i <;> simp
    · refine Ev.ret (fun k => ?_)
      simp only [spec_PermValid.l0]
      rw [if_pos (by omega), if_pos (by omega), rdn, L1.l6In, wr _ (by omega) (by omega)]
      simp only [Option.bind_some]
      rw [decide_eq_false (by omega), if_neg (by simp)]
      simp [allFrom, okI, e]
theorem spec_pv (p : List Int) (hl : p.length ≤ 35184372088832) : Ev (fun k => spec_PermValid.f k p) (pB p) := by
  refine Ev.same (Ev.congr (fun k => show spec_PermValid.f k p = spec_PermValid.l0 k p ((0 : Nat) : Int) from rfl) (spec_loop p hl p.length 0 (by omega))) ?_
  unfold pB
  cases allFrom (okI p) 0 p.length <;> simp
theorem impl_loop (p : List Int) (hn : p.length ≤ 12) : ∀ (d i : Nat) (seen : List Bool), i + d = p.length → seen.length = 12 → (∀ x : Nat, x < 12 → (nth seen x = true ↔ ∃ j, j < i ∧ nth p j = x)) → impl_PermValid.lp p d i seen = allFrom (okI p) i d := by
  intro d
  induction d with
  | zero => intro i seen _ _ _; rfl
  | succ d ih =>
    intro i seen h1 h2 h3
    simp only [impl_PermValid.lp, allFrom, rdn, rdb_eq]
    by_cases c1 : nth p i < 0
    · rw [if_pos c1]
      have : okI p i = false := Bool.eq_false_iff.2 (fun h => by have := (okI_iff p i).1 h; omega)
      rw [this]; rfl
    rw [if_neg c1]
    by_cases c2 : (p.length : Int) ≤ nth p i
    · rw [if_pos c2]
      have : okI p i = false := Bool.eq_false_iff.2 (fun h => by have := (okI_iff p i).1 h; omega)
      rw [this]; rfl
    rw [if_neg c2]
    by_cases c3 : nth seen (nth p i).toNat = true
    · rw [if_pos c3]
      obtain ⟨j, hj, e⟩ := (h3 _ (by omega)).1 c3
      have : okI p i = false := Bool.eq_false_iff.2 (fun h => by have := ((okI_iff p i).1 h).2 j hj; omega)
      rw [this]; rfl
    · rw [if_neg c3]
      have : okI p i = true := (okI_iff p i).2 ⟨by omega, fun j hj e => c3 ((h3 _ (by omega)).2 ⟨j, hj, by omega⟩)⟩
      rw [this, Bool.true_and]
      refine ih (i + 1) _ (by omega) (by simpa using h2) (fun x hx => ?_)
      rw [nth_set]
      by_cases g : (nth p i).toNat = x
      · rw [if_pos ⟨g, by omega⟩]
        simp only [true_iff]
        exact ⟨i, by omega, by omega⟩
      · rw [if_neg (fun q => g q.1), h3 x hx]
        constructor
        · rintro ⟨j, hj, e⟩; exact ⟨j, by omega, e⟩
        · rintro ⟨j, hj, e⟩
          refine ⟨j, ?_, e⟩
          refine Nat.lt_of_le_of_ne (by omega) (fun q => g (by rw [q] at e; omega))
theorem impl_pv (p : List Int) : impl_PermValid.f p = some (pB p) := by
  unfold impl_PermValid.f pB
  by_cases c1 : p.length < 1
  · rw [if_pos c1, decide_eq_false (by omega)]; rfl
  rw [if_neg c1]
  by_cases c2 : 12 < p.length
  · rw [if_pos c2, decide_eq_false (by omega)]; rfl
  rw [if_neg c2, decide_eq_true (by omega), Bool.true_and, impl_loop p (by omega) p.length 0 _ (by omega) (by simp) (fun x hx => by
    rw [nth_replicate _ _ _ hx]
    simp)]
/-- the one's numbers are the other's places -/
def Fit (a b : List Int) : Prop := ∀ i, i < a.length → 0 ≤ nth a i ∧ nth a i < b.length
theorem mul_loop (a b : List Int) (h : Fit a b) (ha : a.length ≤ 35184372088832) : ∀ (d i : Nat) (acc : List Int), i + d = a.length → acc.length = a.length → (∀ j, j < i → nth acc j = nth (ml a b) j) → Ev (fun k => impl_mul.l0 k b acc a a.length i) (ml a b) := by
  intro d
  induction d with
  | zero =>
    intro i acc h1 h2 h3
    have e : acc = ml a b := ext_nth (by rw [h2, ml_len]) (fun j hj => h3 j (by omega))
    refine Ev.ret (fun k => ?_)
    simp only [impl_mul.l0]
    rw [if_neg (by omega), e]
  | succ d ih =>
    intro i acc h1 h2 h3
    have hx := h i (by omega)
    refine Ev.step (fun k => ?_) (ih (i + 1) (acc.set i (nth b (fn a i))) (by omega) (by simpa using h2) (fun j hj => ?_))
    · simp only [impl_mul.l0]
      rw [if_pos (by omega), if_pos (by omega), if_pos (by omega), rdn, if_pos (by omega), if_pos (by omega), if_pos (by omega), wrs i (by omega), rd_eq]
      rfl
    · by_cases e : i = j
      · subst e; rw [nth_set_self _ _ _ (by omega), ml_nth _ _ _ (by omega)]
      · rw [nth_set_ne _ _ _ _ e]; exact h3 j (by omega)
theorem impl_ml (a b : List Int) (h : Fit a b) (ha : a.length ≤ 35184372088832) : Ev (fun k => impl_mul.f k a b) (ml a b) := by
  refine Ev.congr (fun k => ?_) (mul_loop a b h ha a.length 0 (List.replicate a.length 0) (by omega) (by simp) (fun j hj => by omega))
  unfold impl_mul.f
  rw [if_pos (by omega), if_pos (by omega)]; rfl
theorem smul_loop (a b : List Int) (h : Fit a b) (ha : a.length ≤ 17592186044416) : ∀ (d i : Nat) (acc : List Int), i + d = a.length → acc.length = i → (∀ j, j < i → nth acc j = nth (ml a b) j) → Ev (fun k => spec_l1Mul.l0 k a b acc i) (ml a b) := by
  intro d
  induction d with
  | zero =>
    intro i acc h1 h2 h3
    have e : acc = ml a b := ext_nth (by rw [h2, ml_len]; omega) (fun j hj => h3 j (by omega))
    refine Ev.ret (fun k => ?_)
    simp only [spec_l1Mul.l0]
    rw [if_neg (by omega), e]
  | succ d ih =>
    intro i acc h1 h2 h3
    have hx := h i (by omega)
    refine Ev.step (fun k => ?_) (ih (i + 1) (acc ++ [nth b (fn a i)]) (by omega) (by simp [h2]) (fun j hj => ?_))
    · simp only [spec_l1Mul.l0]
      rw [if_pos (by omega), if_pos (by omega), rdn, if_pos (by omega), if_pos (by omega), if_pos (by omega), wrs i (by omega), rd_eq]
      rfl
    · by_cases e : j = i
      · subst e; rw [← h2, nth_app_last, h2, ml_nth _ _ _ (by omega)]
      · rw [nth_app_lt _ _ _ (by omega)]; exact h3 j (by omega)
theorem spec_ml (a b : List Int) (h : Fit a b) (ha : a.length ≤ 17592186044416) : Ev (fun k => spec_l1Mul.f k a b) (ml a b) :=
  Ev.congr (fun k => by unfold spec_l1Mul.f; rfl) (smul_loop a b h ha a.length 0 [] (by omega) rfl (fun j hj => by omega))
theorem back_loop (p : List Int) (h : Into p) (ha : p.length ≤ 35184372088832) : ∀ (d i : Nat) (acc : List Int), i + d = p.length → acc.length = p.length → Ev (fun k => impl_back.l0 k acc p p.length i) (bkLoop p d i acc) := by
  intro d
  induction d with
  | zero =>
    intro i acc h1 h2
    refine Ev.ret (fun k => ?_)
    simp only [impl_back.l0]
    rw [if_neg (by omega)]; rfl
  | succ d ih =>
    intro i acc h1 h2
    have hx := h i (by omega)
    refine Ev.step (fun k => ?_) (ih (i + 1) (acc.set (fn p i) i) (by omega) (by simpa using h2))
    simp only [impl_back.l0]
    rw [if_pos (by omega), if_pos (by omega), if_pos (by omega), rdn, if_pos (by omega), if_pos (by omega), wrs i (by omega)]
    rfl
theorem impl_bk (p : List Int) (h : Into p) (ha : p.length ≤ 35184372088832) : Ev (fun k => impl_back.f k p) (bk p) := by
  refine Ev.congr (fun k => ?_) (back_loop p h ha p.length 0 (List.replicate p.length 0) (by omega) (by simp))
  unfold impl_back.f
  rw [if_pos (by omega), if_pos (by omega)]; rfl
theorem sback_loop (p : List Int) (h : Into p) (ha : p.length ≤ 35184372088832) : ∀ (d i : Nat) (acc : List Int), i + d = p.length → acc.length = p.length → Ev (fun k => spec_l1Back.l0 k p acc i) (bkLoop p d i acc) := by
  intro d
  induction d with
  | zero =>
    intro i acc h1 h2
    refine Ev.ret (fun k => ?_)
    simp only [spec_l1Back.l0]
    rw [if_neg (by omega)]; rfl
  | succ d ih =>
    intro i acc h1 h2
    have hx := h i (by omega)
    refine Ev.step (fun k => ?_) (ih (i + 1) (acc.set (fn p i) i) (by omega) (by simpa using h2))
    simp only [spec_l1Back.l0]
    rw [if_pos (by omega), if_pos (by omega), rdn, if_pos (by omega), if_pos (by omega), wrs i (by omega)]
    rfl
theorem spec_bk (p : List Int) (h : Into p) (ha : p.length ≤ 35184372088832) : Ev (fun k => spec_l1Back.f k p) (bk p) := by
  refine Ev.congr (fun k => ?_) (sback_loop p h ha p.length 0 (List.replicate p.length 0) (by omega) (by simp))
  unfold spec_l1Back.f
  rw [if_pos (by omega), if_pos (by omega)]; rfl
def idl (n : Nat) : List Int := (List.range n).map fun (i : Nat) => (i : Int)
theorem idl_len (n : Nat) : (idl n).length = n := by simp [idl]
theorem idl_nth (n i : Nat) (h : i < n) : nth (idl n) i = i := by
  unfold idl; rw [nth_map _ _ _ (by simpa using h), nth_range _ _ h]
theorem still_loop (n : Nat) (ha : n ≤ 35184372088832) : ∀ (d i : Nat) (acc : List Int), i + d = n → acc.length = n → (∀ j, j < i → nth acc j = j) → Ev (fun k => impl_still.l0 k acc n i) (idl n) := by
  intro d
  induction d with
  | zero =>
    intro i acc h1 h2 h3
    have e : acc = idl n := ext_nth (by rw [h2, idl_len]) (fun j hj => by rw [h3 j (by omega), idl_nth _ _ (by omega)])
    refine Ev.ret (fun k => ?_)
    simp only [impl_still.l0]
    rw [if_neg (by omega), e]
  | succ d ih =>
    intro i acc h1 h2 h3
    refine Ev.step (fun k => ?_) (ih (i + 1) (acc.set i (i : Int)) (by omega) (by simpa using h2) (fun j hj => ?_))
    · simp only [impl_still.l0]
      rw [if_pos (by omega), if_pos (by omega), if_pos (by omega), wrs i (by omega)]
      rfl
    · by_cases e : i = j
      · subst e; rw [nth_set_self _ _ _ (by omega)]
      · rw [nth_set_ne _ _ _ _ e]; exact h3 j (by omega)
theorem impl_st (n : Nat) (ha : n ≤ 35184372088832) : Ev (fun k => impl_still.f k (n : Int)) (idl n) := by
  refine Ev.congr (fun k => ?_) (still_loop n ha n 0 (List.replicate n 0) (by omega) (by simp) (fun j hj => by omega))
  unfold impl_still.f
  rw [if_pos (by omega), if_pos (by omega)]
  show impl_still.l0 k (List.replicate n 0) ((List.replicate n (0 : Int)).length : Int) 0 = _
  rw [List.length_replicate]; rfl
theorem same_loop (n : Nat) (ha : n ≤ 17592186044416) : ∀ (d i : Nat) (acc : List Int), i + d = n → acc.length = i → (∀ j, j < i → nth acc j = j) → Ev (fun k => spec_l1Same.l0 k n acc i) (idl n) := by
  intro d
  induction d with
  | zero =>
    intro i acc h1 h2 h3
    have e : acc = idl n := ext_nth (by rw [h2, idl_len]; omega) (fun j hj => by rw [h3 j (by omega), idl_nth _ _ (by omega)])
    refine Ev.ret (fun k => ?_)
    simp only [spec_l1Same.l0]
    rw [if_neg (by omega), e]
  | succ d ih =>
    intro i acc h1 h2 h3
    refine Ev.step (fun k => ?_) (ih (i + 1) (acc ++ [(i : Int)]) (by omega) (by simp [h2]) (fun j hj => ?_))
    · simp only [spec_l1Same.l0]
      rw [if_pos (by omega), if_pos (by omega), wrs i (by omega)]
    · by_cases e : j = i
      · subst e; rw [← h2, nth_app_last, h2]
      · rw [nth_app_lt _ _ _ (by omega)]; exact h3 j (by omega)
theorem spec_id (n : Nat) (ha : n ≤ 17592186044416) : Ev (fun k => spec_l1Same.f k (n : Int)) (idl n) :=
  Ev.congr (fun k => by unfold spec_l1Same.f; rfl) (same_loop n ha n 0 [] (by omega) rfl (fun j hj => by omega))
end Go.Proofs.Ytonlecigglbohaa.Lperm
