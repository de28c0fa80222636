import Derived.Test.YtonlecigglbohaaLcyc
import Derived.Test.YtonlecigglbohaaLperm
import Derived.Test.YtonlecigglbohaaQ4
import Derived.Test.YtonlecigglbohaaQ5
/- The type of a permutation: both programs sort the lengths of its cycles. -/
namespace Go.Proofs.Ytonlecigglbohaa.Ltype
set_option linter.unusedVariables false
set_option linter.unusedSimpArgs false
open Go.RowKit Go.Proofs.YtonlecigglbohaaW.PrintWords Go.Proofs.YtonlecigglbohaaW.PrintMore Go.Proofs.Ytonlecigglbohaa.Q Go.Proofs.Ytonlecigglbohaa.M Go.Proofs.Ytonlecigglbohaa.B Go.Proofs.Ytonlecigglbohaa.Lperm

theorem rdl (l : List (List Int)) (i : Nat) : rd_L2 l (i : Int) = nth l i := by
  show l.getD (i : Int).toNat [] = l.getD i default
  rw [Int.toNat_natCast]; rfl
/-- from L down: each length so often as it stands there -/
def canon (c : List Nat) : Nat → List Int
  | 0 => []
  | L + 1 => List.replicate (c.count (L + 1)) ((L + 1 : Nat) : Int) ++ canon c L
theorem canon_congr (c d : List Nat) (h : ∀ L, c.count L = d.count L) : ∀ L, canon c L = canon d L
  | 0 => rfl
  | L + 1 => by simp only [canon]; rw [h, canon_congr c d h L]
/-- all lists of numbers from 1 on with a sum -/
def comps : Nat → Nat → List (List Nat)
  | 0, _ => [[]]
  | f + 1, n => if n = 0 then [[]] else (List.range n).flatMap fun x => (comps f (n - (x + 1))).map fun l => (x + 1) :: l
theorem mem_comps : ∀ (f n : Nat) (l : List Nat), (∀ x ∈ l, 1 ≤ x) → l.sum = n → n ≤ f → l ∈ comps f n
  | 0, n, l, h1, h2, h3 => by
    cases l with
    | nil => simp [comps]
    | cons x xs => have := h1 x (by simp); simp at h2; omega
  | f + 1, n, [], h1, h2, h3 => by simp at h2; subst h2; simp [comps]
  | f + 1, n, x :: xs, h1, h2, h3 => by
    have hx := h1 x (by simp)
    simp only [List.sum_cons] at h2
    simp only [comps]
    rw [if_neg (by omega)]
    refine List.mem_flatMap.2 ⟨x - 1, by simp; omega, List.mem_map.2 ⟨xs, mem_comps f _ xs (fun y hy => h1 y (List.mem_cons_of_mem _ hy)) (by omega) (by omega), by rw [show x - 1 + 1 = x by omega]⟩⟩
def ints (c : List Nat) : List Int := c.map fun (x : Nat) => (x : Int)
/-- what the program does behind the cycles -/
def tail (k : Nat) (l : List Int) : Option (List Int) := (slices_Sort_int_int.f k l).bind fun t1319 => (slices_Reverse_int_int.f k t1319).bind fun t1320 => some t1320
theorem tail_mono (l : List Int) : ∀ k, LeO (tail k l) (tail (k + 1) l) := by
  intro k
  unfold tail
  repeat' first
      | (with_reducible exact slices_Sort_int_int.mono _ _)
      | (with_reducible exact slices_Reverse_int_int.mono _ _)
      | (with_reducible exact LeO.refl _)
      | (with_reducible exact LeO.none _)
      | (with_reducible refine LeO.ite ?_ ?_)
      | (with_reducible refine LeO.bind ?_ (fun _ => ?_))
def desc : List Int → Bool
  | [] => true
  | [_] => true
  | x :: y :: l => decide (y ≤ x) && desc (y :: l)
def sumz : List Int → Int
  | [] => 0
  | x :: xs => x + sumz xs
def tchk (n : Nat) (c : List Nat) : Bool := (tail 200 (ints c) == some (canon c n)) && desc (canon c n) && decide (sumz (canon c n) = n) && decide ((canon c n).length = c.length)
theorem tail_all : (List.range 10).all (fun n => (comps 9 n).all (tchk n)) = true := by decide +kernel
def lens (p : List Int) : List Nat := (cycles p).map List.length
theorem lens_pos (p : List Int) (hp : Into p) (hj : Inj p) : ∀ x ∈ lens p, 1 ≤ x := by
  intro x hx
  obtain ⟨c, hc, rfl⟩ := List.mem_map.1 hx
  obtain ⟨y, hy⟩ := (cycles_ok p hp hj).1 c hc
  exact hy.2.1
theorem lens_sum (p : List Int) (hp : Into p) (hj : Inj p) : (lens p).sum = p.length := cycles_sum p hp hj
theorem lens_few (p : List Int) (hp : Into p) (hj : Inj p) : (cycles p).length ≤ p.length := by
  have h : ∀ l : List Nat, (∀ x ∈ l, 1 ≤ x) → l.length ≤ l.sum := by
    intro l
    induction l with
    | nil => intro _; simp
    | cons x xs ih => intro h; have := ih (fun y hy => h y (List.mem_cons_of_mem _ hy)); have := h x (by simp); simp; omega
  have := h (lens p) (lens_pos p hp hj)
  rw [lens_sum p hp hj] at this
  simpa [lens] using this
def typ (p : List Int) : List Int := canon (lens p) p.length
theorem typ_chk (p : List Int) (hp : Into p) (hj : Inj p) (hn : p.length ≤ 9) : tchk p.length (lens p) = true := by
  have h := List.all_eq_true.1 tail_all p.length (by simp; omega)
  exact List.all_eq_true.1 h _ (mem_comps 9 p.length (lens p) (lens_pos p hp hj) (lens_sum p hp hj) hn)
theorem impl_loop (p : List Int) (hp : Into p) (hj : Inj p) (hn : p.length ≤ 9) : ∀ (d i : Nat) (acc : List Int), i + d = (cycles p).length → acc.length = i → (∀ j, j < i → nth acc j = nth (ints (lens p)) j) → Ev (fun k => impl_typeOf.l0 k acc (cycles p) ((cycles p).length : Int) i) (typ p) := by
  have hf := lens_few p hp hj
  intro d
  induction d with
  | zero =>
    intro i acc h1 h2 h3
    have e : acc = ints (lens p) := ext_nth (by simp [ints, lens]; omega) (fun j hj => h3 j (by omega))
    subst e
    have hc := typ_chk p hp hj hn
    simp only [tchk, Bool.and_eq_true, beq_iff_eq] at hc
    have he : Ev (fun k => tail k (ints (lens p))) (typ p) := Ev.of (tail_mono _) hc.1.1.1
    refine Ev.step (fun k => ?_) he
    simp only [impl_typeOf.l0]
    rw [if_neg (by omega)]; rfl
  | succ d ih =>
    intro i acc h1 h2 h3
    refine Ev.step (fun k => ?_) (ih (i + 1) (acc ++ [((nth (cycles p) i).length : Int)]) (by omega) (by simp [h2]) (fun j hj => ?_))
    · simp only [impl_typeOf.l0]
      rw [if_pos (by omega), if_pos (by omega), if_pos (by omega), if_pos (by omega), wrs i (by omega), rdl]
    · by_cases e : j = i
      · subst e
        rw [← h2, nth_app_last, h2]
        unfold ints lens
        rw [nth_map _ _ _ (by simp; omega), nth_map _ _ _ (by omega)]
      · rw [nth_app_lt _ _ _ (by omega)]; exact h3 j (by omega)
theorem impl_typ (p : List Int) (hp : Into p) (hj : Inj p) (hn : p.length ≤ 9) : Ev (fun k => impl_typeOf.f k p) (typ p) := by
  unfold impl_typeOf.f
  refine Ev.bind (Lcyc.impl_cycles p hp (by omega)) ?_
  exact impl_loop p hp hj hn (cycles p).length 0 [] (by omega) rfl (fun j hj => by omega)
theorem spec_in (p : List Int) (hf : (cycles p).length ≤ 1000000) (L : Nat) (hL : L ≤ 1000000) (R : List Int) : ∀ (d i : Nat) (acc : List Int), i + d = (cycles p).length → acc.length + d ≤ 100000000 →
    Ev (fun k => spec_l1Type.l0 k (acc ++ List.replicate (((lens p).drop i).count L) (L : Int)) (cycles p) (wrap64 ((L : Int) - 1))) R → Ev (fun k => spec_l1Type.l1 k acc (cycles p) L i) R := by
  intro d
  induction d with
  | zero =>
    intro i acc h1 h2 h3
    refine Ev.step (fun k => ?_) h3
    simp only [spec_l1Type.l1]
    rw [if_neg (by omega), List.drop_eq_nil_of_le (by simp [lens]; omega)]
    simp
  | succ d ih =>
    intro i acc h1 h2 h3
    have hd : (lens p).drop i = (nth (cycles p) i).length :: (lens p).drop (i + 1) := by
      rw [drop_nth (lens p) i (by simp [lens]; omega)]
      congr 1
      unfold lens; rw [nth_map _ _ _ (by omega)]
    rw [hd, List.count_cons] at h3
    by_cases e : (nth (cycles p) i).length = L
    · refine Ev.step (fun k => ?_) (ih (i + 1) (acc ++ [(L : Int)]) (by omega) (by simp; omega) (Ev.same (Ev.congr (fun k => ?_) h3) rfl))
      · simp only [spec_l1Type.l1]
        rw [if_pos (by omega), if_pos (by omega), rdl, if_pos (by omega), if_pos (by omega), wrs i (by omega)]
      · rw [e]
        simp only [beq_self_eq_true, if_true]
        rw [List.append_assoc, List.replicate_succ]; rfl
    · refine Ev.step (fun k => ?_) (ih (i + 1) acc (by omega) (by omega) (Ev.congr (fun k => ?_) h3))
      · simp only [spec_l1Type.l1]
        rw [if_pos (by omega), if_pos (by omega), rdl, if_neg (by omega), wrs i (by omega)]
      · rw [if_neg (by simpa using e)]; rfl
theorem spec_out (p : List Int) (hf : (cycles p).length ≤ 1000) : ∀ (L : Nat) (acc : List Int), L ≤ 1000 → acc.length + 1000 * L ≤ 10000000 → Ev (fun k => spec_l1Type.l0 k acc (cycles p) L) (acc ++ canon (lens p) L) := by
  intro L
  induction L with
  | zero =>
    intro acc h1 h2
    refine Ev.ret (fun k => ?_)
    simp only [spec_l1Type.l0]
    rw [if_neg (by omega)]; simp [canon]
  | succ L ih =>
    intro acc h1 h2
    refine Ev.step (fun k => ?_) (spec_in p (by omega) (L + 1) (by omega) _ (cycles p).length 0 acc (by omega) (by omega) ?_)
    · simp only [spec_l1Type.l0]
      rw [if_pos (by omega)]; rfl
    · have hc : (lens p).count (L + 1) ≤ 1000 := Nat.le_trans List.count_le_length (by simp [lens]; omega)
      refine Ev.same (Ev.congr (fun k => ?_) (ih (acc ++ List.replicate ((lens p).count (L + 1)) ((L + 1 : Nat) : Int)) (by omega) (by simp; omega))) ?_
      · rw [List.drop_zero, wr _ (by omega) (by omega), show (((L + 1 : Nat) : Int) - 1) = (L : Int) by omega]
      · simp only [canon]; rw [List.append_assoc]
theorem spec_typ (p : List Int) (hp : Into p) (hj : Inj p) (hn : p.length ≤ 1000) : Ev (fun k => spec_l1Type.f k p) (typ p) := by
  unfold spec_l1Type.f
  refine Ev.bind (Lcyc.spec_cycles p hp hn) ?_
  have := lens_few p hp hj
  exact Ev.same (spec_out p (by omega) p.length [] hn (by simp; omega)) (by simp [typ])
end Go.Proofs.Ytonlecigglbohaa.Ltype
