/- Sums over lists, and the class algebra of a symmetric group out of its tables: no program in sight. -/
namespace Go.Proofs.Ytehlokjlcbegoaa.Alg
set_option linter.unusedVariables false
set_option linter.unusedSimpArgs false
set_option linter.unusedSectionVars false
def sumL {α : Type} (P : List α) (f : α → Int) : Int := match P with
  | [] => 0
  | x :: xs => f x + sumL xs f
variable {α β : Type}
theorem sumL_nil (f : α → Int) : sumL [] f = 0 := rfl
theorem sumL_cons (x : α) (xs : List α) (f : α → Int) : sumL (x :: xs) f = f x + sumL xs f := rfl
theorem sumL_congr {P : List α} {f g : α → Int} (h : ∀ x ∈ P, f x = g x) : sumL P f = sumL P g := by
  induction P with
  | nil => rfl
  | cons x xs ih =>
    rw [sumL_cons, sumL_cons, h x (by simp), ih (fun y hy => h y (List.mem_cons_of_mem _ hy))]
theorem sumL_zero (P : List α) : sumL P (fun _ => 0) = 0 := by
  induction P with
  | nil => rfl
  | cons x xs ih => rw [sumL_cons, ih]; rfl
theorem sumL_mul (P : List α) (a : Int) (f : α → Int) : a * sumL P f = sumL P (fun x => a * f x) := by
  induction P with
  | nil => simp [sumL_nil]
  | cons x xs ih => rw [sumL_cons, sumL_cons, Int.mul_add, ih]
theorem sumL_add (P : List α) (f g : α → Int) : sumL P (fun x => f x + g x) = sumL P f + sumL P g := by
  induction P with
  | nil => rfl
  | cons x xs ih => rw [sumL_cons, sumL_cons, sumL_cons, ih]; omega
theorem sumL_comm (P : List α) (Q : List β) (f : α → β → Int) : sumL P (fun x => sumL Q (fun y => f x y)) = sumL Q (fun y => sumL P (fun x => f x y)) := by
  induction P with
  | nil => simp only [sumL_nil]; rw [sumL_zero]
  | cons x xs ih => rw [sumL_cons, ih, ← sumL_add]; exact sumL_congr (fun y _ => by rw [sumL_cons])
theorem sumL_single [DecidableEq α] (P : List α) (hn : P.Nodup) (a : α) (ha : a ∈ P) (f : α → Int) : sumL P (fun x => if x = a then f x else 0) = f a := by
  induction P with
  | nil => cases ha
  | cons x xs ih =>
    obtain ⟨h1, h2⟩ := List.nodup_cons.1 hn
    rw [sumL_cons]
    by_cases e : x = a
    · subst e
      rw [if_pos rfl, sumL_congr (g := fun _ => 0) (fun y hy => if_neg (fun e' => h1 (by rw [← e']; exact hy))), sumL_zero]; omega
    · rw [if_neg e, ih h2 (by rcases List.mem_cons.1 ha with h | h; exact absurd h.symm e; exact h)]; omega
def prodL (ts : List α) (g : α → Int) : Int := match ts with
  | [] => 1
  | t :: ts => g t * prodL ts g
theorem prodL_cons (t : α) (ts : List α) (g : α → Int) : prodL (t :: ts) g = g t * prodL ts g := rfl
theorem prodL_append (ts us : List α) (g : α → Int) : prodL (ts ++ us) g = prodL ts g * prodL us g := by
  induction ts with
  | nil => show _ = 1 * _; rw [Int.one_mul]; rfl
  | cons t ts ih => rw [List.cons_append, prodL_cons, prodL_cons, ih, Int.mul_assoc]
theorem prodL_reverse (ts : List α) (g : α → Int) : prodL ts.reverse g = prodL ts g := by
  induction ts with
  | nil => rfl
  | cons t ts ih => rw [List.reverse_cons, prodL_append, ih, prodL_cons, prodL_cons]; show _ * (_ * 1) = _; rw [Int.mul_one, Int.mul_comm]
theorem prodL_snoc (ts : List α) (t : α) (g : α → Int) : prodL (ts ++ [t]) g = g t * prodL ts g := by
  rw [prodL_append]; show _ * (_ * 1) = _; rw [Int.mul_one, Int.mul_comm]
theorem prodL_congr {ts : List α} {f g : α → Int} (h : ∀ x ∈ ts, f x = g x) : prodL ts f = prodL ts g := by
  induction ts with
  | nil => rfl
  | cons x xs ih =>
    rw [prodL_cons, prodL_cons, h x (by simp), ih (fun y hy => h y (List.mem_cons_of_mem _ hy))]
section
variable [DecidableEq α] (P : List α) (F : Int) (f : α → Int) (om : α → α → Int) (cs : α → Int) (one top : α) (c : α → α → α → Int)
structure Tables : Prop where
  F0 : 0 < F
  nd : P.Nodup
  oneM : one ∈ P
  topM : top ∈ P
  mul : ∀ t ∈ P, ∀ u ∈ P, ∀ s ∈ P, om s t * om s u = sumL P (fun v => c t u v * om s v)
  orth : ∀ u ∈ P, ∀ v ∈ P, sumL P (fun s => f s * f s * (om s u * om s v)) = if u = v then F * cs v else 0
  triv : ∀ t ∈ P, om top t = cs t
  unit : ∀ s ∈ P, om s one = 1
variable {P F f om cs one top c}
theorem coef (h : Tables P F f om cs one top c) : ∀ ts : List α, (∀ t ∈ ts, t ∈ P) → ∃ a : α → Int, ∀ s ∈ P, prodL ts (om s) = sumL P (fun v => a v * om s v) := by
  intro ts
  induction ts with
  | nil =>
    intro _
    refine ⟨fun v => if v = one then 1 else 0, fun s hs => ?_⟩
    rw [sumL_congr (g := fun v => if v = one then om s v else 0) (fun v _ => by by_cases e : v = one <;> simp [e]), sumL_single P h.nd one h.oneM, h.unit s hs]; rfl
  | cons t ts ih =>
    intro ht
    obtain ⟨a, ha⟩ := ih (fun u hu => ht u (List.mem_cons_of_mem _ hu))
    refine ⟨fun v => sumL P (fun u => a u * c t u v), fun s hs => ?_⟩
    rw [prodL_cons, ha s hs, sumL_mul]
    rw [sumL_congr (g := fun u => sumL P (fun v => a u * c t u v * om s v)) (fun u hu => by
      rw [Int.mul_left_comm, h.mul t (ht t (by simp)) u hu s hs, sumL_mul]
      exact sumL_congr (fun v _ => by rw [Int.mul_assoc]))]
    rw [sumL_comm]
    refine sumL_congr (fun v _ => ?_)
    rw [Int.mul_comm _ (om s v), sumL_mul]
    exact sumL_congr (fun u _ => Int.mul_comm _ _)
def S (P : List α) (f : α → Int) (om : α → α → Int) (ts : List α) : Int := sumL P (fun s => f s * f s * prodL ts (om s))
/-- the sum over all shapes, with one type ahead: the coefficient of that type -/
theorem S_cons (h : Tables P F f om cs one top c) (ts : List α) (a : α → Int) (ha : ∀ s ∈ P, prodL ts (om s) = sumL P (fun v => a v * om s v)) (l : α) (hl : l ∈ P) : S P f om (l :: ts) = F * (a l * cs l) := by
  unfold S
  rw [sumL_congr (g := fun s => sumL P (fun v => a v * (f s * f s * (om s v * om s l)))) (fun s hs => by
    rw [prodL_cons, ha s hs, sumL_mul, sumL_mul]
    exact sumL_congr (fun v _ => by simp only [Int.mul_comm, Int.mul_left_comm, Int.mul_assoc]))]
  rw [sumL_comm]
  rw [sumL_congr (g := fun v => if v = l then a v * (F * cs v) else 0) (fun v hv => by
    rw [← sumL_mul, h.orth v hv l hl]
    by_cases e : v = l
    · rw [if_pos e, if_pos e, e]
    · rw [if_neg e, if_neg e, Int.mul_zero])]
  rw [sumL_single P h.nd l hl, Int.mul_left_comm]
theorem S_one (h : Tables P F f om cs one top c) (ts : List α) : S P f om (one :: ts) = S P f om ts := by
  unfold S
  exact sumL_congr (fun s hs => by rw [prodL_cons, h.unit s hs, Int.one_mul])
/-- over all last types: the product of the classes' sizes -/
theorem whole (h : Tables P F f om cs one top c) (ts : List α) (ht : ∀ t ∈ ts, t ∈ P) : sumL P (fun l => Int.tdiv (S P f om (ts ++ [l])) F) = prodL ts cs := by
  obtain ⟨a, ha⟩ := coef h ts ht
  have e : ∀ l ∈ P, Int.tdiv (S P f om (ts ++ [l])) F = a l * om top l := by
    intro l hl
    have e1 : S P f om (ts ++ [l]) = S P f om (l :: ts) := sumL_congr (fun s _ => by rw [prodL_snoc, prodL_cons])
    have h0 := h.F0
    rw [e1, S_cons h ts a ha l hl, Int.mul_tdiv_cancel_left _ (by omega), h.triv l hl]
  rw [sumL_congr e, ← ha top h.topM]
  exact prodL_congr (fun t hx => h.triv t (ht t hx))
theorem S_snoc_one (h : Tables P F f om cs one top c) (ts : List α) : S P f om (ts ++ [one]) = S P f om ts := by
  rw [← S_one h ts]; exact sumL_congr (fun s _ => by rw [prodL_snoc, prodL_cons])
theorem S_reverse (ts : List α) : S P f om ts.reverse = S P f om ts := sumL_congr (fun s _ => by rw [prodL_reverse])
end
end Go.Proofs.Ytehlokjlcbegoaa.Alg
