import Derived.Test.YtdaiohcgdpclnaaM1
import Derived.Test.YtdaiohcgdpclnaaWMore
/- Numbers and rounds: words that all laws of this seat use. -/
namespace Go.Proofs.Ytdaiohcgdpclnaa.B
set_option linter.unusedVariables false
set_option linter.unusedSimpArgs false
open Go.RowKit Go.Proofs.YtdaiohcgdpclnaaW.PrintWords Go.Proofs.YtdaiohcgdpclnaaW.PrintMore

theorem wr (x : Int) (h1 : -9223372036854775808 ≤ x) (h2 : x ≤ 9223372036854775807) : wrap64 x = x := by
  unfold wrap64; omega
theorem wrs (i : Nat) (h : i < 4611686018427387904) : wrap64 ((i : Int) + 1) = ((i + 1 : Nat) : Int) := by
  unfold wrap64; omega
theorem rdn (l : List Int) (i : Nat) : rd l (i : Int) = M.nth l i := by
  show l.getD (i : Int).toNat 0 = l.getD i default
  rw [Int.toNat_natCast]; rfl
theorem rd_eq (l : List Int) (x : Int) : rd l x = M.nth l x.toNat := rfl
theorem rdb (l : List Bool) (i : Nat) : rdOf false l (i : Int) = M.nth l i := by
  show l.getD (i : Int).toNat false = l.getD i default
  rw [Int.toNat_natCast]; rfl
theorem rdb_eq (l : List Bool) (x : Int) : rdOf false l x = M.nth l x.toNat := rfl
theorem i64_of_wf {x : Int} (h : (Lit.int .i64 x).wf = true) : -9223372036854775808 ≤ x ∧ x ≤ 9223372036854775807 := by
  have e1 : IntKind.i64.min = -9223372036854775808 := by decide
  have e2 : IntKind.i64.max = 9223372036854775807 := by decide
  simp only [Lit.wf, e1, e2, Bool.and_eq_true, decide_eq_true_eq] at h
  exact h
theorem Ev.uniq {α : Type} {g : Nat → Option α} {a b : α} (h : Ev g a) (h' : Ev g b) : a = b := by
  obtain ⟨K, h⟩ := h; obtain ⟨K', h'⟩ := h'
  have h1 := h (max K K') (Nat.le_max_left _ _)
  have h2 := h' (max K K') (Nat.le_max_right _ _)
  rw [h1] at h2; exact Option.some.inj h2
theorem Ev.ret {α : Type} {g : Nat → Option α} {r : α} (h : ∀ k, g (k + 1) = some r) : Ev g r :=
  Ev.step (f := fun _ => some r) h (Ev.now r)
theorem Ev.same {α : Type} {g : Nat → Option α} {r s : α} (h : Ev g r) (e : r = s) : Ev g s := e ▸ h
/-- a call of what has no rounds -/
theorem Ev.bindc {α β : Type} {c : Option α} {f : Nat → α → Option β} {a : α} {r : β} (h : c = some a) (k : Ev (fun n => f n a) r) : Ev (fun n => c.bind (f n)) r := by
  subst h; exact k
theorem Ev.pos {α : Type} {p : Prop} [Decidable p] {f g : Nat → Option α} {r : α} (h : p) (k : Ev f r) : Ev (fun n => if p then f n else g n) r :=
  Ev.congr (fun _ => if_pos h) k
theorem Ev.neg {α : Type} {p : Prop} [Decidable p] {f g : Nat → Option α} {r : α} (h : ¬ p) (k : Ev g r) : Ev (fun n => if p then f n else g n) r :=
  Ev.congr (fun _ => if_neg h) k
/-- what holds of 0 .. n-1, one by one -/
theorem all_ints (n : Nat) (P : Int → Bool) (h : (List.range n).all (fun i => P (i : Int)) = true) (x : Int) (h0 : 0 ≤ x) (h1 : x < n) : P x = true := by
  have := List.all_eq_true.1 h x.toNat (by simp; omega)
  rwa [Int.toNat_of_nonneg h0] at this
theorem all_ints2 (n m : Nat) (P : Int → Int → Bool) (h : (List.range n).all (fun i => (List.range m).all (fun j => P (i : Int) (j : Int))) = true) (x y : Int) (h0 : 0 ≤ x) (h1 : x < n) (h2 : 0 ≤ y) (h3 : y < m) : P x y = true :=
  all_ints m (P x) (all_ints n (fun x => (List.range m).all (fun j => P x (j : Int))) h x h0 h1) y h2 h3
theorem Ev.pair {α β : Type} {g : Nat → Option (α × β)} {a : α × β} (h : Ev g a) : Ev g (a.1, a.2) := h
/-- it comes to an answer of which P holds -/
def EvP {α : Type} (g : Nat → Option α) (P : α → Prop) : Prop := ∃ r, P r ∧ Ev g r
section
variable {α β : Type} {g : Nat → Option α} {P : α → Prop} {Q : β → Prop} {f : Nat → α → Option β}
theorem EvP.bind (h : EvP g P) (k : ∀ a, P a → EvP (fun n => f n a) Q) : EvP (fun n => (g n).bind (f n)) Q := by
  obtain ⟨a, ha, e⟩ := h
  obtain ⟨b, hb, e2⟩ := k a ha
  exact ⟨b, hb, Ev.bind e e2⟩
theorem EvP.bindc {c : Option α} {a : α} (h : c = some a) (k : EvP (fun n => f n a) Q) : EvP (fun n => c.bind (f n)) Q := by
  subst h; exact k
theorem EvP.now {r : α} (h : P r) : EvP (fun _ => some r) P := ⟨r, h, Ev.now r⟩
theorem EvP.of {r : α} (h : P r) (e : Ev g r) : EvP g P := ⟨r, h, e⟩
theorem EvP.mono {P' : α → Prop} (h : EvP g P) (k : ∀ a, P a → P' a) : EvP g P' := by
  obtain ⟨a, ha, e⟩ := h; exact ⟨a, k a ha, e⟩
theorem EvP.step {g' : Nat → Option α} (k : EvP g' P) (h : ∀ k, g (k + 1) = g' k) : EvP g P := by
  obtain ⟨a, ha, e⟩ := k; exact ⟨a, ha, Ev.step h e⟩
theorem EvP.congr {g' : Nat → Option α} (k : EvP g' P) (h : ∀ k, g k = g' k) : EvP g P := by
  obtain ⟨a, ha, e⟩ := k; exact ⟨a, ha, Ev.congr h e⟩
theorem EvP.pos {p : Prop} [Decidable p] {g' : Nat → Option α} (h : p) (k : EvP g P) : EvP (fun n => if p then g n else g' n) P :=
  EvP.congr k (fun _ => if_pos h)
theorem EvP.neg {p : Prop} [Decidable p] {g' : Nat → Option α} (h : ¬ p) (k : EvP g' P) : EvP (fun n => if p then g n else g' n) P :=
  EvP.congr k (fun _ => if_neg h)
end
/-- an answer that P holds of, and then the rest -/
theorem Ev.bindp {α β : Type} {g : Nat → Option α} {P : α → Prop} {f : Nat → α → Option β} {r : β} (h : EvP g P) (k : ∀ a, P a → Ev (fun n => f n a) r) : Ev (fun n => (g n).bind (f n)) r := by
  obtain ⟨a, ha, e⟩ := h
  exact Ev.bind e (k a ha)
end Go.Proofs.Ytdaiohcgdpclnaa.B
