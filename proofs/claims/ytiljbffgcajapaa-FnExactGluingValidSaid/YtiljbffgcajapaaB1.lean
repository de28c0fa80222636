import Derived.Test.YtiljbffgcajapaaM1
import Derived.Test.YtiljbffgcajapaaWMore
/- Numbers and rounds: words that all laws of this seat use. -/
namespace Go.Proofs.Ytiljbffgcajapaa.B
set_option linter.unusedVariables false
set_option linter.unusedSimpArgs false
open Go.RowKit Go.Proofs.YtiljbffgcajapaaW.PrintWords Go.Proofs.YtiljbffgcajapaaW.PrintMore

theorem wr (x : Int) (h1 : -9223372036854775808 ≤ x) (h2 : x ≤ 9223372036854775807) : wrap64 x = x := by
  unfold wrap64; omega
theorem wrs (i : Nat) (h : i < 4611686018427387904) : wrap64 ((i : Int) + 1) = ((i + 1 : Nat) : Int) := by
  unfold wrap64; omega
theorem rdn (l : List Int) (i : Nat) : rd l (i : Int) = M.nth l i := by
  show l.getD (i : Int).toNat 0 = l.getD i default
  rw [Int.toNat_natCast]; rfl
theorem rd_eq (l : List Int) (x : Int) : rd l x = M.nth l x.toNat := rfl
theorem rdb (l : List Bool) (i : Nat) : rdOf false l (i : Int) = M.nth l i := by
  show l.getD (i : Int).toNat false = l.getD i default
  rw [Int.toNat_natCast]; rfl
theorem rdb_eq (l : List Bool) (x : Int) : rdOf false l x = M.nth l x.toNat := rfl
theorem i64_of_wf {x : Int} (h : (Lit.int .i64 x).wf = true) : -9223372036854775808 ≤ x ∧ x ≤ 9223372036854775807 := by
  have e1 : IntKind.i64.min = -9223372036854775808 := by decide
  have e2 : IntKind.i64.max = 9223372036854775807 := by decide
  simp only [Lit.wf, e1, e2, Bool.and_eq_true, decide_eq_true_eq] at h
  exact h
theorem Ev.uniq {α : Type} {g : Nat → Option α} {a b : α} (h : Ev g a) (h' : Ev g b) : a = b := by
  obtain ⟨K, h⟩ := h; obtain ⟨K', h'⟩ := h'
  have h1 := h (max K K') (Nat.le_max_left _ _)
  have h2 := h' (max K K') (Nat.le_max_right _ _)
  rw [h1] at h2; exact Option.some.inj h2
theorem Ev.ret {α : Type} {g : Nat → Option α} {r : α} (h : ∀ k, g (k + 1) = some r) : Ev g r :=
  Ev.step (f := fun _ => some r) h (Ev.now r)
theorem Ev.same {α : Type} {g : Nat → Option α} {r s : α} (h : Ev g r) (e : r = s) : Ev g s := e ▸ h
/-- a call of what has no rounds -/
theorem Ev.bindc {α β : Type} {c : Option α} {f : Nat → α → Option β} {a : α} {r : β} (h : c = some a) (k : Ev (fun n => f n a) r) : Ev (fun n => c.bind (f n)) r := by
  subst h; exact k
theorem Ev.pos {α : Type} {p : Prop} [Decidable p] {f g : Nat → Option α} {r : α} (h : p) (k : Ev f r) : Ev (fun n => if p then f n else g n) r :=
  Ev.congr (fun _ => if_pos h) k
theorem Ev.neg {α : Type} {p : Prop} [Decidable p] {f g : Nat → Option α} {r : α} (h : ¬ p) (k : Ev g r) : Ev (fun n => if p then f n else g n) r :=
  Ev.congr (fun _ => if_neg h) k
end Go.Proofs.Ytiljbffgcajapaa.B
