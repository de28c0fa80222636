import Derived.Test.YtkfeildndcdbaaaRows
import Derived.Test.YtkfeildndcdbaaaQ11
import Derived.Test.YtkfeildndcdbaaaPureFnExactFactorCount
import Derived.WalkKit
import Derived.ProofKit
import Derived.OpenShut
import Derived.ShutString
import Derived.ChangeOld
import Derived.Below
import Derived.SizedLaws
import Derived.Deep.Matrix
/- The row of the law, over a slice of slices that comes in: for every such slice the law's call returns true. -/
namespace Go.Proofs.Ytkfeildndcdbaaa.fnExactFactorCount
open Go.ChangeShapes Go.WideShapes Go.ChangeAt Go.RowKit
open Go.ChangeMaps (open_string shut_string)
open Go.Proofs.YtkfeildndcdbaaaW.PrintWords
set_option linter.unusedVariables false
set_option linter.unusedSimpArgs false
theorem own : ownKnob Try.prog.godebug = none := by kernel_rfl
theorem laidOut : laidOutB Try.prog = true := by kernel_rfl
/-- a row's numbers, read -/
theorem ints_C {W : World} {A : Option Addr} {n c : Nat} {Z : List Int} (hn : n ≤ c) (hc : c ≤ maxLen) (hz : Z.length = c) (hA : A = none → c = 0) (h : ∀ a', A = some a' → ∀ j, j < c → W.cell? (a'.add j) = some (.int .i64 (Z.getD j 0))) : Kd.C (Kd.int .i64) W A (Z.take n).length (Z.take n) := by
  have hl : (Z.take n).length = n := by simp; omega
  rw [hl]
  refine Kd.C_of_reads (d := (0 : Int)) (h1 := fun _ => rfl) ⟨hl, by unfold maxLen at hc; omega, fun hp => ?_⟩
  cases A with
  | none => have := hA rfl; omega
  | some a' =>
    refine ⟨a', rfl, fun j hj => ?_⟩
    rw [h a' rfl j (by omega)]
    simp [List.getD_eq_getElem?_getD, hj]
theorem lifted (os : Os) (started : os.Started) (H : Type) (enc : TypeId × Value → H) :
    ReturnsInHanded {} Try.checked os 12 .any (Rows.fnExactFactorCountSpec.pre6 enc Try.prog Try.f12 Rows.fnExactFactorCountRow.domain false) (Rows.fnExactFactorCountSpec.post enc Try.prog Try.f12 false true false false) := by
  refine returnsInHanded_of_change_sized (C := Try.checked) own started (by kernel_rfl) Try.func12
    (ChangeSpec.witness6 (enc := enc) (C := Try.checked) false ⟨#[], #[.slice none 0 0], []⟩ 8 (by kernel_rfl) (by kernel_rfl) (by kernel_rfl) (by kernel_rfl)) ?_
  intro W base args ds gs before hval0 hW hcnd hsz0 _
  have hval : ∀ (j : Nat) t v, Try.f12.params[j]? = some t → args[j]? = some v → Value.okWide Try.prog W .any base t v := hval0
  have hW' := hW
  obtain ⟨p, q, hA0, hV, rfl, hfz, hnd⟩ := hW
  have hA : DataW.TrodAll enc Try.prog W 0 (fun _ => true) true Try.f12.params.toList args.toList ds p := hA0
  rw [Try.params12] at hA hval
  obtain ⟨v0, vs0, d0, ds0, p0, q0, hargs, rfl, rfl, h0, r0⟩ := trodAll_cons hA
  obtain ⟨rfl, rfl, rfl⟩ := trodAll_nil r0
  obtain rfl : args = #[v0] := by cases args; simp_all
  obtain ⟨rfl, rfl⟩ := trodVars_none hV
  obtain ⟨a0, len0, cap0, rfl⟩ := okWide_slice Try.underlying22 (hval 0 22 v0 rfl rfl)
  have k0 := h0
  have lt0 : ∀ x ∈ p0, x.block < W.heap.size := by obtain ⟨m, hm⟩ := k0; exact DataW.trod_lt m _ _ _ hm
  obtain ⟨l, hl, hC, hle, hmx, hwf⟩ : ∃ l : List (List Int), l.length = len0 ∧ Kd.C (Kd.slice 3 (Kd.int .i64)) W a0 l.length l ∧ l.length ≤ cap0 ∧ l.length ≤ maxLen ∧ ∀ x ∈ l, x.length ≤ maxLen ∧ ∀ n ∈ x, (Lit.int .i64 n).wf = true := by
    obtain ⟨fuel, hf⟩ := h0
    rcases Go.Deep.open_int_rows Try.underlying22 Try.underlying32 Try.underlying3 (by kernel_rfl) (by kernel_rfl) hf with ⟨hcs, _⟩ | ⟨a, len, cap, A, L, C, Z, hcs, _, hl, hm, _, hr⟩
    · simp [Value.cells] at hcs
      obtain ⟨rfl, rfl, rfl⟩ := hcs
      exact ⟨[], rfl, ⟨rfl, Nat.zero_le _, fun h => by simp at h⟩, Nat.zero_le _, Nat.zero_le _, fun x hx => by simp at hx⟩
    · simp [Value.cells] at hcs
      obtain ⟨rfl, rfl, rfl⟩ := hcs
      refine ⟨(List.range len0).map fun r => (Z r).take (L r), by simp, ?_, by simp; omega, by simp; omega, fun x hx => ?_⟩
      · refine ⟨rfl, by simp; unfold maxLen at hm; omega, fun hn => ⟨a, rfl, fun j p hj => ?_⟩⟩
        obtain ⟨hjl, hjp⟩ := List.getElem?_eq_some_iff.1 hj
        simp only [List.length_map, List.length_range] at hjl
        simp only [List.getElem_map, List.getElem_range] at hjp
        subst hjp
        obtain ⟨r1, r2, r3, r4, r5, r6, r7⟩ := hr j (by omega)
        have hlt : ((Z j).take (L j)).length = L j := by simp; omega
        refine ⟨[.slice (A j) (L j) (C j)], rfl, ⟨A j, C j, by rw [hlt], by rw [hlt]; exact r2, ints_C r2 r3 r4 r6 (fun a' e c hc => (r7 a' e).2 c hc)⟩, fun i u hi => ?_⟩
        obtain ⟨hil, hiu⟩ := List.getElem?_eq_some_iff.1 hi
        have h00 : i = 0 := by simp at hil; exact hil
        subst h00
        simp only [List.getElem_cons_zero] at hiu
        subst hiu
        show W.cell? (a.add (j * 1 + 0)) = _
        rw [Nat.mul_one, Nat.add_zero]; exact r1
      · obtain ⟨j, hj, rfl⟩ := List.mem_map.1 hx
        have hjl : j < len0 := by simpa using hj
        obtain ⟨r1, r2, r3, r4, r5, r6, r7⟩ := hr j (by omega)
        exact ⟨by simp; omega, fun n hn => r5 n (List.mem_of_mem_take hn)⟩
  subst hl
  clear hA0 hval0 hsz0
  obtain ⟨k, hk⟩ := Pure.FnExactFactorCount l hmx hwf
  refine (Q.laws_FnExactFactorCount.calls k a0 cap0 l true W hC hle hk).mono fun e W' ⟨he, bel⟩ => ?_
  subst he
  exact ⟨_, rfl, _, _, _, [], _, [], hW', trodAll_mk1 (shut_bool Try.underlying4 _), (trodAll_cons_mk (Below.trod laidOut (by kernel_rfl) (of_decide_eq_true (by kernel_rfl)) k0 bel lt0) trodAll_mk0), rfl, bel.frame _, fun h => by cases h⟩
theorem over : Rows.fnExactFactorCountRow.holds Try.pinned (OpenSpec.ofChange Rows.fnExactFactorCountSpec) :=
  OpenClaim.holds_of_wide 12 Try.f12 rfl rfl rfl rfl rfl rfl rfl ⟨rfl, rfl, rfl, rfl, rfl⟩ rfl rfl rfl rfl rfl (by kernel_rfl) Try.func12 (by kernel_rfl)
    (of_decide_eq_true (by kernel_rfl)) (by unfold Func.isWrapper; first | (rw [if_pos (by decide +kernel)]; kernel_rfl) | (rw [if_neg (by decide +kernel)]; exact ⟨rfl, rfl⟩))
    (fun os started H enc _ => lifted os started H enc)
theorem proved : Rows.FnExactFactorCountSaid := over
#print axioms proved
end Go.Proofs.Ytkfeildndcdbaaa.fnExactFactorCount
namespace Go.Proofs.Ytkfeildndcdbaaa
/-- The row, under a short name, for the claim. -/
theorem fnExactFactorCount_holds : Rows.FnExactFactorCountSaid := fnExactFactorCount.proved
end Go.Proofs.Ytkfeildndcdbaaa
