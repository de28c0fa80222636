import Derived.Test.YtonlecigglbohaaRows
import Derived.Test.YtonlecigglbohaaQ6
import Derived.Test.YtonlecigglbohaaPureFnExactGluingOf
import Derived.WalkKit
import Derived.ProofKit
import Derived.OpenShut
import Derived.ShutString
import Derived.ChangeOld
import Derived.Below
import Derived.SizedLaws
import Derived.Deep.Matrix
import Derived.ChangeSlices
import Derived.Lib.SmallJoins
/- The row of the law, over a structure of two slices and a whole number that come in: for all such the law's call returns true. -/
namespace Go.Proofs.Ytonlecigglbohaa.fnExactGluingOf
open Go.ChangeShapes Go.WideShapes Go.ChangeAt Go.RowKit
open Go.ChangeMaps (open_string shut_string)
open Go.Proofs.YtonlecigglbohaaW.PrintWords
set_option linter.unusedVariables false
set_option linter.unusedSimpArgs false
theorem own : ownKnob Try.prog.godebug = none := by kernel_rfl
theorem laidOut : laidOutB Try.prog = true := by kernel_rfl
/-- a row's numbers, read -/
theorem ints_C {W : World} {A : Option Addr} {n c : Nat} {Z : List Int} (hn : n ≤ c) (hc : c ≤ maxLen) (hz : Z.length = c) (hA : A = none → c = 0) (h : ∀ a', A = some a' → ∀ j, j < c → W.cell? (a'.add j) = some (.int .i64 (Z.getD j 0))) : Kd.C (Kd.int .i64) W A (Z.take n).length (Z.take n) := by
  have hl : (Z.take n).length = n := by simp; omega
  rw [hl]
  refine Kd.C_of_reads (d := (0 : Int)) (h1 := fun _ => rfl) ⟨hl, by unfold maxLen at hc; omega, fun hp => ?_⟩
  cases A with
  | none => have := hA rfl; omega
  | some a' =>
    refine ⟨a', rfl, fun j hj => ?_⟩
    rw [h a' rfl j (by omega)]
    simp [List.getD_eq_getElem?_getD, hj]
/-- a slice of whole numbers that comes in, read -/
theorem rowOf {H : Type} {enc : TypeId × Value → H} {W : World} {fuel : Nat} {u : Value} {y : DataW H × List MemPlace} (h : DataW.trod enc Try.prog W 0 (fun _ => true) true fuel 23 [u] = some y) : ∃ (A : Option Addr) (c : Nat) (l : List Int), u = .slice A l.length c ∧ l.length ≤ c ∧ l.length ≤ maxLen ∧ Kd.C (Kd.int .i64) W A l.length l := by
  rcases Go.ChangeShapes.open_ints Try.underlying23 Try.underlying3 (by kernel_rfl) h with ⟨hcs, _⟩ | ⟨a, len, cap, Z, hcs, _, hl, hm, hz, _, hr, _⟩
  · injection hcs with hcs _
    exact ⟨none, 0, [], by rw [hcs]; rfl, Nat.le_refl _, Nat.zero_le _, ⟨rfl, Nat.zero_le _, fun h => by simp at h⟩⟩
  · injection hcs with hcs _
    rw [if_pos rfl] at hz
    have e : (Z.take len).length = len := by simp; omega
    refine ⟨some a, cap, Z.take len, by rw [hcs, e], by omega, by omega, ints_C hl hm hz (fun h => by cases h) (fun a' ha j hj => ?_)⟩
    cases ha
    exact hr j (by omega)
set_option maxRecDepth 100000 in
theorem lifted (os : Os) (started : os.Started) (H : Type) (enc : TypeId × Value → H) :
    ReturnsInHanded {} Try.checked os 8 .any (Rows.fnExactGluingOfSpec.pre6 enc Try.prog Try.f8 Rows.fnExactGluingOfRow.domain false) (Rows.fnExactGluingOfSpec.post enc Try.prog Try.f8 false true false false) := by
  refine returnsInHanded_of_change_sized (C := Try.checked) own started (by kernel_rfl) Try.func8
    (ChangeSpec.witness6 (enc := enc) (C := Try.checked) false ⟨#[], #[.agg #[.slice none 0 0, .slice none 0 0], .int .i64 0], []⟩ 8 (by kernel_rfl) (by kernel_rfl) (by kernel_rfl) (by kernel_rfl)) ?_
  intro W base args ds gs before hval0 hW hcnd hsz0 _
  have hval : ∀ (j : Nat) t v, Try.f8.params[j]? = some t → args[j]? = some v → Value.okWide Try.prog W .any base t v := hval0
  have hW' := hW
  obtain ⟨p, q, hA0, hV, rfl, hfz, hnd⟩ := hW
  have hA : DataW.TrodAll enc Try.prog W 0 (fun _ => true) true Try.f8.params.toList args.toList ds p := hA0
  rw [Try.params8] at hA hval
  obtain ⟨v0, vs0, d0, ds0, p0, q0, hargs, rfl, rfl, h0, r0⟩ := trodAll_cons hA
  obtain ⟨v1, vs1, d1, ds1, p1, q1, hargs1, rfl, rfl, h1, r1⟩ := trodAll_cons r0
  obtain ⟨rfl, rfl, rfl⟩ := trodAll_nil r1
  subst hargs1
  obtain rfl : args = #[v0, v1] := by cases args; simp_all
  obtain ⟨rfl, rfl⟩ := trodVars_none hV
  obtain ⟨a1, rfl, rfl, rfl, w1⟩ := open_int Try.underlying3 (hval 1 3 v1 rfl rfl) h1
  have k0 := h0
  have lt0 : ∀ x ∈ p0, x.block < W.heap.size := by obtain ⟨m, hm⟩ := k0; exact DataW.trod_lt m _ _ _ hm
  obtain ⟨u0, u1, y0, y1, nn, rfl, rfl, rfl, t0, t1⟩ := Go.Joins.open_agg2 Try.underlying47 (by kernel_rfl) (by kernel_rfl) (hval 0 47 v0 rfl rfl) h0
  obtain ⟨A0, c0, l0, rfl, hl0, hm0, hC0⟩ := rowOf t0
  obtain ⟨A1, c1, l1, rfl, hl1, hm1, hC1⟩ := rowOf t1
  clear hA0 hval0 hsz0
  obtain ⟨k, hk⟩ := Pure.FnExactGluingOf l0 l1 a1 hm0 hm1
  refine (Q.laws_FnExactGluingOf.calls k A0 c0 l0 A1 c1 l1 a1 true W hC0 hl0 hC1 hl1 hk).mono fun e W' ⟨he, bel⟩ => ?_
  subst he
  exact ⟨_, rfl, _, _, _, [], _, [], hW', trodAll_mk1 (shut_bool Try.underlying4 _), (trodAll_cons_mk (Below.trod laidOut (by kernel_rfl) (of_decide_eq_true (by kernel_rfl)) k0 bel lt0) (trodAll_cons_mk (shut_int Try.underlying3 w1) trodAll_mk0)), rfl, bel.frame _, fun h => by cases h⟩
theorem over : Rows.fnExactGluingOfRow.holds Try.pinned (OpenSpec.ofChange Rows.fnExactGluingOfSpec) :=
  OpenClaim.holds_of_wide 8 Try.f8 rfl rfl rfl rfl rfl rfl rfl ⟨rfl, rfl, rfl, rfl, rfl⟩ rfl rfl rfl rfl rfl (by kernel_rfl) Try.func8 (by kernel_rfl)
    (of_decide_eq_true (by kernel_rfl)) (by unfold Func.isWrapper; first | (rw [if_pos (by decide +kernel)]; kernel_rfl) | (rw [if_neg (by decide +kernel)]; exact ⟨rfl, rfl⟩))
    (fun os started H enc _ => lifted os started H enc)
theorem proved : Rows.FnExactGluingOfSaid := over
#print axioms proved
end Go.Proofs.Ytonlecigglbohaa.fnExactGluingOf
namespace Go.Proofs.Ytonlecigglbohaa
/-- The row, under a short name, for the claim. -/
theorem fnExactGluingOf_holds : Rows.FnExactGluingOfSaid := fnExactGluingOf.proved
end Go.Proofs.Ytonlecigglbohaa
