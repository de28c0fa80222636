import Derived.Test.YtdaiohcgdpclnaaLrS
/- Rooted maps of one or two edges: both sides list the same, for every genus. -/
namespace Go.Proofs.Ytdaiohcgdpclnaa.LrA
set_option linter.unusedVariables false
open Go.RowKit Go.Proofs.YtdaiohcgdpclnaaW.PrintWords Go.Proofs.YtdaiohcgdpclnaaW.PrintMore Go.Proofs.Ytdaiohcgdpclnaa.Q Go.Proofs.Ytdaiohcgdpclnaa.M Go.Proofs.Ytdaiohcgdpclnaa.B
set_option maxRecDepth 100000
def le1 : List (S33 × Int) := [(⟨[0, 1], [1, 0]⟩, 0),
  (⟨[1, 0], [1, 0]⟩, 0)]
theorem le1_is : coll0 1 (FL 2) (PS 2) = some le1 := eqO_eq eqP_eq (by decide +kernel)
def le2 : List (S33 × Int) := [(⟨[0, 2, 1, 3], [1, 0, 3, 2]⟩, 0),
  (⟨[0, 2, 3, 1], [1, 0, 3, 2]⟩, 0),
  (⟨[1, 0, 2, 3], [2, 3, 0, 1]⟩, 0),
  (⟨[1, 0, 3, 2], [2, 3, 0, 1]⟩, 0),
  (⟨[1, 2, 0, 3], [1, 0, 3, 2]⟩, 0),
  (⟨[1, 2, 0, 3], [2, 3, 0, 1]⟩, 0),
  (⟨[1, 2, 3, 0], [1, 0, 3, 2]⟩, 0),
  (⟨[1, 2, 3, 0], [2, 3, 0, 1]⟩, 1),
  (⟨[1, 3, 0, 2], [2, 3, 0, 1]⟩, 0),
  (⟨[1, 3, 2, 0], [2, 3, 0, 1]⟩, 0)]
theorem le2_is : coll0 2 (FL 4) (PS 4) = some le2 := eqO_eq eqP_eq (by decide +kernel)
theorem fl1 : spec_l3Flip.f 300 1 = some [1, 0] := by decide +kernel
theorem tn1 : spec_l1Same.f 300 (wrap64 (2 * 1)) = some [0, 1] := by decide +kernel
def lt1 : List (S33 × Int) := (trc [1, 0] 800 [0, 1]).getD []
theorem lt1_is : trc [1, 0] 800 [0, 1] = some lt1 := by
  have h : (trc [1, 0] 800 [0, 1]).isSome = true := by decide +kernel
  unfold lt1
  generalize trc [1, 0] 800 [0, 1] = o at h
  cases o with
  | none => cases h
  | some x => rfl
set_option maxHeartbeats 16000000 in
theorem put1_0 : foldPut 0 lt1 [] = some (sel 0 le1) := eqO_eq eqS_eq (by decide +kernel)
set_option maxHeartbeats 16000000 in
theorem put1_1 : foldPut 1 lt1 [] = some (sel 1 le1) := eqO_eq eqS_eq (by decide +kernel)
theorem spec1 (g : Int) : Ev (fun k => spec_l3All.f k 1 g) (sel g le1) :=
  l3All_ev 1 g _ _ lt1 le1 fl1 tn1 lt1_is (by decide +kernel) put1_0 put1_1 (by decide +kernel)
theorem impl1 (g : Int) : impl_rooted.f 1 g = some (sel g le1) :=
  rooted_f 1 g (FL 2) le1 (by decide) (by decide) (FL_is 2 (by decide +kernel)) (by decide +kernel) le1_is (by decide +kernel) (by decide +kernel) (by decide +kernel) (by decide +kernel)
theorem fl2 : spec_l3Flip.f 300 2 = some [1, 0, 3, 2] := by decide +kernel
theorem tn2 : spec_l1Same.f 300 (wrap64 (2 * 2)) = some [0, 1, 2, 3] := by decide +kernel
def lt2 : List (S33 × Int) := (trc [1, 0, 3, 2] 800 [0, 1, 2, 3]).getD []
theorem lt2_is : trc [1, 0, 3, 2] 800 [0, 1, 2, 3] = some lt2 := by
  have h : (trc [1, 0, 3, 2] 800 [0, 1, 2, 3]).isSome = true := by decide +kernel
  unfold lt2
  generalize trc [1, 0, 3, 2] 800 [0, 1, 2, 3] = o at h
  cases o with
  | none => cases h
  | some x => rfl
set_option maxHeartbeats 16000000 in
theorem put2_0 : foldPut 0 lt2 [] = some (sel 0 le2) := eqO_eq eqS_eq (by decide +kernel)
set_option maxHeartbeats 16000000 in
theorem put2_1 : foldPut 1 lt2 [] = some (sel 1 le2) := eqO_eq eqS_eq (by decide +kernel)
theorem spec2 (g : Int) : Ev (fun k => spec_l3All.f k 2 g) (sel g le2) :=
  l3All_ev 2 g _ _ lt2 le2 fl2 tn2 lt2_is (by decide +kernel) put2_0 put2_1 (by decide +kernel)
theorem impl2 (g : Int) : impl_rooted.f 2 g = some (sel g le2) :=
  rooted_f 2 g (FL 4) le2 (by decide) (by decide) (FL_is 4 (by decide +kernel)) (by decide +kernel) le2_is (by decide +kernel) (by decide +kernel) (by decide +kernel) (by decide +kernel)
/-- what is listed: edges (one or two), genus -/
def lst (e g : Int) : List S33 := if e = 1 then sel g le1 else sel g le2
theorem spec_all (e g : Int) (h0 : 1 ≤ e) (h1 : e ≤ 2) : Ev (fun k => spec_l3All.f k e g) (lst e g) := by
  have : e = 1 ∨ e = 2 := by omega
  rcases this with rfl | rfl
  · exact spec1 g
  · exact spec2 g
theorem impl_all (e g : Int) (h0 : 1 ≤ e) (h1 : e ≤ 2) : impl_rooted.f e g = some (lst e g) := by
  have : e = 1 ∨ e = 2 := by omega
  rcases this with rfl | rfl
  · exact impl1 g
  · exact impl2 g
/-- a law over the list, shown for each genus -/
theorem lst_cases (P : Int → Int → List S33 → Prop) (h10 : P 1 0 (sel 0 le1)) (h20 : P 2 0 (sel 0 le2)) (h21 : P 2 1 (sel 1 le2)) (hn : ∀ e g, 1 ≤ e → e ≤ 2 → P e g []) (e g : Int) (h0 : 1 ≤ e) (h1 : e ≤ 2) : P e g (lst e g) := by
  have l1 : low le1 = true := by decide +kernel
  have l2 : low le2 = true := by decide +kernel
  have e11 : sel 1 le1 = [] := eqL_eq eqS_eq (by decide +kernel)
  have : e = 1 ∨ e = 2 := by omega
  unfold lst
  rcases this with rfl | rfl
  · rw [if_pos rfl]
    by_cases g0 : g = 0
    · rw [g0]; exact h10
    by_cases g1 : g = 1
    · rw [g1, e11]; exact hn 1 1 (by omega) (by omega)
    rw [sel_else g g0 g1 le1 l1]; exact hn 1 g (by omega) (by omega)
  · rw [if_neg (by decide)]
    by_cases g0 : g = 0
    · rw [g0]; exact h20
    by_cases g1 : g = 1
    · rw [g1]; exact h21
    rw [sel_else g g0 g1 le2 l2]; exact hn 2 g (by omega) (by omega)
end Go.Proofs.Ytdaiohcgdpclnaa.LrA
