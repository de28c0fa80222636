import Derived.Test.YtdaiohcgdpclnaaLrT
import Derived.Test.YtdaiohcgdpclnaaLrC0
import Derived.Test.YtdaiohcgdpclnaaLrC1
import Derived.Test.YtdaiohcgdpclnaaLrC2
import Derived.Test.YtdaiohcgdpclnaaLrC3
import Derived.Test.YtdaiohcgdpclnaaLrC4
import Derived.Test.YtdaiohcgdpclnaaLrC5
/- Rooted maps: both sides list the same, for every genus. -/
namespace Go.Proofs.Ytdaiohcgdpclnaa.LrA
set_option linter.unusedVariables false
open Go.RowKit Go.Proofs.YtdaiohcgdpclnaaW.PrintWords Go.Proofs.YtdaiohcgdpclnaaW.PrintMore Go.Proofs.Ytdaiohcgdpclnaa.Q Go.Proofs.Ytdaiohcgdpclnaa.M Go.Proofs.Ytdaiohcgdpclnaa.B
set_option maxRecDepth 100000
def le1 : List (S33 × Int) := [(⟨[0, 1], [1, 0]⟩, 0),
  (⟨[1, 0], [1, 0]⟩, 0)]
theorem le1_is : coll0 1 (FL 2) (PS 2) = some le1 := eqO_eq eqP_eq (by decide +kernel)
def le2 : List (S33 × Int) := [(⟨[0, 2, 1, 3], [1, 0, 3, 2]⟩, 0),
  (⟨[0, 2, 3, 1], [1, 0, 3, 2]⟩, 0),
  (⟨[1, 0, 2, 3], [2, 3, 0, 1]⟩, 0),
  (⟨[1, 0, 3, 2], [2, 3, 0, 1]⟩, 0),
  (⟨[1, 2, 0, 3], [1, 0, 3, 2]⟩, 0),
  (⟨[1, 2, 0, 3], [2, 3, 0, 1]⟩, 0),
  (⟨[1, 2, 3, 0], [1, 0, 3, 2]⟩, 0),
  (⟨[1, 2, 3, 0], [2, 3, 0, 1]⟩, 1),
  (⟨[1, 3, 0, 2], [2, 3, 0, 1]⟩, 0),
  (⟨[1, 3, 2, 0], [2, 3, 0, 1]⟩, 0)]
theorem le2_is : coll0 2 (FL 4) (PS 4) = some le2 := eqO_eq eqP_eq (by decide +kernel)
def lcL : Nat → List (S33 × Int)
  | 0 => lc0
  | 1 => lc1
  | 2 => lc2
  | 3 => lc3
  | 4 => lc4
  | 5 => lc5
  | 6 => lc6
  | 7 => lc7
  | 8 => lc8
  | 9 => lc9
  | 10 => lc10
  | 11 => lc11
  | 12 => lc12
  | 13 => lc13
  | 14 => lc14
  | 15 => lc15
  | 16 => lc16
  | 17 => lc17
  | 18 => lc18
  | 19 => lc19
  | 20 => lc20
  | 21 => lc21
  | 22 => lc22
  | 23 => lc23
  | 24 => lc24
  | 25 => lc25
  | 26 => lc26
  | 27 => lc27
  | 28 => lc28
  | 29 => lc29
  | 30 => lc30
  | 31 => lc31
  | 32 => lc32
  | 33 => lc33
  | 34 => lc34
  | 35 => lc35
  | _ => []
theorem lcs : ∀ i, i < 36 → coll0 3 (FL 6) (chunk 6 20 i) = some (lcL i)
  | 0, _ => lc0_is
  | 1, _ => lc1_is
  | 2, _ => lc2_is
  | 3, _ => lc3_is
  | 4, _ => lc4_is
  | 5, _ => lc5_is
  | 6, _ => lc6_is
  | 7, _ => lc7_is
  | 8, _ => lc8_is
  | 9, _ => lc9_is
  | 10, _ => lc10_is
  | 11, _ => lc11_is
  | 12, _ => lc12_is
  | 13, _ => lc13_is
  | 14, _ => lc14_is
  | 15, _ => lc15_is
  | 16, _ => lc16_is
  | 17, _ => lc17_is
  | 18, _ => lc18_is
  | 19, _ => lc19_is
  | 20, _ => lc20_is
  | 21, _ => lc21_is
  | 22, _ => lc22_is
  | 23, _ => lc23_is
  | 24, _ => lc24_is
  | 25, _ => lc25_is
  | 26, _ => lc26_is
  | 27, _ => lc27_is
  | 28, _ => lc28_is
  | 29, _ => lc29_is
  | 30, _ => lc30_is
  | 31, _ => lc31_is
  | 32, _ => lc32_is
  | 33, _ => lc33_is
  | 34, _ => lc34_is
  | 35, _ => lc35_is
  | n + 36, h => absurd h (by omega)
def le3 : List (S33 × Int) := (List.range 36).flatMap lcL
theorem le3_is : coll0 3 (FL 6) (PS 6) = some le3 := by
  have h := chunks 3 6 20 lcL 36 lcs
  rw [List.take_of_length_le (show (PS 6).length ≤ 20 * 36 by decide +kernel)] at h
  exact h
theorem fl1 : spec_l3Flip.f 300 1 = some [1, 0] := by decide +kernel
theorem tn1 : spec_l1Same.f 300 (wrap64 (2 * 1)) = some [0, 1] := by decide +kernel
def lt1 : List (S33 × Int) := (trc [1, 0] 800 [0, 1]).getD []
theorem lt1_is : trc [1, 0] 800 [0, 1] = some lt1 := by
  have h : (trc [1, 0] 800 [0, 1]).isSome = true := by decide +kernel
  unfold lt1
  generalize trc [1, 0] 800 [0, 1] = o at h
  cases o with
  | none => cases h
  | some x => rfl
set_option maxHeartbeats 16000000 in
theorem put1_0 : foldPut 0 lt1 [] = some (sel 0 le1) := eqO_eq eqS_eq (by decide +kernel)
set_option maxHeartbeats 16000000 in
theorem put1_1 : foldPut 1 lt1 [] = some (sel 1 le1) := eqO_eq eqS_eq (by decide +kernel)
theorem spec1 (g : Int) : Ev (fun k => spec_l3All.f k 1 g) (sel g le1) :=
  l3All_ev 1 g _ _ lt1 le1 fl1 tn1 lt1_is (by decide +kernel) put1_0 put1_1 (by decide +kernel)
theorem impl1 (g : Int) : impl_rooted.f 1 g = some (sel g le1) :=
  rooted_f 1 g (FL 2) le1 (by decide) (by decide) (FL_is 2 (by decide +kernel)) (by decide +kernel) le1_is (by decide +kernel) (by decide +kernel) (by decide +kernel) (by decide +kernel)
theorem fl2 : spec_l3Flip.f 300 2 = some [1, 0, 3, 2] := by decide +kernel
theorem tn2 : spec_l1Same.f 300 (wrap64 (2 * 2)) = some [0, 1, 2, 3] := by decide +kernel
def lt2 : List (S33 × Int) := (trc [1, 0, 3, 2] 800 [0, 1, 2, 3]).getD []
theorem lt2_is : trc [1, 0, 3, 2] 800 [0, 1, 2, 3] = some lt2 := by
  have h : (trc [1, 0, 3, 2] 800 [0, 1, 2, 3]).isSome = true := by decide +kernel
  unfold lt2
  generalize trc [1, 0, 3, 2] 800 [0, 1, 2, 3] = o at h
  cases o with
  | none => cases h
  | some x => rfl
set_option maxHeartbeats 16000000 in
theorem put2_0 : foldPut 0 lt2 [] = some (sel 0 le2) := eqO_eq eqS_eq (by decide +kernel)
set_option maxHeartbeats 16000000 in
theorem put2_1 : foldPut 1 lt2 [] = some (sel 1 le2) := eqO_eq eqS_eq (by decide +kernel)
theorem spec2 (g : Int) : Ev (fun k => spec_l3All.f k 2 g) (sel g le2) :=
  l3All_ev 2 g _ _ lt2 le2 fl2 tn2 lt2_is (by decide +kernel) put2_0 put2_1 (by decide +kernel)
theorem impl2 (g : Int) : impl_rooted.f 2 g = some (sel g le2) :=
  rooted_f 2 g (FL 4) le2 (by decide) (by decide) (FL_is 4 (by decide +kernel)) (by decide +kernel) le2_is (by decide +kernel) (by decide +kernel) (by decide +kernel) (by decide +kernel)
theorem fl3 : spec_l3Flip.f 300 3 = some [1, 0, 3, 2, 5, 4] := by decide +kernel
theorem tn3 : spec_l1Same.f 300 (wrap64 (2 * 3)) = some [0, 1, 2, 3, 4, 5] := by decide +kernel
set_option maxHeartbeats 16000000 in
theorem put3_0 : foldPut 0 ls [] = some (sel 0 le3) := eqO_eq eqS_eq (by decide +kernel)
set_option maxHeartbeats 16000000 in
theorem put3_1 : foldPut 1 ls [] = some (sel 1 le3) := eqO_eq eqS_eq (by decide +kernel)
theorem spec3 (g : Int) : Ev (fun k => spec_l3All.f k 3 g) (sel g le3) :=
  l3All_ev 3 g _ _ ls le3 fl3 tn3 ls_is (by decide +kernel) put3_0 put3_1 (by decide +kernel)
theorem impl3 (g : Int) : impl_rooted.f 3 g = some (sel g le3) :=
  rooted_f 3 g (FL 6) le3 (by decide) (by decide) (FL_is 6 (by decide +kernel)) (by decide +kernel) le3_is (by decide +kernel) (by decide +kernel) (by decide +kernel) (by decide +kernel)
/-- what is listed: edges, genus -/
def lst (e g : Int) : List S33 := if e = 1 then sel g le1 else if e = 2 then sel g le2 else sel g le3
theorem spec_all (e g : Int) (h0 : 1 ≤ e) (h1 : e ≤ 3) : Ev (fun k => spec_l3All.f k e g) (lst e g) := by
  have : e = 1 ∨ e = 2 ∨ e = 3 := by omega
  rcases this with rfl | rfl | rfl
  · exact spec1 g
  · exact spec2 g
  · exact spec3 g
theorem impl_all (e g : Int) (h0 : 1 ≤ e) (h1 : e ≤ 3) : impl_rooted.f e g = some (lst e g) := by
  have : e = 1 ∨ e = 2 ∨ e = 3 := by omega
  rcases this with rfl | rfl | rfl
  · exact impl1 g
  · exact impl2 g
  · exact impl3 g
end Go.Proofs.Ytdaiohcgdpclnaa.LrA
