import Derived.Test.YtdaiohcgdpclnaaB1
import Derived.Laws.BitsLemmas
import Derived.Test.YtdaiohcgdpclnaaQ4
/- A draw's reader: each pick comes to a number in its range. -/
namespace Go.Proofs.Ytdaiohcgdpclnaa.Lpick
set_option linter.unusedVariables false
set_option linter.unusedSimpArgs false
open Go.RowKit Go.Proofs.YtdaiohcgdpclnaaW.PrintWords Go.Proofs.YtdaiohcgdpclnaaW.PrintMore Go.Proofs.Ytdaiohcgdpclnaa.Q Go.Proofs.Ytdaiohcgdpclnaa.M Go.Proofs.Ytdaiohcgdpclnaa.B

theorem xor_i64 (a b : Int) (h1 : 0 ≤ a) (h2 : a < 4611686018427387904) (h3 : 0 ≤ b) (h4 : b < 4611686018427387904) : 0 ≤ Go.bits .xor .i64 a b := by
  obtain ⟨x, rfl⟩ := Int.eq_ofNat_of_zero_le h1
  obtain ⟨y, rfl⟩ := Int.eq_ofNat_of_zero_le h3
  have hxy : x ^^^ y < 2 ^ 62 := Nat.xor_lt_two_pow (by omega) (by omega)
  have e1 : (BitVec.ofInt 64 (x : Int)).toNat = x := by
    rw [BitVec.ofInt_natCast, BitVec.toNat_ofNat]; exact Nat.mod_eq_of_lt (by omega)
  have e2 : (BitVec.ofInt 64 (y : Int)).toNat = y := by
    rw [BitVec.ofInt_natCast, BitVec.toNat_ofNat]; exact Nat.mod_eq_of_lt (by omega)
  show 0 ≤ IntKind.i64.wrap ((BitVec.ofInt 64 (x : Int) ^^^ BitVec.ofInt 64 (y : Int)).toNat : Int)
  rw [BitVec.toNat_xor, e1, e2, IntKind.wrap_i64]
  omega
/-- the reader's bytes -/
def RB (b : List Int) : Prop := (∀ x ∈ b, 0 ≤ x ∧ x ≤ 255) ∧ b.length ≤ 2000
theorem RB.at {b : List Int} (h : RB b) (i : Int) (h0 : 0 ≤ i) (h1 : i < b.length) : 0 ≤ rd b i ∧ rd b i ≤ 255 := by
  rw [rd_eq]
  exact h.1 _ (nth_mem b i.toNat (by omega))
theorem tmod_range (x n : Int) (h : 0 ≤ x) (hn : 1 ≤ n) : 0 ≤ Int.tmod x n ∧ Int.tmod x n < n := by
  rw [Int.tmod_eq_emod_of_nonneg h]
  exact ⟨Int.emod_nonneg _ (by omega), Int.emod_lt_of_pos _ (by omega)⟩
theorem open_rb (l : List Int) (hw : ∀ x ∈ l, (Lit.int .u8 x).wf = true) : ∃ b, spec_l6Open.f l = some (b, 0) ∧ RB b := by
  have hb : ∀ x ∈ l, 0 ≤ x ∧ x ≤ 255 := fun x hx => by
    have h := hw x hx
    have e1 : IntKind.u8.min = 0 := by decide
    have e2 : IntKind.u8.max = 255 := by decide
    simp only [Lit.wf, e1, e2, Bool.and_eq_true, decide_eq_true_eq] at h
    exact h
  by_cases h : (l.length : Int) > 2000
  · refine ⟨l.take 2000, ?_, fun x hx => hb x (List.mem_of_mem_take hx), by simp; omega⟩
    unfold spec_l6Open.f
    rw [if_pos h, if_pos (by omega)]
  · refine ⟨l, ?_, hb, by omega⟩
    unfold spec_l6Open.f
    rw [if_neg h]
theorem pick_ev (b : List Int) (p n : Int) (h : RB b) (h0 : 0 ≤ p) (h1 : p ≤ 1000000) (hn : 1 ≤ n) (hn2 : n ≤ 1000000) :
    ∃ v, 0 ≤ v ∧ v < n ∧ Ev (fun k => spec_l6Rd_pick.f k b p n) (v, p + 1) := by
  have w1 : wrap64 (p + 1) = p + 1 := wr _ (by omega) (by omega)
  have w2 : wrap64 (p + 1 - 1) = p := by rw [wr _ (by omega) (by omega)]; omega
  by_cases hb : b.length = 0
  · refine ⟨0, by omega, by omega, Ev.congr (fun k => by unfold spec_l6Rd_pick.f; rw [if_neg (by omega), w1, show ((b.length : Int) == 0) = true by simp [hb]]) (Ev.ret (fun k => ?_))⟩
    simp only [spec_l6Rd_pick.j0]; rfl
  · have hbl : 0 < b.length := by omega
    have hlen := h.2
    by_cases hp : p < b.length
    · have hx := h.at p h0 hp
      have w3 : wrap64 (rd b p) = rd b p := wr _ (by omega) (by omega)
      have hr := tmod_range (rd b p) n hx.1 hn
      refine ⟨Int.tmod (rd b p) n, hr.1, hr.2, Ev.congr (fun k => by unfold spec_l6Rd_pick.f; rw [if_neg (by omega), w1, show ((b.length : Int) == 0) = false by simp; exact fun h => hb (by simp [h])]) (Ev.ret (fun k => ?_))⟩
      simp only [spec_l6Rd_pick.j0]
      rw [if_neg (by simp), w2, if_pos hp, if_pos h0, if_neg (by omega), w3]
    · have r1 := tmod_range p b.length h0 (by omega)
      have w4 : wrap64 (p * 7) = p * 7 := wr _ (by omega) (by omega)
      have w5 : wrap64 (p * 7 + 3) = p * 7 + 3 := wr _ (by omega) (by omega)
      have r2 := tmod_range (p * 7 + 3) b.length (by omega) (by omega)
      have x1 := h.at _ r1.1 r1.2
      have x2 := h.at _ r2.1 r2.2
      generalize hu : rd b (Int.tmod p b.length) = u at x1
      generalize hv : rd b (Int.tmod (p * 7 + 3) b.length) = v at x2
      have hd : 0 ≤ Int.tdiv p b.length ∧ Int.tdiv p b.length ≤ p := by
        rw [Int.tdiv_eq_ediv_of_nonneg h0]
        exact ⟨Int.ediv_nonneg h0 (by omega), Int.ediv_le_self _ h0⟩
      generalize hq : Int.tdiv p b.length = q at hd
      have hX : 0 ≤ u * 131 + v * 1117 + p * 29 + q * 53 ∧ u * 131 + v * 1117 + p * 29 + q * 53 ≤ 100000000 := by omega
      have e1 : wrap64 (wrap64 (wrap64 (wrap64 (wrap64 u * 131) + wrap64 (wrap64 v * 1117)) + wrap64 (p * 29)) + wrap64 (wrap64 q * 53)) = u * 131 + v * 1117 + p * 29 + q * 53 := by
        unfold wrap64; omega
      generalize u * 131 + v * 1117 + p * 29 + q * 53 = X at hX e1
      have hY : 0 ≤ Int.tdiv X 64 ∧ Int.tdiv X 64 ≤ X := by
        rw [Int.tdiv_eq_ediv_of_nonneg hX.1]
        exact ⟨Int.ediv_nonneg hX.1 (by omega), Int.ediv_le_self _ hX.1⟩
      have w6 : wrap64 (Int.tdiv X 64) = Int.tdiv X 64 := wr _ (by omega) (by omega)
      have hz := xor_i64 X (Int.tdiv X 64) hX.1 (by omega) hY.1 (by omega)
      have hr := tmod_range _ n hz hn
      refine ⟨_, hr.1, hr.2, Ev.congr (fun k => by unfold spec_l6Rd_pick.f; rw [if_neg (by omega), w1, show ((b.length : Int) == 0) = false by simp; exact fun h => hb (by simp [h])]) (Ev.ret (fun k => ?_))⟩
      simp only [spec_l6Rd_pick.j0]
      rw [if_neg (by simp), w2, if_neg hp, if_neg (by omega), if_pos r1.1, if_pos r1.2, w4, w5, if_pos r2.1, if_pos r2.2, if_neg (by omega), hu, hv, hq, e1, w6]
theorem pick_p (b : List Int) (p n : Int) (h : RB b) (h0 : 0 ≤ p) (h1 : p ≤ 1000000) (hn : 1 ≤ n) (hn2 : n ≤ 1000000) :
    EvP (fun k => spec_l6Rd_pick.f k b p n) (fun r => (0 ≤ r.1 ∧ r.1 < n) ∧ r.2 = p + 1) := by
  obtain ⟨v, h1, h2, e⟩ := pick_ev b p n h h0 h1 hn hn2
  exact ⟨_, ⟨⟨h1, h2⟩, rfl⟩, e⟩
end Go.Proofs.Ytdaiohcgdpclnaa.Lpick
