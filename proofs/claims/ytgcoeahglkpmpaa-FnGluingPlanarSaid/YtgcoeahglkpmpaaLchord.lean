import Derived.Test.YtgcoeahglkpmpaaLgv
import Derived.Test.YtgcoeahglkpmpaaQ31
import Derived.Test.YtgcoeahglkpmpaaQ29
import Derived.Test.YtgcoeahglkpmpaaQ30
/- Pairs that cross: both programs count the same. -/
namespace Go.Proofs.Ytgcoeahglkpmpaa.Lchord
set_option linter.unusedVariables false
set_option linter.unusedSimpArgs false
open Go.RowKit Go.Proofs.YtgcoeahglkpmpaaW.PrintWords Go.Proofs.YtgcoeahglkpmpaaW.PrintMore Go.Proofs.Ytgcoeahglkpmpaa.Q Go.Proofs.Ytgcoeahglkpmpaa.M Go.Proofs.Ytgcoeahglkpmpaa.B Go.Proofs.Ytgcoeahglkpmpaa.L1 Go.Proofs.Ytgcoeahglkpmpaa.Lgv

def cnt (f : Nat → Bool) : Nat → Nat → Nat
  | _, 0 => 0
  | i, d + 1 => (if f i then 1 else 0) + cnt f (i + 1) d
theorem cnt_le (f : Nat → Bool) : ∀ d i, cnt f i d ≤ d
  | 0, _ => Nat.le_refl _
  | d + 1, i => by
    have := cnt_le f d (i + 1)
    simp only [cnt]
    split <;> omega
def crossAt (p : List Int) (a : Nat) : Nat := cnt (fun c => decide (nth p c > nth p a)) (a + 1) ((nth p a).toNat - (a + 1))
def chordFrom (p : List Int) : Nat → Nat → Nat → Nat
  | 0, _, m => m
  | d + 1, a, m => chordFrom p d (a + 1) (m + crossAt p a)
def chord (p : List Int) : Nat := chordFrom p p.length 0 0

theorem spec_inner (p : List Int) (hl : p.length ≤ 1000) (a : Nat) (ha : a < p.length) (hpa : nth p a ≤ p.length) (R : Int) : ∀ (d b m : Nat), (nth p a).toNat - b = d → m + d ≤ 1000000000 →
    Ev (fun k => spec_l4Chord.l0 k p ((m + cnt (fun c => decide (nth p c > nth p a)) b d : Nat) : Int) ((a + 1 : Nat) : Int)) R → Ev (fun k => spec_l4Chord.l1 k p m a b) R := by
  intro d
  induction d with
  | zero =>
    intro b m h1 h2 h3
    refine Ev.step (fun k => ?_) h3
    simp only [spec_l4Chord.l1, cnt, Nat.add_zero]
    rw [if_pos (by omega), if_pos (by omega), rdn, if_neg (by omega), wrs a (by omega)]
  | succ d ih =>
    intro b m h1 h2 h3
    by_cases e : nth p b > nth p a
    · refine Ev.step (fun k => ?_) (ih (b + 1) (m + 1) (by omega) (by omega) ?_)
      · simp only [spec_l4Chord.l1]
        rw [if_pos (by omega), if_pos (by omega), rdn, rdn, if_pos (by omega), if_pos (by omega), if_pos (by omega), if_pos e, wrs b (by omega), wrs m (by omega)]
      · rw [show m + 1 + cnt (fun c => decide (nth p c > nth p a)) (b + 1) d = m + cnt (fun c => decide (nth p c > nth p a)) b (d + 1) by simp [cnt, e]; omega]
        exact h3
    · refine Ev.step (fun k => ?_) (ih (b + 1) m (by omega) (by omega) ?_)
      · simp only [spec_l4Chord.l1]
        rw [if_pos (by omega), if_pos (by omega), rdn, rdn, if_pos (by omega), if_pos (by omega), if_pos (by omega), if_neg e, wrs b (by omega)]
      · rw [show m + cnt (fun c => decide (nth p c > nth p a)) (b + 1) d = m + cnt (fun c => decide (nth p c > nth p a)) b (d + 1) by simp [cnt, e]]
        exact h3
theorem spec_outer (p : List Int) (hl : p.length ≤ 1000) (hp : ∀ i, i < p.length → nth p i ≤ p.length) : ∀ (d a m : Nat), a + d = p.length → m ≤ 1000 * a →
    Ev (fun k => spec_l4Chord.l0 k p m a) (chordFrom p d a m) := by
  intro d
  induction d with
  | zero =>
    intro a m h1 h2
    refine Ev.ret (fun k => ?_)
    simp only [spec_l4Chord.l0]
    rw [if_neg (by omega)]; rfl
  | succ d ih =>
    intro a m h1 h2
    have := hp a (by omega)
    have hc := cnt_le (fun c => decide (nth p c > nth p a)) ((nth p a).toNat - (a + 1)) (a + 1)
    refine Ev.step (fun k => ?_) (spec_inner p hl a (by omega) this _ _ (a + 1) m rfl (by omega) (ih (a + 1) _ (by omega) (by omega)))
    simp only [spec_l4Chord.l0]
    rw [if_pos (by omega), wrs a (by omega)]
theorem impl_inner (p : List Int) (hl : p.length ≤ 1000) (a : Nat) (ha : a < p.length) (hpa : nth p a ≤ p.length) (R : Int) : ∀ (d b m : Nat), (nth p a).toNat - b = d → m + d ≤ 1000000000 →
    Ev (fun k => impl_GluingChord.l0 k p ((m + cnt (fun c => decide (nth p c > nth p a)) b d : Nat) : Int) p p.length ((a + 1 : Nat) : Int)) R → Ev (fun k => impl_GluingChord.l1 k p m (nth p a) b p p.length a) R := by
  intro d
  induction d with
  | zero =>
    intro b m h1 h2 h3
    refine Ev.step (fun k => ?_) h3
    simp only [impl_GluingChord.l1, cnt, Nat.add_zero]
    rw [if_neg (by omega), wrs a (by omega)]
  | succ d ih =>
    intro b m h1 h2 h3
    by_cases e : nth p b > nth p a
    · refine Ev.step (fun k => ?_) (ih (b + 1) (m + 1) (by omega) (by omega) ?_)
      · simp only [impl_GluingChord.l1]
        rw [rdn, if_pos (by omega), if_pos (by omega), if_pos (by omega), if_pos e, wrs b (by omega), wrs m (by omega)]
      · rw [show m + 1 + cnt (fun c => decide (nth p c > nth p a)) (b + 1) d = m + cnt (fun c => decide (nth p c > nth p a)) b (d + 1) by simp [cnt, e]; omega]
        exact h3
    · refine Ev.step (fun k => ?_) (ih (b + 1) m (by omega) (by omega) ?_)
      · simp only [impl_GluingChord.l1]
        rw [rdn, if_pos (by omega), if_pos (by omega), if_pos (by omega), if_neg e, wrs b (by omega)]
      · rw [show m + cnt (fun c => decide (nth p c > nth p a)) (b + 1) d = m + cnt (fun c => decide (nth p c > nth p a)) b (d + 1) by simp [cnt, e]]
        exact h3
theorem impl_outer (p : List Int) (hl : p.length ≤ 1000) (hp : ∀ i, i < p.length → nth p i ≤ p.length) : ∀ (d a m : Nat), a + d = p.length → m ≤ 1000 * a →
    Ev (fun k => impl_GluingChord.l0 k p m p p.length a) (chordFrom p d a m) := by
  intro d
  induction d with
  | zero =>
    intro a m h1 h2
    refine Ev.ret (fun k => ?_)
    simp only [impl_GluingChord.l0]
    rw [if_neg (by omega)]; rfl
  | succ d ih =>
    intro a m h1 h2
    have := hp a (by omega)
    have hc := cnt_le (fun c => decide (nth p c > nth p a)) ((nth p a).toNat - (a + 1)) (a + 1)
    refine Ev.step (fun k => ?_) (impl_inner p hl a (by omega) this _ _ (a + 1) m rfl (by omega) (ih (a + 1) _ (by omega) (by omega)))
    simp only [impl_GluingChord.l0]
    rw [if_pos (by omega), if_pos (by omega), if_pos (by omega), rdn, wrs a (by omega)]
/-- the answer of both -/
def chordR (p : List Int) : Int := if gvB p then chord p else -1
theorem spec_chord (p : List Int) (hl : p.length ≤ 35184372088832) : Ev (fun k => spec_GluingChord.f k p) (chordR p) := by
  unfold spec_GluingChord.f
  refine Ev.bind (spec_gv p hl) ?_
  cases h : gvB p with
  | false => refine Ev.neg (by simp) (Ev.same (Ev.now _) ?_); simp [chordR, h]
  | true =>
    have hg := (gvB_iff p).1 h
    refine Ev.pos rfl ?_
    refine Ev.bind (a := (chord p : Int)) ?_ (Ev.same (Ev.now _) (by simp [chordR, h]))
    refine Ev.congr (fun k => ?_) (spec_outer p (by omega) (fun i hi => by have := hg.2 i hi; omega) p.length 0 0 (by omega) (by omega))
    unfold spec_l4Chord.f; rfl
theorem impl_chord (p : List Int) (hl : p.length ≤ 35184372088832) : Ev (fun k => impl_GluingChord.f k p) (chordR p) := by
  unfold impl_GluingChord.f
  refine Ev.bind (impl_gv p hl) ?_
  cases h : gvB p with
  | false => refine Ev.neg (by simp) (Ev.same (Ev.now _) ?_); simp [chordR, h]
  | true =>
    have hg := (gvB_iff p).1 h
    refine Ev.pos rfl ?_
    refine Ev.same (impl_outer p (by omega) (fun i hi => by have := hg.2 i hi; omega) p.length 0 0 (by omega) (by omega)) ?_
    simp [chordR, h, chord]
end Go.Proofs.Ytgcoeahglkpmpaa.Lchord
