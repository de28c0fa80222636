import Derived.Test.YtdaiohcgdpclnaaB1
import Derived.Test.YtdaiohcgdpclnaaQ11
/- Rooted maps, the program's side: what it lists, with no genus asked. -/
namespace Go.Proofs.Ytdaiohcgdpclnaa.LrA
set_option linter.unusedVariables false
set_option linter.unusedSimpArgs false
open Go.RowKit Go.Proofs.YtdaiohcgdpclnaaW.PrintWords Go.Proofs.YtdaiohcgdpclnaaW.PrintMore Go.Proofs.Ytdaiohcgdpclnaa.Q Go.Proofs.Ytdaiohcgdpclnaa.M Go.Proofs.Ytdaiohcgdpclnaa.B

def eqS (a b : S33) : Bool := a.f0 == b.f0 && a.f1 == b.f1
theorem eqS_eq {a b : S33} (h : eqS a b = true) : a = b := by
  simp only [eqS, Bool.and_eq_true, beq_iff_eq] at h
  cases a; cases b; simp only at h; rw [h.1, h.2]
def eqP (a b : S33 × Int) : Bool := eqS a.1 b.1 && a.2 == b.2
theorem eqP_eq {a b : S33 × Int} (h : eqP a b = true) : a = b := by
  simp only [eqP, Bool.and_eq_true, beq_iff_eq] at h
  exact Prod.ext (eqS_eq h.1) h.2
def eqL {α : Type} (f : α → α → Bool) : List α → List α → Bool
  | [], [] => true
  | a :: as_, b :: bs => f a b && eqL f as_ bs
  | _, _ => false
theorem eqL_eq {α : Type} {f : α → α → Bool} (hf : ∀ {a b}, f a b = true → a = b) : ∀ {a b : List α}, eqL f a b = true → a = b
  | [], [], _ => rfl
  | [], _ :: _, h => by simp [eqL] at h
  | _ :: _, [], h => by simp [eqL] at h
  | a :: as_, b :: bs, h => by
    simp only [eqL, Bool.and_eq_true] at h
    rw [hf h.1, eqL_eq hf h.2]
def eqO {α : Type} (f : α → α → Bool) (o : Option (List α)) (l : List α) : Bool := match o with
  | some a => eqL f a l
  | none => false
theorem eqO_eq {α : Type} {f : α → α → Bool} (hf : ∀ {a b}, f a b = true → a = b) {o : Option (List α)} {l : List α} (h : eqO f o l = true) : o = some l := by
  cases o with
  | none => cases h
  | some a => rw [eqL_eq hf h]
def one0 (e : Int) (x y : List Int) : Option (Option (S33 × Int)) := if x.length ≤ 40 ∧ y.length ≤ 40 then (impl_MapValid.f 900 x y).bind fun v => if v = true then (impl_genusOf.f 300 x y).bind fun t => (impl_namesFrom.f 300 x y 0).bind fun nm => (impl_still.f 60 (wrap64 (2 * e))).bind fun st => (slices_Equal_int_int.f 60 nm st).bind fun b => if b = true then some (some (⟨x, y⟩, t)) else some none else some none else none
def pick (g : Int) (o : Option (S33 × Int)) : List S33 := match o with
  | some p => if p.2 = g then [p.1] else []
  | none => []
theorem one_of (e g : Int) (x y : List Int) (o : Option (S33 × Int)) (h : one0 e x y = some o) : impl_rooted.one e g x y = some (pick g o) := by
  unfold one0 at h
  unfold impl_rooted.one
  by_cases c : x.length ≤ 40 ∧ y.length ≤ 40
  · rw [if_pos c] at h ⊢
    obtain ⟨v, hv, h⟩ := Option.bind_eq_some_iff.mp h
    rw [hv, Option.bind_some]
    by_cases c1 : v = true
    · rw [if_pos c1] at h ⊢
      obtain ⟨t, ht, h⟩ := Option.bind_eq_some_iff.mp h
      obtain ⟨nm, hnm, h⟩ := Option.bind_eq_some_iff.mp h
      obtain ⟨st, hst, h⟩ := Option.bind_eq_some_iff.mp h
      obtain ⟨b, hb, h⟩ := Option.bind_eq_some_iff.mp h
      rw [ht, Option.bind_some, hnm, hst]
      by_cases c2 : t = g
      · rw [if_pos c2, Option.bind_some, Option.bind_some, hb, Option.bind_some]
        by_cases c3 : b = true
        · rw [if_pos c3] at h ⊢
          obtain rfl := Option.some.inj h
          simp only [pick, if_pos c2]
        · rw [if_neg c3] at h ⊢
          obtain rfl := Option.some.inj h
          rfl
      · rw [if_neg c2]
        by_cases c3 : b = true
        · rw [if_pos c3] at h
          obtain rfl := Option.some.inj h
          simp only [pick, if_neg c2]
        · rw [if_neg c3] at h
          obtain rfl := Option.some.inj h
          rfl
    · rw [if_neg c1] at h ⊢
      obtain rfl := Option.some.inj h
      rfl
  · rw [if_neg c] at h; cases h
def cons0 (o : Option (S33 × Int)) (L : List (S33 × Int)) : List (S33 × Int) := match o with
  | some p => p :: L
  | none => L
def sel (g : Int) : List (S33 × Int) → List S33
  | [] => []
  | p :: L => pick g (some p) ++ sel g L
theorem sel_cons0 (g : Int) (o : Option (S33 × Int)) (L : List (S33 × Int)) : sel g (cons0 o L) = pick g o ++ sel g L := by
  cases o <;> rfl
theorem sel_app (g : Int) : ∀ L M : List (S33 × Int), sel g (L ++ M) = sel g L ++ sel g M
  | [], M => rfl
  | p :: L, M => by
    show pick g (some p) ++ sel g (L ++ M) = (pick g (some p) ++ sel g L) ++ sel g M
    rw [sel_app g L M, List.append_assoc]
def tl0 (e : Int) (x : List Int) : List (List Int) → Option (List (S33 × Int))
  | [] => some []
  | y :: ys => (one0 e x y).bind fun o => (tl0 e x ys).bind fun L => some (cons0 o L)
theorem tl_of (e g : Int) (x : List Int) : ∀ (ys : List (List Int)) (L : List (S33 × Int)), tl0 e x ys = some L → impl_rooted.tl e g x ys = some (sel g L)
  | [], L, h => by obtain rfl := Option.some.inj h; rfl
  | y :: ys, L, h => by
    simp only [tl0] at h
    obtain ⟨o, ho, h⟩ := Option.bind_eq_some_iff.mp h
    obtain ⟨M, hM, h⟩ := Option.bind_eq_some_iff.mp h
    obtain rfl := Option.some.inj h
    simp only [impl_rooted.tl]
    rw [one_of e g x y o ho, tl_of e g x ys M hM, sel_cons0]; rfl
def coll0 (e : Int) (fl : List (List Int)) : List (List Int) → Option (List (S33 × Int))
  | [] => some []
  | x :: xs => (tl0 e x fl).bind fun a => (coll0 e fl xs).bind fun b => some (a ++ b)
theorem coll_of (e g : Int) (fl : List (List Int)) : ∀ (ps : List (List Int)) (L : List (S33 × Int)), coll0 e fl ps = some L → impl_rooted.coll e g fl ps = some (sel g L)
  | [], L, h => by obtain rfl := Option.some.inj h; rfl
  | x :: xs, L, h => by
    simp only [coll0] at h
    obtain ⟨a, ha, h⟩ := Option.bind_eq_some_iff.mp h
    obtain ⟨b, hb, h⟩ := Option.bind_eq_some_iff.mp h
    obtain rfl := Option.some.inj h
    simp only [impl_rooted.coll]
    rw [tl_of e g x fl a ha, coll_of e g fl xs b hb, sel_app]; rfl
theorem coll0_app (e : Int) (fl : List (List Int)) : ∀ (ps qs : List (List Int)) (a b : List (S33 × Int)), coll0 e fl ps = some a → coll0 e fl qs = some b → coll0 e fl (ps ++ qs) = some (a ++ b)
  | [], qs, a, b, h1, h2 => by obtain rfl := Option.some.inj h1; exact h2
  | x :: xs, qs, a, b, h1, h2 => by
    simp only [coll0] at h1
    obtain ⟨c, hc, h1⟩ := Option.bind_eq_some_iff.mp h1
    obtain ⟨d, hd, h1⟩ := Option.bind_eq_some_iff.mp h1
    obtain rfl := Option.some.inj h1
    show (tl0 e x fl).bind _ = _
    rw [hc, Option.bind_some]
    show (coll0 e fl (xs ++ qs)).bind _ = _
    rw [coll0_app e fl xs qs d b hd h2, Option.bind_some, List.append_assoc]
def FL (n : Nat) : List (List Int) := (impl_rooted.gen 12 (List.replicate n (-1))).getD []
def PS (n : Nat) : List (List Int) := impl_rooted.pgen n (n + 1) []
def chunk (n c i : Nat) : List (List Int) := ((PS n).drop (c * i)).take c
theorem chunks (e : Int) (n c : Nat) (Ls : Nat → List (S33 × Int)) : ∀ m : Nat, (∀ i, i < m → coll0 e (FL n) (chunk n c i) = some (Ls i)) → coll0 e (FL n) ((PS n).take (c * m)) = some ((List.range m).flatMap Ls)
  | 0, _ => by simp [coll0]
  | m + 1, h => by
    rw [show c * (m + 1) = c * m + c by rw [Nat.mul_add, Nat.mul_one], List.take_add, List.range_succ, List.flatMap_append]
    refine coll0_app e _ _ _ _ _ (chunks e n c Ls m (fun i hi => h i (by omega))) ?_
    have e : [m].flatMap Ls = Ls m := by simp
    rw [e]; exact h m (by omega)
theorem FL_is (n : Nat) (h : (impl_rooted.gen 12 (List.replicate n (-1))).isSome = true) : impl_rooted.gen 12 (List.replicate n (-1)) = some (FL n) := by
  unfold FL
  generalize impl_rooted.gen 12 (List.replicate n (-1)) = o at h
  cases o with
  | none => cases h
  | some x => rfl
end Go.Proofs.Ytdaiohcgdpclnaa.LrA
