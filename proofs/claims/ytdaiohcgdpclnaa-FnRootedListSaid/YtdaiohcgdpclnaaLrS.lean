import Derived.Test.YtdaiohcgdpclnaaLrA
import Derived.Test.YtdaiohcgdpclnaaQ8
/- Rooted maps, the other side: the turns one after another, no genus asked. -/
namespace Go.Proofs.Ytdaiohcgdpclnaa.LrA
set_option linter.unusedVariables false
set_option linter.unusedSimpArgs false
open Go.RowKit Go.Proofs.YtdaiohcgdpclnaaW.PrintWords Go.Proofs.YtdaiohcgdpclnaaW.PrintMore Go.Proofs.Ytdaiohcgdpclnaa.Q Go.Proofs.Ytdaiohcgdpclnaa.M Go.Proofs.Ytdaiohcgdpclnaa.B

def stp (flip turn : List Int) : Option (Option (S33 × Int)) :=
  (spec_MapValid.f 300 turn flip).bind fun v => if v = true then (spec_l2Genus.f 300 turn flip).bind fun t => (spec_l2Form.f 300 turn flip 0).bind fun b => some (some (⟨b.1, b.2⟩, t)) else some none
def trc (flip : List Int) : Nat → List Int → Option (List (S33 × Int))
  | 0, _ => none
  | n + 1, turn => if (turn.length : Int) > 0 then (stp flip turn).bind fun o => (spec_l3Next.f 300 turn).bind fun t => (trc flip n t).bind fun L => some (cons0 o L) else some []
def foldPut (g : Int) : List (S33 × Int) → List S33 → Option (List S33)
  | [], acc => some acc
  | p :: L, acc => if p.2 = g then (spec_l3Put.f 300 acc p.1.f0 p.1.f1).bind fun a => foldPut g L a else foldPut g L acc
theorem all_ev (g : Int) (flip : List Int) : ∀ (n : Nat) (turn : List Int) (T : List (S33 × Int)) (acc r : List S33), trc flip n turn = some T → foldPut g T acc = some r →
    Ev (fun k => spec_l3All.l0 k g acc flip turn) r
  | 0, turn, T, acc, r, h, _ => by cases h
  | n + 1, turn, T, acc, r, h, hf => by
    simp only [trc] at h
    by_cases c : (turn.length : Int) > 0
    · rw [if_pos c] at h
      obtain ⟨o, ho, h⟩ := Option.bind_eq_some_iff.mp h
      obtain ⟨t, ht, h⟩ := Option.bind_eq_some_iff.mp h
      obtain ⟨L, hL, h⟩ := Option.bind_eq_some_iff.mp h
      obtain rfl := Option.some.inj h
      have en := Ev.of (spec_l3Next.mono turn) ht
      refine Ev.step (fun k => rfl) ?_
      refine Ev.pos c ?_
      unfold stp at ho
      obtain ⟨v, hv, ho⟩ := Option.bind_eq_some_iff.mp ho
      refine Ev.bind (Ev.of (spec_MapValid.mono turn flip) hv) ?_
      by_cases c1 : v = true
      · rw [if_pos c1] at ho
        obtain ⟨q, hq, ho⟩ := Option.bind_eq_some_iff.mp ho
        obtain ⟨b, hb, ho⟩ := Option.bind_eq_some_iff.mp ho
        obtain rfl := Option.some.inj ho
        refine Ev.pos c1 ?_
        refine Ev.bind (Ev.of (spec_l2Genus.mono turn flip) hq) ?_
        refine Ev.step (fun k => rfl) ?_
        simp only [cons0, foldPut] at hf
        by_cases c2 : q = g
        · rw [if_pos c2] at hf
          obtain ⟨a, ha, hf⟩ := Option.bind_eq_some_iff.mp hf
          refine Ev.pos (by simp [c2]) ?_
          refine Ev.bind (Ev.of (spec_l2Form.mono turn flip 0) hb) ?_
          refine Ev.bind (Ev.of (spec_l3Put.mono acc b.1 b.2) ha) ?_
          exact Ev.bind en (all_ev g flip n t L a r hL hf)
        · rw [if_neg c2] at hf
          refine Ev.neg (by simp [c2]) ?_
          exact Ev.bind en (all_ev g flip n t L acc r hL hf)
      · rw [if_neg c1] at ho
        obtain rfl := Option.some.inj ho
        refine Ev.neg c1 ?_
        refine Ev.step (fun k => rfl) ?_
        show Ev (fun k => (spec_l3Next.f k turn).bind fun t => spec_l3All.l0 k g acc flip t) r
        exact Ev.bind en (all_ev g flip n t L acc r hL hf)
    · rw [if_neg c] at h
      obtain rfl := Option.some.inj h
      obtain rfl := Option.some.inj hf
      exact Ev.step (fun k => rfl) (Ev.neg c (Ev.now _))
def seg (flip : List Int) : Nat → List Int → Option (List (S33 × Int) × List Int)
  | 0, turn => some ([], turn)
  | n + 1, turn => if (turn.length : Int) > 0 then (stp flip turn).bind fun o => (spec_l3Next.f 300 turn).bind fun t => (seg flip n t).bind fun q => some (cons0 o q.1, q.2) else none
theorem cons0_app (o : Option (S33 × Int)) (L M : List (S33 × Int)) : cons0 o (L ++ M) = cons0 o L ++ M := by cases o <;> rfl
theorem trc_seg (flip : List Int) (m : Nat) (t : List Int) (M : List (S33 × Int)) (h : trc flip m t = some M) : ∀ (n : Nat) (turn : List Int) (L : List (S33 × Int)), seg flip n turn = some (L, t) → trc flip (m + n) turn = some (L ++ M)
  | 0, turn, L, hs => by
    have e := Option.some.inj hs
    have e1 : turn = t := congrArg Prod.snd e
    have e2 : [] = L := congrArg Prod.fst e
    subst e1; subst e2
    exact h
  | n + 1, turn, L, hs => by
    simp only [seg] at hs
    by_cases c : (turn.length : Int) > 0
    · rw [if_pos c] at hs
      obtain ⟨o, ho, hs⟩ := Option.bind_eq_some_iff.mp hs
      obtain ⟨t', ht, hs⟩ := Option.bind_eq_some_iff.mp hs
      obtain ⟨q, hq, hs⟩ := Option.bind_eq_some_iff.mp hs
      have e := Option.some.inj hs
      have e1 : q.2 = t := congrArg Prod.snd e
      have e2 : cons0 o q.1 = L := congrArg Prod.fst e
      have hr := trc_seg flip m t M h n t' q.1 (by rw [hq, ← e1])
      show trc flip (m + n + 1) turn = _
      simp only [trc]
      rw [if_pos c, ho, Option.bind_some, ht, Option.bind_some, hr, Option.bind_some, cons0_app, e2]
    · rw [if_neg c] at hs; cases hs
def eqG (o : Option (List (S33 × Int) × List Int)) (L : List (S33 × Int)) (t : List Int) : Bool := match o with
  | some q => eqL eqP q.1 L && (q.2 == t)
  | none => false
theorem eqG_eq {o : Option (List (S33 × Int) × List Int)} {L : List (S33 × Int)} {t : List Int} (h : eqG o L t = true) : o = some (L, t) := by
  cases o with
  | none => cases h
  | some q =>
    simp only [eqG, Bool.and_eq_true, beq_iff_eq] at h
    rw [← eqL_eq eqP_eq h.1, ← h.2]
/-- a map told in one number: turn, flip, genus, each figure a digit of its own -/
def dig (N : Nat) : Nat → List Int → List Int
  | 0, acc => acc
  | n + 1, acc => dig (N / 10) n (((N % 10 : Nat) : Int) :: acc)
def dec (n N : Nat) : S33 × Int := (⟨dig (N / 10 ^ (n + 1)) n [], dig (N / 10) n []⟩, ((N % 10 : Nat) : Int))
/-- what the two sides list, told at once: genus nought, genus one, no other -/
def low (T : List (S33 × Int)) : Bool := T.all fun p => decide (p.2 = 0) || decide (p.2 = 1)
theorem sel_else (g : Int) (h0 : g ≠ 0) (h1 : g ≠ 1) : ∀ T : List (S33 × Int), low T = true → sel g T = []
  | [], _ => rfl
  | p :: T, h => by
    simp only [low, List.all_cons, Bool.and_eq_true, Bool.or_eq_true, decide_eq_true_eq] at h
    have hne : p.2 ≠ g := by rcases h.1 with e | e <;> rw [e] <;> omega
    show (if p.2 = g then [p.1] else []) ++ sel g T = []
    rw [if_neg hne, sel_else g h0 h1 T h.2]; rfl
theorem fold_else (g : Int) (h0 : g ≠ 0) (h1 : g ≠ 1) : ∀ (T : List (S33 × Int)) (acc : List S33), low T = true → foldPut g T acc = some acc
  | [], acc, _ => rfl
  | p :: T, acc, h => by
    simp only [low, List.all_cons, Bool.and_eq_true, Bool.or_eq_true, decide_eq_true_eq] at h
    have hne : p.2 ≠ g := by rcases h.1 with e | e <;> rw [e] <;> omega
    show (if p.2 = g then _ else foldPut g T acc) = _
    rw [if_neg hne, fold_else g h0 h1 T acc h.2]
theorem l3All_ev (e g : Int) (fl tn : List Int) (T : List (S33 × Int)) (L : List (S33 × Int)) (hfl : spec_l3Flip.f 300 e = some fl) (htn : spec_l1Same.f 300 (wrap64 (2 * e)) = some tn) (hT : trc fl 800 tn = some T)
    (hl : low T = true) (h0 : foldPut 0 T [] = some (sel 0 L)) (h1 : foldPut 1 T [] = some (sel 1 L)) (hL : low L = true) : Ev (fun k => spec_l3All.f k e g) (sel g L) := by
  unfold spec_l3All.f
  refine Ev.bind (Ev.of (spec_l3Flip.mono e) hfl) ?_
  refine Ev.bind (Ev.of (spec_l1Same.mono _) htn) ?_
  refine all_ev g fl 800 tn T [] _ hT ?_
  by_cases c0 : g = 0
  · rw [c0]; exact h0
  by_cases c1 : g = 1
  · rw [c1]; exact h1
  rw [sel_else g c0 c1 L hL]; exact fold_else g c0 c1 T [] hl
theorem rooted_f (e g : Int) (fl : List (List Int)) (L : List (S33 × Int)) (he : 1 ≤ e) (he3 : e ≤ 3) (hfl : impl_rooted.gen 12 (List.replicate (2 * e).toNat (-1)) = some fl) (hn : fl.length ≤ 1000)
    (hc : coll0 e fl (impl_rooted.pgen (2 * e).toNat ((2 * e).toNat + 1) []) = some L) (hL : low L = true) (hlen : L.length ≤ 1000)
    (h0 : (impl_rooted.asc (sel 0 L) && (sel 0 L).all impl_rooted.short) = true) (h1 : (impl_rooted.asc (sel 1 L) && (sel 1 L).all impl_rooted.short) = true) : impl_rooted.f e g = some (sel g L) := by
  have hg : (impl_rooted.asc (sel g L) && (sel g L).all impl_rooted.short) = true ∧ (sel g L).length ≤ 1000000 := by
    refine ⟨?_, ?_⟩
    · by_cases c0 : g = 0
      · rw [c0]; exact h0
      by_cases c1 : g = 1
      · rw [c1]; exact h1
      rw [sel_else g c0 c1 L hL]; rfl
    · have : ∀ M : List (S33 × Int), (sel g M).length ≤ M.length := by
        intro M
        induction M with
        | nil => exact Nat.le_refl _
        | cons p M ih =>
          show (pick g (some p) ++ sel g M).length ≤ _
          rw [List.length_append, List.length_cons]
          have : (pick g (some p)).length ≤ 1 := by
            show (if p.2 = g then [p.1] else []).length ≤ 1
            by_cases c : p.2 = g
            · rw [if_pos c]; exact Nat.le_refl _
            · rw [if_neg c]; exact Nat.zero_le _
          omega
      have := this L; omega
  simp only [Bool.and_eq_true] at hg
  unfold impl_rooted.f
  rw [if_neg (by omega), if_neg (by omega), hfl, Option.bind_some, if_pos hn, coll_of e g fl _ L hc, Option.bind_some, if_pos hg.2, if_pos hg.1.1, if_pos hg.1.2]
end Go.Proofs.Ytdaiohcgdpclnaa.LrA
