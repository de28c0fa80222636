import Derived.Test.YtonlecigglbohaaLpick
import Derived.Test.YtonlecigglbohaaLtype
import Derived.Test.YtonlecigglbohaaLsame
import Derived.Test.YtonlecigglbohaaQ1
import Derived.Test.YtonlecigglbohaaQ7
/- Conjugate permutations have one type: the law, for every code. -/
namespace Go.Proofs.Ytonlecigglbohaa.Pure
set_option linter.unusedVariables false
set_option linter.unusedSimpArgs false
open Go.RowKit Go.Proofs.Ytonlecigglbohaa.Q Go.Proofs.YtonlecigglbohaaW.PrintWords Go.Proofs.YtonlecigglbohaaW.PrintMore Go.Proofs.YtonlecigglbohaaW.PrintLast Go.Proofs.Ytonlecigglbohaa.M Go.Proofs.Ytonlecigglbohaa.B Go.Proofs.Ytonlecigglbohaa.Lpick Go.Proofs.Ytonlecigglbohaa.Lperm Go.Proofs.Ytonlecigglbohaa.Ltype Go.Proofs.Ytonlecigglbohaa.Lsame

theorem perm_loop (b : List Int) (hb : RB b) (n : Nat) (hn : n ≤ 1000) : ∀ (d i : Nat) (acc : List Int) (p : Int), i + d = n → acc.length = i → 0 ≤ p → p + d ≤ 100000 →
    EvP (fun k => spec_l91Perm.l0 k n acc i b p) (fun r => r.1.length = n ∧ r.2 = p + d) := by
  intro d
  induction d with
  | zero =>
    intro i acc p h1 h2 h4 h5
    refine EvP.of (r := (acc, p)) ⟨by show acc.length = n; omega, by simp⟩ (Ev.ret (fun k => ?_))
    simp only [spec_l91Perm.l0]
    rw [if_neg (by omega)]
  | succ d ih =>
    intro i acc p h1 h2 h4 h5
    have hw := wrs i (by omega)
    refine EvP.step ?_ (fun k => by simp only [spec_l91Perm.l0]; rw [if_pos (by omega), hw])
    refine EvP.bind (pick_p b p ((i + 1 : Nat) : Int) hb h4 (by omega) (by omega) (by omega)) ?_
    rintro ⟨v, p'⟩ ⟨⟨v0, v1⟩, e⟩
    simp only at v0 v1 e
    subst e
    by_cases hv : v = (i : Int)
    · refine EvP.pos hv ?_
      refine EvP.pos (by omega) ?_
      refine EvP.mono (ih (i + 1) (acc ++ [(i : Int)]) (p + 1) (by omega) (by simp [h2]) (by omega) (by omega)) ?_
      rintro r ⟨a, d⟩; exact ⟨a, by omega⟩
    · refine EvP.neg hv ?_
      refine EvP.pos v0 ?_
      refine EvP.pos (by omega) ?_
      refine EvP.pos (by omega) ?_
      refine EvP.bindc (a := acc ++ [rd acc v]) rfl ?_
      refine EvP.pos (by simp; omega) ?_
      refine EvP.mono (ih (i + 1) ((acc ++ [rd acc v]).set v.toNat i) (p + 1) (by omega) (by simp [h2]) (by omega) (by omega)) ?_
      rintro r ⟨a, d⟩; exact ⟨a, by omega⟩
theorem draw_p (l : List Int) (h3 : ∀ x ∈ l, (Lit.int .u8 x).wf = true) : EvP (fun k => spec_DrawPermType.f k l) (fun x => x.length ≤ 9 ∨ x.length ≤ 10 ∧ ¬ Inj x) := by
  obtain ⟨b, hb, hrb⟩ := open_rb l h3
  unfold spec_DrawPermType.f
  refine EvP.bindc hb ?_
  have some_p : EvP (fun k => spec_l91Some.f k b 0 9) (fun r => r.1.length ≤ 9 ∨ r.1.length ≤ 10 ∧ ¬ Inj r.1) := by
    unfold spec_l91Some.f
    refine EvP.bind (pick_p b 0 9 hrb (by omega) (by omega) (by omega) (by omega)) ?_
    rintro ⟨v, p'⟩ ⟨⟨v0, v1⟩, e⟩
    simp only at v0 v1 e
    subst e
    obtain ⟨m, rfl⟩ := Int.eq_ofNat_of_zero_le v0
    have e1 : wrap64 (1 + (m : Int)) = ((m + 1 : Nat) : Int) := by rw [wr _ (by omega) (by omega)]; omega
    simp only [e1]
    refine EvP.bind (P := fun r => r.1.length = m + 1 ∧ r.2 = 0 + 1 + ((m + 1 : Nat) : Int)) (EvP.congr (perm_loop b hrb (m + 1) (by omega) (m + 1) 0 [] (0 + 1) (by omega) rfl (by omega) (by omega)) (fun k => by unfold spec_l91Perm.f; rfl)) ?_
    rintro ⟨q, p'⟩ ⟨hq, e⟩
    simp only at hq e
    subst e
    dsimp only
    refine EvP.bind (pick_p b _ 40 hrb (by omega) (by omega) (by omega) (by omega)) ?_
    rintro ⟨v, p'⟩ ⟨⟨v0, v1⟩, e⟩
    simp only at v0 v1 e
    subst e
    by_cases hv : v = 0
    · refine EvP.pos hv ?_
      refine EvP.bindc rfl ?_
      refine EvP.bind (pick_p b _ 2 hrb (by omega) (by omega) (by omega) (by omega)) ?_
      rintro ⟨v, p'⟩ ⟨⟨v0, v1⟩, e⟩
      simp only at v0 v1 e
      subst e
      refine EvP.pos v0 (EvP.pos (by simpa using v1) (EvP.pos (by omega) (EvP.now ?_)))
      left; show (q.set _ _).length ≤ 9; rw [List.length_set]; omega
    · refine EvP.neg hv ?_
      by_cases hv1 : v = 1
      · exact EvP.pos hv1 (EvP.now (.inl (by simp)))
      · refine EvP.neg hv1 ?_
        by_cases hv2 : v = 2
        · refine EvP.pos hv2 (EvP.pos (by omega) (EvP.pos (by omega) (EvP.now ?_)))
          right
          refine ⟨by simp; omega, fun hj => ?_⟩
          have := hj 0 q.length (by simp) (by simp) (by rw [nth_app_lt _ _ _ (by omega), nth_app_last]; rfl)
          omega
        · exact EvP.neg hv2 (EvP.now (.inl (by show q.length ≤ 9; omega)))
  refine EvP.bind some_p (fun r h => EvP.now h)
def schk (n : Nat) (c : List Nat) : Bool := laws_sumOf.f 60 (canon c n) == some (n : Int)
theorem sum_all : (List.range 10).all (fun n => (comps 9 n).all (schk n)) = true := by decide +kernel
theorem typ_in (P : Nat → List Nat → Bool) (h : (List.range 10).all (fun n => (comps 9 n).all (P n)) = true) (p : List Int) (hp : Into p) (hj : Inj p) (hn : p.length ≤ 9) : P p.length (lens p) = true :=
  List.all_eq_true.1 (List.all_eq_true.1 h p.length (by simp; omega)) _ (mem_comps 9 p.length (lens p) (lens_pos p hp hj) (lens_sum p hp hj) hn)
theorem desc_nth : ∀ (l : List Int), desc l = true → ∀ i, i + 1 < l.length → nth l (i + 1) ≤ nth l i
  | [], _, i, h => by simp at h
  | [_], _, i, h => by simp at h
  | x :: y :: l, h, i, hi => by
    simp only [desc, Bool.and_eq_true, decide_eq_true_eq] at h
    cases i with
    | zero => exact h.1
    | succ i => exact desc_nth (y :: l) h.2 i (by simpa using hi)
theorem last_loop (x t : List Int) (C : List (List Int)) (ht : t.length ≤ 1000) (hd : ∀ i, i + 1 < t.length → nth t (i + 1) ≤ nth t i) (hs : Ev (fun k => laws_sumOf.f k t) (x.length : Int)) (hc : t.length = C.length) : ∀ (d i : Nat), i + d = t.length → 1 ≤ i →
    Ev (fun k => laws_FnType.l0 k x t true t true C true i) true := by
  intro d
  induction d with
  | zero =>
    intro i h1 h2
    refine Ev.step (f := fun k => (laws_sumOf.f k t).bind fun t1393 => (if t1393 = (x.length : Int) then (if (t.length : Int) = (C.length : Int) then ((laws_sameInts.f k t t).bind fun t1394 => (some t1394)) else (some false)) else (some false))) (fun k => ?_) ?_
    · simp only [laws_FnType.l0]
      rw [if_neg (by omega)]; simp only [if_true]
    · refine Ev.bind hs (Ev.pos rfl (Ev.pos (by omega) ?_))
      exact Ev.bind (same_self t (by omega)) (Ev.now _)
  | succ d ih =>
    intro i h1 h2
    have hi := hd (i - 1) (by omega)
    rw [show i - 1 + 1 = i by omega] at hi
    have w : wrap64 ((i : Int) - 1) = ((i - 1 : Nat) : Int) := by rw [wr _ (by omega) (by omega)]; omega
    refine Ev.step (fun k => ?_) (ih (i + 1) (by omega) (by omega))
    simp only [laws_FnType.l0]
    rw [w, if_pos (by omega), if_pos (by omega), if_pos (by omega), if_pos (by omega), rdn, rdn, if_neg (by omega), wrs i (by omega)]
theorem canon_len (c : List Nat) (n : Nat) (h : tchk n c = true) : (canon c n).length = c.length := by
  simp only [tchk, Bool.and_eq_true, decide_eq_true_eq] at h; exact h.2
theorem FnType : laws_FnType.Pure := by
  intro l m h1 h2 h3 g1 g2 g3
  refine Ev.rounds ?_
  unfold laws_FnType.f
  have stop : Ev (fun k => laws_FnType.j0 k l m true) true := Ev.ret (fun k => by simp only [laws_FnType.j0]; rfl)
  by_cases hb : (l.length : Int) > 1048576
  · exact Ev.pos hb stop
  refine Ev.neg hb ?_
  by_cases hb2 : (m.length : Int) > 1048576
  · exact Ev.congr (fun k => by rw [decide_eq_true hb2]) stop
  refine Ev.congr (fun k => by rw [decide_eq_false hb2]) (Ev.step (fun k => by simp only [laws_FnType.j0]; rw [if_neg (by simp)]) ?_)
  refine Ev.bindp (draw_p l h3) (fun x hx => ?_)
  have hx10 : x.length ≤ 10 := by rcases hx with h | h <;> omega
  cases hp : pB x with
  | false =>
    have e1 : Ev (fun k => impl_PermType.f k x) ([], false) := by
      unfold impl_PermType.f
      exact Ev.bindc (impl_pv x) (by rw [hp]; exact Ev.neg (by simp) (Ev.now _))
    have e2 : Ev (fun k => spec_PermType.f k x) ([], false) := by
      unfold spec_PermType.f
      exact Ev.bind (spec_pv x (by omega)) (by rw [hp]; exact Ev.neg (by simp) (Ev.now _))
    refine Ev.bind e1 (Ev.bind e2 (Ev.neg (by simp) (Ev.bind (same_self [] (by simp)) (Ev.pos rfl ?_))))
    refine Ev.step (f := fun k => (laws_sameInts.f k [] []).bind fun t1375 => (some t1375)) (fun k => by simp only [laws_FnType.j1]; rfl) ?_
    exact Ev.bind (same_self [] (by simp)) (Ev.now _)
  | true =>
    obtain ⟨hlen, hi, hj⟩ := (pB_iff x).1 hp
    have hn : x.length ≤ 9 := hx.resolve_right (fun h => h.2 hj)
    have e1 : Ev (fun k => impl_PermType.f k x) (typ x, true) := by
      unfold impl_PermType.f
      exact Ev.bindc (impl_pv x) (by rw [hp]; exact Ev.pos rfl (Ev.bind (impl_typ x hi hj hn) (Ev.now _)))
    have e2 : Ev (fun k => spec_PermType.f k x) (typ x, true) := by
      unfold spec_PermType.f
      exact Ev.bind (spec_pv x (by omega)) (by rw [hp]; exact Ev.pos rfl (Ev.bind (spec_typ x hi hj (by omega)) (Ev.now _)))
    have hc := typ_chk x hi hj hn
    have hcl : (typ x).length = (cycles x).length := by unfold typ; rw [canon_len _ _ hc]; simp [lens]
    have hfew := lens_few x hi hj
    have e3 := same_self (typ x) (by omega)
    refine Ev.bind e1 (Ev.bind e2 (Ev.neg (by simp) (Ev.bind e3 (Ev.pos rfl ?_))))
    have hm : 1 + (m.length : Int) % 5 = ((1 + m.length % 5 : Nat) : Int) := by omega
    generalize hby : 1 + m.length % 5 = b at hm
    have hb5 : b ≤ 5 := by omega
    refine Ev.step (f := fun k => (laws_mixOf.f k (x.length : Int) (b : Int)).bind fun t1376 => ((impl_PermConj.f k x t1376).bind fun bt1379 => ((impl_PermType.f k bt1379.1).bind fun bt1383 => ((impl_PermCycles.f k x).bind fun bt1387 => (laws_FnType.l0 k x (typ x) bt1379.2 bt1383.1 bt1383.2 bt1387.1 bt1387.2 1))))) (fun k => by simp only [laws_FnType.j1, hm]; rfl) ?_
    refine Ev.bind (mix_ev x.length b (by omega) (by omega)) ?_
    have mi := mix_into x.length b
    have mj := mix_inj x.length b
    have ml_ := mix_len x.length b
    generalize mix x.length b = y at mi mj ml_
    have hpy : pB y = true := (pB_iff y).2 ⟨by omega, mi, mj⟩
    have ec : Ev (fun k => impl_PermConj.f k x y) (ren y x, true) := by
      unfold impl_PermConj.f
      refine Ev.bindc (impl_pv x) ?_
      rw [hp]
      refine Ev.pos rfl (Ev.bindc (impl_pv y) ?_)
      rw [hpy]
      refine Ev.pos rfl (Ev.congr (fun k => by rw [show ((x.length : Int) != (y.length : Int)) = false by simp [ml_]]) (Ev.step (fun k => by simp only [impl_PermConj.j0]; rw [if_neg (by simp)]) ?_))
      refine Ev.bind (impl_bk y mi (by omega)) ?_
      have bi := bk_into y mi mj
      have bl := bk_len y
      refine Ev.bind (impl_ml (bk y) x (fun i h => by have := bi i h; omega) (by omega)) ?_
      have ri := ml_into (bk y) x bi hi (by omega)
      refine Ev.bind (impl_ml (ml (bk y) x) y (fun i h => by have := ri i h; rw [ml_len] at this h; omega) (by rw [ml_len]; omega)) ?_
      exact Ev.now _
    refine Ev.bind ec ?_
    have zi := ren_into y x mi mj hi (by omega)
    have zj := ren_inj y x mi mj hi hj (by omega)
    have zl : (ren y x).length = x.length := by rw [ren_len, ml_]
    have hz : pB (ren y x) = true := (pB_iff _).2 ⟨by omega, zi, zj⟩
    have hty : typ (ren y x) = typ x := by
      unfold typ
      rw [zl]
      apply canon_congr
      intro L
      have cc := conj_count x (ren y x) y hi hj zi zj mi mj zl ml_ (fun d hd => by show (nth (ren y x) (fn y d)).toNat = _; rw [ren_nth y x mi mj d (by omega)]; rfl) L
      have ck : ∀ q : List Int, (lens q).count L = (cycles q).countP (fun c => decide (c.length = L)) := by
        intro q
        unfold lens List.count
        rw [List.countP_map]
        apply List.countP_congr
        intro c _
        simp
      rw [ck, ck, cc]
    generalize ren y x = z at *
    have e4 : Ev (fun k => impl_PermType.f k z) (typ x, true) := by
      unfold impl_PermType.f
      exact Ev.bindc (impl_pv z) (by rw [hz]; exact Ev.pos rfl (Ev.bind (Ev.same (impl_typ z zi zj (by omega)) hty) (Ev.now _)))
    refine Ev.bind e4 ?_
    have e5 : Ev (fun k => impl_PermCycles.f k x) (cycles x, true) := by
      unfold impl_PermCycles.f
      exact Ev.bindc (impl_pv x) (by rw [hp]; exact Ev.pos rfl (Ev.bind (Lcyc.impl_cycles x hi (by omega)) (Ev.now _)))
    refine Ev.bind e5 ?_
    have hsum : Ev (fun k => laws_sumOf.f k (typ x)) (x.length : Int) := by
      have := typ_in schk sum_all x hi hj hn
      unfold schk at this
      exact Ev.of (fun k => laws_sumOf.mono _ k) (by unfold typ; simpa using this)
    have hds : ∀ i, i + 1 < (typ x).length → nth (typ x) (i + 1) ≤ nth (typ x) i := by
      simp only [tchk, Bool.and_eq_true] at hc
      exact desc_nth _ hc.1.1.2
    by_cases hz1 : 1 ≤ (typ x).length
    · exact last_loop x (typ x) (cycles x) (by omega) hds hsum hcl ((typ x).length - 1) 1 (by omega) (by omega)
    · exfalso
      have hll : (lens x).length = (cycles x).length := by simp [lens]
      have : lens x = [] := List.eq_nil_of_length_eq_zero (by omega)
      have h := lens_sum x hi hj
      rw [this] at h
      simp at h
      omega
end Go.Proofs.Ytonlecigglbohaa.Pure
