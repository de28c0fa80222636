import Derived.Test.YtonlecigglbohaaLpick
import Derived.Test.YtonlecigglbohaaLmv
import Derived.Test.YtonlecigglbohaaQ7
import Derived.Test.YtonlecigglbohaaQ9
/- Drawn maps: every draw comes to an end, and the lists are short. -/
namespace Go.Proofs.Ytonlecigglbohaa.Lmdraw
set_option linter.unusedVariables false
set_option linter.unusedSimpArgs false
open Go.RowKit Go.Proofs.YtonlecigglbohaaW.PrintWords Go.Proofs.YtonlecigglbohaaW.PrintMore Go.Proofs.Ytonlecigglbohaa.Q Go.Proofs.Ytonlecigglbohaa.M Go.Proofs.Ytonlecigglbohaa.B Go.Proofs.Ytonlecigglbohaa.Lpick Go.Proofs.Ytonlecigglbohaa.Lperm Go.Proofs.Ytonlecigglbohaa.Lmv

theorem grow_nth (acc : List Int) (v : Nat) (hv : v < acc.length) (j : Nat) (hj : j < acc.length + 1) : nth ((acc ++ [nth acc v]).set v (acc.length : Int)) j = if j = v then (acc.length : Int) else if j = acc.length then nth acc v else nth acc j := by
  rw [nth_set]
  by_cases e : v = j
  · rw [if_pos ⟨e, by simp; omega⟩, if_pos e.symm]
  · rw [if_neg (fun h => e h.1), if_neg (fun h => e h.symm)]
    by_cases g : j = acc.length
    · rw [if_pos g, g, nth_app_last]
    · rw [if_neg g, nth_app_lt _ _ _ (by omega)]
theorem grow_ok (acc : List Int) (hi : Into acc) (hj : Inj acc) (v : Nat) (hv : v < acc.length) : Into ((acc ++ [nth acc v]).set v (acc.length : Int)) ∧ Inj ((acc ++ [nth acc v]).set v (acc.length : Int)) := by
  have hl : ((acc ++ [nth acc v]).set v (acc.length : Int)).length = acc.length + 1 := by simp
  have hv2 := hi v hv
  constructor
  · intro j h
    rw [hl] at h ⊢
    rw [grow_nth acc v hv j h]
    split
    · omega
    · split
      · omega
      · have := hi j (by omega); omega
  · intro a b ha hb e
    rw [hl] at ha hb
    rw [grow_nth acc v hv a ha, grow_nth acc v hv b hb] at e
    by_cases a1 : a = v
    · by_cases b1 : b = v
      · omega
      · rw [if_pos a1, if_neg b1] at e
        by_cases b2 : b = acc.length
        · rw [if_pos b2] at e; omega
        · rw [if_neg b2] at e; have := hi b (by omega); omega
    · rw [if_neg a1] at e
      by_cases b1 : b = v
      · rw [if_pos b1] at e
        by_cases a2 : a = acc.length
        · rw [if_pos a2] at e; omega
        · rw [if_neg a2] at e; have := hi a (by omega); omega
      · rw [if_neg b1] at e
        by_cases a2 : a = acc.length
        · by_cases b2 : b = acc.length
          · omega
          · rw [if_pos a2, if_neg b2] at e; exact absurd (hj v b hv (by omega) e) (fun h => b1 h.symm)
        · rw [if_neg a2] at e
          by_cases b2 : b = acc.length
          · rw [if_pos b2] at e; exact absurd (hj a v (by omega) hv e) a1
          · rw [if_neg b2] at e; exact hj a b (by omega) (by omega) e
theorem perm_loop (b : List Int) (hb : RB b) (n : Nat) (hn : n ≤ 1000) : ∀ (d i : Nat) (acc : List Int) (p : Int), i + d = n → acc.length = i → Into acc → Inj acc → 0 ≤ p → p + d ≤ 100000 →
    EvP (fun k => spec_l91Perm.l0 k n acc i b p) (fun r => (r.1.length = n ∧ Into r.1 ∧ Inj r.1) ∧ r.2 = p + d) := by
  intro d
  induction d with
  | zero =>
    intro i acc p h1 h2 h3 h3' h4 h5
    refine EvP.of (r := (acc, p)) ⟨⟨by show acc.length = n; omega, h3, h3'⟩, by simp⟩ (Ev.ret (fun k => ?_))
    simp only [spec_l91Perm.l0]
    rw [if_neg (by omega)]
  | succ d ih =>
    intro i acc p h1 h2 h3 h3' h4 h5
    have hw := wrs i (by omega)
    refine EvP.step ?_ (fun k => by simp only [spec_l91Perm.l0]; rw [if_pos (by omega), hw])
    refine EvP.bind (pick_p b p ((i + 1 : Nat) : Int) hb h4 (by omega) (by omega) (by omega)) ?_
    rintro ⟨v, p'⟩ ⟨⟨v0, v1⟩, e⟩
    simp only at v0 v1 e
    subst e
    by_cases hv : v = (i : Int)
    · refine EvP.pos hv ?_
      refine EvP.pos (by omega) ?_
      have ha : Into (acc ++ [(i : Int)]) ∧ Inj (acc ++ [(i : Int)]) := by
        constructor
        · intro j hj
          simp only [List.length_append, List.length_cons, List.length_nil] at hj ⊢
          by_cases g : j = acc.length
          · subst g; rw [nth_app_last]; omega
          · rw [nth_app_lt _ _ _ (by omega)]; have := h3 j (by omega); omega
        · intro x y hx hy e
          simp only [List.length_append, List.length_cons, List.length_nil] at hx hy
          by_cases g : x = acc.length
          · by_cases g2 : y = acc.length
            · omega
            · rw [g, nth_app_last, nth_app_lt _ _ _ (by omega)] at e; have := h3 y (by omega); omega
          · by_cases g2 : y = acc.length
            · rw [g2, nth_app_last, nth_app_lt _ _ _ (by omega)] at e; have := h3 x (by omega); omega
            · rw [nth_app_lt _ _ _ (by omega), nth_app_lt _ _ _ (by omega)] at e; exact h3' x y (by omega) (by omega) e
      refine EvP.mono (ih (i + 1) (acc ++ [(i : Int)]) (p + 1) (by omega) (by simp [h2]) ha.1 ha.2 (by omega) (by omega)) ?_
      rintro r ⟨a, d⟩; exact ⟨a, by omega⟩
    · refine EvP.neg hv ?_
      refine EvP.pos v0 ?_
      refine EvP.pos (by omega) ?_
      refine EvP.pos (by omega) ?_
      refine EvP.bindc (a := acc ++ [rd acc v]) rfl ?_
      refine EvP.pos (by simp; omega) ?_
      have ha := grow_ok acc h3 h3' v.toNat (by omega)
      rw [h2] at ha
      refine EvP.mono (ih (i + 1) ((acc ++ [rd acc v]).set v.toNat i) (p + 1) (by omega) (by simp [h2]) ha.1 ha.2 (by omega) (by omega)) ?_
      rintro r ⟨a, d⟩; exact ⟨a, by omega⟩
theorem perm_p (b : List Int) (hb : RB b) (p : Int) (n : Nat) (hn : n ≤ 1000) (h4 : 0 ≤ p) (h5 : p ≤ 90000) :
    EvP (fun k => spec_l91Perm.f k b p (n : Int)) (fun r => (r.1.length = n ∧ Into r.1 ∧ Inj r.1) ∧ r.2 = p + n) :=
  EvP.congr (perm_loop b hb n hn n 0 [] p (by omega) rfl (fun i h => by simp at h) (fun i j h => by simp at h) h4 (by omega)) (fun k => by unfold spec_l91Perm.f; rfl)
/-- partners by places -/
def par (j : Nat) : Nat := if j % 2 = 0 then j + 1 else j - 1
def Paired (P q : List Int) (i : Nat) : Prop := ∀ j, j < i → nth q (fn P j) = nth P (par j)
theorem paired_inv (P q : List Int) (hP : Into P) (jP : Inj P) (hl : q.length = P.length) (he : P.length % 2 = 0) (h : Paired P q P.length) : (Into q ∧ Inj q) ∧ ∀ x, x < q.length → nth q x ≠ x ∧ nth q (fn q x) = x := by
  have hpar : ∀ j, j < P.length → par j < P.length ∧ par j ≠ j ∧ par (par j) = j := by
    intro j hj
    unfold par
    by_cases e : j % 2 = 0
    · rw [if_pos e, if_neg (by omega)]; omega
    · rw [if_neg e, if_pos (by omega)]; omega
  have key : ∀ x, x < q.length → ∃ j, j < P.length ∧ fn P j = x ∧ nth q x = nth P (par j) := by
    intro x hx
    obtain ⟨j, hj, rfl⟩ := onto P hP jP x (by omega)
    exact ⟨j, hj, rfl, h j hj⟩
  have hin : Into q := by
    intro x hx
    obtain ⟨j, hj, _, e⟩ := key x hx
    rw [e, hl]; exact hP _ (hpar j hj).1
  have hinv : ∀ x, x < q.length → nth q x ≠ x ∧ nth q (fn q x) = x := by
    intro x hx
    obtain ⟨j, hj, e1, e2⟩ := key x hx
    obtain ⟨p1, p2, p3⟩ := hpar j hj
    have e3 : fn q x = fn P (par j) := by unfold fn; rw [e2]
    refine ⟨fun e => p2 ?_, ?_⟩
    · rw [e2, ← fn_cast hP p1] at e
      exact fn_inj hP jP p1 hj (by omega)
    · rw [e3, h _ p1, p3, ← fn_cast hP hj, e1]
  refine ⟨⟨hin, fun x y hx hy e => ?_⟩, hinv⟩
  have h1 := (hinv x hx).2
  have h2 := (hinv y hy).2
  have e3 : fn q x = fn q y := by unfold fn; rw [e]
  rw [e3, h2] at h1
  omega
theorem swap_ok (t : List Int) (hi : Into t) (hj : Inj t) (k : Nat) (hk : k < t.length) : Into ((t.set 0 (nth t k)).set k (nth t 0)) ∧ Inj ((t.set 0 (nth t k)).set k (nth t 0)) := by
  have h0 : 0 < t.length := by omega
  have hn : ∀ j, j < t.length → nth ((t.set 0 (nth t k)).set k (nth t 0)) j = nth t (if j = k then 0 else if j = 0 then k else j) := by
    intro j hj'
    rw [nth_set]
    by_cases e : k = j
    · rw [if_pos ⟨e, by simp; omega⟩, if_pos e.symm]
    · rw [if_neg (fun h => e h.1), if_neg (fun h => e h.symm), nth_set]
      by_cases g : 0 = j
      · rw [if_pos ⟨g, h0⟩, if_pos g.symm]
      · rw [if_neg (fun h => g h.1), if_neg (fun h => g h.symm)]
  have hl : ((t.set 0 (nth t k)).set k (nth t 0)).length = t.length := by simp
  constructor
  · intro j hj'
    rw [hl] at hj' ⊢
    rw [hn j hj']
    apply hi
    split
    · exact h0
    · split <;> omega
  · intro a b ha hb e
    rw [hl] at ha hb
    rw [hn a ha, hn b hb] at e
    have := hj _ _ (by split; exact h0; split <;> omega) (by split; exact h0; split <;> omega) e
    split at this <;> split at this <;> (try split at this) <;> (try split at this) <;> omega
section
variable (b : List Int) (hb : RB b) (n : Nat) (hn : 2 ≤ n ∧ n ≤ 12)
def Out (n : Nat) (r : List Int × List Int × Int) : Prop := (r.1.length ≤ 20 ∧ r.2.1.length ≤ 20) ∧ 0 ≤ r.2.2 ∧ r.2.2 ≤ 20000
include hb hn
theorem end_p (t f : List Int) (hl1 : t.length = n) (hl2 : f.length = n) (i p : Int) (h4 : 0 ≤ p) (h5 : p ≤ 10000) : EvP (fun k => spec_l91Map.j2 k n i false b p t f) (Out n) := by
  refine EvP.step ?_ (fun k => by simp only [spec_l91Map.j2]; rw [if_neg (by simp)])
  refine EvP.bind (pick_p b p 50 hb h4 (by omega) (by omega) (by omega)) ?_
  rintro ⟨v, p'⟩ ⟨⟨v0, v1⟩, e⟩
  simp only at v0 v1 e
  subst e
  dsimp only
  by_cases c0 : v = 0
  · exact EvP.pos c0 (EvP.pos (by omega) (EvP.now ⟨⟨by show t.length ≤ 20; omega, by show (f.set _ _).length ≤ 20; rw [List.length_set]; omega⟩, by show 0 ≤ p + 1; omega, by show p + 1 ≤ 20000; omega⟩))
  refine EvP.neg c0 ?_
  by_cases c1 : v = 1
  · exact EvP.pos c1 (EvP.pos (by omega) (EvP.now ⟨⟨by show (t.drop _).length ≤ 20; rw [List.length_drop]; omega, by show f.length ≤ 20; omega⟩, by show 0 ≤ p + 1; omega, by show p + 1 ≤ 20000; omega⟩))
  refine EvP.neg c1 ?_
  by_cases c2 : v = 2
  · exact EvP.pos c2 (EvP.pos (by omega) (EvP.now ⟨⟨by show (t.set _ _).length ≤ 20; rw [List.length_set]; omega, by show f.length ≤ 20; omega⟩, by show 0 ≤ p + 1; omega, by show p + 1 ≤ 20000; omega⟩))
  exact EvP.neg c2 (EvP.now ⟨⟨by show t.length ≤ 20; omega, by show f.length ≤ 20; omega⟩, by show 0 ≤ p + 1; omega, by show p + 1 ≤ 20000; omega⟩)
theorem mend_p (f : List Int) (hl2 : f.length = n) (hf : pB f = true) (hinv : invB f f.length 0 = true) (p : Int) (h4 : 0 ≤ p) (h5 : p ≤ 10000) : ∀ (d i : Nat) (t : List Int), i + d = n → t.length = n → Into t → Inj t →
    EvP (fun k => spec_l91Map.l1 k n i b p t f) (Out n) := by
  intro d
  induction d with
  | zero =>
    intro i t h1 hl1 ht jt
    exact EvP.step (end_p b hb n hn t f hl1 hl2 i p h4 h5) (fun k => by simp only [spec_l91Map.l1]; rw [if_neg (by omega)])
  | succ d ih =>
    intro i t h1 hl1 ht jt
    have hp : pB t = true := (pB_iff t).2 ⟨by omega, ht, jt⟩
    obtain ⟨_, b2, b3⟩ := (pB_iff f).1 hf
    refine EvP.step ?_ (fun k => by simp only [spec_l91Map.l1]; rw [if_pos (by omega)])
    obtain ⟨K, hK⟩ := spec_mv t f (by omega) (by omega)
    refine EvP.bind (EvP.of (P := fun r => r = mvB t f) rfl ⟨K, hK⟩) ?_
    rintro _ rfl
    cases hv : mvB t f with
    | true => exact end_p b hb n hn t f hl1 hl2 i p h4 h5
    | false =>
      refine EvP.step ?_ (fun k => by simp only [spec_l91Map.j2]; exact if_pos (by rfl))
      refine EvP.bind (spec_orb ht b2 (by omega) (by omega)) ?_
      rintro R ⟨hR, hz⟩
      have hno : ¬ ∀ i, i < t.length → nth R i = 0 := fun h => by
        have := (mv_iff t f).2 ⟨hp, hf, by omega, hinv, hz.1 h⟩
        rw [hv] at this; cases this
      have hlen := hR.len
      have scan : ∀ (c x : Nat), x + c = n → (∀ j, j < x → nth R j = 0) → EvP (fun k => spec_l91Map.l2 k n i R x b p t f) (Out n) := by
        intro c
        induction c with
        | zero => intro x h2 h3; exact absurd (fun i hi => h3 i (by omega)) hno
        | succ c ihc =>
          intro x h2 h3
          by_cases e : nth R x = 0
          · refine EvP.step (ihc (x + 1) (by omega) (fun j hj => ?_)) (fun k => by simp only [spec_l91Map.l2]; rw [if_pos (by omega), if_pos (by omega), rdn, if_pos e, wrs x (by omega)])
            by_cases g : j = x
            · rw [g]; exact e
            · exact h3 j (by omega)
          · have hs := swap_ok t ht jt x (by omega)
            refine EvP.step (ih (i + 1) ((t.set 0 (nth t x)).set x (nth t 0)) (by omega) (by simp; omega) hs.1 hs.2) (fun k => ?_)
            simp only [spec_l91Map.l2]
            rw [if_pos (by omega), if_pos (by omega), rdn, if_neg e, if_pos (by omega), if_pos (by omega), wrs i (by omega), rdn]
            rfl
      exact scan n 0 (by omega) (fun j h => by omega)
theorem flip_p (P : List Int) (hlP : P.length = n) (hP : Into P) (jP : Inj P) (he : n % 2 = 0) (p : Int) (h4 : 0 ≤ p) (h5 : p ≤ 5000) : ∀ (d i : Nat) (q : List Int), i + 2 * d = n → q.length = n → Paired P q i → i % 2 = 0 →
    EvP (fun k => spec_l91Map.l0 k n P q i b p) (Out n) := by
  intro d
  induction d with
  | zero =>
    intro i q h1 h2 h3 h3'
    have hw := wrs i (by omega)
    have hi : i = n := by omega
    subst hi
    obtain ⟨⟨q1, q2⟩, q3⟩ := paired_inv P q hP jP (by omega) (by omega) (by rw [hlP]; exact h3)
    refine EvP.step ?_ (fun k => by simp only [spec_l91Map.l0]; rw [hw, if_neg (by omega)])
    refine EvP.bind (perm_p b hb p i (by omega) h4 (by omega)) ?_
    rintro ⟨t, p'⟩ ⟨⟨t1, t2, t3⟩, e⟩
    simp only at t1 t2 t3 e
    subst e
    exact mend_p b hb i hn q h2 ((pB_iff q).2 ⟨by omega, q1, q2⟩) ((inv_iff q).2 q3) _ (by omega) (by omega) i 0 t (by omega) t1 t2 t3
  | succ d ih =>
    intro i q h1 h2 h3 h3'
    have hw := wrs i (by omega)
    have hw2 : wrap64 ((i : Int) + 2) = ((i + 2 : Nat) : Int) := by rw [wr _ (by omega) (by omega)]; omega
    have a1 := hP i (by omega)
    have a2 := hP (i + 1) (by omega)
    refine EvP.step (ih (i + 2) ((q.set (fn P i) (nth P (i + 1))).set (fn P (i + 1)) (nth P i)) (by omega) (by simp; omega) ?_ (by omega)) (fun k => ?_)
    · intro j hj
      have f1 := fn_lt hP (i := i) (by omega)
      have f2 := fn_lt hP (i := i + 1) (by omega)
      rw [nth_set]
      by_cases e : fn P (i + 1) = fn P j
      · have : i + 1 = j := fn_inj hP jP (by omega) (by omega) e
        rw [if_pos ⟨e, by simp; omega⟩, ← this]
        unfold par; rw [if_neg (by omega)]; rfl
      · rw [if_neg (fun h => e h.1), nth_set]
        by_cases g : fn P i = fn P j
        · have : i = j := fn_inj hP jP (by omega) (by omega) g
          rw [if_pos ⟨g, by omega⟩, ← this]
          unfold par; rw [if_pos h3']
        · rw [if_neg (fun h => g h.1)]
          have hj1 : j ≠ i := fun h => g (by rw [h])
          have hj2 : j ≠ i + 1 := fun h => e (by rw [h])
          exact h3 j (by omega)
    · simp only [spec_l91Map.l0]
      rw [hw, hw2, if_pos (by omega), if_pos (by omega), if_pos (by omega), if_pos (by omega), if_pos (by omega), rdn, rdn, if_pos (by omega), if_pos (by omega), if_pos (by omega), if_pos (by omega)]
      rfl
end
theorem map_q (b : List Int) (hb : RB b) (p a : Int) (h0 : 1 ≤ a) (ha : a ≤ 6) (h4 : 0 ≤ p) (h5 : p ≤ 1000) : EvP (fun k => spec_l91Map.f k b p a) (Out 0) := by
  unfold spec_l91Map.f
  refine EvP.bind (pick_p b p a hb h4 (by omega) (by omega) (by omega)) ?_
  rintro ⟨v, p'⟩ ⟨⟨v0, v1⟩, e⟩
  simp only at v0 v1 e
  subst e
  dsimp only
  obtain ⟨m, rfl⟩ := Int.eq_ofNat_of_zero_le v0
  have e1 : wrap64 (2 * wrap64 (1 + (m : Int))) = ((2 * (1 + m) : Nat) : Int) := by
    rw [wr (1 + (m : Int)) (by omega) (by omega), wr _ (by omega) (by omega)]; omega
  simp only [e1]
  refine EvP.bind (perm_p b hb _ (2 * (1 + m)) (by omega) (by omega) (by omega)) ?_
  rintro ⟨P, p'⟩ ⟨⟨t1, t2, t3⟩, e⟩
  simp only at t1 t2 t3 e
  subst e
  dsimp only
  refine EvP.pos (by omega) (EvP.pos (by omega) ?_)
  rw [Int.toNat_natCast]
  exact flip_p b hb (2 * (1 + m)) (by omega) P t1 t2 t3 (by omega) _ (by omega) (by omega) (1 + m) 0 _ (by omega) (by simp) (fun j h => by omega) rfl
theorem map_p (b : List Int) (hb : RB b) (p a : Int) (h0 : 1 ≤ a) (ha : a ≤ 6) (h4 : 0 ≤ p) (h5 : p ≤ 1000) : EvP (fun k => spec_l91Map.f k b p a) (fun r => r.1.length ≤ 20 ∧ r.2.1.length ≤ 20) := EvP.mono (map_q b hb p a h0 ha h4 h5) (fun r h => h.1)
end Go.Proofs.Ytonlecigglbohaa.Lmdraw
