import Derived.Test.YtonlecigglbohaaM5
/- New names of a map's darts, from a root on: what is renamed has the same forms. -/
namespace Go.Proofs.Ytonlecigglbohaa.M
set_option linter.unusedVariables false
set_option linter.unusedSimpArgs false
set_option linter.unusedSectionVars false

/-- one comes back -/
theorem back_it (p : List Int) (hp : Into p) (hj : Inj p) (y : Nat) (hy : y < p.length) : ∃ k, it p k (fn p y) = y := by
  obtain ⟨h1, h2⟩ := cycles_ok p hp hj
  have hm : (y : Int) ∈ (cycles p).flatten := List.count_pos_iff.1 (by rw [h2 y hy]; omega)
  obtain ⟨c, hc, hyc⟩ := List.mem_flatten.1 hm
  obtain ⟨x, hx⟩ := h1 c hc
  obtain ⟨i, hi, e⟩ := mem_nth hyc
  rw [hx.2.2.1 i hi] at e
  have e2 : it p i x = y := by omega
  have e3 : it p c.length y = y := by
    rw [← e2, ← it_add, Nat.add_comm, it_add, hx.2.2.2.1]
  refine ⟨c.length - 1, ?_⟩
  have := hx.2.1
  have e4 : it p (c.length - 1 + 1) y = it p (c.length - 1) (it p 1 y) := it_add p 1 y _
  rw [show c.length - 1 + 1 = c.length by omega, e3] at e4
  exact e4.symm

/-! ### back, and one behind the other -/
def ml (a b : List Int) : List Int := a.map fun x => nth b x.toNat
theorem ml_len (a b : List Int) : (ml a b).length = a.length := by simp [ml]
theorem ml_nth (a b : List Int) (i : Nat) (h : i < a.length) : nth (ml a b) i = nth b (fn a i) := by
  unfold ml; rw [nth_map _ _ _ h]; rfl
def bkLoop (p : List Int) : Nat → Nat → List Int → List Int
  | 0, _, out => out
  | d + 1, i, out => bkLoop p d (i + 1) (out.set (fn p i) (i : Int))
def bk (p : List Int) : List Int := bkLoop p p.length 0 (List.replicate p.length 0)
theorem bkLoop_len (p : List Int) : ∀ (d i : Nat) (out : List Int), (bkLoop p d i out).length = out.length
  | 0, _, _ => rfl
  | d + 1, i, out => by show (bkLoop p d (i + 1) _).length = _; rw [bkLoop_len p d]; simp
theorem bk_len (p : List Int) : (bk p).length = p.length := by unfold bk; rw [bkLoop_len]; simp
theorem bkLoop_nth (p : List Int) (hp : Into p) (hj : Inj p) : ∀ (d i : Nat) (out : List Int), i + d = p.length → out.length = p.length → (∀ k, k < i → nth out (fn p k) = k) → ∀ k, k < p.length → nth (bkLoop p d i out) (fn p k) = k := by
  intro d
  induction d with
  | zero => intro i out h1 h2 h3 k hk; exact h3 k (by omega)
  | succ d ih =>
    intro i out h1 h2 h3
    refine ih (i + 1) _ (by omega) (by simpa using h2) (fun k hk => ?_)
    have hf := fn_lt hp (i := i) (by omega)
    rw [nth_set]
    by_cases e : k = i
    · subst e; rw [if_pos ⟨rfl, by omega⟩]
    · rw [if_neg (fun g => e (fn_inj hp hj (by omega) (by omega) g.1.symm))]
      exact h3 k (by omega)
theorem bk_nth (p : List Int) (hp : Into p) (hj : Inj p) (k : Nat) (hk : k < p.length) : nth (bk p) (fn p k) = k :=
  bkLoop_nth p hp hj p.length 0 _ (by omega) (by simp) (fun k h => by omega) k hk
theorem onto (p : List Int) (hp : Into p) (hj : Inj p) (j : Nat) (h : j < p.length) : ∃ i, i < p.length ∧ fn p i = j :=
  onto_of_inj p.length (fn p) (fun i hi => fn_lt hp hi) (fun i j hi h e => fn_inj hp hj hi h e) j h
theorem bk_fn (p : List Int) (hp : Into p) (hj : Inj p) (j : Nat) (h : j < p.length) : fn (bk p) j < p.length ∧ fn p (fn (bk p) j) = j := by
  obtain ⟨i, hi, rfl⟩ := onto p hp hj j h
  have e : fn (bk p) (fn p i) = i := by show (nth (bk p) (fn p i)).toNat = i; rw [bk_nth p hp hj i hi]; omega
  rw [e]; exact ⟨hi, rfl⟩
theorem bk_into (p : List Int) (hp : Into p) (hj : Inj p) : Into (bk p) := by
  intro j h
  rw [bk_len] at h ⊢
  obtain ⟨i, hi, rfl⟩ := onto p hp hj j h
  rw [bk_nth p hp hj i hi]; omega
theorem bk_inj (p : List Int) (hp : Into p) (hj : Inj p) : Inj (bk p) := by
  intro i j hi h e
  rw [bk_len] at hi h
  have e1 := (bk_fn p hp hj i hi).2
  have e2 := (bk_fn p hp hj j h).2
  have : fn (bk p) i = fn (bk p) j := by unfold fn; rw [e]
  rw [← e1, ← e2, this]
theorem ml_fn (a b : List Int) (i : Nat) (h : i < a.length) : fn (ml a b) i = fn b (fn a i) := by
  show (nth (ml a b) i).toNat = _
  rw [ml_nth _ _ _ h]; rfl
theorem ml_into (a b : List Int) (ha : Into a) (hb : Into b) (hl : b.length = a.length) : Into (ml a b) := by
  intro i hi
  rw [ml_len] at hi ⊢
  have := hb (fn a i) (by rw [hl]; exact fn_lt ha hi)
  rw [ml_nth _ _ _ hi]; omega
theorem ml_inj (a b : List Int) (ha : Into a) (hb : Into b) (hl : b.length = a.length) (ja : Inj a) (jb : Inj b) : Inj (ml a b) := by
  intro i j hi h e
  rw [ml_len] at hi h
  rw [ml_nth _ _ _ hi, ml_nth _ _ _ h] at e
  exact fn_inj ha ja hi h (jb _ _ (by rw [hl]; exact fn_lt ha hi) (by rw [hl]; exact fn_lt ha h) e)
/-- renamed -/
def ren (by_ t : List Int) : List Int := ml (ml (bk by_) t) by_
theorem ren_len (by_ t : List Int) : (ren by_ t).length = by_.length := by unfold ren; rw [ml_len, ml_len, bk_len]
theorem ren_nth (by_ t : List Int) (hb : Into by_) (hj : Inj by_) (d : Nat) (hd : d < by_.length) : nth (ren by_ t) (fn by_ d) = nth by_ (fn t d) := by
  have hf := fn_lt hb hd
  have e : fn (bk by_) (fn by_ d) = d := by show (nth (bk by_) (fn by_ d)).toNat = d; rw [bk_nth by_ hb hj d hd]; omega
  unfold ren
  rw [ml_nth _ _ _ (by rw [ml_len, bk_len]; exact hf), ml_fn _ _ _ (by rw [bk_len]; exact hf), e]
theorem ren_into (by_ t : List Int) (hb : Into by_) (hj : Inj by_) (ht : Into t) (hl : t.length = by_.length) : Into (ren by_ t) :=
  ml_into _ _ (ml_into _ _ (bk_into _ hb hj) ht (by rw [bk_len, hl])) hb (by rw [ml_len, bk_len])
theorem ren_inj (by_ t : List Int) (hb : Into by_) (hj : Inj by_) (ht : Into t) (jt : Inj t) (hl : t.length = by_.length) : Inj (ren by_ t) :=
  ml_inj _ _ (ml_into _ _ (bk_into _ hb hj) ht (by rw [bk_len, hl])) hb (by rw [ml_len, bk_len]) (ml_inj _ _ (bk_into _ hb hj) ht (by rw [bk_len, hl]) (bk_inj _ hb hj) jt) hj

/-! ### names -/
def name1 (d : Nat) (s : List Int × List Int) : List Int × List Int := if nth s.1 d < 0 then (s.1.set d (s.2.length : Int), s.2 ++ [(d : Int)]) else s
def name2 (t f : List Int) (o : Nat) (s : List Int × List Int) : List Int × List Int := name1 (fn f o) (name1 (fn t o) s)
def bfs (t f : List Int) : Nat → Nat → List Int × List Int → List Int × List Int
  | 0, _, s => s
  | u + 1, k, s => if k < s.2.length then bfs t f u (k + 1) (name2 t f (nth s.2 k).toNat s) else s
def names0 (n root : Nat) : List Int × List Int := ((List.replicate n (-1)).set root 0, [(root : Int)])
def names (t f : List Int) (root : Nat) : List Int := (bfs t f (t.length + 1) 0 (names0 t.length root)).1
structure NI (n : Nat) (s : List Int × List Int) : Prop where
  len : s.1.length = n
  ord : ∀ i, i < s.2.length → 0 ≤ nth s.2 i ∧ nth s.2 i < n ∧ nth s.1 (nth s.2 i).toNat = i
  nam : ∀ d, d < n → nth s.1 d = -1 ∨ (0 ≤ nth s.1 d ∧ nth s.1 d < s.2.length ∧ nth s.2 (nth s.1 d).toNat = d)
theorem NI.many {n : Nat} {s : List Int × List Int} (h : NI n s) : s.2.length ≤ n := by
  have hn : s.2.Nodup := by
    rw [List.nodup_iff_pairwise_ne, List.pairwise_iff_getElem]
    intro i j hi hj hij e
    rw [← nth_lt _ _ hi, ← nth_lt _ _ hj] at e
    have e1 := (h.ord i hi).2.2
    rw [e, (h.ord j hj).2.2] at e1
    omega
  have := List.Nodup.length_le_of_subset (l₂ := (List.range n).map fun (i : Nat) => (i : Int)) hn (fun x hx => by
    obtain ⟨i, hi, e⟩ := mem_nth hx
    have := h.ord i hi
    exact List.mem_map.2 ⟨x.toNat, by simp; omega, by omega⟩)
  simpa using this
theorem NI.one {n : Nat} {s : List Int × List Int} (h : NI n s) (d : Nat) (hd : d < n) : NI n (name1 d s) ∧ s.2.length ≤ (name1 d s).2.length ∧ 0 ≤ nth (name1 d s).1 d ∧ (∀ x, x < n → 0 ≤ nth s.1 x → 0 ≤ nth (name1 d s).1 x) ∧ (∀ i, i < s.2.length → nth (name1 d s).2 i = nth s.2 i) := by
  unfold name1
  by_cases e : nth s.1 d < 0
  · rw [if_pos e]
    have hm := h.len
    refine ⟨⟨by simpa using hm, fun i hi => ?_, fun x hx => ?_⟩, by simp, ?_, fun x hx h0 => ?_, fun i hi => nth_app_lt _ _ _ hi⟩
    · simp only [List.length_append, List.length_cons, List.length_nil] at hi ⊢
      by_cases g : i = s.2.length
      · subst g
        rw [nth_app_last]
        refine ⟨by omega, by omega, ?_⟩
        rw [Int.toNat_natCast, nth_set_self _ _ _ (by omega)]
      · rw [nth_app_lt _ _ _ (by omega)]
        have := h.ord i (by omega)
        refine ⟨this.1, this.2.1, ?_⟩
        rw [nth_set, if_neg ?_]
        · exact this.2.2
        · rintro ⟨g2, _⟩
          rw [← g2] at this
          omega
    · simp only [List.length_append, List.length_cons, List.length_nil]
      rw [nth_set]
      by_cases g : d = x
      · rw [if_pos ⟨g, by omega⟩]
        right
        refine ⟨by omega, by omega, ?_⟩
        rw [Int.toNat_natCast, nth_app_last, g]
      · rw [if_neg (fun q => g q.1)]
        rcases h.nam x hx with h1 | ⟨h1, h2, h3⟩
        · exact .inl h1
        · right
          refine ⟨h1, by omega, ?_⟩
          rw [nth_app_lt _ _ _ (by omega)]; exact h3
    · rw [nth_set_self _ _ _ (by omega)]; omega
    · rw [nth_set]; split
      · omega
      · exact h0
  · rw [if_neg e]
    exact ⟨h, Nat.le_refl _, by omega, fun _ _ h => h, fun _ _ => rfl⟩
theorem NI.start (n root : Nat) (hr : root < n) : NI n (names0 n root) := by
  refine ⟨by simp [names0], fun i hi => ?_, fun d hd => ?_⟩
  · simp only [names0, List.length_cons, List.length_nil] at hi ⊢
    have : i = 0 := by omega
    subst this
    rw [nth_cons_zero]
    refine ⟨by omega, by omega, ?_⟩
    rw [Int.toNat_natCast, nth_set_self _ _ _ (by simpa using hr)]; rfl
  · simp only [names0]
    rw [nth_set]
    by_cases g : root = d
    · rw [if_pos ⟨g, by simpa using hr⟩]
      right
      refine ⟨by omega, by simp, ?_⟩
      subst g; rfl
    · rw [if_neg (fun q => g q.1), nth_replicate _ _ _ hd]
      exact .inl rfl
theorem bfs_ok (t f : List Int) (ht : Into t) (hf : Into f) (hl : f.length = t.length) : ∀ (u k : Nat) (s : List Int × List Int), k + u = t.length + 1 → k ≤ s.2.length → NI t.length s → (∀ j, j < k → 0 ≤ nth s.1 (fn t (nth s.2 j).toNat) ∧ 0 ≤ nth s.1 (fn f (nth s.2 j).toNat)) →
    NI t.length (bfs t f u k s) ∧ (∀ j, j < (bfs t f u k s).2.length → 0 ≤ nth (bfs t f u k s).1 (fn t (nth (bfs t f u k s).2 j).toNat) ∧ 0 ≤ nth (bfs t f u k s).1 (fn f (nth (bfs t f u k s).2 j).toNat)) ∧ ∀ x, x < t.length → 0 ≤ nth s.1 x → 0 ≤ nth (bfs t f u k s).1 x := by
  intro u
  induction u with
  | zero => intro k s h1 h2 h3 h4; have := h3.many; omega
  | succ u ih =>
    intro k s h1 h2 h3 h4
    simp only [bfs]
    by_cases e : k < s.2.length
    · rw [if_pos e]
      have ho := h3.ord k e
      have lt1 := fn_lt ht (i := (nth s.2 k).toNat) (by omega)
      have lt2 := fn_lt hf (i := (nth s.2 k).toNat) (by omega)
      obtain ⟨a1, a2, a3, a4, a5⟩ := h3.one _ lt1
      obtain ⟨b1, b2, b3, b4, b5⟩ := a1.one (fn f (nth s.2 k).toNat) (by omega)
      have hst : ∀ j, j < k + 1 → 0 ≤ nth (name2 t f (nth s.2 k).toNat s).1 (fn t (nth (name2 t f (nth s.2 k).toNat s).2 j).toNat) ∧ 0 ≤ nth (name2 t f (nth s.2 k).toNat s).1 (fn f (nth (name2 t f (nth s.2 k).toNat s).2 j).toNat) := by
        intro j hj
        show 0 ≤ nth (name1 _ (name1 _ s)).1 (fn t (nth (name1 _ (name1 _ s)).2 j).toNat) ∧ 0 ≤ nth (name1 _ (name1 _ s)).1 (fn f (nth (name1 _ (name1 _ s)).2 j).toNat)
        rw [b5 j (by omega), a5 j (by omega)]
        have oj := h3.ord j (by omega)
        have l1 := fn_lt ht (i := (nth s.2 j).toNat) (by omega)
        have l2 := fn_lt hf (i := (nth s.2 j).toNat) (by omega)
        by_cases g : j = k
        · subst g; exact ⟨b4 _ (by omega) a3, b3⟩
        · have := h4 j (by omega)
          exact ⟨b4 _ (by omega) (a4 _ (by omega) this.1), b4 _ (by omega) (a4 _ (by omega) this.2)⟩
      obtain ⟨c1, c2, c3⟩ := ih (k + 1) (name2 t f (nth s.2 k).toNat s) (by omega) (by show k + 1 ≤ (name1 _ (name1 _ s)).2.length; omega) b1 hst
      exact ⟨c1, c2, fun x hx h => c3 x hx (b4 x hx (a4 x hx h))⟩
    · rw [if_neg e]
      exact ⟨h3, fun j hj => h4 j (by omega), fun _ _ h => h⟩
/-- all darts are named, one to one -/
theorem names_ok (t f : List Int) (ht : Into t) (jt : Inj t) (hf : Into f) (jf : Inj f) (hl : f.length = t.length) (hc : Con t f) (root : Nat) (hr : root < t.length) :
    (names t f root).length = t.length ∧ Into (names t f root) ∧ Inj (names t f root) ∧ nth (names t f root) root = 0 := by
  obtain ⟨h1, h2, h3⟩ := bfs_ok t f ht hf hl (t.length + 1) 0 (names0 t.length root) (by omega) (by simp [names0]) (NI.start _ _ hr) (fun j h => by omega)
  have hroot : 0 ≤ nth (names t f root) root := h3 root hr (by simp only [names0]; rw [nth_set_self _ _ _ (by simpa using hr)]; exact Int.le_refl _)
  have hnm : ∀ d, d < t.length → 0 ≤ nth (names t f root) d → 0 ≤ nth (names t f root) (fn t d) ∧ 0 ≤ nth (names t f root) (fn f d) := by
    intro d hd h
    rcases h1.nam d hd with g | ⟨g1, g2, g3⟩
    · unfold names at h; omega
    · have := h2 (nth (bfs t f (t.length + 1) 0 (names0 t.length root)).1 d).toNat (by omega)
      rw [g3, Int.toNat_natCast] at this
      exact this
  have iter : ∀ p : List Int, Into p → Inj p → p.length = t.length → (∀ d, d < t.length → 0 ≤ nth (names t f root) d → 0 ≤ nth (names t f root) (fn p d)) → ∀ d, d < t.length → decide (0 ≤ nth (names t f root) (fn p d)) = decide (0 ≤ nth (names t f root) d) := by
    intro p hp jp lp hcl d hd
    refine Bool.eq_iff_iff.2 ?_
    simp only [decide_eq_true_eq]
    refine ⟨fun h => ?_, fun h => hcl d hd h⟩
    obtain ⟨k, hk⟩ := back_it p hp jp d (by omega)
    have : ∀ k, 0 ≤ nth (names t f root) (it p k (fn p d)) := by
      intro k
      induction k with
      | zero => exact h
      | succ k ih => exact hcl _ (by rw [← lp]; exact it_lt hp (fn_lt hp (by omega)) k) ih
    have := this k
    rwa [hk] at this
  have all : ∀ d, d < t.length → 0 ≤ nth (names t f root) d := by
    have wh : ∀ i, i < t.length → decide (0 ≤ nth (names t f root) (fn t i)) = decide (0 ≤ nth (names t f root) i) ∧ decide (0 ≤ nth (names t f root) (fn f i)) = decide (0 ≤ nth (names t f root) i) := fun i hi =>
      ⟨iter t ht jt rfl (fun d hd h => (hnm d hd h).1) i hi, iter f hf jf hl (fun d hd h => (hnm d hd h).2) i hi⟩
    by_cases e : 0 ≤ nth (names t f root) 0
    · intro d hd
      have := hc (fun d => decide (0 ≤ nth (names t f root) d)) ⟨by simpa using e, wh⟩ d hd
      simpa using this
    · have := hc (fun d => !decide (0 ≤ nth (names t f root) d)) ⟨by simpa using e, fun i hi => by simp only [(wh i hi).1, (wh i hi).2, and_self]⟩ root hr
      simp at this; omega
  have hlen : (names t f root).length = t.length := h1.len
  have hin : ∀ d, d < t.length → nth (names t f root) d < t.length ∧ nth (bfs t f (t.length + 1) 0 (names0 t.length root)).2 (nth (names t f root) d).toNat = d := by
    intro d hd
    have a := all d hd
    have m := h1.many
    rcases h1.nam d hd with g | ⟨g1, g2, g3⟩
    · unfold names at a; omega
    · exact ⟨by unfold names; omega, g3⟩
  refine ⟨hlen, fun i hi => ?_, fun i j hi hj e => ?_, ?_⟩
  · rw [hlen] at hi ⊢; exact ⟨all i hi, (hin i hi).1⟩
  · rw [hlen] at hi hj
    have e1 := (hin i hi).2
    rw [e, (hin j hj).2] at e1
    omega
  · have keep0 : ∀ (u k : Nat) (s : List Int × List Int), k + u = t.length + 1 → k ≤ s.2.length → NI t.length s → nth s.1 root = 0 → nth (bfs t f u k s).1 root = 0 := by
      intro u
      induction u with
      | zero => intro k s _ _ _ h; exact h
      | succ u ih =>
        intro k s h1 h2 h3 h4
        simp only [bfs]
        by_cases e : k < s.2.length
        · rw [if_pos e]
          have ho := h3.ord k e
          have lt1 := fn_lt ht (i := (nth s.2 k).toNat) (by omega)
          have lt2 := fn_lt hf (i := (nth s.2 k).toNat) (by omega)
          obtain ⟨a1, a2, a3, a4, a5⟩ := h3.one _ lt1
          obtain ⟨b1, b2, b3, b4, b5⟩ := a1.one (fn f (nth s.2 k).toNat) (by omega)
          have st : ∀ (d : Nat) (s : List Int × List Int), nth s.1 root = 0 → nth (name1 d s).1 root = 0 := by
            intro d s h
            unfold name1
            split
            · rename_i g
              show nth (s.1.set d _) root = 0
              rw [nth_set, if_neg (fun q => by rw [q.1, h] at g; omega)]; exact h
            · exact h
          exact ih (k + 1) _ (by omega) (by show k + 1 ≤ (name1 _ (name1 _ s)).2.length; omega) b1 (st _ _ (st _ _ h4))
        · rw [if_neg e]; exact h4
    exact keep0 _ _ _ (by omega) (by simp [names0]) (NI.start _ _ hr) (by simp only [names0]; rw [nth_set_self _ _ _ (by simpa using hr)])

/-! ### a map renamed -/
structure Iso (n : Nat) (σ : Nat → Nat) (t f t' f' : List Int) : Prop where
  lt : ∀ d, d < n → σ d < n
  inj : ∀ d e, d < n → e < n → σ d = σ e → d = e
  turn : ∀ d, d < n → fn t' (σ d) = σ (fn t d)
  flip : ∀ d, d < n → fn f' (σ d) = σ (fn f d)
structure Rel (n : Nat) (σ : Nat → Nat) (s s' : List Int × List Int) : Prop where
  l1 : s'.1.length = s.1.length
  l2 : s'.2.length = s.2.length
  nam : ∀ d, d < n → nth s'.1 (σ d) = nth s.1 d
  ord : ∀ i, i < s.2.length → nth s'.2 i = (σ (nth s.2 i).toNat : Int)
theorem Rel.one {n : Nat} {σ : Nat → Nat} {s s' : List Int × List Int} (hs : ∀ d, d < n → σ d < n) (hi : ∀ d e, d < n → e < n → σ d = σ e → d = e) (hn : s.1.length = n) (h : Rel n σ s s') (d : Nat) (hd : d < n) : Rel n σ (name1 d s) (name1 (σ d) s') := by
  unfold name1
  rw [h.nam d hd]
  have := hs d hd
  have e1 := h.l1
  have e2 := h.l2
  by_cases e : nth s.1 d < 0
  · rw [if_pos e, if_pos e]
    refine ⟨by simp [h.l1], by simp [h.l2], fun x hx => ?_, fun i hi' => ?_⟩
    · show nth (s'.1.set (σ d) _) (σ x) = nth (s.1.set d _) x
      rw [nth_set, nth_set, h.l2]
      by_cases g : d = x
      · subst g; rw [if_pos ⟨rfl, by omega⟩, if_pos ⟨rfl, by omega⟩]
      · rw [if_neg (fun q => g (hi _ _ hd hx q.1)), if_neg (fun q => g q.1)]; exact h.nam x hx
    · show nth (s'.2 ++ _) i = _
      simp only [List.length_append, List.length_cons, List.length_nil] at hi' ⊢
      by_cases g : i = s.2.length
      · subst g; rw [← h.l2, nth_app_last, h.l2, nth_app_last, Int.toNat_natCast]
      · rw [nth_app_lt _ _ _ (by omega), nth_app_lt _ _ _ (by omega)]; exact h.ord i (by omega)
  · rw [if_neg e, if_neg e]; exact h
theorem Rel.bfs {n : Nat} {σ : Nat → Nat} {t f t' f' : List Int} (hI : Iso n σ t f t' f') (ht : Into t) (hf : Into f) (hl : f.length = t.length) (hn : t.length = n) : ∀ (u k : Nat) (s s' : List Int × List Int), NI n s → Rel n σ s s' → Rel n σ (bfs t f u k s) (bfs t' f' u k s') := by
  intro u
  induction u with
  | zero => intro k s s' _ h; exact h
  | succ u ih =>
    intro k s s' h1 h
    simp only [M.bfs]
    rw [h.l2]
    by_cases e : k < s.2.length
    · rw [if_pos e, if_pos e]
      have ho := h1.ord k e
      have lt1 := fn_lt ht (i := (nth s.2 k).toNat) (by omega)
      have lt2 := fn_lt hf (i := (nth s.2 k).toNat) (by omega)
      rw [h.ord k e, Int.toNat_natCast]
      unfold name2
      rw [hI.turn _ (by omega), hI.flip _ (by omega)]
      have a1 := (h1.one (fn t (nth s.2 k).toNat) (by omega)).1
      refine ih (k + 1) _ _ (a1.one _ (by omega)).1 (Rel.one hI.lt hI.inj a1.len (Rel.one hI.lt hI.inj h1.len h _ (by omega)) _ (by omega))
    · rw [if_neg e, if_neg e]; exact h
theorem names_iso {n : Nat} {σ : Nat → Nat} {t f t' f' : List Int} (hI : Iso n σ t f t' f') (ht : Into t) (hf : Into f) (hl : f.length = t.length) (hn : t.length = n) (hn' : t'.length = n) (r : Nat) (hr : r < n) (d : Nat) (hd : d < n) : nth (names t' f' (σ r)) (σ d) = nth (names t f r) d := by
  unfold names
  rw [hn', hn]
  have hs := hI.lt r hr
  refine (Rel.bfs hI ht hf hl hn (n + 1) 0 _ _ (NI.start n r hr) ⟨by simp [names0], by simp [names0], fun x hx => ?_, fun i hi => ?_⟩).nam d hd
  · simp only [names0]
    have := hI.lt x hx
    rw [nth_set, nth_set]
    by_cases g : r = x
    · subst g; rw [if_pos ⟨rfl, by simpa using hs⟩, if_pos ⟨rfl, by simpa using hr⟩]
    · rw [if_neg (fun q => g (hI.inj _ _ hr hx q.1)), if_neg (fun q => g q.1), nth_replicate _ _ _ this, nth_replicate _ _ _ hx]
  · simp only [names0, List.length_cons, List.length_nil] at hi ⊢
    have : i = 0 := by omega
    subst this
    rw [nth_cons_zero, nth_cons_zero, Int.toNat_natCast]
/-- the form from a root -/
def form (t f : List Int) (r : Nat) : List Int × List Int := (ren (names t f r) t, ren (names t f r) f)
structure IsMap (t f : List Int) : Prop where
  it : Into t
  jt : Inj t
  iF : Into f
  jf : Inj f
  len : f.length = t.length
  con : Con t f
theorem form_iso {n : Nat} {σ : Nat → Nat} {t f t' f' : List Int} (hI : Iso n σ t f t' f') (hm : IsMap t f) (hm' : IsMap t' f') (hn : t.length = n) (hn' : t'.length = n) (r : Nat) (hr : r < n) : form t' f' (σ r) = form t f r := by
  obtain ⟨l1, i1, j1, _⟩ := names_ok t f hm.it hm.jt hm.iF hm.jf hm.len hm.con r (by omega)
  obtain ⟨l2, i2, j2, _⟩ := names_ok t' f' hm'.it hm'.jt hm'.iF hm'.jf hm'.len hm'.con (σ r) (by rw [hn']; exact hI.lt r hr)
  have hN := fun d hd => names_iso hI hm.it hm.iF hm.len hn hn' r hr d hd
  have hF : ∀ d, d < n → fn (names t' f' (σ r)) (σ d) = fn (names t f r) d := fun d hd => by unfold fn; rw [hN d hd]
  have key : ∀ p p' : List Int, Into p → p.length = n → (∀ d, d < n → fn p' (σ d) = σ (fn p d)) → ren (names t' f' (σ r)) p' = ren (names t f r) p := by
    intro p p' hp hpl h
    apply ext_nth (by rw [ren_len, ren_len, l1, l2, hn, hn'])
    intro j hj
    rw [ren_len, l2, hn'] at hj
    obtain ⟨d, hd, rfl⟩ := onto (names t f r) i1 j1 j (by omega)
    rw [l1, hn] at hd
    have q := fn_lt hp (i := d) (by omega)
    rw [ren_nth _ _ i1 j1 d (by omega), ← hF d hd, ren_nth _ _ i2 j2 (σ d) (by rw [l2, hn']; exact hI.lt d hd), h d hd, hN _ (by omega)]
  unfold form
  rw [key t t' hm.it hn hI.turn, key f f' hm.iF (by rw [hm.len, hn]) hI.flip]
end Go.Proofs.Ytonlecigglbohaa.M
