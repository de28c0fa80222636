import Derived.Test.YtonlecigglbohaaM3
/- The cycles of a permutation: each point lies in one of them; of all points as many come back after L steps, and not before, as the cycles of length L hold. -/
namespace Go.Proofs.Ytonlecigglbohaa.M
set_option linter.unusedVariables false
set_option linter.unusedSimpArgs false

/-- one to one -/
def Inj (p : List Int) : Prop := ∀ i j, i < p.length → j < p.length → nth p i = nth p j → i = j
/-- where a point goes -/
def fn (p : List Int) (i : Nat) : Nat := (nth p i).toNat
theorem fn_lt {p : List Int} (hp : Into p) {i : Nat} (hi : i < p.length) : fn p i < p.length := by
  have := hp i hi
  unfold fn; omega
theorem fn_cast {p : List Int} (hp : Into p) {i : Nat} (hi : i < p.length) : ((fn p i : Nat) : Int) = nth p i := by
  have := hp i hi
  unfold fn; omega
theorem fn_inj {p : List Int} (hp : Into p) (hj : Inj p) {i j : Nat} (h1 : i < p.length) (h2 : j < p.length) (h : fn p i = fn p j) : i = j := by
  apply hj i j h1 h2
  rw [← fn_cast hp h1, ← fn_cast hp h2, h]
/-- so many steps -/
def it (p : List Int) : Nat → Nat → Nat
  | 0, x => x
  | k + 1, x => fn p (it p k x)
theorem it_add (p : List Int) (b x : Nat) : ∀ a, it p (a + b) x = it p a (it p b x)
  | 0 => by rw [Nat.zero_add]; rfl
  | a + 1 => by
    rw [show a + 1 + b = (a + b) + 1 by omega]
    show fn p (it p (a + b) x) = fn p (it p a (it p b x))
    rw [it_add p b x a]
theorem it_lt {p : List Int} (hp : Into p) {x : Nat} (hx : x < p.length) : ∀ k, it p k x < p.length
  | 0 => hx
  | k + 1 => fn_lt hp (it_lt hp hx k)
theorem it_inj {p : List Int} (hp : Into p) (hj : Inj p) {x y : Nat} (hx : x < p.length) (hy : y < p.length) : ∀ k, it p k x = it p k y → x = y
  | 0, h => h
  | k + 1, h => it_inj hp hj hx hy k (fn_inj hp hj (it_lt hp hx k) (it_lt hp hy k) h)
/-- it comes back after L steps, and not before -/
def exB (p : List Int) (L x : Nat) : Bool := decide (it p L x = x) && (List.range L).all fun j => decide (j = 0 ∨ it p j x ≠ x)
theorem exB_iff (p : List Int) (L x : Nat) : exB p L x = true ↔ it p L x = x ∧ ∀ j, 0 < j → j < L → it p j x ≠ x := by
  simp only [exB, Bool.and_eq_true, decide_eq_true_eq, List.all_eq_true, List.mem_range]
  constructor
  · rintro ⟨h1, h2⟩
    refine ⟨h1, fun j h3 h4 => ?_⟩
    rcases h2 j h4 with h | h
    · omega
    · exact h
  · rintro ⟨h1, h2⟩
    refine ⟨h1, fun j h => ?_⟩
    by_cases e : j = 0
    · exact .inl e
    · exact .inr (h2 j (by omega) h)
/-- a cycle from a point on -/
def CycAt (p c : List Int) (x : Nat) : Prop := x < p.length ∧ 0 < c.length ∧ (∀ i, i < c.length → nth c i = (it p i x : Int)) ∧ it p c.length x = x ∧ ∀ a b, a < b → b < c.length → it p a x ≠ it p b x
theorem CycAt.ex {p c : List Int} {x : Nat} (hp : Into p) (hj : Inj p) (h : CycAt p c x) (i L : Nat) (hi : i < c.length) (hL : 1 ≤ L) : exB p L (it p i x) = decide (c.length = L) := by
  obtain ⟨hx, h0, h1, h2, h3⟩ := h
  have back : ∀ j, it p j (it p i x) = it p i (it p j x) := fun j => by rw [← it_add, ← it_add, Nat.add_comm]
  have eq : ∀ j, it p j (it p i x) = it p i x ↔ it p j x = x := fun j => by
    rw [back]
    exact ⟨fun h => it_inj hp hj (it_lt hp hx j) hx i h, fun h => by rw [h]⟩
  have low : ∀ j, 0 < j → j < c.length → it p j x ≠ x := fun j a b e => h3 0 j a b e.symm
  by_cases e : c.length = L
  · rw [decide_eq_true e, exB_iff]
    subst e
    exact ⟨(eq _).2 h2, fun j a b e => low j a b ((eq j).1 e)⟩
  · rw [decide_eq_false e]
    refine Bool.eq_false_iff.2 fun hb => ?_
    obtain ⟨a, b⟩ := (exB_iff _ _ _).1 hb
    rw [eq] at a
    by_cases g : L < c.length
    · exact low L hL g a
    · exact b c.length h0 (by omega) ((eq _).2 h2)
theorem walk_spec (p : List Int) (hp : Into p) (hj : Inj p) (seen0 : List Bool) (hl : seen0.length = p.length) (hcl : ∀ i, i < p.length → nth seen0 (fn p i) = nth seen0 i) (x : Nat) (hx : x < p.length) (hx0 : nth seen0 x = false) :
    ∀ (u : Nat) (seen : List Bool) (j : Nat) (c : List Int), seen.length = p.length → seen.count false = u → c.length = j → (∀ i, i < j → nth c i = (it p i x : Int)) →
    (∀ i, i < p.length → (nth seen i = true ↔ nth seen0 i = true ∨ ∃ a, a < j ∧ it p a x = i)) → (∀ a b, a < b → b < j → it p a x ≠ it p b x) →
    CycAt p (walk p u seen (it p j x : Nat) c).2 x ∧ (walk p u seen (it p j x : Nat) c).1.length = p.length ∧
    ∀ i, i < p.length → (nth (walk p u seen (it p j x : Nat) c).1 i = true ↔ nth seen0 i = true ∨ ∃ a, a < (walk p u seen (it p j x : Nat) c).2.length ∧ it p a x = i) := by
  have s0 : ∀ k, nth seen0 (it p k x) = false := by
    intro k
    induction k with
    | zero => exact hx0
    | succ k ih =>
      show nth seen0 (fn p (it p k x)) = false
      rw [hcl _ (it_lt hp hx k), ih]
  have fin : ∀ (seen : List Bool) (j : Nat) (c : List Int), seen.length = p.length → c.length = j → (∀ i, i < j → nth c i = (it p i x : Int)) →
      (∀ i, i < p.length → (nth seen i = true ↔ nth seen0 i = true ∨ ∃ a, a < j ∧ it p a x = i)) → (∀ a b, a < b → b < j → it p a x ≠ it p b x) → nth seen (it p j x) = true →
      CycAt p c x ∧ seen.length = p.length ∧ ∀ i, i < p.length → (nth seen i = true ↔ nth seen0 i = true ∨ ∃ a, a < c.length ∧ it p a x = i) := by
    intro seen j c h1 h3 h4 h5 h6 h7
    have := (h5 _ (it_lt hp hx j)).1 h7
    rw [s0] at this
    obtain ⟨a, ha, he⟩ := this.resolve_left (by simp)
    have a0 : a = 0 := by
      refine Classical.byContradiction fun h => ?_
      have e2 : it p (a + (j - a)) x = it p a x := by rw [show a + (j - a) = j by omega, he]
      rw [it_add] at e2
      have := it_inj hp hj (it_lt hp hx _) hx a e2
      exact h6 0 (j - a) (by omega) (by omega) this.symm
    subst a0
    refine ⟨⟨hx, by omega, fun i hi => h4 i (by omega), ?_, fun a b hab hb => h6 a b hab (by omega)⟩, h1, fun i hi => by rw [h3]; exact h5 i hi⟩
    rw [h3, ← he]; rfl
  intro u
  induction u with
  | zero =>
    intro seen j c h1 h2 h3 h4 h5 h6
    exact fin seen j c h1 h3 h4 h5 h6 (count_zero seen h2 _ (by rw [h1]; exact it_lt hp hx j))
  | succ u ih =>
    intro seen j c h1 h2 h3 h4 h5 h6
    simp only [walk, Int.toNat_natCast]
    by_cases e : nth seen (it p j x) = true
    · rw [if_pos e]
      exact fin seen j c h1 h3 h4 h5 h6 e
    · rw [if_neg e]
      have hlt := it_lt hp hx j
      have hc := count_set seen (it p j x) (by omega) (by simpa using e)
      rw [← fn_cast hp hlt]
      refine ih (seen.set (it p j x) true) (j + 1) (c ++ [(it p j x : Int)]) (by simpa using h1) (by omega) (by simp [h3]) ?_ ?_ ?_
      · intro i hi
        by_cases g : i = j
        · subst g; rw [← h3, nth_app_last, h3]
        · rw [nth_app_lt _ _ _ (by omega)]; exact h4 i (by omega)
      · intro i hi
        rw [nth_set]
        by_cases g : it p j x = i
        · rw [if_pos ⟨g, by omega⟩]
          simp only [true_iff]
          exact .inr ⟨j, by omega, g⟩
        · rw [if_neg (fun h => g h.1), h5 i hi]
          constructor
          · rintro (h | ⟨a, ha, h⟩)
            · exact .inl h
            · exact .inr ⟨a, by omega, h⟩
          · rintro (h | ⟨a, ha, h⟩)
            · exact .inl h
            · refine .inr ⟨a, ?_, h⟩
              refine Nat.lt_of_le_of_ne (by omega) (fun e2 => g (e2 ▸ h))
      · intro a b hab hb he
        by_cases g : b = j
        · subst g
          refine e ?_
          rw [← he, (h5 _ (it_lt hp hx a))]
          exact .inr ⟨a, hab, rfl⟩
        · exact h6 a b hab (by omega) he
/-- how often a point stands in a cycle -/
theorem CycAt.count {p c : List Int} {x : Nat} (h : CycAt p c x) (y : Nat) (b : Bool) (hb : b = true ↔ ∃ a, a < c.length ∧ it p a x = y) : c.count (y : Int) = if b = true then 1 else 0 := by
  obtain ⟨hx, h0, h1, h2, h3⟩ := h
  have hn : c.Nodup := by
    rw [List.nodup_iff_pairwise_ne, List.pairwise_iff_getElem]
    intro i j hi hj hij e
    rw [← nth_lt _ _ hi, ← nth_lt _ _ hj, h1 i hi, h1 j hj] at e
    exact h3 i j hij hj (by omega)
  have hm : (y : Int) ∈ c ↔ ∃ a, a < c.length ∧ it p a x = y := by
    constructor
    · intro h
      obtain ⟨i, hi, e⟩ := mem_nth h
      rw [h1 i hi] at e
      exact ⟨i, hi, by omega⟩
    · rintro ⟨a, ha, e⟩
      have := nth_mem c a ha
      rwa [h1 a ha, e] at this
  rw [List.Nodup.count hn]
  by_cases e : (y : Int) ∈ c
  · rw [if_pos e, if_pos (hb.2 (hm.1 e))]
  · rw [if_neg e, if_neg (fun h => e (hm.2 (hb.1 h)))]
def CycsOK (p : List Int) (out : List (List Int)) : Prop := ∀ c ∈ out, ∃ x, CycAt p c x
theorem cycLoop_spec (p : List Int) (hp : Into p) (hj : Inj p) : ∀ (d i : Nat) (seen : List Bool) (out : List (List Int)), i + d = p.length → seen.length = p.length → (∀ y, y < p.length → nth seen (fn p y) = nth seen y) → (∀ y, y < i → nth seen y = true) →
    CycsOK p out → (∀ y, y < p.length → out.flatten.count (y : Int) = if nth seen y = true then 1 else 0) →
    CycsOK p (cycLoop p d i seen out) ∧ ∀ y, y < p.length → (cycLoop p d i seen out).flatten.count (y : Int) = 1 := by
  intro d
  induction d with
  | zero =>
    intro i seen out h1 h2 h3 h4 h5 h6
    refine ⟨h5, fun y hy => ?_⟩
    show out.flatten.count (y : Int) = 1
    rw [h6 y hy, if_pos (h4 y (by omega))]
  | succ d ih =>
    intro i seen out h1 h2 h3 h4 h5 h6
    simp only [cycLoop]
    by_cases e : nth seen i = true
    · rw [if_pos e]
      refine ih (i + 1) seen out (by omega) h2 h3 (fun y hy => ?_) h5 h6
      by_cases g : y = i
      · rw [g]; exact e
      · exact h4 y (by omega)
    · rw [if_neg e]
      have hi : i < p.length := by omega
      obtain ⟨w1, w2, w3⟩ := walk_spec p hp hj seen h2 h3 i hi (by simpa using e) (seen.count false) seen 0 [] h2 rfl rfl (fun _ h => by omega) (fun y hy => ⟨.inl, fun h => h.resolve_right (fun ⟨a, ha, _⟩ => by omega)⟩) (fun _ _ _ h => by omega)
      simp only [it] at w1 w2 w3
      generalize (walk p (seen.count false) seen (i : Int) []).1 = sn at *
      generalize (walk p (seen.count false) seen (i : Int) []).2 = c at *
      obtain ⟨_, c0, c1, c2, c3⟩ := id w1
      refine ih (i + 1) sn (out ++ [c]) (by omega) w2 ?_ ?_ ?_ ?_
      · intro y hy
        have hfy := fn_lt hp hy
        have k1 := w3 (fn p y) hfy
        have k2 := w3 y hy
        rw [h3 y hy] at k1
        have k3 : (∃ a, a < c.length ∧ it p a i = fn p y) ↔ ∃ a, a < c.length ∧ it p a i = y := by
          constructor
          · rintro ⟨a, ha, he⟩
            cases a with
            | zero =>
              refine ⟨c.length - 1, by omega, fn_inj hp hj (it_lt hp hi _) hy ?_⟩
              show it p (c.length - 1 + 1) i = _
              rw [show c.length - 1 + 1 = c.length by omega, c2]; exact he
            | succ a => exact ⟨a, by omega, fn_inj hp hj (it_lt hp hi _) hy he⟩
          · rintro ⟨a, ha, he⟩
            by_cases g : a + 1 < c.length
            · exact ⟨a + 1, g, by show fn p (it p a i) = _; rw [he]⟩
            · refine ⟨0, c0, ?_⟩
              have : it p (a + 1) i = i := by rw [show a + 1 = c.length by omega, c2]
              show i = _
              rw [← this, ← he]; rfl
        rw [k3] at k1
        exact Bool.eq_iff_iff.2 (k1.trans k2.symm)
      · intro y hy
        by_cases g : y = i
        · rw [g, w3 i hi]; exact .inr ⟨0, c0, rfl⟩
        · rw [w3 y (by omega)]; exact .inl (h4 y (by omega))
      · intro z hz
        rcases List.mem_append.1 hz with hz | hz
        · exact h5 z hz
        · rw [List.mem_singleton.1 hz]; exact ⟨i, w1⟩
      · intro y hy
        rw [List.flatten_append, List.count_append, h6 y hy]
        have e1 : [c].flatten.count (y : Int) = c.count (y : Int) := by simp
        rw [e1, w1.count y (decide (∃ a, a < c.length ∧ it p a i = y)) (by simp)]
        have k := w3 y hy
        by_cases g1 : nth seen y = true
        · have g2 : ¬ ∃ a, a < c.length ∧ it p a i = y := by
            rintro ⟨a, ha, he⟩
            have : ∀ k, nth seen (it p k i) = false := by
              intro k
              induction k with
              | zero => show nth seen i = false; simpa using e
              | succ k ihk => show nth seen (fn p (it p k i)) = false; rw [h3 _ (it_lt hp hi k), ihk]
            have := this a
            rw [he, g1] at this
            cases this
          rw [if_pos g1, if_neg (by simpa using g2), if_pos (k.2 (.inl g1))]
        · by_cases g2 : ∃ a, a < c.length ∧ it p a i = y
          · rw [if_neg g1, if_pos (by simpa using g2), if_pos (k.2 (.inr g2))]
          · rw [if_neg g1, if_neg (by simpa using g2), if_neg (fun h => (k.1 h).elim g1 g2)]
theorem cycles_ok (p : List Int) (hp : Into p) (hj : Inj p) : CycsOK p (cycles p) ∧ ∀ y, y < p.length → (cycles p).flatten.count (y : Int) = 1 :=
  cycLoop_spec p hp hj p.length 0 _ [] (by omega) (by simp) (fun y hy => by rw [nth_replicate _ _ _ hy, nth_replicate _ _ _ (fn_lt hp hy)]) (fun y hy => by omega) (fun c hc => by simp at hc) (fun y hy => by rw [nth_replicate _ _ _ hy]; simp)
theorem cycles_perm (p : List Int) (hp : Into p) (hj : Inj p) : (cycles p).flatten.Perm ((List.range p.length).map fun (i : Nat) => (i : Int)) := by
  obtain ⟨h1, h2⟩ := cycles_ok p hp hj
  rw [List.perm_iff_count]
  intro y
  by_cases hy : 0 ≤ y ∧ y < p.length
  · have e := h2 y.toNat (by omega)
    rw [Int.toNat_of_nonneg hy.1] at e
    have hn : ((List.range p.length).map fun (i : Nat) => (i : Int)).Nodup := by
      rw [List.nodup_iff_pairwise_ne, List.pairwise_map]
      exact List.Pairwise.imp (fun h e => h (by omega)) (List.nodup_iff_pairwise_ne.1 (List.nodup_range (n := p.length)))
    rw [e, List.Nodup.count hn, if_pos (List.mem_map.2 ⟨y.toNat, by simp; omega, by omega⟩)]
  · rw [List.count_eq_zero_of_not_mem, List.count_eq_zero_of_not_mem]
    · intro h
      obtain ⟨i, hi, e⟩ := List.mem_map.1 h
      simp at hi
      omega
    · intro h
      obtain ⟨c, hc, hyc⟩ := List.mem_flatten.1 h
      obtain ⟨x, hx, c0, c1, _⟩ := h1 c hc
      obtain ⟨i, hi, e⟩ := mem_nth hyc
      rw [c1 i hi] at e
      have := it_lt hp hx i
      omega
theorem cycles_sum (p : List Int) (hp : Into p) (hj : Inj p) : ((cycles p).map List.length).sum = p.length := by
  rw [← List.length_flatten, (cycles_perm p hp hj).length_eq]; simp
theorem count_of_ok (p : List Int) (hp : Into p) (hj : Inj p) (L : Nat) (hL : 1 ≤ L) : ∀ out, CycsOK p out → out.countP (fun c => decide (c.length = L)) * L = out.flatten.countP fun x => exB p L x.toNat
  | [], _ => by simp
  | c :: out, h => by
    have ih := count_of_ok p hp hj L hL out (fun z hz => h z (List.mem_cons_of_mem _ hz))
    obtain ⟨x, hx⟩ := h c (by simp)
    have hc : c.countP (fun x => exB p L x.toNat) = if c.length = L then L else 0 := by
      have hm : ∀ y ∈ c, exB p L y.toNat = decide (c.length = L) := by
        intro y hy
        obtain ⟨i, hi, e⟩ := mem_nth hy
        rw [← e, hx.2.2.1 i hi, Int.toNat_natCast]
        exact hx.ex hp hj i L hi hL
      rw [List.countP_congr (q := fun _ => decide (c.length = L)) (fun y hy => by rw [hm y hy])]
      by_cases e : c.length = L
      · simp [e]
      · simp [e]
    rw [List.countP_cons, Nat.add_mul, ih, List.flatten_cons, List.countP_append, hc]
    by_cases e : c.length = L
    · simp [e]; omega
    · simp [e]
theorem cycles_count (p : List Int) (hp : Into p) (hj : Inj p) (L : Nat) (hL : 1 ≤ L) : (cycles p).countP (fun c => decide (c.length = L)) * L = (List.range p.length).countP (exB p L) := by
  rw [count_of_ok p hp hj L hL _ (cycles_ok p hp hj).1, (cycles_perm p hp hj).countP_eq, List.countP_map]
  apply List.countP_congr
  intro i _
  simp
/-- renamed by a permutation: as many cycles of each length -/
theorem conj_count (p q by_ : List Int) (hp : Into p) (hj : Inj p) (hq : Into q) (hqj : Inj q) (hb : Into by_) (hbj : Inj by_) (l1 : q.length = p.length) (l2 : by_.length = p.length)
    (h : ∀ x, x < p.length → fn q (fn by_ x) = fn by_ (fn p x)) (L : Nat) : (cycles q).countP (fun c => decide (c.length = L)) = (cycles p).countP (fun c => decide (c.length = L)) := by
  by_cases hL : 1 ≤ L
  · have hit : ∀ k x, x < p.length → it q k (fn by_ x) = fn by_ (it p k x) := by
      intro k x hx
      induction k with
      | zero => rfl
      | succ k ih => show fn q (it q k (fn by_ x)) = fn by_ (fn p (it p k x)); rw [ih, h _ (it_lt hp hx k)]
    have hex : ∀ x, x < p.length → exB q L (fn by_ x) = exB p L x := by
      intro x hx
      have k : ∀ j, it q j (fn by_ x) = fn by_ x ↔ it p j x = x := by
        intro j
        rw [hit j x hx]
        exact ⟨fun e => fn_inj hb hbj (by rw [l2]; exact it_lt hp hx j) (by omega) e, fun e => by rw [e]⟩
      refine Bool.eq_iff_iff.2 ?_
      rw [exB_iff, exB_iff, k]
      exact ⟨fun ⟨a, b⟩ => ⟨a, fun j c d e => b j c d ((k j).2 e)⟩, fun ⟨a, b⟩ => ⟨a, fun j c d e => b j c d ((k j).1 e)⟩⟩
    have e1 := cycles_count p hp hj L hL
    have e2 := cycles_count q hq hqj L hL
    have e3 : (List.range q.length).countP (exB q L) = (List.range p.length).countP (exB p L) := by
      have pr := perm_range p.length (fn by_) (fun i hi => by have := fn_lt hb (i := i) (by omega); omega) (fun i j hi hj' e => fn_inj hb hbj (by omega) (by omega) e)
      rw [l1, ← pr.countP_eq, List.countP_map]
      apply List.countP_congr
      intro x hx
      have := hex x (by simpa using hx)
      simp [this]
    rw [e3, ← e1] at e2
    exact Nat.eq_of_mul_eq_mul_right (by omega) e2
  · have z : ∀ r : List Int, Into r → Inj r → (cycles r).countP (fun c => decide (c.length = L)) = 0 := by
      intro r h1 h2
      rw [List.countP_eq_zero]
      intro c hc
      obtain ⟨x, hx⟩ := (cycles_ok r h1 h2).1 c hc
      have := hx.2.1
      simp; omega
    rw [z q hq hqj, z p hp hj]
end Go.Proofs.Ytonlecigglbohaa.M
