import Derived.Test.YtonlecigglbohaaLmv
import Derived.Test.YtonlecigglbohaaQ5
import Derived.Test.YtonlecigglbohaaQ4
import Derived.Test.YtonlecigglbohaaQ6
import Derived.Test.YtonlecigglbohaaQ7
/- The program's forms of a map; a map renamed has the same least form. -/
namespace Go.Proofs.Ytonlecigglbohaa.Lform
set_option linter.unusedVariables false
set_option linter.unusedSimpArgs false
open Go.RowKit Go.Proofs.YtonlecigglbohaaW.PrintWords Go.Proofs.YtonlecigglbohaaW.PrintMore Go.Proofs.Ytonlecigglbohaa.Q Go.Proofs.Ytonlecigglbohaa.M Go.Proofs.Ytonlecigglbohaa.B Go.Proofs.Ytonlecigglbohaa.Lperm Go.Proofs.Ytonlecigglbohaa.Lmv

theorem l2_step (t f : List Int) (n : Nat) (hn : n ≤ 1000) (L : List Int) (hL : L.length = 2) (x8 : Int) (R : List Int) (s : List Int × List Int) (d j : Nat) (hd : d < n) (hj : j < 2) (he : nth L j = (d : Int)) (h1 : s.1.length = n) (h2 : s.2.length ≤ n)
    (h : Ev (fun k => impl_namesFrom.l2 k (name1 d s).1 (name1 d s).2 x8 L 2 ((j + 1 : Nat) : Int) t f) R) : Ev (fun k => impl_namesFrom.l2 k s.1 s.2 x8 L 2 (j : Int) t f) R := by
  refine Ev.step (fun k => ?_) h
  simp only [impl_namesFrom.l2]
  rw [if_pos (by omega), if_pos (by omega), if_pos (by omega), rdn, he, if_pos (by omega), if_pos (by omega), rd_eq, Int.toNat_natCast, wrs j (by omega)]
  unfold name1
  by_cases c : nth s.1 d < 0
  · rw [if_pos c, if_pos c, if_pos (by omega)]
  · rw [if_neg c, if_neg c]
theorem nf_l1 (t f : List Int) (ht : Into t) (hf : Into f) (hl : f.length = t.length) (hn : t.length ≤ 1000) : ∀ (u k : Nat) (s : List Int × List Int), k + u = t.length + 1 → k ≤ s.2.length → NI t.length s →
    Ev (fun q => impl_namesFrom.l1 q s.1 s.2 (k : Int) t f) (bfs t f u k s).1 := by
  intro u
  induction u with
  | zero => intro k s h1 h2 h3; have := h3.many; omega
  | succ u ih =>
    intro k s h1 h2 h3
    simp only [bfs]
    have hm := h3.many
    by_cases e : k < s.2.length
    · rw [if_pos e]
      have ho := h3.ord k e
      obtain ⟨o, hoe⟩ : ∃ o : Nat, nth s.2 k = (o : Int) := ⟨(nth s.2 k).toNat, by omega⟩
      have hon : o < t.length := by omega
      rw [show (nth s.2 k).toNat = o by omega]
      have lt1 := fn_lt ht hon
      have lt2 := fn_lt hf (i := o) (by omega)
      obtain ⟨a1, a2, a3, a4, a5⟩ := h3.one (fn t o) lt1
      obtain ⟨b1, b2, b3, b4, b5⟩ := a1.one (fn f o) (by omega)
      have hx := fn_cast ht hon
      have hy := fn_cast hf (i := o) (by omega)
      refine Ev.step (f := fun q => impl_namesFrom.l2 q s.1 s.2 (k : Int) [nth t o, nth f o] 2 ((0 : Nat) : Int) t f) (fun q => ?_) ?_
      · simp only [impl_namesFrom.l1]
        rw [if_pos (by omega), if_pos (by omega), rdn, hoe, if_pos (by omega), if_pos (by omega), if_pos (by omega), rdn, rdn]
        rfl
      · refine l2_step t f t.length hn _ rfl _ _ s (fn t o) 0 lt1 (by omega) hx.symm h3.len hm ?_
        refine l2_step t f t.length hn _ rfl _ _ (name1 (fn t o) s) (fn f o) 1 (by omega) (by omega) hy.symm a1.len a1.many ?_
        refine Ev.step (fun q => ?_) (ih (k + 1) (name2 t f o s) (by omega) (by show k + 1 ≤ (name1 _ (name1 _ s)).2.length; omega) b1)
        · simp only [impl_namesFrom.l2]
          rw [if_neg (by omega), wrs k (by omega)]; rfl
    · rw [if_neg e]
      refine Ev.ret (fun q => ?_)
      simp only [impl_namesFrom.l1]
      rw [if_neg (by omega)]
theorem nf_l0 (t f : List Int) (n root : Nat) (hn : n ≤ 1000) (hr : root < n) (R : List Int) (h : Ev (fun k => impl_namesFrom.l1 k (names0 n root).1 (names0 n root).2 0 t f) R) : ∀ (d i : Nat) (acc : List Int), i + d = n → acc.length = n → (∀ j, j < i → nth acc j = -1) →
    Ev (fun k => impl_namesFrom.l0 k (root : Int) acc (n : Int) (i : Int) t f) R := by
  intro d
  induction d with
  | zero =>
    intro i acc h1 h2 h3
    have e : acc = List.replicate n (-1) := ext_nth (by simp [h2]) (fun j hj => by rw [h3 j (by omega), nth_replicate _ _ _ (by omega)])
    refine Ev.step (fun k => ?_) h
    simp only [impl_namesFrom.l0]
    rw [if_neg (by omega), if_pos (by omega), if_pos (by omega), e]
    rfl
  | succ d ih =>
    intro i acc h1 h2 h3
    refine Ev.step (fun k => ?_) (ih (i + 1) (acc.set i (-1)) (by omega) (by simpa using h2) (fun j hj => ?_))
    · simp only [impl_namesFrom.l0]
      rw [if_pos (by omega), if_pos (by omega), if_pos (by omega), wrs i (by omega)]
      rfl
    · by_cases e : i = j
      · subst e; rw [nth_set_self _ _ _ (by omega)]
      · rw [nth_set_ne _ _ _ _ e]; exact h3 j (by omega)
theorem impl_names (t f : List Int) (ht : Into t) (hf : Into f) (hl : f.length = t.length) (hn : t.length ≤ 1000) (root : Nat) (hr : root < t.length) : Ev (fun k => impl_namesFrom.f k t f (root : Int)) (names t f root) := by
  unfold impl_namesFrom.f
  refine Ev.pos (by omega) (Ev.pos (by omega) (Ev.bindc rfl ?_))
  rw [Int.toNat_natCast, List.length_replicate]
  refine nf_l0 t f t.length root hn hr _ ?_ t.length 0 _ (by omega) (by simp) (fun j h => by omega)
  exact nf_l1 t f ht hf hl hn (t.length + 1) 0 (names0 t.length root) (by omega) (by simp [names0]) (NI.start _ _ hr)
theorem impl_ren (t f by_ : List Int) (ht : Into t) (hf : Into f) (hl : f.length = t.length) (hn : t.length ≤ 1000) (hb : Into by_) (jb : Inj by_) (lb : by_.length = t.length) : Ev (fun k => impl_renamed.f k t f by_) (ren by_ t, ren by_ f) := by
  have ebk := impl_bk by_ hb (by omega)
  have bi := bk_into by_ hb jb
  have bl := bk_len by_
  have go : ∀ x : List Int, Into x → x.length = t.length → Ev (fun k => impl_mul.f k (bk by_) x) (ml (bk by_) x) ∧ Ev (fun k => impl_mul.f k (ml (bk by_) x) by_) (ren by_ x) := by
    intro x hx lx
    have ri := ml_into (bk by_) x bi hx (by omega)
    exact ⟨impl_ml _ _ (fun i h => by have := bi i h; omega) (by omega), impl_ml _ _ (fun i h => by have := ri i h; rw [ml_len] at this h; omega) (by rw [ml_len]; omega)⟩
  unfold impl_renamed.f
  refine Ev.bind ebk (Ev.bind (go t ht rfl).1 (Ev.bind (go t ht rfl).2 (Ev.bind ebk (Ev.bind (go f hf hl).1 (Ev.bind (go f hf hl).2 (Ev.now _))))))
/-! ### compared -/
def cmpL : List Int → List Int → Int
  | x :: xs, y :: ys => if x < y then -1 else if x > y then 1 else cmpL xs ys
  | _, _ => 0
theorem cmpL_swap : ∀ a b : List Int, cmpL b a = - cmpL a b
  | [], [] => rfl
  | [], _ :: _ => rfl
  | _ :: _, [] => rfl
  | x :: xs, y :: ys => by
    have := cmpL_swap xs ys
    simp only [cmpL]
    split <;> split <;> (try split) <;> omega
theorem cmpL_self : ∀ a : List Int, cmpL a a = 0
  | [] => rfl
  | x :: xs => by simp only [cmpL]; rw [if_neg (by omega), if_neg (by omega)]; exact cmpL_self xs
theorem cmpL_zero : ∀ a b : List Int, a.length = b.length → cmpL a b = 0 → a = b
  | [], [], _, _ => rfl
  | [], _ :: _, h, _ => by simp at h
  | _ :: _, [], h, _ => by simp at h
  | x :: xs, y :: ys, h, e => by
    simp only [cmpL] at e
    by_cases c : x < y
    · rw [if_pos c] at e; omega
    · rw [if_neg c] at e
      by_cases d : x > y
      · rw [if_pos d] at e; omega
      · rw [if_neg d] at e
        rw [cmpL_zero xs ys (by simpa using h) e, show x = y by omega]
theorem cmpL_trans : ∀ a b c : List Int, a.length = b.length → b.length = c.length → cmpL a b < 0 → cmpL b c < 0 → cmpL a c < 0
  | [], [], _, _, _, h, _ => by simp [cmpL] at h
  | [], _ :: _, _, h, _, _, _ => by simp at h
  | _ :: _, [], _, h, _, _, _ => by simp at h
  | _ :: _, _ :: _, [], _, h, _, _ => by simp at h
  | x :: xs, y :: ys, z :: zs, h1, h2, h3, h4 => by
    simp only [cmpL] at h3 h4 ⊢
    have ih := cmpL_trans xs ys zs (by simpa using h1) (by simpa using h2)
    by_cases c1 : x < y
    · by_cases c2 : y < z
      · rw [if_pos (by omega)]; omega
      · rw [if_neg c2] at h4
        by_cases c3 : y > z
        · rw [if_pos c3] at h4; omega
        · rw [if_pos (by omega)]; omega
    · rw [if_neg c1] at h3
      by_cases c2 : x > y
      · rw [if_pos c2] at h3; omega
      · rw [if_neg c2] at h3
        by_cases c3 : y < z
        · rw [if_pos (by omega)]; omega
        · rw [if_neg c3] at h4
          by_cases c4 : y > z
          · rw [if_pos c4] at h4; omega
          · rw [if_neg c4] at h4
            rw [if_neg (by omega), if_neg (by omega)]
            exact ih h3 h4
theorem cmpL_app : ∀ a b c d : List Int, a.length = b.length → cmpL (a ++ c) (b ++ d) = if cmpL a b = 0 then cmpL c d else cmpL a b
  | [], [], c, d, _ => by simp [cmpL]
  | [], _ :: _, _, _, h => by simp at h
  | _ :: _, [], _, _, h => by simp at h
  | x :: xs, y :: ys, c, d, h => by
    have e0 : cmpL (x :: xs) (y :: ys) = if x < y then -1 else if x > y then 1 else cmpL xs ys := rfl
    have e1 : cmpL (x :: (xs ++ c)) (y :: (ys ++ d)) = if x < y then -1 else if x > y then 1 else cmpL (xs ++ c) (ys ++ d) := rfl
    show cmpL (x :: (xs ++ c)) (y :: (ys ++ d)) = _
    by_cases c1 : x < y
    · rw [if_pos c1] at e0 e1
      rw [e0, e1, if_neg (by omega)]
    · rw [if_neg c1] at e0 e1
      by_cases c2 : x > y
      · rw [if_pos c2] at e0 e1
        rw [e0, e1, if_neg (by omega)]
      · rw [if_neg c2] at e0 e1
        rw [e0, e1]; exact cmpL_app xs ys c d (by simpa using h)
theorem cmp1 (x y : Int) : cmp_Compare_int.f x y = some (if x < y then -1 else if x > y then 1 else 0) := by
  unfold cmp_Compare_int.f cmp_isNaN_int.f
  by_cases c : x < y
  · simp [c]
  · by_cases d : x > y
    · simp [c, d]
    · simp [c, d]
theorem cmp_loop (a b : List Int) (hl : a.length = b.length) (hn : a.length ≤ 1000) : ∀ (d i : Nat), i + d = a.length → Ev (fun k => slices_Compare_int_int.l0 k a b a (a.length : Int) i) (cmpL (a.drop i) (b.drop i)) := by
  intro d
  induction d with
  | zero =>
    intro i h
    rw [List.drop_eq_nil_of_le (by omega), List.drop_eq_nil_of_le (by omega)]
    refine Ev.ret (fun k => ?_)
    simp only [slices_Compare_int_int.l0]
    rw [if_neg (by omega), if_neg (by omega)]; rfl
  | succ d ih =>
    intro i h
    rw [drop_nth a i (by omega), drop_nth b i (by omega)]
    simp only [cmpL]
    have st : ∀ (k : Nat), slices_Compare_int_int.l0 (k + 1) a b a (a.length : Int) i = if (if nth a i < nth b i then (-1 : Int) else if nth a i > nth b i then 1 else 0) = 0 then slices_Compare_int_int.l0 k a b a (a.length : Int) ((i + 1 : Nat) : Int) else some (if nth a i < nth b i then -1 else if nth a i > nth b i then 1 else 0) := by
      intro k
      simp only [slices_Compare_int_int.l0]
      rw [if_pos (by omega), if_pos (by omega), if_pos (by omega), if_neg (by omega), if_pos (by omega), rdn, rdn, cmp1, wrs i (by omega)]
      rfl
    by_cases c : nth a i < nth b i
    · exact Ev.ret (fun k => by rw [st]; simp [c])
    · by_cases e : nth a i > nth b i
      · exact Ev.ret (fun k => by rw [st]; simp [c, e])
      · rw [if_neg c, if_neg e]
        exact Ev.step (fun k => by rw [st]; simp [c, e]) (ih (i + 1) (by omega))
theorem cmp_ev (a b : List Int) (hl : a.length = b.length) (hn : a.length ≤ 1000) : Ev (fun k => slices_Compare_int_int.f k a b) (cmpL a b) := by
  unfold slices_Compare_int_int.f
  exact Ev.same (cmp_loop a b hl hn a.length 0 (by omega)) (by simp)
def key (p : List Int × List Int) : List Int := p.1 ++ p.2
def Sz (n : Nat) (p : List Int × List Int) : Prop := p.1.length = n ∧ p.2.length = n
theorem cmpM_ev (n : Nat) (hn : n ≤ 1000) (p q : List Int × List Int) (hp : Sz n p) (hq : Sz n q) : Ev (fun k => impl_compareMaps.f k p.1 p.2 q.1 q.2) (cmpL (key p) (key q)) := by
  have h1 := hp.1; have h2 := hp.2; have h3 := hq.1; have h4 := hq.2
  unfold impl_compareMaps.f
  refine Ev.bind (cmp_ev p.1 q.1 (by omega) (by omega)) ?_
  unfold key
  rw [cmpL_app _ _ _ _ (by omega)]
  by_cases c : cmpL p.1 q.1 = 0
  · rw [if_pos c]
    exact Ev.pos c (Ev.bind (cmp_ev p.2 q.2 (by omega) (by omega)) (Ev.now _))
  · rw [if_neg c]; exact Ev.neg c (Ev.now _)
theorem key_inj {n : Nat} {p q : List Int × List Int} (hp : Sz n p) (hq : Sz n q) (h : key p = key q) : p = q := by
  have := List.append_inj h (by rw [hp.1, hq.1])
  exact Prod.ext this.1 this.2
/-! ### the least form -/
def best (F : Nat → List Int × List Int) : Nat → Nat → List Int × List Int → List Int × List Int
  | 0, _, b => b
  | d + 1, i, b => best F d (i + 1) (if cmpL (key (F i)) (key b) < 0 then F i else b)
theorem best_ok (F : Nat → List Int × List Int) (n m : Nat) (hF : ∀ i, i < m → Sz n (F i)) : ∀ (d i : Nat) (b : List Int × List Int), i + d = m → Sz n b → (∃ j, j < m ∧ b = F j) → (∀ j, j < i → ¬ cmpL (key (F j)) (key b) < 0) →
    (∃ j, j < m ∧ best F d i b = F j) ∧ ∀ j, j < m → ¬ cmpL (key (F j)) (key (best F d i b)) < 0 := by
  intro d
  induction d with
  | zero => intro i b h1 h2 h3 h4; exact ⟨h3, fun j hj => h4 j (by omega)⟩
  | succ d ih =>
    intro i b h1 h2 h3 h4
    simp only [best]
    have klen : ∀ p, Sz n p → (key p).length = n + n := fun p hp => by unfold key; rw [List.length_append, hp.1, hp.2]
    have hi := hF i (by omega)
    by_cases c : cmpL (key (F i)) (key b) < 0
    · rw [if_pos c]
      refine ih (i + 1) (F i) (by omega) hi ⟨i, by omega, rfl⟩ (fun j hj hlt => ?_)
      by_cases e : j = i
      · rw [e, cmpL_self] at hlt; omega
      · exact h4 j (by omega) (cmpL_trans _ _ _ (by rw [klen _ (hF j (by omega)), klen _ hi]) (by rw [klen _ hi, klen _ h2]) hlt c)
    · rw [if_neg c]
      refine ih (i + 1) b (by omega) h2 h3 (fun j hj => ?_)
      by_cases e : j = i
      · rw [e]; exact c
      · exact h4 j (by omega)
def least (t f : List Int) : List Int × List Int := best (form t f) t.length 0 (form t f 0)
theorem form_sz {t f : List Int} (hm : IsMap t f) (r : Nat) (hr : r < t.length) : Sz t.length (form t f r) := by
  have h := (names_ok t f hm.it hm.jt hm.iF hm.jf hm.len hm.con r hr).1
  exact ⟨by unfold form; rw [ren_len, h], by unfold form; rw [ren_len, h]⟩
theorem form_ev {t f : List Int} (hm : IsMap t f) (hn : t.length ≤ 1000) (r : Nat) (hr : r < t.length) (G : Nat → List Int × List Int → Option (List Int × List Int)) (R : List Int × List Int) (h : Ev (fun k => G k (form t f r)) R) :
    Ev (fun k => (impl_namesFrom.f k t f (r : Int)).bind fun nm => (impl_renamed.f k t f nm).bind fun b => G k b) R := by
  obtain ⟨l1, i1, j1, _⟩ := names_ok t f hm.it hm.jt hm.iF hm.jf hm.len hm.con r hr
  exact Ev.bind (impl_names t f hm.it hm.iF hm.len hn r hr) (Ev.bind (impl_ren t f _ hm.it hm.iF hm.len hn i1 j1 l1) h)
theorem least_loop {t f : List Int} (hm : IsMap t f) (hn : t.length ≤ 1000) : ∀ (d i : Nat) (b : List Int × List Int), i + d = t.length → Sz t.length b → Ev (fun k => impl_leastForm.l0 k (t.length : Int) (i : Int) t f b.1 b.2) (best (form t f) d i b) := by
  intro d
  induction d with
  | zero =>
    intro i b h1 h2
    refine Ev.ret (fun k => ?_)
    simp only [impl_leastForm.l0]
    rw [if_neg (by omega)]; rfl
  | succ d ih =>
    intro i b h1 h2
    have hs := form_sz hm i (by omega)
    refine Ev.step (f := fun k => (impl_namesFrom.f k t f (i : Int)).bind fun nm => (impl_renamed.f k t f nm).bind fun p => (impl_compareMaps.f k p.1 p.2 b.1 b.2).bind fun c => if c < 0 then impl_leastForm.l0 k (t.length : Int) ((i + 1 : Nat) : Int) t f p.1 p.2 else impl_leastForm.l0 k (t.length : Int) ((i + 1 : Nat) : Int) t f b.1 b.2) (fun k => by simp only [impl_leastForm.l0]; rw [if_pos (by omega), wrs i (by omega)]) ?_
    refine form_ev hm hn i (by omega) (fun k p => (impl_compareMaps.f k p.1 p.2 b.1 b.2).bind fun c => if c < 0 then impl_leastForm.l0 k (t.length : Int) ((i + 1 : Nat) : Int) t f p.1 p.2 else impl_leastForm.l0 k (t.length : Int) ((i + 1 : Nat) : Int) t f b.1 b.2) _ ?_
    refine Ev.bind (cmpM_ev t.length hn _ _ hs h2) ?_
    simp only [best]
    by_cases c : cmpL (key (form t f i)) (key b) < 0
    · rw [if_pos c]; exact Ev.pos c (ih (i + 1) _ (by omega) hs)
    · rw [if_neg c]; exact Ev.neg c (ih (i + 1) _ (by omega) h2)
theorem least_ev {t f : List Int} (hm : IsMap t f) (hn : 1 ≤ t.length ∧ t.length ≤ 1000) : Ev (fun k => impl_leastForm.f k t f) (least t f) := by
  unfold impl_leastForm.f
  exact form_ev hm hn.2 0 (by omega) (fun k p => impl_leastForm.l0 k (t.length : Int) 0 t f p.1 p.2) _ (least_loop hm hn.2 t.length 0 _ (by omega) (form_sz hm 0 (by omega)))
theorem least_iso {n : Nat} {σ : Nat → Nat} {t f t' f' : List Int} (hI : Iso n σ t f t' f') (hm : IsMap t f) (hm' : IsMap t' f') (hn : t.length = n) (hn' : t'.length = n) (h1 : 1 ≤ n) : least t' f' = least t f := by
  have a := best_ok (form t f) n n (fun i hi => by rw [← hn]; exact form_sz hm i (by omega)) n 0 (form t f 0) (by omega) (by rw [← hn]; exact form_sz hm 0 (by omega)) ⟨0, by omega, rfl⟩ (fun j h => by omega)
  have b := best_ok (form t' f') n n (fun i hi => by rw [← hn']; exact form_sz hm' i (by omega)) n 0 (form t' f' 0) (by omega) (by rw [← hn']; exact form_sz hm' 0 (by omega)) ⟨0, by omega, rfl⟩ (fun j h => by omega)
  unfold least
  rw [hn, hn']
  obtain ⟨⟨i, hi, ei⟩, a2⟩ := a
  obtain ⟨⟨j, hj, ej⟩, b2⟩ := b
  have fe := fun r (hr : r < n) => form_iso hI hm hm' hn hn' r hr
  have s1 : Sz n (best (form t f) n 0 (form t f 0)) := by rw [ei, ← hn]; exact form_sz hm i (by omega)
  have s2 : Sz n (best (form t' f') n 0 (form t' f' 0)) := by rw [ej, ← hn']; exact form_sz hm' j (by omega)
  have c1 : ¬ cmpL (key (best (form t f) n 0 (form t f 0))) (key (best (form t' f') n 0 (form t' f' 0))) < 0 := by
    have := b2 (σ i) (hI.lt i hi)
    rw [fe i hi, ← ei] at this; exact this
  have c2 : ¬ cmpL (key (best (form t' f') n 0 (form t' f' 0))) (key (best (form t f) n 0 (form t f 0))) < 0 := by
    obtain ⟨r, hr, er⟩ := onto_of_inj n σ hI.lt hI.inj j hj
    have := a2 r hr
    rw [← fe r hr, er, ← ej] at this; exact this
  rw [cmpL_swap] at c2
  refine (key_inj s1 s2 (cmpL_zero _ _ (by unfold key; rw [List.length_append, List.length_append, s1.1, s1.2, s2.1, s2.2]) (by omega))).symm
theorem same_ev {n : Nat} {σ : Nat → Nat} {t f t' f' : List Int} (hI : Iso n σ t f t' f') (hv : mvB t f = true) (hv' : mvB t' f' = true) (hn : t.length = n) (hn' : t'.length = n) : Ev (fun k => impl_MapSame.f k t f t' f') true ∧ Ev (fun k => impl_MapSame.f k t' f' t f) true := by
  obtain ⟨hm, h1, _⟩ := mv_map hv
  obtain ⟨hm', h1', _⟩ := mv_map hv'
  have e := least_iso hI hm hm' hn hn' (by omega)
  have e1 := least_ev hm (by omega)
  have e2 := least_ev hm' (by omega)
  have hs : Sz n (least t f) := by
    have a := best_ok (form t f) n n (fun i hi => by rw [← hn]; exact form_sz hm i (by omega)) n 0 (form t f 0) (by omega) (by rw [← hn]; exact form_sz hm 0 (by omega)) ⟨0, by omega, rfl⟩ (fun j h => by omega)
    obtain ⟨⟨i, hi, ei⟩, _⟩ := a
    unfold least; rw [hn, ei, ← hn]; exact form_sz hm i (by omega)
  rw [e] at e2
  have ec := Ev.same (cmpM_ev n (by omega) _ _ hs hs) (cmpL_self _)
  have go : ∀ x y x' y' : List Int, mvB x y = true → mvB x' y' = true → x.length = x'.length → Ev (fun k => impl_leastForm.f k x y) (least t f) → Ev (fun k => impl_leastForm.f k x' y') (least t f) → Ev (fun k => impl_MapSame.f k x y x' y') true := by
    intro x y x' y' a1 a2 a3 a4 a5
    unfold impl_MapSame.f
    refine Ev.bind (impl_mv x y) ?_
    rw [a1]
    refine Ev.pos rfl (Ev.bind (impl_mv x' y') ?_)
    rw [a2]
    refine Ev.pos rfl ?_
    refine Ev.congr (fun k => by rw [show ((x.length : Int) != (x'.length : Int)) = false by simp [a3]]) (Ev.step (fun k => by simp only [impl_MapSame.j0]; rw [if_neg (by simp)]) ?_)
    exact Ev.bind a4 (Ev.bind a5 (Ev.bind ec (Ev.now _)))
  exact ⟨go t f t' f' hv hv' (by omega) e1 e2, go t' f' t f hv' hv (by omega) e2 e1⟩
end Go.Proofs.Ytonlecigglbohaa.Lform
