import Derived.Test.YtehlokjlcbegoaaLtdraw
import Derived.Test.YtehlokjlcbegoaaLtab
import Derived.Test.YtehlokjlcbegoaaQ10
/- Factorizations have no order of types: the law, for every code. -/
namespace Go.Proofs.Ytehlokjlcbegoaa.Pure
set_option linter.unusedVariables false
set_option linter.unusedSimpArgs false
open Go.RowKit Go.Proofs.Ytehlokjlcbegoaa.Q Go.Proofs.YtehlokjlcbegoaaW.PrintWords Go.Proofs.YtehlokjlcbegoaaW.PrintMore Go.Proofs.YtehlokjlcbegoaaW.PrintLast Go.Proofs.Ytehlokjlcbegoaa.M Go.Proofs.Ytehlokjlcbegoaa.B Go.Proofs.Ytehlokjlcbegoaa.Lpick Go.Proofs.Ytehlokjlcbegoaa.L1 Go.Proofs.Ytehlokjlcbegoaa.Lpv Go.Proofs.Ytehlokjlcbegoaa.Ltyp Go.Proofs.Ytehlokjlcbegoaa.Lfc Go.Proofs.Ytehlokjlcbegoaa.Ltdraw Go.Proofs.Ytehlokjlcbegoaa.Alg Go.Proofs.Ytehlokjlcbegoaa.Ltab

theorem nd_inj {α : Type} {l : List α} (h : l.Nodup) {i j : Nat} (hi : i < l.length) (hj : j < l.length) (e : l[i] = l[j]) : i = j := by
  rw [List.nodup_iff_pairwise_ne, List.pairwise_iff_getElem] at h
  rcases Nat.lt_trichotomy i j with g | g | g
  · exact absurd e (h i j hi hj g)
  · exact g
  · exact absurd e.symm (h j i hj hi g)
def lchk (x : List Int) : Bool := laws_sumOf.f 30 x == some (sumI x)
theorem l_all : pts.all lchk = true := by decide +kernel
theorem ok_of {l : List (List Int)} (h : tyB l = true) : (1 ≤ l.length ∧ l.length ≤ 6) ∧ ∃ n : Nat, (1 ≤ n ∧ n ≤ 6) ∧ Row n l ∧ sumI (nth l 0) = (n : Int) := by
  obtain ⟨h1, h2⟩ := (tyB_iff l).1 h
  have hr := sum_range _ (h2 0 (by omega)).1
  refine ⟨h1, (sumI (nth l 0)).toNat, by omega, fun x hx => ?_, by omega⟩
  obtain ⟨i, hi, rfl⟩ := mem_nth hx
  have := h2 i hi
  exact ⟨this.1, by omega⟩
theorem big (l : List (List Int)) (h : Short l) : ∀ x ∈ l, x.length ≤ 1048576 := fun x hx => by have := h x hx; omega
theorem cnt_ev (l : List (List Int)) (hs : Short l) (hl : l.length ≤ 100) : Ev (fun k => impl_FactorCount.f k l) (cnt l) := impl_cnt l (by omega) (big l hs)
/-- the product, from the last one on -/
theorem prod_is {n : Nat} (hn : 1 ≤ n ∧ n ≤ 6) : ∀ (l : List (List Int)) (p : Int) (i : Nat), Row n l → i + l.length ≤ 6 → p.natAbs ≤ 256 * 144 ^ i → Ev (fun k => laws_FnFactor.prodR k l p) (p * prodL (ts n l) (tab n).k)
  | [], p, i, _, _, _ => Ev.same (Ev.congr (fun k => by simp only [laws_FnFactor.prodR]) (Ev.now p)) (by show p = p * 1; omega)
  | x :: l, p, i, hr, hi, hp => by
    obtain ⟨g1, g2⟩ := ix_is hn x (hr x (by simp))
    obtain ⟨_, k1, _, k2⟩ := (link n hn).d _ g1
    rw [g2] at k1
    have hg := good x x (hr x (by simp)).1 (hr x (by simp)).1 rfl
    have hb := mul_small p _ _ _ hp k2
    have hp2 : 256 * 144 ^ i * 144 = 256 * 144 ^ (i + 1) := by rw [Nat.pow_succ, Nat.mul_assoc]
    simp only [List.length_cons] at hi
    have hq := pow_small (i + 1) (by omega)
    rw [hp2] at hb
    have ih := prod_is hn l (p * (tab n).k (ix n x)) (i + 1) (fun y hy => hr y (List.mem_cons_of_mem _ hy)) (by omega) hb
    have key : Ev (fun k => (impl_ClassSize.f k x).bind fun c => laws_FnFactor.prodR k l (wrap64 (p * c))) (p * (tab n).k (ix n x) * prodL (ts n l) (tab n).k) := by
      refine Ev.bind hg.c1 ?_
      rw [k1, wr (p * (tab n).k (ix n x)) (by omega) (by omega)]
      exact ih
    refine Ev.same (Ev.congr (fun k => by simp only [laws_FnFactor.prodR]) key) ?_
    show _ = p * ((tab n).k (ix n x) * prodL (ts n l) (tab n).k)
    rw [Int.mul_assoc]
theorem shp_nd (n : Nat) (hn : 1 ≤ n ∧ n ≤ 6) : (shp (n : Int)).Nodup := by
    have hm : n ∈ [1, 2, 3, 4, 5, 6] := by
      have : n = 1 ∨ n = 2 ∨ n = 3 ∨ n = 4 ∨ n = 5 ∨ n = 6 := by omega
      rcases this with rfl | rfl | rfl | rfl | rfl | rfl <;> decide
    have h : ([1, 2, 3, 4, 5, 6] : List Nat).all (fun n => decide ((shp (n : Int)).Nodup)) = true := by decide +kernel
    simpa using List.all_eq_true.1 h n hm
/-- the sum over last types -/
theorem sum_is {n : Nat} (hn : 1 ≤ n ∧ n ≤ 6) (ty : List (List Int)) (hty : Row n ty) (hsh : Short ty) (hl : ty.length ≤ 5) : ∀ (d j : Nat) (x : Int), j + d = (tab n).m → x.natAbs ≤ j * 25107738862288896 →
    Ev (fun k => laws_FnFactor.sumR k ty ((shp (n : Int)).drop j) x) (x + sumL ((List.range (tab n).m).drop j) (fun v => Int.tdiv (Alg.S (List.range (tab n).m) (tab n).d (tab n).w (ts n ty ++ [v])) (tab n).F)) := by
  have lk := link n hn
  intro d
  induction d with
  | zero =>
    intro j x h1 h2
    rw [List.drop_eq_nil_of_le (by rw [lk.len]; omega), List.drop_eq_nil_of_le (by simp; omega)]
    exact Ev.same (Ev.congr (fun k => by simp only [laws_FnFactor.sumR]) (Ev.now x)) (by show x = x + 0; omega)
  | succ d ih =>
    intro j x h1 h2
    have hj : j * 25107738862288896 ≤ 11 * 25107738862288896 := Nat.mul_le_mul_right _ (by have := lk.few; omega)
    have hs : (j + 1) * 25107738862288896 = j * 25107738862288896 + 25107738862288896 := by rw [Nat.add_mul, Nat.one_mul]
    have hmem := nth_mem (shp (n : Int)) j (by rw [lk.len]; omega)
    have hrow : pvB (nth (shp (n : Int)) j) = true ∧ sumI (nth (shp (n : Int)) j) = (n : Int) := (nums (n : Int) (by omega)).mem _ hmem
    have hx20 : (nth (shp (n : Int)) j).length ≤ 20 := by
      have hk := pv_cases (fun x => decide (x.length ≤ 20)) (by decide +kernel) _ hrow.1
      simpa using hk
    have hR : Row n (ty ++ [nth (shp (n : Int)) j]) := fun y hy => by
      rcases List.mem_append.1 hy with hy | hy
      · exact hty y hy
      · rw [List.mem_singleton.1 hy]; exact hrow
    obtain ⟨c1, c2⟩ := cnt_is hn (ty ++ [nth (shp (n : Int)) j]) hR (by simp; omega)
    obtain ⟨g1, g2⟩ := ix_is hn _ hrow
    have hij : ix n (nth (shp (n : Int)) j) = j := by
      have hnd : (shp (n : Int)).Nodup := shp_nd n hn
      generalize ix n (nth (shp (n : Int)) j) = q at g1 g2 ⊢
      rw [nth_lt (shp (n : Int)) q (by rw [lk.len]; exact g1), nth_lt (shp (n : Int)) j (by rw [lk.len]; omega)] at g2
      exact nd_inj hnd _ _ g2
    have hts : ts n (ty ++ [nth (shp (n : Int)) j]) = ts n ty ++ [j] := by
      unfold ts; rw [List.map_append, List.map_singleton, hij]
    unfold cv at c1 c2
    rw [hts] at c1 c2
    rw [drop_nth (shp (n : Int)) j (by rw [lk.len]; omega), drop_nth (List.range (tab n).m) j (by simp; omega), nth_range _ _ (by omega)]
    generalize hv : Int.tdiv (Alg.S (List.range (tab n).m) (tab n).d (tab n).w (ts n ty ++ [j])) (tab n).F = v at c1 c2
    have key : Ev (fun k => (impl_FactorCount.f k (ty ++ [nth (shp (n : Int)) j])).bind fun v => laws_FnFactor.sumR k ty ((shp (n : Int)).drop (j + 1)) (wrap64 (x + v))) (x + v + sumL ((List.range (tab n).m).drop (j + 1)) (fun v => Int.tdiv (Alg.S (List.range (tab n).m) (tab n).d (tab n).w (ts n ty ++ [v])) (tab n).F)) := by
      refine Ev.bind (Ev.same (cnt_ev _ (hsh.app _ hx20) (by simp; omega)) c1) ?_
      rw [wr (x + v) (by omega) (by omega)]
      exact ih (j + 1) (x + v) (by omega) (by omega)
    refine Ev.same (Ev.congr (fun k => by simp only [laws_FnFactor.sumR]) key) ?_
    rw [sumL_cons, hv]; omega
theorem FnFactor : laws_FnFactor.Pure := by
  intro l h1 h2 h3
  refine Ev.rounds ?_
  unfold laws_FnFactor.f
  by_cases hb : (l.length : Int) > 1048576
  · exact Ev.pos hb (Ev.now _)
  refine Ev.neg hb ?_
  have hd : EvP (fun k => spec_DrawFactorCount.f k l) (fun x => x.length ≤ 12 ∧ Short x) := by
    obtain ⟨b, hb, hrb⟩ := open_rb l h3
    unfold spec_DrawFactorCount.f
    refine EvP.bindc hb ?_
    refine EvP.bind (pick_p b 0 8 hrb (by omega) (by omega) (by omega) (by omega)) ?_
    rintro ⟨v, p'⟩ ⟨⟨v0, v1⟩, e⟩
    simp only at v0 v1 e
    subst e
    dsimp only
    by_cases c : v = 0
    · exact EvP.pos c (EvP.bind (types_p b hrb _ 4 7 (by omega) (by omega) (by omega) (by omega) (by omega) (by omega)) (fun r h => EvP.now h))
    · exact EvP.neg c (EvP.bind (types_p b hrb _ 5 4 (by omega) (by omega) (by omega) (by omega) (by omega) (by omega)) (fun r h => EvP.now h))
  refine Ev.bindp hd ?_
  rintro ty ⟨hl, hs⟩
  refine Ev.bind (cnt_ev ty hs (by omega)) (Ev.bind (spec_cnt ty (by omega) (big ty hs)) (Ev.pos rfl ?_))
  by_cases hneg : cnt ty < 0
  · exact Ev.pos hneg (Ev.now _)
  refine Ev.neg hneg ?_
  have ht : tyB ty = true := by
    refine Classical.byContradiction fun h => hneg ?_
    unfold cnt; rw [if_neg h]; omega
  obtain ⟨hr, n, hn, hok, h0⟩ := ok_of ht
  have lk := link n hn
  have nm := nums (n : Int) (by omega)
  unfold laws_FnFactor.r
  refine Ev.pos (by omega) ?_
  have hrow := hok _ (nth_mem ty 0 (by omega))
  have hl0 := pv_cases _ l_all _ hrow.1
  simp only [lchk, beq_iff_eq] at hl0
  refine Ev.bind (Ev.same (Ev.of (fun k => laws_sumOf.mono _ k) (show laws_sumOf.f 30 (ty.getD 0 []) = _ from hl0)) h0) ?_
  refine Ev.bindc nm.p1 (Ev.pos ⟨?_, ?_, rfl⟩ ?_)
  · show 1 ≤ (shp (n : Int)).length
    rw [lk.len]; have := lk.alg.oneM; simp at this; omega
  · show (shp (n : Int)).length ≤ 1000
    rw [lk.len]; have := lk.few; omega
  have hm1 : 1 ≤ (tab n).m := by have := lk.alg.oneM; simp at this; omega
  have hmr : ∀ t ∈ ts n ty, t ∈ List.range (tab n).m := by
    intro t h
    obtain ⟨x, hx, rfl⟩ := List.mem_map.1 h
    have := (ix_is hn x (hok x hx)).1
    simpa using this
  have hrev : ts n ty.reverse = (ts n ty).reverse := by unfold ts; rw [List.map_reverse]
  have hokr : Row n ty.reverse := fun x hx => hok x (by simpa using hx)
  have hsr : Short ty.reverse := fun x hx => hs x (by simpa using hx)
  refine Ev.bind (prod_is hn ty.reverse 1 0 hokr (by simp; omega) (by decide)) ?_
  rw [hrev, prodL_reverse, Int.one_mul]
  have c0 := (cnt_is hn ty hok hr).1
  have ca : cnt ty.reverse = cnt ty := by
    rw [c0, (cnt_is hn ty.reverse hokr (by simpa using hr)).1]
    unfold cv
    rw [hrev, S_reverse]
  refine Ev.bind (Ev.same (cnt_ev ty.reverse hsr (by simp; omega)) ca) (Ev.pos rfl ?_)
  by_cases h6 : ty.length = 6
  · exact Ev.pos h6 (Ev.now _)
  refine Ev.neg h6 ?_
  have hsum := sum_is hn ty hok hs (by omega) (tab n).m 0 0 (by omega) (by simp)
  rw [List.drop_zero, List.drop_zero, Int.zero_add, whole lk.alg (ts n ty) hmr] at hsum
  refine Ev.bind hsum ?_
  have hlast : (shp (n : Int)).getD ((shp (n : Int)).length - 1) [] = List.replicate n 1 := by
    rw [lk.len]; exact lk.last
  have hrl : pvB (List.replicate n (1 : Int)) = true ∧ sumI (List.replicate n (1 : Int)) = (n : Int) := by
    rw [← lk.last]
    exact nm.mem _ (nth_mem _ _ (by rw [lk.len]; omega))
  have hR : Row n (ty ++ [List.replicate n 1]) := fun y hy => by
    rcases List.mem_append.1 hy with hy | hy
    · exact hok y hy
    · rw [List.mem_singleton.1 hy]; exact hrl
  have cb : cnt (ty ++ [List.replicate n 1]) = cnt ty := by
    rw [c0, (cnt_is hn (ty ++ [List.replicate n 1]) hR (by simp; omega)).1]
    unfold cv
    have hix : ix n (List.replicate n 1) = (tab n).m - 1 := by
      obtain ⟨g1, g2⟩ := ix_is hn _ hrl
      have e : nth (shp (n : Int)) (ix n (List.replicate n 1)) = nth (shp (n : Int)) ((tab n).m - 1) := by rw [g2, lk.last]
      generalize ix n (List.replicate n 1) = q at g1 e ⊢
      rw [nth_lt (shp (n : Int)) q (by rw [lk.len]; exact g1), nth_lt (shp (n : Int)) ((tab n).m - 1) (by rw [lk.len]; omega)] at e
      exact nd_inj (shp_nd n hn) _ _ e
    rw [show ts n (ty ++ [List.replicate n 1]) = ts n ty ++ [(tab n).m - 1] by unfold ts; rw [List.map_append, List.map_singleton, hix], S_snoc_one lk.alg]
  have hln : (List.replicate n (1 : Int)).length ≤ 20 := by simp; omega
  refine Ev.bind (Ev.same (Ev.congr (fun k => by rw [hlast]) (cnt_ev _ (hs.app _ hln) (by simp; omega))) cb) ?_
  exact Ev.pos ⟨rfl, rfl⟩ (Ev.now _)
end Go.Proofs.Ytehlokjlcbegoaa.Pure
