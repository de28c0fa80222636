import Derived.Test.YtkfeildndcdbaaaLpair
import Derived.Test.YtkfeildndcdbaaaLpv
import Derived.Test.YtkfeildndcdbaaaQ8
/- Rows of the table of characters: the law, for every code. -/
namespace Go.Proofs.Ytkfeildndcdbaaa.Pure
set_option linter.unusedVariables false
set_option linter.unusedSimpArgs false
open Go.RowKit Go.Proofs.Ytkfeildndcdbaaa.Q Go.Proofs.YtkfeildndcdbaaaW.PrintWords Go.Proofs.YtkfeildndcdbaaaW.PrintLast Go.Proofs.Ytkfeildndcdbaaa.M Go.Proofs.Ytkfeildndcdbaaa.B Go.Proofs.Ytkfeildndcdbaaa.Lpick Go.Proofs.Ytkfeildndcdbaaa.Lparts Go.Proofs.Ytkfeildndcdbaaa.Lpair Go.Proofs.Ytkfeildndcdbaaa.Lpv

def pairChk (x y : List Int) : Bool := match impl_CharValue.f 300 x y with
  | some a => spec_CharValue.f 300 x y == some a
  | none => false
theorem pair_valid : pts.all (fun x => pts.all (fun y => pairChk x y)) = true := by decide +kernel
def tailChk (y : List Int) : Bool := match laws_sumOf.f 30 y with
  | some s => match impl_PartsAll.f s with
    | some (L, b) => decide (0 < L.length) && (List.range L.length).all (fun (r : Nat) => laws_FnRows.l0 500 y s L b (rd_L1 L (r : Int)) 0 0 0 == some true)
    | none => false
  | none => false
theorem tail_valid : pts.all tailChk = true := by decide +kernel
theorem tail_ev (y : List Int) (hy : pvB y = true) (more : List Int) (a : Int) (b : Bool) (c : Int) (d : Bool) : Ev (fun k => laws_FnRows.j1 k more y a b c d false) true := by
  have hc : tailChk y = true := pv_cases tailChk tail_valid y hy
  unfold tailChk at hc
  split at hc
  · rename_i s e1
    split at hc
    · rename_i L b' e2
      simp only [Bool.and_eq_true, decide_eq_true_eq] at hc
      refine Ev.step (f := fun k => (laws_sumOf.f k y).bind fun t => (impl_PartsAll.f t).bind fun bt => (if (bt.1.length : Int) = 0 then (none) else (if 0 ≤ ((more.length : Int) % (bt.1.length : Int)) then (if ((more.length : Int) % (bt.1.length : Int)) < (bt.1.length : Int) then (laws_FnRows.l0 k y t bt.1 bt.2 (rd_L1 bt.1 ((more.length : Int) % (bt.1.length : Int))) 0 0 0) else (none)) else (none)))) (fun k => by simp only [laws_FnRows.j1]; rw [if_neg (by simp)]) ?_
      refine Ev.bind (Ev.of (fun k => laws_sumOf.mono _ k) e1) ?_
      refine Ev.bindc e2 ?_
      have h0 := Int.emod_nonneg (more.length : Int) (show (L.length : Int) ≠ 0 by omega)
      have h1 := Int.emod_lt_of_pos (more.length : Int) (show (0 : Int) < (L.length : Int) by omega)
      refine Ev.neg (by show ¬ ((L.length : Int) = 0); omega) (Ev.pos h0 (Ev.pos h1 ?_))
      generalize hm : (more.length : Int) % (L.length : Int) = m at h0 h1
      show Ev (fun k => laws_FnRows.l0 k y s L b' (rd_L1 L m) 0 0 0) true
      have h2 := List.all_eq_true.1 hc.2 m.toNat (by simp; omega)
      rw [Int.toNat_of_nonneg h0] at h2
      exact Ev.of (fun k => (laws_FnRows.mono_l k).2.2.1 _ _ _ _ _ _ _ _) (by simpa using h2)
    · cases hc
  · cases hc
theorem FnRows : laws_FnRows.Pure := by
  intro l more h1 h2 h3 h4 h5 h6
  refine Ev.rounds ?_
  unfold laws_FnRows.f
  have one : Ev (fun k => laws_FnRows.j0 k l more true) true := Ev.ret (fun k => by simp only [laws_FnRows.j0]; rfl)
  by_cases hb : (l.length : Int) > 1048576
  · exact Ev.pos hb one
  refine Ev.neg hb ?_
  by_cases hb2 : (more.length : Int) > 1048576
  · rw [decide_eq_true hb2]; exact one
  rw [decide_eq_false hb2]
  have hd : EvP (fun k => spec_DrawCharValue.f k l) (fun r => r.1.length ≤ 20 ∧ r.2.length ≤ 20) := by
    obtain ⟨b, hb, hrb⟩ := open_rb l h3
    unfold spec_DrawCharValue.f
    refine EvP.bindc hb ?_
    refine EvP.bind (pair_p b hrb 0 6 (by omega) (by omega) (by omega) (by omega)) (fun r h => ?_)
    exact EvP.now h
  refine Ev.step (f := fun k => (spec_DrawCharValue.f k l).bind fun r => (impl_CharValue.f k r.1 r.2).bind fun p => (spec_CharValue.f k r.1 r.2).bind fun q => (if (p.2 != q.2) = true then (laws_FnRows.j1 k more r.1 p.1 p.2 q.1 q.2 true) else (if p.1 = q.1 then (laws_FnRows.j1 k more r.1 p.1 p.2 q.1 q.2 (!p.2)) else (laws_FnRows.j1 k more r.1 p.1 p.2 q.1 q.2 true)))) (fun k => by simp only [laws_FnRows.j0]; rw [if_neg (by simp)]) ?_
  refine Ev.bindp hd ?_
  rintro ⟨x, y⟩ ⟨hx, hy⟩
  simp only at hx hy
  have stop : ∀ (a : Int) (z : List Int), Ev (fun k => laws_FnRows.j1 k more z a false a false true) true := fun a z => Ev.ret (fun k => by simp only [laws_FnRows.j1]; simp)
  have e1 := impl_pv x (by omega)
  have e2 := impl_pv y (by omega)
  have e3 := spec_pv x (by omega)
  have e4 := spec_pv y (by omega)
  have go : ∀ (a : Int × Bool), Ev (fun k => impl_CharValue.f k x y) a → Ev (fun k => spec_CharValue.f k x y) a → (a.2 = true → pvB x = true) → Ev (fun k => (impl_CharValue.f k x y).bind fun p => (spec_CharValue.f k x y).bind fun q => (if (p.2 != q.2) = true then (laws_FnRows.j1 k more x p.1 p.2 q.1 q.2 true) else (if p.1 = q.1 then (laws_FnRows.j1 k more x p.1 p.2 q.1 q.2 (!p.2)) else (laws_FnRows.j1 k more x p.1 p.2 q.1 q.2 true)))) true := by
    intro a hi hs hv
    refine Ev.bind hi (Ev.bind hs (Ev.neg (by simp) (Ev.pos rfl ?_)))
    obtain ⟨a, b⟩ := a
    cases b with
    | true => exact tail_ev x (hv rfl) more a true a true
    | false => exact stop a x
  cases hp : pvB x with
  | true =>
    rw [hp] at e1 e3
    cases hq : pvB y with
    | true =>
      have hc : pairChk x y = true := pv_cases (fun m => pairChk x m) (pv_cases (fun l => pts.all (fun m => pairChk l m)) pair_valid x hp) y hq
      unfold pairChk at hc
      split at hc
      · rename_i a ha
        exact go a (Ev.of (fun k => impl_CharValue.mono _ _ k) ha) (Ev.of (fun k => spec_CharValue.mono _ _ k) (by simpa using hc)) (fun _ => by assumption)
      · cases hc
    | false =>
      rw [hq] at e2 e4
      refine go (0, false) ?_ ?_ (fun h => by cases h)
      · unfold impl_CharValue.f
        exact Ev.bind e1 (Ev.pos rfl (Ev.bind e2 (Ev.neg (by simp) (Ev.ret (fun k => by simp only [impl_CharValue.j0]; rfl)))))
      · unfold spec_CharValue.f
        exact Ev.bind e3 (Ev.pos rfl (Ev.bind e4 (Ev.neg (by simp) (Ev.now _))))
  | false =>
    rw [hp] at e1 e3
    refine go (0, false) ?_ ?_ (fun h => by cases h)
    · unfold impl_CharValue.f
      exact Ev.bind e1 (Ev.neg (by simp) (Ev.ret (fun k => by simp only [impl_CharValue.j0]; rfl)))
    · unfold spec_CharValue.f
      exact Ev.bind e3 (Ev.neg (by simp) (Ev.now _))
end Go.Proofs.Ytkfeildndcdbaaa.Pure
