import Derived.Test.YtkfeildndcdbaaaL1
import Derived.Test.YtkfeildndcdbaaaLpv
import Derived.Test.YtkfeildndcdbaaaQ10
/- Cuts and joins by a swap: the program answers as the reference, for all arguments. -/
namespace Go.Proofs.Ytkfeildndcdbaaa.Pure
set_option linter.unusedVariables false
set_option linter.unusedSimpArgs false
open Go.RowKit Go.Proofs.Ytkfeildndcdbaaa.Q Go.Proofs.YtkfeildndcdbaaaW.PrintWords Go.Proofs.YtkfeildndcdbaaaW.PrintLast Go.Proofs.Ytkfeildndcdbaaa.M Go.Proofs.Ytkfeildndcdbaaa.B Go.Proofs.Ytkfeildndcdbaaa.L1 Go.Proofs.Ytkfeildndcdbaaa.Lpv

def cutChk (x y : List Int) : Bool := match impl_CutJoin.f 500 x y with
  | some a => spec_CutJoin.f 500 x y == some a
  | none => false
theorem cut_valid : pts.all (fun x => pts.all (fun y => cutChk x y)) = true := by decide +kernel
theorem spec_cut_no (x y : List Int) (hx : x.length ≤ 1048576) (hy : y.length ≤ 1048576) (h : pvB x = false ∨ pvB y = false) : Ev (fun k => spec_CutJoin.f k x y) (-1) := by
  have e3 := spec_pv x (by omega)
  have e4 := spec_pv y (by omega)
  have stop : Ev (fun k => spec_CutJoin.j0 k x y true) (-1) := Ev.ret (fun k => by simp only [spec_CutJoin.j0]; rfl)
  unfold spec_CutJoin.f
  cases hp : pvB x with
  | false => rw [hp] at e3; exact Ev.bind e3 (Ev.neg (by simp) stop)
  | true =>
    rw [hp] at e3
    rcases h with h | h
    · rw [hp] at h; cases h
    · rw [h] at e4; exact Ev.bind e3 (Ev.pos rfl (Ev.bind e4 (Ev.neg (by simp) stop)))
theorem impl_cut_no (x y : List Int) (hx : x.length ≤ 1048576) (hy : y.length ≤ 1048576) (h : pvB x = false ∨ pvB y = false) : Ev (fun k => impl_CutJoin.f k x y) (-1) := by
  have e1 := impl_pv x (by omega)
  have e2 := impl_pv y (by omega)
  have stop : ∀ p, Ev (fun k => impl_CutJoin.j0 k y p true) (-1) := fun p => Ev.ret (fun k => by simp only [impl_CutJoin.j0]; rfl)
  unfold impl_CutJoin.f
  cases hp : pvB x with
  | false =>
    rw [hp] at e1
    have e5 : Ev (fun k => impl_ClassFirst.f k x) ([], false) := by unfold impl_ClassFirst.f; exact Ev.bind e1 (Ev.neg (by simp) (Ev.now _))
    exact Ev.bind e5 (Ev.neg (by simp) (stop _))
  | true =>
    rcases h with h | h
    · rw [hp] at h; cases h
    · rw [h] at e2
      have hf : pts.all (fun l => match impl_ClassFirst.f 100 l with | some a => a.2 | none => false) = true := by decide +kernel
      have hc := pv_cases _ hf x hp
      try simp only at hc
      split at hc
      · rename_i a ha
        refine Ev.bind (Ev.of (fun k => impl_ClassFirst.mono _ k) ha) ?_
        refine Ev.pos hc (Ev.bind e2 (Ev.neg (by simp) (stop _)))
      · cases hc
theorem FnExactCutJoin : laws_FnExactCutJoin.Pure := by
  intro l m h1 h2 h3 h4 h5 h6
  refine Ev.rounds ?_
  unfold laws_FnExactCutJoin.f
  by_cases hb : (l.length : Int) > 1048576
  · exact Ev.pos hb (Ev.now _)
  refine Ev.neg hb ?_
  by_cases hb2 : (m.length : Int) > 1048576
  · exact Ev.pos hb2 (Ev.now _)
  refine Ev.neg hb2 ?_
  have tl := toIntS l (by omega)
  have tm := toIntS m (by omega)
  have go : ∀ v, Ev (fun k => spec_CutJoin.f k l m) v → Ev (fun k => impl_CutJoin.f k l m) v → Ev (fun k => (laws_toIntS.f k l).bind fun t866 => ((laws_toIntS.f k m).bind fun t869 => ((spec_CutJoin.f k t866 t869).bind fun t872 => ((laws_toIntS.f k l).bind fun t873 => ((laws_toIntS.f k m).bind fun t876 => ((impl_CutJoin.f k t873 t876).bind fun t879 => (if t879 = t872 then ((laws_toIntS.f k l).bind fun t880 => ((laws_eqIntS.f k t873 t880).bind fun t883 => (if t883 = true then ((laws_toIntS.f k m).bind fun t884 => ((laws_eqIntS.f k t876 t884).bind fun t887 => (if t887 = true then (some true) else (some false)))) else (some false)))) else (some false)))))))) true := by
    intro v hs hi
    refine Ev.bind tl (Ev.bind tm (Ev.bind hs (Ev.bind tl (Ev.bind tm (Ev.bind hi (Ev.pos rfl ?_))))))
    refine Ev.bind tl (Ev.bind (eqIntS_self l (by omega)) (Ev.pos rfl ?_))
    exact Ev.bind tm (Ev.bind (eqIntS_self m (by omega)) (Ev.pos rfl (Ev.now _)))
  cases hp : pvB l with
  | false => exact go (-1) (spec_cut_no l m (by omega) (by omega) (.inl hp)) (impl_cut_no l m (by omega) (by omega) (.inl hp))
  | true =>
    cases hq : pvB m with
    | false => exact go (-1) (spec_cut_no l m (by omega) (by omega) (.inr hq)) (impl_cut_no l m (by omega) (by omega) (.inr hq))
    | true =>
      have hc : cutChk l m = true := pv_cases (fun y => cutChk l y) (pv_cases (fun x => pts.all (fun y => cutChk x y)) cut_valid l hp) m hq
      unfold cutChk at hc
      split at hc
      · rename_i a ha
        exact go a (Ev.of (fun k => spec_CutJoin.mono _ _ k) (by simpa using hc)) (Ev.of (fun k => impl_CutJoin.mono _ _ k) ha)
      · cases hc
end Go.Proofs.Ytkfeildndcdbaaa.Pure
