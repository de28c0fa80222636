import Derived.Test.YtgcoeahglkpmpaaLparts
import Derived.Test.YtgcoeahglkpmpaaLpv
import Derived.Test.YtgcoeahglkpmpaaQ77
/- Conjugate partitions: the law, for every code. -/
namespace Go.Proofs.Ytgcoeahglkpmpaa.Pure
set_option linter.unusedVariables false
set_option linter.unusedSimpArgs false
open Go.RowKit Go.Proofs.Ytgcoeahglkpmpaa.Q Go.Proofs.YtgcoeahglkpmpaaW.PrintWords Go.Proofs.YtgcoeahglkpmpaaW.PrintLast Go.Proofs.Ytgcoeahglkpmpaa.M Go.Proofs.Ytgcoeahglkpmpaa.B Go.Proofs.Ytgcoeahglkpmpaa.Lpick Go.Proofs.Ytgcoeahglkpmpaa.Lparts Go.Proofs.Ytgcoeahglkpmpaa.Lpv

/-- the law behind the draw -/
def conjRest (k : Nat) (x : List Int) : Option Bool := (impl_PartsConj.f k x).bind fun p => (spec_PartsConj.f k x).bind fun q => if (p.2 != q.2) = true then laws_FnPartsConj.j0 k x p.1 p.2 q.1 q.2 true else (laws_sameInts.f k p.1 q.1).bind fun t => if t = true then laws_FnPartsConj.j0 k x p.1 p.2 q.1 q.2 (!p.2) else laws_FnPartsConj.j0 k x p.1 p.2 q.1 q.2 true
theorem conjRest_mono (x : List Int) : ∀ k, LeO (conjRest k x) (conjRest (k + 1) x) := by
  intro k
  have ih0 := laws_FnPartsConj.mono_l k
  unfold conjRest
  repeat' first
      | (with_reducible exact ih0 _ _ _ _ _ _)
      | (with_reducible exact impl_PartsConj.mono _ _)
      | (with_reducible exact laws_sameInts.mono _ _ _)
      | (with_reducible exact spec_PartsConj.mono _ _)
      | (with_reducible exact LeO.refl _)
      | (with_reducible exact LeO.none _)
      | (with_reducible refine LeO.ite ?_ ?_)
      | (with_reducible refine LeO.bind ?_ (fun _ => ?_))
theorem conj_valid : pts.all (fun l => conjRest 90 l == some true) = true := by decide +kernel
theorem FnPartsConj : laws_FnPartsConj.Pure := by
  intro l h1 h2 h3
  refine Ev.rounds ?_
  unfold laws_FnPartsConj.f
  by_cases hb : (l.length : Int) > 1048576
  · exact Ev.pos hb (Ev.now _)
  refine Ev.neg hb ?_
  have hd : EvP (fun k => spec_DrawPartsConj.f k l) (fun x => x.length ≤ 20) := by
    obtain ⟨b, hb, hrb⟩ := open_rb l h3
    unfold spec_DrawPartsConj.f
    refine EvP.bindc hb ?_
    refine EvP.bind (pick_p b 0 6 hrb (by omega) (by omega) (by omega) (by omega)) ?_
    rintro ⟨v, p'⟩ ⟨⟨v0, v1⟩, e⟩
    simp only at v0 v1 e
    subst e
    have e1 : wrap64 (1 + v) = 1 + v := wr _ (by omega) (by omega)
    simp only [e1]
    refine EvP.bind (parts_p b hrb _ (1 + v) (by omega) (by omega) (by omega) (by omega)) (fun r h => ?_)
    exact EvP.now h.1
  refine Ev.bindp hd ?_
  intro x hx
  cases hp : pvB x with
  | true =>
    have hc : conjRest 90 x = some true := by simpa using pv_cases (fun l => conjRest 90 l == some true) conj_valid x hp
    exact Ev.congr (fun k => show _ = conjRest k x from rfl) (Ev.of (conjRest_mono x) hc)
  | false =>
    have hs : Ev (fun k => spec_PartsConj.f k x) ([], false) := by
      unfold spec_PartsConj.f
      exact Ev.bind (Ev.same (spec_pv x (by omega)) hp) (Ev.neg (by simp) (Ev.now _))
    have hi : Ev (fun k => impl_PartsConj.f k x) ([], false) := by
      unfold impl_PartsConj.f
      exact Ev.bind (Ev.same (impl_pv x (by omega)) hp) (Ev.neg (by simp) (Ev.now _))
    refine Ev.bind hi ?_
    refine Ev.bind hs ?_
    refine Ev.neg (by simp) ?_
    have h0 : Ev (fun k => laws_sameInts.f k ([] : List Int) []) true := by
      unfold laws_sameInts.f
      exact Ev.pos rfl (Ev.ret (fun k => by simp only [laws_sameInts.l0]; rw [if_neg (by simp)]))
    refine Ev.bind h0 ?_
    refine Ev.pos rfl ?_
    refine Ev.step (fun k => by simp only [laws_FnPartsConj.j0]; rw [if_pos (by rfl), if_pos (by rfl)]) ?_
    exact Ev.bind h0 (Ev.now _)
end Go.Proofs.Ytgcoeahglkpmpaa.Pure
