import Derived.Test.YtgcoeahglkpmpaaLgv
import Derived.Test.YtgcoeahglkpmpaaM2
/- What holds for each of the listed gluings holds for every gluing that passes the test. -/
namespace Go.Proofs.Ytgcoeahglkpmpaa.Lgl
open Go.Proofs.Ytgcoeahglkpmpaa.M Go.Proofs.Ytgcoeahglkpmpaa.Lgv
theorem gv_even (p : List Int) (h : gvB p = true) : p.length % 2 = 0 := by
  simp only [gvB, Bool.and_eq_true] at h
  exact even_of_all p h.2
theorem gv_cases (P : List Int → Bool) (h1 : (gls 1).all P = true) (h2 : (gls 2).all P = true) (h3 : (gls 3).all P = true) (h4 : (gls 4).all P = true) (h5 : (gls 5).all P = true)
    (p : List Int) (h : gvB p = true) : P p = true :=
  gl_cases P h1 h2 h3 h4 h5 p ((gvB_iff p).1 h).2 (gv_even p h) ((gvB_iff p).1 h).1
end Go.Proofs.Ytgcoeahglkpmpaa.Lgl
