import Derived.Test.YtehlokjlcbegoaaLfc
import Derived.Test.YtehlokjlcbegoaaLalg
/- The class algebras' tables of one to six points: what the program reckons stands in them, and they close. -/
namespace Go.Proofs.Ytehlokjlcbegoaa.Ltab
set_option linter.unusedVariables false
set_option linter.unusedSimpArgs false
open Go.RowKit Go.Proofs.YtehlokjlcbegoaaW.PrintWords Go.Proofs.YtehlokjlcbegoaaW.PrintMore Go.Proofs.Ytehlokjlcbegoaa.Q Go.Proofs.Ytehlokjlcbegoaa.M Go.Proofs.Ytehlokjlcbegoaa.B Go.Proofs.Ytehlokjlcbegoaa.L1 Go.Proofs.Ytehlokjlcbegoaa.Lpv Go.Proofs.Ytehlokjlcbegoaa.Ltyp Go.Proofs.Ytehlokjlcbegoaa.Lfc Go.Proofs.Ytehlokjlcbegoaa.Alg

structure Tab where
  m : Nat
  F : Int
  D : List Int
  K : List Int
  W : List (List Int)
  C : List (List (List Int))
def tab : Nat → Tab
  | 1 => { m := 1, F := 1, D := [1], K := [1], W := [[1]], C := [[[1]]] }
  | 2 => { m := 2, F := 2, D := [1, 1], K := [1, 1], W := [[1, 1], [-1, 1]], C := [[[0, 1], [1, 0]], [[1, 0], [0, 1]]] }
  | 3 => { m := 3, F := 6, D := [1, 2, 1], K := [2, 3, 1], W := [[2, 3, 1], [-1, 0, 1], [2, -3, 1]], C := [[[1, 0, 2], [0, 2, 0], [1, 0, 0]], [[0, 2, 0], [3, 0, 3], [0, 1, 0]], [[1, 0, 0], [0, 1, 0], [0, 0, 1]]] }
  | 4 => { m := 5, F := 24, D := [1, 3, 2, 3, 1], K := [6, 8, 3, 6, 1], W := [[6, 8, 3, 6, 1], [-2, 0, -1, 2, 1], [0, -4, 3, 0, 1], [2, 0, -1, -2, 1], [-6, 8, 3, -6, 1]], C := [[[0, 3, 2, 0, 6], [4, 0, 0, 4, 0], [1, 0, 0, 2, 0], [0, 3, 4, 0, 0], [1, 0, 0, 0, 0]], [[4, 0, 0, 4, 0], [0, 4, 8, 0, 8], [0, 3, 0, 0, 0], [4, 0, 0, 4, 0], [0, 1, 0, 0, 0]], [[1, 0, 0, 2, 0], [0, 3, 0, 0, 0], [0, 0, 2, 0, 3], [2, 0, 0, 1, 0], [0, 0, 1, 0, 0]], [[0, 3, 4, 0, 0], [4, 0, 0, 4, 0], [2, 0, 0, 1, 0], [0, 3, 2, 0, 6], [0, 0, 0, 1, 0]], [[1, 0, 0, 0, 0], [0, 1, 0, 0, 0], [0, 0, 1, 0, 0], [0, 0, 0, 1, 0], [0, 0, 0, 0, 1]]] }
  | 5 => { m := 7, F := 120, D := [1, 4, 5, 6, 5, 4, 1], K := [24, 30, 20, 20, 15, 10, 1], W := [[24, 30, 20, 20, 15, 10, 1], [-6, 0, -5, 5, 0, 5, 1], [0, -6, 4, -4, 3, 2, 1], [4, 0, 0, 0, -5, 0, 1], [0, 6, -4, -4, 3, -2, 1], [-6, 0, 5, 5, 0, -5, 1], [24, -30, -20, 20, 15, -10, 1]], C := [[[8, 0, 0, 12, 8, 0, 24], [0, 12, 12, 0, 0, 12, 0], [0, 8, 6, 0, 0, 12, 0], [10, 0, 0, 6, 8, 0, 0], [5, 0, 0, 6, 8, 0, 0], [0, 4, 6, 0, 0, 0, 0], [1, 0, 0, 0, 0, 0, 0]], [[0, 12, 12, 0, 0, 12, 0], [15, 0, 0, 12, 18, 0, 30], [10, 0, 0, 12, 8, 0, 0], [0, 8, 12, 0, 0, 12, 0], [0, 9, 6, 0, 0, 6, 0], [5, 0, 0, 6, 4, 0, 0], [0, 1, 0, 0, 0, 0, 0]], [[0, 8, 6, 0, 0, 12, 0], [10, 0, 0, 12, 8, 0, 0], [5, 0, 0, 7, 8, 0, 20], [0, 8, 7, 0, 0, 2, 0], [0, 4, 6, 0, 0, 6, 0], [5, 0, 0, 1, 4, 0, 0], [0, 0, 1, 0, 0, 0, 0]], [[10, 0, 0, 6, 8, 0, 0], [0, 8, 12, 0, 0, 12, 0], [0, 8, 7, 0, 0, 2, 0], [5, 0, 0, 7, 8, 0, 20], [5, 0, 0, 6, 4, 0, 0], [0, 4, 1, 0, 0, 6, 0], [0, 0, 0, 1, 0, 0, 0]], [[5, 0, 0, 6, 8, 0, 0], [0, 9, 6, 0, 0, 6, 0], [0, 4, 6, 0, 0, 6, 0], [5, 0, 0, 6, 4, 0, 0], [5, 0, 0, 3, 2, 0, 15], [0, 2, 3, 0, 0, 3, 0], [0, 0, 0, 0, 1, 0, 0]], [[0, 4, 6, 0, 0, 0, 0], [5, 0, 0, 6, 4, 0, 0], [5, 0, 0, 1, 4, 0, 0], [0, 4, 1, 0, 0, 6, 0], [0, 2, 3, 0, 0, 3, 0], [0, 0, 0, 3, 2, 0, 10], [0, 0, 0, 0, 0, 1, 0]], [[1, 0, 0, 0, 0, 0, 0], [0, 1, 0, 0, 0, 0, 0], [0, 0, 1, 0, 0, 0, 0], [0, 0, 0, 1, 0, 0, 0], [0, 0, 0, 0, 1, 0, 0], [0, 0, 0, 0, 0, 1, 0], [0, 0, 0, 0, 0, 0, 1]]] }
  | 6 => { m := 11, F := 720, D := [1, 5, 9, 10, 5, 16, 10, 5, 9, 5, 1], K := [120, 144, 90, 90, 40, 120, 40, 15, 45, 15, 1], W := [[120, 144, 90, 90, 40, 120, 40, 15, 45, 15, 1], [-24, 0, -18, 18, -8, 0, 16, -3, 9, 9, 1], [0, -16, 10, -10, 0, 0, 0, 5, 5, 5, 1], [12, 0, 0, 0, 4, -12, 4, -3, -9, 3, 1], [0, 0, -18, -18, 16, 24, -8, -9, 9, 3, 1], [0, 9, 0, 0, -5, 0, -5, 0, 0, 0, 1], [-12, 0, 0, 0, 4, 12, 4, 3, -9, -3, 1], [0, 0, -18, 18, 16, -24, -8, 9, 9, -3, 1], [0, -16, 10, 10, 0, 0, 0, -5, 5, -5, 1], [24, 0, -18, -18, -8, 0, 16, 3, 9, -9, 1], [-120, 144, 90, -90, 40, -120, 40, -15, 45, -15, 1]], C := [[[0, 40, 32, 0, 36, 0, 60, 0, 40, 0, 120], [48, 0, 0, 48, 0, 48, 0, 48, 0, 48, 0], [24, 0, 0, 36, 0, 30, 0, 24, 0, 48, 0], [0, 30, 36, 0, 36, 0, 18, 0, 24, 0, 0], [12, 0, 0, 16, 0, 12, 0, 8, 0, 24, 0], [0, 40, 40, 0, 36, 0, 36, 0, 48, 0, 0], [20, 0, 0, 8, 0, 12, 0, 16, 0, 0, 0], [0, 5, 4, 0, 3, 0, 6, 0, 8, 0, 0], [15, 0, 0, 12, 0, 18, 0, 24, 0, 0, 0], [0, 5, 8, 0, 9, 0, 0, 0, 0, 0, 0], [1, 0, 0, 0, 0, 0, 0, 0, 0, 0, 0]], [[48, 0, 0, 48, 0, 48, 0, 48, 0, 48, 0], [0, 53, 64, 0, 54, 0, 54, 0, 64, 0, 144], [0, 40, 32, 0, 36, 0, 36, 0, 32, 0, 0], [36, 0, 0, 32, 0, 36, 0, 48, 0, 48, 0], [0, 15, 16, 0, 18, 0, 18, 0, 16, 0, 0], [48, 0, 0, 48, 0, 48, 0, 48, 0, 48, 0], [0, 15, 16, 0, 18, 0, 18, 0, 16, 0, 0], [6, 0, 0, 8, 0, 6, 0, 0, 0, 0, 0], [0, 20, 16, 0, 18, 0, 18, 0, 16, 0, 0], [6, 0, 0, 8, 0, 6, 0, 0, 0, 0, 0], [0, 1, 0, 0, 0, 0, 0, 0, 0, 0, 0]], [[24, 0, 0, 36, 0, 30, 0, 24, 0, 48, 0], [0, 40, 32, 0, 36, 0, 36, 0, 32, 0, 0], [0, 20, 16, 0, 27, 0, 27, 0, 34, 0, 90], [27, 0, 0, 16, 0, 27, 0, 6, 0, 6, 0], [0, 10, 12, 0, 0, 0, 18, 0, 8, 0, 0], [30, 0, 0, 36, 0, 24, 0, 48, 0, 24, 0], [0, 10, 12, 0, 18, 0, 0, 0, 8, 0, 0], [3, 0, 0, 1, 0, 6, 0, 0, 0, 12, 0], [0, 10, 17, 0, 9, 0, 9, 0, 8, 0, 0], [6, 0, 0, 1, 0, 3, 0, 12, 0, 0, 0], [0, 0, 1, 0, 0, 0, 0, 0, 0, 0, 0]], [[0, 30, 36, 0, 36, 0, 18, 0, 24, 0, 0], [36, 0, 0, 32, 0, 36, 0, 48, 0, 48, 0], [27, 0, 0, 16, 0, 27, 0, 6, 0, 6, 0], [0, 20, 16, 0, 27, 0, 27, 0, 34, 0, 90], [12, 0, 0, 12, 0, 6, 0, 24, 0, 0, 0], [0, 30, 36, 0, 18, 0, 36, 0, 24, 0, 0], [6, 0, 0, 12, 0, 12, 0, 0, 0, 24, 0], [0, 5, 1, 0, 9, 0, 0, 0, 4, 0, 0], [9, 0, 0, 17, 0, 9, 0, 12, 0, 12, 0], [0, 5, 1, 0, 0, 0, 9, 0, 4, 0, 0], [0, 0, 0, 1, 0, 0, 0, 0, 0, 0, 0]], [[12, 0, 0, 16, 0, 12, 0, 8, 0, 24, 0], [0, 15, 16, 0, 18, 0, 18, 0, 16, 0, 0], [0, 10, 12, 0, 0, 0, 18, 0, 8, 0, 0], [12, 0, 0, 12, 0, 6, 0, 24, 0, 0, 0], [0, 5, 0, 0, 10, 0, 2, 0, 8, 0, 40], [12, 0, 0, 8, 0, 20, 0, 0, 0, 16, 0], [0, 5, 8, 0, 2, 0, 2, 0, 0, 0, 0], [1, 0, 0, 4, 0, 0, 0, 8, 0, 0, 0], [0, 5, 4, 0, 9, 0, 0, 0, 8, 0, 0], [3, 0, 0, 0, 0, 2, 0, 0, 0, 0, 0], [0, 0, 0, 0, 1, 0, 0, 0, 0, 0, 0]], [[0, 40, 40, 0, 36, 0, 36, 0, 48, 0, 0], [48, 0, 0, 48, 0, 48, 0, 48, 0, 48, 0], [30, 0, 0, 36, 0, 24, 0, 48, 0, 24, 0], [0, 30, 36, 0, 18, 0, 36, 0, 24, 0, 0], [12, 0, 0, 8, 0, 20, 0, 0, 0, 16, 0], [0, 40, 32, 0, 60, 0, 36, 0, 40, 0, 120], [12, 0, 0, 16, 0, 12, 0, 24, 0, 8, 0], [0, 5, 8, 0, 0, 0, 9, 0, 0, 0, 0], [18, 0, 0, 12, 0, 15, 0, 0, 0, 24, 0], [0, 5, 4, 0, 6, 0, 3, 0, 8, 0, 0], [0, 0, 0, 0, 0, 1, 0, 0, 0, 0, 0]], [[20, 0, 0, 8, 0, 12, 0, 16, 0, 0, 0], [0, 15, 16, 0, 18, 0, 18, 0, 16, 0, 0], [0, 10, 12, 0, 18, 0, 0, 0, 8, 0, 0], [6, 0, 0, 12, 0, 12, 0, 0, 0, 24, 0], [0, 5, 8, 0, 2, 0, 2, 0, 0, 0, 0], [12, 0, 0, 16, 0, 12, 0, 24, 0, 8, 0], [0, 5, 0, 0, 2, 0, 10, 0, 8, 0, 40], [2, 0, 0, 0, 0, 3, 0, 0, 0, 0, 0], [0, 5, 4, 0, 0, 0, 9, 0, 8, 0, 0], [0, 0, 0, 4, 0, 1, 0, 0, 0, 8, 0], [0, 0, 0, 0, 0, 0, 1, 0, 0, 0, 0]], [[0, 5, 4, 0, 3, 0, 6, 0, 8, 0, 0], [6, 0, 0, 8, 0, 6, 0, 0, 0, 0, 0], [3, 0, 0, 1, 0, 6, 0, 0, 0, 12, 0], [0, 5, 1, 0, 9, 0, 0, 0, 4, 0, 0], [1, 0, 0, 4, 0, 0, 0, 8, 0, 0, 0], [0, 5, 8, 0, 0, 0, 9, 0, 0, 0, 0], [2, 0, 0, 0, 0, 3, 0, 0, 0, 0, 0], [0, 0, 0, 0, 3, 0, 0, 0, 2, 0, 15], [3, 0, 0, 2, 0, 0, 0, 6, 0, 3, 0], [0, 0, 2, 0, 0, 0, 0, 0, 1, 0, 0], [0, 0, 0, 0, 0, 0, 0, 1, 0, 0, 0]], [[15, 0, 0, 12, 0, 18, 0, 24, 0, 0, 0], [0, 20, 16, 0, 18, 0, 18, 0, 16, 0, 0], [0, 10, 17, 0, 9, 0, 9, 0, 8, 0, 0], [9, 0, 0, 17, 0, 9, 0, 12, 0, 12, 0], [0, 5, 4, 0, 9, 0, 0, 0, 8, 0, 0], [18, 0, 0, 12, 0, 15, 0, 0, 0, 24, 0], [0, 5, 4, 0, 0, 0, 9, 0, 8, 0, 0], [3, 0, 0, 2, 0, 0, 0, 6, 0, 3, 0], [0, 5, 4, 0, 9, 0, 9, 0, 4, 0, 45], [0, 0, 0, 2, 0, 3, 0, 3, 0, 6, 0], [0, 0, 0, 0, 0, 0, 0, 0, 1, 0, 0]], [[0, 5, 8, 0, 9, 0, 0, 0, 0, 0, 0], [6, 0, 0, 8, 0, 6, 0, 0, 0, 0, 0], [6, 0, 0, 1, 0, 3, 0, 12, 0, 0, 0], [0, 5, 1, 0, 0, 0, 9, 0, 4, 0, 0], [3, 0, 0, 0, 0, 2, 0, 0, 0, 0, 0], [0, 5, 4, 0, 6, 0, 3, 0, 8, 0, 0], [0, 0, 0, 4, 0, 1, 0, 0, 0, 8, 0], [0, 0, 2, 0, 0, 0, 0, 0, 1, 0, 0], [0, 0, 0, 2, 0, 3, 0, 3, 0, 6, 0], [0, 0, 0, 0, 0, 0, 3, 0, 2, 0, 15], [0, 0, 0, 0, 0, 0, 0, 0, 0, 1, 0]], [[1, 0, 0, 0, 0, 0, 0, 0, 0, 0, 0], [0, 1, 0, 0, 0, 0, 0, 0, 0, 0, 0], [0, 0, 1, 0, 0, 0, 0, 0, 0, 0, 0], [0, 0, 0, 1, 0, 0, 0, 0, 0, 0, 0], [0, 0, 0, 0, 1, 0, 0, 0, 0, 0, 0], [0, 0, 0, 0, 0, 1, 0, 0, 0, 0, 0], [0, 0, 0, 0, 0, 0, 1, 0, 0, 0, 0], [0, 0, 0, 0, 0, 0, 0, 1, 0, 0, 0], [0, 0, 0, 0, 0, 0, 0, 0, 1, 0, 0], [0, 0, 0, 0, 0, 0, 0, 0, 0, 1, 0], [0, 0, 0, 0, 0, 0, 0, 0, 0, 0, 1]]] }
  | _ => { m := 0, F := 1, D := [], K := [], W := [], C := [] }
def Tab.d (T : Tab) (i : Nat) : Int := nth T.D i
def Tab.k (T : Tab) (i : Nat) : Int := nth T.K i
def Tab.w (T : Tab) (i j : Nat) : Int := nth (nth T.W i) j
def Tab.c (T : Tab) (t u v : Nat) : Int := nth (nth (nth T.C t) u) v
def closes (T : Tab) : Bool := decide (0 < T.F) && decide (0 < T.m) &&
  ((List.range T.m).all fun t => (List.range T.m).all fun u => (List.range T.m).all fun s => T.w s t * T.w s u == sumL (List.range T.m) fun v => T.c t u v * T.w s v) &&
  ((List.range T.m).all fun u => (List.range T.m).all fun v => sumL (List.range T.m) (fun s => T.d s * T.d s * (T.w s u * T.w s v)) == if u = v then T.F * T.k v else 0) &&
  ((List.range T.m).all fun t => T.w 0 t == T.k t) && ((List.range T.m).all fun s => T.w s (T.m - 1) == 1)
theorem closes_all : [1, 2, 3, 4, 5, 6].all (fun n => closes (tab n)) = true := by decide +kernel
theorem closes_is (T : Tab) (h : closes T = true) : Alg.Tables (List.range T.m) T.F T.d T.w T.k (T.m - 1) 0 T.c := by
  simp only [closes, Bool.and_eq_true, decide_eq_true_eq, List.all_eq_true, List.mem_range, beq_iff_eq] at h
  obtain ⟨⟨⟨⟨⟨h1, h2⟩, h3⟩, h4⟩, h5⟩, h6⟩ := h
  refine ⟨h1, List.nodup_range, by simp; omega, by simp; omega, ?_, ?_, ?_, ?_⟩
  · intro t ht u hu s hs; exact h3 t (by simpa using ht) u (by simpa using hu) s (by simpa using hs)
  · intro u hu v hv; exact h4 u (by simpa using hu) v (by simpa using hv)
  · intro t ht; exact h5 t (by simpa using ht)
  · intro s hs; exact h6 s (by simpa using hs)
def small (x b : Int) : Bool := decide (-b ≤ x ∧ x ≤ b)
def linkB (n : Nat) : Bool := ((shp (n : Int)).length == (tab n).m) && (fct (n : Int) == (tab n).F) && decide ((tab n).m ≤ 11) && (nth (shp (n : Int)) ((tab n).m - 1) == List.replicate n 1) &&
  ((List.range (tab n).m).all fun i => (deg (nth (shp (n : Int)) i) == (tab n).d i) && (csz (nth (shp (n : Int)) i) == (tab n).k i) && small ((tab n).d i * (tab n).d i) 256 && small ((tab n).k i) 144) &&
  ((List.range (tab n).m).all fun i => (List.range (tab n).m).all fun j => (om (nth (shp (n : Int)) i) (nth (shp (n : Int)) j) == (tab n).w i j) && small ((tab n).w i j) 144)
theorem link_all : [1, 2, 3, 4, 5, 6].all linkB = true := by decide +kernel
theorem in_shp : (pts.all fun x => (shp (sumI x)).contains x) = true := by decide +kernel
structure Link (n : Nat) : Prop where
  len : (shp (n : Int)).length = (tab n).m
  F : fct (n : Int) = (tab n).F
  few : (tab n).m ≤ 11
  last : nth (shp (n : Int)) ((tab n).m - 1) = List.replicate n 1
  d : ∀ i, i < (tab n).m → deg (nth (shp (n : Int)) i) = (tab n).d i ∧ csz (nth (shp (n : Int)) i) = (tab n).k i ∧ ((tab n).d i * (tab n).d i).natAbs ≤ 256 ∧ ((tab n).k i).natAbs ≤ 144
  w : ∀ i, i < (tab n).m → ∀ j, j < (tab n).m → om (nth (shp (n : Int)) i) (nth (shp (n : Int)) j) = (tab n).w i j ∧ ((tab n).w i j).natAbs ≤ 144
  alg : Alg.Tables (List.range (tab n).m) (tab n).F (tab n).d (tab n).w (tab n).k ((tab n).m - 1) 0 (tab n).c
theorem link (n : Nat) (h : 1 ≤ n ∧ n ≤ 6) : Link n := by
  have hm : n ∈ [1, 2, 3, 4, 5, 6] := by
    have : n = 1 ∨ n = 2 ∨ n = 3 ∨ n = 4 ∨ n = 5 ∨ n = 6 := by omega
    rcases this with rfl | rfl | rfl | rfl | rfl | rfl <;> decide
  have h1 := List.all_eq_true.1 link_all n hm
  have h2 := closes_is _ (List.all_eq_true.1 closes_all n hm)
  simp only [linkB, small, Bool.and_eq_true, beq_iff_eq, decide_eq_true_eq, List.all_eq_true, List.mem_range] at h1
  obtain ⟨⟨⟨⟨⟨a1, a2⟩, a3⟩, a4⟩, a5⟩, a6⟩ := h1
  refine ⟨a1, a2, a3, a4, fun i hi => ?_, fun i hi j hj => ?_, h2⟩
  · obtain ⟨⟨⟨b1, b2⟩, b3⟩, b4⟩ := a5 i hi
    exact ⟨b1, b2, by omega, by omega⟩
  · obtain ⟨b1, b2⟩ := a6 i hi j hj
    exact ⟨b1, by omega⟩
/-- the place of a partition -/
def ix (n : Nat) (x : List Int) : Nat := (shp (n : Int)).idxOf x
theorem ix_is {n : Nat} (hn : 1 ≤ n ∧ n ≤ 6) (x : List Int) (h : pvB x = true ∧ sumI x = (n : Int)) : ix n x < (tab n).m ∧ nth (shp (n : Int)) (ix n x) = x := by
  have h1 := pv_cases (fun x => (shp (sumI x)).contains x) in_shp x h.1
  simp only [h.2] at h1
  have hm : x ∈ shp (n : Int) := by simpa using h1
  have hl : ix n x < (shp (n : Int)).length := List.idxOf_lt_length_iff.2 hm
  refine ⟨by rw [← (link n hn).len]; exact hl, ?_⟩
  rw [nth_lt _ _ hl]
  exact List.getElem_idxOf hl
/-- no number leaves its range -/
theorem mul_small (x y : Int) (a b : Nat) (hx : x.natAbs ≤ a) (hy : y.natAbs ≤ b) : (x * y).natAbs ≤ a * b := by
  rw [Int.natAbs_mul]; exact Nat.mul_le_mul hx hy
theorem pow_small (i : Nat) (h : i ≤ 6) : 256 * 144 ^ i ≤ 2282521714753536 := by
  have : i = 0 ∨ i = 1 ∨ i = 2 ∨ i = 3 ∨ i = 4 ∨ i = 5 ∨ i = 6 := by omega
  rcases this with rfl | rfl | rfl | rfl | rfl | rfl | rfl <;> decide
def Row (n : Nat) (l : List (List Int)) : Prop := ∀ x ∈ l, pvB x = true ∧ sumI x = (n : Int)
theorem pl_is {n : Nat} (hn : 1 ≤ n ∧ n ≤ 6) (l : List (List Int)) (hl : Row n l) (h6 : l.length ≤ 6) (si : Nat) (hs : si < (tab n).m) : ∀ (d i : Nat) (x : Int), i + d = l.length → x.natAbs ≤ 256 * 144 ^ i →
    pl l (nth (shp (n : Int)) si) d i x = x * prodL ((l.drop i).map (ix n)) ((tab n).w si) ∧ (pl l (nth (shp (n : Int)) si) d i x).natAbs ≤ 2282521714753536 := by
  intro d
  induction d with
  | zero =>
    intro i x h1 h2
    have := pow_small i (by omega)
    rw [List.drop_eq_nil_of_le (by omega)]
    refine ⟨by show x = x * 1; omega, by show x.natAbs ≤ _; omega⟩
  | succ d ih =>
    intro i x h1 h2
    obtain ⟨g1, g2⟩ := ix_is hn _ (hl _ (nth_mem l i (by omega)))
    obtain ⟨w1, w2⟩ := (link n hn).w si hs _ g1
    rw [g2] at w1
    have hb := mul_small x _ _ _ h2 w2
    have hp : 256 * 144 ^ i * 144 = 256 * 144 ^ (i + 1) := by rw [Nat.pow_succ, Nat.mul_assoc]
    have hq := pow_small (i + 1) (by omega)
    rw [hp] at hb
    simp only [pl]
    rw [w1, wr _ (by omega) (by omega)]
    obtain ⟨r1, r2⟩ := ih (i + 1) _ (by omega) hb
    refine ⟨?_, r2⟩
    rw [r1, drop_nth l i (by omega), List.map_cons, prodL_cons, Int.mul_assoc]
def ts (n : Nat) (l : List (List Int)) : List Nat := l.map (ix n)
theorem sl_is {n : Nat} (hn : 1 ≤ n ∧ n ≤ 6) (l : List (List Int)) (hl : Row n l) (h6 : l.length ≤ 6) : ∀ (d j : Nat) (x : Int), j + d = (tab n).m → x.natAbs ≤ j * 2282521714753536 →
    sl l (shp (n : Int)) d j x = x + sumL ((List.range (tab n).m).drop j) (fun s => (tab n).d s * (tab n).d s * prodL (ts n l) ((tab n).w s)) ∧ (sl l (shp (n : Int)) d j x).natAbs ≤ 25107738862288896 := by
  have hf := (link n hn).few
  intro d
  induction d with
  | zero =>
    intro j x h1 h2
    rw [List.drop_eq_nil_of_le (by simp; omega)]
    refine ⟨by show x = x + 0; omega, ?_⟩
    show x.natAbs ≤ _
    have : j * 2282521714753536 ≤ 11 * 2282521714753536 := Nat.mul_le_mul_right _ (by omega)
    omega
  | succ d ih =>
    intro j x h1 h2
    obtain ⟨d1, _, d3, _⟩ := (link n hn).d j (by omega)
    obtain ⟨p1, p2⟩ := pl_is hn l hl h6 j (by omega) l.length 0 ((tab n).d j * (tab n).d j) (by omega) (by simpa using d3)
    have hj : j * 2282521714753536 ≤ 11 * 2282521714753536 := Nat.mul_le_mul_right _ (by omega)
    have hs : (j + 1) * 2282521714753536 = j * 2282521714753536 + 2282521714753536 := by rw [Nat.add_mul, Nat.one_mul]
    simp only [sl]
    rw [d1, wr ((tab n).d j * (tab n).d j) (by omega) (by omega)]
    generalize hv : pl l (nth (shp (n : Int)) j) l.length 0 ((tab n).d j * (tab n).d j) = v at p1 p2
    rw [wr (x + v) (by omega) (by omega)]
    obtain ⟨r1, r2⟩ := ih (j + 1) (x + v) (by omega) (by omega)
    refine ⟨?_, r2⟩
    rw [r1, drop_nth (List.range (tab n).m) j (by simp; omega), sumL_cons, nth_range _ _ (by omega), p1, List.drop_zero]
    show _ = x + ((tab n).d j * (tab n).d j * prodL (l.map (ix n)) ((tab n).w j) + _)
    omega
/-- the count, by the tables -/
def cv (n : Nat) (l : List (List Int)) : Int := Int.tdiv (Alg.S (List.range (tab n).m) (tab n).d (tab n).w (ts n l)) (tab n).F
theorem cnt_is {n : Nat} (hn : 1 ≤ n ∧ n ≤ 6) (l : List (List Int)) (hl : Row n l) (h6 : 1 ≤ l.length ∧ l.length ≤ 6) : cnt l = cv n l ∧ (cv n l).natAbs ≤ 25107738862288896 := by
  have h0 := (hl _ (nth_mem l 0 (by omega))).2
  have ht : tyB l = true := (tyB_iff l).2 ⟨h6, fun i hi => by
    have := hl _ (nth_mem l i hi)
    exact ⟨this.1, by rw [this.2, h0]⟩⟩
  obtain ⟨s1, s2⟩ := sl_is hn l hl h6.2 (tab n).m 0 0 (by omega) (by simp)
  have e : sl l (shp (n : Int)) (tab n).m 0 0 = Alg.S (List.range (tab n).m) (tab n).d (tab n).w (ts n l) := by rw [s1, List.drop_zero, Int.zero_add]; rfl
  rw [e] at s2
  have hq : (cv n l).natAbs ≤ 25107738862288896 := by
    unfold cv
    rw [Int.natAbs_tdiv]
    exact Nat.le_trans (Nat.div_le_self _ _) s2
  refine ⟨?_, hq⟩
  unfold cnt
  rw [if_pos ht, h0, (link n hn).len, (link n hn).F, e]
  exact wr _ (by unfold cv at hq; omega) (by unfold cv at hq; omega)
end Go.Proofs.Ytehlokjlcbegoaa.Ltab
