import Derived.Test.YtonlecigglbohaaQ0
import Derived.Test.YtonlecigglbohaaQ3
import Derived.Test.YtonlecigglbohaaQ7
import Derived.Test.YtonlecigglbohaaZ
namespace Go.Proofs.Ytonlecigglbohaa.Q
open Go.RowKit Go.Proofs.YtonlecigglbohaaW.PrintWords Go.Proofs.YtonlecigglbohaaW.PrintLast Go.Proofs.YtonlecigglbohaaW.PrintMore
attribute [local go_sem] max2_int min2_int max_two min_two max_three min_three max_four min_four   -- for this text's walks alone
set_option linter.unusedVariables false
set_option linter.unusedSimpArgs false

/-! ### spec_l91Map: function 93 (a section of my own) -/
mutual
def spec_l91Map.l0:Nat→Int→List Int→List Int→Int→List Int→Int→Option (List Int × List Int × Int)
 | 0,_,_,_,_,_,_=>none
 | k+1,x5,x6,x7,x8,x1000,x1001=>if (wrap64 (x8+1)) < x5 then (if 0≤x8 then (if x8 < (x6.length:Int) then (if 0≤(wrap64 (x8+1)) then (if (wrap64 (x8+1)) < (x6.length:Int) then (if 0≤(rd x6 x8) then (if (rd x6 x8) < (x7.length:Int) then (if 0≤(rd x6 (wrap64 (x8+1))) then (if (rd x6 (wrap64 (x8+1))) < (x7.length:Int) then (spec_l91Map.l0 k x5 x6 ((x7.set ((rd x6 x8):Int).toNat (rd x6 (wrap64 (x8+1)))).set ((rd x6 (wrap64 (x8+1))):Int).toNat (rd x6 x8)) (wrap64 (x8+2)) x1000 x1001) else (none)) else (none)) else (none)) else (none)) else (none)) else (none)) else (none)) else (none)) else ((spec_l91Perm.f k x1000 x1001 x5).bind fun bt543=>(spec_l91Map.l1 k x5 0 x1000 bt543.2 bt543.1 x7))
def spec_l91Map.l1:Nat→Int→Int→List Int→Int→List Int→List Int→Option (List Int × List Int × Int)
 | 0,_,_,_,_,_,_=>none
 | k+1,x5,x10,x1000,x1001,x548000,x548001=>if x10 < x5 then ((spec_MapValid.f k x548000 x548001).bind fun t548=>(spec_l91Map.j2 k x5 x10 (!t548) x1000 x1001 x548000 x548001)) else (spec_l91Map.j2 k x5 x10 false x1000 x1001 x548000 x548001)
def spec_l91Map.j2:Nat→Int→Int→Bool→List Int→Int→List Int→List Int→Option (List Int × List Int × Int)
 | 0,_,_,_,_,_,_,_=>none
 | k+1,x5,x10,x64,x1000,x1001,x548000,x548001=>if x64 = true then ((spec_l1Orbits.f k x548000 x548001).bind fun t549=>(spec_l91Map.l2 k x5 x10 t549 0 x1000 x1001 x548000 x548001)) else ((spec_l6Rd_pick.f k x1000 x1001 50).bind fun bt557=>(if bt557.1 = 0 then (if 0 < (x548001.length:Int) then (some (x548000,(x548001.set (0:Int).toNat 0),bt557.2)) else (none)) else (if bt557.1 = 1 then (if 1≤(x548000.length:Int) then (some ((x548000.drop (1:Int).toNat),x548001,bt557.2)) else (none)) else (if bt557.1 = 2 then (if 0 < (x548000.length:Int) then (some ((x548000.set (0:Int).toNat x5),x548001,bt557.2)) else (none)) else (some (x548000,x548001,bt557.2))))))
def spec_l91Map.l2:Nat→Int→Int→List Int→Int→List Int→Int→List Int→List Int→Option (List Int × List Int × Int)
 | 0,_,_,_,_,_,_,_,_=>none
 | k+1,x5,x10,x11,x12,x1000,x1001,x548000,x548001=>if 0≤x12 then (if x12 < (x11.length:Int) then (if (rd x11 x12) = 0 then (spec_l91Map.l2 k x5 x10 x11 (wrap64 (x12+1)) x1000 x1001 x548000 x548001) else (if 0 < (x548000.length:Int) then (if x12 < (x548000.length:Int) then (spec_l91Map.l1 k x5 (wrap64 (x10+1)) x1000 x1001 ((x548000.set (0:Int).toNat (rd x548000 x12)).set (x12:Int).toNat (rd x548000 0)) x548001) else (none)) else (none))) else (none)) else (none)
end
def spec_l91Map.f (k:Nat) (s0_0:List Int) (s0_1:Int) (a1:Int):Option (List Int × List Int × Int):=(spec_l6Rd_pick.f k s0_0 s0_1 a1).bind fun bt528=>((spec_l91Perm.f k s0_0 bt528.2 (wrap64 (2 * (wrap64 (1+bt528.1))))).bind fun bt530=>(if 0≤(wrap64 (2 * (wrap64 (1+bt528.1)))) then (if (wrap64 (2 * (wrap64 (1+bt528.1))):Int).toNat≤35184372088832 then (spec_l91Map.l0 k (wrap64 (2 * (wrap64 (1+bt528.1)))) bt530.1 (List.replicate (wrap64 (2 * (wrap64 (1+bt528.1))):Int).toNat 0) 0 s0_0 bt530.2) else (none)) else (none)))
theorem spec_l91Map.mono_l:∀ k,(∀ y0 y1 y2 y3 y4 y5,LeO (spec_l91Map.l0 k y0 y1 y2 y3 y4 y5) (spec_l91Map.l0 (k+1) y0 y1 y2 y3 y4 y5))∧(∀ y0 y1 y2 y3 y4 y5,LeO (spec_l91Map.l1 k y0 y1 y2 y3 y4 y5) (spec_l91Map.l1 (k+1) y0 y1 y2 y3 y4 y5))∧(∀ y0 y1 y2 y3 y4 y5 y6,LeO (spec_l91Map.j2 k y0 y1 y2 y3 y4 y5 y6) (spec_l91Map.j2 (k+1) y0 y1 y2 y3 y4 y5 y6))∧(∀ y0 y1 y2 y3 y4 y5 y6 y7,LeO (spec_l91Map.l2 k y0 y1 y2 y3 y4 y5 y6 y7) (spec_l91Map.l2 (k+1) y0 y1 y2 y3 y4 y5 y6 y7))
 | 0=>⟨fun _ _ _ _ _ _ r h=>by simp [spec_l91Map.l0] at h,fun _ _ _ _ _ _ r h=>by simp [spec_l91Map.l1] at h,fun _ _ _ _ _ _ _ r h=>by simp [spec_l91Map.j2] at h,fun _ _ _ _ _ _ _ _ r h=>by simp [spec_l91Map.l2] at h⟩
 | k+1=>by
  obtain ⟨ih0,ih1,ih2,ih3⟩:=spec_l91Map.mono_l k
  refine ⟨?_,?_,?_,?_⟩
  ·intro y0 y1 y2 y3 y4 y5
   unfold spec_l91Map.l0
   repeat' first
   | (with_reducible exact ih0 _ _ _ _ _ _)
   | (with_reducible exact ih1 _ _ _ _ _ _)
   | (with_reducible exact ih2 _ _ _ _ _ _ _)
   | (with_reducible exact ih3 _ _ _ _ _ _ _ _)
   | (with_reducible exact spec_MapValid.mono _ _ _)
   | (with_reducible exact spec_l1Orbits.mono _ _ _)
   | (with_reducible exact spec_l6Rd_pick.mono _ _ _ _)
   | (with_reducible exact spec_l91Perm.mono _ _ _ _)
   | (with_reducible exact LeO.refl _)
   | (with_reducible exact za _)
   | (with_reducible refine zc ?_ ?_)
   | (with_reducible refine zb ?_ (fun _=>?_))
  ·intro y0 y1 y2 y3 y4 y5
   unfold spec_l91Map.l1
   repeat' first
   | (with_reducible exact ih0 _ _ _ _ _ _)
   | (with_reducible exact ih1 _ _ _ _ _ _)
   | (with_reducible exact ih2 _ _ _ _ _ _ _)
   | (with_reducible exact ih3 _ _ _ _ _ _ _ _)
   | (with_reducible exact spec_MapValid.mono _ _ _)
   | (with_reducible exact spec_l1Orbits.mono _ _ _)
   | (with_reducible exact spec_l6Rd_pick.mono _ _ _ _)
   | (with_reducible exact spec_l91Perm.mono _ _ _ _)
   | (with_reducible exact LeO.refl _)
   | (with_reducible exact za _)
   | (with_reducible refine zc ?_ ?_)
   | (with_reducible refine zb ?_ (fun _=>?_))
  ·intro y0 y1 y2 y3 y4 y5 y6
   unfold spec_l91Map.j2
   repeat' first
   | (with_reducible exact ih0 _ _ _ _ _ _)
   | (with_reducible exact ih1 _ _ _ _ _ _)
   | (with_reducible exact ih2 _ _ _ _ _ _ _)
   | (with_reducible exact ih3 _ _ _ _ _ _ _ _)
   | (with_reducible exact spec_MapValid.mono _ _ _)
   | (with_reducible exact spec_l1Orbits.mono _ _ _)
   | (with_reducible exact spec_l6Rd_pick.mono _ _ _ _)
   | (with_reducible exact spec_l91Perm.mono _ _ _ _)
   | (with_reducible exact LeO.refl _)
   | (with_reducible exact za _)
   | (with_reducible refine zc ?_ ?_)
   | (with_reducible refine zb ?_ (fun _=>?_))
  ·intro y0 y1 y2 y3 y4 y5 y6 y7
   unfold spec_l91Map.l2
   repeat' first
   | (with_reducible exact ih0 _ _ _ _ _ _)
   | (with_reducible exact ih1 _ _ _ _ _ _)
   | (with_reducible exact ih2 _ _ _ _ _ _ _)
   | (with_reducible exact ih3 _ _ _ _ _ _ _ _)
   | (with_reducible exact spec_MapValid.mono _ _ _)
   | (with_reducible exact spec_l1Orbits.mono _ _ _)
   | (with_reducible exact spec_l6Rd_pick.mono _ _ _ _)
   | (with_reducible exact spec_l91Perm.mono _ _ _ _)
   | (with_reducible exact LeO.refl _)
   | (with_reducible exact za _)
   | (with_reducible refine zc ?_ ?_)
   | (with_reducible refine zb ?_ (fun _=>?_))
theorem spec_l91Map.mono:∀ a0 a1 a2 k,LeO (spec_l91Map.f k a0 a1 a2) (spec_l91Map.f (k+1) a0 a1 a2):=by
 intro a0 a1 a2 k
 obtain ⟨ih0,ih1,ih2,ih3⟩:=spec_l91Map.mono_l k
 unfold spec_l91Map.f
 repeat' first
   | (with_reducible exact ih0 _ _ _ _ _ _)
   | (with_reducible exact ih1 _ _ _ _ _ _)
   | (with_reducible exact ih2 _ _ _ _ _ _ _)
   | (with_reducible exact ih3 _ _ _ _ _ _ _ _)
   | (with_reducible exact spec_MapValid.mono _ _ _)
   | (with_reducible exact spec_l1Orbits.mono _ _ _)
   | (with_reducible exact spec_l6Rd_pick.mono _ _ _ _)
   | (with_reducible exact spec_l91Perm.mono _ _ _ _)
   | (with_reducible exact LeO.refl _)
   | (with_reducible exact za _)
   | (with_reducible refine zc ?_ ?_)
   | (with_reducible refine zb ?_ (fun _=>?_))
def spec_l91Map.T7:Bool × List (List Nat × List Nat):=(true,[([],[]),([],[]),([],[]),([1,2],[1,2]),([3],[3]),([],[]),([],[]),([6],[6]),([5,7],[5,7]),([8],[8]),([0,4,0,1,2,3,4,5,6,7,8,9],[0,4]),([10,9,0,1,2,3,4,5,6,7,8,9],[9,10])])
def spec_l91Map.B7:List Nat:=[0,0,0,6,14,0,0,64,224,480,1023,2047]
theorem spec_l91Map.tab7:rtab .any (opsOf Try.f93 7) = spec_l91Map.T7:=by kernel_rfl
theorem spec_l91Map.bits7:waitsOk spec_l91Map.T7.2 spec_l91Map.B7 = true:=by kernel_rfl
def spec_l91Map.T8:Bool × List (List Nat × List Nat):=(true,[([],[]),([],[]),([],[]),([2],[2]),([1,3],[1,3]),([4],[4]),([],[]),([],[]),([6,7],[6,7]),([8],[8]),([0,5,0,1,2,3,4,5,6,7,8,9],[0,5]),([10,9,0,1,2,3,4,5,6,7,8,9],[9,10])])
def spec_l91Map.B8:List Nat:=[0,0,0,4,14,30,0,0,192,448,1023,2047]
theorem spec_l91Map.tab8:rtab .any (opsOf Try.f93 8) = spec_l91Map.T8:=by kernel_rfl
theorem spec_l91Map.bits8:waitsOk spec_l91Map.T8.2 spec_l91Map.B8 = true:=by kernel_rfl
def spec_l91Map.T18:Bool × List (List Nat × List Nat):=(true,[([],[]),([0],[0]),([],[]),([2],[2]),([],[]),([3,4],[3,4]),([5],[5]),([1,0,1,2,3,4,5,6],[1]),([7,6,0,1,2,3,4,5,6],[6,7])])
def spec_l91Map.B18:List Nat:=[0,1,0,4,0,28,60,127,255]
theorem spec_l91Map.tab18:rtab .any (opsOf Try.f93 18) = spec_l91Map.T18:=by kernel_rfl
theorem spec_l91Map.bits18:waitsOk spec_l91Map.T18.2 spec_l91Map.B18 = true:=by kernel_rfl

/-- what is known of the world besides rows: the reader (block g), what lies below, what is kept -/
def spec_l91Map.Sg (w0 w W:World) (g:Nat) (s:List Int) (q:Int):Prop:=IsS84 w0 W g s q∧Below w0.heap.size w0 W∧KeepBut w W g none
/-- a row of the call's own -/
def spec_l91Map.Ro (w W:World) (v:Value) (x:List Int):Prop:=Kd.R (Kd.int .i64) 3 W w.heap.size (fun k=>some k = v.ownBlock) v x
def spec_l91Map.Sp (u v:Value):Prop := ∀ k,some k = u.ownBlock→some k≠v.ownBlock
theorem spec_l91Map.Sp.symm {u v:Value} (h:spec_l91Map.Sp u v):spec_l91Map.Sp v u:=fun k hk e=>h k e hk
theorem spec_l91Map.Sg.below {w0 w W W':World} {g:Nat} {s:List Int} {q:Int} (h:spec_l91Map.Sg w0 w W g s q) (hb:Below W.heap.size W W'):spec_l91Map.Sg w0 w W' g s q:=⟨IsS84.below h.1 hb,zR h.2.1 hb,KeepBut.trans h.2.2 (KeepBut.of_below hb g none) (.inl rfl)⟩
theorem spec_l91Map.Sg.call {w0 w W W':World} {g:Nat} {s:List Int} {q q':Int} (h:spec_l91Map.Sg w0 w W g s q) (hi:IsS84 w0 W' g s q') (hb:Below w0.heap.size w0 W') (hk:KeepBut W W' g none):spec_l91Map.Sg w0 w W' g s q':=⟨hi,hb,KeepBut.trans h.2.2 hk (.inl rfl)⟩
theorem spec_l91Map.Sg.put {w0 w W:World} {g b:Nat} {s:List Int} {q:Int} (h:spec_l91Map.Sg w0 w W g s q) (h0:w0.heap.size≤w.heap.size) (hb:w.heap.size≤b) (hne:g≠b) (i:Nat) (u:Value):spec_l91Map.Sg w0 w (W.setCell ⟨b,i,none⟩ u) g s q:=⟨IsS84.far h.1 hne u,zF h.2.1 (by omega),keep_far h.2.2 hb u⟩
theorem spec_l91Map.Ro.keep {w0 w W W':World} {g:Nat} {s:List Int} {q:Int} {v:Value} {x:List Int} (h:spec_l91Map.Ro w W v x) (hs:spec_l91Map.Sg w0 w W g s q) (hk:KeepBut W W' g none):spec_l91Map.Ro w W' v x:=by
 obtain ⟨A0,c0,hb,_⟩:=hs.1
 exact zV (Kd.R_keep (Kd.R_types h hb (by decide)) hk (fun _ hk=>hk.2)) (fun _ hk=>hk.1)
theorem spec_l91Map.Ro.below {w W W':World} {v:Value} {x:List Int} (h:spec_l91Map.Ro w W v x) (hb:Below W.heap.size W W'):spec_l91Map.Ro w W' v x:=Kd.R_below h hb
theorem spec_l91Map.Ro.far {w W:World} {v:Value} {x:List Int} {b:Nat} (h:spec_l91Map.Ro w W v x) (hne:∀ k,some k = v.ownBlock→k≠b) (i:Nat) (u:Value):spec_l91Map.Ro w (W.setCell ⟨b,i,none⟩ u) v x:=Kd.R_far (p:=⟨b,i,none⟩) h hne u
theorem spec_l91Map.Ro.box {w W:World} {v:Value} {x:List Int} {b:Nat} {cs:Array Value} (h:spec_l91Map.Ro w W v x) (hb:W.heap[b]? = some (.cells cs 27 (0,0))) (i:Nat) (u:Value):spec_l91Map.Ro w (W.setCell ⟨b,i,none⟩ u) v x:=Kd.R_set h hb (by decide) i u
theorem spec_l91Map.Ro.new {w W W':World} {v:Value} {x:List Int} {P:Nat→Prop} (h:Kd.R (Kd.int .i64) 3 W' W.heap.size P v x) (hle:w.heap.size≤W.heap.size):spec_l91Map.Ro w W' v x:=ze (Kd.R_tight rfl h) hle
theorem spec_l91Map.Sp.new {w W W':World} {u v:Value} {x y:List Int} {P:Nat→Prop} (h:spec_l91Map.Ro w W u y) (h':Kd.R (Kd.int .i64) 3 W' W.heap.size P v x):spec_l91Map.Sp u v:=fun k hk e=>by
 have h1:=Kd.R_lt h k hk.symm
 have h2:=zd h' k e.symm
 omega
theorem spec_l91Map.gne {w0 w W:World} {g b n c:Nat} {s:List Int} {q:Int} {x:List Int} (hs:spec_l91Map.Sg w0 w W g s q) (h:spec_l91Map.Ro w W (.slice (some ⟨b,0,none⟩) n c) x):g≠b:=by
 obtain ⟨A0,c0,hb,_⟩:=hs.1
 have:=Kd.R_ne h hb (by decide)
 intro e
 exact this (by rw [e];rfl)
theorem spec_l91Map.gneB {w0 w W:World} {g b:Nat} {s:List Int} {q:Int} {cs:Array Value} (hs:spec_l91Map.Sg w0 w W g s q) (h:W.heap[b]? = some (.cells cs 27 (0,0))):g≠b:=by
 obtain ⟨A0,c0,hb,_⟩:=hs.1
 exact blk_ne hb h (by decide)
theorem spec_l91Map.rne {w W:World} {b b' n c:Nat} {x:List Int} {cs:Array Value} (h:spec_l91Map.Ro w W (.slice (some ⟨b,0,none⟩) n c) x) (hb:W.heap[b']? = some (.cells cs 27 (0,0))):b'≠b:=by
 have:=Kd.R_ne h hb (by decide)
 intro e
 exact this (by rw [e];rfl)
theorem spec_l91Map.rge {w W:World} {b n c:Nat} {x:List Int} (h:spec_l91Map.Ro w W (.slice (some ⟨b,0,none⟩) n c) x):w.heap.size≤b:=zd h b rfl
theorem spec_l91Map.sne {u:Value} {b n c:Nat} (h:spec_l91Map.Sp u (.slice (some ⟨b,0,none⟩) n c)):∀ k,some k = u.ownBlock→k≠b:=fun k hk e=>h k hk (by rw [e];rfl)
/-- the first loop: the rows P and F, the place of the result (block g4) -/
def spec_l91Map.L0 (w0 w W:World) (g:Nat) (s:List Int) (q:Int) (g4:Nat) (u v:Value) (P F:List Int):Prop:=spec_l91Map.Sg w0 w W g s q∧w.heap.size≤g4∧W.heap[g4]? = some (.cells #[.slice none 0 0,.slice none 0 0] 27 (0,0))∧spec_l91Map.Ro w W u P∧spec_l91Map.Ro w W v F∧spec_l91Map.Sp u v
theorem spec_l91Map.L0.put {w0 w W:World} {g g4 b n c:Nat} {s:List Int} {q:Int} {u:Value} {P F:List Int} (h0:w0.heap.size≤w.heap.size) (h:spec_l91Map.L0 w0 w W g s q g4 u (.slice (some ⟨b,0,none⟩) n c) P F) (i x:Int):spec_l91Map.L0 w0 w (W.setCell ⟨b,i.toNat,none⟩ (.int .i64 x)) g s q g4 u (.slice (some ⟨b,0,none⟩) n c) P (F.set i.toNat x) :=
 ⟨h.1.put h0 (spec_l91Map.rge h.2.2.2.2.1) (spec_l91Map.gne h.1 h.2.2.2.2.1) _ _,h.2.1,blk_far h.2.2.1 (spec_l91Map.rne h.2.2.2.2.1 h.2.2.1) _,h.2.2.2.1.far (spec_l91Map.sne h.2.2.2.2.2) _ _,Kd.R_putn h.2.2.2.2.1 i x,h.2.2.2.2.2⟩
theorem spec_l91Map.L0.below {w0 w W W':World} {g g4:Nat} {s:List Int} {q:Int} {u v:Value} {P F:List Int} (h:spec_l91Map.L0 w0 w W g s q g4 u v P F) (hb:Below W.heap.size W W'):spec_l91Map.L0 w0 w W' g s q g4 u v P F :=
 ⟨h.1.below hb,h.2.1,zX h.2.2.1 hb,h.2.2.2.1.below hb,h.2.2.2.2.1.below hb,h.2.2.2.2.2⟩
/-- the second loop: the map (block g9) with its rows -/
def spec_l91Map.L1 (w0 w W:World) (g:Nat) (s:List Int) (q:Int) (g4 g9:Nat) (u v:Value) (T F:List Int):Prop:=spec_l91Map.Sg w0 w W g s q∧(w.heap.size≤g4∧w.heap.size≤g9∧g4≠g9)∧W.heap[g4]? = some (.cells #[.slice none 0 0,.slice none 0 0] 27 (0,0))∧W.heap[g9]? = some (.cells #[u,v] 27 (0,0))∧spec_l91Map.Ro w W u T∧spec_l91Map.Ro w W v F∧spec_l91Map.Sp u v
theorem spec_l91Map.L1.below {w0 w W W':World} {g g4 g9:Nat} {s:List Int} {q:Int} {u v:Value} {T F:List Int} (h:spec_l91Map.L1 w0 w W g s q g4 g9 u v T F) (hb:Below W.heap.size W W'):spec_l91Map.L1 w0 w W' g s q g4 g9 u v T F :=
 ⟨h.1.below hb,h.2.1,zX h.2.2.1 hb,zX h.2.2.2.1 hb,h.2.2.2.2.1.below hb,h.2.2.2.2.2.1.below hb,h.2.2.2.2.2.2⟩
theorem spec_l91Map.L1.call {w0 w W W':World} {g g4 g9:Nat} {s:List Int} {q q':Int} {u v:Value} {T F:List Int} (h:spec_l91Map.L1 w0 w W g s q g4 g9 u v T F) (hi:IsS84 w0 W' g s q') (hb:Below w0.heap.size w0 W') (hk:KeepBut W W' g none):spec_l91Map.L1 w0 w W' g s q' g4 g9 u v T F :=
 ⟨h.1.call hi hb hk,h.2.1,KeepBut.blk hk h.2.2.1 (spec_l91Map.gneB h.1 h.2.2.1).symm (by simp),KeepBut.blk hk h.2.2.2.1 (spec_l91Map.gneB h.1 h.2.2.2.1).symm (by simp),h.2.2.2.2.1.keep h.1 hk,h.2.2.2.2.2.1.keep h.1 hk,h.2.2.2.2.2.2⟩
theorem spec_l91Map.L1.putT {w0 w W:World} {g g4 g9 b n c:Nat} {s:List Int} {q:Int} {v:Value} {T F:List Int} (h0:w0.heap.size≤w.heap.size) (h:spec_l91Map.L1 w0 w W g s q g4 g9 (.slice (some ⟨b,0,none⟩) n c) v T F) (i x:Int):spec_l91Map.L1 w0 w (W.setCell ⟨b,i.toNat,none⟩ (.int .i64 x)) g s q g4 g9 (.slice (some ⟨b,0,none⟩) n c) v (T.set i.toNat x) F :=
 ⟨h.1.put h0 (spec_l91Map.rge h.2.2.2.2.1) (spec_l91Map.gne h.1 h.2.2.2.2.1) _ _,h.2.1,blk_far h.2.2.1 (spec_l91Map.rne h.2.2.2.2.1 h.2.2.1) _,blk_far h.2.2.2.1 (spec_l91Map.rne h.2.2.2.2.1 h.2.2.2.1) _,Kd.R_putn h.2.2.2.2.1 i x,h.2.2.2.2.2.1.far (spec_l91Map.sne h.2.2.2.2.2.2.symm) _ _,h.2.2.2.2.2.2⟩
theorem spec_l91Map.L1.putF {w0 w W:World} {g g4 g9 b n c:Nat} {s:List Int} {q:Int} {u:Value} {T F:List Int} (h0:w0.heap.size≤w.heap.size) (h:spec_l91Map.L1 w0 w W g s q g4 g9 u (.slice (some ⟨b,0,none⟩) n c) T F) (i x:Int):spec_l91Map.L1 w0 w (W.setCell ⟨b,i.toNat,none⟩ (.int .i64 x)) g s q g4 g9 u (.slice (some ⟨b,0,none⟩) n c) T (F.set i.toNat x) :=
 ⟨h.1.put h0 (spec_l91Map.rge h.2.2.2.2.2.1) (spec_l91Map.gne h.1 h.2.2.2.2.2.1) _ _,h.2.1,blk_far h.2.2.1 (spec_l91Map.rne h.2.2.2.2.2.1 h.2.2.1) _,blk_far h.2.2.2.1 (spec_l91Map.rne h.2.2.2.2.2.1 h.2.2.2.1) _,h.2.2.2.2.1.far (spec_l91Map.sne h.2.2.2.2.2.2) _ _,Kd.R_putn h.2.2.2.2.2.1 i x,h.2.2.2.2.2.2⟩
/-- the map whole, its first row perhaps a cut one -/
def spec_l91Map.L2 (w0 w W:World) (g:Nat) (s:List Int) (q:Int) (g4:Nat) (u v:Value) (T F:List Int):Prop:=spec_l91Map.Sg w0 w W g s q∧w.heap.size≤g4∧W.heap[g4]? = some (.cells #[.slice none 0 0,.slice none 0 0] 27 (0,0))∧Kd.Q (Kd.int .i64) 3 W w.heap.size (fun k=>some k≠v.ownBlock) u T∧Kd.R (Kd.int .i64) 3 W w.heap.size (fun k=>some k≠u.ownBlock) v F
theorem spec_l91Map.L1.whole {w0 w W:World} {g g4 g9:Nat} {s:List Int} {q:Int} {u v:Value} {T F:List Int} (h:spec_l91Map.L1 w0 w W g s q g4 g9 u v T F):spec_l91Map.L2 w0 w W g s q g4 u v T F :=
 ⟨h.1,h.2.1.1,h.2.2.1,Kd.Q_of_R (zV h.2.2.2.2.1 h.2.2.2.2.2.2),zV h.2.2.2.2.2.1 h.2.2.2.2.2.2.symm⟩
theorem spec_l91Map.L1.cut {w0 w W:World} {g g4 g9 n c:Nat} {s:List Int} {q:Int} {A:Option Addr} {v:Value} {T F:List Int} (h0:w0.heap.size≤w.heap.size) (h:spec_l91Map.L1 w0 w W g s q g4 g9 (.slice A n c) v T F) (k:Nat) (hk:k≤T.length) (u:Value) (hu:u = .slice (if c = k then A else A.map (·.add (k * 1))) (n - k) (c - k)):spec_l91Map.L2 w0 w (W.setCell ⟨g9,0,none⟩ u) g s q g4 u v (T.drop k) F:=by
 have ho:u.ownBlock = (Value.slice A n c).ownBlock:=by
  rw [hu]
  split
  ·cases A <;> rfl
  ·cases A with
   | none=>rfl
   | some a=>cases a;simp [Value.ownBlock,Addr.add];split <;> rfl
 obtain ⟨h1,h2,h3,h4,h5,h6,h7⟩:=h
 refine ⟨h1.put h0 h2.2.1 (spec_l91Map.gneB h1 h4) 0 u,h2.1,blk_far h3 h2.2.2 u,?_,?_⟩
 ·have hq:=Kd.Q_set (Kd.Q_drop (Kd.Q_of_R (zV h5 h7)) hk) h4 (by decide) 0 u
  rw [hu] at hq ⊢
  exact hq
 ·exact zV (h6.box h4 0 u) (fun k' hk'=>by rw [ho];exact h7.symm k' hk')
theorem spec_l91Map.L2.last {w0 w W:World} {g g4:Nat} {s:List Int} {q:Int} {u v:Value} {T F:List Int} (h0:w0.heap.size≤w.heap.size) (h:spec_l91Map.L2 w0 w W g s q g4 u v T F):spec_l91Map.Sg w0 w ((W.setCell ⟨g4,0,none⟩ u).setCell ⟨g4,1,none⟩ v) g s q∧((W.setCell ⟨g4,0,none⟩ u).setCell ⟨g4,1,none⟩ v).heap[g4]? = some (.cells #[u,v] 27 (0,0))∧Kd.Q (Kd.int .i64) 3 ((W.setCell ⟨g4,0,none⟩ u).setCell ⟨g4,1,none⟩ v) w.heap.size (fun k=>some k≠v.ownBlock) u T∧Kd.R (Kd.int .i64) 3 ((W.setCell ⟨g4,0,none⟩ u).setCell ⟨g4,1,none⟩ v) w.heap.size (fun k=>some k≠u.ownBlock) v F:=by
 obtain ⟨h1,h2,h3,h4,h5⟩:=h
 have hb:=blk_put (cs':=#[u,.slice none 0 0]) h3 0 u rfl
 exact ⟨(h1.put h0 h2 (spec_l91Map.gneB h1 h3) 0 u).put h0 h2 (spec_l91Map.gneB h1 h3) 1 v,blk_put hb 1 v rfl,Kd.Q_set (Kd.Q_set h4 h3 (by decide) 0 u) hb (by decide) 1 v,Kd.R_set (Kd.R_set h5 h3 (by decide) 0 u) hb (by decide) 1 v⟩
set_option maxHeartbeats 8000000 in
set_option maxRecDepth 100000 in
theorem spec_l91Map.calls (k:Nat) (g:Nat) (s0_0:List Int) (s0_1:Int) (a1:Int) (r1:List Int) (r2:List Int) (r3:Int) (w0 w:World) (hI:IsS84 w0 w g s0_0 s0_1) (hB:Below w0.heap.size w0 w) (h:spec_l91Map.f k s0_0 s0_1 a1 = some (r1,r2,r3)) :
  Calls Try.prog 93 #[.pointer (some ⟨g,0,none⟩),.int .i64 a1] w fun e w' => ∃ v0_ v1_:Value,e = .returned (.agg #[v0_,v1_])∧Kd.Q (Kd.int .i64) 3 w' w.heap.size (fun k_=>some k_≠(v1_:Value).ownBlock) v0_ r1∧Kd.R (Kd.int .i64) 3 w' w.heap.size (fun k_=>some k_≠(v0_:Value).ownBlock) v1_ r2∧IsS84 w0 w' g s0_0 r3∧Below w0.heap.size w0 w'∧KeepBut w w' g none:=by
 have HI:=zA (show spec_l91Map.Sg w0 w w g s0_0 s0_1 from ⟨hI,hB,KeepBut.refl w g none⟩)
 have HL:=zA hB.size
 unfold spec_l91Map.f at h
 obtain ⟨⟨a,q1⟩,h1,h⟩:=zz0 h
 simp only at h
 obtain ⟨⟨P,q2⟩,h2,h⟩:=zz0 h
 simp only at h
 obtain ⟨n,hn⟩:∃ n,n = wrap64 (2 * wrap64 (1+a)):=⟨_,rfl⟩
 rw [← hn] at h h2
 by_cases c6:¬ 0≤n
 ·rw [if_neg c6] at h;cases h
 replace c6:=Classical.not_not.mp c6
 rw [if_pos c6] at h
 by_cases c7:¬ n.toNat≤35184372088832
 ·rw [if_neg c7] at h;cases h
 replace c7:=Classical.not_not.mp c7
 rw [if_pos c7] at h
 have H1:=zA h1
 have H2:=zA h2
 have HN:=zA (And.intro c6 c7)
 have HH:=zA h
 have hnw:IntKind.i64.wrap (2 * wrap64 (1+a)) = n:=(i64_w _).trans hn.symm
 clear hI hB h1 h2 hn h c6 c7
 go_enter Try.func93,Try.ntmps93
 go_upto_region 0 with (fail)
 go_cut [4] (fun v4 wc => ∃ g4:Nat,v4 = .pointer (some ⟨g4,0,none⟩)∧Aside0 (w.heap.size≤g4∧wc.heap[g4]? = some (.cells #[.slice none 0 0,.slice none 0 0] 27 (0,0)))∧Aside0 (spec_l91Map.Sg w0 w wc g s0_0 s0_1))
 case first =>
  go_wp2
  go_meet
  case rel=>exact ⟨w.heap.size,rfl,⟨Nat.le_refl _,blk_new w _⟩,⟨HI.out.below (zD (Below.refl _ _) _)⟩⟩
 case rest =>
  obtain ⟨g4,rfl,H4,HS⟩:=hcut
  clear HI
  go_upto_region 2 with (go_at_call 90;refine (spec_l6Rd_pick.calls k g s0_0 s0_1 a1 a q1 w0 wc HS.out.1 HS.out.2.1 H1.out).mono ?_;rintro e w1 ⟨rfl,hi,hb,hk⟩;have HS1:=zA (HS.out.call hi hb hk);have H41:=zA (And.intro H4.out.1 (KeepBut.blk hk H4.out.2 (spec_l91Map.gneB HS.out H4.out.2).symm (by simp)));clear hi hb hk)
  clear hnw H4 HS H1
  go_upto_region 3 with (go_at_call 91;refine (spec_l91Perm.calls k g s0_0 q1 n P q2 w0 w1 HS1.out.1 HS1.out.2.1 H2.out).mono ?_;rintro e w2 ⟨v6,rfl,ho,hi,hb,hk⟩;have HS2:=zA (HS1.out.call hi hb hk);have HP:=zA (spec_l91Map.Ro.new ho HS1.out.2.2.1);have H42:=zA (And.intro H41.out.1 (KeepBut.blk hk H41.out.2 (spec_l91Map.gneB HS1.out H41.out.2).symm (by simp)));clear ho hi hb hk)
  clear H41 HS1 H2
  go_upto_block 0 with ((with_reducible refine gate_dst (N:=23) rfl ?_);refine Kd.R_make (Kd.int .i64) _ 3 rfl (N:=23) rfl 23 _ _ rfl n rfl rfl Try.underlying23 (.int .i64 0) 8 info3 rfl (by decide) (by omega) 0 (ok:=fun _=>True) (okp:=fun _=>True) rfl (fun _ hk=>hk) trivial HN.out.1 (Nat.le_trans (Nat.mul_le_mul_right _ HN.out.2) (by omega)) (Below.refl _ _) (Nat.le_refl _) ?_;intro v7 w3 ho hb hg_ hnew_;clear hg_ hnew_;have HL0:=zA (show spec_l91Map.L0 w0 w w3 g s0_0 q2 g4 v6 v7 P (List.replicate n.toNat 0) from ⟨HS2.out.below hb,H42.out.1,zX H42.out.2 hb,HP.out.below hb,spec_l91Map.Ro.new ho HS2.out.2.2.1,spec_l91Map.Sp.new HP.out ho⟩);clear hb ho)
  clear H42 HP HS2
  go_cut [] (fun wd => ∃ (d:Nat) (Fl:List Int),Aside0 ((spec_l91Perm.f d s0_0 q2 n).bind (fun bt=>spec_l91Map.l1 d n 0 s0_0 bt.2 bt.1 Fl) = some (r1,r2,r3))∧Aside0 (spec_l91Map.L0 w0 w wd g s0_0 q2 g4 v6 v7 P Fl))
  case first =>
   go_wp2
   go_loopg [8] k (fun kq v8 wr => ∃ (Fl:List Int) (i:Int),v8 = .int .i64 i∧Aside0 (spec_l91Map.l0 kq n P Fl i s0_0 q2 = some (r1,r2,r3))∧Aside0 (spec_l91Map.L0 w0 w wr g s0_0 q2 g4 v6 v7 P Fl))
   case atStart=>exact ⟨_,0,rfl,HH,HL0⟩
   case round =>
    clear HL0 HH
    obtain ⟨Fl,i,rfl,HE,HL0⟩:=hrel
    cases gk with
    | zero=>have:=HE.out;simp [spec_l91Map.l0] at this
    | succ d =>
     have h:=HE.out
     simp only [spec_l91Map.l0] at h
     clear HE
     obtain ⟨j,hj⟩:∃ j,wrap64 (i+1) = j:=⟨_,rfl⟩
     rw [hj] at h
     have hjw:IntKind.i64.wrap (i+1) = j:=(i64_w _).trans hj
     by_cases c1:j < n
     ·rw [if_pos c1] at h
      have c1b:decide (j < n) = true:=zO c1
      by_cases c2:¬ 0≤i
      ·rw [if_neg c2] at h;cases h
      replace c2:=Classical.not_not.mp c2
      rw [if_pos c2] at h
      by_cases c3:¬ i < (P.length:Int)
      ·rw [if_neg c3] at h;cases h
      replace c3:=Classical.not_not.mp c3
      rw [if_pos c3] at h
      by_cases c4:¬ 0≤j
      ·rw [if_neg c4] at h;cases h
      replace c4:=Classical.not_not.mp c4
      rw [if_pos c4] at h
      by_cases c5:¬ j < (P.length:Int)
      ·rw [if_neg c5] at h;cases h
      replace c5:=Classical.not_not.mp c5
      rw [if_pos c5] at h
      obtain ⟨x,hx⟩:∃ x,rd P i = x:=⟨_,rfl⟩
      obtain ⟨y,hy⟩:∃ y,rd P j = y:=⟨_,rfl⟩
      rw [hx,hy] at h
      by_cases c6:¬ 0≤x
      ·rw [if_neg c6] at h;cases h
      replace c6:=Classical.not_not.mp c6
      rw [if_pos c6] at h
      by_cases c7:¬ x < (Fl.length:Int)
      ·rw [if_neg c7] at h;cases h
      replace c7:=Classical.not_not.mp c7
      rw [if_pos c7] at h
      by_cases c8:¬ 0≤y
      ·rw [if_neg c8] at h;cases h
      replace c8:=Classical.not_not.mp c8
      rw [if_pos c8] at h
      by_cases c9:¬ y < (Fl.length:Int)
      ·rw [if_neg c9] at h;cases h
      replace c9:=Classical.not_not.mp c9
      rw [if_pos c9] at h
      have HE:=zA h
      have HXY:=zA (And.intro hx hy)
      have HC:=zA (And.intro (And.intro c2 c3) (And.intro (And.intro c4 c5) (And.intro (And.intro c6 c7) (And.intro c8 c9))))
      clear h hj hx hy c1 c2 c3 c4 c5 c6 c7 c8 c9
      go_upto_region 7 with (fail)
      obtain ⟨b6,m6,rfl,_⟩:=Kd.R_form HL0.out.2.2.2.1 (by have:=HC.out;omega)
      obtain ⟨b7,m7,rfl,_⟩:=Kd.R_form HL0.out.2.2.2.2.1 (by have:=HC.out;omega)
      go_cut [] (fun wd=>Aside0 (spec_l91Map.L0 w0 w wd g s0_0 q2 g4 (.slice (some ⟨b6,0,none⟩) P.length m6) (.slice (some ⟨b7,0,none⟩) Fl.length m7) P (Fl.set x.toNat y)))
      case first =>
       obtain ⟨e1,f1⟩:=Kd.R_celln 0 HL0.out.2.2.2.1 i HC.out.1.1 HC.out.1.2
       obtain ⟨e2,f2⟩:=Kd.R_celln 0 HL0.out.2.2.2.1 j HC.out.2.1.1 HC.out.2.1.2
       obtain ⟨e3,f3⟩:=Kd.R_celln 0 HL0.out.2.2.2.2.1 x HC.out.2.2.1.1 HC.out.2.2.1.2
       have g1:wr.cell? ⟨b6,i.toNat,none⟩ = some (.int .i64 x):=by rw [← HXY.out.1];exact e1
       have g2:wr.cell? ⟨b6,j.toNat,none⟩ = some (.int .i64 y):=by rw [← HXY.out.2];exact e2
       have i1:(0≤i) = True:=eq_true HC.out.1.1
       have i2:(i < (P.length:Int)) = True:=eq_true HC.out.1.2
       have i3:(0≤j) = True:=eq_true HC.out.2.1.1
       have i4:(j < (P.length:Int)) = True:=eq_true HC.out.2.1.2
       have i5:(0≤x) = True:=eq_true HC.out.2.2.1.1
       have i6:(x < (Fl.length:Int)) = True:=eq_true HC.out.2.2.1.2
       clear e1 e2 f1 f2
       go_region
       all_goals go_wp2
       all_goals go_meet
       case rel=>exact ⟨(HL0.out.put HL.out x y).below (Below.refl _ _).drew⟩
      case rest =>
       have HL1:=hcut
       clear HL0 hcut
       go_upto_region 8 with (fail)
       obtain ⟨e1,f1⟩:=Kd.R_celln 0 HL1.out.2.2.2.1 i HC.out.1.1 HC.out.1.2
       obtain ⟨e2,f2⟩:=Kd.R_celln 0 HL1.out.2.2.2.1 j HC.out.2.1.1 HC.out.2.1.2
       obtain ⟨e3,f3⟩:=Kd.R_celln 0 HL1.out.2.2.2.2.1 y HC.out.2.2.2.1 HC.out.2.2.2.2
       have g1:wc.cell? ⟨b6,i.toNat,none⟩ = some (.int .i64 x):=by rw [← HXY.out.1];exact e1
       have g2:wc.cell? ⟨b6,j.toNat,none⟩ = some (.int .i64 y):=by rw [← HXY.out.2];exact e2
       have i1:(0≤i) = True:=eq_true HC.out.1.1
       have i2:(i < (P.length:Int)) = True:=eq_true HC.out.1.2
       have i3:(0≤j) = True:=eq_true HC.out.2.1.1
       have i4:(j < (P.length:Int)) = True:=eq_true HC.out.2.1.2
       have i5:(0≤y) = True:=eq_true HC.out.2.2.2.1
       have i6:(y < (Fl.length:Int)) = True:=eq_true HC.out.2.2.2.2
       clear e1 e2 f1 f2
       go_region
       go_wp2
       go_roundg d
       case measure=>omega
       case rel=>exact ⟨(Fl.set x.toNat y).set y.toNat x,wrap64 (i+2),rfl,HE,⟨(HL1.out.put HL.out y x).below (Below.refl _ _).drew⟩⟩
     ·rw [if_neg c1] at h
      have c1b:decide (j < n) = false:=zP c1
      have HE:=zA h
      clear h hj c1
      go_wp2
      go_meet
      case rel=>exact ⟨d,Fl,HE,HL0⟩
  case rest =>
   obtain ⟨d,Fl,HE,HL0⟩:=hcut
   have h:=HE.out
   clear HE HH
   obtain ⟨⟨T0,q3⟩,h3,h⟩:=zz0 h
   simp only at h
   have H3:=zA h3
   have HE:=zA h
   clear h3 h
   go_upto_region 9 with (fail)
   obtain ⟨A7,m7,rfl⟩:=zg HL0.out.2.2.2.2.1
   go_cut [9] (fun v9 wd => ∃ (g9:Nat) (Au:Option Addr) (mu:Nat),v9 = .pointer (some ⟨g9,0,none⟩)∧Aside0 (spec_l91Map.L1 w0 w wd g s0_0 q3 g4 g9 (.slice Au T0.length mu) (.slice A7 Fl.length m7) T0 Fl))
   case first =>
    go_wp2_with (go_at_call 91;go_loud (refine (spec_l91Perm.calls d g s0_0 q2 n T0 q3 w0 wc HL0.out.1.1 HL0.out.1.2.1 H3.out).mono ?_;rintro e w5 ⟨u,rfl,ho,hi,hb,hk⟩;obtain ⟨Au,mu,rfl⟩:=zg ho;have HS5:=zA (HL0.out.1.call hi hb hk);have H45:=zA (KeepBut.blk hk HL0.out.2.2.1 (spec_l91Map.gneB HL0.out.1 HL0.out.2.2.1).symm (by simp));have HU5:=zA (spec_l91Map.Ro.new ho HL0.out.1.2.2.1);have HF5:=zA (HL0.out.2.2.2.2.1.keep HL0.out.1 hk);have HP5:=zA ((spec_l91Map.Sp.new HL0.out.2.2.2.2.1 ho).symm);clear ho hi hb hk))
    go_meet
    case rel=>exact ⟨w5.heap.size,Au,mu,rfl,⟨HS5.out.below (zD (Below.refl _ _) _),⟨HL0.out.2.1,HS5.out.2.2.1,Nat.ne_of_lt (blk_lt H45.out)⟩,zH H45.out _,blk_new w5 _,HU5.out.below (zD (Below.refl _ _) _),HF5.out.below (zD (Below.refl _ _) _),HP5.out⟩⟩
   case rest =>
    obtain ⟨g9,Au,mu,rfl,HL1⟩:=hcut
    obtain ⟨tl,htl⟩:∃ tl,T0.length = tl:=⟨_,rfl⟩
    rw [htl] at HL1
    clear HL0 H3
    go_upto_block 2 with (fail)
    go_cut [] (fun we => ∃ (e:Nat) (T:List Int) (i:Int),Aside0 (spec_l91Map.j2 (e+1) n i false s0_0 q3 T Fl = some (r1,r2,r3))∧Aside0 (spec_l91Map.L1 w0 w we g s0_0 q3 g4 g9 (.slice Au tl mu) (.slice A7 Fl.length m7) T Fl))
    case first =>
     go_wp2
     go_loopg [10] d (fun kq v10 wr => ∃ (T:List Int) (i:Int),v10 = .int .i64 i∧Aside0 (spec_l91Map.l1 kq n i s0_0 q3 T Fl = some (r1,r2,r3))∧Aside0 (spec_l91Map.L1 w0 w wr g s0_0 q3 g4 g9 (.slice Au tl mu) (.slice A7 Fl.length m7) T Fl))
     case atStart=>exact ⟨_,0,rfl,HE,HL1⟩
     case round =>
      clear HL1 HE
      obtain ⟨T,i,rfl,HE,HL1⟩:=hrel
      cases gk with
      | zero=>have:=HE.out;simp [spec_l91Map.l1] at this
      | succ d' =>
       have h:=HE.out
       simp only [spec_l91Map.l1] at h
       clear HE
       by_cases c1:i < n
       ·rw [if_pos c1] at h
        have c1b:decide (i < n) = true:=zO c1
        obtain ⟨b,hb1,h⟩:=zz0 h
        have HE:=zA h
        have HV:=zA hb1
        clear h hb1 c1
        have htl:=(zU HL1.out.2.2.2.2.1).1
        have HT:=zA (zU HL1.out.2.2.2.2.1).2
        have HF:=zA (zU HL1.out.2.2.2.2.2.1).2
        have hm0:wr.cell? ⟨g9,0,none⟩ = some (.slice Au T.length mu):=by rw [← htl];exact (zT HL1.out.2.2.2.1 0).trans rfl
        have hm1:wr.cell? ⟨g9,1,none⟩ = some (.slice A7 Fl.length m7):=(zT HL1.out.2.2.2.1 1).trans rfl
        have HT2:=zA (show T.length≤mu by rw [← htl];exact HT.out.1)
        have HTL:=zA htl
        clear htl
        cases b with
        | true =>
         go_wp2_with (go_at_call 34;refine (spec_MapValid.calls d' Au mu T A7 m7 Fl true wr HT.out.2 HT2.out HF.out.2 HF.out.1 HV.out).mono ?_;rintro e w4 ⟨rfl,hb⟩;have HL4:=zA (HL1.out.below hb);clear hb)
         go_meet
         case rel =>
          cases d' with
          | zero=>have:=HE.out;simp [spec_l91Map.j2] at this
          | succ d''=>exact ⟨d'',T,i,HE,HL4⟩
        | false =>
         cases d' with
         | zero=>have:=HE.out;simp [spec_l91Map.j2] at this
         | succ d2 =>
         have h:=HE.out
         simp only [spec_l91Map.j2,Bool.not_false,if_true] at h
         obtain ⟨o,ho1,h⟩:=zz0 h
         have HO:=zA ho1
         have HE2:=zA h
         clear HE h ho1
         go_upto_region 13 with (go_at_call 34;refine (spec_MapValid.calls _ Au mu T A7 m7 Fl false wr HT.out.2 HT2.out HF.out.2 HF.out.1 HV.out).mono ?_;rintro e w4 ⟨rfl,hb⟩;have HL4:=zA (HL1.out.below hb);have HT4:=zA (zW HT.out.2 hb);have HF4:=zA (zW HF.out.2 hb);clear hb)
         clear hm0 hm1 HL1 HV
         have hm0:w4.cell? ⟨g9,0,none⟩ = some (.slice Au T.length mu):=by rw [← HTL.out];exact (zT HL4.out.2.2.2.1 0).trans rfl
         have hm1:w4.cell? ⟨g9,1,none⟩ = some (.slice A7 Fl.length m7):=(zT HL4.out.2.2.2.1 1).trans rfl
         go_upto_region 14 with (go_at_call 98;refine (spec_l1Orbits.calls d2 Au mu T A7 m7 Fl o w4 HT4.out HT2.out HF4.out HF.out.1 HO.out).mono ?_;rintro e w5 ⟨vo,rfl,hr,hb⟩;obtain ⟨Ao,mo,rfl⟩:=zg hr;have HOC:=zA (zU hr).2;have HL5:=zA (HL4.out.below hb);clear hr hb)
         clear hm0 hm1 HL4 HT4 HF4 HT HF HT2 HO
         go_upto_block 4 with (fail)
         go_cut [12] (fun v12 wd => ∃ (e:Nat) (kk:Int),v12 = .int .i64 kk∧Aside0 (0≤kk∧kk < (T.length:Int))∧Aside0 (spec_l91Map.l1 e n (wrap64 (i+1)) s0_0 q3 ((T.set 0 (rd T kk)).set kk.toNat (rd T 0)) Fl = some (r1,r2,r3)∧e < d2+2)∧Aside0 (spec_l91Map.L1 w0 w wd g s0_0 q3 g4 g9 (.slice Au tl mu) (.slice A7 Fl.length m7) T Fl))
         case first =>
          go_wp2
          go_loopg [12] d2 (fun kq v12 wq => ∃ (kk:Int),v12 = .int .i64 kk∧Aside0 (spec_l91Map.l2 kq n i o kk s0_0 q3 T Fl = some (r1,r2,r3)∧kq≤d2)∧Aside0 (spec_l91Map.L1 w0 w wq g s0_0 q3 g4 g9 (.slice Au tl mu) (.slice A7 Fl.length m7) T Fl)∧Aside0 (Kd.C (Kd.int .i64) wq Ao o.length o))
          case atStart=>exact ⟨0,rfl,⟨HE2.out,Nat.le_refl _⟩,HL5,⟨HOC.out.2⟩⟩
          case round =>
           clear HE2 HL5
           obtain ⟨kk,rfl,HE2,HL5,HO5⟩:=hrel
           cases gk with
           | zero=>have:=HE2.out.1;simp [spec_l91Map.l2] at this
           | succ d3 =>
            have h:=HE2.out.1
            have HD:=zA HE2.out.2
            simp only [spec_l91Map.l2] at h
            clear HE2
            by_cases e1:¬ 0≤kk
            ·rw [if_neg e1] at h;cases h
            replace e1:=Classical.not_not.mp e1
            rw [if_pos e1] at h
            by_cases e2:¬ kk < (o.length:Int)
            ·rw [if_neg e2] at h;cases h
            replace e2:=Classical.not_not.mp e2
            rw [if_pos e2] at h
            obtain ⟨ado,eo,hcell⟩:=Kd.at_int HO5.out kk e1 e2
            have HO6:=HO5
            subst eo
            have i1:(0≤kk) = True:=eq_true e1
            have i2:(kk < (o.length:Int)) = True:=eq_true e2
            by_cases e3:rd o kk = 0
            ·rw [if_pos e3] at h
             have HE2:=zA h
             rw [e3] at hcell
             clear h e3
             go_wp2
             go_roundg d3
             case measure=>omega
             case rel=>exact ⟨wrap64 (kk+1),rfl,⟨HE2.out,by have:=HD.out;omega⟩,HL5,HO5⟩
            ·rw [if_neg e3] at h
             have e3b:(rd o kk == 0) = false:=beq_eq_false_iff_ne.mpr e3
             have e3c:decide (rd o kk = 0) = false:=zP e3
             by_cases e4:¬ 0 < (T.length:Int)
             ·rw [if_neg e4] at h;cases h
             replace e4:=Classical.not_not.mp e4
             rw [if_pos e4] at h
             by_cases e5:¬ kk < (T.length:Int)
             ·rw [if_neg e5] at h;cases h
             replace e5:=Classical.not_not.mp e5
             rw [if_pos e5] at h
             have HE2:=zA h
             have HK:=zA (And.intro e1 e5)
             clear h e3 e4 e5
             go_wp2
             go_meet
             case rel=>exact ⟨d3,kk,rfl,HK,⟨HE2.out,by have:=HD.out;omega⟩,HL5⟩
         case rest =>
          clear HOC HE2 HL5
          obtain ⟨ee,kk,rfl,HK,HE2,HL5⟩:=hcut
          obtain ⟨bt,mt,eu,_⟩:=Kd.R_form HL5.out.2.2.2.2.1 (by have:=HK.out;omega)
          have HEU:=zA eu
          have HL6:=zA (show spec_l91Map.L1 w0 w wc g s0_0 q3 g4 g9 (.slice (some ⟨bt,0,none⟩) T.length mt) (.slice A7 Fl.length m7) T Fl from eu ▸ HL5.out)
          clear eu HL5 HTL
          have i1:(0≤kk) = True:=eq_true HK.out.1
          have i2:(kk < (T.length:Int)) = True:=eq_true HK.out.2
          have i3:(0 < (T.length:Int)) = True:=eq_true (by have:=HK.out;omega)
          have i4:0 < T.length:=by have:=HK.out;omega
          obtain ⟨x0,f0⟩:=Kd.R_celln 0 HL6.out.2.2.2.2.1 0 (by omega) (by have:=HK.out;omega)
          have x0':wc.cell? ⟨bt,0,none⟩ = some (.int .i64 (rd T 0)):=x0
          have hm0:wc.cell? ⟨g9,0,none⟩ = some (.slice (some ⟨bt,0,none⟩) T.length mt):=(zT HL6.out.2.2.2.1 0).trans rfl
          go_upto_region 18 with (fail)
          obtain ⟨y,hy⟩:∃ y,rd T kk = y:=⟨_,rfl⟩
          obtain ⟨z,hz⟩:∃ z,rd T 0 = z:=⟨_,rfl⟩
          have HEL:=zA HE2.out.2
          have HE3:=zA (show spec_l91Map.l1 ee n (wrap64 (i+1)) s0_0 q3 ((T.set 0 y).set kk.toNat z) Fl = some (r1,r2,r3) from hy ▸ hz ▸ HE2.out.1)
          rw [hz] at x0'
          obtain ⟨x1,f1⟩:=Kd.R_celln 0 HL6.out.2.2.2.2.1 kk HK.out.1 HK.out.2
          have x1':wc.cell? ⟨bt,kk.toNat,none⟩ = some (.int .i64 y):=by rw [← hy];exact x1
          have f0':wc.frozen? ⟨bt,0,none⟩ = false:=f0
          rw [hz]
          clear x0 x1 f0 hy hz f1
          go_cut [] (fun we=>Aside0 (spec_l91Map.L1 w0 w we g s0_0 q3 g4 g9 (.slice (some ⟨bt,0,none⟩) T.length mt) (.slice A7 Fl.length m7) (T.set 0 y) Fl))
          case first =>
           go_region
           all_goals go_wp2
           all_goals go_meet
           case rel=>exact ⟨(HL6.out.putT HL.out 0 y).below (Below.refl _ _).drew⟩
          case rest =>
           have HL7:=hcut
           clear HL6 hcut hm0 x0' x1' f0' HE2
           obtain ⟨x2,f2⟩:=Kd.R_celln 0 HL7.out.2.2.2.2.1 kk HK.out.1 HK.out.2
           have hm0:wc.cell? ⟨g9,0,none⟩ = some (.slice (some ⟨bt,0,none⟩) T.length mt):=(zT HL7.out.2.2.2.1 0).trans rfl
           go_wp2
           go_roundg ee
           case measure=>have:=HEL.out;omega
           case rel=>exact ⟨(T.set 0 y).set kk.toNat z,wrap64 (i+1),rfl,HE3,⟨by rw [HEU.out];exact HL7.out.putT HL.out kk z⟩⟩
       ·rw [if_neg c1] at h
        have c1b:decide (i < n) = false:=zP c1
        have HE:=zA h
        clear h c1
        go_wp2
        go_meet
        case rel =>
         cases d' with
         | zero=>have:=HE.out;simp [spec_l91Map.j2] at this
         | succ d''=>exact ⟨d'',T,i,HE,HL1⟩
    case rest =>
     clear HL1 HE
     obtain ⟨e,T,i,HE,HL1⟩:=hcut
     have h:=HE.out
     simp only [spec_l91Map.j2,Bool.false_eq_true,if_false] at h
     obtain ⟨⟨cc,q4⟩,h5,h⟩:=zz0 h
     simp only at h
     have H5:=zA h5
     have HH:=zA h
     clear h5 h HE
     go_upto_block 6 with (go_at_call 90;refine (spec_l6Rd_pick.calls e g s0_0 q3 50 cc q4 w0 wc HL1.out.1.1 HL1.out.1.2.1 H5.out).mono ?_;rintro e' w6 ⟨rfl,hi,hb,hk⟩;have HL6:=zA (HL1.out.call hi hb hk);clear hi hb hk)
     clear HL1 H5
     have htl:=(zU HL6.out.2.2.2.2.1).1
     go_cut [] (fun wd => ∃ (u v:Value),Aside0 (wd.heap[g9]? = some (.cells #[u,v] 27 (0,0)))∧Aside0 (g4≠g9)∧Aside0 (spec_l91Map.L2 w0 w wd g s0_0 r3 g4 u v r1 r2))
     case first =>
      by_cases c0:cc = 0
      ·have h:=HH.out
       rw [if_pos c0] at h
       subst c0
       by_cases c1:¬ 0 < (Fl.length:Int)
       ·rw [if_neg c1] at h;cases h
       replace c1:=Classical.not_not.mp c1
       rw [if_pos c1] at h
       simp only [Option.some.injEq,Prod.mk.injEq] at h
       obtain ⟨rfl,rfl,rfl⟩:=h
       have i4:0 < Fl.length:=by omega
       obtain ⟨bf,mf,eu,_⟩:=Kd.R_form HL6.out.2.2.2.2.2.1 i4
       have HL7:=zA (show spec_l91Map.L1 w0 w w6 g s0_0 q4 g4 g9 (.slice Au tl mu) (.slice (some ⟨bf,0,none⟩) Fl.length mf) T Fl from eu ▸ HL6.out)
       obtain ⟨x0,f0⟩:=Kd.R_celln 0 HL7.out.2.2.2.2.2.1 0 (by omega) (by omega)
       have f0':w6.frozen? ⟨bf,0,none⟩ = false:=f0
       have x0':w6.cell? ⟨bf,0,none⟩ = some (.int .i64 (rd Fl 0)):=x0
       have hm1:w6.cell? ⟨g9,1,none⟩ = some (.slice (some ⟨bf,0,none⟩) Fl.length mf):=(zT HL7.out.2.2.2.1 1).trans rfl
       clear HL6 HH eu x0 f0 c1 htl
       go_wp2
       go_meet
       case rel=>have h:=HL7.out.putF HL.out 0 0;exact ⟨_,_,⟨h.2.2.2.1⟩,⟨h.2.1.2.2⟩,⟨h.whole⟩⟩
      ·have h:=HH.out
       rw [if_neg c0] at h
       have c0b:(cc == 0) = false:=beq_eq_false_iff_ne.mpr c0
       by_cases c1:cc = 1
       ·rw [if_pos c1] at h
        subst c1
        by_cases c2:¬ 1≤(T.length:Int)
        ·rw [if_neg c2] at h;cases h
        replace c2:=Classical.not_not.mp c2
        rw [if_pos c2] at h
        simp only [Option.some.injEq,Prod.mk.injEq] at h
        obtain ⟨rfl,rfl,rfl⟩:=h
        rw [htl] at HL6
        obtain ⟨i0,hi0,hz0,hsz0,_⟩:=info_parts info3
        have hcut:=cut_from (P:=Try.prog) 23 3 .i64 Try.underlying23 hi0 1 hsz0 Au T.length mu 1 (by omega) c2
        obtain ⟨u',hu'⟩:∃ u',u' = Value.slice (if mu = (1:Int).toNat then Au else Au.map (·.add ((1:Int).toNat * 1))) (T.length - (1:Int).toNat) (mu - (1:Int).toNat):=⟨_,rfl⟩
        have HU:=zA hu'
        obtain ⟨A2,hA2⟩:∃ A1,A1 = (if mu = (1:Int).toNat then Au else Au.map (·.add ((1:Int).toNat * 1))):=⟨_,rfl⟩
        obtain ⟨l2,hl2⟩:∃ l2,l2 = T.length - (1:Int).toNat:=⟨_,rfl⟩
        obtain ⟨m2,hm2⟩:∃ m2,m2 = mu - (1:Int).toNat:=⟨_,rfl⟩
        rw [← hA2, ← hl2, ← hm2] at hcut hu'
        subst hu'
        have hm0:w6.cell? ⟨g9,0,none⟩ = some (.slice Au T.length mu):=(zT HL6.out.2.2.2.1 0).trans rfl
        have hf0:=zZ HL6.out.2.2.2.1 0
        have HC2:=zA c2
        clear HH htl c0 c2 hA2 hl2 hm2 hi0 hz0 hsz0
        go_wp2
        go_meet
        case rel=>exact ⟨_,_,⟨blk_put HL6.out.2.2.2.1 0 _ rfl⟩,⟨HL6.out.2.1.2.2⟩,⟨HL6.out.cut HL.out (1:Int).toNat (by have:=HC2.out;omega) _ HU.out⟩⟩
       ·rw [if_neg c1] at h
        have c1b:(cc == 1) = false:=beq_eq_false_iff_ne.mpr c1
        by_cases c2:cc = 2
        ·rw [if_pos c2] at h
         subst c2
         by_cases c3:¬ 0 < (T.length:Int)
         ·rw [if_neg c3] at h;cases h
         replace c3:=Classical.not_not.mp c3
         rw [if_pos c3] at h
         simp only [Option.some.injEq,Prod.mk.injEq] at h
         obtain ⟨rfl,rfl,rfl⟩:=h
         have i4:0 < T.length:=by omega
         obtain ⟨bt,mt,eu,_⟩:=Kd.R_form HL6.out.2.2.2.2.1 i4
         have HL7:=zA (show spec_l91Map.L1 w0 w w6 g s0_0 q4 g4 g9 (.slice (some ⟨bt,0,none⟩) T.length mt) (.slice A7 Fl.length m7) T Fl from eu ▸ HL6.out)
         obtain ⟨x0,f0⟩:=Kd.R_celln 0 HL7.out.2.2.2.2.1 0 (by omega) (by omega)
         have f0':w6.frozen? ⟨bt,0,none⟩ = false:=f0
         have x0':w6.cell? ⟨bt,0,none⟩ = some (.int .i64 (rd T 0)):=x0
         have hm0:w6.cell? ⟨g9,0,none⟩ = some (.slice (some ⟨bt,0,none⟩) T.length mt):=(zT HL7.out.2.2.2.1 0).trans rfl
         clear HL6 HH eu x0 f0 c3 htl c0 c1 
         go_wp2
         go_meet
         case rel=>have h:=HL7.out.putT HL.out 0 n;exact ⟨_,_,⟨h.2.2.2.1⟩,⟨h.2.1.2.2⟩,⟨h.whole⟩⟩
        ·rw [if_neg c2] at h
         have c2b:(cc == 2) = false:=beq_eq_false_iff_ne.mpr c2
         simp only [Option.some.injEq,Prod.mk.injEq] at h
         obtain ⟨rfl,rfl,rfl⟩:=h
         clear HH htl c0 c1 c2
         go_wp2
         go_meet
         case rel=>exact ⟨_,_,⟨HL6.out.2.2.2.1⟩,⟨HL6.out.2.1.2.2⟩,⟨HL6.out.whole⟩⟩
     case rest =>
      clear HL6 HH htl
      obtain ⟨u,v,H9,HNE,HL2⟩:=hcut
      obtain ⟨Au',cu',hu',_⟩:=Kd.Q_slice HL2.out.2.2.2.1
      subst hu'
      obtain ⟨Av',cv',hv'⟩:=zg HL2.out.2.2.2.2
      subst hv'
      have hm0:wc.cell? ⟨g9,0,none⟩ = some (.slice Au' r1.length cu'):=(zT H9.out 0).trans rfl
      have hm1:wc.cell? ⟨g9,1,none⟩ = some (.slice Av' r2.length cv'):=(zT H9.out 1).trans rfl
      have hn0:wc.cell? ⟨g4,0,none⟩ = some (.slice none 0 0):=(zT HL2.out.2.2.1 0).trans rfl
      have hn1:wc.cell? ⟨g4,1,none⟩ = some (.slice none 0 0):=(zT HL2.out.2.2.1 1).trans rfl
      have hf0:=zZ HL2.out.2.2.1 0
      have hf1:=zZ HL2.out.2.2.1 1
      have hne:=HNE.out
      have hne':=HNE.out.symm
      have HE:=zA (HL2.out.last HL.out)
      go_wp2
      refine bodyPost_ret (results_cell_row rfl _ _ g4 27 #[.slice Au' r1.length cu',.slice Av' r2.length cv'] (0,0) _ rfl HE.out.2.1 Try.underlying27 rfl (by kernel_rfl)) rfl ?_
      exact ⟨_,_,rfl,HE.out.2.2.1,HE.out.2.2.2,HE.out.1.1,HE.out.1.2.1,HE.out.1.2.2⟩

/-! ### spec_l91At: function 115 -/
def spec_l91At.j0:Nat→Int→Bool→List Int→Int→Option (Int × Int)
 | 0,_,_,_,_=>none
 | k+1,x1,x11,x1000,x1001=>if x11 = true then ((some (([(-1),x1]:List Int):List Int)).bind fun y566=>((spec_l6Rd_pick.f k x1000 x1001 2).bind fun bt569=>(if 0≤bt569.1 then (if bt569.1 < (y566.length:Int) then (some (rd y566 bt569.1,bt569.2)) else (none)) else (none)))) else ((spec_l6Rd_pick.f k x1000 x1001 x1).bind fun bt572=>(some (bt572.1,bt572.2)))
def spec_l91At.f (k:Nat) (s0_0:List Int) (s0_1:Int) (a1:Int):Option (Int × Int):=if a1 = 0 then (spec_l91At.j0 k a1 true s0_0 s0_1) else ((spec_l6Rd_pick.f k s0_0 s0_1 20).bind fun bt564=>(spec_l91At.j0 k a1 (bt564.1 == 0) s0_0 bt564.2))
theorem spec_l91At.mono_l:∀ k,(∀ y0 y1 y2 y3,LeO (spec_l91At.j0 k y0 y1 y2 y3) (spec_l91At.j0 (k+1) y0 y1 y2 y3))
 | 0=>fun _ _ _ _ r h=>by simp [spec_l91At.j0] at h
 | k+1=>by
  have ih0:=spec_l91At.mono_l k
  ·intro y0 y1 y2 y3
   unfold spec_l91At.j0
   repeat' first
   | (with_reducible exact ih0 _ _ _ _)
   | (with_reducible exact spec_l6Rd_pick.mono _ _ _ _)
   | (with_reducible exact LeO.refl _)
   | (with_reducible exact za _)
   | (with_reducible refine zc ?_ ?_)
   | (with_reducible refine zb ?_ (fun _=>?_))
theorem spec_l91At.mono:∀ a0 a1 a2 k,LeO (spec_l91At.f k a0 a1 a2) (spec_l91At.f (k+1) a0 a1 a2):=by
 intro a0 a1 a2 k
 have ih0:=spec_l91At.mono_l k
 unfold spec_l91At.f
 repeat' first
   | (with_reducible exact ih0 _ _ _ _)
   | (with_reducible exact spec_l6Rd_pick.mono _ _ _ _)
   | (with_reducible exact LeO.refl _)
   | (with_reducible exact za _)
   | (with_reducible refine zc ?_ ?_)
   | (with_reducible refine zb ?_ (fun _=>?_))
set_option maxHeartbeats 8000000 in
set_option maxRecDepth 100000 in
theorem spec_l91At.calls (k:Nat) (g:Nat) (s0_0:List Int) (s0_1:Int) (a1:Int) (r1:Int) (r2:Int) (w0 w:World) (hI:IsS84 w0 w g s0_0 s0_1) (hB:Below w0.heap.size w0 w) (h:spec_l91At.f k s0_0 s0_1 a1 = some (r1,r2)) :
  Calls Try.prog 115 #[.pointer (some ⟨g,0,none⟩),.int .i64 a1] w fun e w'=>e = .returned (.int .i64 r1)∧IsS84 w0 w' g s0_0 r2∧Below w0.heap.size w0 w'∧KeepBut w w' g none:=by
 have HI0:=zA hI
 have HK:=zA (KeepBut.refl w g none)
 have HL:=zA hB.size
 clear hI
 have HW0:=zA hB.size
 have HB:=zA hB
 clear hB
 have H:(if a1 = 0 then (spec_l91At.j0 k a1 true s0_0 s0_1) else ((spec_l6Rd_pick.f k s0_0 s0_1 20).bind fun bt564=>(spec_l91At.j0 k a1 (bt564.1 == 0) s0_0 bt564.2))) = some (r1,r2):=h
 clear h
 have HC3:=zA H
 clear H
 go_enter Try.func115,Try.ntmps115
 go_upto_region 1 with (fail)
 go_cut [11] (fun v11 wc => ∃ (kq:Nat) (x11_2:Bool) (x1001_2:Int),v11 = .bool x11_2∧Aside0 (spec_l91At.j0 kq a1 x11_2 s0_0 x1001_2 = some (r1,r2))∧Aside0 (kq≤k)∧Aside0 (IsS84 w0 wc g s0_0 x1001_2)∧Aside0 (KeepBut w wc g none)∧Aside0 (Below w0.heap.size w0 wc))
 case first =>
  have H:=HC3.out
  clear HC3
  by_cases c4:a1 = 0
  ·rw [if_pos c4] at H
   have c4b0:(a1 == 0) = true:=beq_iff_eq.mpr c4
   have c4b1:(a1 != 0) = false:=bne_eq_false_iff_eq.mpr c4
   clear c4
   (first|rw [c4b0]|(simp only [i64_w,i32_w];rw [c4b0])|skip)
   have H':=zA H
   clear H
   go_wp2
   go_meet
   case rel=>exact ⟨_,(true),(s0_1),(by first|rfl|(simp;done)|(simp [*];done)),H',⟨by first|omega|exact Nat.le_refl _⟩,⟨by repeat (first|(with_reducible first|exact HI0.out|apply IsS84.alloc|apply IsS84.drewN|apply IsS84.drew|apply IsS84.set_1)|exact HI0.out)⟩,⟨by repeat (first|(with_reducible first|exact HK.out|apply KeepBut.set_|apply keep_drewN|apply keep_drew|apply keep_alloc)|exact HK.out)⟩,⟨by repeat (first|(with_reducible first|exact HB.out|apply zD|apply zB|apply zC|refine zF ?_ (IsS84.ge HI0.out))|exact HB.out)⟩⟩
  ·rw [if_neg c4] at H
   have c4b0:(a1 == 0) = false:=beq_eq_false_iff_ne.mpr c4
   have c4b1:(a1 != 0) = true:=bne_iff_ne.mpr c4
   (first|rw [c4b0]|(simp only [i64_w,i32_w];rw [c4b0])|skip)
   replace H:=zz0 H
   obtain ⟨⟨t564,t565⟩,A50,H⟩:=H
   try dsimp only at H
   have A5:=zA A50
   clear A50
   have H':=zA H
   clear H
   go_wp2_with (first|(go_at_call 90;(with_reducible refine (spec_l6Rd_pick.calls k g s0_0 s0_1 20 t564 t565 w0 _ ?side1 ?side2 A5.out).mono ?_);(case side1=>repeat (first|(with_reducible first|exact HI0.out|apply IsS84.alloc|apply IsS84.drewN|apply IsS84.drew|apply IsS84.set_1)|exact HI0.out));(case side2=>repeat (first|(with_reducible first|exact HB.out|apply zD|apply zB|apply zC|refine zF ?_ (IsS84.ge HI0.out))|exact HB.out));rintro e w6 ⟨rfl,hi,hb,hk⟩;have n0_:=zA (KeepBut.trans (by repeat (first|(with_reducible first|exact HK.out|apply KeepBut.set_|apply keep_drewN|apply keep_drew|apply keep_alloc)|exact HK.out)) hk (.inl rfl));have n1_:=zA (hb);have n2_:=zA (hi);clear HK;clear HB;clear HI0;have HK:=n0_;have HB:=n1_;have HI0:=n2_;clear n0_ n1_ n2_;(try clear hb);(try clear hb2);(try clear hk);(try clear hi)))
   go_meet
   case rel=>exact ⟨_,((t564 == 0)),(t565),(by first|rfl|(simp;done)|(simp [*];done)),H',⟨by first|omega|exact Nat.le_refl _⟩,⟨by repeat (first|(with_reducible first|exact HI0.out|apply IsS84.alloc|apply IsS84.drewN|apply IsS84.drew|apply IsS84.set_1)|exact HI0.out)⟩,⟨by repeat (first|(with_reducible first|exact HK.out|apply KeepBut.set_|apply keep_drewN|apply keep_drew|apply keep_alloc)|exact HK.out)⟩,⟨by repeat (first|(with_reducible first|exact HB.out|apply zD|apply zB|apply zC|refine zF ?_ (IsS84.ge HI0.out))|exact HB.out)⟩⟩
 case rest =>
  clear HC3
  (try clear c1);(try clear p2);(try clear c4);(try clear c4b0);(try clear c4b1)
  obtain ⟨kq,x11_2,x1001_2,rfl,HA,HJ2,HI0,HK,HB⟩:=hcut
  cases kq with
  | zero=>exact absurd HA.out (by simp [spec_l91At.j0])
  | succ kj2 =>
   have H:=HA.out
   clear HA
   simp only [spec_l91At.j0] at H
   by_cases c7:x11_2 = true
   ·subst c7
    rw [if_pos rfl] at H;try dsimp only at H
    obtain ⟨y566,hy566⟩:∃ y_:List Int,y_ = (([(-1),a1]:List Int)):=⟨_,rfl⟩
    replace H:((spec_l6Rd_pick.f kj2 s0_0 x1001_2 2).bind fun bt569=>(if 0≤bt569.1 then (if bt569.1 < (y566.length:Int) then (some (rd y566 bt569.1,bt569.2)) else (none)) else (none))) = some (r1,r2):=by (try rw [hy566]);first|with_reducible exact H|with_reducible exact zS_ H|exact H
    have Ny566:=zA hy566
    clear hy566
    replace H:=zz0 H
    obtain ⟨⟨t569,t570⟩,A80,H⟩:=H
    try dsimp only at H
    have A8:=zA A80
    clear A80
    by_cases c9:0≤t569
    ·rw [if_pos c9] at H
     have c9b0:decide (0≤t569) = true:=zO c9
     clear c9
     by_cases c10:t569 < (y566.length:Int)
     ·rw [if_pos c10] at H
      have c10b0:decide (t569 < (y566.length:Int)) = true:=zO c10
      clear c10
      simp only [Option.some.injEq,Prod.mk.injEq] at H
      obtain ⟨rfl,rfl⟩:=H
      go_wp2_with (first|((with_reducible refine gate_dst (N:=13) rfl ?_);refine Kd.R_lit (Kd.int .i64) _ 3 ?hg (N:=13) ?hd (xs:=([(-1),a1]:List Int)) (inner:=[.int .i64 (-1),.int .i64 a1]) (ok:=fun _=>True) (okp:=fun _=>True) ?hr ?hp (fun _ hk=>hk) trivial (Below.refl _ _) (Nat.le_refl _) (by simp) ?_;(case hd=>rfl);(case hg=>rfl);(case hr=>first|(go_simp;done)|(go_simp;rfl));(case hp=>exact (Reps.one (show Kd.M (Kd.int .i64) _ _ _ (-1) [.int .i64 (-1)] from rfl) (Reps.one (show Kd.M (Kd.int .i64) _ _ _ a1 [.int .i64 a1] from rfl) (Reps.none _ _))));intro v567 w11 ho12 hb hg_ hnew_;clear hg_ hnew_;(first|rw [← Ny566.out] at ho12|(simp only [Int.reduceToNat] at ho12;rw [← Ny566.out] at ho12));have n0_:=zA (ze ho12 (keep_size (w:=w) (g:=g) (row:=none) (by repeat (first|(with_reducible first|exact HK.out|apply KeepBut.set_|apply keep_drewN|apply keep_drew|apply keep_alloc)|exact HK.out))));have n1_:=zA (IsS84.below (by repeat (first|(with_reducible first|exact HI0.out|apply IsS84.alloc|apply IsS84.drewN|apply IsS84.drew|apply IsS84.set_1)|exact HI0.out)) hb);have n2_:=zA (KeepBut.trans (by repeat (first|(with_reducible first|exact HK.out|apply KeepBut.set_|apply keep_drewN|apply keep_drew|apply keep_alloc)|exact HK.out)) (KeepBut.of_below hb g none) (.inl rfl));have n3_:=zA (zR (by repeat (first|(with_reducible first|exact HB.out|apply zD|apply zB|apply zC|refine zF ?_ (IsS84.ge HI0.out))|exact HB.out)) hb);clear HI0;clear HK;clear HB;have HO568:=n0_;have HI0:=n1_;have HK:=n2_;have HB:=n3_;clear n0_ n1_ n2_ n3_;clear hb ho12)|((with_reducible refine gate_callee (f:=90) rfl ?_);refine goesL_ (some 15) rfl rfl Try.func90 (by kernel_rfl) rfl #[.pointer (some ⟨g,0,none⟩),.int .i64 2] rfl (by (try simp only [zJ,zM,zN]);first|done|rfl|(simp only [zL,zK];rfl)) ?_;(with_reducible refine (spec_l6Rd_pick.calls kj2 g s0_0 x1001_2 2 t569 t570 w0 _ ?side1 ?side2 A8.out).mono ?_);(case side1=>repeat (first|(with_reducible first|exact HI0.out|apply IsS84.alloc|apply IsS84.drewN|apply IsS84.drew|apply IsS84.set_1)|exact HI0.out));(case side2=>repeat (first|(with_reducible first|exact HB.out|apply zD|apply zB|apply zC|refine zF ?_ (IsS84.ge HI0.out))|exact HB.out));rintro e w13 ⟨rfl,hi,hb,hk⟩;refine ⟨_,rfl,?_⟩;have n0_:=zA (zV (Kd.R_keep (IsS84.apart (show IsS84 w0 _ g s0_0 x1001_2 from by repeat (first|(with_reducible first|exact HI0.out|apply IsS84.alloc|apply IsS84.drewN|apply IsS84.drew|apply IsS84.set_1)|exact HI0.out)) (by apply zR_;exact HO568.out) (by decide)) hk (fun _ h=>h.2)) (fun _ h=>h.1));have n1_:=zA (KeepBut.trans (by repeat (first|(with_reducible first|exact HK.out|apply KeepBut.set_|apply keep_drewN|apply keep_drew|apply keep_alloc)|exact HK.out)) hk (.inl rfl));have n2_:=zA (hb);have n3_:=zA (hi);clear HO568;clear HK;clear HB;clear HI0;have HO568:=n0_;have HK:=n1_;have HB:=n2_;have HI0:=n3_;clear n0_ n1_ n2_ n3_;(try clear hb);(try clear hb2);(try clear hk);(try clear hi);obtain ⟨Ao14,co14,eo14⟩:=zg HO568.out;subst eo14;have p571:0≤(t569:Int):=zE (by with_reducible assumption);have q571:t569 < (y566.length:Int):=zE (by with_reducible assumption);obtain ⟨ad571,e571,hx571_0⟩:=Kd.at_int (zU HO568.out).2.2 t569 p571 q571;cases e571;replace p571:=eq_true p571;replace q571:=eq_true q571))
      go_ret
      exact ⟨by first|rfl|(simp [errW_none,errW_some] <;> rfl)|(simp [*,errW_none,errW_some] <;> rfl),by repeat (first|(with_reducible first|exact HI0.out|apply IsS84.alloc|apply IsS84.drewN|apply IsS84.drew|apply IsS84.set_1)|exact HI0.out),by repeat (first|(with_reducible first|exact HB.out|apply zD|apply zB|apply zC|refine zF ?_ (IsS84.ge HI0.out))|exact HB.out),by repeat (first|(with_reducible first|exact HK.out|apply KeepBut.set_|apply keep_drewN|apply keep_drew|apply keep_alloc)|exact HK.out)⟩
     ·rw [if_neg c10] at H
      exact absurd H (by simp)
    ·rw [if_neg c9] at H
     exact absurd H (by simp)
   ·replace c7:=Bool.eq_false_iff.mpr c7
    subst c7
    have H1:((spec_l6Rd_pick.f kj2 s0_0 x1001_2 a1).bind fun bt572=>(some (bt572.1,bt572.2))) = some (r1,r2):=by rw [if_neg (show ¬ (false = true) by decide)] at H;exact H
    clear H
    have H:=H1
    clear H1
    replace H:=zz0 H
    obtain ⟨⟨t572,t573⟩,A150,H⟩:=H
    try dsimp only at H
    have A15:=zA A150
    clear A150
    simp only [Option.some.injEq,Prod.mk.injEq] at H
    obtain ⟨rfl,rfl⟩:=H
    go_wp2_with (first|((with_reducible refine gate_callee (f:=90) rfl ?_);refine goesL_ (some 20) rfl rfl Try.func90 (by kernel_rfl) rfl #[.pointer (some ⟨g,0,none⟩),.int .i64 a1] rfl (by (try simp only [zJ,zM,zN]);first|done|rfl|(simp only [zL,zK];rfl)) ?_;(with_reducible refine (spec_l6Rd_pick.calls kj2 g s0_0 x1001_2 a1 t572 t573 w0 _ ?side1 ?side2 A15.out).mono ?_);(case side1=>repeat (first|(with_reducible first|exact HI0.out|apply IsS84.alloc|apply IsS84.drewN|apply IsS84.drew|apply IsS84.set_1)|exact HI0.out));(case side2=>repeat (first|(with_reducible first|exact HB.out|apply zD|apply zB|apply zC|refine zF ?_ (IsS84.ge HI0.out))|exact HB.out));rintro e w16 ⟨rfl,hi,hb,hk⟩;refine ⟨_,rfl,?_⟩;have n0_:=zA (KeepBut.trans (by repeat (first|(with_reducible first|exact HK.out|apply KeepBut.set_|apply keep_drewN|apply keep_drew|apply keep_alloc)|exact HK.out)) hk (.inl rfl));have n1_:=zA (hb);have n2_:=zA (hi);clear HK;clear HB;clear HI0;have HK:=n0_;have HB:=n1_;have HI0:=n2_;clear n0_ n1_ n2_;(try clear hb);(try clear hb2);(try clear hk);(try clear hi)))
    go_ret
    exact ⟨by first|rfl|(simp [errW_none,errW_some] <;> rfl)|(simp [*,errW_none,errW_some] <;> rfl),by repeat (first|(with_reducible first|exact HI0.out|apply IsS84.alloc|apply IsS84.drewN|apply IsS84.drew|apply IsS84.set_1)|exact HI0.out),by repeat (first|(with_reducible first|exact HB.out|apply zD|apply zB|apply zC|refine zF ?_ (IsS84.ge HI0.out))|exact HB.out),by repeat (first|(with_reducible first|exact HK.out|apply KeepBut.set_|apply keep_drewN|apply keep_drew|apply keep_alloc)|exact HK.out)⟩

end Go.Proofs.Ytonlecigglbohaa.Q
