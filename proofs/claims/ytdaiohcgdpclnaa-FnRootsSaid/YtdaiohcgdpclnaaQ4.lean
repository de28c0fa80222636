import Derived.Test.YtdaiohcgdpclnaaQ0
import Derived.Test.YtdaiohcgdpclnaaQ2
import Derived.Test.YtdaiohcgdpclnaaZ
namespace Go.Proofs.Ytdaiohcgdpclnaa.Q
open Go.RowKit Go.Proofs.YtdaiohcgdpclnaaW.PrintWords Go.Proofs.YtdaiohcgdpclnaaW.PrintLast Go.Proofs.YtdaiohcgdpclnaaW.PrintMore
attribute [local go_sem] max2_int min2_int max_two min_two max_three min_three max_four min_four   -- for this text's walks alone
set_option linter.unusedVariables false
set_option linter.unusedSimpArgs false

/-- A state of type 68 at block g of W; what its slices lead to came in by w0. -/
def IsS68 (w0 W : World) (g : Nat) (f0 : List Int) (f1 : Int) : Prop := ∃ A0 c0, W.heap[g]? = some (.cells #[.slice A0 f0.length c0, .int .i64 f1] 68 (0, 0)) ∧ w0.heap.size ≤ g ∧ Kd.C (Kd.int .u8) w0 A0 f0.length f0
theorem IsS68.grown {w0 W : World} {g : Nat} {f0 : List Int} {f1 : Int} {W1 : World} {row : Option Nat} (h : IsS68 w0 W g f0 f1) (hw : W.grownBy W1 row) (hne : some g ≠ row) : IsS68 w0 W1 g f0 f1 := by
  obtain ⟨A0, c0, hb, hg, hr0⟩ := h
  exact ⟨A0, c0, blk_grown hb hw hne, hg, hr0⟩
theorem IsS68.own_neN {w0 W : World} {g : Nat} {f0 : List Int} {f1 : Int} {α : Type} {d : Kd α} {e : Nat} {base : Nat} {ok : Nat → Prop} {v : Value} {xs : List α} (h : IsS68 w0 W g f0 f1) (ho : Kd.N d e W base ok v xs) (ht : e ≠ 68) : some g ≠ v.ownBlock := by
  obtain ⟨A0, c0, hb, hg, hr0⟩ := h
  exact Kd.N_ne ho hb ht
theorem IsS68.fresh {w0 W : World} {g : Nat} {f0 : List Int} {f1 : Int} (h : IsS68 w0 W g f0 f1) : ∀ k, W.heap.size ≤ k → k ≠ g := by
  obtain ⟨A0, c0, hb, hg, hr0⟩ := h
  exact Kd.freshB hb
theorem IsS68.kept {w0 W : World} {g : Nat} {f0 : List Int} {f1 : Int} {W1 : World} {S : Nat → Prop} (h : IsS68 w0 W g f0 f1) (hk : Kept W W1 S) (hne : ¬ S g) : IsS68 w0 W1 g f0 f1 := by
  obtain ⟨A0, c0, hb, hg, hr0⟩ := h
  exact ⟨A0, c0, blk_kept hb hk hne, hg, hr0⟩
theorem IsS68.below {w0 W : World} {g : Nat} {f0 : List Int} {f1 : Int} {W1 : World} (h : IsS68 w0 W g f0 f1) (hw : Below W.heap.size W W1) : IsS68 w0 W1 g f0 f1 := h.grown (grown_of_below hw none) (by simp)
theorem IsS68.alloc {w0 W : World} {g : Nat} {f0 : List Int} {f1 : Int} (h : IsS68 w0 W g f0 f1) (o : Obj) : IsS68 w0 (W.alloc o) g f0 f1 := h.below (below_alloc (Below.refl _ _) o)
theorem IsS68.drewN {w0 W : World} {g : Nat} {f0 : List Int} {f1 : Int} (h : IsS68 w0 W g f0 f1) (m : Nat) : IsS68 w0 (W.drewN m) g f0 f1 := h
theorem IsS68.drew {w0 W : World} {g : Nat} {f0 : List Int} {f1 : Int} (h : IsS68 w0 W g f0 f1) : IsS68 w0 W.drew g f0 f1 := h
theorem IsS68.at_ {w0 W : World} {g : Nat} {f0 : List Int} {f1 : Int} {w' : World} {m : Nat} (hq : W.drewN m = w') (h : IsS68 w0 W g f0 f1) : IsS68 w0 w' g f0 f1 := by subst hq; exact IsS68.drewN h m
theorem IsS68.apart {w0 W : World} {g : Nat} {f0 : List Int} {f1 : Int} {α : Type} {d : Kd α} {e : Nat} {base : Nat} {ok : Nat → Prop} {v : Value} {xs : List α} (h : IsS68 w0 W g f0 f1) (ho : d.R e W base ok v xs) (ht : ∀ q, q ∈ e :: d.E → q ≠ 68) : d.R e W base (fun k => ok k ∧ k ≠ g) v xs := by
  obtain ⟨A0, c0, hb, hg, hr0⟩ := h
  exact Kd.R_types ho hb ht
theorem IsS68.own_ne {w0 W : World} {g : Nat} {f0 : List Int} {f1 : Int} {α : Type} {d : Kd α} {e : Nat} {base : Nat} {ok : Nat → Prop} {v : Value} {xs : List α} (h : IsS68 w0 W g f0 f1) (ho : d.R e W base ok v xs) (ht : e ≠ 68) : some g ≠ v.ownBlock := by
  obtain ⟨A0, c0, hb, hg, hr0⟩ := h
  exact Kd.R_ne ho hb ht
theorem IsS68.apartQ {w0 W : World} {g : Nat} {f0 : List Int} {f1 : Int} {α : Type} {d : Kd α} {e : Nat} {base : Nat} {ok : Nat → Prop} {v : Value} {xs : List α} (h : IsS68 w0 W g f0 f1) (ho : d.Q e W base ok v xs) (ht : ∀ q, q ∈ e :: d.E → q ≠ 68) : d.Q e W base (fun k => ok k ∧ k ≠ g) v xs := by
  obtain ⟨A0, c0, hb, hg, hr0⟩ := h
  exact Kd.Q_types ho hb ht
theorem IsS68.own_neQ {w0 W : World} {g : Nat} {f0 : List Int} {f1 : Int} {α : Type} {d : Kd α} {e : Nat} {base : Nat} {ok : Nat → Prop} {v : Value} {xs : List α} (h : IsS68 w0 W g f0 f1) (ho : d.Q e W base ok v xs) (ht : e ≠ 68) : some g ≠ v.ownBlock := by
  obtain ⟨A0, c0, hb, hg, hr0⟩ := h
  exact Kd.Q_ne ho hb ht
theorem IsS68.apartS {w0 W : World} {g : Nat} {f0 : List Int} {f1 : Int} {α : Type} {d : Kd α} {e : Nat} {base : Nat} {ok : Nat → Prop} {v : Value} {xs : List α} (h : IsS68 w0 W g f0 f1) (ho : d.S e W base ok v xs) (ht : ∀ q, q ∈ e :: d.E → q ≠ 68) : d.S e W base (fun k => ok k ∧ k ≠ g) v xs := by
  obtain ⟨A0, c0, hb, hg, hr0⟩ := h
  exact Kd.S_types ho hb ht
theorem IsS68.own_neS {w0 W : World} {g : Nat} {f0 : List Int} {f1 : Int} {α : Type} {d : Kd α} {e : Nat} {base : Nat} {ok : Nat → Prop} {v : Value} {xs : List α} (h : IsS68 w0 W g f0 f1) (ho : d.S e W base ok v xs) (ht : e ≠ 68) : some g ≠ v.ownBlock := by
  obtain ⟨A0, c0, hb, hg, hr0⟩ := h
  exact Kd.S_ne ho hb ht
theorem IsS68.lt {w0 W : World} {g : Nat} {f0 : List Int} {f1 : Int} (h : IsS68 w0 W g f0 f1) : g < W.heap.size := by
  obtain ⟨A0, c0, hb, hg, hr0⟩ := h
  exact blk_lt hb
theorem IsS68.ge {w0 W : World} {g : Nat} {f0 : List Int} {f1 : Int} (h : IsS68 w0 W g f0 f1) : w0.heap.size ≤ g := by
  obtain ⟨A0, c0, hb, hg, hr0⟩ := h
  exact hg
theorem IsS68.ne_blk {w0 W : World} {g : Nat} {f0 : List Int} {f1 : Int} {a : Nat} {cs : Array Value} {t : TypeId} {fr : Nat × Nat} (h : IsS68 w0 W g f0 f1) (hb2 : W.heap[a]? = some (.cells cs t fr)) (ht : t ≠ 68) : g ≠ a := by
  obtain ⟨A0, c0, hb, hg, hr0⟩ := h
  rintro rfl
  rw [hb] at hb2
  injection hb2 with hb2
  injection hb2 with _ ht2
  exact ht ht2.symm
theorem IsS68.far {w0 W : World} {g : Nat} {f0 : List Int} {f1 : Int} {p : Addr} (h : IsS68 w0 W g f0 f1) (hne : g ≠ p.block) (u : Value) : IsS68 w0 (W.setCell p u) g f0 f1 := by
  obtain ⟨A0, c0, hb, hg, hr0⟩ := h
  exact ⟨A0, c0, blk_far hb hne u, hg, hr0⟩
theorem cellS68_0 {W : World} {g : Nat} {A0 : Option Addr} {c0 : Nat} {f0 : List Int} {f1 : Int} (h : W.heap[g]? = some (.cells #[.slice A0 f0.length c0, .int .i64 f1] 68 (0, 0))) : W.cell? ⟨g, 0, none⟩ = some (.slice A0 f0.length c0) := (blk_cell h 0).trans rfl
theorem cellS68_1 {W : World} {g : Nat} {A0 : Option Addr} {c0 : Nat} {f0 : List Int} {f1 : Int} (h : W.heap[g]? = some (.cells #[.slice A0 f0.length c0, .int .i64 f1] 68 (0, 0))) : W.cell? ⟨g, 1, none⟩ = some (.int .i64 f1) := (blk_cell h 1).trans rfl
theorem IsS68.set_1 {w0 W : World} {g : Nat} {f0 : List Int} {f1 : Int} (h : IsS68 w0 W g f0 f1) (x : Int) : IsS68 w0 (W.setCell ⟨g, 1, none⟩ (.int .i64 x)) g f0 x := by
  obtain ⟨A0, c0, hb, hg, hr0⟩ := h
  exact ⟨A0, c0, by simpa using blk_set hb 1 (.int .i64 x), hg, hr0⟩
theorem IsS68.new (w0 W : World) (A0 : Option Addr) (c0 : Nat) (f0 : List Int) (f1 : Int) (hB : Below w0.heap.size w0 W) (hr0 : Kd.C (Kd.int .u8) w0 A0 f0.length f0) : IsS68 w0 (W.alloc (.cells #[.slice A0 f0.length c0, .int .i64 f1] 68)) W.heap.size f0 f1 := ⟨A0, c0, by simpa using heap_alloc_new W _, hB.size, hr0⟩

/-! ### spec_l6Rd_pick: function 57 -/
def spec_l6Rd_pick.j0:Nat→Int→Bool→List Int→Int→Option (Int × Int)
 | 0,_,_,_,_=>none
 | k+1,x1,x24,x1000,x1001=>if x24 = true then (some (0,x1001)) else (if (wrap64 (x1001 - 1)) < (x1000.length:Int) then (if 0≤(wrap64 (x1001 - 1)) then (if x1 = 0 then (none) else (some (Int.tmod (wrap64 (rd x1000 (wrap64 (x1001 - 1)))) x1,x1001))) else (none)) else (if (x1000.length:Int) = 0 then (none) else (if 0≤(Int.tmod (wrap64 (x1001 - 1)) (x1000.length:Int)) then (if (Int.tmod (wrap64 (x1001 - 1)) (x1000.length:Int)) < (x1000.length:Int) then (if 0≤(Int.tmod (wrap64 ((wrap64 ((wrap64 (x1001 - 1)) * 7))+3)) (x1000.length:Int)) then (if (Int.tmod (wrap64 ((wrap64 ((wrap64 (x1001 - 1)) * 7))+3)) (x1000.length:Int)) < (x1000.length:Int) then (if x1 = 0 then (none) else (some (Int.tmod (Go.bits .xor .i64 (wrap64 ((wrap64 ((wrap64 ((wrap64 ((wrap64 (rd x1000 (Int.tmod (wrap64 (x1001 - 1)) (x1000.length:Int)))) * 131))+(wrap64 ((wrap64 (rd x1000 (Int.tmod (wrap64 ((wrap64 ((wrap64 (x1001 - 1)) * 7))+3)) (x1000.length:Int)))) * 1117))))+(wrap64 ((wrap64 (x1001 - 1)) * 29))))+(wrap64 ((wrap64 (Int.tdiv (wrap64 (x1001 - 1)) (x1000.length:Int))) * 53)))) (wrap64 (Int.tdiv (wrap64 ((wrap64 ((wrap64 ((wrap64 ((wrap64 (rd x1000 (Int.tmod (wrap64 (x1001 - 1)) (x1000.length:Int)))) * 131))+(wrap64 ((wrap64 (rd x1000 (Int.tmod (wrap64 ((wrap64 ((wrap64 (x1001 - 1)) * 7))+3)) (x1000.length:Int)))) * 1117))))+(wrap64 ((wrap64 (x1001 - 1)) * 29))))+(wrap64 ((wrap64 (Int.tdiv (wrap64 (x1001 - 1)) (x1000.length:Int))) * 53)))) 64))) x1,x1001))) else (none)) else (none)) else (none)) else (none))))
def spec_l6Rd_pick.f (k:Nat) (s0_0:List Int) (s0_1:Int) (a1:Int):Option (Int × Int):=if a1 < 1 then (spec_l6Rd_pick.j0 k a1 true s0_0 (wrap64 (s0_1+1))) else (spec_l6Rd_pick.j0 k a1 ((s0_0.length:Int) == 0) s0_0 (wrap64 (s0_1+1)))
theorem spec_l6Rd_pick.mono_l:∀ k,(∀ y0 y1 y2 y3,LeO (spec_l6Rd_pick.j0 k y0 y1 y2 y3) (spec_l6Rd_pick.j0 (k+1) y0 y1 y2 y3))
 | 0=>fun _ _ _ _ r h=>by simp [spec_l6Rd_pick.j0] at h
 | k+1=>by
  have ih0:=spec_l6Rd_pick.mono_l k
  ·intro y0 y1 y2 y3
   unfold spec_l6Rd_pick.j0
   repeat' first
   | (with_reducible exact ih0 _ _ _ _)
   | (with_reducible exact LeO.refl _)
   | (with_reducible exact za _)
   | (with_reducible refine zc ?_ ?_)
   | (with_reducible refine zb ?_ (fun _=>?_))
theorem spec_l6Rd_pick.mono:∀ a0 a1 a2 k,LeO (spec_l6Rd_pick.f k a0 a1 a2) (spec_l6Rd_pick.f (k+1) a0 a1 a2):=by
 intro a0 a1 a2 k
 have ih0:=spec_l6Rd_pick.mono_l k
 unfold spec_l6Rd_pick.f
 repeat' first
   | (with_reducible exact ih0 _ _ _ _)
   | (with_reducible exact LeO.refl _)
   | (with_reducible exact za _)
   | (with_reducible refine zc ?_ ?_)
   | (with_reducible refine zb ?_ (fun _=>?_))
set_option maxHeartbeats 8000000 in
set_option maxRecDepth 100000 in
theorem spec_l6Rd_pick.calls (k:Nat) (g:Nat) (s0_0:List Int) (s0_1:Int) (a1:Int) (r1:Int) (r2:Int) (w0 w:World) (hI:IsS68 w0 w g s0_0 s0_1) (hB:Below w0.heap.size w0 w) (h:spec_l6Rd_pick.f k s0_0 s0_1 a1 = some (r1,r2)) :
  Calls Try.prog 57 #[.pointer (some ⟨g,0,none⟩),.int .i64 a1] w fun e w'=>e = .returned (.int .i64 r1)∧IsS68 w0 w' g s0_0 r2∧Below w0.heap.size w0 w'∧KeepBut w w' g none:=by
 have HI0:=zA hI
 have HK:=zA (KeepBut.refl w g none)
 have HL:=zA hB.size
 clear hI
 have HW0:=zA hB.size
 have HB:=zA hB
 clear hB
 have H:(if a1 < 1 then (spec_l6Rd_pick.j0 k a1 true s0_0 (wrap64 (s0_1+1))) else (spec_l6Rd_pick.j0 k a1 ((s0_0.length:Int) == 0) s0_0 (wrap64 (s0_1+1)))) = some (r1,r2):=h
 clear h
 have HC3:=zA H
 clear H
 obtain ⟨ASz4_0,cSz4_0,HGz4,hgz4,HSz4_0⟩:=HI0.out
 have hcz4_0:=cellS68_0 HGz4
 have hcz4_1:=cellS68_1 HGz4
 have hfz4_1:=zZ HGz4 1
 clear HGz4 hgz4
 go_enter Try.func57,Try.ntmps57
 go_upto_region 2 with (fail)
 repeat (go_quiet (fail);go_upto_region 2 with (fail))
 go_cut [24] (fun v24 wc => ∃ (kq:Nat) (x24_2:Bool),v24 = .bool x24_2∧Aside0 (spec_l6Rd_pick.j0 kq a1 x24_2 s0_0 (wrap64 (s0_1+1)) = some (r1,r2))∧Aside0 (kq≤k)∧Aside0 (IsS68 w0 wc g s0_0 (wrap64 (s0_1+1)))∧Aside0 (KeepBut w wc g none)∧Aside0 (Below w0.heap.size w0 wc))
 case first =>
  have H:=HC3.out
  clear HC3
  by_cases c5:a1 < 1
  ·rw [if_pos c5] at H
   have c5b0:decide (a1 < 1) = true:=zO c5
   clear c5
   (first|rw [c5b0]|(simp only [i64_w,i32_w];rw [c5b0])|skip)
   have H':=zA H
   clear H
   go_wp2
   repeat (go_quiet (fail);try go_wp2)
   go_meet
   case rel=>exact ⟨_,(true),(by first|rfl|(simp;done)|(simp [*];done)),H',⟨by first|omega|exact Nat.le_refl _⟩,⟨by repeat (first|(with_reducible first|exact HI0.out|apply IsS68.alloc|apply IsS68.drewN|apply IsS68.drew|apply IsS68.set_1)|exact HI0.out)⟩,⟨by repeat (first|(with_reducible first|exact HK.out|apply KeepBut.set_|apply keep_drewN|apply keep_drew|apply keep_alloc)|exact HK.out)⟩,⟨by repeat (first|(with_reducible first|exact HB.out|apply zD|apply zB|apply zC|refine zF ?_ (IsS68.ge HI0.out))|exact HB.out)⟩⟩
  ·rw [if_neg c5] at H
   have c5b0:decide (a1 < 1) = false:=zP c5
   clear c5
   (first|rw [c5b0]|(simp only [i64_w,i32_w];rw [c5b0])|skip)
   have H':=zA H
   clear H
   obtain ⟨ASz6_0,cSz6_0,HGz6,hgz6,HSz6_0⟩:=HI0.out
   have hcz6_0:=cellS68_0 HGz6
   have hcz6_1:=cellS68_1 HGz6
   have hfz6_1:=zZ HGz6 1
   clear HGz6 hgz6
   go_wp2
   repeat (go_quiet (fail);try go_wp2)
   go_meet
   case rel=>exact ⟨_,(((s0_0.length:Int) == 0)),(by first|rfl|(simp;done)|(simp [*];done)),H',⟨by first|omega|exact Nat.le_refl _⟩,⟨by repeat (first|(with_reducible first|exact HI0.out|apply IsS68.alloc|apply IsS68.drewN|apply IsS68.drew|apply IsS68.set_1)|exact HI0.out)⟩,⟨by repeat (first|(with_reducible first|exact HK.out|apply KeepBut.set_|apply keep_drewN|apply keep_drew|apply keep_alloc)|exact HK.out)⟩,⟨by repeat (first|(with_reducible first|exact HB.out|apply zD|apply zB|apply zC|refine zF ?_ (IsS68.ge HI0.out))|exact HB.out)⟩⟩
 case rest =>
  clear HC3
  (try clear p2);(try clear c5);(try clear c5b0);(try clear p6);(try clear hcz4_0);(try clear hcz4_1);(try clear hcz6_0);(try clear hcz6_1);(try clear hfz4_1);(try clear hfz6_1)
  obtain ⟨kq,x24_2,rfl,HA,HJ2,HI0,HK,HB⟩:=hcut
  cases kq with
  | zero=>exact absurd HA.out (by simp [spec_l6Rd_pick.j0])
  | succ kj2 =>
   have H:=HA.out
   clear HA
   simp only [spec_l6Rd_pick.j0] at H
   by_cases c7:x24_2 = true
   ·subst c7
    rw [if_pos rfl] at H;try dsimp only at H
    simp only [Option.some.injEq,Prod.mk.injEq] at H
    obtain ⟨rfl,rfl⟩:=H
    go_wp2
    repeat (go_quiet (fail);try go_wp2)
    go_ret
    exact ⟨by first|rfl|(simp [errW_none,errW_some] <;> rfl)|(simp [*,errW_none,errW_some] <;> rfl),by repeat (first|(with_reducible first|exact HI0.out|apply IsS68.alloc|apply IsS68.drewN|apply IsS68.drew|apply IsS68.set_1)|exact HI0.out),by repeat (first|(with_reducible first|exact HB.out|apply zD|apply zB|apply zC|refine zF ?_ (IsS68.ge HI0.out))|exact HB.out),by repeat (first|(with_reducible first|exact HK.out|apply KeepBut.set_|apply keep_drewN|apply keep_drew|apply keep_alloc)|exact HK.out)⟩
   ·replace c7:=Bool.eq_false_iff.mpr c7
    subst c7
    have H1:(if (wrap64 ((wrap64 (s0_1+1)) - 1)) < (s0_0.length:Int) then (if 0≤(wrap64 ((wrap64 (s0_1+1)) - 1)) then (if a1 = 0 then (none) else (some (Int.tmod (wrap64 (rd s0_0 (wrap64 ((wrap64 (s0_1+1)) - 1)))) a1,(wrap64 (s0_1+1))))) else (none)) else (if (s0_0.length:Int) = 0 then (none) else (if 0≤(Int.tmod (wrap64 ((wrap64 (s0_1+1)) - 1)) (s0_0.length:Int)) then (if (Int.tmod (wrap64 ((wrap64 (s0_1+1)) - 1)) (s0_0.length:Int)) < (s0_0.length:Int) then (if 0≤(Int.tmod (wrap64 ((wrap64 ((wrap64 ((wrap64 (s0_1+1)) - 1)) * 7))+3)) (s0_0.length:Int)) then (if (Int.tmod (wrap64 ((wrap64 ((wrap64 ((wrap64 (s0_1+1)) - 1)) * 7))+3)) (s0_0.length:Int)) < (s0_0.length:Int) then (if a1 = 0 then (none) else (some (Int.tmod (Go.bits .xor .i64 (wrap64 ((wrap64 ((wrap64 ((wrap64 ((wrap64 (rd s0_0 (Int.tmod (wrap64 ((wrap64 (s0_1+1)) - 1)) (s0_0.length:Int)))) * 131))+(wrap64 ((wrap64 (rd s0_0 (Int.tmod (wrap64 ((wrap64 ((wrap64 ((wrap64 (s0_1+1)) - 1)) * 7))+3)) (s0_0.length:Int)))) * 1117))))+(wrap64 ((wrap64 ((wrap64 (s0_1+1)) - 1)) * 29))))+(wrap64 ((wrap64 (Int.tdiv (wrap64 ((wrap64 (s0_1+1)) - 1)) (s0_0.length:Int))) * 53)))) (wrap64 (Int.tdiv (wrap64 ((wrap64 ((wrap64 ((wrap64 ((wrap64 (rd s0_0 (Int.tmod (wrap64 ((wrap64 (s0_1+1)) - 1)) (s0_0.length:Int)))) * 131))+(wrap64 ((wrap64 (rd s0_0 (Int.tmod (wrap64 ((wrap64 ((wrap64 ((wrap64 (s0_1+1)) - 1)) * 7))+3)) (s0_0.length:Int)))) * 1117))))+(wrap64 ((wrap64 ((wrap64 (s0_1+1)) - 1)) * 29))))+(wrap64 ((wrap64 (Int.tdiv (wrap64 ((wrap64 (s0_1+1)) - 1)) (s0_0.length:Int))) * 53)))) 64))) a1,(wrap64 (s0_1+1))))) else (none)) else (none)) else (none)) else (none)))) = some (r1,r2):=by rw [if_neg (show ¬ (false = true) by decide)] at H;exact H
    clear H
    have H:=H1
    clear H1
    by_cases c8:(wrap64 ((wrap64 (s0_1+1)) - 1)) < (s0_0.length:Int)
    ·rw [if_pos c8] at H
     have c8b0:decide ((wrap64 ((wrap64 (s0_1+1)) - 1)) < (s0_0.length:Int)) = true:=zO c8
     clear c8
     obtain ⟨ji9,hji9⟩:∃ j_:Int,(wrap64 ((wrap64 (s0_1+1)) - 1)) = j_:=⟨_,rfl⟩
     replace H:(if 0≤(ji9) then (if a1 = 0 then (none) else (some (Int.tmod (wrap64 (rd s0_0 (ji9))) a1,(wrap64 (s0_1+1))))) else (none)) = some (r1,r2):=by first|(rw [hji9] at H;exact H)|(simp only [hji9] at H ⊢;exact H)
     (try rw [hji9] at c8b0)
     have hji9w:(IntKind.i64.wrap ((wrap64 (s0_1+1)) - 1)) = ji9:=(i64_w _).trans hji9
     by_cases c10:0≤(ji9)
     ·rw [if_pos c10] at H
      have c10b0:decide (0≤(ji9)) = true:=zO c10
      clear c10
      by_cases c11:a1 = 0
      ·rw [if_pos c11] at H
       exact absurd H (by simp)
      ·rw [if_neg c11] at H
       have c11b0:(a1 == 0) = false:=beq_eq_false_iff_ne.mpr c11
       have c11b1:(a1 != 0) = true:=bne_iff_ne.mpr c11
       simp only [Option.some.injEq,Prod.mk.injEq] at H
       obtain ⟨rfl,rfl⟩:=H
       obtain ⟨ASz12_0,cSz12_0,HGz12,hgz12,HSz12_0⟩:=HI0.out
       have hcz12_0:=cellS68_0 HGz12
       have hcz12_1:=cellS68_1 HGz12
       have hfz12_1:=zZ HGz12 1
       clear HGz12 hgz12
       have p212:0≤((ji9):Int):=zE (by with_reducible assumption)
       have q212:(ji9) < (s0_0.length:Int):=zE (by with_reducible assumption)
       obtain ⟨ad212,e212,hx212_0⟩:=Kd.at_int HSz12_0 (ji9) p212 q212
       cases e212
       replace hx212_0:=pw_cell_below HB.out hx212_0
       replace p212:=eq_true p212
       replace q212:=eq_true q212
       go_wp2
       repeat (go_quiet (fail);try go_wp2)
       go_ret
       exact ⟨by first|rfl|(simp [errW_none,errW_some] <;> rfl)|(simp only [← hji9];first|rfl|(simp [errW_none,errW_some] <;> rfl))|(simp [*,errW_none,errW_some] <;> rfl),by repeat (first|(with_reducible first|exact HI0.out|apply IsS68.alloc|apply IsS68.drewN|apply IsS68.drew|apply IsS68.set_1)|exact HI0.out),by repeat (first|(with_reducible first|exact HB.out|apply zD|apply zB|apply zC|refine zF ?_ (IsS68.ge HI0.out))|exact HB.out),by repeat (first|(with_reducible first|exact HK.out|apply KeepBut.set_|apply keep_drewN|apply keep_drew|apply keep_alloc)|exact HK.out)⟩
     ·rw [if_neg c10] at H
      exact absurd H (by simp)
    ·rw [if_neg c8] at H
     have c8b0:decide ((wrap64 ((wrap64 (s0_1+1)) - 1)) < (s0_0.length:Int)) = false:=zP c8
     clear c8
     by_cases c13:(s0_0.length:Int) = 0
     ·rw [if_pos c13] at H
      exact absurd H (by simp)
     ·rw [if_neg c13] at H
      have c13b0:((s0_0.length:Int) == 0) = false:=beq_eq_false_iff_ne.mpr c13
      have c13b1:((s0_0.length:Int) != 0) = true:=bne_iff_ne.mpr c13
      have c13b2:¬ (s0_0 = []):=fun h_=>c13 (by rw [h_];rfl)
      obtain ⟨ji14,hji14⟩:∃ j_:Int,(Int.tmod (wrap64 ((wrap64 (s0_1+1)) - 1)) (s0_0.length:Int)) = j_:=⟨_,rfl⟩
      replace H:(if 0≤(ji14) then (if (ji14) < (s0_0.length:Int) then (if 0≤(Int.tmod (wrap64 ((wrap64 ((wrap64 ((wrap64 (s0_1+1)) - 1)) * 7))+3)) (s0_0.length:Int)) then (if (Int.tmod (wrap64 ((wrap64 ((wrap64 ((wrap64 (s0_1+1)) - 1)) * 7))+3)) (s0_0.length:Int)) < (s0_0.length:Int) then (if a1 = 0 then (none) else (some (Int.tmod (Go.bits .xor .i64 (wrap64 ((wrap64 ((wrap64 ((wrap64 ((wrap64 (rd s0_0 (ji14))) * 131))+(wrap64 ((wrap64 (rd s0_0 (Int.tmod (wrap64 ((wrap64 ((wrap64 ((wrap64 (s0_1+1)) - 1)) * 7))+3)) (s0_0.length:Int)))) * 1117))))+(wrap64 ((wrap64 ((wrap64 (s0_1+1)) - 1)) * 29))))+(wrap64 ((wrap64 (Int.tdiv (wrap64 ((wrap64 (s0_1+1)) - 1)) (s0_0.length:Int))) * 53)))) (wrap64 (Int.tdiv (wrap64 ((wrap64 ((wrap64 ((wrap64 ((wrap64 (rd s0_0 (ji14))) * 131))+(wrap64 ((wrap64 (rd s0_0 (Int.tmod (wrap64 ((wrap64 ((wrap64 ((wrap64 (s0_1+1)) - 1)) * 7))+3)) (s0_0.length:Int)))) * 1117))))+(wrap64 ((wrap64 ((wrap64 (s0_1+1)) - 1)) * 29))))+(wrap64 ((wrap64 (Int.tdiv (wrap64 ((wrap64 (s0_1+1)) - 1)) (s0_0.length:Int))) * 53)))) 64))) a1,(wrap64 (s0_1+1))))) else (none)) else (none)) else (none)) else (none)) = some (r1,r2):=by first|(rw [hji14] at H;exact H)|(simp only [hji14] at H ⊢;exact H)
      by_cases c15:0≤(ji14)
      ·rw [if_pos c15] at H
       have c15b0:decide (0≤(ji14)) = true:=zO c15
       clear c15
       by_cases c16:(ji14) < (s0_0.length:Int)
       ·rw [if_pos c16] at H
        have c16b0:decide ((ji14) < (s0_0.length:Int)) = true:=zO c16
        clear c16
        obtain ⟨ji17,hji17⟩:∃ j_:Int,(Int.tmod (wrap64 ((wrap64 ((wrap64 ((wrap64 (s0_1+1)) - 1)) * 7))+3)) (s0_0.length:Int)) = j_:=⟨_,rfl⟩
        replace H:(if 0≤(ji17) then (if (ji17) < (s0_0.length:Int) then (if a1 = 0 then (none) else (some (Int.tmod (Go.bits .xor .i64 (wrap64 ((wrap64 ((wrap64 ((wrap64 ((wrap64 (rd s0_0 (ji14))) * 131))+(wrap64 ((wrap64 (rd s0_0 (ji17))) * 1117))))+(wrap64 ((wrap64 ((wrap64 (s0_1+1)) - 1)) * 29))))+(wrap64 ((wrap64 (Int.tdiv (wrap64 ((wrap64 (s0_1+1)) - 1)) (s0_0.length:Int))) * 53)))) (wrap64 (Int.tdiv (wrap64 ((wrap64 ((wrap64 ((wrap64 ((wrap64 (rd s0_0 (ji14))) * 131))+(wrap64 ((wrap64 (rd s0_0 (ji17))) * 1117))))+(wrap64 ((wrap64 ((wrap64 (s0_1+1)) - 1)) * 29))))+(wrap64 ((wrap64 (Int.tdiv (wrap64 ((wrap64 (s0_1+1)) - 1)) (s0_0.length:Int))) * 53)))) 64))) a1,(wrap64 (s0_1+1))))) else (none)) else (none)) = some (r1,r2):=by first|(rw [hji17] at H;exact H)|(simp only [hji17] at H ⊢;exact H)
        by_cases c18:0≤(ji17)
        ·rw [if_pos c18] at H
         have c18b0:decide (0≤(ji17)) = true:=zO c18
         clear c18
         by_cases c19:(ji17) < (s0_0.length:Int)
         ·rw [if_pos c19] at H
          have c19b0:decide ((ji17) < (s0_0.length:Int)) = true:=zO c19
          clear c19
          by_cases c20:a1 = 0
          ·rw [if_pos c20] at H
           exact absurd H (by simp)
          ·rw [if_neg c20] at H
           have c20b0:(a1 == 0) = false:=beq_eq_false_iff_ne.mpr c20
           have c20b1:(a1 != 0) = true:=bne_iff_ne.mpr c20
           simp only [Option.some.injEq,Prod.mk.injEq] at H
           obtain ⟨rfl,rfl⟩:=H
           obtain ⟨ASz21_0,cSz21_0,HGz21,hgz21,HSz21_0⟩:=HI0.out
           have hcz21_0:=cellS68_0 HGz21
           have hcz21_1:=cellS68_1 HGz21
           have hfz21_1:=zZ HGz21 1
           clear HGz21 hgz21
           have p213:0≤((ji14):Int):=zE (by with_reducible assumption)
           have q213:(ji14) < (s0_0.length:Int):=zE (by with_reducible assumption)
           obtain ⟨ad213,e213,hx213_0⟩:=Kd.at_int HSz21_0 (ji14) p213 q213
           cases e213
           replace hx213_0:=pw_cell_below HB.out hx213_0
           replace p213:=eq_true p213
           replace q213:=eq_true q213
           have p214:0≤((ji17):Int):=zE (by with_reducible assumption)
           have q214:(ji17) < (s0_0.length:Int):=zE (by with_reducible assumption)
           obtain ⟨ad214,e214,hx214_0⟩:=Kd.at_int HSz21_0 (ji17) p214 q214
           obtain rfl:ad213 = ad214:=(by injection e214)
           replace hx214_0:=pw_cell_below HB.out hx214_0
           replace p214:=eq_true p214
           replace q214:=eq_true q214
           go_wp2
           repeat (go_quiet (fail);try go_wp2)
           go_ret
           exact ⟨by first|rfl|(simp [errW_none,errW_some] <;> rfl)|(simp only [← hji14, ← hji17];first|rfl|(simp [errW_none,errW_some] <;> rfl))|(simp [*,errW_none,errW_some] <;> rfl),by repeat (first|(with_reducible first|exact HI0.out|apply IsS68.alloc|apply IsS68.drewN|apply IsS68.drew|apply IsS68.set_1)|exact HI0.out),by repeat (first|(with_reducible first|exact HB.out|apply zD|apply zB|apply zC|refine zF ?_ (IsS68.ge HI0.out))|exact HB.out),by repeat (first|(with_reducible first|exact HK.out|apply KeepBut.set_|apply keep_drewN|apply keep_drew|apply keep_alloc)|exact HK.out)⟩
         ·rw [if_neg c19] at H
          exact absurd H (by simp)
        ·rw [if_neg c18] at H
         exact absurd H (by simp)
       ·rw [if_neg c16] at H
        exact absurd H (by simp)
      ·rw [if_neg c15] at H
       exact absurd H (by simp)

/-! ### spec_l91Edges: function 43 -/
def spec_l91Edges.f (k:Nat) (s0_0:List Int) (s0_1:Int) (a1:Int):Option (Int × Int × Int):=(spec_l6Rd_pick.f k s0_0 s0_1 16).bind fun bt215=>(if bt215.1 = 0 then ((some (([0,wrap64 (a1+1),(-1)]:List Int):List Int)).bind fun y217=>((spec_l6Rd_pick.f k s0_0 bt215.2 3).bind fun bt220=>(if 0≤bt220.1 then (if bt220.1 < (y217.length:Int) then ((spec_l6Rd_pick.f k s0_0 bt220.2 3).bind fun bt223=>(some (rd y217 bt220.1,wrap64 (bt223.1 - 1),bt223.2))) else (none)) else (none)))) else ((spec_l6Rd_pick.f k s0_0 bt215.2 a1).bind fun bt225=>((spec_l6Rd_pick.f k s0_0 bt225.2 3).bind fun bt227=>(some (wrap64 (1+bt225.1),bt227.1,bt227.2)))))
theorem spec_l91Edges.mono:∀ a0 a1 a2 k,LeO (spec_l91Edges.f k a0 a1 a2) (spec_l91Edges.f (k+1) a0 a1 a2):=by
 intro a0 a1 a2 k
 unfold spec_l91Edges.f
 repeat' first
   | (with_reducible exact spec_l6Rd_pick.mono _ _ _ _)
   | (with_reducible exact LeO.refl _)
   | (with_reducible exact za _)
   | (with_reducible refine zc ?_ ?_)
   | (with_reducible refine zb ?_ (fun _=>?_))
def spec_l91Edges.T2:Bool × List (List Nat × List Nat):=(true,[([],[]),([0],[0]),([1],[1]),([],[]),([3],[3]),([2,4],[2,4]),([5],[5]),([],[]),([7,4],[7]),([8],[8]),([6,8,0,1,2,3,4,5,6],[6]),([9,10,0,1,2,3,4,5,6,7,8,9,10],[9])])
def spec_l91Edges.B2:List Nat:=[0,1,3,0,8,31,63,0,152,408,511,2047]
theorem spec_l91Edges.tab2:rtab .any (opsOf Try.f43 2) = spec_l91Edges.T2:=by kernel_rfl
theorem spec_l91Edges.bits2:waitsOk spec_l91Edges.T2.2 spec_l91Edges.B2 = true:=by kernel_rfl
set_option maxHeartbeats 8000000 in
set_option maxRecDepth 100000 in
theorem spec_l91Edges.calls (k:Nat) (g:Nat) (s0_0:List Int) (s0_1:Int) (a1:Int) (r1:Int) (r2:Int) (r3:Int) (w0 w:World) (hI:IsS68 w0 w g s0_0 s0_1) (hB:Below w0.heap.size w0 w) (h:spec_l91Edges.f k s0_0 s0_1 a1 = some (r1,r2,r3)) :
  Calls Try.prog 43 #[.pointer (some ⟨g,0,none⟩),.int .i64 a1] w fun e w'=>e = .returned (.tuple #[.int .i64 r1,.int .i64 r2])∧IsS68 w0 w' g s0_0 r3∧Below w0.heap.size w0 w'∧KeepBut w w' g none:=by
 have HI0:=zA hI
 have HK:=zA (KeepBut.refl w g none)
 have HL:=zA hB.size
 clear hI
 have HW0:=zA hB.size
 have HB:=zA hB
 clear hB
 have H:((spec_l6Rd_pick.f k s0_0 s0_1 16).bind fun bt215=>(if bt215.1 = 0 then ((some (([0,wrap64 (a1+1),(-1)]:List Int):List Int)).bind fun y217=>((spec_l6Rd_pick.f k s0_0 bt215.2 3).bind fun bt220=>(if 0≤bt220.1 then (if bt220.1 < (y217.length:Int) then ((spec_l6Rd_pick.f k s0_0 bt220.2 3).bind fun bt223=>(some (rd y217 bt220.1,wrap64 (bt223.1 - 1),bt223.2))) else (none)) else (none)))) else ((spec_l6Rd_pick.f k s0_0 bt215.2 a1).bind fun bt225=>((spec_l6Rd_pick.f k s0_0 bt225.2 3).bind fun bt227=>(some (wrap64 (1+bt225.1),bt227.1,bt227.2)))))) = some (r1,r2,r3):=h
 clear h
 replace H:=zz0 H
 obtain ⟨⟨t215,t216⟩,A30,H⟩:=H
 try dsimp only at H
 have A3:=zA A30
 clear A30
 by_cases c4:t215 = 0
 ·rw [if_pos c4] at H
  have c4b0:(t215 == 0) = true:=beq_iff_eq.mpr c4
  have c4b1:(t215 != 0) = false:=bne_eq_false_iff_eq.mpr c4
  clear c4
  obtain ⟨y217,hy217⟩:∃ y_:List Int,y_ = (([0,wrap64 (a1+1),(-1)]:List Int)):=⟨_,rfl⟩
  replace H:((spec_l6Rd_pick.f k s0_0 t216 3).bind fun bt220=>(if 0≤bt220.1 then (if bt220.1 < (y217.length:Int) then ((spec_l6Rd_pick.f k s0_0 bt220.2 3).bind fun bt223=>(some (rd y217 bt220.1,wrap64 (bt223.1 - 1),bt223.2))) else (none)) else (none))) = some (r1,r2,r3):=by (try rw [hy217]);first|with_reducible exact H|with_reducible exact zS_ H|exact H
  have Ny217:=zA hy217
  clear hy217
  replace H:=zz0 H
  obtain ⟨⟨t220,t221⟩,A50,H⟩:=H
  try dsimp only at H
  have A5:=zA A50
  clear A50
  by_cases c6:0≤t220
  ·rw [if_pos c6] at H
   have c6b0:decide (0≤t220) = true:=zO c6
   clear c6
   by_cases c7:t220 < (y217.length:Int)
   ·rw [if_pos c7] at H
    have c7b0:decide (t220 < (y217.length:Int)) = true:=zO c7
    clear c7
    replace H:=zz0 H
    obtain ⟨⟨t223,t224⟩,A80,H⟩:=H
    try dsimp only at H
    have A8:=zA A80
    clear A80
    simp only [Option.some.injEq,Prod.mk.injEq] at H
    obtain ⟨rfl,rfl,rfl⟩:=H
    go_enter Try.func43,Try.ntmps43
    try go_wp2_with (first|((with_reducible refine gate_callee (f:=57) rfl ?_);refine goesL_ (some 7) rfl rfl Try.func57 (by kernel_rfl) rfl #[.pointer (some ⟨g,0,none⟩),.int .i64 16] rfl (by (try simp only [zJ,zM,zN]);first|done|rfl|(simp only [zL,zK];rfl)) ?_;(with_reducible refine (spec_l6Rd_pick.calls k g s0_0 s0_1 16 t215 t216 w0 _ ?side1 ?side2 A3.out).mono ?_);(case side1=>repeat (first|(with_reducible first|exact HI0.out|apply IsS68.alloc|apply IsS68.drewN|apply IsS68.drew|apply IsS68.set_1)|exact HI0.out));(case side2=>repeat (first|(with_reducible first|exact HB.out|apply zD|apply zB|apply zC|refine zF ?_ (IsS68.ge HI0.out))|exact HB.out));rintro e w9 ⟨rfl,hi,hb,hk⟩;refine ⟨_,rfl,?_⟩;have n0_:=zA (KeepBut.trans (by repeat (first|(with_reducible first|exact HK.out|apply KeepBut.set_|apply keep_drewN|apply keep_drew|apply keep_alloc)|exact HK.out)) hk (.inl rfl));have n1_:=zA (hb);have n2_:=zA (hi);clear HK;clear HB;clear HI0;have HK:=n0_;have HB:=n1_;have HI0:=n2_;clear n0_ n1_ n2_;(try clear hb);(try clear hb2);(try clear hk);(try clear hi)))
    have pi222:(0≤(t220:Int)) = True:=eq_true (zE (by with_reducible assumption))
    have qi222:(t220 < (y217.length:Int)) = True:=eq_true (zE (by with_reducible assumption))
    have n0_:=zA (IsS68.drew HI0.out)
    have n1_:=zA (keep_drew HK.out)
    have n2_:=zA (zC HB.out)
    clear HI0 HK HB
    have HI0:=n0_
    have HK:=n1_
    have HB:=n2_
    clear n0_ n1_ n2_
    refine start_ (n:=12) (S:=fun w'=>True) (ds:=[]) #[zf,zf,zf,zf,zf,zf,zf,zf,zf,zf,zf,zf] (by kernel_rfl) rfl rfl trivial (fun hHeld=>?_);refine with_tabW spec_l91Edges.tab2 spec_l91Edges.bits2 (fun HT_ HW_=>?_)
    generalize w9.drew = w10 at HI0 HK HB hHeld ⊢
    refine pure_ (i:=0) (N:=some 9) (v:=?_) (a':=?_) #[zt,zf,zf,zf,zf,zf,zf,zf,zf,zf,zf,zf] rfl rfl (any_of HT_.out (by kernel_rfl)) (fun _ _ _ h=>h) (Or.inl ⟨by rfl,?_⟩) ?_ ?_
    rotate_left
    ·intro w'
     go_simp
     with_reducible rfl
    rotate_left
    ·simp only [Act.put,zP_,i64_w]
     rfl
    refine pure_ (i:=3) (N:=some 12) (v:=?_) (a':=?_) #[zt,zf,zf,zt,zf,zf,zf,zf,zf,zf,zf,zf] rfl rfl (any_of HT_.out (by kernel_rfl)) (fun _ _ _ h=>h) (Or.inl ⟨by rfl,?_⟩) ?_ ?_
    rotate_left
    ·intro w'
     go_simp
     with_reducible rfl
    rotate_left
    ·simp only [Act.put,zP_,i64_w]
     rfl
    refine pure_ (i:=7) (N:=some 16) (v:=?_) (a':=?_) #[zt,zf,zf,zt,zf,zf,zf,zt,zf,zf,zf,zf] rfl rfl (any_of HT_.out (by kernel_rfl)) (fun _ _ _ h=>h) (Or.inl ⟨by rfl,?_⟩) ?_ ?_
    rotate_left
    ·intro w'
     go_simp
     with_reducible rfl
    rotate_left
    ·simp only [Act.put,zP_,i64_w]
     rfl
    refine inv_at [1,2,4,5,6,8,9,10,11] (fun a0_ b a w' => ∃ (v218:Value) (adz_v218:Addr) (m5_:Value),a = putSel a0_ b [(1,10,.int .i64 (wrap64 (a1+1))),(2,11,v218),(4,13,.int .i64 t220),(5,14,m5_),(6,15,.int .i64 (rd y217 t220)),(8,17,.int .i64 t223),(9,18,.int .i64 (wrap64 (t223 - 1))),(10,4,.int .i64 (rd y217 t220)),(11,5,.int .i64 (wrap64 (t223 - 1)))]∧(b 4 = false→IsS68 w0 w' g s0_0 t216)∧(KeepBut w w' g none)∧(Below w0.heap.size w0 w')∧(b 2 = true→Kd.R (Kd.int .i64) 3 w' w.heap.size (fun _=>True) v218 y217)∧(b 2 = true → ∃ c_,(v218:Value) = .slice (some adz_v218) y217.length c_)∧(b 4 = true→b 8 = false→IsS68 w0 w' g s0_0 t221)∧(b 8 = true→IsS68 w0 w' g s0_0 t224)∧(b 5 = true→(m5_:Value) = .pointer (some (adz_v218.add (t220).toNat)))) HT_.out HW_.out (by kernel_rfl) (by kernel_rfl) ?_ ?_ ?_
    ·exact ⟨.bool false,⟨0,0,none⟩,.bool false,by simp only [putSel,Bool.false_eq_true,if_false],fun _=>HI0.out,HK.out,HB.out,fun h_=>absurd h_ (by decide),fun h_=>absurd h_ (by decide),fun h_=>absurd h_ (by decide),fun h_=>absurd h_ (by decide),fun h_=>absurd h_ (by decide)⟩
    ·skip
     clear HB HI0 HK
     refine steps_cons ?_ ?_
     ·rintro b a w' ⟨v218,adz_v218,m5_,ha,Q_HI0,Q_HK,Q_HB,Q_HO219,Q_HA_HO219,Q_HI0_e4,Q_HI0_e8,Q_X5_⟩ hb_ hon hoff
      refine ⟨_,rfl,fun K hK=>?_⟩
      have e9:a.tmps[9]? = some (.int .i64 a1):=by rw [ha];exact (putSel_off rfl).trans rfl
      replace ha:=zA ha
      have HK:=zA Q_HK
      have HB:=zA Q_HB
      refine value_ (w1:=w') (v:=.int .i64 (wrap64 (a1+1))) (by rfl) rfl ?_ ?_
      ·go_simp
       (try simp only [i64_w])
       try rfl
      refine hK.out _ _ ⟨v218,adz_v218,m5_,(by rw [ha.out];exact putSel_upk 0 hb_ rfl rfl rfl),Q_HI0,Q_HK,Q_HB,fun h0_=>absurd ((hoff 2 (by kernel_rfl)).symm.trans h0_) (by decide),fun h0_=>absurd ((hoff 2 (by kernel_rfl)).symm.trans h0_) (by decide),Q_HI0_e4,Q_HI0_e8,fun h0_=>absurd ((hoff 5 (by kernel_rfl)).symm.trans h0_) (by decide)⟩
     refine steps_cons ?_ ?_
     ·rintro b a w' ⟨v218,adz_v218,m5_,ha,Q_HI0,Q_HK,Q_HB,Q_HO219,Q_HA_HO219,Q_HI0_e4,Q_HI0_e8,Q_X5_⟩ hb_ hon hoff
      refine ⟨_,rfl,fun K hK=>?_⟩
      have e10:a.tmps[10]? = some (.int .i64 (wrap64 (a1+1))):=by rw [ha];exact putSel_on (e:=(1,10,.int .i64 (wrap64 (a1+1)))) 0 rfl rfl (hon 1 (by kernel_rfl)) rfl
      replace ha:=zA ha
      have HK:=zA Q_HK
      have HB:=zA Q_HB
      refine Kd.R_lit_step (Kd.int .i64) _ 3 ?hg (N:=11) ?hd (xs:=([0,wrap64 (a1+1),(-1)]:List Int)) (inner:=[.int .i64 0,.int .i64 (wrap64 (a1+1)),.int .i64 (-1)]) (ok:=fun _=>True) (okp:=fun _=>True) ?hr ?hp (fun _ hk=>hk) trivial (Below.refl _ _) (Nat.le_refl _) (by simp) ?_;(case hd=>rfl);(case hg=>rfl);(case hr=>first|(go_simp;done)|(go_simp;rfl));(case hp=>exact (Reps.one (show Kd.M (Kd.int .i64) _ _ _ 0 [.int .i64 0] from rfl) (Reps.one (show Kd.M (Kd.int .i64) _ _ _ (wrap64 (a1+1)) [.int .i64 (wrap64 (a1+1))] from rfl) (Reps.one (show Kd.M (Kd.int .i64) _ _ _ (-1) [.int .i64 (-1)] from rfl) (Reps.none _ _)))))
      intro v218 w11 ho12 hb hg_ hnew_
      clear hg_ hnew_
      (first|rw [← Ny217.out] at ho12|(simp only [Int.reduceToNat] at ho12;rw [← Ny217.out] at ho12))
      have n0_:=zA (ze ho12 (keep_size (w:=w) (g:=g) (row:=none) (by repeat (first|(with_reducible first|exact HK.out|apply KeepBut.set_|apply keep_drewN|apply keep_drew|apply keep_alloc)|exact HK.out))))
      have n2_:=zA (KeepBut.trans (by repeat (first|(with_reducible first|exact HK.out|apply KeepBut.set_|apply keep_drewN|apply keep_drew|apply keep_alloc)|exact HK.out)) (KeepBut.of_below hb g none) (.inl rfl))
      have n3_:=zA (zR (by exact zB_ HB.out) hb)
      have z_HI0:=fun (h0_:b 4 = false)=>(show IsS68 w0 w11 g s0_0 t216 from by first|exact (IsS68.below (by repeat (first|(with_reducible first|exact (Q_HI0 h0_)|apply IsS68.alloc|apply IsS68.drewN|apply IsS68.drew|apply IsS68.set_1)|exact (Q_HI0 h0_))) hb))
      have z_HI0_e4:=fun (h0_:b 4 = true) (h1_:b 8 = false)=>(show IsS68 w0 w11 g s0_0 t221 from by first|exact (IsS68.below (by repeat (first|(with_reducible first|exact (Q_HI0_e4 h0_ h1_)|apply IsS68.alloc|apply IsS68.drewN|apply IsS68.drew|apply IsS68.set_1)|exact (Q_HI0_e4 h0_ h1_))) hb))
      have z_HI0_e8:=fun (h0_:b 8 = true)=>(show IsS68 w0 w11 g s0_0 t224 from by first|exact (IsS68.below (by repeat (first|(with_reducible first|exact (Q_HI0_e8 h0_)|apply IsS68.alloc|apply IsS68.drewN|apply IsS68.drew|apply IsS68.set_1)|exact (Q_HI0_e8 h0_))) hb))
      clear HK HB
      have HO219:=n0_
      have HK:=n2_
      have HB:=n3_
      clear n0_ n2_ n3_ hb ho12
      obtain ⟨Ao13,co13,eo13⟩:=zg HO219.out
      subst eo13
      obtain ⟨ado13,fo13,_⟩:=Kd.at_int (zU HO219.out).2.2 0 (by decide) (by rw [Ny217.out];simp)
      cases fo13
      refine hK.out _ _ ⟨.slice (some ado13) y217.length co13,ado13,m5_,(by rw [ha.out];exact putSel_upk 1 hb_ rfl rfl rfl),z_HI0,(by repeat (first|(with_reducible first|exact HK.out|apply KeepBut.set_|apply keep_drewN|apply keep_drew|apply keep_alloc)|exact HK.out)),(by exact zB_ HB.out),fun _=>(by apply zR_;exact HO219.out),fun _=>⟨_,rfl⟩,z_HI0_e4,z_HI0_e8,fun h0_=>absurd ((hoff 5 (by kernel_rfl)).symm.trans h0_) (by decide)⟩
     refine steps_cons ?_ ?_
     ·rintro b a w' ⟨v218,adz_v218,m5_,ha,Q_HI0,Q_HK,Q_HB,Q_HO219,Q_HA_HO219,Q_HI0_e4,Q_HI0_e8,Q_X5_⟩ hb_ hon hoff
      refine ⟨_,rfl,fun K hK=>?_⟩
      have e12:a.tmps[12]? = some (.pointer (some ⟨g,0,none⟩)):=by rw [ha];exact (putSel_off rfl).trans rfl
      replace ha:=zA ha
      have HI0:=zA (Q_HI0 hb_)
      have HK:=zA Q_HK
      have HB:=zA Q_HB
      refine goes_ Try.func57 (by kernel_rfl) rfl #[.pointer (some ⟨g,0,none⟩),.int .i64 3] (by rfl) rfl rfl (by first|(simp only [zJ,zM,zN,Act.eval,Array.getD_eq_getD_getElem?,Option.getD_some,e12];done)|(simp only [zJ,zM,zN,Act.eval,Array.getD_eq_getD_getElem?,Option.getD_some,e12];rfl)) ?_
      with_reducible refine (spec_l6Rd_pick.calls k g s0_0 t216 3 t220 t221 w0 _ ?side1 ?side2 A5.out).mono ?_
      (case side1=>repeat (first|(with_reducible first|exact HI0.out|apply IsS68.alloc|apply IsS68.drewN|apply IsS68.drew|apply IsS68.set_1)|exact HI0.out))
      (case side2=>repeat (first|(with_reducible first|exact HB.out|apply zD|apply zB|apply zC|refine zF ?_ (IsS68.ge HI0.out))|exact HB.out))
      rintro e w11 ⟨rfl,hi,hb,hk⟩
      refine ⟨_,rfl,?_⟩
      have n0_:=zA (KeepBut.trans (by repeat (first|(with_reducible first|exact HK.out|apply KeepBut.set_|apply keep_drewN|apply keep_drew|apply keep_alloc)|exact HK.out)) hk (.inl rfl))
      have n1_:=zA (hb)
      have n2_:=zA (hi)
      have z_HO219:=fun (h0_:b 2 = true)=>(show Kd.R (Kd.int .i64) 3 w11 w.heap.size (fun _=>True) v218 y217 from by first|exact (zV (Kd.R_keep (IsS68.apart (show IsS68 w0 _ g s0_0 t216 from by repeat (first|(with_reducible first|exact HI0.out|apply IsS68.alloc|apply IsS68.drewN|apply IsS68.drew|apply IsS68.set_1)|exact HI0.out)) (by apply zR_;exact (Q_HO219 h0_)) (by decide)) hk (fun _ h=>h.2)) (fun _ h=>h.1))|exact zV (zV (Kd.R_keep (IsS68.apart (show IsS68 w0 _ g s0_0 t216 from by repeat (first|(with_reducible first|exact HI0.out|apply IsS68.alloc|apply IsS68.drewN|apply IsS68.drew|apply IsS68.set_1)|exact HI0.out)) (by apply zR_;exact (Q_HO219 h0_)) (by decide)) hk (fun _ h=>h.2)) (fun _ h=>h.1)) (fun _ h_=>by first|trivial|exact h_|exact h_.1))
      clear HK HB HI0
      have HK:=n0_
      have HB:=n1_
      have HI0:=n2_
      clear n0_ n1_ n2_
      (try clear hb);(try clear hb2);(try clear hk);(try clear hi)
      refine hK.out _ _ ⟨v218,adz_v218,m5_,(by rw [ha.out];exact putSel_upk 2 hb_ rfl rfl rfl),fun h0_=>absurd ((up_self b 4).symm.trans h0_) (by decide),(by repeat (first|(with_reducible first|exact HK.out|apply KeepBut.set_|apply keep_drewN|apply keep_drew|apply keep_alloc)|exact HK.out)),(by repeat (first|(with_reducible first|exact HB.out|apply zD|apply zB|apply zC|refine zF ?_ (IsS68.ge HI0.out))|exact HB.out)),z_HO219,Q_HA_HO219,fun _ _=>(by repeat (first|(with_reducible first|exact HI0.out|apply IsS68.alloc|apply IsS68.drewN|apply IsS68.drew|apply IsS68.set_1)|exact HI0.out)),fun h0_=>absurd ((hoff 8 (by kernel_rfl)).symm.trans h0_) (by decide),fun h0_=>absurd ((hoff 5 (by kernel_rfl)).symm.trans h0_) (by decide)⟩
     refine steps_cons ?_ ?_
     ·rintro b a w' ⟨v218,adz_v218,m5_,ha,Q_HI0,Q_HK,Q_HB,Q_HO219,Q_HA_HO219,Q_HI0_e4,Q_HI0_e8,Q_X5_⟩ hb_ hon hoff
      refine ⟨_,rfl,fun K hK=>?_⟩
      have e11:a.tmps[11]? = some (v218):=by rw [ha];exact putSel_on (e:=(2,11,v218)) 1 rfl rfl (hon 2 (by kernel_rfl)) rfl
      have e13:a.tmps[13]? = some (.int .i64 t220):=by rw [ha];exact putSel_on (e:=(4,13,.int .i64 t220)) 2 rfl rfl (hon 4 (by kernel_rfl)) rfl
      replace ha:=zA ha
      have HK:=zA Q_HK
      have HB:=zA Q_HB
      have HO219:=zA (Q_HO219 (hon 2 (by kernel_rfl)))
      have HA_HO219:=zA (Q_HA_HO219 (hon 2 (by kernel_rfl)))
      obtain ⟨c_,hv_⟩:=HA_HO219.out
      rw [hv_] at e11
      refine value_ (w1:=w') (v:=.pointer (some (adz_v218.add (t220).toNat))) (by rfl) rfl ?_ ?_
      ·go_simp
       (try simp only [i64_w])
       try rfl
      refine hK.out _ _ ⟨v218,adz_v218,(.pointer (some (adz_v218.add (t220).toNat))),(by rw [ha.out];exact putSel_upk 3 hb_ rfl rfl rfl),fun h0_=>absurd ((hon 4 (by kernel_rfl)).symm.trans h0_) (by decide),Q_HK,Q_HB,Q_HO219,Q_HA_HO219,Q_HI0_e4,Q_HI0_e8,fun _=>rfl⟩
     refine steps_cons ?_ ?_
     ·rintro b a w' ⟨v218,adz_v218,m5_,ha,Q_HI0,Q_HK,Q_HB,Q_HO219,Q_HA_HO219,Q_HI0_e4,Q_HI0_e8,Q_X5_⟩ hb_ hon hoff
      refine ⟨_,rfl,fun K hK=>?_⟩
      have e14:a.tmps[14]? = some (m5_):=by rw [ha];exact putSel_on (e:=(5,14,m5_)) 3 rfl rfl (hon 5 (by kernel_rfl)) rfl
      rw [Q_X5_ (hon 5 (by kernel_rfl))] at e14
      replace ha:=zA ha
      have HK:=zA Q_HK
      have HB:=zA Q_HB
      have HO219:=zA (Q_HO219 (hon 2 (by kernel_rfl)))
      have HA_HO219:=zA (Q_HA_HO219 (hon 2 (by kernel_rfl)))
      obtain ⟨c_,hv_⟩:=HA_HO219.out
      have hF_:=HO219.out
      rw [hv_] at hF_
      obtain ⟨ad_,ea_,hx_⟩:=Kd.at_int (zU hF_).2.2 t220 (of_eq_true pi222) (of_eq_true qi222)
      cases ea_
      refine value_ (w1:=w') (v:=.int .i64 (rd y217 t220)) (by rfl) rfl ?_ ?_
      ·go_simp
       (try simp only [i64_w])
       try rfl
      refine hK.out _ _ ⟨v218,adz_v218,m5_,(by rw [ha.out];exact putSel_upk 4 hb_ rfl rfl rfl),fun h0_=>absurd ((hon 4 (by kernel_rfl)).symm.trans h0_) (by decide),Q_HK,Q_HB,Q_HO219,Q_HA_HO219,Q_HI0_e4,Q_HI0_e8,Q_X5_⟩
     refine steps_cons ?_ ?_
     ·rintro b a w' ⟨v218,adz_v218,m5_,ha,Q_HI0,Q_HK,Q_HB,Q_HO219,Q_HA_HO219,Q_HI0_e4,Q_HI0_e8,Q_X5_⟩ hb_ hon hoff
      refine ⟨_,rfl,fun K hK=>?_⟩
      have e16:a.tmps[16]? = some (.pointer (some ⟨g,0,none⟩)):=by rw [ha];exact (putSel_off rfl).trans rfl
      replace ha:=zA ha
      have HK:=zA Q_HK
      have HB:=zA Q_HB
      have HI0:=zA (Q_HI0_e4 (hon 4 (by kernel_rfl)) hb_)
      refine goes_ Try.func57 (by kernel_rfl) rfl #[.pointer (some ⟨g,0,none⟩),.int .i64 3] (by rfl) rfl rfl (by first|(simp only [zJ,zM,zN,Act.eval,Array.getD_eq_getD_getElem?,Option.getD_some,e16];done)|(simp only [zJ,zM,zN,Act.eval,Array.getD_eq_getD_getElem?,Option.getD_some,e16];rfl)) ?_
      with_reducible refine (spec_l6Rd_pick.calls k g s0_0 t221 3 t223 t224 w0 _ ?side1 ?side2 A8.out).mono ?_
      (case side1=>repeat (first|(with_reducible first|exact HI0.out|apply IsS68.alloc|apply IsS68.drewN|apply IsS68.drew|apply IsS68.set_1)|exact HI0.out))
      (case side2=>repeat (first|(with_reducible first|exact HB.out|apply zD|apply zB|apply zC|refine zF ?_ (IsS68.ge HI0.out))|exact HB.out))
      rintro e w13 ⟨rfl,hi,hb,hk⟩
      refine ⟨_,rfl,?_⟩
      have n0_:=zA (KeepBut.trans (by repeat (first|(with_reducible first|exact HK.out|apply KeepBut.set_|apply keep_drewN|apply keep_drew|apply keep_alloc)|exact HK.out)) hk (.inl rfl))
      have n1_:=zA (hb)
      have n2_:=zA (hi)
      have z_HO219:=fun (h0_:b 2 = true)=>(show Kd.R (Kd.int .i64) 3 w13 w.heap.size (fun _=>True) v218 y217 from by first|exact (zV (Kd.R_keep (IsS68.apart (show IsS68 w0 _ g s0_0 t221 from by repeat (first|(with_reducible first|exact HI0.out|apply IsS68.alloc|apply IsS68.drewN|apply IsS68.drew|apply IsS68.set_1)|exact HI0.out)) (by apply zR_;exact (Q_HO219 h0_)) (by decide)) hk (fun _ h=>h.2)) (fun _ h=>h.1))|exact zV (zV (Kd.R_keep (IsS68.apart (show IsS68 w0 _ g s0_0 t221 from by repeat (first|(with_reducible first|exact HI0.out|apply IsS68.alloc|apply IsS68.drewN|apply IsS68.drew|apply IsS68.set_1)|exact HI0.out)) (by apply zR_;exact (Q_HO219 h0_)) (by decide)) hk (fun _ h=>h.2)) (fun _ h=>h.1)) (fun _ h_=>by first|trivial|exact h_|exact h_.1))
      clear HK HB HI0
      have HK:=n0_
      have HB:=n1_
      have HI0:=n2_
      clear n0_ n1_ n2_
      (try clear hb);(try clear hb2);(try clear hk);(try clear hi)
      refine hK.out _ _ ⟨v218,adz_v218,m5_,(by rw [ha.out];exact putSel_upk 5 hb_ rfl rfl rfl),fun h0_=>absurd ((hon 4 (by kernel_rfl)).symm.trans h0_) (by decide),(by repeat (first|(with_reducible first|exact HK.out|apply KeepBut.set_|apply keep_drewN|apply keep_drew|apply keep_alloc)|exact HK.out)),(by repeat (first|(with_reducible first|exact HB.out|apply zD|apply zB|apply zC|refine zF ?_ (IsS68.ge HI0.out))|exact HB.out)),z_HO219,Q_HA_HO219,fun _ h1_=>absurd ((up_self b 8).symm.trans h1_) (by decide),fun _=>(by repeat (first|(with_reducible first|exact HI0.out|apply IsS68.alloc|apply IsS68.drewN|apply IsS68.drew|apply IsS68.set_1)|exact HI0.out)),Q_X5_⟩
     refine steps_cons ?_ ?_
     ·rintro b a w' ⟨v218,adz_v218,m5_,ha,Q_HI0,Q_HK,Q_HB,Q_HO219,Q_HA_HO219,Q_HI0_e4,Q_HI0_e8,Q_X5_⟩ hb_ hon hoff
      refine ⟨_,rfl,fun K hK=>?_⟩
      have e17:a.tmps[17]? = some (.int .i64 t223):=by rw [ha];exact putSel_on (e:=(8,17,.int .i64 t223)) 5 rfl rfl (hon 8 (by kernel_rfl)) rfl
      replace ha:=zA ha
      have HK:=zA Q_HK
      have HB:=zA Q_HB
      have HI0:=zA (Q_HI0_e8 (hon 8 (by kernel_rfl)))
      refine value_ (w1:=w') (v:=.int .i64 (wrap64 (t223 - 1))) (by rfl) rfl ?_ ?_
      ·go_simp
       (try simp only [i64_w])
       try rfl
      refine hK.out _ _ ⟨v218,adz_v218,m5_,(by rw [ha.out];exact putSel_upk 6 hb_ rfl rfl rfl),fun h0_=>absurd ((hon 4 (by kernel_rfl)).symm.trans h0_) (by decide),Q_HK,Q_HB,Q_HO219,Q_HA_HO219,fun _ h1_=>absurd ((hon 8 (by kernel_rfl)).symm.trans h1_) (by decide),Q_HI0_e8,Q_X5_⟩
     refine steps_cons ?_ ?_
     ·rintro b a w' ⟨v218,adz_v218,m5_,ha,Q_HI0,Q_HK,Q_HB,Q_HO219,Q_HA_HO219,Q_HI0_e4,Q_HI0_e8,Q_X5_⟩ hb_ hon hoff
      refine ⟨_,rfl,fun K hK=>?_⟩
      have e15:a.tmps[15]? = some (.int .i64 (rd y217 t220)):=by rw [ha];exact putSel_on (e:=(6,15,.int .i64 (rd y217 t220))) 4 rfl rfl (hon 6 (by kernel_rfl)) rfl
      replace ha:=zA ha
      have HK:=zA Q_HK
      have HB:=zA Q_HB
      have HO219:=zA (Q_HO219 (hon 2 (by kernel_rfl)))
      have HA_HO219:=zA (Q_HA_HO219 (hon 2 (by kernel_rfl)))
      have HI0:=zA (Q_HI0_e8 (hon 8 (by kernel_rfl)))
      refine value_ (w1:=w') (v:=.int .i64 (rd y217 t220)) (by rfl) rfl ?_ ?_
      ·go_simp
       (try simp only [i64_w])
       try rfl
      refine hK.out _ _ ⟨v218,adz_v218,m5_,(by rw [ha.out];exact putSel_upk 7 hb_ rfl rfl rfl),fun h0_=>absurd ((hon 4 (by kernel_rfl)).symm.trans h0_) (by decide),Q_HK,Q_HB,Q_HO219,Q_HA_HO219,fun _ h1_=>absurd ((hon 8 (by kernel_rfl)).symm.trans h1_) (by decide),Q_HI0_e8,Q_X5_⟩
     refine steps_cons ?_ ?_
     ·rintro b a w' ⟨v218,adz_v218,m5_,ha,Q_HI0,Q_HK,Q_HB,Q_HO219,Q_HA_HO219,Q_HI0_e4,Q_HI0_e8,Q_X5_⟩ hb_ hon hoff
      refine ⟨_,rfl,fun K hK=>?_⟩
      have e18:a.tmps[18]? = some (.int .i64 (wrap64 (t223 - 1))):=by rw [ha];exact putSel_on (e:=(9,18,.int .i64 (wrap64 (t223 - 1)))) 6 rfl rfl (hon 9 (by kernel_rfl)) rfl
      replace ha:=zA ha
      have HK:=zA Q_HK
      have HB:=zA Q_HB
      have HO219:=zA (Q_HO219 (hon 2 (by kernel_rfl)))
      have HA_HO219:=zA (Q_HA_HO219 (hon 2 (by kernel_rfl)))
      have HI0:=zA (Q_HI0_e8 (hon 8 (by kernel_rfl)))
      refine value_ (w1:=w') (v:=.int .i64 (wrap64 (t223 - 1))) (by rfl) rfl ?_ ?_
      ·go_simp
       (try simp only [i64_w])
       try rfl
      refine hK.out _ _ ⟨v218,adz_v218,m5_,(by rw [ha.out];exact putSel_upk 8 hb_ rfl rfl rfl),fun h0_=>absurd ((hon 4 (by kernel_rfl)).symm.trans h0_) (by decide),Q_HK,Q_HB,Q_HO219,Q_HA_HO219,fun _ h1_=>absurd ((hon 8 (by kernel_rfl)).symm.trans h1_) (by decide),Q_HI0_e8,Q_X5_⟩
     exact steps_nil
    rintro b a w16 hall ⟨v218,adz_v218,m5_,ha,Q_HI0,Q_HK,Q_HB,Q_HO219,Q_HA_HO219,Q_HI0_e4,Q_HI0_e8,Q_X5_⟩
    clear HB HI0 HK
    have hb1_:=hall 1 (by kernel_rfl)
    have hb2_:=hall 2 (by kernel_rfl)
    have hb4_:=hall 4 (by kernel_rfl)
    have hb5_:=hall 5 (by kernel_rfl)
    have hb6_:=hall 6 (by kernel_rfl)
    have hb8_:=hall 8 (by kernel_rfl)
    have hb9_:=hall 9 (by kernel_rfl)
    have hb10_:=hall 10 (by kernel_rfl)
    have hb11_:=hall 11 (by kernel_rfl)
    subst ha
    obtain rfl:=Q_X5_ hb5_
    simp only [putSel,hb1_,hb2_,hb4_,hb5_,hb6_,hb8_,hb9_,hb10_,hb11_,if_true,Act.put,List.setIfInBounds_toArray,List.set_cons_zero,List.set_cons_succ]
    clear Q_HI0
    have HK:=zA Q_HK
    clear Q_HK
    have HB:=zA Q_HB
    clear Q_HB
    have HO219:=zA (Q_HO219 hb2_)
    clear Q_HO219
    have HA_HO219:=zA (Q_HA_HO219 hb2_)
    clear Q_HA_HO219 Q_HI0_e4
    have HI0:=zA (Q_HI0_e8 hb8_)
    clear Q_HI0_e8 hall hb1_ hb2_ hb4_ hb5_ hb6_ hb8_ hb9_ hb10_ hb11_
    obtain ⟨co17,eo17⟩:=HA_HO219.out
    clear HA_HO219
    subst eo17
    try go_wp2
    go_ret2
    exact ⟨by first|rfl|(simp [errW_none,errW_some] <;> rfl)|(simp [*,errW_none,errW_some] <;> rfl),by repeat (first|(with_reducible first|exact HI0.out|apply IsS68.alloc|apply IsS68.drewN|apply IsS68.drew|apply IsS68.set_1)|exact HI0.out),by repeat (first|(with_reducible first|exact HB.out|apply zD|apply zB|apply zC|refine zF ?_ (IsS68.ge HI0.out))|exact HB.out),by repeat (first|(with_reducible first|exact HK.out|apply KeepBut.set_|apply keep_drewN|apply keep_drew|apply keep_alloc)|exact HK.out)⟩
   ·rw [if_neg c7] at H
    exact absurd H (by simp)
  ·rw [if_neg c6] at H
   exact absurd H (by simp)
 ·rw [if_neg c4] at H
  have c4b0:(t215 == 0) = false:=beq_eq_false_iff_ne.mpr c4
  have c4b1:(t215 != 0) = true:=bne_iff_ne.mpr c4
  replace H:=zz0 H
  obtain ⟨⟨t225,t226⟩,A180,H⟩:=H
  try dsimp only at H
  have A18:=zA A180
  clear A180
  replace H:=zz0 H
  obtain ⟨⟨t227,t228⟩,A190,H⟩:=H
  try dsimp only at H
  have A19:=zA A190
  clear A190
  simp only [Option.some.injEq,Prod.mk.injEq] at H
  obtain ⟨rfl,rfl,rfl⟩:=H
  go_enter Try.func43,Try.ntmps43
  go_wp2_with (first|((with_reducible refine gate_callee (f:=57) rfl ?_);refine goesL_ (some 7) rfl rfl Try.func57 (by kernel_rfl) rfl #[.pointer (some ⟨g,0,none⟩),.int .i64 16] rfl (by (try simp only [zJ,zM,zN]);first|done|rfl|(simp only [zL,zK];rfl)) ?_;(with_reducible refine (spec_l6Rd_pick.calls k g s0_0 s0_1 16 t215 t216 w0 _ ?side1 ?side2 A3.out).mono ?_);(case side1=>repeat (first|(with_reducible first|exact HI0.out|apply IsS68.alloc|apply IsS68.drewN|apply IsS68.drew|apply IsS68.set_1)|exact HI0.out));(case side2=>repeat (first|(with_reducible first|exact HB.out|apply zD|apply zB|apply zC|refine zF ?_ (IsS68.ge HI0.out))|exact HB.out));rintro e w20 ⟨rfl,hi,hb,hk⟩;refine ⟨_,rfl,?_⟩;have n0_:=zA (KeepBut.trans (by repeat (first|(with_reducible first|exact HK.out|apply KeepBut.set_|apply keep_drewN|apply keep_drew|apply keep_alloc)|exact HK.out)) hk (.inl rfl));have n1_:=zA (hb);have n2_:=zA (hi);clear HK;clear HB;clear HI0;have HK:=n0_;have HB:=n1_;have HI0:=n2_;clear n0_ n1_ n2_;(try clear hb);(try clear hb2);(try clear hk);(try clear hi))|((with_reducible refine gate_callee (f:=57) rfl ?_);refine goesL_ (some 21) rfl rfl Try.func57 (by kernel_rfl) rfl #[.pointer (some ⟨g,0,none⟩),.int .i64 a1] rfl (by (try simp only [zJ,zM,zN]);first|done|rfl|(simp only [zL,zK];rfl)) ?_;(with_reducible refine (spec_l6Rd_pick.calls k g s0_0 t216 a1 t225 t226 w0 _ ?side1 ?side2 A18.out).mono ?_);(case side1=>repeat (first|(with_reducible first|exact HI0.out|apply IsS68.alloc|apply IsS68.drewN|apply IsS68.drew|apply IsS68.set_1)|exact HI0.out));(case side2=>repeat (first|(with_reducible first|exact HB.out|apply zD|apply zB|apply zC|refine zF ?_ (IsS68.ge HI0.out))|exact HB.out));rintro e w21 ⟨rfl,hi,hb,hk⟩;refine ⟨_,rfl,?_⟩;have n0_:=zA (KeepBut.trans (by repeat (first|(with_reducible first|exact HK.out|apply KeepBut.set_|apply keep_drewN|apply keep_drew|apply keep_alloc)|exact HK.out)) hk (.inl rfl));have n1_:=zA (hb);have n2_:=zA (hi);clear HK;clear HB;clear HI0;have HK:=n0_;have HB:=n1_;have HI0:=n2_;clear n0_ n1_ n2_;(try clear hb);(try clear hb2);(try clear hk);(try clear hi))|((with_reducible refine gate_callee (f:=57) rfl ?_);refine goesL_ (some 24) rfl rfl Try.func57 (by kernel_rfl) rfl #[.pointer (some ⟨g,0,none⟩),.int .i64 3] rfl (by (try simp only [zJ,zM,zN]);first|done|rfl|(simp only [zL,zK];rfl)) ?_;(with_reducible refine (spec_l6Rd_pick.calls k g s0_0 t226 3 t227 t228 w0 _ ?side1 ?side2 A19.out).mono ?_);(case side1=>repeat (first|(with_reducible first|exact HI0.out|apply IsS68.alloc|apply IsS68.drewN|apply IsS68.drew|apply IsS68.set_1)|exact HI0.out));(case side2=>repeat (first|(with_reducible first|exact HB.out|apply zD|apply zB|apply zC|refine zF ?_ (IsS68.ge HI0.out))|exact HB.out));rintro e w22 ⟨rfl,hi,hb,hk⟩;refine ⟨_,rfl,?_⟩;have n0_:=zA (KeepBut.trans (by repeat (first|(with_reducible first|exact HK.out|apply KeepBut.set_|apply keep_drewN|apply keep_drew|apply keep_alloc)|exact HK.out)) hk (.inl rfl));have n1_:=zA (hb);have n2_:=zA (hi);clear HK;clear HB;clear HI0;have HK:=n0_;have HB:=n1_;have HI0:=n2_;clear n0_ n1_ n2_;(try clear hb);(try clear hb2);(try clear hk);(try clear hi)))
  go_ret2
  exact ⟨by first|rfl|(simp [errW_none,errW_some] <;> rfl)|(simp [*,errW_none,errW_some] <;> rfl),by repeat (first|(with_reducible first|exact HI0.out|apply IsS68.alloc|apply IsS68.drewN|apply IsS68.drew|apply IsS68.set_1)|exact HI0.out),by repeat (first|(with_reducible first|exact HB.out|apply zD|apply zB|apply zC|refine zF ?_ (IsS68.ge HI0.out))|exact HB.out),by repeat (first|(with_reducible first|exact HK.out|apply KeepBut.set_|apply keep_drewN|apply keep_drew|apply keep_alloc)|exact HK.out)⟩

/-! ### spec_l6Open: function 44 -/
def spec_l6Open.f (l0:List Int):Option (List Int × Int):=if (l0.length:Int) > 2000 then (if 2000≤(l0.length:Int) then (some (l0.take 2000,0)) else (none)) else (some (l0,0))
set_option maxHeartbeats 8000000 in
set_option maxRecDepth 100000 in
theorem spec_l6Open.calls (A0:Option Addr) (c0:Nat) (l0:List Int) (r1:List Int) (r2:Int) (w0 w:World) (hB:Below w0.heap.size w0 w) (hr0:Kd.C (Kd.int .u8) w0 A0 l0.length l0) (hc0:l0.length≤c0) (h:spec_l6Open.f l0 = some (r1,r2)) :
  Calls Try.prog 44 #[.slice A0 l0.length c0] w fun e w' => ∃ g_:Nat,e = .returned (.pointer (some ⟨g_,0,none⟩))∧IsS68 w0 w' g_ r1 r2∧Below w0.heap.size w0 w'∧Below w.heap.size w w':=by
 have hu68:=Try.underlying68
 have HR0:=zA hr0
 have HC0:=zA hc0
 clear hr0 hc0
 have HBW:=zA (Below.refl w.heap.size w)
 have HW0:=zA hB.size
 have HB:=zA hB
 clear hB
 have H:(if (l0.length:Int) > 2000 then (if 2000≤(l0.length:Int) then (some (l0.take 2000,0)) else (none)) else (some (l0,0))) = some (r1,r2):=h
 clear h
 by_cases c2:(l0.length:Int) > 2000
 ·rw [if_pos c2] at H
  have c2b0:decide (2000 < (l0.length:Int)) = true:=zO c2
  have c2b1:decide (2000 < l0.length) = true:=zO (by omega)
  clear c2
  by_cases c3:2000≤(l0.length:Int)
  ·rw [if_pos c3] at H
   have c3b0:=eq_true c3
   have c3b1:decide (2000≤(l0.length:Int)) = true:=zO c3
   clear c3
   simp only [Option.some.injEq,Prod.mk.injEq] at H
   obtain ⟨rfl,rfl⟩:=H
   obtain ⟨i04,hi04,_,hsz4,_⟩:=info_parts info5
   obtain ⟨hcut4,hA4,hC4⟩:=print_take_of (P:=Try.prog) (Value.int .u8) 0 22 5 .i64 Try.underlying22 hi04 hsz4 A0 c0 l0 2000 (by omega) (zE (by with_reducible assumption)) HC0.out
   have HR229:=zA (Kd.C_of_reads (h1:=fun _=>rfl) (hA4 _ (Kd.reads_of_C HR0.out)))
   have HC229:=zA hC4
   clear hA4 hC4 hi04 hsz4
   go_enter Try.func44,Try.ntmps44
   go_wp2_with (first|((with_reducible refine gate_dst (N:=10) rfl ?_);refine box_event ?hg (N:=10) ?hd (cs:=#[.slice A0 (l0.take 2000).length c0,.int .i64 0]) (t:=68) ?hr ?_;(case hd=>rfl);(case hg=>rfl);(case hr=>first|(go_simp;done)|(go_simp;rfl));intro gb230 hg w5 hbox hb;have n0_:=zA (zR HBW.out hb);have n1_:=zA (zR (by exact zB_ HB.out) hb);have n2_:=zA (hbox);have n3_:=zA ((by rw [hg];exact (zQ (by repeat (first|(with_reducible first|exact HBW.out|apply zD|apply zB|apply zC)|exact HBW.out))):w.heap.size≤gb230));have n4_:=zA ((Nat.le_trans HW0.out (by rw [hg];exact (zQ (by repeat (first|(with_reducible first|exact HBW.out|apply zD|apply zB|apply zC)|exact HBW.out))):w.heap.size≤gb230):w0.heap.size≤gb230));clear HBW;clear HB;have HBW:=n0_;have HB:=n1_;have BK230:=n2_;have GW230:=n3_;have GE230:=n4_;clear n0_ n1_ n2_ n3_ n4_;clear hb hbox hg))
   go_ret
   exact ⟨_,rfl,(show IsS68 w0 _ gb230 (l0.take 2000) 0 from ⟨_,_,by (with_reducible repeat (first|refine zG ?_ _|refine zI ?_|refine zH ?_ _));exact BK230.out,GE230.out,HR229.out⟩),by repeat (first|(with_reducible first|exact HB.out|apply zD|apply zB|apply zC|refine zF ?_ GE230.out)|exact HB.out),by repeat (first|(with_reducible first|exact HBW.out|apply zD|apply zB|apply zC|refine zF ?_ GW230.out)|exact HBW.out)⟩
  ·rw [if_neg c3] at H
   exact absurd H (by simp)
 ·rw [if_neg c2] at H
  have c2b0:decide (2000 < (l0.length:Int)) = false:=zP c2
  have c2b1:decide (2000 < l0.length) = false:=zP (by omega)
  clear c2
  simp only [Option.some.injEq,Prod.mk.injEq] at H
  obtain ⟨rfl,rfl⟩:=H
  go_enter Try.func44,Try.ntmps44
  go_wp2_with (first|((with_reducible refine gate_dst (N:=10) rfl ?_);refine box_event ?hg (N:=10) ?hd (cs:=#[.slice A0 l0.length c0,.int .i64 0]) (t:=68) ?hr ?_;(case hd=>rfl);(case hg=>rfl);(case hr=>first|(go_simp;done)|(go_simp;rfl));intro gb231 hg w6 hbox hb;have n0_:=zA (zR HBW.out hb);have n1_:=zA (zR (by exact zB_ HB.out) hb);have n2_:=zA (hbox);have n3_:=zA ((by rw [hg];exact (zQ (by repeat (first|(with_reducible first|exact HBW.out|apply zD|apply zB|apply zC)|exact HBW.out))):w.heap.size≤gb231));have n4_:=zA ((Nat.le_trans HW0.out (by rw [hg];exact (zQ (by repeat (first|(with_reducible first|exact HBW.out|apply zD|apply zB|apply zC)|exact HBW.out))):w.heap.size≤gb231):w0.heap.size≤gb231));clear HBW;clear HB;have HBW:=n0_;have HB:=n1_;have BK231:=n2_;have GW231:=n3_;have GE231:=n4_;clear n0_ n1_ n2_ n3_ n4_;clear hb hbox hg))
  go_ret
  exact ⟨_,rfl,(show IsS68 w0 _ gb231 l0 0 from ⟨_,_,by (with_reducible repeat (first|refine zG ?_ _|refine zI ?_|refine zH ?_ _));exact BK231.out,GE231.out,HR0.out⟩),by repeat (first|(with_reducible first|exact HB.out|apply zD|apply zB|apply zC|refine zF ?_ GE231.out)|exact HB.out),by repeat (first|(with_reducible first|exact HBW.out|apply zD|apply zB|apply zC|refine zF ?_ GW231.out)|exact HBW.out)⟩

/-! ### spec_DrawRootedCount: function 31 -/
def spec_DrawRootedCount.f (k:Nat) (l0:List Int):Option (Int × Int):=(spec_l6Open.f l0).bind fun bt232=>((spec_l6Rd_pick.f k bt232.1 bt232.2 6).bind fun bt235=>(if bt235.1 = 0 then ((spec_l91Edges.f k bt232.1 bt235.2 3).bind fun bt237=>(some (bt237.1,bt237.2.1))) else ((spec_l91Edges.f k bt232.1 bt235.2 2).bind fun bt240=>(some (bt240.1,bt240.2.1)))))
theorem spec_DrawRootedCount.mono:∀ a0 k,LeO (spec_DrawRootedCount.f k a0) (spec_DrawRootedCount.f (k+1) a0):=by
 intro a0 k
 unfold spec_DrawRootedCount.f
 repeat' first
   | (with_reducible exact spec_l6Rd_pick.mono _ _ _ _)
   | (with_reducible exact spec_l91Edges.mono _ _ _ _)
   | (with_reducible exact LeO.refl _)
   | (with_reducible exact za _)
   | (with_reducible refine zc ?_ ?_)
   | (with_reducible refine zb ?_ (fun _=>?_))
set_option maxHeartbeats 8000000 in
set_option maxRecDepth 100000 in
theorem spec_DrawRootedCount.calls (k:Nat) (A0:Option Addr) (c0:Nat) (l0:List Int) (r1:Int) (r2:Int) (w:World) (hr0:Kd.C (Kd.int .u8) w A0 l0.length l0) (hc0:l0.length≤c0) (h:spec_DrawRootedCount.f k l0 = some (r1,r2)) :
  Calls Try.prog 31 #[.slice A0 l0.length c0] w fun e w'=>e = .returned (.tuple #[.int .i64 r1,.int .i64 r2])∧Below w.heap.size w w':=by
 have HR0:=zA hr0
 have HC0:=zA hc0
 clear hr0 hc0
 have HB:=zA (Below.refl w.heap.size w)
 have H:((spec_l6Open.f l0).bind fun bt232=>((spec_l6Rd_pick.f k bt232.1 bt232.2 6).bind fun bt235=>(if bt235.1 = 0 then ((spec_l91Edges.f k bt232.1 bt235.2 3).bind fun bt237=>(some (bt237.1,bt237.2.1))) else ((spec_l91Edges.f k bt232.1 bt235.2 2).bind fun bt240=>(some (bt240.1,bt240.2.1)))))) = some (r1,r2):=h
 clear h
 replace H:=zz0 H
 obtain ⟨⟨t232,t233⟩,A20,H⟩:=H
 try dsimp only at H
 have A2:=zA A20
 clear A20
 replace H:=zz0 H
 obtain ⟨⟨t235,t236⟩,A30,H⟩:=H
 try dsimp only at H
 have A3:=zA A30
 clear A30
 by_cases c4:t235 = 0
 ·rw [if_pos c4] at H
  have c4b0:(t235 == 0) = true:=beq_iff_eq.mpr c4
  have c4b1:(t235 != 0) = false:=bne_eq_false_iff_eq.mpr c4
  clear c4
  replace H:=zz0 H
  obtain ⟨⟨t237,t238,t239⟩,A50,H⟩:=H
  try dsimp only at H
  have A5:=zA A50
  clear A50
  simp only [Option.some.injEq,Prod.mk.injEq] at H
  obtain ⟨rfl,rfl⟩:=H
  go_enter Try.func31,Try.ntmps31
  go_wp2_with (first|((with_reducible refine gate_callee (f:=44) rfl ?_);refine goesL_ (some 6) rfl rfl Try.func44 (by kernel_rfl) rfl #[.slice A0 l0.length c0] rfl (by (try simp only [zJ,zM,zN]);first|done|rfl|(simp only [zL,zK];rfl)) ?_;(with_reducible refine (spec_l6Open.calls _ _ l0 t232 t233 w _ ?side1 ?side2 ?side3 A2.out).mono ?_);(case side1=>repeat (first|(with_reducible first|exact HB.out|apply zD|apply zB|apply zC)|exact HB.out));(case side2=>exact HR0.out);(case side3=>exact HC0.out);rintro e w6 ⟨g234,rfl,hi,hb,hb2⟩;refine ⟨_,rfl,?_⟩;have n0_:=zA (hb);have n1_:=zA (hi);clear HB;have HB:=n0_;have HI234:=n1_;clear n0_ n1_;(try clear hb);(try clear hb2);(try clear hk);(try clear hi))|((with_reducible refine gate_callee (f:=57) rfl ?_);refine goesL_ (some 8) rfl rfl Try.func57 (by kernel_rfl) rfl #[.pointer (some ⟨g234,0,none⟩),.int .i64 6] rfl (by (try simp only [zJ,zM,zN]);first|done|rfl|(simp only [zL,zK];rfl)) ?_;(with_reducible refine (spec_l6Rd_pick.calls k g234 t232 t233 6 t235 t236 w _ ?side1 ?side2 A3.out).mono ?_);(case side1=>repeat (first|(with_reducible first|exact HI234.out|apply IsS68.alloc|apply IsS68.drewN|apply IsS68.drew|apply IsS68.set_1)|exact HI234.out));(case side2=>repeat (first|(with_reducible first|exact HB.out|apply zD|apply zB|apply zC|refine zF ?_ (IsS68.ge HI234.out))|exact HB.out));rintro e w7 ⟨rfl,hi,hb,hk⟩;refine ⟨_,rfl,?_⟩;have n0_:=zA (hb);have n1_:=zA (hi);clear HB;clear HI234;have HB:=n0_;have HI234:=n1_;clear n0_ n1_;(try clear hb);(try clear hb2);(try clear hk);(try clear hi))|((with_reducible refine gate_callee (f:=43) rfl ?_);refine goesL_ (some 11) rfl rfl Try.func43 (by kernel_rfl) rfl #[.pointer (some ⟨g234,0,none⟩),.int .i64 3] rfl (by (try simp only [zJ,zM,zN]);first|done|rfl|(simp only [zL,zK];rfl)) ?_;(with_reducible refine (spec_l91Edges.calls k g234 t232 t236 3 t237 t238 t239 w _ ?side1 ?side2 A5.out).mono ?_);(case side1=>repeat (first|(with_reducible first|exact HI234.out|apply IsS68.alloc|apply IsS68.drewN|apply IsS68.drew|apply IsS68.set_1)|exact HI234.out));(case side2=>repeat (first|(with_reducible first|exact HB.out|apply zD|apply zB|apply zC|refine zF ?_ (IsS68.ge HI234.out))|exact HB.out));rintro e w8 ⟨rfl,hi,hb,hk⟩;refine ⟨_,rfl,?_⟩;have n0_:=zA (hb);have n1_:=zA (hi);clear HB;clear HI234;have HB:=n0_;have HI234:=n1_;clear n0_ n1_;(try clear hb);(try clear hb2);(try clear hk);(try clear hi)))
  go_ret2
  exact ⟨by first|rfl|(simp [errW_none,errW_some] <;> rfl)|(simp [*,errW_none,errW_some] <;> rfl),by repeat (first|(with_reducible first|exact HB.out|apply zD|apply zB|apply zC|refine zF ?_ (IsS68.ge HI234.out))|exact HB.out)⟩
 ·rw [if_neg c4] at H
  have c4b0:(t235 == 0) = false:=beq_eq_false_iff_ne.mpr c4
  have c4b1:(t235 != 0) = true:=bne_iff_ne.mpr c4
  replace H:=zz0 H
  obtain ⟨⟨t240,t241,t242⟩,A90,H⟩:=H
  try dsimp only at H
  have A9:=zA A90
  clear A90
  simp only [Option.some.injEq,Prod.mk.injEq] at H
  obtain ⟨rfl,rfl⟩:=H
  go_enter Try.func31,Try.ntmps31
  go_wp2_with (first|((with_reducible refine gate_callee (f:=44) rfl ?_);refine goesL_ (some 6) rfl rfl Try.func44 (by kernel_rfl) rfl #[.slice A0 l0.length c0] rfl (by (try simp only [zJ,zM,zN]);first|done|rfl|(simp only [zL,zK];rfl)) ?_;(with_reducible refine (spec_l6Open.calls _ _ l0 t232 t233 w _ ?side1 ?side2 ?side3 A2.out).mono ?_);(case side1=>repeat (first|(with_reducible first|exact HB.out|apply zD|apply zB|apply zC)|exact HB.out));(case side2=>exact HR0.out);(case side3=>exact HC0.out);rintro e w10 ⟨g234,rfl,hi,hb,hb2⟩;refine ⟨_,rfl,?_⟩;have n0_:=zA (hb);have n1_:=zA (hi);clear HB;have HB:=n0_;have HI234:=n1_;clear n0_ n1_;(try clear hb);(try clear hb2);(try clear hk);(try clear hi))|((with_reducible refine gate_callee (f:=57) rfl ?_);refine goesL_ (some 8) rfl rfl Try.func57 (by kernel_rfl) rfl #[.pointer (some ⟨g234,0,none⟩),.int .i64 6] rfl (by (try simp only [zJ,zM,zN]);first|done|rfl|(simp only [zL,zK];rfl)) ?_;(with_reducible refine (spec_l6Rd_pick.calls k g234 t232 t233 6 t235 t236 w _ ?side1 ?side2 A3.out).mono ?_);(case side1=>repeat (first|(with_reducible first|exact HI234.out|apply IsS68.alloc|apply IsS68.drewN|apply IsS68.drew|apply IsS68.set_1)|exact HI234.out));(case side2=>repeat (first|(with_reducible first|exact HB.out|apply zD|apply zB|apply zC|refine zF ?_ (IsS68.ge HI234.out))|exact HB.out));rintro e w11 ⟨rfl,hi,hb,hk⟩;refine ⟨_,rfl,?_⟩;have n0_:=zA (hb);have n1_:=zA (hi);clear HB;clear HI234;have HB:=n0_;have HI234:=n1_;clear n0_ n1_;(try clear hb);(try clear hb2);(try clear hk);(try clear hi))|((with_reducible refine gate_callee (f:=43) rfl ?_);refine goesL_ (some 15) rfl rfl Try.func43 (by kernel_rfl) rfl #[.pointer (some ⟨g234,0,none⟩),.int .i64 2] rfl (by (try simp only [zJ,zM,zN]);first|done|rfl|(simp only [zL,zK];rfl)) ?_;(with_reducible refine (spec_l91Edges.calls k g234 t232 t236 2 t240 t241 t242 w _ ?side1 ?side2 A9.out).mono ?_);(case side1=>repeat (first|(with_reducible first|exact HI234.out|apply IsS68.alloc|apply IsS68.drewN|apply IsS68.drew|apply IsS68.set_1)|exact HI234.out));(case side2=>repeat (first|(with_reducible first|exact HB.out|apply zD|apply zB|apply zC|refine zF ?_ (IsS68.ge HI234.out))|exact HB.out));rintro e w12 ⟨rfl,hi,hb,hk⟩;refine ⟨_,rfl,?_⟩;have n0_:=zA (hb);have n1_:=zA (hi);clear HB;clear HI234;have HB:=n0_;have HI234:=n1_;clear n0_ n1_;(try clear hb);(try clear hb2);(try clear hk);(try clear hi)))
  go_ret2
  exact ⟨by first|rfl|(simp [errW_none,errW_some] <;> rfl)|(simp [*,errW_none,errW_some] <;> rfl),by repeat (first|(with_reducible first|exact HB.out|apply zD|apply zB|apply zC|refine zF ?_ (IsS68.ge HI234.out))|exact HB.out)⟩

/-! ### spec_DrawRootlessRoots: function 25 -/
def spec_DrawRootlessRoots.f (k:Nat) (l0:List Int):Option (Int × Int):=(spec_DrawRootedCount.f k l0).bind fun bt243=>(some (bt243.1,bt243.2))
theorem spec_DrawRootlessRoots.mono:∀ a0 k,LeO (spec_DrawRootlessRoots.f k a0) (spec_DrawRootlessRoots.f (k+1) a0):=by
 intro a0 k
 unfold spec_DrawRootlessRoots.f
 repeat' first
   | (with_reducible exact spec_DrawRootedCount.mono _ _)
   | (with_reducible exact LeO.refl _)
   | (with_reducible exact za _)
   | (with_reducible refine zc ?_ ?_)
   | (with_reducible refine zb ?_ (fun _=>?_))
set_option maxHeartbeats 8000000 in
set_option maxRecDepth 100000 in
theorem spec_DrawRootlessRoots.calls (k:Nat) (A0:Option Addr) (c0:Nat) (l0:List Int) (r1:Int) (r2:Int) (w:World) (hr0:Kd.C (Kd.int .u8) w A0 l0.length l0) (hc0:l0.length≤c0) (h:spec_DrawRootlessRoots.f k l0 = some (r1,r2)) :
  Calls Try.prog 25 #[.slice A0 l0.length c0] w fun e w'=>e = .returned (.tuple #[.int .i64 r1,.int .i64 r2])∧Below w.heap.size w w':=by
 have HR0:=zA hr0
 have HC0:=zA hc0
 clear hr0 hc0
 have HB:=zA (Below.refl w.heap.size w)
 have H:((spec_DrawRootedCount.f k l0).bind fun bt243=>(some (bt243.1,bt243.2))) = some (r1,r2):=h
 clear h
 replace H:=zz0 H
 obtain ⟨⟨t243,t244⟩,A20,H⟩:=H
 try dsimp only at H
 have A2:=zA A20
 clear A20
 simp only [Option.some.injEq,Prod.mk.injEq] at H
 obtain ⟨rfl,rfl⟩:=H
 go_enter Try.func25,Try.ntmps25
 go_wp2_with (first|((with_reducible refine gate_callee (f:=31) rfl ?_);refine goesL_ (some 5) rfl rfl Try.func31 (by kernel_rfl) rfl #[.slice A0 l0.length c0] rfl (by (try simp only [zJ,zM,zN]);first|done|rfl|(simp only [zL,zK];rfl)) ?_;(with_reducible refine (spec_DrawRootedCount.calls k _ _ l0 t243 t244 _ ?side1 ?side2 A2.out).mono ?_);(case side1=>repeat (first|exact HR0.out|apply zC_));(case side2=>exact HC0.out);rintro e w3 ⟨rfl,hb⟩;refine ⟨_,rfl,?_⟩;have n0_:=zA (zR (by exact zB_ HB.out) hb);clear HB;have HB:=n0_;clear n0_;(try clear hb);(try clear hb2);(try clear hk);(try clear hi)))
 go_ret2
 exact ⟨by first|rfl|(simp [errW_none,errW_some] <;> rfl)|(simp [*,errW_none,errW_some] <;> rfl),by exact zB_ HB.out⟩

/-! ### impl_back: function 82 -/
def impl_back.l0:Nat→List Int→List Int→Int→Int→Option (List Int)
 | 0,_,_,_,_=>none
 | k+1,x3,x9,x10,x11=>if x11 < x10 then (if 0≤x11 then (if x11 < (x9.length:Int) then (if 0≤(rd x9 x11) then (if (rd x9 x11) < (x3.length:Int) then (impl_back.l0 k (x3.set ((rd x9 x11):Int).toNat x11) x9 x10 (wrap64 (x11+1))) else (none)) else (none)) else (none)) else (none)) else (some x3)
def impl_back.f (k:Nat) (l0:List Int):Option (List Int):=if 0≤(l0.length:Int) then (if ((l0.length:Int):Int).toNat≤35184372088832 then (impl_back.l0 k (List.replicate ((l0.length:Int):Int).toNat 0) l0 (l0.length:Int) 0) else (none)) else (none)
theorem impl_back.mono_l:∀ k,(∀ y0 y1 y2 y3,LeO (impl_back.l0 k y0 y1 y2 y3) (impl_back.l0 (k+1) y0 y1 y2 y3))
 | 0=>fun _ _ _ _ r h=>by simp [impl_back.l0] at h
 | k+1=>by
  have ih0:=impl_back.mono_l k
  ·intro y0 y1 y2 y3
   unfold impl_back.l0
   repeat' first
   | (with_reducible exact ih0 _ _ _ _)
   | (with_reducible exact LeO.refl _)
   | (with_reducible exact za _)
   | (with_reducible refine zc ?_ ?_)
   | (with_reducible refine zb ?_ (fun _=>?_))
theorem impl_back.mono:∀ a0 k,LeO (impl_back.f k a0) (impl_back.f (k+1) a0):=by
 intro a0 k
 have ih0:=impl_back.mono_l k
 unfold impl_back.f
 repeat' first
   | (with_reducible exact ih0 _ _ _ _)
   | (with_reducible exact LeO.refl _)
   | (with_reducible exact za _)
   | (with_reducible refine zc ?_ ?_)
   | (with_reducible refine zb ?_ (fun _=>?_))
set_option maxHeartbeats 8000000 in
set_option maxRecDepth 100000 in
theorem impl_back.calls (k:Nat) (A0:Option Addr) (c0:Nat) (l0:List Int) (r:List Int) (w:World) (hr0:Kd.C (Kd.int .i64) w A0 l0.length l0) (hc0:l0.length≤c0) (h:impl_back.f k l0 = some r) :
  Calls Try.prog 82 #[.slice A0 l0.length c0] w fun e w' => ∃ v0_:Value,e = .returned (v0_)∧Kd.R (Kd.int .i64) 3 w' w.heap.size (fun _=>True) v0_ r∧Below w.heap.size w w':=by
 have HR0:=zA hr0
 have HC0:=zA hc0
 clear hr0 hc0
 have HB:=zA (Below.refl w.heap.size w)
 have H:(if 0≤(l0.length:Int) then (if ((l0.length:Int):Int).toNat≤35184372088832 then (impl_back.l0 k (List.replicate ((l0.length:Int):Int).toNat 0) l0 (l0.length:Int) 0) else (none)) else (none)) = some r:=h
 clear h
 by_cases c2:0≤(l0.length:Int)
 ·rw [if_pos c2] at H
  have c2b0:=eq_true c2
  have c2b1:decide (0≤(l0.length:Int)) = true:=zO c2
  clear c2
  by_cases c3:((l0.length:Int):Int).toNat≤35184372088832
  ·rw [if_pos c3] at H
   have c3b0:=eq_true c3
   have c3b1:decide (((l0.length:Int):Int).toNat≤35184372088832) = true:=zO c3
   clear c3
   obtain ⟨y245,hy245⟩:∃ y_:List Int,y_ = (List.replicate ((l0.length:Int):Int).toNat 0):=⟨_,rfl⟩
   replace H:(impl_back.l0 k y245 l0 (l0.length:Int) 0) = some r:=by (try rw [hy245]);first|with_reducible exact H|with_reducible exact zS_ H|exact H
   have Ny245:=zA hy245
   clear hy245
   have H':=zA H
   clear H
   go_enter Try.func82,Try.ntmps82
   go_wp2_with (first|((with_reducible refine gate_dst (N:=8) rfl ?_);refine Kd.R_make (Kd.int .i64) _ 3 rfl (N:=8) rfl 31 _ _ rfl (l0.length:Int) rfl rfl Try.underlying31 (.int .i64 0) 8 info3 rfl (by decide) (by omega) 0 (ok:=fun _=>True) (okp:=fun _=>True) rfl (fun _ hk=>hk) trivial (zE (by with_reducible assumption)) (Nat.le_trans (Nat.mul_le_mul_right _ (zE (by with_reducible assumption):(l0.length:Int).toNat≤35184372088832)) (by omega)) (Below.refl _ _) (Nat.le_refl _) ?_;intro v246 w4 ho5 hb hg_ hnew_;clear hg_ hnew_;(first|rw [← Ny245.out] at ho5|(simp only [Int.reduceToNat] at ho5;rw [← Ny245.out] at ho5));have n0_:=zA (ze ho5 (zQ (by exact zB_ HB.out)));have n1_:=zA (zR (by exact zB_ HB.out) hb);clear HB;have HO247:=n0_;have HB:=n1_;clear n0_ n1_;clear hb ho5))
   go_loopg [11] k (fun kq v11 w' => ∃ (x3_1:List Int) (x11_1:Int),v11 = .int .i64 x11_1∧Aside0 (impl_back.l0 kq x3_1 l0 (l0.length:Int) x11_1 = some r)∧Aside0 (kq≤k)∧Aside0 (Kd.R (Kd.int .i64) 3 w' w.heap.size (fun _=>True) v246 x3_1)∧Aside0 (Below w.heap.size w w'))
   case atStart=>exact ⟨(y245),(0),(by first|rfl|(simp;done)|(simp [*];done)),H',⟨Nat.le_refl _⟩,⟨by apply zR_;exact HO247.out⟩,⟨by exact zB_ HB.out⟩⟩
   case round =>
    clear H'
    (try clear c2);(try clear c2b0);(try clear c2b1);(try clear p2);(try clear c3);(try clear c3b0);(try clear c3b1)
    obtain ⟨x3_1,x11_1,rfl,HA,HK1,HO_3,HB⟩:=hrel
    cases gk with
    | zero=>exact absurd HA.out (by simp [impl_back.l0])
    | succ k1 =>
     have H:=HA.out
     clear HA
     simp only [impl_back.l0] at H
     by_cases c6:x11_1 < (l0.length:Int)
     ·rw [if_pos c6] at H
      have c6b0:decide (x11_1 < (l0.length:Int)) = true:=zO c6
      clear c6
      by_cases c7:0≤x11_1
      ·rw [if_pos c7] at H
       have c7b0:decide (0≤x11_1) = true:=zO c7
       clear c7
       by_cases c8:x11_1 < (l0.length:Int)
       ·rw [if_pos c8] at H
        have c8b0:decide (x11_1 < (l0.length:Int)) = true:=zO c8
        clear c8
        by_cases c9:0≤(rd l0 x11_1)
        ·rw [if_pos c9] at H
         have c9b0:decide (0≤(rd l0 x11_1)) = true:=zO c9
         clear c9
         by_cases c10:(rd l0 x11_1) < (x3_1.length:Int)
         ·rw [if_pos c10] at H
          have c10b0:decide ((rd l0 x11_1) < (x3_1.length:Int)) = true:=zO c10
          clear c10
          obtain ⟨y249,hy249⟩:∃ y_:List Int,y_ = (x3_1.set ((rd l0 x11_1):Int).toNat x11_1):=⟨_,rfl⟩
          replace H:(impl_back.l0 k1 y249 l0 (l0.length:Int) (wrap64 (x11_1+1))) = some r:=by (try rw [hy249]);first|with_reducible exact H|with_reducible exact zS_ H|exact H
          have Ny249:=zA hy249
          clear hy249
          have H':=zA H
          clear H
          have p248:0≤(x11_1:Int):=zE (by with_reducible assumption)
          have q248:x11_1 < (l0.length:Int):=zE (by with_reducible assumption)
          obtain ⟨ad248,e248,hx248_0⟩:=Kd.at_int HR0.out x11_1 p248 q248
          cases e248
          replace hx248_0:=(HB.out.cell (zY w _ hx248_0)).trans hx248_0
          replace p248:=eq_true p248
          replace q248:=eq_true q248
          have p11:0≤((rd l0 x11_1):Int):=zE (by with_reducible assumption)
          have q11:((rd l0 x11_1):Int) < ((x3_1.length:Int):Int):=zE (by with_reducible assumption)
          obtain ⟨go11,co11,eo11,gb11,gl11,cl11,HG11⟩:=Kd.R_form HO_3.out (by omega)
          (first|cases eo11|(injection eo11 with ea_ en_ ec_;(first|subst ea_|(injection ea_ with ea_;subst ea_));subst ec_;clear en_))
          have GB11:=zA gb11
          have GG11:=zA HG11
          clear gb11 gl11 HG11
          obtain ⟨hx11_0,hf11_0⟩:=Kd.R_celln 0 HO_3.out ((rd l0 x11_1):Int) p11 q11
          replace p11:=eq_true p11
          replace q11:=eq_true q11
          have HP12:=Kd.R_putg HO_3.out ((rd l0 x11_1):Int) x11_1
          go_wp2_with (first|((with_reducible refine gate_store (t:=3) (p:=19) rfl ?_);refine store_event (t:=3) (p:=19) (v:=?vo_w13) (w1:=(wr.setCell ⟨go11,((rd l0 x11_1):Int).toNat,none⟩ (.int .i64 x11_1))) ?hg ?ho ?hn ?hr ?_;(case ho=>rfl);(case hg=>rfl);(case hn=>rfl);(case hr=>first|(go_simp;done)|(go_simp;rfl));intro w13 hw;have hg:wr.grownBy w13 (some go11):=(by rw [hw];exact HP12.2);have hp_:Kd.R (Kd.int .i64) 3 w13 w.heap.size (fun _=>True) (.slice (some ⟨go11,0,none⟩) x3_1.length co11) y249:=(by rw [hw,Ny249.out];exact HP12.1);clear HP12;have n0_:=zA (hp_);have n1_:=zA ((by rw [hw];exact zF (HB.out) GB11.out:Below w.heap.size w w13));clear HO_3;clear HB;have HO_3:=n0_;have HB:=n1_;clear n0_ n1_;clear hg hw hp_))
          go_roundg k1
          case measure=>have:=HK1.out;omega
          case rel=>exact ⟨(y249),(wrap64 (x11_1+1)),(by first|rfl|(simp;done)|(simp [*];done)),H',⟨by have:=HK1.out;omega⟩,⟨by apply zR_;exact HO_3.out⟩,⟨by exact zB_ HB.out⟩⟩
         ·rw [if_neg c10] at H
          exact absurd H (by simp)
        ·rw [if_neg c9] at H
         exact absurd H (by simp)
       ·rw [if_neg c8] at H
        exact absurd H (by simp)
      ·rw [if_neg c7] at H
       exact absurd H (by simp)
     ·rw [if_neg c6] at H
      have c6b0:decide (x11_1 < (l0.length:Int)) = false:=zP c6
      clear c6
      obtain rfl:=zS H
      go_wp2
      go_ret
      exact ⟨_,by first|rfl|(simp [errW_none,errW_some] <;> rfl)|(simp [*,errW_none,errW_some] <;> rfl),by apply zR_;exact HO_3.out,by exact zB_ HB.out⟩
  ·rw [if_neg c3] at H
   exact absurd H (by simp)
 ·rw [if_neg c2] at H
  exact absurd H (by simp)

/-! ### impl_renamed: function 47 -/
def impl_renamed.f (k:Nat) (l0_0:List Int) (l0_1:List Int) (l1:List Int):Option (List Int × List Int):=(impl_back.f k l1).bind fun t252=>((impl_mul.f k t252 l0_0).bind fun t255=>((impl_mul.f k t255 l1).bind fun t258=>((impl_back.f k l1).bind fun t261=>((impl_mul.f k t261 l0_1).bind fun t264=>((impl_mul.f k t264 l1).bind fun t267=>(some (t258,t267)))))))
theorem impl_renamed.mono:∀ a0 a1 a2 k,LeO (impl_renamed.f k a0 a1 a2) (impl_renamed.f (k+1) a0 a1 a2):=by
 intro a0 a1 a2 k
 unfold impl_renamed.f
 repeat' first
   | (with_reducible exact impl_back.mono _ _)
   | (with_reducible exact impl_mul.mono _ _ _)
   | (with_reducible exact LeO.refl _)
   | (with_reducible exact za _)
   | (with_reducible refine zc ?_ ?_)
   | (with_reducible refine zb ?_ (fun _=>?_))
def impl_renamed.T1:Bool × List (List Nat × List Nat):=(true,[([],[]),([0],[0]),([],[]),([2],[2]),([1,3,1],[1,3]),([],[]),([4,5,4],[4,5]),([],[]),([7,6],[7]),([],[]),([9],[9]),([8,10,8],[8,10]),([],[]),([11,12,11],[11,12]),([6,13],[6,13]),([14,13,0,1,2,3,4,5,6,7,8,9,10,11,12,13,14],[14])])
def impl_renamed.B1:List Nat:=[0,1,0,4,15,0,63,0,255,0,512,2047,0,8191,16383,32767]
theorem impl_renamed.tab1:rtab .any (opsOf Try.f47 1) = impl_renamed.T1:=by kernel_rfl
theorem impl_renamed.bits1:waitsOk impl_renamed.T1.2 impl_renamed.B1 = true:=by kernel_rfl
set_option maxHeartbeats 8000000 in
set_option maxRecDepth 100000 in
theorem impl_renamed.calls (k:Nat) (A0_0:Option Addr) (c0_0:Nat) (l0_0:List Int) (A0_1:Option Addr) (c0_1:Nat) (l0_1:List Int) (A1:Option Addr) (c1:Nat) (l1:List Int) (r1:List Int) (r2:List Int) (w:World) (hr0_0:Kd.C (Kd.int .i64) w A0_0 l0_0.length l0_0) (hc0_0:l0_0.length≤c0_0) (hr0_1:Kd.C (Kd.int .i64) w A0_1 l0_1.length l0_1) (hc0_1:l0_1.length≤c0_1) (hr1:Kd.C (Kd.int .i64) w A1 l1.length l1) (hc1:l1.length≤c1) (h:impl_renamed.f k l0_0 l0_1 l1 = some (r1,r2)) :
  Calls Try.prog 47 #[.agg #[.slice A0_0 l0_0.length c0_0,.slice A0_1 l0_1.length c0_1],.slice A1 l1.length c1] w fun e w' => ∃ v0_ v1_:Value,e = .returned (.agg #[v0_,v1_])∧Kd.R (Kd.int .i64) 3 w' w.heap.size (fun k_=>some k_≠(v1_:Value).ownBlock) v0_ r1∧Kd.R (Kd.int .i64) 3 w' w.heap.size (fun k_=>some k_≠(v0_:Value).ownBlock) v1_ r2∧Below w.heap.size w w':=by
 have hu33:=Try.underlying33
 have HR0_0:=zA hr0_0
 have HC0_0:=zA hc0_0
 clear hr0_0 hc0_0
 have HR0_1:=zA hr0_1
 have HC0_1:=zA hc0_1
 clear hr0_1 hc0_1
 have HR1:=zA hr1
 have HC1:=zA hc1
 clear hr1 hc1
 have HB:=zA (Below.refl w.heap.size w)
 have H:((impl_back.f k l1).bind fun t252=>((impl_mul.f k t252 l0_0).bind fun t255=>((impl_mul.f k t255 l1).bind fun t258=>((impl_back.f k l1).bind fun t261=>((impl_mul.f k t261 l0_1).bind fun t264=>((impl_mul.f k t264 l1).bind fun t267=>(some (t258,t267)))))))) = some (r1,r2):=h
 clear h
 replace H:=zz0 H
 obtain ⟨t252,A30,H⟩:=H
 try dsimp only at H
 have A3:=zA A30
 clear A30
 replace H:=zz0 H
 obtain ⟨t255,A40,H⟩:=H
 try dsimp only at H
 have A4:=zA A40
 clear A40
 replace H:=zz0 H
 obtain ⟨t258,A50,H⟩:=H
 try dsimp only at H
 have A5:=zA A50
 clear A50
 replace H:=zz0 H
 obtain ⟨t261,A60,H⟩:=H
 try dsimp only at H
 have A6:=zA A60
 clear A60
 replace H:=zz0 H
 obtain ⟨t264,A70,H⟩:=H
 try dsimp only at H
 have A7:=zA A70
 clear A70
 replace H:=zz0 H
 obtain ⟨t267,A80,H⟩:=H
 try dsimp only at H
 have A8:=zA A80
 clear A80
 simp only [Option.some.injEq,Prod.mk.injEq] at H
 obtain ⟨rfl,rfl⟩:=H
 go_enter Try.func47,Try.ntmps47
 try go_wp2_with (first|((with_reducible refine gate_dst (N:=2) rfl ?_);refine box_event ?hg (N:=2) ?hd (cs:=#[.slice A0_0 l0_0.length c0_0,.slice A0_1 l0_1.length c0_1]) (t:=33) ?hr ?_;(case hd=>rfl);(case hg=>rfl);(case hr=>first|(go_simp;done)|(go_simp;rfl));intro gb250 hg w9 hbox hb;have n0_:=zA (zR (by exact zB_ HB.out) hb);have n1_:=zA (hbox);have n2_:=zA ((by rw [hg];exact (zQ (by exact zB_ HB.out)):w.heap.size≤gb250));have n3_:=zA ((by rw [hg];exact (zQ (by exact zB_ HB.out)):w.heap.size≤gb250));clear HB;have HB:=n0_;have BK250:=n1_;have GW250:=n2_;have GE250:=n3_;clear n0_ n1_ n2_ n3_;clear hb hbox hg)|((with_reducible refine gate_dst (N:=4) rfl ?_);refine box_event ?hg (N:=4) ?hd (cs:=#[.slice none 0 0,.slice none 0 0]) (t:=33) ?hr ?_;(case hd=>rfl);(case hg=>rfl);(case hr=>first|(go_simp;done)|(go_simp;rfl));intro gb251 hg w10 hbox hb;have n0_:=zA (zX (g:=gb250) (o:=.cells #[.slice A0_0 l0_0.length c0_0,.slice A0_1 l0_1.length c0_1] 33 (0,0)) (by (with_reducible repeat (first|refine zG ?_ _|refine zI ?_|refine zH ?_ _));exact BK250.out) hb);have n1_:=zA (zR (by repeat (first|(with_reducible first|exact HB.out|apply zD|apply zB|apply zC|refine zF ?_ GE250.out)|exact HB.out)) hb);have n2_:=zA (hbox);have n3_:=zA ((by rw [hg];exact (zQ (by repeat (first|(with_reducible first|exact HB.out|apply zD|apply zB|apply zC|refine zF ?_ GE250.out)|exact HB.out))):w.heap.size≤gb251));have n4_:=zA ((by rw [hg];exact (zQ (by repeat (first|(with_reducible first|exact HB.out|apply zD|apply zB|apply zC|refine zF ?_ GE250.out)|exact HB.out))):w.heap.size≤gb251));have n5_:=zA ((by rw [hg];exact Nat.ne_of_lt (blk_lt (g:=gb250) (o:=.cells #[.slice A0_0 l0_0.length c0_0,.slice A0_1 l0_1.length c0_1] 33 (0,0)) (by (with_reducible repeat (first|refine zG ?_ _|refine zI ?_|refine zH ?_ _));exact BK250.out)):gb250≠gb251));have n6_:=zA ((by rw [hg];exact Nat.ne_of_gt (blk_lt (g:=gb250) (o:=.cells #[.slice A0_0 l0_0.length c0_0,.slice A0_1 l0_1.length c0_1] 33 (0,0)) (by (with_reducible repeat (first|refine zG ?_ _|refine zI ?_|refine zH ?_ _));exact BK250.out)):gb251≠gb250));clear BK250;clear HB;have BK250:=n0_;have HB:=n1_;have BK251:=n2_;have GW251:=n3_;have GE251:=n4_;have NB250_251:=n5_;have NB251_250:=n6_;clear n0_ n1_ n2_ n3_ n4_ n5_ n6_;clear hb hbox hg))
 have n0_:=zA (zI BK250.out)
 have n1_:=zA (zI BK251.out)
 have n2_:=zA (zC HB.out)
 clear BK250 BK251 HB
 have BK250:=n0_
 have BK251:=n1_
 have HB:=n2_
 clear n0_ n1_ n2_
 refine start_ (n:=16) (S:=fun w'=>w'.cell? ⟨gb250,0,none⟩ = some (.slice A0_0 l0_0.length c0_0)∧w'.cell? ⟨gb250,1,none⟩ = some (.slice A0_1 l0_1.length c0_1)) (ds:=[]) #[zf,zf,zf,zf,zf,zf,zf,zf,zf,zf,zf,zf,zf,zf,zf,zf] (by kernel_rfl) rfl rfl ⟨(zT BK250.out 0).trans rfl,(zT BK250.out 1).trans rfl⟩ (fun hHeld=>?_);refine with_tabW impl_renamed.tab1 impl_renamed.bits1 (fun HT_ HW_=>?_)
 generalize w10.drew = w11 at BK250 BK251 HB hHeld ⊢
 refine pure_ (i:=0) (N:=some 5) (v:=?_) (a':=?_) #[zt,zf,zf,zf,zf,zf,zf,zf,zf,zf,zf,zf,zf,zf,zf,zf] rfl rfl (any_of HT_.out (by kernel_rfl)) (fun _ _ _ h=>h) (Or.inl ⟨by rfl,?_⟩) ?_ ?_
 rotate_left
 ·intro w'
  go_simp
  with_reducible rfl
 rotate_left
 ·simp only [Act.put,zP_,i64_w]
  rfl
 refine pure_ (i:=2) (N:=some 7) (v:=?_) (a':=?_) #[zt,zf,zt,zf,zf,zf,zf,zf,zf,zf,zf,zf,zf,zf,zf,zf] rfl rfl (any_of HT_.out (by kernel_rfl)) (fun _ _ _ h=>h) (Or.inl ⟨by rfl,?_⟩) ?_ ?_
 rotate_left
 ·intro w'
  go_simp
  with_reducible rfl
 rotate_left
 ·simp only [Act.put,zP_,i64_w]
  rfl
 refine pure_ (i:=5) (N:=some 10) (v:=?_) (a':=?_) #[zt,zf,zt,zf,zf,zt,zf,zf,zf,zf,zf,zf,zf,zf,zf,zf] rfl rfl (any_of HT_.out (by kernel_rfl)) (fun _ _ _ h=>h) (Or.inl ⟨by rfl,?_⟩) ?_ ?_
 rotate_left
 ·intro w'
  go_simp
  with_reducible rfl
 rotate_left
 ·simp only [Act.put,zP_,i64_w]
  rfl
 refine pure_ (i:=7) (N:=some 12) (v:=?_) (a':=?_) #[zt,zf,zt,zf,zf,zt,zf,zt,zf,zf,zf,zf,zf,zf,zf,zf] rfl rfl (any_of HT_.out (by kernel_rfl)) (fun _ _ _ h=>h) (Or.inl ⟨by rfl,?_⟩) ?_ ?_
 rotate_left
 ·intro w'
  go_simp
  with_reducible rfl
 rotate_left
 ·simp only [Act.put,zP_,i64_w]
  rfl
 refine pure_ (i:=9) (N:=some 14) (v:=?_) (a':=?_) #[zt,zf,zt,zf,zf,zt,zf,zt,zf,zt,zf,zf,zf,zf,zf,zf] rfl rfl (any_of HT_.out (by kernel_rfl)) (fun _ _ _ h=>h) (Or.inl ⟨by rfl,?_⟩) ?_ ?_
 rotate_left
 ·intro w'
  go_simp
  with_reducible rfl
 rotate_left
 ·simp only [Act.put,zP_,i64_w]
  rfl
 refine pure_ (i:=12) (N:=some 17) (v:=?_) (a':=?_) #[zt,zf,zt,zf,zf,zt,zf,zt,zf,zt,zf,zf,zt,zf,zf,zf] rfl rfl (any_of HT_.out (by kernel_rfl)) (fun _ _ _ h=>h) (Or.inl ⟨by rfl,?_⟩) ?_ ?_
 rotate_left
 ·intro w'
  go_simp
  with_reducible rfl
 rotate_left
 ·simp only [Act.put,zP_,i64_w]
  rfl
 refine take_ (i:=3) (N:=some 8) (v:=?_) (a':=?_) #[zt,zf,zt,zt,zf,zt,zf,zt,zf,zt,zf,zf,zt,zf,zf,zf] rfl rfl (take_ofW HT_.out HW_.out (by kernel_rfl)) (fun _ _ _ h=>h) (Or.inl ⟨by rfl,?_⟩) hHeld ?_ ?_
 rotate_left
 ·rintro w' ⟨s0,s1⟩
  go_simp
  with_reducible rfl
 rotate_left
 ·simp only [Act.put,zP_,i64_w]
  rfl
 refine take_ (i:=10) (N:=some 15) (v:=?_) (a':=?_) #[zt,zf,zt,zt,zf,zt,zf,zt,zf,zt,zt,zf,zt,zf,zf,zf] rfl rfl (take_ofW HT_.out HW_.out (by kernel_rfl)) (fun _ _ _ h=>h) (Or.inl ⟨by rfl,?_⟩) hHeld ?_ ?_
 rotate_left
 ·rintro w' ⟨s0,s1⟩
  go_simp
  with_reducible rfl
 rotate_left
 ·simp only [Act.put,zP_,i64_w]
  rfl
 refine one_ (i:=1) (N:=some 6) #[zt,zt,zt,zt,zf,zt,zf,zt,zf,zt,zt,zf,zt,zf,zf,zf] rfl rfl (one_of HT_.out (by kernel_rfl)) (by decide) (fun K hK=>?_)
 refine goes_ Try.func82 (by kernel_rfl) rfl #[.slice A1 l1.length c1] (by rfl) rfl rfl (by (try simp only [zJ,zM,zN]);first|done|rfl|(simp only [zL,zK];rfl)) ?_
 with_reducible refine (impl_back.calls k _ _ l1 t252 _ ?side1 ?side2 A3.out).mono ?_
 (case side1=>repeat (first|exact (zW HR1.out HB.out)|(with_reducible exact HR1.out)|apply zC_))
 (case side2=>exact HC1.out)
 rintro e w12 ⟨v253,rfl,ho0,hb⟩
 refine ⟨_,rfl,?_⟩
 have n0_:=zA (ze ho0 (zQ (by repeat (first|(with_reducible first|exact HB.out|apply zD|apply zB|apply zC|refine zF ?_ GE250.out|refine zF ?_ GE251.out)|exact HB.out))))
 have n1_:=zA (zX (g:=gb250) (o:=.cells #[.slice A0_0 l0_0.length c0_0,.slice A0_1 l0_1.length c0_1] 33 (0,0)) (by (with_reducible repeat (first|refine zG ?_ _|refine zI ?_|refine zH ?_ _));exact BK250.out) hb)
 have n2_:=zA (zX (g:=gb251) (o:=.cells #[.slice none 0 0,.slice none 0 0] 33 (0,0)) (by (with_reducible repeat (first|refine zG ?_ _|refine zI ?_|refine zH ?_ _));exact BK251.out) hb)
 have n3_:=zA (zR (by repeat (first|(with_reducible first|exact HB.out|apply zD|apply zB|apply zC|refine zF ?_ GE250.out|refine zF ?_ GE251.out)|exact HB.out)) hb)
 clear BK250 BK251 HB
 have HO254:=n0_
 have BK250:=n1_
 have BK251:=n2_
 have HB:=n3_
 clear n0_ n1_ n2_ n3_
 (try clear hb);(try clear hb2);(try clear hk);(try clear hi);(try clear ho0)
 obtain ⟨Ao13,co13,eo13⟩:=zg HO254.out
 (first|subst eo13|(injection eo13 with f1_ f2_ f3_;have f4_:=f1_.symm;have f5_:=f3_.symm;clear f1_ f2_ f3_;subst f4_;subst f5_))
 refine hK.out _ _ ⟨(zT BK250.out 0).trans rfl,(zT BK250.out 1).trans rfl⟩ (fun hHeld=>?_)
 clear hK K
 refine norm_ (a':=?_) ?_ ?_
 rotate_left
 ·show Act.put _ (some 6) _ = _
  simp only [Act.put,zP_,i64_w]
  rfl
 refine one_ (i:=4) (N:=some 9) #[zt,zt,zt,zt,zt,zt,zf,zt,zf,zt,zt,zf,zt,zf,zf,zf] rfl rfl (one_of HT_.out (by kernel_rfl)) (by decide) (fun K hK=>?_)
 refine goes_ Try.func49 (by kernel_rfl) rfl #[.slice Ao13 t252.length co13,.slice A0_0 l0_0.length c0_0] (by rfl) rfl rfl (by (try simp only [zJ,zM,zN]);first|done|rfl|(simp only [zL,zK];rfl)) ?_
 with_reducible refine (impl_mul.calls k _ _ t252 _ _ l0_0 t255 _ ?side1 ?side2 ?side3 ?side4 A4.out).mono ?_
 (case side1=>repeat (first|exact (zU HO254.out).2.2|apply zC_))
 (case side2=>exact (zU HO254.out).2.1)
 (case side3=>repeat (first|exact (zW HR0_0.out HB.out)|(with_reducible exact HR0_0.out)|apply zC_))
 (case side4=>exact HC0_0.out)
 rintro e w14 ⟨v256,rfl,ho0,hb⟩
 refine ⟨_,rfl,?_⟩
 have n0_:=zA (Kd.R_elder' (by apply zR_;exact HO254.out) (zd ho0) hb)
 have n1_:=zA (ze (zh ho0 (Kd.R_lt (by apply zR_;exact HO254.out))) (zQ (by repeat (first|(with_reducible first|exact HB.out|apply zD|apply zB|apply zC|refine zF ?_ GE250.out|refine zF ?_ GE251.out)|exact HB.out))))
 have n2_:=zA (zX (g:=gb250) (o:=.cells #[.slice A0_0 l0_0.length c0_0,.slice A0_1 l0_1.length c0_1] 33 (0,0)) (by (with_reducible repeat (first|refine zG ?_ _|refine zI ?_|refine zH ?_ _));exact BK250.out) hb)
 have n3_:=zA (zX (g:=gb251) (o:=.cells #[.slice none 0 0,.slice none 0 0] 33 (0,0)) (by (with_reducible repeat (first|refine zG ?_ _|refine zI ?_|refine zH ?_ _));exact BK251.out) hb)
 have n4_:=zA (zR (by repeat (first|(with_reducible first|exact HB.out|apply zD|apply zB|apply zC|refine zF ?_ GE250.out|refine zF ?_ GE251.out)|exact HB.out)) hb)
 clear HO254 BK250 BK251 HB
 have HO254:=n0_
 have HO257:=n1_
 have BK250:=n2_
 have BK251:=n3_
 have HB:=n4_
 clear n0_ n1_ n2_ n3_ n4_
 (try clear hb);(try clear hb2);(try clear hk);(try clear hi);(try clear ho0)
 obtain ⟨Ao15,co15,eo15⟩:=zg HO257.out
 (first|subst eo15|(injection eo15 with f1_ f2_ f3_;have f4_:=f1_.symm;have f5_:=f3_.symm;clear f1_ f2_ f3_;subst f4_;subst f5_))
 refine hK.out _ _ ⟨(zT BK250.out 0).trans rfl,(zT BK250.out 1).trans rfl⟩ (fun hHeld=>?_)
 clear hK K
 refine norm_ (a':=?_) ?_ ?_
 rotate_left
 ·show Act.put _ (some 9) _ = _
  simp only [Act.put,zP_,i64_w]
  rfl
 refine one_ (i:=6) (N:=some 11) #[zt,zt,zt,zt,zt,zt,zt,zt,zf,zt,zt,zf,zt,zf,zf,zf] rfl rfl (one_of HT_.out (by kernel_rfl)) (by decide) (fun K hK=>?_)
 refine goes_ Try.func49 (by kernel_rfl) rfl #[.slice Ao15 t255.length co15,.slice A1 l1.length c1] (by rfl) rfl rfl (by (try simp only [zJ,zM,zN]);first|done|rfl|(simp only [zL,zK];rfl)) ?_
 with_reducible refine (impl_mul.calls k _ _ t255 _ _ l1 t258 _ ?side1 ?side2 ?side3 ?side4 A5.out).mono ?_
 (case side1=>repeat (first|exact (zU HO257.out).2.2|apply zC_))
 (case side2=>exact (zU HO257.out).2.1)
 (case side3=>repeat (first|exact (zW HR1.out HB.out)|(with_reducible exact HR1.out)|apply zC_))
 (case side4=>exact HC1.out)
 rintro e w16 ⟨v259,rfl,ho0,hb⟩
 refine ⟨_,rfl,?_⟩
 have n0_:=zA (Kd.R_elder' (by apply zR_;exact HO254.out) (zd ho0) hb)
 have n1_:=zA (Kd.R_elder' (by apply zR_;exact HO257.out) (zd ho0) hb)
 have n2_:=zA (ze (zh (zh ho0 (Kd.R_lt (by apply zR_;exact HO254.out))) (Kd.R_lt (by apply zR_;exact HO257.out))) (zQ (by repeat (first|(with_reducible first|exact HB.out|apply zD|apply zB|apply zC|refine zF ?_ GE250.out|refine zF ?_ GE251.out)|exact HB.out))))
 have n3_:=zA (zX (g:=gb250) (o:=.cells #[.slice A0_0 l0_0.length c0_0,.slice A0_1 l0_1.length c0_1] 33 (0,0)) (by (with_reducible repeat (first|refine zG ?_ _|refine zI ?_|refine zH ?_ _));exact BK250.out) hb)
 have n4_:=zA (zX (g:=gb251) (o:=.cells #[.slice none 0 0,.slice none 0 0] 33 (0,0)) (by (with_reducible repeat (first|refine zG ?_ _|refine zI ?_|refine zH ?_ _));exact BK251.out) hb)
 have n5_:=zA (zR (by repeat (first|(with_reducible first|exact HB.out|apply zD|apply zB|apply zC|refine zF ?_ GE250.out|refine zF ?_ GE251.out)|exact HB.out)) hb)
 clear HO254 HO257 BK250 BK251 HB
 have HO254:=n0_
 have HO257:=n1_
 have HO260:=n2_
 have BK250:=n3_
 have BK251:=n4_
 have HB:=n5_
 clear n0_ n1_ n2_ n3_ n4_ n5_
 (try clear hb);(try clear hb2);(try clear hk);(try clear hi);(try clear ho0)
 refine hK.out _ _ ⟨(zT BK250.out 0).trans rfl,(zT BK250.out 1).trans rfl⟩ (fun hHeld=>?_)
 clear hK K
 refine norm_ (a':=?_) ?_ ?_
 rotate_left
 ·show Act.put _ (some 11) _ = _
  simp only [Act.put,zP_,i64_w]
  rfl
 refine one_ (i:=8) (N:=some 13) #[zt,zt,zt,zt,zt,zt,zt,zt,zt,zt,zt,zf,zt,zf,zf,zf] rfl rfl (one_of HT_.out (by kernel_rfl)) (by decide) (fun K hK=>?_)
 refine goes_ Try.func82 (by kernel_rfl) rfl #[.slice A1 l1.length c1] (by rfl) rfl rfl (by (try simp only [zJ,zM,zN]);first|done|rfl|(simp only [zL,zK];rfl)) ?_
 with_reducible refine (impl_back.calls k _ _ l1 t261 _ ?side1 ?side2 A6.out).mono ?_
 (case side1=>repeat (first|exact (zW HR1.out HB.out)|(with_reducible exact HR1.out)|apply zC_))
 (case side2=>exact HC1.out)
 rintro e w17 ⟨v262,rfl,ho0,hb⟩
 refine ⟨_,rfl,?_⟩
 have n0_:=zA (Kd.R_elder' (by apply zR_;exact HO254.out) (zd ho0) hb)
 have n1_:=zA (Kd.R_elder' (by apply zR_;exact HO257.out) (zd ho0) hb)
 have n2_:=zA (Kd.R_elder' (by apply zR_;exact HO260.out) (zd ho0) hb)
 have n3_:=zA (ze (zh (zh (zh ho0 (Kd.R_lt (by apply zR_;exact HO254.out))) (Kd.R_lt (by apply zR_;exact HO257.out))) (Kd.R_lt (by apply zR_;exact HO260.out))) (zQ (by repeat (first|(with_reducible first|exact HB.out|apply zD|apply zB|apply zC|refine zF ?_ GE250.out|refine zF ?_ GE251.out)|exact HB.out))))
 have n4_:=zA (zX (g:=gb250) (o:=.cells #[.slice A0_0 l0_0.length c0_0,.slice A0_1 l0_1.length c0_1] 33 (0,0)) (by (with_reducible repeat (first|refine zG ?_ _|refine zI ?_|refine zH ?_ _));exact BK250.out) hb)
 have n5_:=zA (zX (g:=gb251) (o:=.cells #[.slice none 0 0,.slice none 0 0] 33 (0,0)) (by (with_reducible repeat (first|refine zG ?_ _|refine zI ?_|refine zH ?_ _));exact BK251.out) hb)
 have n6_:=zA (zR (by repeat (first|(with_reducible first|exact HB.out|apply zD|apply zB|apply zC|refine zF ?_ GE250.out|refine zF ?_ GE251.out)|exact HB.out)) hb)
 clear HO254 HO257 HO260 BK250 BK251 HB
 have HO254:=n0_
 have HO257:=n1_
 have HO260:=n2_
 have HO263:=n3_
 have BK250:=n4_
 have BK251:=n5_
 have HB:=n6_
 clear n0_ n1_ n2_ n3_ n4_ n5_ n6_
 (try clear hb);(try clear hb2);(try clear hk);(try clear hi);(try clear ho0)
 obtain ⟨Ao18,co18,eo18⟩:=zg HO263.out
 (first|subst eo18|(injection eo18 with f1_ f2_ f3_;have f4_:=f1_.symm;have f5_:=f3_.symm;clear f1_ f2_ f3_;subst f4_;subst f5_))
 refine hK.out _ _ ⟨(zT BK250.out 0).trans rfl,(zT BK250.out 1).trans rfl⟩ (fun hHeld=>?_)
 clear hK K
 refine norm_ (a':=?_) ?_ ?_
 rotate_left
 ·show Act.put _ (some 13) _ = _
  simp only [Act.put,zP_,i64_w]
  rfl
 refine one_ (i:=11) (N:=some 16) #[zt,zt,zt,zt,zt,zt,zt,zt,zt,zt,zt,zt,zt,zf,zf,zf] rfl rfl (one_of HT_.out (by kernel_rfl)) (by decide) (fun K hK=>?_)
 refine goes_ Try.func49 (by kernel_rfl) rfl #[.slice Ao18 t261.length co18,.slice A0_1 l0_1.length c0_1] (by rfl) rfl rfl (by (try simp only [zJ,zM,zN]);first|done|rfl|(simp only [zL,zK];rfl)) ?_
 with_reducible refine (impl_mul.calls k _ _ t261 _ _ l0_1 t264 _ ?side1 ?side2 ?side3 ?side4 A7.out).mono ?_
 (case side1=>repeat (first|exact (zU HO263.out).2.2|apply zC_))
 (case side2=>exact (zU HO263.out).2.1)
 (case side3=>repeat (first|exact (zW HR0_1.out HB.out)|(with_reducible exact HR0_1.out)|apply zC_))
 (case side4=>exact HC0_1.out)
 rintro e w19 ⟨v265,rfl,ho0,hb⟩
 refine ⟨_,rfl,?_⟩
 have n0_:=zA (Kd.R_elder' (by apply zR_;exact HO254.out) (zd ho0) hb)
 have n1_:=zA (Kd.R_elder' (by apply zR_;exact HO257.out) (zd ho0) hb)
 have n2_:=zA (Kd.R_elder' (by apply zR_;exact HO260.out) (zd ho0) hb)
 have n3_:=zA (Kd.R_elder' (by apply zR_;exact HO263.out) (zd ho0) hb)
 have n4_:=zA (ze (zh (zh (zh (zh ho0 (Kd.R_lt (by apply zR_;exact HO254.out))) (Kd.R_lt (by apply zR_;exact HO257.out))) (Kd.R_lt (by apply zR_;exact HO260.out))) (Kd.R_lt (by apply zR_;exact HO263.out))) (zQ (by repeat (first|(with_reducible first|exact HB.out|apply zD|apply zB|apply zC|refine zF ?_ GE250.out|refine zF ?_ GE251.out)|exact HB.out))))
 have n5_:=zA (zX (g:=gb250) (o:=.cells #[.slice A0_0 l0_0.length c0_0,.slice A0_1 l0_1.length c0_1] 33 (0,0)) (by (with_reducible repeat (first|refine zG ?_ _|refine zI ?_|refine zH ?_ _));exact BK250.out) hb)
 have n6_:=zA (zX (g:=gb251) (o:=.cells #[.slice none 0 0,.slice none 0 0] 33 (0,0)) (by (with_reducible repeat (first|refine zG ?_ _|refine zI ?_|refine zH ?_ _));exact BK251.out) hb)
 have n7_:=zA (zR (by repeat (first|(with_reducible first|exact HB.out|apply zD|apply zB|apply zC|refine zF ?_ GE250.out|refine zF ?_ GE251.out)|exact HB.out)) hb)
 clear HO254 HO257 HO260 HO263 BK250 BK251 HB
 have HO254:=n0_
 have HO257:=n1_
 have HO260:=n2_
 have HO263:=n3_
 have HO266:=n4_
 have BK250:=n5_
 have BK251:=n6_
 have HB:=n7_
 clear n0_ n1_ n2_ n3_ n4_ n5_ n6_ n7_
 (try clear hb);(try clear hb2);(try clear hk);(try clear hi);(try clear ho0)
 obtain ⟨Ao20,co20,eo20⟩:=zg HO266.out
 (first|subst eo20|(injection eo20 with f1_ f2_ f3_;have f4_:=f1_.symm;have f5_:=f3_.symm;clear f1_ f2_ f3_;subst f4_;subst f5_))
 refine hK.out _ _ ⟨(zT BK250.out 0).trans rfl,(zT BK250.out 1).trans rfl⟩ (fun hHeld=>?_)
 clear hK K
 refine norm_ (a':=?_) ?_ ?_
 rotate_left
 ·show Act.put _ (some 16) _ = _
  simp only [Act.put,zP_,i64_w]
  rfl
 refine one_ (i:=13) (N:=some 18) #[zt,zt,zt,zt,zt,zt,zt,zt,zt,zt,zt,zt,zt,zt,zf,zf] rfl rfl (one_of HT_.out (by kernel_rfl)) (by decide) (fun K hK=>?_)
 refine goes_ Try.func49 (by kernel_rfl) rfl #[.slice Ao20 t264.length co20,.slice A1 l1.length c1] (by rfl) rfl rfl (by (try simp only [zJ,zM,zN]);first|done|rfl|(simp only [zL,zK];rfl)) ?_
 with_reducible refine (impl_mul.calls k _ _ t264 _ _ l1 t267 _ ?side1 ?side2 ?side3 ?side4 A8.out).mono ?_
 (case side1=>repeat (first|exact (zU HO266.out).2.2|apply zC_))
 (case side2=>exact (zU HO266.out).2.1)
 (case side3=>repeat (first|exact (zW HR1.out HB.out)|(with_reducible exact HR1.out)|apply zC_))
 (case side4=>exact HC1.out)
 rintro e w21 ⟨v268,rfl,ho0,hb⟩
 refine ⟨_,rfl,?_⟩
 have n0_:=zA (Kd.R_elder' (by apply zR_;exact HO254.out) (zd ho0) hb)
 have n1_:=zA (Kd.R_elder' (by apply zR_;exact HO257.out) (zd ho0) hb)
 have n2_:=zA (Kd.R_elder' (by apply zR_;exact HO260.out) (zd ho0) hb)
 have n3_:=zA (Kd.R_elder' (by apply zR_;exact HO263.out) (zd ho0) hb)
 have n4_:=zA (Kd.R_elder' (by apply zR_;exact HO266.out) (zd ho0) hb)
 have n5_:=zA (ze (zh (zh (zh (zh (zh ho0 (Kd.R_lt (by apply zR_;exact HO254.out))) (Kd.R_lt (by apply zR_;exact HO257.out))) (Kd.R_lt (by apply zR_;exact HO260.out))) (Kd.R_lt (by apply zR_;exact HO263.out))) (Kd.R_lt (by apply zR_;exact HO266.out))) (zQ (by repeat (first|(with_reducible first|exact HB.out|apply zD|apply zB|apply zC|refine zF ?_ GE250.out|refine zF ?_ GE251.out)|exact HB.out))))
 have n6_:=zA (zX (g:=gb250) (o:=.cells #[.slice A0_0 l0_0.length c0_0,.slice A0_1 l0_1.length c0_1] 33 (0,0)) (by (with_reducible repeat (first|refine zG ?_ _|refine zI ?_|refine zH ?_ _));exact BK250.out) hb)
 have n7_:=zA (zX (g:=gb251) (o:=.cells #[.slice none 0 0,.slice none 0 0] 33 (0,0)) (by (with_reducible repeat (first|refine zG ?_ _|refine zI ?_|refine zH ?_ _));exact BK251.out) hb)
 have n8_:=zA (zR (by repeat (first|(with_reducible first|exact HB.out|apply zD|apply zB|apply zC|refine zF ?_ GE250.out|refine zF ?_ GE251.out)|exact HB.out)) hb)
 clear HO254 HO257 HO260 HO263 HO266 BK250 BK251 HB
 have HO254:=n0_
 have HO257:=n1_
 have HO260:=n2_
 have HO263:=n3_
 have HO266:=n4_
 have HO269:=n5_
 have BK250:=n6_
 have BK251:=n7_
 have HB:=n8_
 clear n0_ n1_ n2_ n3_ n4_ n5_ n6_ n7_ n8_
 (try clear hb);(try clear hb2);(try clear hk);(try clear hi);(try clear ho0)
 obtain ⟨Ao22,co22,eo22⟩:=zg HO269.out
 (first|subst eo22|(injection eo22 with f1_ f2_ f3_;have f4_:=f1_.symm;have f5_:=f3_.symm;clear f1_ f2_ f3_;subst f4_;subst f5_))
 obtain ⟨Ao23,co23,eo23⟩:=zg HO260.out
 (first|subst eo23|(injection eo23 with f1_ f2_ f3_;have f4_:=f1_.symm;have f5_:=f3_.symm;clear f1_ f2_ f3_;subst f4_;subst f5_))
 refine hK.out _ _ ⟨(zT BK250.out 0).trans rfl,(zT BK250.out 1).trans rfl⟩ (fun hHeld=>?_)
 clear hK K
 refine norm_ (a':=?_) ?_ ?_
 rotate_left
 ·show Act.put _ (some 18) _ = _
  simp only [Act.put,zP_,i64_w]
  rfl
 refine pure_ (i:=14) (N:=some 19) (v:=?_) (a':=?_) #[zt,zt,zt,zt,zt,zt,zt,zt,zt,zt,zt,zt,zt,zt,zt,zf] rfl rfl (any_of HT_.out (by kernel_rfl)) (fun _ _ _ h=>h) (Or.inl ⟨by rfl,?_⟩) ?_ ?_
 rotate_left
 ·intro w'
  go_simp
  with_reducible rfl
 rotate_left
 ·simp only [Act.put,zP_,i64_w]
  rfl
 refine one_ (i:=15) (N:=none) #[zt,zt,zt,zt,zt,zt,zt,zt,zt,zt,zt,zt,zt,zt,zt,zt] rfl rfl (one_of HT_.out (by kernel_rfl)) (by decide) (fun K hK=>?_)
 have hs24:w21.cell? ⟨gb251,0,none⟩ = some (.slice none 0 0):=(zT BK251.out 0).trans rfl
 have hfs24:=zZ BK251.out 0
 have hns24_0:=NB250_251.out
 have hms24_0:=NB251_250.out
 have hs25:w21.cell? ⟨gb251,1,none⟩ = some (.slice none 0 0):=(zT BK251.out 1).trans rfl
 have hfs25:=zZ BK251.out 1
 have hns25_0:=NB250_251.out
 have hms25_0:=NB251_250.out
 refine skip_ (w1:=?_) (by rfl) rfl ?_ ?_
 rotate_left
 ·go_simp
  rfl
 refine hK.out _ _ ⟨((cell_far (p:=⟨gb251,_,none⟩) NB250_251.out _).trans (((cell_far (p:=⟨gb251,_,none⟩) NB250_251.out _).trans (hHeld.1)))),((cell_far (p:=⟨gb251,_,none⟩) NB250_251.out _).trans (((cell_far (p:=⟨gb251,_,none⟩) NB250_251.out _).trans (hHeld.2))))⟩ (fun hHeld=>?_)
 clear hK K
 refine done_ (done_of HT_.out (by kernel_rfl)) ?_
 try go_wp2
 refine bodyPost_ret (results_cell_row rfl _ _ gb251 33 #[.slice Ao23 t258.length co23,.slice Ao22 t267.length co22] (0,0) _ rfl (by (with_reducible repeat (first|refine zG ?_ _|refine zI ?_|refine zH ?_ _));refine blk_put (cs:=#[.slice Ao23 t258.length co23,.slice none 0 0]) ?_ 1 _ rfl;(with_reducible repeat (first|refine zG ?_ _|refine zI ?_|refine zH ?_ _));refine blk_put (cs:=#[.slice none 0 0,.slice none 0 0]) ?_ 0 _ rfl;(with_reducible repeat (first|refine zG ?_ _|refine zI ?_|refine zH ?_ _));exact BK251.out) Try.underlying33 rfl (by kernel_rfl)) rfl ?_
 exact ⟨_,_,by first|rfl|(simp [errW_none,errW_some] <;> rfl)|(simp [*,errW_none,errW_some] <;> rfl),by apply zR_;exact zV (zi (p:=⟨gb251,1,none⟩) (zi (p:=⟨gb251,0,none⟩) (Kd.R_types HO260.out BK251.out (by decide)) (fun _ hk=>hk.2) (.slice Ao23 t258.length co23)) (fun _ hk=>hk.2) (.slice Ao22 t267.length co22)) (fun _ hk=>hk.1.2),by apply zR_;exact zV (zi (p:=⟨gb251,1,none⟩) (zi (p:=⟨gb251,0,none⟩) (Kd.R_types HO269.out BK251.out (by decide)) (fun _ hk=>hk.2) (.slice Ao23 t258.length co23)) (fun _ hk=>hk.2) (.slice Ao22 t267.length co22)) (fun _ hk=>hk.1.1.1.2),by repeat (first|(with_reducible first|exact HB.out|apply zD|apply zB|apply zC|refine zF ?_ GE250.out|refine zF ?_ GE251.out)|exact HB.out)⟩

end Go.Proofs.Ytdaiohcgdpclnaa.Q
