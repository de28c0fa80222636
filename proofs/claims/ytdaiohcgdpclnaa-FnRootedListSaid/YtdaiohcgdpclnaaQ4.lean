import Derived.Test.YtdaiohcgdpclnaaQ0
import Derived.Test.YtdaiohcgdpclnaaQ11
import Derived.Test.YtdaiohcgdpclnaaZ
namespace Go.Proofs.Ytdaiohcgdpclnaa.Q
open Go.RowKit Go.Proofs.YtdaiohcgdpclnaaW.PrintWords Go.Proofs.YtdaiohcgdpclnaaW.PrintLast Go.Proofs.YtdaiohcgdpclnaaW.PrintMore
attribute [local go_sem] max2_int min2_int max_two min_two max_three min_three max_four min_four   -- for this text's walks alone
set_option linter.unusedVariables false
set_option linter.unusedSimpArgs false

/-- A state of type 68 at block g of W; what its slices lead to came in by w0. -/
def IsS68 (w0 W : World) (g : Nat) (f0 : List Int) (f1 : Int) : Prop := ∃ A0 c0, W.heap[g]? = some (.cells #[.slice A0 f0.length c0, .int .i64 f1] 68 (0, 0)) ∧ w0.heap.size ≤ g ∧ Kd.C (Kd.int .u8) w0 A0 f0.length f0
theorem IsS68.grown {w0 W : World} {g : Nat} {f0 : List Int} {f1 : Int} {W1 : World} {row : Option Nat} (h : IsS68 w0 W g f0 f1) (hw : W.grownBy W1 row) (hne : some g ≠ row) : IsS68 w0 W1 g f0 f1 := by
  obtain ⟨A0, c0, hb, hg, hr0⟩ := h
  exact ⟨A0, c0, blk_grown hb hw hne, hg, hr0⟩
theorem IsS68.own_neN {w0 W : World} {g : Nat} {f0 : List Int} {f1 : Int} {α : Type} {d : Kd α} {e : Nat} {base : Nat} {ok : Nat → Prop} {v : Value} {xs : List α} (h : IsS68 w0 W g f0 f1) (ho : Kd.N d e W base ok v xs) (ht : e ≠ 68) : some g ≠ v.ownBlock := by
  obtain ⟨A0, c0, hb, hg, hr0⟩ := h
  exact Kd.N_ne ho hb ht
theorem IsS68.fresh {w0 W : World} {g : Nat} {f0 : List Int} {f1 : Int} (h : IsS68 w0 W g f0 f1) : ∀ k, W.heap.size ≤ k → k ≠ g := by
  obtain ⟨A0, c0, hb, hg, hr0⟩ := h
  exact Kd.freshB hb
theorem IsS68.kept {w0 W : World} {g : Nat} {f0 : List Int} {f1 : Int} {W1 : World} {S : Nat → Prop} (h : IsS68 w0 W g f0 f1) (hk : Kept W W1 S) (hne : ¬ S g) : IsS68 w0 W1 g f0 f1 := by
  obtain ⟨A0, c0, hb, hg, hr0⟩ := h
  exact ⟨A0, c0, blk_kept hb hk hne, hg, hr0⟩
theorem IsS68.below {w0 W : World} {g : Nat} {f0 : List Int} {f1 : Int} {W1 : World} (h : IsS68 w0 W g f0 f1) (hw : Below W.heap.size W W1) : IsS68 w0 W1 g f0 f1 := h.grown (grown_of_below hw none) (by simp)
theorem IsS68.alloc {w0 W : World} {g : Nat} {f0 : List Int} {f1 : Int} (h : IsS68 w0 W g f0 f1) (o : Obj) : IsS68 w0 (W.alloc o) g f0 f1 := h.below (below_alloc (Below.refl _ _) o)
theorem IsS68.drewN {w0 W : World} {g : Nat} {f0 : List Int} {f1 : Int} (h : IsS68 w0 W g f0 f1) (m : Nat) : IsS68 w0 (W.drewN m) g f0 f1 := h
theorem IsS68.drew {w0 W : World} {g : Nat} {f0 : List Int} {f1 : Int} (h : IsS68 w0 W g f0 f1) : IsS68 w0 W.drew g f0 f1 := h
theorem IsS68.at_ {w0 W : World} {g : Nat} {f0 : List Int} {f1 : Int} {w' : World} {m : Nat} (hq : W.drewN m = w') (h : IsS68 w0 W g f0 f1) : IsS68 w0 w' g f0 f1 := by subst hq; exact IsS68.drewN h m
theorem IsS68.apart {w0 W : World} {g : Nat} {f0 : List Int} {f1 : Int} {α : Type} {d : Kd α} {e : Nat} {base : Nat} {ok : Nat → Prop} {v : Value} {xs : List α} (h : IsS68 w0 W g f0 f1) (ho : d.R e W base ok v xs) (ht : ∀ q, q ∈ e :: d.E → q ≠ 68) : d.R e W base (fun k => ok k ∧ k ≠ g) v xs := by
  obtain ⟨A0, c0, hb, hg, hr0⟩ := h
  exact Kd.R_types ho hb ht
theorem IsS68.own_ne {w0 W : World} {g : Nat} {f0 : List Int} {f1 : Int} {α : Type} {d : Kd α} {e : Nat} {base : Nat} {ok : Nat → Prop} {v : Value} {xs : List α} (h : IsS68 w0 W g f0 f1) (ho : d.R e W base ok v xs) (ht : e ≠ 68) : some g ≠ v.ownBlock := by
  obtain ⟨A0, c0, hb, hg, hr0⟩ := h
  exact Kd.R_ne ho hb ht
theorem IsS68.apartQ {w0 W : World} {g : Nat} {f0 : List Int} {f1 : Int} {α : Type} {d : Kd α} {e : Nat} {base : Nat} {ok : Nat → Prop} {v : Value} {xs : List α} (h : IsS68 w0 W g f0 f1) (ho : d.Q e W base ok v xs) (ht : ∀ q, q ∈ e :: d.E → q ≠ 68) : d.Q e W base (fun k => ok k ∧ k ≠ g) v xs := by
  obtain ⟨A0, c0, hb, hg, hr0⟩ := h
  exact Kd.Q_types ho hb ht
theorem IsS68.own_neQ {w0 W : World} {g : Nat} {f0 : List Int} {f1 : Int} {α : Type} {d : Kd α} {e : Nat} {base : Nat} {ok : Nat → Prop} {v : Value} {xs : List α} (h : IsS68 w0 W g f0 f1) (ho : d.Q e W base ok v xs) (ht : e ≠ 68) : some g ≠ v.ownBlock := by
  obtain ⟨A0, c0, hb, hg, hr0⟩ := h
  exact Kd.Q_ne ho hb ht
theorem IsS68.apartS {w0 W : World} {g : Nat} {f0 : List Int} {f1 : Int} {α : Type} {d : Kd α} {e : Nat} {base : Nat} {ok : Nat → Prop} {v : Value} {xs : List α} (h : IsS68 w0 W g f0 f1) (ho : d.S e W base ok v xs) (ht : ∀ q, q ∈ e :: d.E → q ≠ 68) : d.S e W base (fun k => ok k ∧ k ≠ g) v xs := by
  obtain ⟨A0, c0, hb, hg, hr0⟩ := h
  exact Kd.S_types ho hb ht
theorem IsS68.own_neS {w0 W : World} {g : Nat} {f0 : List Int} {f1 : Int} {α : Type} {d : Kd α} {e : Nat} {base : Nat} {ok : Nat → Prop} {v : Value} {xs : List α} (h : IsS68 w0 W g f0 f1) (ho : d.S e W base ok v xs) (ht : e ≠ 68) : some g ≠ v.ownBlock := by
  obtain ⟨A0, c0, hb, hg, hr0⟩ := h
  exact Kd.S_ne ho hb ht
theorem IsS68.lt {w0 W : World} {g : Nat} {f0 : List Int} {f1 : Int} (h : IsS68 w0 W g f0 f1) : g < W.heap.size := by
  obtain ⟨A0, c0, hb, hg, hr0⟩ := h
  exact blk_lt hb
theorem IsS68.ge {w0 W : World} {g : Nat} {f0 : List Int} {f1 : Int} (h : IsS68 w0 W g f0 f1) : w0.heap.size ≤ g := by
  obtain ⟨A0, c0, hb, hg, hr0⟩ := h
  exact hg
theorem IsS68.ne_blk {w0 W : World} {g : Nat} {f0 : List Int} {f1 : Int} {a : Nat} {cs : Array Value} {t : TypeId} {fr : Nat × Nat} (h : IsS68 w0 W g f0 f1) (hb2 : W.heap[a]? = some (.cells cs t fr)) (ht : t ≠ 68) : g ≠ a := by
  obtain ⟨A0, c0, hb, hg, hr0⟩ := h
  rintro rfl
  rw [hb] at hb2
  injection hb2 with hb2
  injection hb2 with _ ht2
  exact ht ht2.symm
theorem IsS68.far {w0 W : World} {g : Nat} {f0 : List Int} {f1 : Int} {p : Addr} (h : IsS68 w0 W g f0 f1) (hne : g ≠ p.block) (u : Value) : IsS68 w0 (W.setCell p u) g f0 f1 := by
  obtain ⟨A0, c0, hb, hg, hr0⟩ := h
  exact ⟨A0, c0, blk_far hb hne u, hg, hr0⟩
theorem cellS68_0 {W : World} {g : Nat} {A0 : Option Addr} {c0 : Nat} {f0 : List Int} {f1 : Int} (h : W.heap[g]? = some (.cells #[.slice A0 f0.length c0, .int .i64 f1] 68 (0, 0))) : W.cell? ⟨g, 0, none⟩ = some (.slice A0 f0.length c0) := (blk_cell h 0).trans rfl
theorem cellS68_1 {W : World} {g : Nat} {A0 : Option Addr} {c0 : Nat} {f0 : List Int} {f1 : Int} (h : W.heap[g]? = some (.cells #[.slice A0 f0.length c0, .int .i64 f1] 68 (0, 0))) : W.cell? ⟨g, 1, none⟩ = some (.int .i64 f1) := (blk_cell h 1).trans rfl
theorem IsS68.set_1 {w0 W : World} {g : Nat} {f0 : List Int} {f1 : Int} (h : IsS68 w0 W g f0 f1) (x : Int) : IsS68 w0 (W.setCell ⟨g, 1, none⟩ (.int .i64 x)) g f0 x := by
  obtain ⟨A0, c0, hb, hg, hr0⟩ := h
  exact ⟨A0, c0, by simpa using blk_set hb 1 (.int .i64 x), hg, hr0⟩
theorem IsS68.new (w0 W : World) (A0 : Option Addr) (c0 : Nat) (f0 : List Int) (f1 : Int) (hB : Below w0.heap.size w0 W) (hr0 : Kd.C (Kd.int .u8) w0 A0 f0.length f0) : IsS68 w0 (W.alloc (.cells #[.slice A0 f0.length c0, .int .i64 f1] 68)) W.heap.size f0 f1 := ⟨A0, c0, by simpa using heap_alloc_new W _, hB.size, hr0⟩

/-! ### spec_l6Rd_pick: function 57 -/
def spec_l6Rd_pick.j0:Nat→Int→Bool→List Int→Int→Option (Int × Int)
 | 0,_,_,_,_=>none
 | k+1,x1,x24,x1000,x1001=>if x24 = true then (some (0,x1001)) else (if (wrap64 (x1001 - 1)) < (x1000.length:Int) then (if 0≤(wrap64 (x1001 - 1)) then (if x1 = 0 then (none) else (some (Int.tmod (wrap64 (rd x1000 (wrap64 (x1001 - 1)))) x1,x1001))) else (none)) else (if (x1000.length:Int) = 0 then (none) else (if 0≤(Int.tmod (wrap64 (x1001 - 1)) (x1000.length:Int)) then (if (Int.tmod (wrap64 (x1001 - 1)) (x1000.length:Int)) < (x1000.length:Int) then (if 0≤(Int.tmod (wrap64 ((wrap64 ((wrap64 (x1001 - 1)) * 7))+3)) (x1000.length:Int)) then (if (Int.tmod (wrap64 ((wrap64 ((wrap64 (x1001 - 1)) * 7))+3)) (x1000.length:Int)) < (x1000.length:Int) then (if x1 = 0 then (none) else (some (Int.tmod (Go.bits .xor .i64 (wrap64 ((wrap64 ((wrap64 ((wrap64 ((wrap64 (rd x1000 (Int.tmod (wrap64 (x1001 - 1)) (x1000.length:Int)))) * 131))+(wrap64 ((wrap64 (rd x1000 (Int.tmod (wrap64 ((wrap64 ((wrap64 (x1001 - 1)) * 7))+3)) (x1000.length:Int)))) * 1117))))+(wrap64 ((wrap64 (x1001 - 1)) * 29))))+(wrap64 ((wrap64 (Int.tdiv (wrap64 (x1001 - 1)) (x1000.length:Int))) * 53)))) (wrap64 (Int.tdiv (wrap64 ((wrap64 ((wrap64 ((wrap64 ((wrap64 (rd x1000 (Int.tmod (wrap64 (x1001 - 1)) (x1000.length:Int)))) * 131))+(wrap64 ((wrap64 (rd x1000 (Int.tmod (wrap64 ((wrap64 ((wrap64 (x1001 - 1)) * 7))+3)) (x1000.length:Int)))) * 1117))))+(wrap64 ((wrap64 (x1001 - 1)) * 29))))+(wrap64 ((wrap64 (Int.tdiv (wrap64 (x1001 - 1)) (x1000.length:Int))) * 53)))) 64))) x1,x1001))) else (none)) else (none)) else (none)) else (none))))
def spec_l6Rd_pick.f (k:Nat) (s0_0:List Int) (s0_1:Int) (a1:Int):Option (Int × Int):=if a1 < 1 then (spec_l6Rd_pick.j0 k a1 true s0_0 (wrap64 (s0_1+1))) else (spec_l6Rd_pick.j0 k a1 ((s0_0.length:Int) == 0) s0_0 (wrap64 (s0_1+1)))
theorem spec_l6Rd_pick.mono_l:∀ k,(∀ y0 y1 y2 y3,LeO (spec_l6Rd_pick.j0 k y0 y1 y2 y3) (spec_l6Rd_pick.j0 (k+1) y0 y1 y2 y3))
 | 0=>fun _ _ _ _ r h=>by simp [spec_l6Rd_pick.j0] at h
 | k+1=>by
  have ih0:=spec_l6Rd_pick.mono_l k
  ·intro y0 y1 y2 y3
   unfold spec_l6Rd_pick.j0
   repeat' first
   | (with_reducible exact ih0 _ _ _ _)
   | (with_reducible exact LeO.refl _)
   | (with_reducible exact za _)
   | (with_reducible refine zc ?_ ?_)
   | (with_reducible refine zb ?_ (fun _=>?_))
theorem spec_l6Rd_pick.mono:∀ a0 a1 a2 k,LeO (spec_l6Rd_pick.f k a0 a1 a2) (spec_l6Rd_pick.f (k+1) a0 a1 a2):=by
 intro a0 a1 a2 k
 have ih0:=spec_l6Rd_pick.mono_l k
 unfold spec_l6Rd_pick.f
 repeat' first
   | (with_reducible exact ih0 _ _ _ _)
   | (with_reducible exact LeO.refl _)
   | (with_reducible exact za _)
   | (with_reducible refine zc ?_ ?_)
   | (with_reducible refine zb ?_ (fun _=>?_))
set_option maxHeartbeats 8000000 in
set_option maxRecDepth 100000 in
theorem spec_l6Rd_pick.calls (k:Nat) (g:Nat) (s0_0:List Int) (s0_1:Int) (a1:Int) (r1:Int) (r2:Int) (w0 w:World) (hI:IsS68 w0 w g s0_0 s0_1) (hB:Below w0.heap.size w0 w) (h:spec_l6Rd_pick.f k s0_0 s0_1 a1 = some (r1,r2)) :
  Calls Try.prog 57 #[.pointer (some ⟨g,0,none⟩),.int .i64 a1] w fun e w'=>e = .returned (.int .i64 r1)∧IsS68 w0 w' g s0_0 r2∧Below w0.heap.size w0 w'∧KeepBut w w' g none:=by
 have HI0:=zA hI
 have HK:=zA (KeepBut.refl w g none)
 have HL:=zA hB.size
 clear hI
 have HW0:=zA hB.size
 have HB:=zA hB
 clear hB
 have H:(if a1 < 1 then (spec_l6Rd_pick.j0 k a1 true s0_0 (wrap64 (s0_1+1))) else (spec_l6Rd_pick.j0 k a1 ((s0_0.length:Int) == 0) s0_0 (wrap64 (s0_1+1)))) = some (r1,r2):=h
 clear h
 have HC3:=zA H
 clear H
 obtain ⟨ASz4_0,cSz4_0,HGz4,hgz4,HSz4_0⟩:=HI0.out
 have hcz4_0:=cellS68_0 HGz4
 have hcz4_1:=cellS68_1 HGz4
 have hfz4_1:=zZ HGz4 1
 clear HGz4 hgz4
 go_enter Try.func57,Try.ntmps57
 go_upto_region 2 with (fail)
 repeat (go_quiet (fail);go_upto_region 2 with (fail))
 go_cut [24] (fun v24 wc => ∃ (kq:Nat) (x24_2:Bool),v24 = .bool x24_2∧Aside0 (spec_l6Rd_pick.j0 kq a1 x24_2 s0_0 (wrap64 (s0_1+1)) = some (r1,r2))∧Aside0 (kq≤k)∧Aside0 (IsS68 w0 wc g s0_0 (wrap64 (s0_1+1)))∧Aside0 (KeepBut w wc g none)∧Aside0 (Below w0.heap.size w0 wc))
 case first =>
  have H:=HC3.out
  clear HC3
  by_cases c5:a1 < 1
  ·rw [if_pos c5] at H
   have c5b0:decide (a1 < 1) = true:=zO c5
   clear c5
   (first|rw [c5b0]|(simp only [i64_w,i32_w];rw [c5b0])|skip)
   have H':=zA H
   clear H
   go_wp2
   repeat (go_quiet (fail);try go_wp2)
   go_meet
   case rel=>exact ⟨_,(true),(by first|rfl|(simp;done)|(simp [*];done)),H',⟨by first|omega|exact Nat.le_refl _⟩,⟨by repeat (first|(with_reducible first|exact HI0.out|apply IsS68.alloc|apply IsS68.drewN|apply IsS68.drew|apply IsS68.set_1)|exact HI0.out)⟩,⟨by repeat (first|(with_reducible first|exact HK.out|apply KeepBut.set_|apply keep_drewN|apply keep_drew|apply keep_alloc)|exact HK.out)⟩,⟨by repeat (first|(with_reducible first|exact HB.out|apply zD|apply zB|apply zC|refine zF ?_ (IsS68.ge HI0.out))|exact HB.out)⟩⟩
  ·rw [if_neg c5] at H
   have c5b0:decide (a1 < 1) = false:=zP c5
   clear c5
   (first|rw [c5b0]|(simp only [i64_w,i32_w];rw [c5b0])|skip)
   have H':=zA H
   clear H
   obtain ⟨ASz6_0,cSz6_0,HGz6,hgz6,HSz6_0⟩:=HI0.out
   have hcz6_0:=cellS68_0 HGz6
   have hcz6_1:=cellS68_1 HGz6
   have hfz6_1:=zZ HGz6 1
   clear HGz6 hgz6
   go_wp2
   repeat (go_quiet (fail);try go_wp2)
   go_meet
   case rel=>exact ⟨_,(((s0_0.length:Int) == 0)),(by first|rfl|(simp;done)|(simp [*];done)),H',⟨by first|omega|exact Nat.le_refl _⟩,⟨by repeat (first|(with_reducible first|exact HI0.out|apply IsS68.alloc|apply IsS68.drewN|apply IsS68.drew|apply IsS68.set_1)|exact HI0.out)⟩,⟨by repeat (first|(with_reducible first|exact HK.out|apply KeepBut.set_|apply keep_drewN|apply keep_drew|apply keep_alloc)|exact HK.out)⟩,⟨by repeat (first|(with_reducible first|exact HB.out|apply zD|apply zB|apply zC|refine zF ?_ (IsS68.ge HI0.out))|exact HB.out)⟩⟩
 case rest =>
  clear HC3
  (try clear p2);(try clear c5);(try clear c5b0);(try clear p6);(try clear hcz4_0);(try clear hcz4_1);(try clear hcz6_0);(try clear hcz6_1);(try clear hfz4_1);(try clear hfz6_1)
  obtain ⟨kq,x24_2,rfl,HA,HJ2,HI0,HK,HB⟩:=hcut
  cases kq with
  | zero=>exact absurd HA.out (by simp [spec_l6Rd_pick.j0])
  | succ kj2 =>
   have H:=HA.out
   clear HA
   simp only [spec_l6Rd_pick.j0] at H
   by_cases c7:x24_2 = true
   ·subst c7
    rw [if_pos rfl] at H;try dsimp only at H
    simp only [Option.some.injEq,Prod.mk.injEq] at H
    obtain ⟨rfl,rfl⟩:=H
    go_wp2
    repeat (go_quiet (fail);try go_wp2)
    go_ret
    exact ⟨by first|rfl|(simp [errW_none,errW_some] <;> rfl)|(simp [*,errW_none,errW_some] <;> rfl),by repeat (first|(with_reducible first|exact HI0.out|apply IsS68.alloc|apply IsS68.drewN|apply IsS68.drew|apply IsS68.set_1)|exact HI0.out),by repeat (first|(with_reducible first|exact HB.out|apply zD|apply zB|apply zC|refine zF ?_ (IsS68.ge HI0.out))|exact HB.out),by repeat (first|(with_reducible first|exact HK.out|apply KeepBut.set_|apply keep_drewN|apply keep_drew|apply keep_alloc)|exact HK.out)⟩
   ·replace c7:=Bool.eq_false_iff.mpr c7
    subst c7
    have H1:(if (wrap64 ((wrap64 (s0_1+1)) - 1)) < (s0_0.length:Int) then (if 0≤(wrap64 ((wrap64 (s0_1+1)) - 1)) then (if a1 = 0 then (none) else (some (Int.tmod (wrap64 (rd s0_0 (wrap64 ((wrap64 (s0_1+1)) - 1)))) a1,(wrap64 (s0_1+1))))) else (none)) else (if (s0_0.length:Int) = 0 then (none) else (if 0≤(Int.tmod (wrap64 ((wrap64 (s0_1+1)) - 1)) (s0_0.length:Int)) then (if (Int.tmod (wrap64 ((wrap64 (s0_1+1)) - 1)) (s0_0.length:Int)) < (s0_0.length:Int) then (if 0≤(Int.tmod (wrap64 ((wrap64 ((wrap64 ((wrap64 (s0_1+1)) - 1)) * 7))+3)) (s0_0.length:Int)) then (if (Int.tmod (wrap64 ((wrap64 ((wrap64 ((wrap64 (s0_1+1)) - 1)) * 7))+3)) (s0_0.length:Int)) < (s0_0.length:Int) then (if a1 = 0 then (none) else (some (Int.tmod (Go.bits .xor .i64 (wrap64 ((wrap64 ((wrap64 ((wrap64 ((wrap64 (rd s0_0 (Int.tmod (wrap64 ((wrap64 (s0_1+1)) - 1)) (s0_0.length:Int)))) * 131))+(wrap64 ((wrap64 (rd s0_0 (Int.tmod (wrap64 ((wrap64 ((wrap64 ((wrap64 (s0_1+1)) - 1)) * 7))+3)) (s0_0.length:Int)))) * 1117))))+(wrap64 ((wrap64 ((wrap64 (s0_1+1)) - 1)) * 29))))+(wrap64 ((wrap64 (Int.tdiv (wrap64 ((wrap64 (s0_1+1)) - 1)) (s0_0.length:Int))) * 53)))) (wrap64 (Int.tdiv (wrap64 ((wrap64 ((wrap64 ((wrap64 ((wrap64 (rd s0_0 (Int.tmod (wrap64 ((wrap64 (s0_1+1)) - 1)) (s0_0.length:Int)))) * 131))+(wrap64 ((wrap64 (rd s0_0 (Int.tmod (wrap64 ((wrap64 ((wrap64 ((wrap64 (s0_1+1)) - 1)) * 7))+3)) (s0_0.length:Int)))) * 1117))))+(wrap64 ((wrap64 ((wrap64 (s0_1+1)) - 1)) * 29))))+(wrap64 ((wrap64 (Int.tdiv (wrap64 ((wrap64 (s0_1+1)) - 1)) (s0_0.length:Int))) * 53)))) 64))) a1,(wrap64 (s0_1+1))))) else (none)) else (none)) else (none)) else (none)))) = some (r1,r2):=by rw [if_neg (show ¬ (false = true) by decide)] at H;exact H
    clear H
    have H:=H1
    clear H1
    by_cases c8:(wrap64 ((wrap64 (s0_1+1)) - 1)) < (s0_0.length:Int)
    ·rw [if_pos c8] at H
     have c8b0:decide ((wrap64 ((wrap64 (s0_1+1)) - 1)) < (s0_0.length:Int)) = true:=zO c8
     clear c8
     obtain ⟨ji9,hji9⟩:∃ j_:Int,(wrap64 ((wrap64 (s0_1+1)) - 1)) = j_:=⟨_,rfl⟩
     replace H:(if 0≤(ji9) then (if a1 = 0 then (none) else (some (Int.tmod (wrap64 (rd s0_0 (ji9))) a1,(wrap64 (s0_1+1))))) else (none)) = some (r1,r2):=by first|(rw [hji9] at H;exact H)|(simp only [hji9] at H ⊢;exact H)
     (try rw [hji9] at c8b0)
     have hji9w:(IntKind.i64.wrap ((wrap64 (s0_1+1)) - 1)) = ji9:=(i64_w _).trans hji9
     by_cases c10:0≤(ji9)
     ·rw [if_pos c10] at H
      have c10b0:decide (0≤(ji9)) = true:=zO c10
      clear c10
      by_cases c11:a1 = 0
      ·rw [if_pos c11] at H
       exact absurd H (by simp)
      ·rw [if_neg c11] at H
       have c11b0:(a1 == 0) = false:=beq_eq_false_iff_ne.mpr c11
       have c11b1:(a1 != 0) = true:=bne_iff_ne.mpr c11
       simp only [Option.some.injEq,Prod.mk.injEq] at H
       obtain ⟨rfl,rfl⟩:=H
       obtain ⟨ASz12_0,cSz12_0,HGz12,hgz12,HSz12_0⟩:=HI0.out
       have hcz12_0:=cellS68_0 HGz12
       have hcz12_1:=cellS68_1 HGz12
       have hfz12_1:=zZ HGz12 1
       clear HGz12 hgz12
       have p208:0≤((ji9):Int):=zE (by with_reducible assumption)
       have q208:(ji9) < (s0_0.length:Int):=zE (by with_reducible assumption)
       obtain ⟨ad208,e208,hx208_0⟩:=Kd.at_int HSz12_0 (ji9) p208 q208
       cases e208
       replace hx208_0:=pw_cell_below HB.out hx208_0
       replace p208:=eq_true p208
       replace q208:=eq_true q208
       go_wp2
       repeat (go_quiet (fail);try go_wp2)
       go_ret
       exact ⟨by first|rfl|(simp [errW_none,errW_some] <;> rfl)|(simp only [← hji9];first|rfl|(simp [errW_none,errW_some] <;> rfl))|(simp [*,errW_none,errW_some] <;> rfl),by repeat (first|(with_reducible first|exact HI0.out|apply IsS68.alloc|apply IsS68.drewN|apply IsS68.drew|apply IsS68.set_1)|exact HI0.out),by repeat (first|(with_reducible first|exact HB.out|apply zD|apply zB|apply zC|refine zF ?_ (IsS68.ge HI0.out))|exact HB.out),by repeat (first|(with_reducible first|exact HK.out|apply KeepBut.set_|apply keep_drewN|apply keep_drew|apply keep_alloc)|exact HK.out)⟩
     ·rw [if_neg c10] at H
      exact absurd H (by simp)
    ·rw [if_neg c8] at H
     have c8b0:decide ((wrap64 ((wrap64 (s0_1+1)) - 1)) < (s0_0.length:Int)) = false:=zP c8
     clear c8
     by_cases c13:(s0_0.length:Int) = 0
     ·rw [if_pos c13] at H
      exact absurd H (by simp)
     ·rw [if_neg c13] at H
      have c13b0:((s0_0.length:Int) == 0) = false:=beq_eq_false_iff_ne.mpr c13
      have c13b1:((s0_0.length:Int) != 0) = true:=bne_iff_ne.mpr c13
      have c13b2:¬ (s0_0 = []):=fun h_=>c13 (by rw [h_];rfl)
      obtain ⟨ji14,hji14⟩:∃ j_:Int,(Int.tmod (wrap64 ((wrap64 (s0_1+1)) - 1)) (s0_0.length:Int)) = j_:=⟨_,rfl⟩
      replace H:(if 0≤(ji14) then (if (ji14) < (s0_0.length:Int) then (if 0≤(Int.tmod (wrap64 ((wrap64 ((wrap64 ((wrap64 (s0_1+1)) - 1)) * 7))+3)) (s0_0.length:Int)) then (if (Int.tmod (wrap64 ((wrap64 ((wrap64 ((wrap64 (s0_1+1)) - 1)) * 7))+3)) (s0_0.length:Int)) < (s0_0.length:Int) then (if a1 = 0 then (none) else (some (Int.tmod (Go.bits .xor .i64 (wrap64 ((wrap64 ((wrap64 ((wrap64 ((wrap64 (rd s0_0 (ji14))) * 131))+(wrap64 ((wrap64 (rd s0_0 (Int.tmod (wrap64 ((wrap64 ((wrap64 ((wrap64 (s0_1+1)) - 1)) * 7))+3)) (s0_0.length:Int)))) * 1117))))+(wrap64 ((wrap64 ((wrap64 (s0_1+1)) - 1)) * 29))))+(wrap64 ((wrap64 (Int.tdiv (wrap64 ((wrap64 (s0_1+1)) - 1)) (s0_0.length:Int))) * 53)))) (wrap64 (Int.tdiv (wrap64 ((wrap64 ((wrap64 ((wrap64 ((wrap64 (rd s0_0 (ji14))) * 131))+(wrap64 ((wrap64 (rd s0_0 (Int.tmod (wrap64 ((wrap64 ((wrap64 ((wrap64 (s0_1+1)) - 1)) * 7))+3)) (s0_0.length:Int)))) * 1117))))+(wrap64 ((wrap64 ((wrap64 (s0_1+1)) - 1)) * 29))))+(wrap64 ((wrap64 (Int.tdiv (wrap64 ((wrap64 (s0_1+1)) - 1)) (s0_0.length:Int))) * 53)))) 64))) a1,(wrap64 (s0_1+1))))) else (none)) else (none)) else (none)) else (none)) = some (r1,r2):=by first|(rw [hji14] at H;exact H)|(simp only [hji14] at H ⊢;exact H)
      by_cases c15:0≤(ji14)
      ·rw [if_pos c15] at H
       have c15b0:decide (0≤(ji14)) = true:=zO c15
       clear c15
       by_cases c16:(ji14) < (s0_0.length:Int)
       ·rw [if_pos c16] at H
        have c16b0:decide ((ji14) < (s0_0.length:Int)) = true:=zO c16
        clear c16
        obtain ⟨ji17,hji17⟩:∃ j_:Int,(Int.tmod (wrap64 ((wrap64 ((wrap64 ((wrap64 (s0_1+1)) - 1)) * 7))+3)) (s0_0.length:Int)) = j_:=⟨_,rfl⟩
        replace H:(if 0≤(ji17) then (if (ji17) < (s0_0.length:Int) then (if a1 = 0 then (none) else (some (Int.tmod (Go.bits .xor .i64 (wrap64 ((wrap64 ((wrap64 ((wrap64 ((wrap64 (rd s0_0 (ji14))) * 131))+(wrap64 ((wrap64 (rd s0_0 (ji17))) * 1117))))+(wrap64 ((wrap64 ((wrap64 (s0_1+1)) - 1)) * 29))))+(wrap64 ((wrap64 (Int.tdiv (wrap64 ((wrap64 (s0_1+1)) - 1)) (s0_0.length:Int))) * 53)))) (wrap64 (Int.tdiv (wrap64 ((wrap64 ((wrap64 ((wrap64 ((wrap64 (rd s0_0 (ji14))) * 131))+(wrap64 ((wrap64 (rd s0_0 (ji17))) * 1117))))+(wrap64 ((wrap64 ((wrap64 (s0_1+1)) - 1)) * 29))))+(wrap64 ((wrap64 (Int.tdiv (wrap64 ((wrap64 (s0_1+1)) - 1)) (s0_0.length:Int))) * 53)))) 64))) a1,(wrap64 (s0_1+1))))) else (none)) else (none)) = some (r1,r2):=by first|(rw [hji17] at H;exact H)|(simp only [hji17] at H ⊢;exact H)
        by_cases c18:0≤(ji17)
        ·rw [if_pos c18] at H
         have c18b0:decide (0≤(ji17)) = true:=zO c18
         clear c18
         by_cases c19:(ji17) < (s0_0.length:Int)
         ·rw [if_pos c19] at H
          have c19b0:decide ((ji17) < (s0_0.length:Int)) = true:=zO c19
          clear c19
          by_cases c20:a1 = 0
          ·rw [if_pos c20] at H
           exact absurd H (by simp)
          ·rw [if_neg c20] at H
           have c20b0:(a1 == 0) = false:=beq_eq_false_iff_ne.mpr c20
           have c20b1:(a1 != 0) = true:=bne_iff_ne.mpr c20
           simp only [Option.some.injEq,Prod.mk.injEq] at H
           obtain ⟨rfl,rfl⟩:=H
           obtain ⟨ASz21_0,cSz21_0,HGz21,hgz21,HSz21_0⟩:=HI0.out
           have hcz21_0:=cellS68_0 HGz21
           have hcz21_1:=cellS68_1 HGz21
           have hfz21_1:=zZ HGz21 1
           clear HGz21 hgz21
           have p209:0≤((ji14):Int):=zE (by with_reducible assumption)
           have q209:(ji14) < (s0_0.length:Int):=zE (by with_reducible assumption)
           obtain ⟨ad209,e209,hx209_0⟩:=Kd.at_int HSz21_0 (ji14) p209 q209
           cases e209
           replace hx209_0:=pw_cell_below HB.out hx209_0
           replace p209:=eq_true p209
           replace q209:=eq_true q209
           have p210:0≤((ji17):Int):=zE (by with_reducible assumption)
           have q210:(ji17) < (s0_0.length:Int):=zE (by with_reducible assumption)
           obtain ⟨ad210,e210,hx210_0⟩:=Kd.at_int HSz21_0 (ji17) p210 q210
           obtain rfl:ad209 = ad210:=(by injection e210)
           replace hx210_0:=pw_cell_below HB.out hx210_0
           replace p210:=eq_true p210
           replace q210:=eq_true q210
           go_wp2
           repeat (go_quiet (fail);try go_wp2)
           go_ret
           exact ⟨by first|rfl|(simp [errW_none,errW_some] <;> rfl)|(simp only [← hji14, ← hji17];first|rfl|(simp [errW_none,errW_some] <;> rfl))|(simp [*,errW_none,errW_some] <;> rfl),by repeat (first|(with_reducible first|exact HI0.out|apply IsS68.alloc|apply IsS68.drewN|apply IsS68.drew|apply IsS68.set_1)|exact HI0.out),by repeat (first|(with_reducible first|exact HB.out|apply zD|apply zB|apply zC|refine zF ?_ (IsS68.ge HI0.out))|exact HB.out),by repeat (first|(with_reducible first|exact HK.out|apply KeepBut.set_|apply keep_drewN|apply keep_drew|apply keep_alloc)|exact HK.out)⟩
         ·rw [if_neg c19] at H
          exact absurd H (by simp)
        ·rw [if_neg c18] at H
         exact absurd H (by simp)
       ·rw [if_neg c16] at H
        exact absurd H (by simp)
      ·rw [if_neg c15] at H
       exact absurd H (by simp)

/-! ### spec_l91Edges: function 43 -/
def spec_l91Edges.f (k:Nat) (s0_0:List Int) (s0_1:Int) (a1:Int):Option (Int × Int × Int):=(spec_l6Rd_pick.f k s0_0 s0_1 16).bind fun bt211=>(if bt211.1 = 0 then ((some (([0,wrap64 (a1+1),(-1)]:List Int):List Int)).bind fun y213=>((spec_l6Rd_pick.f k s0_0 bt211.2 3).bind fun bt216=>(if 0≤bt216.1 then (if bt216.1 < (y213.length:Int) then ((spec_l6Rd_pick.f k s0_0 bt216.2 3).bind fun bt219=>(some (rd y213 bt216.1,wrap64 (bt219.1 - 1),bt219.2))) else (none)) else (none)))) else ((spec_l6Rd_pick.f k s0_0 bt211.2 a1).bind fun bt221=>((spec_l6Rd_pick.f k s0_0 bt221.2 3).bind fun bt223=>(some (wrap64 (1+bt221.1),bt223.1,bt223.2)))))
theorem spec_l91Edges.mono:∀ a0 a1 a2 k,LeO (spec_l91Edges.f k a0 a1 a2) (spec_l91Edges.f (k+1) a0 a1 a2):=by
 intro a0 a1 a2 k
 unfold spec_l91Edges.f
 repeat' first
   | (with_reducible exact spec_l6Rd_pick.mono _ _ _ _)
   | (with_reducible exact LeO.refl _)
   | (with_reducible exact za _)
   | (with_reducible refine zc ?_ ?_)
   | (with_reducible refine zb ?_ (fun _=>?_))
def spec_l91Edges.T2:Bool × List (List Nat × List Nat):=(true,[([],[]),([0],[0]),([1],[1]),([],[]),([3],[3]),([2,4],[2,4]),([5],[5]),([],[]),([7,4],[7]),([8],[8]),([6,8,0,1,2,3,4,5,6],[6]),([9,10,0,1,2,3,4,5,6,7,8,9,10],[9])])
def spec_l91Edges.B2:List Nat:=[0,1,3,0,8,31,63,0,152,408,511,2047]
theorem spec_l91Edges.tab2:rtab .any (opsOf Try.f43 2) = spec_l91Edges.T2:=by kernel_rfl
theorem spec_l91Edges.bits2:waitsOk spec_l91Edges.T2.2 spec_l91Edges.B2 = true:=by kernel_rfl
set_option maxHeartbeats 8000000 in
set_option maxRecDepth 100000 in
theorem spec_l91Edges.calls (k:Nat) (g:Nat) (s0_0:List Int) (s0_1:Int) (a1:Int) (r1:Int) (r2:Int) (r3:Int) (w0 w:World) (hI:IsS68 w0 w g s0_0 s0_1) (hB:Below w0.heap.size w0 w) (h:spec_l91Edges.f k s0_0 s0_1 a1 = some (r1,r2,r3)) :
  Calls Try.prog 43 #[.pointer (some ⟨g,0,none⟩),.int .i64 a1] w fun e w'=>e = .returned (.tuple #[.int .i64 r1,.int .i64 r2])∧IsS68 w0 w' g s0_0 r3∧Below w0.heap.size w0 w'∧KeepBut w w' g none:=by
 have HI0:=zA hI
 have HK:=zA (KeepBut.refl w g none)
 have HL:=zA hB.size
 clear hI
 have HW0:=zA hB.size
 have HB:=zA hB
 clear hB
 have H:((spec_l6Rd_pick.f k s0_0 s0_1 16).bind fun bt211=>(if bt211.1 = 0 then ((some (([0,wrap64 (a1+1),(-1)]:List Int):List Int)).bind fun y213=>((spec_l6Rd_pick.f k s0_0 bt211.2 3).bind fun bt216=>(if 0≤bt216.1 then (if bt216.1 < (y213.length:Int) then ((spec_l6Rd_pick.f k s0_0 bt216.2 3).bind fun bt219=>(some (rd y213 bt216.1,wrap64 (bt219.1 - 1),bt219.2))) else (none)) else (none)))) else ((spec_l6Rd_pick.f k s0_0 bt211.2 a1).bind fun bt221=>((spec_l6Rd_pick.f k s0_0 bt221.2 3).bind fun bt223=>(some (wrap64 (1+bt221.1),bt223.1,bt223.2)))))) = some (r1,r2,r3):=h
 clear h
 replace H:=zz0 H
 obtain ⟨⟨t211,t212⟩,A30,H⟩:=H
 try dsimp only at H
 have A3:=zA A30
 clear A30
 by_cases c4:t211 = 0
 ·rw [if_pos c4] at H
  have c4b0:(t211 == 0) = true:=beq_iff_eq.mpr c4
  have c4b1:(t211 != 0) = false:=bne_eq_false_iff_eq.mpr c4
  clear c4
  obtain ⟨y213,hy213⟩:∃ y_:List Int,y_ = (([0,wrap64 (a1+1),(-1)]:List Int)):=⟨_,rfl⟩
  replace H:((spec_l6Rd_pick.f k s0_0 t212 3).bind fun bt216=>(if 0≤bt216.1 then (if bt216.1 < (y213.length:Int) then ((spec_l6Rd_pick.f k s0_0 bt216.2 3).bind fun bt219=>(some (rd y213 bt216.1,wrap64 (bt219.1 - 1),bt219.2))) else (none)) else (none))) = some (r1,r2,r3):=by (try rw [hy213]);first|with_reducible exact H|with_reducible exact zS_ H|exact H
  have Ny213:=zA hy213
  clear hy213
  replace H:=zz0 H
  obtain ⟨⟨t216,t217⟩,A50,H⟩:=H
  try dsimp only at H
  have A5:=zA A50
  clear A50
  by_cases c6:0≤t216
  ·rw [if_pos c6] at H
   have c6b0:decide (0≤t216) = true:=zO c6
   clear c6
   by_cases c7:t216 < (y213.length:Int)
   ·rw [if_pos c7] at H
    have c7b0:decide (t216 < (y213.length:Int)) = true:=zO c7
    clear c7
    replace H:=zz0 H
    obtain ⟨⟨t219,t220⟩,A80,H⟩:=H
    try dsimp only at H
    have A8:=zA A80
    clear A80
    simp only [Option.some.injEq,Prod.mk.injEq] at H
    obtain ⟨rfl,rfl,rfl⟩:=H
    go_enter Try.func43,Try.ntmps43
    try go_wp2_with (first|((with_reducible refine gate_callee (f:=57) rfl ?_);refine goesL_ (some 7) rfl rfl Try.func57 (by kernel_rfl) rfl #[.pointer (some ⟨g,0,none⟩),.int .i64 16] rfl (by (try simp only [zJ,zM,zN]);first|done|rfl|(simp only [zL,zK];rfl)) ?_;(with_reducible refine (spec_l6Rd_pick.calls k g s0_0 s0_1 16 t211 t212 w0 _ ?side1 ?side2 A3.out).mono ?_);(case side1=>repeat (first|(with_reducible first|exact HI0.out|apply IsS68.alloc|apply IsS68.drewN|apply IsS68.drew|apply IsS68.set_1)|exact HI0.out));(case side2=>repeat (first|(with_reducible first|exact HB.out|apply zD|apply zB|apply zC|refine zF ?_ (IsS68.ge HI0.out))|exact HB.out));rintro e w9 ⟨rfl,hi,hb,hk⟩;refine ⟨_,rfl,?_⟩;have n0_:=zA (KeepBut.trans (by repeat (first|(with_reducible first|exact HK.out|apply KeepBut.set_|apply keep_drewN|apply keep_drew|apply keep_alloc)|exact HK.out)) hk (.inl rfl));have n1_:=zA (hb);have n2_:=zA (hi);clear HK;clear HB;clear HI0;have HK:=n0_;have HB:=n1_;have HI0:=n2_;clear n0_ n1_ n2_;(try clear hb);(try clear hb2);(try clear hk);(try clear hi)))
    have pi218:(0≤(t216:Int)) = True:=eq_true (zE (by with_reducible assumption))
    have qi218:(t216 < (y213.length:Int)) = True:=eq_true (zE (by with_reducible assumption))
    have n0_:=zA (IsS68.drew HI0.out)
    have n1_:=zA (keep_drew HK.out)
    have n2_:=zA (zC HB.out)
    clear HI0 HK HB
    have HI0:=n0_
    have HK:=n1_
    have HB:=n2_
    clear n0_ n1_ n2_
    refine start_ (n:=12) (S:=fun w'=>True) (ds:=[]) #[zf,zf,zf,zf,zf,zf,zf,zf,zf,zf,zf,zf] (by kernel_rfl) rfl rfl trivial (fun hHeld=>?_);refine with_tabW spec_l91Edges.tab2 spec_l91Edges.bits2 (fun HT_ HW_=>?_)
    generalize w9.drew = w10 at HI0 HK HB hHeld ⊢
    refine pure_ (i:=0) (N:=some 9) (v:=?_) (a':=?_) #[zt,zf,zf,zf,zf,zf,zf,zf,zf,zf,zf,zf] rfl rfl (any_of HT_.out (by kernel_rfl)) (fun _ _ _ h=>h) (Or.inl ⟨by rfl,?_⟩) ?_ ?_
    rotate_left
    ·intro w'
     go_simp
     with_reducible rfl
    rotate_left
    ·simp only [Act.put,zP_,i64_w]
     rfl
    refine pure_ (i:=3) (N:=some 12) (v:=?_) (a':=?_) #[zt,zf,zf,zt,zf,zf,zf,zf,zf,zf,zf,zf] rfl rfl (any_of HT_.out (by kernel_rfl)) (fun _ _ _ h=>h) (Or.inl ⟨by rfl,?_⟩) ?_ ?_
    rotate_left
    ·intro w'
     go_simp
     with_reducible rfl
    rotate_left
    ·simp only [Act.put,zP_,i64_w]
     rfl
    refine pure_ (i:=7) (N:=some 16) (v:=?_) (a':=?_) #[zt,zf,zf,zt,zf,zf,zf,zt,zf,zf,zf,zf] rfl rfl (any_of HT_.out (by kernel_rfl)) (fun _ _ _ h=>h) (Or.inl ⟨by rfl,?_⟩) ?_ ?_
    rotate_left
    ·intro w'
     go_simp
     with_reducible rfl
    rotate_left
    ·simp only [Act.put,zP_,i64_w]
     rfl
    refine inv_at [1,2,4,5,6,8,9,10,11] (fun a0_ b a w' => ∃ (v214:Value) (adz_v214:Addr) (m5_:Value),a = putSel a0_ b [(1,10,.int .i64 (wrap64 (a1+1))),(2,11,v214),(4,13,.int .i64 t216),(5,14,m5_),(6,15,.int .i64 (rd y213 t216)),(8,17,.int .i64 t219),(9,18,.int .i64 (wrap64 (t219 - 1))),(10,4,.int .i64 (rd y213 t216)),(11,5,.int .i64 (wrap64 (t219 - 1)))]∧(b 4 = false→IsS68 w0 w' g s0_0 t212)∧(KeepBut w w' g none)∧(Below w0.heap.size w0 w')∧(b 2 = true→Kd.R (Kd.int .i64) 3 w' w.heap.size (fun _=>True) v214 y213)∧(b 2 = true → ∃ c_,(v214:Value) = .slice (some adz_v214) y213.length c_)∧(b 4 = true→b 8 = false→IsS68 w0 w' g s0_0 t217)∧(b 8 = true→IsS68 w0 w' g s0_0 t220)∧(b 5 = true→(m5_:Value) = .pointer (some (adz_v214.add (t216).toNat)))) HT_.out HW_.out (by kernel_rfl) (by kernel_rfl) ?_ ?_ ?_
    ·exact ⟨.bool false,⟨0,0,none⟩,.bool false,by simp only [putSel,Bool.false_eq_true,if_false],fun _=>HI0.out,HK.out,HB.out,fun h_=>absurd h_ (by decide),fun h_=>absurd h_ (by decide),fun h_=>absurd h_ (by decide),fun h_=>absurd h_ (by decide),fun h_=>absurd h_ (by decide)⟩
    ·skip
     clear HB HI0 HK
     refine steps_cons ?_ ?_
     ·rintro b a w' ⟨v214,adz_v214,m5_,ha,Q_HI0,Q_HK,Q_HB,Q_HO215,Q_HA_HO215,Q_HI0_e4,Q_HI0_e8,Q_X5_⟩ hb_ hon hoff
      refine ⟨_,rfl,fun K hK=>?_⟩
      have e9:a.tmps[9]? = some (.int .i64 a1):=by rw [ha];exact (putSel_off rfl).trans rfl
      replace ha:=zA ha
      have HK:=zA Q_HK
      have HB:=zA Q_HB
      refine value_ (w1:=w') (v:=.int .i64 (wrap64 (a1+1))) (by rfl) rfl ?_ ?_
      ·go_simp
       (try simp only [i64_w])
       try rfl
      refine hK.out _ _ ⟨v214,adz_v214,m5_,(by rw [ha.out];exact putSel_upk 0 hb_ rfl rfl rfl),Q_HI0,Q_HK,Q_HB,fun h0_=>absurd ((hoff 2 (by kernel_rfl)).symm.trans h0_) (by decide),fun h0_=>absurd ((hoff 2 (by kernel_rfl)).symm.trans h0_) (by decide),Q_HI0_e4,Q_HI0_e8,fun h0_=>absurd ((hoff 5 (by kernel_rfl)).symm.trans h0_) (by decide)⟩
     refine steps_cons ?_ ?_
     ·rintro b a w' ⟨v214,adz_v214,m5_,ha,Q_HI0,Q_HK,Q_HB,Q_HO215,Q_HA_HO215,Q_HI0_e4,Q_HI0_e8,Q_X5_⟩ hb_ hon hoff
      refine ⟨_,rfl,fun K hK=>?_⟩
      have e10:a.tmps[10]? = some (.int .i64 (wrap64 (a1+1))):=by rw [ha];exact putSel_on (e:=(1,10,.int .i64 (wrap64 (a1+1)))) 0 rfl rfl (hon 1 (by kernel_rfl)) rfl
      replace ha:=zA ha
      have HK:=zA Q_HK
      have HB:=zA Q_HB
      refine Kd.R_lit_step (Kd.int .i64) _ 3 ?hg (N:=11) ?hd (xs:=([0,wrap64 (a1+1),(-1)]:List Int)) (inner:=[.int .i64 0,.int .i64 (wrap64 (a1+1)),.int .i64 (-1)]) (ok:=fun _=>True) (okp:=fun _=>True) ?hr ?hp (fun _ hk=>hk) trivial (Below.refl _ _) (Nat.le_refl _) (by simp) ?_;(case hd=>rfl);(case hg=>rfl);(case hr=>first|(go_simp;done)|(go_simp;rfl));(case hp=>exact (Reps.one (show Kd.M (Kd.int .i64) _ _ _ 0 [.int .i64 0] from rfl) (Reps.one (show Kd.M (Kd.int .i64) _ _ _ (wrap64 (a1+1)) [.int .i64 (wrap64 (a1+1))] from rfl) (Reps.one (show Kd.M (Kd.int .i64) _ _ _ (-1) [.int .i64 (-1)] from rfl) (Reps.none _ _)))))
      intro v214 w11 ho12 hb hg_ hnew_
      clear hg_ hnew_
      (first|rw [← Ny213.out] at ho12|(simp only [Int.reduceToNat] at ho12;rw [← Ny213.out] at ho12))
      have n0_:=zA (ze ho12 (keep_size (w:=w) (g:=g) (row:=none) (by repeat (first|(with_reducible first|exact HK.out|apply KeepBut.set_|apply keep_drewN|apply keep_drew|apply keep_alloc)|exact HK.out))))
      have n2_:=zA (KeepBut.trans (by repeat (first|(with_reducible first|exact HK.out|apply KeepBut.set_|apply keep_drewN|apply keep_drew|apply keep_alloc)|exact HK.out)) (KeepBut.of_below hb g none) (.inl rfl))
      have n3_:=zA (zR (by exact zB_ HB.out) hb)
      have z_HI0:=fun (h0_:b 4 = false)=>(show IsS68 w0 w11 g s0_0 t212 from by first|exact (IsS68.below (by repeat (first|(with_reducible first|exact (Q_HI0 h0_)|apply IsS68.alloc|apply IsS68.drewN|apply IsS68.drew|apply IsS68.set_1)|exact (Q_HI0 h0_))) hb))
      have z_HI0_e4:=fun (h0_:b 4 = true) (h1_:b 8 = false)=>(show IsS68 w0 w11 g s0_0 t217 from by first|exact (IsS68.below (by repeat (first|(with_reducible first|exact (Q_HI0_e4 h0_ h1_)|apply IsS68.alloc|apply IsS68.drewN|apply IsS68.drew|apply IsS68.set_1)|exact (Q_HI0_e4 h0_ h1_))) hb))
      have z_HI0_e8:=fun (h0_:b 8 = true)=>(show IsS68 w0 w11 g s0_0 t220 from by first|exact (IsS68.below (by repeat (first|(with_reducible first|exact (Q_HI0_e8 h0_)|apply IsS68.alloc|apply IsS68.drewN|apply IsS68.drew|apply IsS68.set_1)|exact (Q_HI0_e8 h0_))) hb))
      clear HK HB
      have HO215:=n0_
      have HK:=n2_
      have HB:=n3_
      clear n0_ n2_ n3_ hb ho12
      obtain ⟨Ao13,co13,eo13⟩:=zg HO215.out
      subst eo13
      obtain ⟨ado13,fo13,_⟩:=Kd.at_int (zU HO215.out).2.2 0 (by decide) (by rw [Ny213.out];simp)
      cases fo13
      refine hK.out _ _ ⟨.slice (some ado13) y213.length co13,ado13,m5_,(by rw [ha.out];exact putSel_upk 1 hb_ rfl rfl rfl),z_HI0,(by repeat (first|(with_reducible first|exact HK.out|apply KeepBut.set_|apply keep_drewN|apply keep_drew|apply keep_alloc)|exact HK.out)),(by exact zB_ HB.out),fun _=>(by apply zR_;exact HO215.out),fun _=>⟨_,rfl⟩,z_HI0_e4,z_HI0_e8,fun h0_=>absurd ((hoff 5 (by kernel_rfl)).symm.trans h0_) (by decide)⟩
     refine steps_cons ?_ ?_
     ·rintro b a w' ⟨v214,adz_v214,m5_,ha,Q_HI0,Q_HK,Q_HB,Q_HO215,Q_HA_HO215,Q_HI0_e4,Q_HI0_e8,Q_X5_⟩ hb_ hon hoff
      refine ⟨_,rfl,fun K hK=>?_⟩
      have e12:a.tmps[12]? = some (.pointer (some ⟨g,0,none⟩)):=by rw [ha];exact (putSel_off rfl).trans rfl
      replace ha:=zA ha
      have HI0:=zA (Q_HI0 hb_)
      have HK:=zA Q_HK
      have HB:=zA Q_HB
      refine goes_ Try.func57 (by kernel_rfl) rfl #[.pointer (some ⟨g,0,none⟩),.int .i64 3] (by rfl) rfl rfl (by first|(simp only [zJ,zM,zN,Act.eval,Array.getD_eq_getD_getElem?,Option.getD_some,e12];done)|(simp only [zJ,zM,zN,Act.eval,Array.getD_eq_getD_getElem?,Option.getD_some,e12];rfl)) ?_
      with_reducible refine (spec_l6Rd_pick.calls k g s0_0 t212 3 t216 t217 w0 _ ?side1 ?side2 A5.out).mono ?_
      (case side1=>repeat (first|(with_reducible first|exact HI0.out|apply IsS68.alloc|apply IsS68.drewN|apply IsS68.drew|apply IsS68.set_1)|exact HI0.out))
      (case side2=>repeat (first|(with_reducible first|exact HB.out|apply zD|apply zB|apply zC|refine zF ?_ (IsS68.ge HI0.out))|exact HB.out))
      rintro e w11 ⟨rfl,hi,hb,hk⟩
      refine ⟨_,rfl,?_⟩
      have n0_:=zA (KeepBut.trans (by repeat (first|(with_reducible first|exact HK.out|apply KeepBut.set_|apply keep_drewN|apply keep_drew|apply keep_alloc)|exact HK.out)) hk (.inl rfl))
      have n1_:=zA (hb)
      have n2_:=zA (hi)
      have z_HO215:=fun (h0_:b 2 = true)=>(show Kd.R (Kd.int .i64) 3 w11 w.heap.size (fun _=>True) v214 y213 from by first|exact (zV (Kd.R_keep (IsS68.apart (show IsS68 w0 _ g s0_0 t212 from by repeat (first|(with_reducible first|exact HI0.out|apply IsS68.alloc|apply IsS68.drewN|apply IsS68.drew|apply IsS68.set_1)|exact HI0.out)) (by apply zR_;exact (Q_HO215 h0_)) (by decide)) hk (fun _ h=>h.2)) (fun _ h=>h.1))|exact zV (zV (Kd.R_keep (IsS68.apart (show IsS68 w0 _ g s0_0 t212 from by repeat (first|(with_reducible first|exact HI0.out|apply IsS68.alloc|apply IsS68.drewN|apply IsS68.drew|apply IsS68.set_1)|exact HI0.out)) (by apply zR_;exact (Q_HO215 h0_)) (by decide)) hk (fun _ h=>h.2)) (fun _ h=>h.1)) (fun _ h_=>by first|trivial|exact h_|exact h_.1))
      clear HK HB HI0
      have HK:=n0_
      have HB:=n1_
      have HI0:=n2_
      clear n0_ n1_ n2_
      (try clear hb);(try clear hb2);(try clear hk);(try clear hi)
      refine hK.out _ _ ⟨v214,adz_v214,m5_,(by rw [ha.out];exact putSel_upk 2 hb_ rfl rfl rfl),fun h0_=>absurd ((up_self b 4).symm.trans h0_) (by decide),(by repeat (first|(with_reducible first|exact HK.out|apply KeepBut.set_|apply keep_drewN|apply keep_drew|apply keep_alloc)|exact HK.out)),(by repeat (first|(with_reducible first|exact HB.out|apply zD|apply zB|apply zC|refine zF ?_ (IsS68.ge HI0.out))|exact HB.out)),z_HO215,Q_HA_HO215,fun _ _=>(by repeat (first|(with_reducible first|exact HI0.out|apply IsS68.alloc|apply IsS68.drewN|apply IsS68.drew|apply IsS68.set_1)|exact HI0.out)),fun h0_=>absurd ((hoff 8 (by kernel_rfl)).symm.trans h0_) (by decide),fun h0_=>absurd ((hoff 5 (by kernel_rfl)).symm.trans h0_) (by decide)⟩
     refine steps_cons ?_ ?_
     ·rintro b a w' ⟨v214,adz_v214,m5_,ha,Q_HI0,Q_HK,Q_HB,Q_HO215,Q_HA_HO215,Q_HI0_e4,Q_HI0_e8,Q_X5_⟩ hb_ hon hoff
      refine ⟨_,rfl,fun K hK=>?_⟩
      have e11:a.tmps[11]? = some (v214):=by rw [ha];exact putSel_on (e:=(2,11,v214)) 1 rfl rfl (hon 2 (by kernel_rfl)) rfl
      have e13:a.tmps[13]? = some (.int .i64 t216):=by rw [ha];exact putSel_on (e:=(4,13,.int .i64 t216)) 2 rfl rfl (hon 4 (by kernel_rfl)) rfl
      replace ha:=zA ha
      have HK:=zA Q_HK
      have HB:=zA Q_HB
      have HO215:=zA (Q_HO215 (hon 2 (by kernel_rfl)))
      have HA_HO215:=zA (Q_HA_HO215 (hon 2 (by kernel_rfl)))
      obtain ⟨c_,hv_⟩:=HA_HO215.out
      rw [hv_] at e11
      refine value_ (w1:=w') (v:=.pointer (some (adz_v214.add (t216).toNat))) (by rfl) rfl ?_ ?_
      ·go_simp
       (try simp only [i64_w])
       try rfl
      refine hK.out _ _ ⟨v214,adz_v214,(.pointer (some (adz_v214.add (t216).toNat))),(by rw [ha.out];exact putSel_upk 3 hb_ rfl rfl rfl),fun h0_=>absurd ((hon 4 (by kernel_rfl)).symm.trans h0_) (by decide),Q_HK,Q_HB,Q_HO215,Q_HA_HO215,Q_HI0_e4,Q_HI0_e8,fun _=>rfl⟩
     refine steps_cons ?_ ?_
     ·rintro b a w' ⟨v214,adz_v214,m5_,ha,Q_HI0,Q_HK,Q_HB,Q_HO215,Q_HA_HO215,Q_HI0_e4,Q_HI0_e8,Q_X5_⟩ hb_ hon hoff
      refine ⟨_,rfl,fun K hK=>?_⟩
      have e14:a.tmps[14]? = some (m5_):=by rw [ha];exact putSel_on (e:=(5,14,m5_)) 3 rfl rfl (hon 5 (by kernel_rfl)) rfl
      rw [Q_X5_ (hon 5 (by kernel_rfl))] at e14
      replace ha:=zA ha
      have HK:=zA Q_HK
      have HB:=zA Q_HB
      have HO215:=zA (Q_HO215 (hon 2 (by kernel_rfl)))
      have HA_HO215:=zA (Q_HA_HO215 (hon 2 (by kernel_rfl)))
      obtain ⟨c_,hv_⟩:=HA_HO215.out
      have hF_:=HO215.out
      rw [hv_] at hF_
      obtain ⟨ad_,ea_,hx_⟩:=Kd.at_int (zU hF_).2.2 t216 (of_eq_true pi218) (of_eq_true qi218)
      cases ea_
      refine value_ (w1:=w') (v:=.int .i64 (rd y213 t216)) (by rfl) rfl ?_ ?_
      ·go_simp
       (try simp only [i64_w])
       try rfl
      refine hK.out _ _ ⟨v214,adz_v214,m5_,(by rw [ha.out];exact putSel_upk 4 hb_ rfl rfl rfl),fun h0_=>absurd ((hon 4 (by kernel_rfl)).symm.trans h0_) (by decide),Q_HK,Q_HB,Q_HO215,Q_HA_HO215,Q_HI0_e4,Q_HI0_e8,Q_X5_⟩
     refine steps_cons ?_ ?_
     ·rintro b a w' ⟨v214,adz_v214,m5_,ha,Q_HI0,Q_HK,Q_HB,Q_HO215,Q_HA_HO215,Q_HI0_e4,Q_HI0_e8,Q_X5_⟩ hb_ hon hoff
      refine ⟨_,rfl,fun K hK=>?_⟩
      have e16:a.tmps[16]? = some (.pointer (some ⟨g,0,none⟩)):=by rw [ha];exact (putSel_off rfl).trans rfl
      replace ha:=zA ha
      have HK:=zA Q_HK
      have HB:=zA Q_HB
      have HI0:=zA (Q_HI0_e4 (hon 4 (by kernel_rfl)) hb_)
      refine goes_ Try.func57 (by kernel_rfl) rfl #[.pointer (some ⟨g,0,none⟩),.int .i64 3] (by rfl) rfl rfl (by first|(simp only [zJ,zM,zN,Act.eval,Array.getD_eq_getD_getElem?,Option.getD_some,e16];done)|(simp only [zJ,zM,zN,Act.eval,Array.getD_eq_getD_getElem?,Option.getD_some,e16];rfl)) ?_
      with_reducible refine (spec_l6Rd_pick.calls k g s0_0 t217 3 t219 t220 w0 _ ?side1 ?side2 A8.out).mono ?_
      (case side1=>repeat (first|(with_reducible first|exact HI0.out|apply IsS68.alloc|apply IsS68.drewN|apply IsS68.drew|apply IsS68.set_1)|exact HI0.out))
      (case side2=>repeat (first|(with_reducible first|exact HB.out|apply zD|apply zB|apply zC|refine zF ?_ (IsS68.ge HI0.out))|exact HB.out))
      rintro e w13 ⟨rfl,hi,hb,hk⟩
      refine ⟨_,rfl,?_⟩
      have n0_:=zA (KeepBut.trans (by repeat (first|(with_reducible first|exact HK.out|apply KeepBut.set_|apply keep_drewN|apply keep_drew|apply keep_alloc)|exact HK.out)) hk (.inl rfl))
      have n1_:=zA (hb)
      have n2_:=zA (hi)
      have z_HO215:=fun (h0_:b 2 = true)=>(show Kd.R (Kd.int .i64) 3 w13 w.heap.size (fun _=>True) v214 y213 from by first|exact (zV (Kd.R_keep (IsS68.apart (show IsS68 w0 _ g s0_0 t217 from by repeat (first|(with_reducible first|exact HI0.out|apply IsS68.alloc|apply IsS68.drewN|apply IsS68.drew|apply IsS68.set_1)|exact HI0.out)) (by apply zR_;exact (Q_HO215 h0_)) (by decide)) hk (fun _ h=>h.2)) (fun _ h=>h.1))|exact zV (zV (Kd.R_keep (IsS68.apart (show IsS68 w0 _ g s0_0 t217 from by repeat (first|(with_reducible first|exact HI0.out|apply IsS68.alloc|apply IsS68.drewN|apply IsS68.drew|apply IsS68.set_1)|exact HI0.out)) (by apply zR_;exact (Q_HO215 h0_)) (by decide)) hk (fun _ h=>h.2)) (fun _ h=>h.1)) (fun _ h_=>by first|trivial|exact h_|exact h_.1))
      clear HK HB HI0
      have HK:=n0_
      have HB:=n1_
      have HI0:=n2_
      clear n0_ n1_ n2_
      (try clear hb);(try clear hb2);(try clear hk);(try clear hi)
      refine hK.out _ _ ⟨v214,adz_v214,m5_,(by rw [ha.out];exact putSel_upk 5 hb_ rfl rfl rfl),fun h0_=>absurd ((hon 4 (by kernel_rfl)).symm.trans h0_) (by decide),(by repeat (first|(with_reducible first|exact HK.out|apply KeepBut.set_|apply keep_drewN|apply keep_drew|apply keep_alloc)|exact HK.out)),(by repeat (first|(with_reducible first|exact HB.out|apply zD|apply zB|apply zC|refine zF ?_ (IsS68.ge HI0.out))|exact HB.out)),z_HO215,Q_HA_HO215,fun _ h1_=>absurd ((up_self b 8).symm.trans h1_) (by decide),fun _=>(by repeat (first|(with_reducible first|exact HI0.out|apply IsS68.alloc|apply IsS68.drewN|apply IsS68.drew|apply IsS68.set_1)|exact HI0.out)),Q_X5_⟩
     refine steps_cons ?_ ?_
     ·rintro b a w' ⟨v214,adz_v214,m5_,ha,Q_HI0,Q_HK,Q_HB,Q_HO215,Q_HA_HO215,Q_HI0_e4,Q_HI0_e8,Q_X5_⟩ hb_ hon hoff
      refine ⟨_,rfl,fun K hK=>?_⟩
      have e17:a.tmps[17]? = some (.int .i64 t219):=by rw [ha];exact putSel_on (e:=(8,17,.int .i64 t219)) 5 rfl rfl (hon 8 (by kernel_rfl)) rfl
      replace ha:=zA ha
      have HK:=zA Q_HK
      have HB:=zA Q_HB
      have HI0:=zA (Q_HI0_e8 (hon 8 (by kernel_rfl)))
      refine value_ (w1:=w') (v:=.int .i64 (wrap64 (t219 - 1))) (by rfl) rfl ?_ ?_
      ·go_simp
       (try simp only [i64_w])
       try rfl
      refine hK.out _ _ ⟨v214,adz_v214,m5_,(by rw [ha.out];exact putSel_upk 6 hb_ rfl rfl rfl),fun h0_=>absurd ((hon 4 (by kernel_rfl)).symm.trans h0_) (by decide),Q_HK,Q_HB,Q_HO215,Q_HA_HO215,fun _ h1_=>absurd ((hon 8 (by kernel_rfl)).symm.trans h1_) (by decide),Q_HI0_e8,Q_X5_⟩
     refine steps_cons ?_ ?_
     ·rintro b a w' ⟨v214,adz_v214,m5_,ha,Q_HI0,Q_HK,Q_HB,Q_HO215,Q_HA_HO215,Q_HI0_e4,Q_HI0_e8,Q_X5_⟩ hb_ hon hoff
      refine ⟨_,rfl,fun K hK=>?_⟩
      have e15:a.tmps[15]? = some (.int .i64 (rd y213 t216)):=by rw [ha];exact putSel_on (e:=(6,15,.int .i64 (rd y213 t216))) 4 rfl rfl (hon 6 (by kernel_rfl)) rfl
      replace ha:=zA ha
      have HK:=zA Q_HK
      have HB:=zA Q_HB
      have HO215:=zA (Q_HO215 (hon 2 (by kernel_rfl)))
      have HA_HO215:=zA (Q_HA_HO215 (hon 2 (by kernel_rfl)))
      have HI0:=zA (Q_HI0_e8 (hon 8 (by kernel_rfl)))
      refine value_ (w1:=w') (v:=.int .i64 (rd y213 t216)) (by rfl) rfl ?_ ?_
      ·go_simp
       (try simp only [i64_w])
       try rfl
      refine hK.out _ _ ⟨v214,adz_v214,m5_,(by rw [ha.out];exact putSel_upk 7 hb_ rfl rfl rfl),fun h0_=>absurd ((hon 4 (by kernel_rfl)).symm.trans h0_) (by decide),Q_HK,Q_HB,Q_HO215,Q_HA_HO215,fun _ h1_=>absurd ((hon 8 (by kernel_rfl)).symm.trans h1_) (by decide),Q_HI0_e8,Q_X5_⟩
     refine steps_cons ?_ ?_
     ·rintro b a w' ⟨v214,adz_v214,m5_,ha,Q_HI0,Q_HK,Q_HB,Q_HO215,Q_HA_HO215,Q_HI0_e4,Q_HI0_e8,Q_X5_⟩ hb_ hon hoff
      refine ⟨_,rfl,fun K hK=>?_⟩
      have e18:a.tmps[18]? = some (.int .i64 (wrap64 (t219 - 1))):=by rw [ha];exact putSel_on (e:=(9,18,.int .i64 (wrap64 (t219 - 1)))) 6 rfl rfl (hon 9 (by kernel_rfl)) rfl
      replace ha:=zA ha
      have HK:=zA Q_HK
      have HB:=zA Q_HB
      have HO215:=zA (Q_HO215 (hon 2 (by kernel_rfl)))
      have HA_HO215:=zA (Q_HA_HO215 (hon 2 (by kernel_rfl)))
      have HI0:=zA (Q_HI0_e8 (hon 8 (by kernel_rfl)))
      refine value_ (w1:=w') (v:=.int .i64 (wrap64 (t219 - 1))) (by rfl) rfl ?_ ?_
      ·go_simp
       (try simp only [i64_w])
       try rfl
      refine hK.out _ _ ⟨v214,adz_v214,m5_,(by rw [ha.out];exact putSel_upk 8 hb_ rfl rfl rfl),fun h0_=>absurd ((hon 4 (by kernel_rfl)).symm.trans h0_) (by decide),Q_HK,Q_HB,Q_HO215,Q_HA_HO215,fun _ h1_=>absurd ((hon 8 (by kernel_rfl)).symm.trans h1_) (by decide),Q_HI0_e8,Q_X5_⟩
     exact steps_nil
    rintro b a w16 hall ⟨v214,adz_v214,m5_,ha,Q_HI0,Q_HK,Q_HB,Q_HO215,Q_HA_HO215,Q_HI0_e4,Q_HI0_e8,Q_X5_⟩
    clear HB HI0 HK
    have hb1_:=hall 1 (by kernel_rfl)
    have hb2_:=hall 2 (by kernel_rfl)
    have hb4_:=hall 4 (by kernel_rfl)
    have hb5_:=hall 5 (by kernel_rfl)
    have hb6_:=hall 6 (by kernel_rfl)
    have hb8_:=hall 8 (by kernel_rfl)
    have hb9_:=hall 9 (by kernel_rfl)
    have hb10_:=hall 10 (by kernel_rfl)
    have hb11_:=hall 11 (by kernel_rfl)
    subst ha
    obtain rfl:=Q_X5_ hb5_
    simp only [putSel,hb1_,hb2_,hb4_,hb5_,hb6_,hb8_,hb9_,hb10_,hb11_,if_true,Act.put,List.setIfInBounds_toArray,List.set_cons_zero,List.set_cons_succ]
    clear Q_HI0
    have HK:=zA Q_HK
    clear Q_HK
    have HB:=zA Q_HB
    clear Q_HB
    have HO215:=zA (Q_HO215 hb2_)
    clear Q_HO215
    have HA_HO215:=zA (Q_HA_HO215 hb2_)
    clear Q_HA_HO215 Q_HI0_e4
    have HI0:=zA (Q_HI0_e8 hb8_)
    clear Q_HI0_e8 hall hb1_ hb2_ hb4_ hb5_ hb6_ hb8_ hb9_ hb10_ hb11_
    obtain ⟨co17,eo17⟩:=HA_HO215.out
    clear HA_HO215
    subst eo17
    try go_wp2
    go_ret2
    exact ⟨by first|rfl|(simp [errW_none,errW_some] <;> rfl)|(simp [*,errW_none,errW_some] <;> rfl),by repeat (first|(with_reducible first|exact HI0.out|apply IsS68.alloc|apply IsS68.drewN|apply IsS68.drew|apply IsS68.set_1)|exact HI0.out),by repeat (first|(with_reducible first|exact HB.out|apply zD|apply zB|apply zC|refine zF ?_ (IsS68.ge HI0.out))|exact HB.out),by repeat (first|(with_reducible first|exact HK.out|apply KeepBut.set_|apply keep_drewN|apply keep_drew|apply keep_alloc)|exact HK.out)⟩
   ·rw [if_neg c7] at H
    exact absurd H (by simp)
  ·rw [if_neg c6] at H
   exact absurd H (by simp)
 ·rw [if_neg c4] at H
  have c4b0:(t211 == 0) = false:=beq_eq_false_iff_ne.mpr c4
  have c4b1:(t211 != 0) = true:=bne_iff_ne.mpr c4
  replace H:=zz0 H
  obtain ⟨⟨t221,t222⟩,A180,H⟩:=H
  try dsimp only at H
  have A18:=zA A180
  clear A180
  replace H:=zz0 H
  obtain ⟨⟨t223,t224⟩,A190,H⟩:=H
  try dsimp only at H
  have A19:=zA A190
  clear A190
  simp only [Option.some.injEq,Prod.mk.injEq] at H
  obtain ⟨rfl,rfl,rfl⟩:=H
  go_enter Try.func43,Try.ntmps43
  go_wp2_with (first|((with_reducible refine gate_callee (f:=57) rfl ?_);refine goesL_ (some 7) rfl rfl Try.func57 (by kernel_rfl) rfl #[.pointer (some ⟨g,0,none⟩),.int .i64 16] rfl (by (try simp only [zJ,zM,zN]);first|done|rfl|(simp only [zL,zK];rfl)) ?_;(with_reducible refine (spec_l6Rd_pick.calls k g s0_0 s0_1 16 t211 t212 w0 _ ?side1 ?side2 A3.out).mono ?_);(case side1=>repeat (first|(with_reducible first|exact HI0.out|apply IsS68.alloc|apply IsS68.drewN|apply IsS68.drew|apply IsS68.set_1)|exact HI0.out));(case side2=>repeat (first|(with_reducible first|exact HB.out|apply zD|apply zB|apply zC|refine zF ?_ (IsS68.ge HI0.out))|exact HB.out));rintro e w20 ⟨rfl,hi,hb,hk⟩;refine ⟨_,rfl,?_⟩;have n0_:=zA (KeepBut.trans (by repeat (first|(with_reducible first|exact HK.out|apply KeepBut.set_|apply keep_drewN|apply keep_drew|apply keep_alloc)|exact HK.out)) hk (.inl rfl));have n1_:=zA (hb);have n2_:=zA (hi);clear HK;clear HB;clear HI0;have HK:=n0_;have HB:=n1_;have HI0:=n2_;clear n0_ n1_ n2_;(try clear hb);(try clear hb2);(try clear hk);(try clear hi))|((with_reducible refine gate_callee (f:=57) rfl ?_);refine goesL_ (some 21) rfl rfl Try.func57 (by kernel_rfl) rfl #[.pointer (some ⟨g,0,none⟩),.int .i64 a1] rfl (by (try simp only [zJ,zM,zN]);first|done|rfl|(simp only [zL,zK];rfl)) ?_;(with_reducible refine (spec_l6Rd_pick.calls k g s0_0 t212 a1 t221 t222 w0 _ ?side1 ?side2 A18.out).mono ?_);(case side1=>repeat (first|(with_reducible first|exact HI0.out|apply IsS68.alloc|apply IsS68.drewN|apply IsS68.drew|apply IsS68.set_1)|exact HI0.out));(case side2=>repeat (first|(with_reducible first|exact HB.out|apply zD|apply zB|apply zC|refine zF ?_ (IsS68.ge HI0.out))|exact HB.out));rintro e w21 ⟨rfl,hi,hb,hk⟩;refine ⟨_,rfl,?_⟩;have n0_:=zA (KeepBut.trans (by repeat (first|(with_reducible first|exact HK.out|apply KeepBut.set_|apply keep_drewN|apply keep_drew|apply keep_alloc)|exact HK.out)) hk (.inl rfl));have n1_:=zA (hb);have n2_:=zA (hi);clear HK;clear HB;clear HI0;have HK:=n0_;have HB:=n1_;have HI0:=n2_;clear n0_ n1_ n2_;(try clear hb);(try clear hb2);(try clear hk);(try clear hi))|((with_reducible refine gate_callee (f:=57) rfl ?_);refine goesL_ (some 24) rfl rfl Try.func57 (by kernel_rfl) rfl #[.pointer (some ⟨g,0,none⟩),.int .i64 3] rfl (by (try simp only [zJ,zM,zN]);first|done|rfl|(simp only [zL,zK];rfl)) ?_;(with_reducible refine (spec_l6Rd_pick.calls k g s0_0 t222 3 t223 t224 w0 _ ?side1 ?side2 A19.out).mono ?_);(case side1=>repeat (first|(with_reducible first|exact HI0.out|apply IsS68.alloc|apply IsS68.drewN|apply IsS68.drew|apply IsS68.set_1)|exact HI0.out));(case side2=>repeat (first|(with_reducible first|exact HB.out|apply zD|apply zB|apply zC|refine zF ?_ (IsS68.ge HI0.out))|exact HB.out));rintro e w22 ⟨rfl,hi,hb,hk⟩;refine ⟨_,rfl,?_⟩;have n0_:=zA (KeepBut.trans (by repeat (first|(with_reducible first|exact HK.out|apply KeepBut.set_|apply keep_drewN|apply keep_drew|apply keep_alloc)|exact HK.out)) hk (.inl rfl));have n1_:=zA (hb);have n2_:=zA (hi);clear HK;clear HB;clear HI0;have HK:=n0_;have HB:=n1_;have HI0:=n2_;clear n0_ n1_ n2_;(try clear hb);(try clear hb2);(try clear hk);(try clear hi)))
  go_ret2
  exact ⟨by first|rfl|(simp [errW_none,errW_some] <;> rfl)|(simp [*,errW_none,errW_some] <;> rfl),by repeat (first|(with_reducible first|exact HI0.out|apply IsS68.alloc|apply IsS68.drewN|apply IsS68.drew|apply IsS68.set_1)|exact HI0.out),by repeat (first|(with_reducible first|exact HB.out|apply zD|apply zB|apply zC|refine zF ?_ (IsS68.ge HI0.out))|exact HB.out),by repeat (first|(with_reducible first|exact HK.out|apply KeepBut.set_|apply keep_drewN|apply keep_drew|apply keep_alloc)|exact HK.out)⟩

/-! ### spec_l6Open: function 44 -/
def spec_l6Open.f (l0:List Int):Option (List Int × Int):=if (l0.length:Int) > 2000 then (if 2000≤(l0.length:Int) then (some (l0.take 2000,0)) else (none)) else (some (l0,0))
set_option maxHeartbeats 8000000 in
set_option maxRecDepth 100000 in
theorem spec_l6Open.calls (A0:Option Addr) (c0:Nat) (l0:List Int) (r1:List Int) (r2:Int) (w0 w:World) (hB:Below w0.heap.size w0 w) (hr0:Kd.C (Kd.int .u8) w0 A0 l0.length l0) (hc0:l0.length≤c0) (h:spec_l6Open.f l0 = some (r1,r2)) :
  Calls Try.prog 44 #[.slice A0 l0.length c0] w fun e w' => ∃ g_:Nat,e = .returned (.pointer (some ⟨g_,0,none⟩))∧IsS68 w0 w' g_ r1 r2∧Below w0.heap.size w0 w'∧Below w.heap.size w w':=by
 have hu68:=Try.underlying68
 have HR0:=zA hr0
 have HC0:=zA hc0
 clear hr0 hc0
 have HBW:=zA (Below.refl w.heap.size w)
 have HW0:=zA hB.size
 have HB:=zA hB
 clear hB
 have H:(if (l0.length:Int) > 2000 then (if 2000≤(l0.length:Int) then (some (l0.take 2000,0)) else (none)) else (some (l0,0))) = some (r1,r2):=h
 clear h
 by_cases c2:(l0.length:Int) > 2000
 ·rw [if_pos c2] at H
  have c2b0:decide (2000 < (l0.length:Int)) = true:=zO c2
  have c2b1:decide (2000 < l0.length) = true:=zO (by omega)
  clear c2
  by_cases c3:2000≤(l0.length:Int)
  ·rw [if_pos c3] at H
   have c3b0:=eq_true c3
   have c3b1:decide (2000≤(l0.length:Int)) = true:=zO c3
   clear c3
   simp only [Option.some.injEq,Prod.mk.injEq] at H
   obtain ⟨rfl,rfl⟩:=H
   obtain ⟨i04,hi04,_,hsz4,_⟩:=info_parts info5
   obtain ⟨hcut4,hA4,hC4⟩:=print_take_of (P:=Try.prog) (Value.int .u8) 0 22 5 .i64 Try.underlying22 hi04 hsz4 A0 c0 l0 2000 (by omega) (zE (by with_reducible assumption)) HC0.out
   have HR225:=zA (Kd.C_of_reads (h1:=fun _=>rfl) (hA4 _ (Kd.reads_of_C HR0.out)))
   have HC225:=zA hC4
   clear hA4 hC4 hi04 hsz4
   go_enter Try.func44,Try.ntmps44
   go_wp2_with (first|((with_reducible refine gate_dst (N:=10) rfl ?_);refine box_event ?hg (N:=10) ?hd (cs:=#[.slice A0 (l0.take 2000).length c0,.int .i64 0]) (t:=68) ?hr ?_;(case hd=>rfl);(case hg=>rfl);(case hr=>first|(go_simp;done)|(go_simp;rfl));intro gb226 hg w5 hbox hb;have n0_:=zA (zR HBW.out hb);have n1_:=zA (zR (by exact zB_ HB.out) hb);have n2_:=zA (hbox);have n3_:=zA ((by rw [hg];exact (zQ (by repeat (first|(with_reducible first|exact HBW.out|apply zD|apply zB|apply zC)|exact HBW.out))):w.heap.size≤gb226));have n4_:=zA ((Nat.le_trans HW0.out (by rw [hg];exact (zQ (by repeat (first|(with_reducible first|exact HBW.out|apply zD|apply zB|apply zC)|exact HBW.out))):w.heap.size≤gb226):w0.heap.size≤gb226));clear HBW;clear HB;have HBW:=n0_;have HB:=n1_;have BK226:=n2_;have GW226:=n3_;have GE226:=n4_;clear n0_ n1_ n2_ n3_ n4_;clear hb hbox hg))
   go_ret
   exact ⟨_,rfl,(show IsS68 w0 _ gb226 (l0.take 2000) 0 from ⟨_,_,by (with_reducible repeat (first|refine zG ?_ _|refine zI ?_|refine zH ?_ _));exact BK226.out,GE226.out,HR225.out⟩),by repeat (first|(with_reducible first|exact HB.out|apply zD|apply zB|apply zC|refine zF ?_ GE226.out)|exact HB.out),by repeat (first|(with_reducible first|exact HBW.out|apply zD|apply zB|apply zC|refine zF ?_ GW226.out)|exact HBW.out)⟩
  ·rw [if_neg c3] at H
   exact absurd H (by simp)
 ·rw [if_neg c2] at H
  have c2b0:decide (2000 < (l0.length:Int)) = false:=zP c2
  have c2b1:decide (2000 < l0.length) = false:=zP (by omega)
  clear c2
  simp only [Option.some.injEq,Prod.mk.injEq] at H
  obtain ⟨rfl,rfl⟩:=H
  go_enter Try.func44,Try.ntmps44
  go_wp2_with (first|((with_reducible refine gate_dst (N:=10) rfl ?_);refine box_event ?hg (N:=10) ?hd (cs:=#[.slice A0 l0.length c0,.int .i64 0]) (t:=68) ?hr ?_;(case hd=>rfl);(case hg=>rfl);(case hr=>first|(go_simp;done)|(go_simp;rfl));intro gb227 hg w6 hbox hb;have n0_:=zA (zR HBW.out hb);have n1_:=zA (zR (by exact zB_ HB.out) hb);have n2_:=zA (hbox);have n3_:=zA ((by rw [hg];exact (zQ (by repeat (first|(with_reducible first|exact HBW.out|apply zD|apply zB|apply zC)|exact HBW.out))):w.heap.size≤gb227));have n4_:=zA ((Nat.le_trans HW0.out (by rw [hg];exact (zQ (by repeat (first|(with_reducible first|exact HBW.out|apply zD|apply zB|apply zC)|exact HBW.out))):w.heap.size≤gb227):w0.heap.size≤gb227));clear HBW;clear HB;have HBW:=n0_;have HB:=n1_;have BK227:=n2_;have GW227:=n3_;have GE227:=n4_;clear n0_ n1_ n2_ n3_ n4_;clear hb hbox hg))
  go_ret
  exact ⟨_,rfl,(show IsS68 w0 _ gb227 l0 0 from ⟨_,_,by (with_reducible repeat (first|refine zG ?_ _|refine zI ?_|refine zH ?_ _));exact BK227.out,GE227.out,HR0.out⟩),by repeat (first|(with_reducible first|exact HB.out|apply zD|apply zB|apply zC|refine zF ?_ GE227.out)|exact HB.out),by repeat (first|(with_reducible first|exact HBW.out|apply zD|apply zB|apply zC|refine zF ?_ GW227.out)|exact HBW.out)⟩

/-! ### spec_DrawRootedList: function 17 -/
def spec_DrawRootedList.f (k:Nat) (l0:List Int):Option (Int × Int):=(spec_l6Open.f l0).bind fun bt228=>((spec_l91Edges.f k bt228.1 bt228.2 2).bind fun bt231=>(some (bt231.1,bt231.2.1)))
theorem spec_DrawRootedList.mono:∀ a0 k,LeO (spec_DrawRootedList.f k a0) (spec_DrawRootedList.f (k+1) a0):=by
 intro a0 k
 unfold spec_DrawRootedList.f
 repeat' first
   | (with_reducible exact spec_l91Edges.mono _ _ _ _)
   | (with_reducible exact LeO.refl _)
   | (with_reducible exact za _)
   | (with_reducible refine zc ?_ ?_)
   | (with_reducible refine zb ?_ (fun _=>?_))
set_option maxHeartbeats 8000000 in
set_option maxRecDepth 100000 in
theorem spec_DrawRootedList.calls (k:Nat) (A0:Option Addr) (c0:Nat) (l0:List Int) (r1:Int) (r2:Int) (w:World) (hr0:Kd.C (Kd.int .u8) w A0 l0.length l0) (hc0:l0.length≤c0) (h:spec_DrawRootedList.f k l0 = some (r1,r2)) :
  Calls Try.prog 17 #[.slice A0 l0.length c0] w fun e w'=>e = .returned (.tuple #[.int .i64 r1,.int .i64 r2])∧Below w.heap.size w w':=by
 have HR0:=zA hr0
 have HC0:=zA hc0
 clear hr0 hc0
 have HB:=zA (Below.refl w.heap.size w)
 have H:((spec_l6Open.f l0).bind fun bt228=>((spec_l91Edges.f k bt228.1 bt228.2 2).bind fun bt231=>(some (bt231.1,bt231.2.1)))) = some (r1,r2):=h
 clear h
 replace H:=zz0 H
 obtain ⟨⟨t228,t229⟩,A20,H⟩:=H
 try dsimp only at H
 have A2:=zA A20
 clear A20
 replace H:=zz0 H
 obtain ⟨⟨t231,t232,t233⟩,A30,H⟩:=H
 try dsimp only at H
 have A3:=zA A30
 clear A30
 simp only [Option.some.injEq,Prod.mk.injEq] at H
 obtain ⟨rfl,rfl⟩:=H
 go_enter Try.func17,Try.ntmps17
 go_wp2_with (first|((with_reducible refine gate_callee (f:=44) rfl ?_);refine goesL_ (some 5) rfl rfl Try.func44 (by kernel_rfl) rfl #[.slice A0 l0.length c0] rfl (by (try simp only [zJ,zM,zN]);first|done|rfl|(simp only [zL,zK];rfl)) ?_;(with_reducible refine (spec_l6Open.calls _ _ l0 t228 t229 w _ ?side1 ?side2 ?side3 A2.out).mono ?_);(case side1=>repeat (first|(with_reducible first|exact HB.out|apply zD|apply zB|apply zC)|exact HB.out));(case side2=>exact HR0.out);(case side3=>exact HC0.out);rintro e w4 ⟨g230,rfl,hi,hb,hb2⟩;refine ⟨_,rfl,?_⟩;have n0_:=zA (hb);have n1_:=zA (hi);clear HB;have HB:=n0_;have HI230:=n1_;clear n0_ n1_;(try clear hb);(try clear hb2);(try clear hk);(try clear hi))|((with_reducible refine gate_callee (f:=43) rfl ?_);refine goesL_ (some 6) rfl rfl Try.func43 (by kernel_rfl) rfl #[.pointer (some ⟨g230,0,none⟩),.int .i64 2] rfl (by (try simp only [zJ,zM,zN]);first|done|rfl|(simp only [zL,zK];rfl)) ?_;(with_reducible refine (spec_l91Edges.calls k g230 t228 t229 2 t231 t232 t233 w _ ?side1 ?side2 A3.out).mono ?_);(case side1=>repeat (first|(with_reducible first|exact HI230.out|apply IsS68.alloc|apply IsS68.drewN|apply IsS68.drew|apply IsS68.set_1)|exact HI230.out));(case side2=>repeat (first|(with_reducible first|exact HB.out|apply zD|apply zB|apply zC|refine zF ?_ (IsS68.ge HI230.out))|exact HB.out));rintro e w5 ⟨rfl,hi,hb,hk⟩;refine ⟨_,rfl,?_⟩;have n0_:=zA (hb);have n1_:=zA (hi);clear HB;clear HI230;have HB:=n0_;have HI230:=n1_;clear n0_ n1_;(try clear hb);(try clear hb2);(try clear hk);(try clear hi)))
 go_ret2
 exact ⟨by first|rfl|(simp [errW_none,errW_some] <;> rfl)|(simp [*,errW_none,errW_some] <;> rfl),by repeat (first|(with_reducible first|exact HB.out|apply zD|apply zB|apply zC|refine zF ?_ (IsS68.ge HI230.out))|exact HB.out)⟩

/-! ### impl_RootedList: function 18 -/
def impl_RootedList.f (a0:Int) (a1:Int):Option ((List (S33)) × Bool):=if a0 < 1 then (some (([]:List (S33)),false)) else (if a0 > 2 then (some (([]:List (S33)),false)) else (if a1 < 0 then (some (([]:List (S33)),false)) else ((impl_rooted.f a0 a1).bind fun t234=>(some (t234,true)))))
set_option maxHeartbeats 8000000 in
set_option maxRecDepth 100000 in
theorem impl_RootedList.calls (a0:Int) (a1:Int) (r1:List (S33)) (r2:Bool) (w:World) (h:impl_RootedList.f a0 a1 = some (r1,r2)) :
  Calls Try.prog 18 #[.int .i64 a0,.int .i64 a1] w fun e w' => ∃ v0_:Value,e = .returned (.tuple #[v0_,.bool r2])∧Kd.S k33 33 w' w.heap.size (fun _=>True) v0_ r1∧Below w.heap.size w w':=by
 have HB:=zA (Below.refl w.heap.size w)
 have H:(if a0 < 1 then (some (([]:List (S33)),false)) else (if a0 > 2 then (some (([]:List (S33)),false)) else (if a1 < 0 then (some (([]:List (S33)),false)) else ((impl_rooted.f a0 a1).bind fun t234=>(some (t234,true)))))) = some (r1,r2):=h
 clear h
 by_cases c3:a0 < 1
 ·rw [if_pos c3] at H
  have c3b0:decide (a0 < 1) = true:=zO c3
  clear c3
  simp only [Option.some.injEq,Prod.mk.injEq] at H
  obtain ⟨rfl,rfl⟩:=H
  go_enter Try.func18,Try.ntmps18
  go_wp2
  go_ret2
  exact ⟨_,by first|rfl|(simp [errW_none,errW_some] <;> rfl)|(simp [*,errW_none,errW_some] <;> rfl),by first|exact Kd.S_nil _ _ _ _ _|exact Kd.N_nil _ _ _ _ _|exact Kd.V_nil _ _ _ _ _|exact Kd.Q_nil _ _ _ _ _|exact Kd.R_nil _ _ _ _ _,by exact zB_ HB.out⟩
 ·rw [if_neg c3] at H
  have c3b0:decide (a0 < 1) = false:=zP c3
  clear c3
  by_cases c4:a0 > 2
  ·rw [if_pos c4] at H
   have c4b0:decide (2 < a0) = true:=zO c4
   clear c4
   simp only [Option.some.injEq,Prod.mk.injEq] at H
   obtain ⟨rfl,rfl⟩:=H
   go_enter Try.func18,Try.ntmps18
   go_wp2
   go_ret2
   exact ⟨_,by first|rfl|(simp [errW_none,errW_some] <;> rfl)|(simp [*,errW_none,errW_some] <;> rfl),by first|exact Kd.S_nil _ _ _ _ _|exact Kd.N_nil _ _ _ _ _|exact Kd.V_nil _ _ _ _ _|exact Kd.Q_nil _ _ _ _ _|exact Kd.R_nil _ _ _ _ _,by exact zB_ HB.out⟩
  ·rw [if_neg c4] at H
   have c4b0:decide (2 < a0) = false:=zP c4
   clear c4
   by_cases c5:a1 < 0
   ·rw [if_pos c5] at H
    have c5b0:decide (a1 < 0) = true:=zO c5
    clear c5
    simp only [Option.some.injEq,Prod.mk.injEq] at H
    obtain ⟨rfl,rfl⟩:=H
    go_enter Try.func18,Try.ntmps18
    go_wp2
    go_ret2
    exact ⟨_,by first|rfl|(simp [errW_none,errW_some] <;> rfl)|(simp [*,errW_none,errW_some] <;> rfl),by first|exact Kd.S_nil _ _ _ _ _|exact Kd.N_nil _ _ _ _ _|exact Kd.V_nil _ _ _ _ _|exact Kd.Q_nil _ _ _ _ _|exact Kd.R_nil _ _ _ _ _,by exact zB_ HB.out⟩
   ·rw [if_neg c5] at H
    have c5b0:decide (a1 < 0) = false:=zP c5
    clear c5
    replace H:=zz0 H
    obtain ⟨t234,A60,H⟩:=H
    try dsimp only at H
    have A6:=zA A60
    clear A60
    simp only [Option.some.injEq,Prod.mk.injEq] at H
    obtain ⟨rfl,rfl⟩:=H
    go_enter Try.func18,Try.ntmps18
    go_wp2_with (first|((with_reducible refine gate_callee (f:=42) rfl ?_);refine goesL_ (some 18) rfl rfl Try.func42 (by kernel_rfl) rfl #[.int .i64 a0,.int .i64 a1] rfl (by (try simp only [zJ,zM,zN]);first|done|rfl|(simp only [zL,zK];rfl)) ?_;(with_reducible refine (impl_rooted.calls a0 a1 t234 _ A6.out).mono ?_);rintro e w7 ⟨v235,rfl,ho0,hb⟩;refine ⟨_,rfl,?_⟩;have n0_:=zA (Kd.S_lower ho0 (zQ (by exact zB_ HB.out)));have n1_:=zA (zR (by exact zB_ HB.out) hb);clear HB;have HO236:=n0_;have HB:=n1_;clear n0_ n1_;(try clear hb);(try clear hb2);(try clear hk);(try clear hi);(try clear ho0)))
    go_ret2
    exact ⟨_,by first|rfl|(simp [errW_none,errW_some] <;> rfl)|(simp [*,errW_none,errW_some] <;> rfl),by (with_reducible repeat (first|apply Kd.S_alloc|apply Kd.S_drewN|apply Kd.S_drew));exact HO236.out,by exact zB_ HB.out⟩

/-! ### spec_l6In: function 40 -/
def spec_l6In.f (a0:Int) (a1:Int) (a2:Int):Option (Bool):=if a0 ≥ a1 then (some (decide (a0≤a2))) else (some false)
set_option maxHeartbeats 8000000 in
set_option maxRecDepth 100000 in
theorem spec_l6In.calls (a0:Int) (a1:Int) (a2:Int) (r:Bool) (w:World) (h:spec_l6In.f a0 a1 a2 = some r) :
  Calls Try.prog 40 #[.int .i64 a0,.int .i64 a1,.int .i64 a2] w fun e w'=>e = .returned (.bool r)∧Drawn0 w w':=by
 have H:(if a0 ≥ a1 then (some (decide (a0≤a2))) else (some false)) = some r:=h
 clear h
 by_cases c4:a0 ≥ a1
 ·rw [if_pos c4] at H
  have c4b0:decide (a1≤a0) = true:=zO c4
  clear c4
  obtain rfl:=zS H
  go_enter Try.func40,Try.ntmps40
  go_wp2
  go_ret
  exact ⟨by first|rfl|(simp;done)|(simp [*];done),by repeat (first|exact Drawn0.refl _|apply Drawn0.step)⟩
 ·rw [if_neg c4] at H
  have c4b0:decide (a1≤a0) = false:=zP c4
  clear c4
  obtain rfl:=zS H
  go_enter Try.func40,Try.ntmps40
  go_wp2
  go_ret
  exact ⟨by first|rfl|(simp;done)|(simp [*];done),by repeat (first|exact Drawn0.refl _|apply Drawn0.step)⟩

/-! ### spec_l2Order: function 98 -/
def spec_l2Order.l0:Nat→List Int→List Int→Int→Option (Int)
 | 0,_,_,_=>none
 | k+1,x0,x1,x5=>if x5 < (x0.length:Int) then (if 0≤x5 then (if x5 < (x1.length:Int) then (if (rd x0 x5) < (rd x1 x5) then (some (-1)) else (if (rd x0 x5) > (rd x1 x5) then (some 1) else (spec_l2Order.l0 k x0 x1 (wrap64 (x5+1))))) else (none)) else (none)) else (some 0)
def spec_l2Order.f (k:Nat) (l0:List Int) (l1:List Int):Option (Int):=spec_l2Order.l0 k l0 l1 0
theorem spec_l2Order.mono_l:∀ k,(∀ y0 y1 y2,LeO (spec_l2Order.l0 k y0 y1 y2) (spec_l2Order.l0 (k+1) y0 y1 y2))
 | 0=>fun _ _ _ r h=>by simp [spec_l2Order.l0] at h
 | k+1=>by
  have ih0:=spec_l2Order.mono_l k
  ·intro y0 y1 y2
   unfold spec_l2Order.l0
   repeat' first
   | (with_reducible exact ih0 _ _ _)
   | (with_reducible exact LeO.refl _)
   | (with_reducible exact za _)
   | (with_reducible refine zc ?_ ?_)
   | (with_reducible refine zb ?_ (fun _=>?_))
theorem spec_l2Order.mono:∀ a0 a1 k,LeO (spec_l2Order.f k a0 a1) (spec_l2Order.f (k+1) a0 a1):=by
 intro a0 a1 k
 have ih0:=spec_l2Order.mono_l k
 unfold spec_l2Order.f
 repeat' first
   | (with_reducible exact ih0 _ _ _)
   | (with_reducible exact LeO.refl _)
   | (with_reducible exact za _)
   | (with_reducible refine zc ?_ ?_)
   | (with_reducible refine zb ?_ (fun _=>?_))
set_option maxHeartbeats 8000000 in
set_option maxRecDepth 100000 in
theorem spec_l2Order.calls (k:Nat) (A0:Option Addr) (c0:Nat) (l0:List Int) (A1:Option Addr) (c1:Nat) (l1:List Int) (r:Int) (w:World) (hr0:Kd.C (Kd.int .i64) w A0 l0.length l0) (hc0:l0.length≤c0) (hr1:Kd.C (Kd.int .i64) w A1 l1.length l1) (hc1:l1.length≤c1) (h:spec_l2Order.f k l0 l1 = some r) :
  Calls Try.prog 98 #[.slice A0 l0.length c0,.slice A1 l1.length c1] w fun e w'=>e = .returned (.int .i64 r)∧Drawn0 w w':=by
 have HR0:=zA hr0
 have HC0:=zA hc0
 clear hr0 hc0
 have HR1:=zA hr1
 have HC1:=zA hc1
 clear hr1 hc1
 have H:(spec_l2Order.l0 k l0 l1 0) = some r:=h
 clear h
 have H':=zA H
 clear H
 go_enter Try.func98,Try.ntmps98
 go_wp2
 repeat (go_quiet (fail);try go_wp2)
 go_loopg [5] k (fun kq v5 w' => ∃ (x5_1:Int),v5 = .int .i64 x5_1∧Aside0 (spec_l2Order.l0 kq l0 l1 x5_1 = some r)∧Aside0 (kq≤k)∧Drawn0 w w')
 case atStart=>exact ⟨(0),(by first|rfl|(simp;done)|(simp [*];done)),H',⟨Nat.le_refl _⟩,by repeat (first|exact Drawn0.refl _|apply Drawn0.step)⟩
 case round =>
  clear H'
  (try clear c1);(try clear p2)
  obtain ⟨x5_1,rfl,HA,HK1,⟨m1,rfl⟩⟩:=hrel
  cases gk with
  | zero=>exact absurd HA.out (by simp [spec_l2Order.l0])
  | succ k1 =>
   have H:=HA.out
   clear HA
   simp only [spec_l2Order.l0] at H
   by_cases c3:x5_1 < (l0.length:Int)
   ·rw [if_pos c3] at H
    have c3b0:decide (x5_1 < (l0.length:Int)) = true:=zO c3
    clear c3
    by_cases c4:0≤x5_1
    ·rw [if_pos c4] at H
     have c4b0:decide (0≤x5_1) = true:=zO c4
     clear c4
     by_cases c5:x5_1 < (l1.length:Int)
     ·rw [if_pos c5] at H
      have c5b0:decide (x5_1 < (l1.length:Int)) = true:=zO c5
      clear c5
      by_cases c6:(rd l0 x5_1) < (rd l1 x5_1)
      ·rw [if_pos c6] at H
       have c6b0:decide ((rd l0 x5_1) < (rd l1 x5_1)) = true:=zO c6
       clear c6
       obtain rfl:=zS H
       have p237:0≤(x5_1:Int):=zE (by with_reducible assumption)
       have q237:x5_1 < (l0.length:Int):=zE (by with_reducible assumption)
       obtain ⟨ad237,e237,hx237_0⟩:=Kd.at_int HR0.out x5_1 p237 q237
       cases e237
       replace p237:=eq_true p237
       replace q237:=eq_true q237
       have p238:0≤(x5_1:Int):=zE (by with_reducible assumption)
       have q238:x5_1 < (l1.length:Int):=zE (by with_reducible assumption)
       obtain ⟨ad238,e238,hx238_0⟩:=Kd.at_int HR1.out x5_1 p238 q238
       cases e238
       replace p238:=eq_true p238
       replace q238:=eq_true q238
       go_wp2
       repeat (go_quiet (fail);try go_wp2)
       go_ret
       exact ⟨by first|rfl|(simp;done)|(simp [*];done),by repeat (first|exact Drawn0.refl _|apply Drawn0.step)⟩
      ·rw [if_neg c6] at H
       have c6b0:decide ((rd l0 x5_1) < (rd l1 x5_1)) = false:=zP c6
       clear c6
       by_cases c7:(rd l0 x5_1) > (rd l1 x5_1)
       ·rw [if_pos c7] at H
        have c7b0:decide ((rd l1 x5_1) < (rd l0 x5_1)) = true:=zO c7
        clear c7
        obtain rfl:=zS H
        have p237:0≤(x5_1:Int):=zE (by with_reducible assumption)
        have q237:x5_1 < (l0.length:Int):=zE (by with_reducible assumption)
        obtain ⟨ad237,e237,hx237_0⟩:=Kd.at_int HR0.out x5_1 p237 q237
        cases e237
        replace p237:=eq_true p237
        replace q237:=eq_true q237
        have p238:0≤(x5_1:Int):=zE (by with_reducible assumption)
        have q238:x5_1 < (l1.length:Int):=zE (by with_reducible assumption)
        obtain ⟨ad238,e238,hx238_0⟩:=Kd.at_int HR1.out x5_1 p238 q238
        cases e238
        replace p238:=eq_true p238
        replace q238:=eq_true q238
        have p239:0≤(x5_1:Int):=zE (by with_reducible assumption)
        have q239:x5_1 < (l0.length:Int):=zE (by with_reducible assumption)
        obtain ⟨ad239,e239,hx239_0⟩:=Kd.at_int HR0.out x5_1 p239 q239
        obtain rfl:ad237 = ad239:=(by injection e239)
        replace p239:=eq_true p239
        replace q239:=eq_true q239
        have p240:0≤(x5_1:Int):=zE (by with_reducible assumption)
        have q240:x5_1 < (l1.length:Int):=zE (by with_reducible assumption)
        obtain ⟨ad240,e240,hx240_0⟩:=Kd.at_int HR1.out x5_1 p240 q240
        obtain rfl:ad238 = ad240:=(by injection e240)
        replace p240:=eq_true p240
        replace q240:=eq_true q240
        go_wp2
        repeat (go_quiet (fail);try go_wp2)
        go_ret
        exact ⟨by first|rfl|(simp;done)|(simp [*];done),by repeat (first|exact Drawn0.refl _|apply Drawn0.step)⟩
       ·rw [if_neg c7] at H
        have c7b0:decide ((rd l1 x5_1) < (rd l0 x5_1)) = false:=zP c7
        clear c7
        have H':=zA H
        clear H
        have p237:0≤(x5_1:Int):=zE (by with_reducible assumption)
        have q237:x5_1 < (l0.length:Int):=zE (by with_reducible assumption)
        obtain ⟨ad237,e237,hx237_0⟩:=Kd.at_int HR0.out x5_1 p237 q237
        cases e237
        replace p237:=eq_true p237
        replace q237:=eq_true q237
        have p238:0≤(x5_1:Int):=zE (by with_reducible assumption)
        have q238:x5_1 < (l1.length:Int):=zE (by with_reducible assumption)
        obtain ⟨ad238,e238,hx238_0⟩:=Kd.at_int HR1.out x5_1 p238 q238
        cases e238
        replace p238:=eq_true p238
        replace q238:=eq_true q238
        have p239:0≤(x5_1:Int):=zE (by with_reducible assumption)
        have q239:x5_1 < (l0.length:Int):=zE (by with_reducible assumption)
        obtain ⟨ad239,e239,hx239_0⟩:=Kd.at_int HR0.out x5_1 p239 q239
        obtain rfl:ad237 = ad239:=(by injection e239)
        replace p239:=eq_true p239
        replace q239:=eq_true q239
        have p240:0≤(x5_1:Int):=zE (by with_reducible assumption)
        have q240:x5_1 < (l1.length:Int):=zE (by with_reducible assumption)
        obtain ⟨ad240,e240,hx240_0⟩:=Kd.at_int HR1.out x5_1 p240 q240
        obtain rfl:ad238 = ad240:=(by injection e240)
        replace p240:=eq_true p240
        replace q240:=eq_true q240
        go_wp2
        repeat (go_quiet (fail);try go_wp2)
        go_roundg k1
        case measure=>have:=HK1.out;omega
        case rel=>exact ⟨(wrap64 (x5_1+1)),(by first|rfl|(simp;done)|(simp [*];done)),H',⟨by have:=HK1.out;omega⟩,by repeat (first|exact Drawn0.refl _|apply Drawn0.step)⟩
     ·rw [if_neg c5] at H
      exact absurd H (by simp)
    ·rw [if_neg c4] at H
     exact absurd H (by simp)
   ·rw [if_neg c3] at H
    have c3b0:decide (x5_1 < (l0.length:Int)) = false:=zP c3
    clear c3
    obtain rfl:=zS H
    go_wp2
    repeat (go_quiet (fail);try go_wp2)
    go_ret
    exact ⟨by first|rfl|(simp;done)|(simp [*];done),by repeat (first|exact Drawn0.refl _|apply Drawn0.step)⟩

/-! ### spec_l2Before: function 83 -/
def spec_l2Before.f (k:Nat) (l0_0:List Int) (l0_1:List Int) (l1_0:List Int) (l1_1:List Int):Option (Int):=(spec_l2Order.f k l0_0 l1_0).bind fun t243=>(if t243 = 0 then ((spec_l2Order.f k l0_1 l1_1).bind fun t244=>(some t244)) else (some t243))
theorem spec_l2Before.mono:∀ a0 a1 a2 a3 k,LeO (spec_l2Before.f k a0 a1 a2 a3) (spec_l2Before.f (k+1) a0 a1 a2 a3):=by
 intro a0 a1 a2 a3 k
 unfold spec_l2Before.f
 repeat' first
   | (with_reducible exact spec_l2Order.mono _ _ _)
   | (with_reducible exact LeO.refl _)
   | (with_reducible exact za _)
   | (with_reducible refine zc ?_ ?_)
   | (with_reducible refine zb ?_ (fun _=>?_))
set_option maxHeartbeats 8000000 in
set_option maxRecDepth 100000 in
theorem spec_l2Before.calls (k:Nat) (A0_0:Option Addr) (c0_0:Nat) (l0_0:List Int) (A0_1:Option Addr) (c0_1:Nat) (l0_1:List Int) (A1_0:Option Addr) (c1_0:Nat) (l1_0:List Int) (A1_1:Option Addr) (c1_1:Nat) (l1_1:List Int) (r:Int) (w:World) (hr0_0:Kd.C (Kd.int .i64) w A0_0 l0_0.length l0_0) (hc0_0:l0_0.length≤c0_0) (hr0_1:Kd.C (Kd.int .i64) w A0_1 l0_1.length l0_1) (hc0_1:l0_1.length≤c0_1) (hr1_0:Kd.C (Kd.int .i64) w A1_0 l1_0.length l1_0) (hc1_0:l1_0.length≤c1_0) (hr1_1:Kd.C (Kd.int .i64) w A1_1 l1_1.length l1_1) (hc1_1:l1_1.length≤c1_1) (h:spec_l2Before.f k l0_0 l0_1 l1_0 l1_1 = some r) :
  Calls Try.prog 83 #[.agg #[.slice A0_0 l0_0.length c0_0,.slice A0_1 l0_1.length c0_1],.agg #[.slice A1_0 l1_0.length c1_0,.slice A1_1 l1_1.length c1_1]] w fun e w'=>e = .returned (.int .i64 r)∧Below w.heap.size w w':=by
 have hu33:=Try.underlying33
 have HR0_0:=zA hr0_0
 have HC0_0:=zA hc0_0
 clear hr0_0 hc0_0
 have HR0_1:=zA hr0_1
 have HC0_1:=zA hc0_1
 clear hr0_1 hc0_1
 have HR1_0:=zA hr1_0
 have HC1_0:=zA hc1_0
 clear hr1_0 hc1_0
 have HR1_1:=zA hr1_1
 have HC1_1:=zA hc1_1
 clear hr1_1 hc1_1
 have HB:=zA (Below.refl w.heap.size w)
 have H:((spec_l2Order.f k l0_0 l1_0).bind fun t243=>(if t243 = 0 then ((spec_l2Order.f k l0_1 l1_1).bind fun t244=>(some t244)) else (some t243))) = some r:=h
 clear h
 replace H:=zz0 H
 obtain ⟨t243,A30,H⟩:=H
 try dsimp only at H
 have A3:=zA A30
 clear A30
 by_cases c4:t243 = 0
 ·rw [if_pos c4] at H
  have c4b0:(t243 == 0) = true:=beq_iff_eq.mpr c4
  have c4b1:(t243 != 0) = false:=bne_eq_false_iff_eq.mpr c4
  clear c4
  replace H:=zz0 H
  obtain ⟨t244,A50,H⟩:=H
  try dsimp only at H
  have A5:=zA A50
  clear A50
  obtain rfl:=zS H
  go_enter Try.func83,Try.ntmps83
  go_wp2_with (first|((with_reducible refine gate_dst (N:=2) rfl ?_);refine box_event ?hg (N:=2) ?hd (cs:=#[.slice A0_0 l0_0.length c0_0,.slice A0_1 l0_1.length c0_1]) (t:=33) ?hr ?_;(case hd=>rfl);(case hg=>rfl);(case hr=>first|(go_simp;done)|(go_simp;rfl));intro gb241 hg w6 hbox hb;have n0_:=zA (zR (by exact zB_ HB.out) hb);have n1_:=zA (hbox);have n2_:=zA ((by rw [hg];exact (zQ (by exact zB_ HB.out)):w.heap.size≤gb241));have n3_:=zA ((by rw [hg];exact (zQ (by exact zB_ HB.out)):w.heap.size≤gb241));clear HB;have HB:=n0_;have BK241:=n1_;have GW241:=n2_;have GE241:=n3_;clear n0_ n1_ n2_ n3_;clear hb hbox hg)|((with_reducible refine gate_dst (N:=3) rfl ?_);refine box_event ?hg (N:=3) ?hd (cs:=#[.slice A1_0 l1_0.length c1_0,.slice A1_1 l1_1.length c1_1]) (t:=33) ?hr ?_;(case hd=>rfl);(case hg=>rfl);(case hr=>first|(go_simp;done)|(go_simp;rfl));intro gb242 hg w7 hbox hb;have n0_:=zA (zX (g:=gb241) (o:=.cells #[.slice A0_0 l0_0.length c0_0,.slice A0_1 l0_1.length c0_1] 33 (0,0)) (by (with_reducible repeat (first|refine zG ?_ _|refine zI ?_|refine zH ?_ _));exact BK241.out) hb);have n1_:=zA (zR (by repeat (first|(with_reducible first|exact HB.out|apply zD|apply zB|apply zC|refine zF ?_ GE241.out)|exact HB.out)) hb);have n2_:=zA (hbox);have n3_:=zA ((by rw [hg];exact (zQ (by repeat (first|(with_reducible first|exact HB.out|apply zD|apply zB|apply zC|refine zF ?_ GE241.out)|exact HB.out))):w.heap.size≤gb242));have n4_:=zA ((by rw [hg];exact (zQ (by repeat (first|(with_reducible first|exact HB.out|apply zD|apply zB|apply zC|refine zF ?_ GE241.out)|exact HB.out))):w.heap.size≤gb242));have n5_:=zA ((by rw [hg];exact Nat.ne_of_lt (blk_lt (g:=gb241) (o:=.cells #[.slice A0_0 l0_0.length c0_0,.slice A0_1 l0_1.length c0_1] 33 (0,0)) (by (with_reducible repeat (first|refine zG ?_ _|refine zI ?_|refine zH ?_ _));exact BK241.out)):gb241≠gb242));have n6_:=zA ((by rw [hg];exact Nat.ne_of_gt (blk_lt (g:=gb241) (o:=.cells #[.slice A0_0 l0_0.length c0_0,.slice A0_1 l0_1.length c0_1] 33 (0,0)) (by (with_reducible repeat (first|refine zG ?_ _|refine zI ?_|refine zH ?_ _));exact BK241.out)):gb242≠gb241));clear BK241;clear HB;have BK241:=n0_;have HB:=n1_;have BK242:=n2_;have GW242:=n3_;have GE242:=n4_;have NB241_242:=n5_;have NB242_241:=n6_;clear n0_ n1_ n2_ n3_ n4_ n5_ n6_;clear hb hbox hg;have hnb8:=NB241_242.out;have hnc8:=NB242_241.out;have hcz9_0:w7.cell? ⟨gb241,0,none⟩ = some (.slice A0_0 l0_0.length c0_0):=(zT BK241.out 0).trans rfl;have hcz9_1:w7.cell? ⟨gb241,1,none⟩ = some (.slice A0_1 l0_1.length c0_1):=(zT BK241.out 1).trans rfl;have hfz9_0:=zZ BK241.out 0;have hfz9_1:=zZ BK241.out 1;have hcz10_0:w7.cell? ⟨gb242,0,none⟩ = some (.slice A1_0 l1_0.length c1_0):=(zT BK242.out 0).trans rfl;have hcz10_1:w7.cell? ⟨gb242,1,none⟩ = some (.slice A1_1 l1_1.length c1_1):=(zT BK242.out 1).trans rfl;have hfz10_0:=zZ BK242.out 0;have hfz10_1:=zZ BK242.out 1)|((with_reducible refine gate_callee (f:=98) rfl ?_);refine goesL_ (some 10) rfl rfl Try.func98 (by kernel_rfl) rfl #[.slice A0_0 l0_0.length c0_0,.slice A1_0 l1_0.length c1_0] rfl (by (try simp only [zJ,zM,zN]);first|done|rfl|(simp only [zL,zK];rfl)) ?_;(with_reducible refine (spec_l2Order.calls k _ _ l0_0 _ _ l1_0 t243 _ ?side1 ?side2 ?side3 ?side4 A3.out).mono ?_);(case side1=>repeat (first|exact (zW HR0_0.out HB.out)|(with_reducible exact HR0_0.out)|apply zC_));(case side2=>exact HC0_0.out);(case side3=>repeat (first|exact (zW HR1_0.out HB.out)|(with_reducible exact HR1_0.out)|apply zC_));(case side4=>exact HC1_0.out);rintro e w' ⟨rfl,⟨nd,rfl⟩⟩;refine ⟨_,rfl,?_⟩)|((with_reducible refine gate_callee (f:=98) rfl ?_);refine goesL_ (some 18) rfl rfl Try.func98 (by kernel_rfl) rfl #[.slice A0_1 l0_1.length c0_1,.slice A1_1 l1_1.length c1_1] rfl (by (try simp only [zJ,zM,zN]);first|done|rfl|(simp only [zL,zK];rfl)) ?_;(with_reducible refine (spec_l2Order.calls k _ _ l0_1 _ _ l1_1 t244 _ ?side1 ?side2 ?side3 ?side4 A5.out).mono ?_);(case side1=>repeat (first|exact (zW HR0_1.out (by repeat (first|(with_reducible first|exact HB.out|apply zD|apply zB|apply zC|refine zF ?_ GE241.out|refine zF ?_ GE242.out)|exact HB.out)))|apply zC_));(case side2=>exact HC0_1.out);(case side3=>repeat (first|exact (zW HR1_1.out (by repeat (first|(with_reducible first|exact HB.out|apply zD|apply zB|apply zC|refine zF ?_ GE241.out|refine zF ?_ GE242.out)|exact HB.out)))|apply zC_));(case side4=>exact HC1_1.out);rintro e w' ⟨rfl,⟨nd,rfl⟩⟩;refine ⟨_,rfl,?_⟩))
  go_ret
  exact ⟨by first|rfl|(simp [errW_none,errW_some] <;> rfl)|(simp [*,errW_none,errW_some] <;> rfl),by repeat (first|(with_reducible first|exact HB.out|apply zD|apply zB|apply zC|refine zF ?_ GE241.out|refine zF ?_ GE242.out)|exact HB.out)⟩
 ·rw [if_neg c4] at H
  have c4b0:(t243 == 0) = false:=beq_eq_false_iff_ne.mpr c4
  have c4b1:(t243 != 0) = true:=bne_iff_ne.mpr c4
  obtain rfl:=zS H
  go_enter Try.func83,Try.ntmps83
  go_wp2_with (first|((with_reducible refine gate_dst (N:=2) rfl ?_);refine box_event ?hg (N:=2) ?hd (cs:=#[.slice A0_0 l0_0.length c0_0,.slice A0_1 l0_1.length c0_1]) (t:=33) ?hr ?_;(case hd=>rfl);(case hg=>rfl);(case hr=>first|(go_simp;done)|(go_simp;rfl));intro gb241 hg w11 hbox hb;have n0_:=zA (zR (by exact zB_ HB.out) hb);have n1_:=zA (hbox);have n2_:=zA ((by rw [hg];exact (zQ (by exact zB_ HB.out)):w.heap.size≤gb241));have n3_:=zA ((by rw [hg];exact (zQ (by exact zB_ HB.out)):w.heap.size≤gb241));clear HB;have HB:=n0_;have BK241:=n1_;have GW241:=n2_;have GE241:=n3_;clear n0_ n1_ n2_ n3_;clear hb hbox hg)|((with_reducible refine gate_dst (N:=3) rfl ?_);refine box_event ?hg (N:=3) ?hd (cs:=#[.slice A1_0 l1_0.length c1_0,.slice A1_1 l1_1.length c1_1]) (t:=33) ?hr ?_;(case hd=>rfl);(case hg=>rfl);(case hr=>first|(go_simp;done)|(go_simp;rfl));intro gb242 hg w12 hbox hb;have n0_:=zA (zX (g:=gb241) (o:=.cells #[.slice A0_0 l0_0.length c0_0,.slice A0_1 l0_1.length c0_1] 33 (0,0)) (by (with_reducible repeat (first|refine zG ?_ _|refine zI ?_|refine zH ?_ _));exact BK241.out) hb);have n1_:=zA (zR (by repeat (first|(with_reducible first|exact HB.out|apply zD|apply zB|apply zC|refine zF ?_ GE241.out)|exact HB.out)) hb);have n2_:=zA (hbox);have n3_:=zA ((by rw [hg];exact (zQ (by repeat (first|(with_reducible first|exact HB.out|apply zD|apply zB|apply zC|refine zF ?_ GE241.out)|exact HB.out))):w.heap.size≤gb242));have n4_:=zA ((by rw [hg];exact (zQ (by repeat (first|(with_reducible first|exact HB.out|apply zD|apply zB|apply zC|refine zF ?_ GE241.out)|exact HB.out))):w.heap.size≤gb242));have n5_:=zA ((by rw [hg];exact Nat.ne_of_lt (blk_lt (g:=gb241) (o:=.cells #[.slice A0_0 l0_0.length c0_0,.slice A0_1 l0_1.length c0_1] 33 (0,0)) (by (with_reducible repeat (first|refine zG ?_ _|refine zI ?_|refine zH ?_ _));exact BK241.out)):gb241≠gb242));have n6_:=zA ((by rw [hg];exact Nat.ne_of_gt (blk_lt (g:=gb241) (o:=.cells #[.slice A0_0 l0_0.length c0_0,.slice A0_1 l0_1.length c0_1] 33 (0,0)) (by (with_reducible repeat (first|refine zG ?_ _|refine zI ?_|refine zH ?_ _));exact BK241.out)):gb242≠gb241));clear BK241;clear HB;have BK241:=n0_;have HB:=n1_;have BK242:=n2_;have GW242:=n3_;have GE242:=n4_;have NB241_242:=n5_;have NB242_241:=n6_;clear n0_ n1_ n2_ n3_ n4_ n5_ n6_;clear hb hbox hg;have hnb13:=NB241_242.out;have hnc13:=NB242_241.out;have hcz14_0:w12.cell? ⟨gb241,0,none⟩ = some (.slice A0_0 l0_0.length c0_0):=(zT BK241.out 0).trans rfl;have hcz14_1:w12.cell? ⟨gb241,1,none⟩ = some (.slice A0_1 l0_1.length c0_1):=(zT BK241.out 1).trans rfl;have hfz14_0:=zZ BK241.out 0;have hfz14_1:=zZ BK241.out 1;have hcz15_0:w12.cell? ⟨gb242,0,none⟩ = some (.slice A1_0 l1_0.length c1_0):=(zT BK242.out 0).trans rfl;have hcz15_1:w12.cell? ⟨gb242,1,none⟩ = some (.slice A1_1 l1_1.length c1_1):=(zT BK242.out 1).trans rfl;have hfz15_0:=zZ BK242.out 0;have hfz15_1:=zZ BK242.out 1)|((with_reducible refine gate_callee (f:=98) rfl ?_);refine goesL_ (some 10) rfl rfl Try.func98 (by kernel_rfl) rfl #[.slice A0_0 l0_0.length c0_0,.slice A1_0 l1_0.length c1_0] rfl (by (try simp only [zJ,zM,zN]);first|done|rfl|(simp only [zL,zK];rfl)) ?_;(with_reducible refine (spec_l2Order.calls k _ _ l0_0 _ _ l1_0 t243 _ ?side1 ?side2 ?side3 ?side4 A3.out).mono ?_);(case side1=>repeat (first|exact (zW HR0_0.out HB.out)|(with_reducible exact HR0_0.out)|apply zC_));(case side2=>exact HC0_0.out);(case side3=>repeat (first|exact (zW HR1_0.out HB.out)|(with_reducible exact HR1_0.out)|apply zC_));(case side4=>exact HC1_0.out);rintro e w' ⟨rfl,⟨nd,rfl⟩⟩;refine ⟨_,rfl,?_⟩))
  go_ret
  exact ⟨by first|rfl|(simp [errW_none,errW_some] <;> rfl)|(simp [*,errW_none,errW_some] <;> rfl),by repeat (first|(with_reducible first|exact HB.out|apply zD|apply zB|apply zC|refine zF ?_ GE241.out|refine zF ?_ GE242.out)|exact HB.out)⟩

end Go.Proofs.Ytdaiohcgdpclnaa.Q
