import Derived.Test.YtonlecigglbohaaQ0
import Derived.Test.YtonlecigglbohaaQ4
import Derived.Test.YtonlecigglbohaaQ5
import Derived.Test.YtonlecigglbohaaZ
namespace Go.Proofs.Ytonlecigglbohaa.Q
open Go.RowKit Go.Proofs.YtonlecigglbohaaW.PrintWords Go.Proofs.YtonlecigglbohaaW.PrintLast Go.Proofs.YtonlecigglbohaaW.PrintMore
attribute [local go_sem] max2_int min2_int max_two min_two max_three min_three max_four min_four   -- for this text's walks alone
set_option linter.unusedVariables false
set_option linter.unusedSimpArgs false

/-! ### impl_leastForm: function 114 (a section of my own) -/
def impl_leastForm.l0:Nat→Int→Int→List Int→List Int→List Int→List Int→Option (List Int × List Int)
 | 0,_,_,_,_,_,_=>none
 | k+1,x12,x13,x393000,x393001,x404000,x404001=>if x13 < x12 then ((impl_namesFrom.f k x393000 x393001 x13).bind fun t404=>((impl_renamed.f k x393000 x393001 t404).bind fun bt407=>((impl_compareMaps.f k bt407.1 bt407.2 x404000 x404001).bind fun t414=>(if t414 < 0 then (impl_leastForm.l0 k x12 (wrap64 (x13+1)) x393000 x393001 bt407.1 bt407.2) else (impl_leastForm.l0 k x12 (wrap64 (x13+1)) x393000 x393001 x404000 x404001))))) else (some (x404000,x404001))
def impl_leastForm.f (k:Nat) (l0_0:List Int) (l0_1:List Int):Option (List Int × List Int):=(impl_namesFrom.f k l0_0 l0_1 0).bind fun t394=>((impl_renamed.f k l0_0 l0_1 t394).bind fun bt397=>(impl_leastForm.l0 k (l0_0.length:Int) 0 l0_0 l0_1 bt397.1 bt397.2))
theorem impl_leastForm.mono_l:∀ k,(∀ y0 y1 y2 y3 y4 y5,LeO (impl_leastForm.l0 k y0 y1 y2 y3 y4 y5) (impl_leastForm.l0 (k+1) y0 y1 y2 y3 y4 y5))
 | 0=>fun _ _ _ _ _ _ r h=>by simp [impl_leastForm.l0] at h
 | k+1=>by
  have ih0:=impl_leastForm.mono_l k
  ·intro y0 y1 y2 y3 y4 y5
   unfold impl_leastForm.l0
   repeat' first
   | (with_reducible exact ih0 _ _ _ _ _ _)
   | (with_reducible exact impl_compareMaps.mono _ _ _ _ _)
   | (with_reducible exact impl_namesFrom.mono _ _ _ _)
   | (with_reducible exact impl_renamed.mono _ _ _ _)
   | (with_reducible exact LeO.refl _)
   | (with_reducible exact za _)
   | (with_reducible refine zc ?_ ?_)
   | (with_reducible refine zb ?_ (fun _=>?_))
theorem impl_leastForm.mono:∀ a0 a1 k,LeO (impl_leastForm.f k a0 a1) (impl_leastForm.f (k+1) a0 a1):=by
 intro a0 a1 k
 have ih0:=impl_leastForm.mono_l k
 unfold impl_leastForm.f
 repeat' first
   | (with_reducible exact ih0 _ _ _ _ _ _)
   | (with_reducible exact impl_compareMaps.mono _ _ _ _ _)
   | (with_reducible exact impl_namesFrom.mono _ _ _ _)
   | (with_reducible exact impl_renamed.mono _ _ _ _)
   | (with_reducible exact LeO.refl _)
   | (with_reducible exact za _)
   | (with_reducible refine zc ?_ ?_)
   | (with_reducible refine zb ?_ (fun _=>?_))

/-- the map that came in (block g1) and the place of the result (block g2) -/
def impl_leastForm.St (w W:World) (g1 g2:Nat) (a b:Value):Prop:=w.heap.size≤g1∧w.heap.size≤g2∧g1≠g2∧W.heap[g1]? = some (.cells #[a,b] 27 (0,0))∧W.heap[g2]? = some (.cells #[.slice none 0 0,.slice none 0 0] 27 (0,0))∧Below w.heap.size w W
/-- a form in a block of its own -/
def impl_leastForm.Bx (w W:World) (g:Nat) (v0 v1:Value) (x0 x1:List Int):Prop:=w.heap.size≤g∧W.heap[g]? = some (.cells #[v0,v1] 27 (0,0))∧Kd.R (Kd.int .i64) 3 W w.heap.size (fun k=>some k≠v1.ownBlock) v0 x0∧Kd.R (Kd.int .i64) 3 W w.heap.size (fun k=>some k≠v0.ownBlock) v1 x1
/-- made since -/
def impl_leastForm.Nx (w W:World) (g:Nat) (x0 x1:List Int):Prop := ∃ (A0 A1:Option Addr) (c0 c1:Nat),impl_leastForm.Bx w W g (.slice A0 x0.length c0) (.slice A1 x1.length c1) x0 x1∧Below w.heap.size w W
theorem impl_leastForm.setR {W:World} {base g:Nat} {ok:Nat→Prop} {v p q:Value} {cs:Array Value} {x:List Int} (h:Kd.R (Kd.int .i64) 3 W base ok v x) (hg:W.heap[g]? = some (.cells cs 27 (0,0))):Kd.R (Kd.int .i64) 3 ((W.setCell ⟨g,0,none⟩ p).setCell ⟨g,1,none⟩ q) base ok v x :=
 zV (Kd.R_far (p:=⟨g,1,none⟩) (Kd.R_far (p:=⟨g,0,none⟩) (Kd.R_types h hg (by decide)) (fun _ hk=>hk.2) p) (fun _ hk=>hk.2) q) (fun _ hk=>hk.1)
theorem impl_leastForm.setB {W:World} {g:Nat} {p q p' q':Value} (hg:W.heap[g]? = some (.cells #[p',q'] 27 (0,0))):((W.setCell ⟨g,0,none⟩ p).setCell ⟨g,1,none⟩ q).heap[g]? = some (.cells #[p,q] 27 (0,0)) :=
 blk_put (cs:=#[p,q']) (blk_put (cs:=#[p',q']) hg 0 p rfl) 1 q rfl
theorem impl_leastForm.farB {W:World} {g g':Nat} {p q:Value} {cs:Array Value} (hg:W.heap[g']? = some (.cells cs 27 (0,0))) (hne:g'≠g):((W.setCell ⟨g,0,none⟩ p).setCell ⟨g,1,none⟩ q).heap[g']? = some (.cells cs 27 (0,0)) :=
 blk_far (blk_far hg hne p) hne q
theorem impl_leastForm.St.below {w W W':World} {g1 g2:Nat} {a b:Value} (h:impl_leastForm.St w W g1 g2 a b) (hb:Below W.heap.size W W'):impl_leastForm.St w W' g1 g2 a b:=⟨h.1,h.2.1,h.2.2.1,zX h.2.2.2.1 hb,zX h.2.2.2.2.1 hb,zR h.2.2.2.2.2 hb⟩
theorem impl_leastForm.Bx.below {w W W':World} {g:Nat} {v0 v1:Value} {x0 x1:List Int} (h:impl_leastForm.Bx w W g v0 v1 x0 x1) (hb:Below W.heap.size W W'):impl_leastForm.Bx w W' g v0 v1 x0 x1:=⟨h.1,zX h.2.1 hb,Kd.R_below h.2.2.1 hb,Kd.R_below h.2.2.2 hb⟩
theorem impl_leastForm.Nx.new {w W:World} {A0 A1:Option Addr} {c0 c1:Nat} {x0 x1:List Int} (hb:Below w.heap.size w W) (h0:Kd.R (Kd.int .i64) 3 W w.heap.size (fun k=>some k≠(Value.slice A1 x1.length c1).ownBlock) (.slice A0 x0.length c0) x0) (h1:Kd.R (Kd.int .i64) 3 W w.heap.size (fun k=>some k≠(Value.slice A0 x0.length c0).ownBlock) (.slice A1 x1.length c1) x1):impl_leastForm.Nx w (W.alloc (.cells #[.slice A0 x0.length c0,.slice A1 x1.length c1] 27 (0,0))) W.heap.size x0 x1 :=
 ⟨A0,A1,c0,c1,⟨hb.size,blk_new W _,Kd.R_alloc h0 _,Kd.R_alloc h1 _⟩,zD hb _⟩
theorem impl_leastForm.Nx.set {w W:World} {g:Nat} {A0 A1:Option Addr} {c0 c1:Nat} {x0 x1:List Int} {p q:Value} (hb:Below w.heap.size w W) (hg:w.heap.size≤g) (hB:W.heap[g]? = some (.cells #[p,q] 27 (0,0))) (h0:Kd.R (Kd.int .i64) 3 W w.heap.size (fun k=>some k≠(Value.slice A1 x1.length c1).ownBlock) (.slice A0 x0.length c0) x0) (h1:Kd.R (Kd.int .i64) 3 W w.heap.size (fun k=>some k≠(Value.slice A0 x0.length c0).ownBlock) (.slice A1 x1.length c1) x1):impl_leastForm.Nx w ((W.setCell ⟨g,0,none⟩ (.slice A0 x0.length c0)).setCell ⟨g,1,none⟩ (.slice A1 x1.length c1)) g x0 x1 :=
 ⟨A0,A1,c0,c1,⟨hg,impl_leastForm.setB hB,impl_leastForm.setR h0 hB,impl_leastForm.setR h1 hB⟩,zF (zF hb hg) hg⟩
theorem impl_leastForm.Bx.lift {w wc W:World} {g g1 g2:Nat} {a b v0 v1:Value} {x0 x1:List Int} (hs:impl_leastForm.St w wc g1 g2 a b) (h:impl_leastForm.Bx wc W g v0 v1 x0 x1):impl_leastForm.Bx w W g v0 v1 x0 x1∧g≠g1∧g≠g2:=by
 have h1:=blk_lt hs.2.2.2.1
 have h2:=blk_lt hs.2.2.2.2.1
 have hz:=hs.2.2.2.2.2.size
 have hg:=h.1
 exact ⟨⟨Nat.le_trans hz hg,h.2.1,ze h.2.2.1 hz,ze h.2.2.2 hz⟩,by omega,by omega⟩
theorem impl_leastForm.Bx.ne {w wc W:World} {g g':Nat} {v0 v1 u0 u1:Value} {x0 x1 y0 y1:List Int} (hs:impl_leastForm.Bx w wc g v0 v1 x0 x1) (h:impl_leastForm.Bx wc W g' u0 u1 y0 y1):g'≠g:=by
 have h1:=blk_lt hs.2.1
 have hg:=h.1
 omega
theorem impl_leastForm.St.put {w W:World} {g g1 g2:Nat} {a b p q:Value} (h:impl_leastForm.St w W g1 g2 a b) (hg:w.heap.size≤g) (h1:g≠g1) (h2:g≠g2):impl_leastForm.St w ((W.setCell ⟨g,0,none⟩ p).setCell ⟨g,1,none⟩ q) g1 g2 a b:=⟨h.1,h.2.1,h.2.2.1,impl_leastForm.farB h.2.2.2.1 h1.symm,impl_leastForm.farB h.2.2.2.2.1 h2.symm,zF (zF h.2.2.2.2.2 hg) hg⟩
/-- the content of one block laid into another -/
theorem impl_leastForm.Bx.over {w W:World} {g g':Nat} {v0 v1 u0 u1:Value} {x0 x1 y0 y1:List Int} (hs:impl_leastForm.Bx w W g v0 v1 x0 x1) (h:impl_leastForm.Bx w W g' u0 u1 y0 y1):impl_leastForm.Bx w ((W.setCell ⟨g,0,none⟩ u0).setCell ⟨g,1,none⟩ u1) g u0 u1 y0 y1:=⟨hs.1,impl_leastForm.setB hs.2.1,impl_leastForm.setR h.2.2.1 hs.2.1,impl_leastForm.setR h.2.2.2 hs.2.1⟩
set_option maxHeartbeats 8000000 in
set_option maxRecDepth 100000 in
theorem impl_leastForm.calls (k:Nat) (A0_0:Option Addr) (c0_0:Nat) (l0_0:List Int) (A0_1:Option Addr) (c0_1:Nat) (l0_1:List Int) (r1:List Int) (r2:List Int) (w:World) (hr0_0:Kd.C (Kd.int .i64) w A0_0 l0_0.length l0_0) (hc0_0:l0_0.length≤c0_0) (hr0_1:Kd.C (Kd.int .i64) w A0_1 l0_1.length l0_1) (hc0_1:l0_1.length≤c0_1) (h:impl_leastForm.f k l0_0 l0_1 = some (r1,r2)) :
  Calls Try.prog 114 #[.agg #[.slice A0_0 l0_0.length c0_0,.slice A0_1 l0_1.length c0_1]] w fun e w' => ∃ v0_ v1_:Value,e = .returned (.agg #[v0_,v1_])∧Kd.R (Kd.int .i64) 3 w' w.heap.size (fun k_=>some k_≠(v1_:Value).ownBlock) v0_ r1∧Kd.R (Kd.int .i64) 3 w' w.heap.size (fun k_=>some k_≠(v0_:Value).ownBlock) v1_ r2∧Below w.heap.size w w':=by
 have HR0:=zA hr0_0
 have HC0:=zA hc0_0
 have HR1:=zA hr0_1
 have HC1:=zA hc0_1
 unfold impl_leastForm.f at h
 obtain ⟨t272,h2,h⟩:=zz0 h
 obtain ⟨⟨b0,b1⟩,h3,h⟩:=zz0 h
 have H2:=zA h2
 have H3:=zA h3
 have H4:=zA (show impl_leastForm.l0 k (l0_0.length:Int) 0 l0_0 l0_1 b0 b1 = some (r1,r2) from h)
 clear hr0_0 hc0_0 hr0_1 hc0_1 h2 h3 h
 go_enter Try.func114,Try.ntmps114
 go_upto_region 0 with (fail)
 go_cut [1,2] (fun v1 v2 wc => ∃ g1 g2:Nat,v1 = .pointer (some ⟨g1,0,none⟩)∧v2 = .pointer (some ⟨g2,0,none⟩)∧Aside0 (impl_leastForm.St w wc g1 g2 (.slice A0_0 l0_0.length c0_0) (.slice A0_1 l0_1.length c0_1)))
 case first =>
  go_wp2
  go_meet
  case rel=>exact ⟨w.heap.size,w.heap.size+1,rfl,rfl,⟨Nat.le_refl _,Nat.le_succ _,by omega,zH (blk_new w _) _,by have:=blk_new (w.alloc (.cells #[.slice A0_0 l0_0.length c0_0,.slice A0_1 l0_1.length c0_1] 27 (0,0))) (.cells #[.slice none 0 0,.slice none 0 0] 27 (0,0));simpa using this,zD (zD (Below.refl _ _) _) _⟩⟩
 case rest =>
  obtain ⟨g1,g2,rfl,rfl,HS⟩:=hcut
  have hm0:=(zT HS.out.2.2.2.1 0).trans rfl
  have hm1:=(zT HS.out.2.2.2.1 1).trans rfl
  have hn:∀ W,Below wc.heap.size wc W→W.cell? ⟨g1,0,none⟩ = some (.slice A0_0 l0_0.length c0_0)∧W.cell? ⟨g1,1,none⟩ = some (.slice A0_1 l0_1.length c0_1):=fun W hb=>⟨(zT (zX HS.out.2.2.2.1 hb) 0).trans rfl,(zT (zX HS.out.2.2.2.1 hb) 1).trans rfl⟩
  have HN:=zA hn
  clear hn
  go_upto_region 1 with (fail)
  go_cut [3] (fun v3 wd => ∃ g:Nat,v3 = .pointer (some ⟨g,0,none⟩)∧Aside0 (impl_leastForm.Nx wc wd g b0 b1))
  case first =>
   go_region_held3 (fun w'=>w'.cell? ⟨g1,0,none⟩ = some (.slice A0_0 l0_0.length c0_0)∧w'.cell? ⟨g1,1,none⟩ = some (.slice A0_1 l0_1.length c0_1)) (first|exact HN.out _ (by repeat (first|exact HB6.out|exact HB5.out|exact Below.refl _ _|apply zD|apply zC|apply zB|refine zF ?_ HG.out))) (first|(go_at_call 118;refine (impl_namesFrom.calls k A0_0 c0_0 l0_0 A0_1 c0_1 l0_1 0 t272 _ ?s1 HC0.out ?s2 HC1.out H2.out).mono ?_;(case s1=>exact zW HR0.out (zR HS.out.2.2.2.2.2 (by repeat (first|exact HB6.out|exact HB5.out|exact Below.refl _ _|apply zD|apply zC|apply zB))));(case s2=>exact zW HR1.out (zR HS.out.2.2.2.2.2 (by repeat (first|exact HB6.out|exact HB5.out|exact Below.refl _ _|apply zD|apply zC|apply zB))));rintro e w5 ⟨v5,rfl,ho,hb⟩;obtain ⟨A5,c5,rfl⟩:=zg ho;have HO5:=zA (zU ho).2;have HB5:=zA (zR (w:=wc) (by repeat (first|exact HB6.out|exact HB5.out|exact Below.refl _ _|apply zD|apply zC|apply zB)) hb);(first|(have HXB:=zA (zX (show (World.drew (World.alloc wc _)).heap[wc.heap.size]? = some (.cells #[.slice none 0 0,.slice none 0 0] 27 (0,0)) from blk_new wc _) hb))|skip);clear ho hb)|(go_at_call 117;refine (impl_renamed.calls k A0_0 c0_0 l0_0 A0_1 c0_1 l0_1 A5 c5 t272 b0 b1 _ ?s1 HC0.out ?s2 HC1.out ?s3 HO5.out.1 H3.out).mono ?_;(case s1=>exact zW HR0.out (zR HS.out.2.2.2.2.2 (by repeat (first|exact HB6.out|exact HB5.out|exact Below.refl _ _|apply zD|apply zC|apply zB))));(case s2=>exact zW HR1.out (zR HS.out.2.2.2.2.2 (by repeat (first|exact HB6.out|exact HB5.out|exact Below.refl _ _|apply zD|apply zC|apply zB))));(case s3=>first|exact HO5.out.2|exact Kd.C_alloc HO5.out.2 _);rintro e w6 ⟨v60,v61,rfl,hq,hr,hb⟩;obtain ⟨A60,c60,rfl⟩:=zg hq;obtain ⟨A61,c61,rfl⟩:=zg hr;have HR60:=zA (ze hq (Below.size (B:=wc.heap.size) (w:=wc) (by repeat (first|exact HB6.out|exact HB5.out|exact Below.refl _ _|apply zD|apply zC|apply zB))));have HR61:=zA (ze hr (Below.size (B:=wc.heap.size) (w:=wc) (by repeat (first|exact HB6.out|exact HB5.out|exact Below.refl _ _|apply zD|apply zC|apply zB))));have HB6:=zA (zR (w:=wc) (by repeat (first|exact HB6.out|exact HB5.out|exact Below.refl _ _|apply zD|apply zC|apply zB)) hb);(first|(have HY:=zA (zX HXB.out hb);have HG:=zA (Nat.le_refl wc.heap.size))|(have HY:=zA (zX (blk_new w5 _) hb);have HG:=zA HB5.out.size)|skip);(first|(have hc0:=(zT HY.out 0).trans rfl;have hc1:=(zT HY.out 1).trans rfl;have hf0:=zZ HY.out 0;have hf1:=zZ HY.out 1)|skip);clear hq hr hb))
   all_goals go_wp2
   all_goals go_meet
   all_goals (first|exact ⟨_,rfl,⟨impl_leastForm.Nx.new HB6.out HR60.out HR61.out⟩⟩|exact ⟨_,rfl,⟨impl_leastForm.Nx.set HB6.out HG.out HY.out HR60.out HR61.out⟩⟩)
  case rest =>
   obtain ⟨g3,rfl,HX⟩:=hcut
   obtain ⟨A0,A1,c0,c1,hx,hb⟩:=HX.out
   have HS1:=zA (HS.out.below hb)
   have HX1:=zA (impl_leastForm.Bx.lift HS.out hx)
   clear HX HS hx hb hm0 hm1 HN
   have hm0:wc.cell? ⟨g1,0,none⟩ = some (.slice A0_0 l0_0.length c0_0):=(zT HS1.out.2.2.2.1 0).trans rfl
   have hm1:wc.cell? ⟨g1,1,none⟩ = some (.slice A0_1 l0_1.length c0_1):=(zT HS1.out.2.2.2.1 1).trans rfl
   go_wp2
   go_loopg [13] k (fun kq v13 wr => ∃ (i:Int) (x0 x1:List Int) (A0 A1:Option Addr) (c0 c1:Nat),v13 = .int .i64 i∧Aside0 (impl_leastForm.l0 kq (l0_0.length:Int) i l0_0 l0_1 x0 x1 = some (r1,r2))∧Aside0 (impl_leastForm.St w wr g1 g2 (.slice A0_0 l0_0.length c0_0) (.slice A0_1 l0_1.length c0_1))∧Aside0 (impl_leastForm.Bx w wr g3 (.slice A0 x0.length c0) (.slice A1 x1.length c1) x0 x1∧g3≠g1∧g3≠g2))
   case atStart=>exact ⟨0,b0,b1,A0,A1,c0,c1,rfl,H4,HS1,HX1⟩
   case round =>
    clear HS1 HX1 H4 hm0 hm1
    obtain ⟨i,x0,x1,A0,A1,c0,c1,rfl,HE,HS,HX⟩:=hrel
    cases gk with
    | zero=>have:=HE.out;simp [impl_leastForm.l0] at this
    | succ d =>
     have h:=HE.out
     simp only [impl_leastForm.l0] at h
     clear HE
     by_cases c:i < (l0_0.length:Int)
     ·rw [if_pos c] at h
      have cb:decide (i < (l0_0.length:Int)) = true:=zO c
      obtain ⟨t282,h2,h⟩:=zz0 h
      obtain ⟨⟨y0,y1⟩,h3,h⟩:=zz0 h
      obtain ⟨t292,h5,h⟩:=zz0 h
      simp only at h h5
      have H2:=zA h2
      have H3:=zA h3
      have H5:=zA h5
      have HE:=zA h
      clear h2 h3 h5 h c
      have hm0:wr.cell? ⟨g1,0,none⟩ = some (.slice A0_0 l0_0.length c0_0):=(zT HS.out.2.2.2.1 0).trans rfl
      have hm1:wr.cell? ⟨g1,1,none⟩ = some (.slice A0_1 l0_1.length c0_1):=(zT HS.out.2.2.2.1 1).trans rfl
      have hn:∀ W,Below wr.heap.size wr W→W.cell? ⟨g1,0,none⟩ = some (.slice A0_0 l0_0.length c0_0)∧W.cell? ⟨g1,1,none⟩ = some (.slice A0_1 l0_1.length c0_1):=fun W hb=>⟨(zT (zX HS.out.2.2.2.1 hb) 0).trans rfl,(zT (zX HS.out.2.2.2.1 hb) 1).trans rfl⟩
      have HN:=zA hn
      clear hn
      go_upto_region 5 with (fail)
      go_cut [5] (fun v5 wd => ∃ g:Nat,v5 = .pointer (some ⟨g,0,none⟩)∧Aside0 (impl_leastForm.Nx wr wd g y0 y1))
      case first =>
       go_region_held3 (fun w'=>w'.cell? ⟨g1,0,none⟩ = some (.slice A0_0 l0_0.length c0_0)∧w'.cell? ⟨g1,1,none⟩ = some (.slice A0_1 l0_1.length c0_1)) (first|exact HN.out _ (by repeat (first|exact HB6.out|exact HB5.out|exact Below.refl _ _|apply zD|apply zC|apply zB|refine zF ?_ HG.out))) (first|(go_at_call 118;refine (impl_namesFrom.calls d A0_0 c0_0 l0_0 A0_1 c0_1 l0_1 i t282 _ ?s1 HC0.out ?s2 HC1.out H2.out).mono ?_;(case s1=>exact zW HR0.out (zR HS.out.2.2.2.2.2 (by repeat (first|exact HB6.out|exact HB5.out|exact Below.refl _ _|apply zD|apply zC|apply zB))));(case s2=>exact zW HR1.out (zR HS.out.2.2.2.2.2 (by repeat (first|exact HB6.out|exact HB5.out|exact Below.refl _ _|apply zD|apply zC|apply zB))));rintro e w5 ⟨v5,rfl,ho,hb⟩;obtain ⟨A5,c5,rfl⟩:=zg ho;have HO5:=zA (zU ho).2;have HB5:=zA (zR (w:=wr) (by repeat (first|exact HB6.out|exact HB5.out|exact Below.refl _ _|apply zD|apply zC|apply zB)) hb);(first|(have HXB:=zA (zX (show (World.drew (World.alloc wr _)).heap[wr.heap.size]? = some (.cells #[.slice none 0 0,.slice none 0 0] 27 (0,0)) from blk_new wr _) hb))|skip);clear ho hb)|(go_at_call 117;refine (impl_renamed.calls d A0_0 c0_0 l0_0 A0_1 c0_1 l0_1 A5 c5 t282 y0 y1 _ ?s1 HC0.out ?s2 HC1.out ?s3 HO5.out.1 H3.out).mono ?_;(case s1=>exact zW HR0.out (zR HS.out.2.2.2.2.2 (by repeat (first|exact HB6.out|exact HB5.out|exact Below.refl _ _|apply zD|apply zC|apply zB))));(case s2=>exact zW HR1.out (zR HS.out.2.2.2.2.2 (by repeat (first|exact HB6.out|exact HB5.out|exact Below.refl _ _|apply zD|apply zC|apply zB))));(case s3=>first|exact HO5.out.2|exact Kd.C_alloc HO5.out.2 _);rintro e w6 ⟨v60,v61,rfl,hq,hr,hb⟩;obtain ⟨A60,c60,rfl⟩:=zg hq;obtain ⟨A61,c61,rfl⟩:=zg hr;have HR60:=zA (ze hq (Below.size (B:=wr.heap.size) (w:=wr) (by repeat (first|exact HB6.out|exact HB5.out|exact Below.refl _ _|apply zD|apply zC|apply zB))));have HR61:=zA (ze hr (Below.size (B:=wr.heap.size) (w:=wr) (by repeat (first|exact HB6.out|exact HB5.out|exact Below.refl _ _|apply zD|apply zC|apply zB))));have HB6:=zA (zR (w:=wr) (by repeat (first|exact HB6.out|exact HB5.out|exact Below.refl _ _|apply zD|apply zC|apply zB)) hb);(first|(have HY:=zA (zX HXB.out hb);have HG:=zA (Nat.le_refl wr.heap.size))|(have HY:=zA (zX (blk_new w5 _) hb);have HG:=zA HB5.out.size)|skip);(first|(have hc0:=(zT HY.out 0).trans rfl;have hc1:=(zT HY.out 1).trans rfl;have hf0:=zZ HY.out 0;have hf1:=zZ HY.out 1)|skip);clear hq hr hb))
       all_goals go_wp2
       all_goals go_meet
       all_goals (first|exact ⟨_,rfl,⟨impl_leastForm.Nx.new HB6.out HR60.out HR61.out⟩⟩|exact ⟨_,rfl,⟨impl_leastForm.Nx.set HB6.out HG.out HY.out HR60.out HR61.out⟩⟩)
      case rest =>
       obtain ⟨g5,rfl,HY⟩:=hcut
       obtain ⟨B0,B1,m0,m1,hy,hb⟩:=HY.out
       have HS1:=zA (HS.out.below hb)
       have HX1:=zA (And.intro (HX.out.1.below hb) HX.out.2)
       have HY1:=zA (impl_leastForm.Bx.lift HS.out hy)
       have HN5:=zA (impl_leastForm.Bx.ne HX.out.1 hy)
       clear HX HS HY hy hb hm0 hm1 HN H2 H3
       have e50:wc.cell? ⟨g5,0,none⟩ = some (.slice B0 y0.length m0):=(zT HY1.out.1.2.1 0).trans rfl
       have e51:wc.cell? ⟨g5,1,none⟩ = some (.slice B1 y1.length m1):=(zT HY1.out.1.2.1 1).trans rfl
       have e30:wc.cell? ⟨g3,0,none⟩ = some (.slice A0 x0.length c0):=(zT HX1.out.1.2.1 0).trans rfl
       have e31:wc.cell? ⟨g3,1,none⟩ = some (.slice A1 x1.length c1):=(zT HX1.out.1.2.1 1).trans rfl
       have HC:=zA (And.intro (And.intro (zU HY1.out.1.2.2.1).2 (zU HY1.out.1.2.2.2).2) (And.intro (zU HX1.out.1.2.2.1).2 (zU HX1.out.1.2.2.2).2))
       by_cases ct:t292 < 0
       ·have h:=HE.out
        rw [if_pos ct] at h
        have HE2:=zA h
        have ctb:decide (t292 < 0) = true:=zO ct
        clear HE h ct
        go_upto_region 7 with (go_at_call 113;refine (impl_compareMaps.calls d B0 m0 y0 B1 m1 y1 A0 c0 x0 A1 c1 x1 t292 wc HC.out.1.1.2 HC.out.1.1.1 HC.out.1.2.2 HC.out.1.2.1 HC.out.2.1.2 HC.out.2.1.1 HC.out.2.2.2 HC.out.2.2.1 H5.out).mono ?_;rintro e w7 ⟨rfl,hb⟩;have HS2:=zA (HS1.out.below hb);have HX2:=zA (HX1.out.1.below hb);have HY2:=zA (HY1.out.1.below hb);clear hb)
        clear e50 e51 e30 e31
        have e50:w7.cell? ⟨g5,0,none⟩ = some (.slice B0 y0.length m0):=(zT HY2.out.2.1 0).trans rfl
        have e51:w7.cell? ⟨g5,1,none⟩ = some (.slice B1 y1.length m1):=(zT HY2.out.2.1 1).trans rfl
        have e30:w7.cell? ⟨g3,0,none⟩ = some (.slice A0 x0.length c0):=(zT HX2.out.2.1 0).trans rfl
        have e31:w7.cell? ⟨g3,1,none⟩ = some (.slice A1 x1.length c1):=(zT HX2.out.2.1 1).trans rfl
        have f30:=zZ HX2.out.2.1 0
        have f31:=zZ HX2.out.2.1 1
        go_wp2
        go_roundg d
        case measure=>omega
        case rel=>exact ⟨wrap64 (i+1),y0,y1,B0,B1,m0,m1,rfl,HE2,⟨HS2.out.put HX2.out.1 HX1.out.2.1 HX1.out.2.2⟩,⟨HX2.out.over HY2.out,HX1.out.2⟩⟩
       ·have h:=HE.out
        rw [if_neg ct] at h
        have HE2:=zA h
        have ctb:decide (t292 < 0) = false:=zP ct
        clear HE h ct
        go_wp2_with (go_at_call 113;refine (impl_compareMaps.calls d B0 m0 y0 B1 m1 y1 A0 c0 x0 A1 c1 x1 t292 wc HC.out.1.1.2 HC.out.1.1.1 HC.out.1.2.2 HC.out.1.2.1 HC.out.2.1.2 HC.out.2.1.1 HC.out.2.2.2 HC.out.2.2.1 H5.out).mono ?_;rintro e w7 ⟨rfl,hb⟩;have HS2:=zA (HS1.out.below hb);have HX2:=zA (HX1.out.1.below hb);clear hb)
        go_roundg d
        case measure=>omega
        case rel=>exact ⟨wrap64 (i+1),x0,x1,A0,A1,c0,c1,rfl,HE2,HS2,⟨HX2.out,HX1.out.2⟩⟩
     ·rw [if_neg c] at h
      have cb:decide (i < (l0_0.length:Int)) = false:=zP c
      simp only [Option.some.injEq,Prod.mk.injEq] at h
      obtain ⟨rfl,rfl⟩:=h
      clear c
      have e30:wr.cell? ⟨g3,0,none⟩ = some (.slice A0 x0.length c0):=(zT HX.out.1.2.1 0).trans rfl
      have e31:wr.cell? ⟨g3,1,none⟩ = some (.slice A1 x1.length c1):=(zT HX.out.1.2.1 1).trans rfl
      have e20:wr.cell? ⟨g2,0,none⟩ = some (.slice none 0 0):=(zT HS.out.2.2.2.2.1 0).trans rfl
      have e21:wr.cell? ⟨g2,1,none⟩ = some (.slice none 0 0):=(zT HS.out.2.2.2.2.1 1).trans rfl
      have f20:=zZ HS.out.2.2.2.2.1 0
      have f21:=zZ HS.out.2.2.2.2.1 1
      have hne:=HX.out.2.2
      have hne':=HX.out.2.2.symm
      go_wp2
      refine bodyPost_ret (results_cell_row rfl _ _ g2 27 #[.slice A0 x0.length c0,.slice A1 x1.length c1] (0,0) _ rfl (impl_leastForm.setB HS.out.2.2.2.2.1) Try.underlying27 rfl (by kernel_rfl)) rfl ?_
      exact ⟨_,_,rfl,impl_leastForm.setR HX.out.1.2.2.1 HS.out.2.2.2.2.1,impl_leastForm.setR HX.out.1.2.2.2 HS.out.2.2.2.2.1,zF (zF HS.out.2.2.2.2.2 HS.out.2.1) HS.out.2.1⟩

end Go.Proofs.Ytonlecigglbohaa.Q
