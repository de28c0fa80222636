import Derived.Test.YtdaiohcgdpclnaaQ0
import Derived.Test.YtdaiohcgdpclnaaZ
namespace Go.Proofs.Ytdaiohcgdpclnaa.Q
open Go.RowKit Go.Proofs.YtdaiohcgdpclnaaW.PrintWords Go.Proofs.YtdaiohcgdpclnaaW.PrintLast Go.Proofs.YtdaiohcgdpclnaaW.PrintMore
attribute [local go_sem] max2_int min2_int max_two min_two max_three min_three max_four min_four   -- for this text's walks alone
set_option linter.unusedVariables false
set_option linter.unusedSimpArgs false

/-! ### spec_l3Flip: function 73 -/
def spec_l3Flip.l0:Nat→Int→List Int→Int→Option (List Int)
 | 0,_,_,_=>none
 | k+1,x0,x3,x4=>if x4 < x0 then ((some (([wrap64 ((wrap64 (2 * x4))+1),wrap64 (2 * x4)]:List Int):List Int)).bind fun y342=>(if x3.length+y342.length < 17592186044416 then (spec_l3Flip.l0 k x0 (x3 ++ y342) (wrap64 (x4+1))) else (none))) else (some x3)
def spec_l3Flip.f (k:Nat) (a0:Int):Option (List Int):=spec_l3Flip.l0 k a0 (([]:List Int)) 0
theorem spec_l3Flip.mono_l:∀ k,(∀ y0 y1 y2,LeO (spec_l3Flip.l0 k y0 y1 y2) (spec_l3Flip.l0 (k+1) y0 y1 y2))
 | 0=>fun _ _ _ r h=>by simp [spec_l3Flip.l0] at h
 | k+1=>by
  have ih0:=spec_l3Flip.mono_l k
  ·intro y0 y1 y2
   unfold spec_l3Flip.l0
   repeat' first
   | (with_reducible exact ih0 _ _ _)
   | (with_reducible exact LeO.refl _)
   | (with_reducible exact zm _)
   | (with_reducible refine zo ?_ ?_)
   | (with_reducible refine zn ?_ (fun _=>?_))
   | exact ih0 _ _ _
   | exact zm _
   | refine zo ?_ ?_
   | refine zn ?_ (fun _=>?_)
theorem spec_l3Flip.mono:∀ a0 k,LeO (spec_l3Flip.f k a0) (spec_l3Flip.f (k+1) a0):=by
 intro a0 k
 have ih0:=spec_l3Flip.mono_l k
 unfold spec_l3Flip.f
 repeat' first
   | (with_reducible exact ih0 _ _ _)
   | (with_reducible exact LeO.refl _)
   | (with_reducible exact zm _)
   | (with_reducible refine zo ?_ ?_)
   | (with_reducible refine zn ?_ (fun _=>?_))
   | exact ih0 _ _ _
   | exact zm _
   | refine zo ?_ ?_
   | refine zn ?_ (fun _=>?_)
set_option maxHeartbeats 8000000 in
set_option maxRecDepth 100000 in
theorem spec_l3Flip.calls (k:Nat) (a0:Int) (r:List Int) (w:World) (h:spec_l3Flip.f k a0 = some r) :
  Calls Try.prog 73 #[.int .i64 a0] w fun e w' => ∃ v0_:Value,e = .returned (v0_)∧Kd.R (Kd.int .i64) 3 w' w.heap.size (fun _=>True) v0_ r∧Below w.heap.size w w':=by
 have HB:=zA (Below.refl w.heap.size w)
 have H:(spec_l3Flip.l0 k a0 (([]:List Int)) 0) = some r:=h
 clear h
 obtain ⟨y339,hy339⟩:∃ y_:List Int,y_ = (([]:List Int)):=⟨_,rfl⟩
 replace H:(spec_l3Flip.l0 k a0 y339 0) = some r:=by first|(rw [hy339];with_reducible exact H)|(have H2_:=(Option.bind_some _ _).symm.trans H;rw [hy339];with_reducible exact H2_)|(have H2_:=(Option.bind_some _ _).symm.trans H;with_reducible exact H2_)|with_reducible exact H|(rw [hy339];exact H)|exact H
 have Ny339:=zA hy339
 clear hy339
 have H':=zA H
 clear H
 go_enter Try.func73,Try.ntmps73
 go_wp2_with (first|((with_reducible refine gate_dst (N:=5) rfl ?_);refine Kd.R_lit (Kd.int .i64) _ 3 ?hg (N:=5) ?hd (xs:=([]:List Int)) (inner:=[]) (ok:=fun _=>True) (okp:=fun _=>True) ?hr ?hp (fun _ hk=>hk) trivial (Below.refl _ _) (Nat.le_refl _) (by simp) ?_;(case hd=>rfl);(case hg=>rfl);(case hr=>first|(go_simp;done)|(go_simp;rfl));(case hp=>exact (Reps.none _ _));intro v340 w2 ho3 hb hg_ hnew_;clear hg_ hnew_;(first|rw [← Ny339.out] at ho3|(simp only [Int.reduceToNat] at ho3;rw [← Ny339.out] at ho3));have n0_:=zA (zq ho3 (zZ (by repeat (first|(with_reducible first|exact HB.out|apply zD|apply zB|apply zC)|exact HB.out))));have n1_:=zA (za (by repeat (first|(with_reducible first|exact HB.out|apply zD|apply zB|apply zC)|exact HB.out)) hb);clear HB;have HO341:=n0_;have HB:=n1_;clear n0_ n1_;clear hb ho3))
 go_loopg [3,4] k (fun kq v3 v4 w' => ∃ (x3_1:List Int) (x4_1:Int),v4 = .int .i64 x4_1∧Aside0 (spec_l3Flip.l0 kq a0 x3_1 x4_1 = some r)∧Aside0 (kq≤k)∧Aside0 (Kd.R (Kd.int .i64) 3 w' w.heap.size (fun _=>True) v3 x3_1)∧Aside0 (Below w.heap.size w w'))
 case atStart=>exact ⟨(y339),(0),(by first|rfl|(simp;done)|(simp [*];done)),H',⟨Nat.le_refl _⟩,⟨by (with_reducible repeat (first|apply zK|apply zJ|apply zL));exact HO341.out⟩,⟨by repeat (first|(with_reducible first|exact HB.out|apply zD|apply zB|apply zC)|exact HB.out)⟩⟩
 case round =>
  clear H'
  try clear p2
  obtain ⟨x3_1,x4_1,rfl,HA,HK1,HO_3,HB⟩:=hrel
  cases gk with
  | zero=>exact absurd HA.out (by simp [spec_l3Flip.l0])
  | succ k1 =>
   have H:=HA.out
   clear HA
   simp only [spec_l3Flip.l0] at H
   by_cases c4:x4_1 < a0
   ·rw [if_pos c4] at H
    have c4b0:decide (x4_1 < a0) = true:=zU c4
    clear c4
    obtain ⟨y342,hy342⟩:∃ y_:List Int,y_ = (([wrap64 ((wrap64 (2 * x4_1))+1),wrap64 (2 * x4_1)]:List Int)):=⟨_,rfl⟩
    replace H:(if x3_1.length+y342.length < 17592186044416 then (spec_l3Flip.l0 k1 a0 (x3_1 ++ y342) (wrap64 (x4_1+1))) else (none)) = some r:=by first|(rw [hy342];with_reducible exact H)|(have H2_:=(Option.bind_some _ _).symm.trans H;rw [hy342];with_reducible exact H2_)|(have H2_:=(Option.bind_some _ _).symm.trans H;with_reducible exact H2_)|with_reducible exact H|(rw [hy342];exact H)|exact H
    have Ny342:=zA hy342
    clear hy342
    by_cases c5:x3_1.length+y342.length < 17592186044416
    ·rw [if_pos c5] at H
     have LMc5:=zA c5
     clear c5
     obtain ⟨y345,hy345⟩:∃ y_:List Int,y_ = (x3_1 ++ y342):=⟨_,rfl⟩
     replace H:(spec_l3Flip.l0 k1 a0 y345 (wrap64 (x4_1+1))) = some r:=by first|(rw [hy345];with_reducible exact H)|(have H2_:=(Option.bind_some _ _).symm.trans H;rw [hy345];with_reducible exact H2_)|(have H2_:=(Option.bind_some _ _).symm.trans H;with_reducible exact H2_)|with_reducible exact H|(rw [hy345];exact H)|exact H
     have Ny345:=zA hy345
     clear hy345
     have H':=zA H
     clear H
     go_wp2_with (first|((with_reducible refine gate_dst (N:=17) rfl ?_);refine Kd.R_lit (Kd.int .i64) _ 3 ?hg (N:=17) ?hd (xs:=([wrap64 ((wrap64 (2 * x4_1))+1),wrap64 (2 * x4_1)]:List Int)) (inner:=[.int .i64 (wrap64 ((wrap64 (2 * x4_1))+1)),.int .i64 (wrap64 (2 * x4_1))]) (ok:=fun _=>True) (okp:=fun _=>True) ?hr ?hp (fun _ hk=>hk) trivial (Below.refl _ _) (Nat.le_refl _) (by simp) ?_;(case hd=>rfl);(case hg=>rfl);(case hr=>first|(go_simp;done)|(go_simp;rfl));(case hp=>exact (Reps.one (show Kd.M (Kd.int .i64) _ _ _ (wrap64 ((wrap64 (2 * x4_1))+1)) [.int .i64 (wrap64 ((wrap64 (2 * x4_1))+1))] from rfl) (Reps.one (show Kd.M (Kd.int .i64) _ _ _ (wrap64 (2 * x4_1)) [.int .i64 (wrap64 (2 * x4_1))] from rfl) (Reps.none _ _))));intro v343 w6 ho7 hb hg_ hnew_;clear hg_ hnew_;(first|rw [← Ny342.out] at ho7|(simp only [Int.reduceToNat] at ho7;rw [← Ny342.out] at ho7));have n0_:=zA (Kd.R_elder' (by (with_reducible repeat (first|apply zK|apply zJ|apply zL));exact HO_3.out) (zp ho7) hb);have n1_:=zA (zq (zs ho7 (Kd.R_lt (by (with_reducible repeat (first|apply zK|apply zJ|apply zL));exact HO_3.out))) (zZ (by repeat (first|(with_reducible first|exact HB.out|apply zD|apply zB|apply zC)|exact HB.out))));have n2_:=zA (za (by repeat (first|(with_reducible first|exact HB.out|apply zD|apply zB|apply zC)|exact HB.out)) hb);clear HO_3;clear HB;have HO_3:=n0_;have HO344:=n1_;have HB:=n2_;clear n0_ n1_ n2_;clear hb ho7;obtain ⟨Ao9,co9,eo9⟩:=zr HO344.out;subst eo9)|((with_reducible refine gate_builtin (b:=.append) (xs:=#[.tmp 11,.tmp 17]) rfl ?_);at_builtin;refine Kd.R_append_rows (Kd.int .i64) (w0:=w) w.heap.size rfl (.tmp 11) (.tmp 17) 31 3 (.int .i64 0) 8 rfl Try.underlying31 info3 rfl (by decide) (by omega) u3 x3_1 y342 _ _ _ (fun k_=>some k_≠(.slice Ao9 y342.length co9:Value).ownBlock) (fun _=>False) rfl rfl ?aO ?aR (fun _ _ h=>h) (fun _ h=>h.elim) ?aF ?aB ?aS ?aL ?_;(case aR=>repeat (first|exact (zd HO344.out).2.2|(with_reducible refine zW ?_ _)|(with_reducible refine zX ?_ _)|(with_reducible refine zY ?_)));(case aB=>exact (by repeat (first|(with_reducible first|exact HB.out|apply zD|apply zB|apply zC)|exact HB.out)));(case aF=>exact (fun k_ hk=>Kd.fresh' (Kd.R_lt (by (with_reducible repeat (first|apply zK|apply zJ|apply zL));exact HO344.out)) k_ hk));(case aO=>exact (by (with_reducible repeat (first|apply zK|apply zJ|apply zL));exact ze HO_3.out (fun _ hk=>hk.2)));(case aS=>exact (zZ (by repeat (first|(with_reducible first|exact HB.out|apply zD|apply zB|apply zC)|exact HB.out))));(case aL=>have:=LMc5.out;omega);intro v346 w8 ho hb hg hat;rw [← Ny345.out] at ho;have n0_:=zA (Kd.R_after (ok:=(fun _=>True)) (by (with_reducible repeat (first|apply zK|apply zJ|apply zL));exact HO344.out) hg hat);have n1_:=zA (hb);have n2_:=zA (ho);clear HO344;clear HB;clear HO_3;have HO344:=n0_;have HB:=n1_;have HO347:=n2_;clear n0_ n1_ n2_;clear ho hb hg hat))
     go_roundg k1
     case measure=>have:=HK1.out;omega
     case rel=>exact ⟨(y345),(wrap64 (x4_1+1)),(by first|rfl|(simp;done)|(simp [*];done)),H',⟨by have:=HK1.out;omega⟩,⟨by (with_reducible repeat (first|apply zK|apply zJ|apply zL));exact ze HO347.out (fun _ hk=>trivial)⟩,⟨by repeat (first|(with_reducible first|exact HB.out|apply zD|apply zB|apply zC)|exact HB.out)⟩⟩
    ·rw [if_neg c5] at H
     exact absurd H (by simp)
   ·rw [if_neg c4] at H
    have c4b0:decide (x4_1 < a0) = false:=zV c4
    clear c4
    obtain rfl:=zb H
    go_wp2
    go_ret
    exact ⟨_,by first|rfl|(simp [errW_none,errW_some] <;> rfl)|(simp [*,errW_none,errW_some] <;> rfl),by (with_reducible repeat (first|apply zK|apply zJ|apply zL));exact HO_3.out,by repeat (first|(with_reducible first|exact HB.out|apply zD|apply zB|apply zC)|exact HB.out)⟩

/-! ### spec_l1Same: function 74 -/
def spec_l1Same.l0:Nat→Int→List Int→Int→Option (List Int)
 | 0,_,_,_=>none
 | k+1,x0,x3,x4=>if x4 < x0 then (if x3.length < 17592186044416 then (spec_l1Same.l0 k x0 (x3 ++ [x4]) (wrap64 (x4+1))) else (none)) else (some x3)
def spec_l1Same.f (k:Nat) (a0:Int):Option (List Int):=spec_l1Same.l0 k a0 (([]:List Int)) 0
theorem spec_l1Same.mono_l:∀ k,(∀ y0 y1 y2,LeO (spec_l1Same.l0 k y0 y1 y2) (spec_l1Same.l0 (k+1) y0 y1 y2))
 | 0=>fun _ _ _ r h=>by simp [spec_l1Same.l0] at h
 | k+1=>by
  have ih0:=spec_l1Same.mono_l k
  ·intro y0 y1 y2
   unfold spec_l1Same.l0
   repeat' first
   | (with_reducible exact ih0 _ _ _)
   | (with_reducible exact LeO.refl _)
   | (with_reducible exact zm _)
   | (with_reducible refine zo ?_ ?_)
   | (with_reducible refine zn ?_ (fun _=>?_))
   | exact ih0 _ _ _
   | exact zm _
   | refine zo ?_ ?_
   | refine zn ?_ (fun _=>?_)
theorem spec_l1Same.mono:∀ a0 k,LeO (spec_l1Same.f k a0) (spec_l1Same.f (k+1) a0):=by
 intro a0 k
 have ih0:=spec_l1Same.mono_l k
 unfold spec_l1Same.f
 repeat' first
   | (with_reducible exact ih0 _ _ _)
   | (with_reducible exact LeO.refl _)
   | (with_reducible exact zm _)
   | (with_reducible refine zo ?_ ?_)
   | (with_reducible refine zn ?_ (fun _=>?_))
   | exact ih0 _ _ _
   | exact zm _
   | refine zo ?_ ?_
   | refine zn ?_ (fun _=>?_)
set_option maxHeartbeats 8000000 in
set_option maxRecDepth 100000 in
theorem spec_l1Same.calls (k:Nat) (a0:Int) (r:List Int) (w:World) (h:spec_l1Same.f k a0 = some r) :
  Calls Try.prog 74 #[.int .i64 a0] w fun e w' => ∃ v0_:Value,e = .returned (v0_)∧Kd.R (Kd.int .i64) 3 w' w.heap.size (fun _=>True) v0_ r∧Below w.heap.size w w':=by
 have HB:=zA (Below.refl w.heap.size w)
 have H:(spec_l1Same.l0 k a0 (([]:List Int)) 0) = some r:=h
 clear h
 obtain ⟨y348,hy348⟩:∃ y_:List Int,y_ = (([]:List Int)):=⟨_,rfl⟩
 replace H:(spec_l1Same.l0 k a0 y348 0) = some r:=by first|(rw [hy348];with_reducible exact H)|(have H2_:=(Option.bind_some _ _).symm.trans H;rw [hy348];with_reducible exact H2_)|(have H2_:=(Option.bind_some _ _).symm.trans H;with_reducible exact H2_)|with_reducible exact H|(rw [hy348];exact H)|exact H
 have Ny348:=zA hy348
 clear hy348
 have H':=zA H
 clear H
 go_enter Try.func74,Try.ntmps74
 go_wp2_with (first|((with_reducible refine gate_dst (N:=5) rfl ?_);refine Kd.R_lit (Kd.int .i64) _ 3 ?hg (N:=5) ?hd (xs:=([]:List Int)) (inner:=[]) (ok:=fun _=>True) (okp:=fun _=>True) ?hr ?hp (fun _ hk=>hk) trivial (Below.refl _ _) (Nat.le_refl _) (by simp) ?_;(case hd=>rfl);(case hg=>rfl);(case hr=>first|(go_simp;done)|(go_simp;rfl));(case hp=>exact (Reps.none _ _));intro v349 w2 ho3 hb hg_ hnew_;clear hg_ hnew_;(first|rw [← Ny348.out] at ho3|(simp only [Int.reduceToNat] at ho3;rw [← Ny348.out] at ho3));have n0_:=zA (zq ho3 (zZ (by repeat (first|(with_reducible first|exact HB.out|apply zD|apply zB|apply zC)|exact HB.out))));have n1_:=zA (za (by repeat (first|(with_reducible first|exact HB.out|apply zD|apply zB|apply zC)|exact HB.out)) hb);clear HB;have HO350:=n0_;have HB:=n1_;clear n0_ n1_;clear hb ho3))
 go_loopg [3,4] k (fun kq v3 v4 w' => ∃ (x3_1:List Int) (x4_1:Int),v4 = .int .i64 x4_1∧Aside0 (spec_l1Same.l0 kq a0 x3_1 x4_1 = some r)∧Aside0 (kq≤k)∧Aside0 (Kd.R (Kd.int .i64) 3 w' w.heap.size (fun _=>True) v3 x3_1)∧Aside0 (Below w.heap.size w w'))
 case atStart=>exact ⟨(y348),(0),(by first|rfl|(simp;done)|(simp [*];done)),H',⟨Nat.le_refl _⟩,⟨by (with_reducible repeat (first|apply zK|apply zJ|apply zL));exact HO350.out⟩,⟨by repeat (first|(with_reducible first|exact HB.out|apply zD|apply zB|apply zC)|exact HB.out)⟩⟩
 case round =>
  clear H'
  try clear p2
  obtain ⟨x3_1,x4_1,rfl,HA,HK1,HO_3,HB⟩:=hrel
  cases gk with
  | zero=>exact absurd HA.out (by simp [spec_l1Same.l0])
  | succ k1 =>
   have H:=HA.out
   clear HA
   simp only [spec_l1Same.l0] at H
   by_cases c4:x4_1 < a0
   ·rw [if_pos c4] at H
    have c4b0:decide (x4_1 < a0) = true:=zU c4
    clear c4
    by_cases c5:x3_1.length < 17592186044416
    ·rw [if_pos c5] at H
     have LMc5:=zA c5
     clear c5
     obtain ⟨y351,hy351⟩:∃ y_:List Int,y_ = (x3_1 ++ [x4_1]):=⟨_,rfl⟩
     replace H:(spec_l1Same.l0 k1 a0 y351 (wrap64 (x4_1+1))) = some r:=by first|(rw [hy351];with_reducible exact H)|(have H2_:=(Option.bind_some _ _).symm.trans H;rw [hy351];with_reducible exact H2_)|(have H2_:=(Option.bind_some _ _).symm.trans H;with_reducible exact H2_)|with_reducible exact H|(rw [hy351];exact H)|exact H
     have Ny351:=zA hy351
     clear hy351
     have H':=zA H
     clear H
     go_wp2_with (first|((with_reducible refine gate_builtin (b:=.append) (xs:=#[.tmp 11,.tmp 13]) rfl ?_);at_builtin;refine Kd.R_append (Kd.int .i64) (w0:=w) w.heap.size rfl (.tmp 11) (.tmp 13) 31 3 (.int .i64 0) 8 rfl Try.underlying31 info3 rfl (by decide) (by omega) u3 x3_1 x4_1 [.int .i64 x4_1] (fun _=>True) (fun _=>False) rfl rfl ?aP (fun _ hk=>hk.elim) ?aF ?aO ?aB ?aS ?aL ?_;(case aP=>exact rfl);(case aB=>exact (by repeat (first|(with_reducible first|exact HB.out|apply zD|apply zB|apply zC)|exact HB.out)));(case aF=>exact (fun _ _=>trivial));(case aO=>exact (by (with_reducible repeat (first|apply zK|apply zJ|apply zL));exact HO_3.out));(case aS=>exact (zZ (by repeat (first|(with_reducible first|exact HB.out|apply zD|apply zB|apply zC)|exact HB.out))));(case aL=>have:=LMc5.out;omega);intro v352 w6 ho hb hg hat;rw [← Ny351.out] at ho;have n0_:=zA (hb);have n1_:=zA (ho);clear HB;clear HO_3;have HB:=n0_;have HO353:=n1_;clear n0_ n1_;clear ho hb hg hat))
     go_roundg k1
     case measure=>have:=HK1.out;omega
     case rel=>exact ⟨(y351),(wrap64 (x4_1+1)),(by first|rfl|(simp;done)|(simp [*];done)),H',⟨by have:=HK1.out;omega⟩,⟨by (with_reducible repeat (first|apply zK|apply zJ|apply zL));exact HO353.out⟩,⟨by repeat (first|(with_reducible first|exact HB.out|apply zD|apply zB|apply zC)|exact HB.out)⟩⟩
    ·rw [if_neg c5] at H
     exact absurd H (by simp)
   ·rw [if_neg c4] at H
    have c4b0:decide (x4_1 < a0) = false:=zV c4
    clear c4
    obtain rfl:=zb H
    go_wp2
    go_ret
    exact ⟨_,by first|rfl|(simp [errW_none,errW_some] <;> rfl)|(simp [*,errW_none,errW_some] <;> rfl),by (with_reducible repeat (first|apply zK|apply zJ|apply zL));exact HO_3.out,by repeat (first|(with_reducible first|exact HB.out|apply zD|apply zB|apply zC)|exact HB.out)⟩

/-! ### spec_l3Next: function 75 -/
mutual
def spec_l3Next.j1:Nat→List Int→Int→Option (List Int)
 | 0,_,_=>none
 | k+1,x0,x3=>if x3 < 0 then (some (([]:List Int))) else (spec_l3Next.l1 k x0 x3 (wrap64 ((x0.length:Int) - 1)))
def spec_l3Next.l1:Nat→List Int→Int→Int→Option (List Int)
 | 0,_,_,_=>none
 | k+1,x0,x3,x4=>if 0≤x4 then (if x4 < (x0.length:Int) then (if 0≤x3 then (if x3 < (x0.length:Int) then (if (rd x0 x4) < (rd x0 x3) then (spec_l3Next.l1 k x0 x3 (wrap64 (x4 - 1))) else ((some (([]:List Int):List Int)).bind fun y361=>(if x3≤(x0.length:Int) then (if y361.length+(x0.take (x3:Int).toNat).length < 17592186044416 then ((some (y361 ++ (x0.take (x3:Int).toNat):List Int)).bind fun y365=>(if y365.length < 17592186044416 then (spec_l3Next.l2 k x0 x3 x4 (y365 ++ [rd x0 x4]) (wrap64 ((x0.length:Int) - 1))) else (none))) else (none)) else (none)))) else (none)) else (none)) else (none)) else (none)
def spec_l3Next.l2:Nat→List Int→Int→Int→List Int→Int→Option (List Int)
 | 0,_,_,_,_,_=>none
 | k+1,x0,x3,x4,x5,x6=>if x6 > x3 then (if x6 = x4 then (if 0≤x3 then (if x3 < (x0.length:Int) then (if x5.length < 17592186044416 then (spec_l3Next.l2 k x0 x3 x4 (x5 ++ [rd x0 x3]) (wrap64 (x6 - 1))) else (none)) else (none)) else (none)) else (if 0≤x6 then (if x6 < (x0.length:Int) then (if x5.length < 17592186044416 then (spec_l3Next.l2 k x0 x3 x4 (x5 ++ [rd x0 x6]) (wrap64 (x6 - 1))) else (none)) else (none)) else (none))) else (some x5)
def spec_l3Next.l0:Nat→List Int→Int→Option (List Int)
 | 0,_,_=>none
 | k+1,x0,x3=>if x3 ≥ 0 then (if 0≤x3 then (if x3 < (x0.length:Int) then (if 0≤(wrap64 (x3+1)) then (if (wrap64 (x3+1)) < (x0.length:Int) then (if (rd x0 x3) > (rd x0 (wrap64 (x3+1))) then (spec_l3Next.l0 k x0 (wrap64 (x3 - 1))) else (spec_l3Next.j1 k x0 x3)) else (none)) else (none)) else (none)) else (none)) else (spec_l3Next.j1 k x0 x3)
end
def spec_l3Next.f (k:Nat) (l0:List Int):Option (List Int):=spec_l3Next.l0 k l0 (wrap64 ((l0.length:Int) - 2))
theorem spec_l3Next.mono_l:∀ k,(∀ y0 y1,LeO (spec_l3Next.j1 k y0 y1) (spec_l3Next.j1 (k+1) y0 y1))∧(∀ y0 y1 y2,LeO (spec_l3Next.l1 k y0 y1 y2) (spec_l3Next.l1 (k+1) y0 y1 y2))∧(∀ y0 y1 y2 y3 y4,LeO (spec_l3Next.l2 k y0 y1 y2 y3 y4) (spec_l3Next.l2 (k+1) y0 y1 y2 y3 y4))∧(∀ y0 y1,LeO (spec_l3Next.l0 k y0 y1) (spec_l3Next.l0 (k+1) y0 y1))
 | 0=>⟨fun _ _ r h=>by simp [spec_l3Next.j1] at h,fun _ _ _ r h=>by simp [spec_l3Next.l1] at h,fun _ _ _ _ _ r h=>by simp [spec_l3Next.l2] at h,fun _ _ r h=>by simp [spec_l3Next.l0] at h⟩
 | k+1=>by
  obtain ⟨ih0,ih1,ih2,ih3⟩:=spec_l3Next.mono_l k
  refine ⟨?_,?_,?_,?_⟩
  ·intro y0 y1
   unfold spec_l3Next.j1
   repeat' first
   | (with_reducible exact ih0 _ _)
   | (with_reducible exact ih1 _ _ _)
   | (with_reducible exact ih2 _ _ _ _ _)
   | (with_reducible exact ih3 _ _)
   | (with_reducible exact LeO.refl _)
   | (with_reducible exact zm _)
   | (with_reducible refine zo ?_ ?_)
   | (with_reducible refine zn ?_ (fun _=>?_))
   | exact ih0 _ _
   | exact ih1 _ _ _
   | exact ih2 _ _ _ _ _
   | exact ih3 _ _
   | exact zm _
   | refine zo ?_ ?_
   | refine zn ?_ (fun _=>?_)
  ·intro y0 y1 y2
   unfold spec_l3Next.l1
   repeat' first
   | (with_reducible exact ih0 _ _)
   | (with_reducible exact ih1 _ _ _)
   | (with_reducible exact ih2 _ _ _ _ _)
   | (with_reducible exact ih3 _ _)
   | (with_reducible exact LeO.refl _)
   | (with_reducible exact zm _)
   | (with_reducible refine zo ?_ ?_)
   | (with_reducible refine zn ?_ (fun _=>?_))
   | exact ih0 _ _
   | exact ih1 _ _ _
   | exact ih2 _ _ _ _ _
   | exact ih3 _ _
   | exact zm _
   | refine zo ?_ ?_
   | refine zn ?_ (fun _=>?_)
  ·intro y0 y1 y2 y3 y4
   unfold spec_l3Next.l2
   repeat' first
   | (with_reducible exact ih0 _ _)
   | (with_reducible exact ih1 _ _ _)
   | (with_reducible exact ih2 _ _ _ _ _)
   | (with_reducible exact ih3 _ _)
   | (with_reducible exact LeO.refl _)
   | (with_reducible exact zm _)
   | (with_reducible refine zo ?_ ?_)
   | (with_reducible refine zn ?_ (fun _=>?_))
   | exact ih0 _ _
   | exact ih1 _ _ _
   | exact ih2 _ _ _ _ _
   | exact ih3 _ _
   | exact zm _
   | refine zo ?_ ?_
   | refine zn ?_ (fun _=>?_)
  ·intro y0 y1
   unfold spec_l3Next.l0
   repeat' first
   | (with_reducible exact ih0 _ _)
   | (with_reducible exact ih1 _ _ _)
   | (with_reducible exact ih2 _ _ _ _ _)
   | (with_reducible exact ih3 _ _)
   | (with_reducible exact LeO.refl _)
   | (with_reducible exact zm _)
   | (with_reducible refine zo ?_ ?_)
   | (with_reducible refine zn ?_ (fun _=>?_))
   | exact ih0 _ _
   | exact ih1 _ _ _
   | exact ih2 _ _ _ _ _
   | exact ih3 _ _
   | exact zm _
   | refine zo ?_ ?_
   | refine zn ?_ (fun _=>?_)
theorem spec_l3Next.mono:∀ a0 k,LeO (spec_l3Next.f k a0) (spec_l3Next.f (k+1) a0):=by
 intro a0 k
 obtain ⟨ih0,ih1,ih2,ih3⟩:=spec_l3Next.mono_l k
 unfold spec_l3Next.f
 repeat' first
   | (with_reducible exact ih0 _ _)
   | (with_reducible exact ih1 _ _ _)
   | (with_reducible exact ih2 _ _ _ _ _)
   | (with_reducible exact ih3 _ _)
   | (with_reducible exact LeO.refl _)
   | (with_reducible exact zm _)
   | (with_reducible refine zo ?_ ?_)
   | (with_reducible refine zn ?_ (fun _=>?_))
   | exact ih0 _ _
   | exact ih1 _ _ _
   | exact ih2 _ _ _ _ _
   | exact ih3 _ _
   | exact zm _
   | refine zo ?_ ?_
   | refine zn ?_ (fun _=>?_)
set_option maxHeartbeats 8000000 in
set_option maxRecDepth 100000 in
theorem spec_l3Next.calls (k:Nat) (A0:Option Addr) (c0:Nat) (l0:List Int) (r:List Int) (w:World) (hr0:Kd.C (Kd.int .i64) w A0 l0.length l0) (hc0:l0.length≤c0) (h:spec_l3Next.f k l0 = some r) :
  Calls Try.prog 75 #[.slice A0 l0.length c0] w fun e w' => ∃ v0_:Value,e = .returned (v0_)∧Kd.R (Kd.int .i64) 3 w' w.heap.size (fun _=>True) v0_ r∧Below w.heap.size w w':=by
 have HR0:=zA hr0
 have HC0:=zA hc0
 clear hr0 hc0
 have HB:=zA (Below.refl w.heap.size w)
 have H:(spec_l3Next.l0 k l0 (wrap64 ((l0.length:Int) - 2))) = some r:=h
 clear h
 have HC2:=zA H
 clear H
 go_enter Try.func75,Try.ntmps75
 go_upto_block 0 with (fail)
 repeat (go_quiet (fail);go_upto_block 0 with (fail))
 go_cut [3] (fun v3 wc => ∃ (kq:Nat) (x3_1:Int),v3 = .int .i64 x3_1∧Aside0 (spec_l3Next.j1 kq l0 x3_1 = some r)∧Aside0 (kq≤k)∧Aside0 (Below w.heap.size w wc))
 case first =>
  have H:=HC2.out
  clear HC2
  have H':=zA H
  clear H
  go_wp2
  repeat (go_quiet (fail);try go_wp2)
  go_loopg [3] k (fun kq v3 w' => ∃ (x3_1:Int),v3 = .int .i64 x3_1∧Aside0 (spec_l3Next.l0 kq l0 x3_1 = some r)∧Aside0 (kq≤k)∧Aside0 (Below w.heap.size w w'))
  case atStart=>exact ⟨(wrap64 ((l0.length:Int) - 2)),(by first|rfl|(simp;done)|(simp [*];done)),H',⟨Nat.le_refl _⟩,⟨by repeat (first|(with_reducible first|exact HB.out|apply zD|apply zB|apply zC)|exact HB.out)⟩⟩
  case round =>
   clear H'
   try clear p2
   obtain ⟨x3_1,rfl,HA,HK1,HB⟩:=hrel
   cases gk with
   | zero=>exact absurd HA.out (by simp [spec_l3Next.l0])
   | succ k1 =>
    have H:=HA.out
    clear HA
    simp only [spec_l3Next.l0] at H
    by_cases c3:x3_1 ≥ 0
    ·rw [if_pos c3] at H
     have c3b0:decide (0≤x3_1) = true:=zU c3
     clear c3
     (first|rw [c3b0]|(simp only [i64_w,i32_w];rw [c3b0])|skip)
     by_cases c4:0≤x3_1
     ·rw [if_pos c4] at H
      have c4b0:decide (0≤x3_1) = true:=zU c4
      clear c4
      by_cases c5:x3_1 < (l0.length:Int)
      ·rw [if_pos c5] at H
       have c5b0:decide (x3_1 < (l0.length:Int)) = true:=zU c5
       clear c5
       obtain ⟨ji6,hji6⟩:∃ j_:Int,(wrap64 (x3_1+1)) = j_:=⟨_,rfl⟩
       replace H:(if 0≤(ji6) then (if (ji6) < (l0.length:Int) then (if (rd l0 x3_1) > (rd l0 (ji6)) then (spec_l3Next.l0 k1 l0 (wrap64 (x3_1 - 1))) else (spec_l3Next.j1 k1 l0 x3_1)) else (none)) else (none)) = some r:=by first|(rw [hji6] at H;exact H)|(simp only [hji6] at H ⊢;exact H)
       have hji6w:(IntKind.i64.wrap (x3_1+1)) = ji6:=(i64_w _).trans hji6
       by_cases c7:0≤(ji6)
       ·rw [if_pos c7] at H
        have c7b0:decide (0≤(ji6)) = true:=zU c7
        clear c7
        by_cases c8:(ji6) < (l0.length:Int)
        ·rw [if_pos c8] at H
         have c8b0:decide ((ji6) < (l0.length:Int)) = true:=zU c8
         clear c8
         by_cases c9:(rd l0 x3_1) > (rd l0 (ji6))
         ·rw [if_pos c9] at H
          have c9b0:decide ((rd l0 (ji6)) < (rd l0 x3_1)) = true:=zU c9
          clear c9
          have H':=zA H
          clear H
          have p354:0≤(x3_1:Int):=zF (by first|(with_reducible assumption)|assumption)
          have q354:x3_1 < (l0.length:Int):=zF (by first|(with_reducible assumption)|assumption)
          obtain ⟨ad354,e354,hx354_0⟩:=Kd.at_int HR0.out x3_1 p354 q354
          cases e354
          replace hx354_0:=(HB.out.cell (zk w _ hx354_0)).trans hx354_0
          replace p354:=eq_true p354
          replace q354:=eq_true q354
          have p355:0≤((ji6):Int):=zF (by first|(with_reducible assumption)|assumption)
          have q355:(ji6) < (l0.length:Int):=zF (by first|(with_reducible assumption)|assumption)
          obtain ⟨ad355,e355,hx355_0⟩:=Kd.at_int HR0.out (ji6) p355 q355
          obtain rfl:ad354 = ad355:=(by injection e355)
          replace hx355_0:=(HB.out.cell (zk w _ hx355_0)).trans hx355_0
          replace p355:=eq_true p355
          replace q355:=eq_true q355
          go_wp2
          repeat (go_quiet (fail);try go_wp2)
          go_roundg k1
          case measure=>have:=HK1.out;omega
          case rel=>exact ⟨(wrap64 (x3_1 - 1)),(by first|rfl|(simp;done)|(simp [*];done)),H',⟨by have:=HK1.out;omega⟩,⟨by repeat (first|(with_reducible first|exact HB.out|apply zD|apply zB|apply zC)|exact HB.out)⟩⟩
         ·rw [if_neg c9] at H
          have c9b0:decide ((rd l0 (ji6)) < (rd l0 x3_1)) = false:=zV c9
          clear c9
          have H':=zA H
          clear H
          have p354:0≤(x3_1:Int):=zF (by first|(with_reducible assumption)|assumption)
          have q354:x3_1 < (l0.length:Int):=zF (by first|(with_reducible assumption)|assumption)
          obtain ⟨ad354,e354,hx354_0⟩:=Kd.at_int HR0.out x3_1 p354 q354
          cases e354
          replace hx354_0:=(HB.out.cell (zk w _ hx354_0)).trans hx354_0
          replace p354:=eq_true p354
          replace q354:=eq_true q354
          have p355:0≤((ji6):Int):=zF (by first|(with_reducible assumption)|assumption)
          have q355:(ji6) < (l0.length:Int):=zF (by first|(with_reducible assumption)|assumption)
          obtain ⟨ad355,e355,hx355_0⟩:=Kd.at_int HR0.out (ji6) p355 q355
          obtain rfl:ad354 = ad355:=(by injection e355)
          replace hx355_0:=(HB.out.cell (zk w _ hx355_0)).trans hx355_0
          replace p355:=eq_true p355
          replace q355:=eq_true q355
          go_wp2
          repeat (go_quiet (fail);try go_wp2)
          go_meet
          case rel=>exact ⟨_,(x3_1),(by first|rfl|(simp;done)|(simp [*];done)),H',⟨by have:=HK1.out;first|omega|exact Nat.le_refl _⟩,⟨by repeat (first|(with_reducible first|exact HB.out|apply zD|apply zB|apply zC)|exact HB.out)⟩⟩
        ·rw [if_neg c8] at H
         exact absurd H (by simp)
       ·rw [if_neg c7] at H
        exact absurd H (by simp)
      ·rw [if_neg c5] at H
       exact absurd H (by simp)
     ·rw [if_neg c4] at H
      exact absurd H (by simp)
    ·rw [if_neg c3] at H
     have c3b0:decide (0≤x3_1) = false:=zV c3
     clear c3
     (first|rw [c3b0]|(simp only [i64_w,i32_w];rw [c3b0])|skip)
     have H':=zA H
     clear H
     go_wp2
     repeat (go_quiet (fail);try go_wp2)
     go_meet
     case rel=>exact ⟨_,(x3_1),(by first|rfl|(simp;done)|(simp [*];done)),H',⟨by have:=HK1.out;first|omega|exact Nat.le_refl _⟩,⟨by repeat (first|(with_reducible first|exact HB.out|apply zD|apply zB|apply zC)|exact HB.out)⟩⟩
 case rest =>
  clear HC2
  try clear p2
  try clear c3
  try clear c3b0
  try clear p3
  try clear q3
  try clear hx3
  try clear c4
  try clear c4b0
  try clear c5
  try clear c5b0
  try clear p6
  try clear c7
  try clear c7b0
  try clear c8
  try clear c8b0
  try clear c9
  try clear c9b0
  try clear hx354_0
  try clear hx355_0
  try clear p2
  try clear p354
  try clear p355
  try clear q354
  try clear q355
  obtain ⟨kq,x3_1,rfl,HA,HJ1,HB⟩:=hcut
  cases kq with
  | zero=>exact absurd HA.out (by simp [spec_l3Next.j1])
  | succ kj1 =>
   have H:=HA.out
   clear HA
   simp only [spec_l3Next.j1] at H
   by_cases c10:x3_1 < 0
   ·rw [if_pos c10] at H
    have c10b0:decide (x3_1 < 0) = true:=zU c10
    clear c10
    obtain ⟨y356,hy356⟩:∃ y_:List Int,y_ = (([]:List Int)):=⟨_,rfl⟩
    replace H:(some y356) = some r:=by first|(rw [hy356];with_reducible exact H)|(have H2_:=(Option.bind_some _ _).symm.trans H;rw [hy356];with_reducible exact H2_)|(have H2_:=(Option.bind_some _ _).symm.trans H;with_reducible exact H2_)|with_reducible exact H|(rw [hy356];exact H)|exact H
    have Ny356:=zA hy356
    clear hy356
    obtain rfl:=zb H
    go_wp2_with (first|((with_reducible refine gate_dst (N:=28) rfl ?_);refine Kd.R_lit (Kd.int .i64) _ 3 ?hg (N:=28) ?hd (xs:=([]:List Int)) (inner:=[]) (ok:=fun _=>True) (okp:=fun _=>True) ?hr ?hp (fun _ hk=>hk) trivial (Below.refl _ _) (Nat.le_refl _) (by simp) ?_;(case hd=>rfl);(case hg=>rfl);(case hr=>first|(go_simp;done)|(go_simp;rfl));(case hp=>exact (Reps.none _ _));intro v357 w11 ho12 hb hg_ hnew_;clear hg_ hnew_;(first|rw [← Ny356.out] at ho12|(simp only [Int.reduceToNat] at ho12;rw [← Ny356.out] at ho12));have n0_:=zA (zq ho12 (zZ (by repeat (first|(with_reducible first|exact HB.out|apply zD|apply zB|apply zC)|exact HB.out))));have n1_:=zA (za (by repeat (first|(with_reducible first|exact HB.out|apply zD|apply zB|apply zC)|exact HB.out)) hb);clear HB;have HO358:=n0_;have HB:=n1_;clear n0_ n1_;clear hb ho12))
    repeat (go_quiet (first|((with_reducible refine gate_dst (N:=28) rfl ?_);refine Kd.R_lit (Kd.int .i64) _ 3 ?hg (N:=28) ?hd (xs:=([]:List Int)) (inner:=[]) (ok:=fun _=>True) (okp:=fun _=>True) ?hr ?hp (fun _ hk=>hk) trivial (Below.refl _ _) (Nat.le_refl _) (by simp) ?_;(case hd=>rfl);(case hg=>rfl);(case hr=>first|(go_simp;done)|(go_simp;rfl));(case hp=>exact (Reps.none _ _));intro v357 w11 ho12 hb hg_ hnew_;clear hg_ hnew_;(first|rw [← Ny356.out] at ho12|(simp only [Int.reduceToNat] at ho12;rw [← Ny356.out] at ho12));have n0_:=zA (zq ho12 (zZ (by repeat (first|(with_reducible first|exact HB.out|apply zD|apply zB|apply zC)|exact HB.out))));have n1_:=zA (za (by repeat (first|(with_reducible first|exact HB.out|apply zD|apply zB|apply zC)|exact HB.out)) hb);clear HB;have HO358:=n0_;have HB:=n1_;clear n0_ n1_;clear hb ho12));try go_wp2_with (first|((with_reducible refine gate_dst (N:=28) rfl ?_);refine Kd.R_lit (Kd.int .i64) _ 3 ?hg (N:=28) ?hd (xs:=([]:List Int)) (inner:=[]) (ok:=fun _=>True) (okp:=fun _=>True) ?hr ?hp (fun _ hk=>hk) trivial (Below.refl _ _) (Nat.le_refl _) (by simp) ?_;(case hd=>rfl);(case hg=>rfl);(case hr=>first|(go_simp;done)|(go_simp;rfl));(case hp=>exact (Reps.none _ _));intro v357 w11 ho12 hb hg_ hnew_;clear hg_ hnew_;(first|rw [← Ny356.out] at ho12|(simp only [Int.reduceToNat] at ho12;rw [← Ny356.out] at ho12));have n0_:=zA (zq ho12 (zZ (by repeat (first|(with_reducible first|exact HB.out|apply zD|apply zB|apply zC)|exact HB.out))));have n1_:=zA (za (by repeat (first|(with_reducible first|exact HB.out|apply zD|apply zB|apply zC)|exact HB.out)) hb);clear HB;have HO358:=n0_;have HB:=n1_;clear n0_ n1_;clear hb ho12)))
    go_ret
    exact ⟨_,by first|rfl|(simp [errW_none,errW_some] <;> rfl)|(simp [*,errW_none,errW_some] <;> rfl),by (with_reducible repeat (first|apply zK|apply zJ|apply zL));exact HO358.out,by repeat (first|(with_reducible first|exact HB.out|apply zD|apply zB|apply zC)|exact HB.out)⟩
   ·rw [if_neg c10] at H
    have c10b0:decide (x3_1 < 0) = false:=zV c10
    clear c10
    have H':=zA H
    clear H
    go_wp2
    repeat (go_quiet (fail);try go_wp2)
    go_loopg [4] kj1 (fun kq v4 w' => ∃ (x4_2:Int),v4 = .int .i64 x4_2∧Aside0 (spec_l3Next.l1 kq l0 x3_1 x4_2 = some r)∧Aside0 (kq≤kj1)∧Aside0 (Below w.heap.size w w'))
    case atStart=>exact ⟨(wrap64 ((l0.length:Int) - 1)),(by first|rfl|(simp;done)|(simp [*];done)),H',⟨Nat.le_refl _⟩,⟨by repeat (first|(with_reducible first|exact HB.out|apply zD|apply zB|apply zC)|exact HB.out)⟩⟩
    case round =>
     clear H'
     try clear c1
     try clear p2
     try clear c3
     try clear c3b0
     try clear p3
     try clear q3
     try clear hx3
     try clear c4
     try clear c4b0
     try clear c5
     try clear c5b0
     try clear p6
     try clear c7
     try clear c7b0
     try clear c8
     try clear c8b0
     try clear c9
     try clear c9b0
     try clear c10
     try clear c10b0
     try clear hx354_0
     try clear hx355_0
     try clear p2
     try clear p3
     try clear p354
     try clear p355
     try clear p6
     try clear q3
     try clear q354
     try clear q355
     obtain ⟨x4_2,rfl,HA,HK2,HB⟩:=hrel
     cases gk with
     | zero=>exact absurd HA.out (by simp [spec_l3Next.l1])
     | succ k2 =>
      have H:=HA.out
      clear HA
      simp only [spec_l3Next.l1] at H
      by_cases c13:0≤x4_2
      ·rw [if_pos c13] at H
       have c13b0:decide (0≤x4_2) = true:=zU c13
       clear c13
       by_cases c14:x4_2 < (l0.length:Int)
       ·rw [if_pos c14] at H
        have c14b0:decide (x4_2 < (l0.length:Int)) = true:=zU c14
        clear c14
        by_cases c15:0≤x3_1
        ·rw [if_pos c15] at H
         have c15b0:decide (0≤x3_1) = true:=zU c15
         clear c15
         by_cases c16:x3_1 < (l0.length:Int)
         ·rw [if_pos c16] at H
          have c16b0:decide (x3_1 < (l0.length:Int)) = true:=zU c16
          clear c16
          by_cases c17:(rd l0 x4_2) < (rd l0 x3_1)
          ·rw [if_pos c17] at H
           have c17b0:decide ((rd l0 x4_2) < (rd l0 x3_1)) = true:=zU c17
           clear c17
           have H':=zA H
           clear H
           have p359:0≤(x4_2:Int):=zF (by first|(with_reducible assumption)|assumption)
           have q359:x4_2 < (l0.length:Int):=zF (by first|(with_reducible assumption)|assumption)
           obtain ⟨ad359,e359,hx359_0⟩:=Kd.at_int HR0.out x4_2 p359 q359
           cases e359
           replace hx359_0:=(HB.out.cell (zk w _ hx359_0)).trans hx359_0
           replace p359:=eq_true p359
           replace q359:=eq_true q359
           have p360:0≤(x3_1:Int):=zF (by first|(with_reducible assumption)|assumption)
           have q360:x3_1 < (l0.length:Int):=zF (by first|(with_reducible assumption)|assumption)
           obtain ⟨ad360,e360,hx360_0⟩:=Kd.at_int HR0.out x3_1 p360 q360
           obtain rfl:ad359 = ad360:=(by injection e360)
           replace hx360_0:=(HB.out.cell (zk w _ hx360_0)).trans hx360_0
           replace p360:=eq_true p360
           replace q360:=eq_true q360
           go_wp2
           repeat (go_quiet (fail);try go_wp2)
           go_roundg k2
           case measure=>have:=HJ1.out;have:=HK2.out;omega
           case rel=>exact ⟨(wrap64 (x4_2 - 1)),(by first|rfl|(simp;done)|(simp [*];done)),H',⟨by have:=HJ1.out;have:=HK2.out;omega⟩,⟨by repeat (first|(with_reducible first|exact HB.out|apply zD|apply zB|apply zC)|exact HB.out)⟩⟩
          ·rw [if_neg c17] at H
           have c17b0:decide ((rd l0 x4_2) < (rd l0 x3_1)) = false:=zV c17
           clear c17
           obtain ⟨y361,hy361⟩:∃ y_:List Int,y_ = (([]:List Int)):=⟨_,rfl⟩
           replace H:(if x3_1≤(l0.length:Int) then (if y361.length+(l0.take (x3_1:Int).toNat).length < 17592186044416 then ((some (y361 ++ (l0.take (x3_1:Int).toNat):List Int)).bind fun y365=>(if y365.length < 17592186044416 then (spec_l3Next.l2 k2 l0 x3_1 x4_2 (y365 ++ [rd l0 x4_2]) (wrap64 ((l0.length:Int) - 1))) else (none))) else (none)) else (none)) = some r:=by first|(rw [hy361];with_reducible exact H)|(have H2_:=(Option.bind_some _ _).symm.trans H;rw [hy361];with_reducible exact H2_)|(have H2_:=(Option.bind_some _ _).symm.trans H;with_reducible exact H2_)|with_reducible exact H|(rw [hy361];exact H)|exact H
           have Ny361:=zA hy361
           clear hy361
           have c18b0:=eq_true (zF (by first|(with_reducible assumption)|assumption):0≤x3_1)
           by_cases c19:x3_1≤(l0.length:Int)
           ·rw [if_pos c19] at H
            have c19b0:=eq_true c19
            have c19b1:decide (x3_1≤(l0.length:Int)) = true:=zU c19
            clear c19
            by_cases c20:y361.length+(l0.take (x3_1:Int).toNat).length < 17592186044416
            ·rw [if_pos c20] at H
             have LMc20:=zA c20
             clear c20
             obtain ⟨y365,hy365⟩:∃ y_:List Int,y_ = (y361 ++ (l0.take (x3_1:Int).toNat)):=⟨_,rfl⟩
             replace H:(if y365.length < 17592186044416 then (spec_l3Next.l2 k2 l0 x3_1 x4_2 (y365 ++ [rd l0 x4_2]) (wrap64 ((l0.length:Int) - 1))) else (none)) = some r:=by first|(rw [hy365];with_reducible exact H)|(have H2_:=(Option.bind_some _ _).symm.trans H;rw [hy365];with_reducible exact H2_)|(have H2_:=(Option.bind_some _ _).symm.trans H;with_reducible exact H2_)|with_reducible exact H|(rw [hy365];exact H)|exact H
             have Ny365:=zA hy365
             clear hy365
             by_cases c21:y365.length < 17592186044416
             ·rw [if_pos c21] at H
              have LMc21:=zA c21
              clear c21
              obtain ⟨y369,hy369⟩:∃ y_:List Int,y_ = (y365 ++ [rd l0 x4_2]):=⟨_,rfl⟩
              replace H:(spec_l3Next.l2 k2 l0 x3_1 x4_2 y369 (wrap64 ((l0.length:Int) - 1))) = some r:=by first|(rw [hy369];with_reducible exact H)|(have H2_:=(Option.bind_some _ _).symm.trans H;rw [hy369];with_reducible exact H2_)|(have H2_:=(Option.bind_some _ _).symm.trans H;with_reducible exact H2_)|with_reducible exact H|(rw [hy369];exact H)|exact H
              have Ny369:=zA hy369
              clear hy369
              have H':=zA H
              clear H
              have p359:0≤(x4_2:Int):=zF (by first|(with_reducible assumption)|assumption)
              have q359:x4_2 < (l0.length:Int):=zF (by first|(with_reducible assumption)|assumption)
              obtain ⟨ad359,e359,hx359_0⟩:=Kd.at_int HR0.out x4_2 p359 q359
              cases e359
              replace hx359_0:=(HB.out.cell (zk w _ hx359_0)).trans hx359_0
              replace p359:=eq_true p359
              replace q359:=eq_true q359
              have p360:0≤(x3_1:Int):=zF (by first|(with_reducible assumption)|assumption)
              have q360:x3_1 < (l0.length:Int):=zF (by first|(with_reducible assumption)|assumption)
              obtain ⟨ad360,e360,hx360_0⟩:=Kd.at_int HR0.out x3_1 p360 q360
              obtain rfl:ad359 = ad360:=(by injection e360)
              replace hx360_0:=(HB.out.cell (zk w _ hx360_0)).trans hx360_0
              replace p360:=eq_true p360
              replace q360:=eq_true q360
              go_wp2_with (first|((with_reducible refine gate_dst (N:=43) rfl ?_);refine Kd.R_lit (Kd.int .i64) _ 3 ?hg (N:=43) ?hd (xs:=([]:List Int)) (inner:=[]) (ok:=fun _=>True) (okp:=fun _=>True) ?hr ?hp (fun _ hk=>hk) trivial (Below.refl _ _) (Nat.le_refl _) (by simp) ?_;(case hd=>rfl);(case hg=>rfl);(case hr=>first|(go_simp;done)|(go_simp;rfl));(case hp=>exact (Reps.none _ _));intro v362 w22 ho23 hb hg_ hnew_;clear hg_ hnew_;(first|rw [← Ny361.out] at ho23|(simp only [Int.reduceToNat] at ho23;rw [← Ny361.out] at ho23));have n0_:=zA (zq ho23 (zZ (by repeat (first|(with_reducible first|exact HB.out|apply zD|apply zB|apply zC)|exact HB.out))));have n1_:=zA (za (by repeat (first|(with_reducible first|exact HB.out|apply zD|apply zB|apply zC)|exact HB.out)) hb);clear HB;have HO363:=n0_;have HB:=n1_;clear n0_ n1_;clear hb ho23;obtain ⟨i024,hi024,_,hsz24,_⟩:=info_parts info3;obtain ⟨hcut24,hA24,hC24⟩:=print_take_of (P:=Try.prog) (Value.int .i64) 0 31 3 .i64 Try.underlying31 hi024 hsz24 (some ad359) c0 l0 x3_1 (zF (by first|(with_reducible assumption)|assumption)) (zF (by first|(with_reducible assumption)|assumption)) HC0.out;have HR364:=zA (Kd.C_of_reads (h1:=fun _=>rfl) (hA24 _ (Kd.reads_of_C HR0.out)));have HC364:=zA hC24;clear hA24 hC24 hi024 hsz24)|((with_reducible refine gate_builtin (b:=.append) (xs:=#[.tmp 43,.tmp 46]) rfl ?_);at_builtin;refine Kd.R_append_rows (Kd.int .i64) (w0:=w) w.heap.size rfl (.tmp 43) (.tmp 46) 31 3 (.int .i64 0) 8 rfl Try.underlying31 info3 rfl (by decide) (by omega) v362 y361 (l0.take (x3_1:Int).toNat) _ _ _ (fun _=>True) (fun _=>False) rfl rfl ?aO ?aR (fun _ _ h=>h) (fun _ h=>h.elim) ?aF ?aB ?aS ?aL ?_;(case aR=>first|(have hq_:(l0.take (x3_1:Int).toNat).length = x3_1.toNat:=(by rw [zQ];have h_:(x3_1:Int)≤(l0.length:Int):=zF (by first|(with_reducible assumption)|assumption);omega);have hz_:=zf HR364.out HB.out;rw [hq_] at hz_;exact hz_)|(rw [← show (l0.take (x3_1:Int).toNat).length = x3_1.toNat from (by rw [zQ];have h_:(x3_1:Int)≤(l0.length:Int):=zF (by first|(with_reducible assumption)|assumption);omega)];repeat (first|exact (zf HR364.out HB.out)|(with_reducible exact HR364.out)|(with_reducible refine zW ?_ _)|(with_reducible refine zX ?_ _)|(with_reducible refine zY ?_)))|(repeat (first|exact (zf HR364.out HB.out)|(with_reducible exact HR364.out)|(with_reducible refine zW ?_ _)|(with_reducible refine zX ?_ _)|(with_reducible refine zY ?_))));(case aB=>exact (by repeat (first|(with_reducible first|exact HB.out|apply zD|apply zB|apply zC)|exact HB.out)));(case aF=>exact (fun _ _=>trivial));(case aO=>exact (by (with_reducible repeat (first|apply zK|apply zJ|apply zL));exact HO363.out));(case aS=>exact (zZ (by repeat (first|(with_reducible first|exact HB.out|apply zD|apply zB|apply zC)|exact HB.out))));(case aL=>have:=LMc20.out;have hlx_:=(show (l0.take (x3_1:Int).toNat).length = x3_1.toNat from (by rw [zQ];have h_:(x3_1:Int)≤(l0.length:Int):=zF (by first|(with_reducible assumption)|assumption);omega));omega);intro v366 w25 ho hb hg hat;rw [← Ny365.out] at ho;have n0_:=zA (hb);have n1_:=zA (ho);clear HB;clear HO363;have HB:=n0_;have HO367:=n1_;clear n0_ n1_;clear ho hb hg hat;have p368:0≤(x4_2:Int):=zF (by first|(with_reducible assumption)|assumption);have q368:x4_2 < (l0.length:Int):=zF (by first|(with_reducible assumption)|assumption);obtain ⟨ad368,e368,hx368_0⟩:=Kd.at_int HR0.out x4_2 p368 q368;obtain rfl:ad359 = ad368:=(by injection e368);replace hx368_0:=(HB.out.cell (zk w _ hx368_0)).trans hx368_0;replace p368:=eq_true p368;replace q368:=eq_true q368)|((with_reducible refine gate_builtin (b:=.append) (xs:=#[.tmp 48,.tmp 53]) rfl ?_);at_builtin;refine Kd.R_append (Kd.int .i64) (w0:=w) w.heap.size rfl (.tmp 48) (.tmp 53) 31 3 (.int .i64 0) 8 rfl Try.underlying31 info3 rfl (by decide) (by omega) v366 y365 (rd l0 x4_2) [.int .i64 (rd l0 x4_2)] (fun _=>True) (fun _=>False) rfl rfl ?aP (fun _ hk=>hk.elim) ?aF ?aO ?aB ?aS ?aL ?_;(case aP=>exact rfl);(case aB=>exact (by repeat (first|(with_reducible first|exact HB.out|apply zD|apply zB|apply zC)|exact HB.out)));(case aF=>exact (fun _ _=>trivial));(case aO=>exact (by (with_reducible repeat (first|apply zK|apply zJ|apply zL));exact HO367.out));(case aS=>exact (zZ (by repeat (first|(with_reducible first|exact HB.out|apply zD|apply zB|apply zC)|exact HB.out))));(case aL=>have:=LMc21.out;omega);intro v370 w26 ho hb hg hat;rw [← Ny369.out] at ho;have n0_:=zA (hb);have n1_:=zA (ho);clear HB;clear HO367;have HB:=n0_;have HO371:=n1_;clear n0_ n1_;clear ho hb hg hat))
              repeat (go_quiet (first|((with_reducible refine gate_dst (N:=43) rfl ?_);refine Kd.R_lit (Kd.int .i64) _ 3 ?hg (N:=43) ?hd (xs:=([]:List Int)) (inner:=[]) (ok:=fun _=>True) (okp:=fun _=>True) ?hr ?hp (fun _ hk=>hk) trivial (Below.refl _ _) (Nat.le_refl _) (by simp) ?_;(case hd=>rfl);(case hg=>rfl);(case hr=>first|(go_simp;done)|(go_simp;rfl));(case hp=>exact (Reps.none _ _));intro v362 w22 ho23 hb hg_ hnew_;clear hg_ hnew_;(first|rw [← Ny361.out] at ho23|(simp only [Int.reduceToNat] at ho23;rw [← Ny361.out] at ho23));have n0_:=zA (zq ho23 (zZ (by repeat (first|(with_reducible first|exact HB.out|apply zD|apply zB|apply zC)|exact HB.out))));have n1_:=zA (za (by repeat (first|(with_reducible first|exact HB.out|apply zD|apply zB|apply zC)|exact HB.out)) hb);clear HB;have HO363:=n0_;have HB:=n1_;clear n0_ n1_;clear hb ho23;obtain ⟨i024,hi024,_,hsz24,_⟩:=info_parts info3;obtain ⟨hcut24,hA24,hC24⟩:=print_take_of (P:=Try.prog) (Value.int .i64) 0 31 3 .i64 Try.underlying31 hi024 hsz24 (some ad359) c0 l0 x3_1 (zF (by first|(with_reducible assumption)|assumption)) (zF (by first|(with_reducible assumption)|assumption)) HC0.out;have HR364:=zA (Kd.C_of_reads (h1:=fun _=>rfl) (hA24 _ (Kd.reads_of_C HR0.out)));have HC364:=zA hC24;clear hA24 hC24 hi024 hsz24)|((with_reducible refine gate_builtin (b:=.append) (xs:=#[.tmp 43,.tmp 46]) rfl ?_);at_builtin;refine Kd.R_append_rows (Kd.int .i64) (w0:=w) w.heap.size rfl (.tmp 43) (.tmp 46) 31 3 (.int .i64 0) 8 rfl Try.underlying31 info3 rfl (by decide) (by omega) v362 y361 (l0.take (x3_1:Int).toNat) _ _ _ (fun _=>True) (fun _=>False) rfl rfl ?aO ?aR (fun _ _ h=>h) (fun _ h=>h.elim) ?aF ?aB ?aS ?aL ?_;(case aR=>first|(have hq_:(l0.take (x3_1:Int).toNat).length = x3_1.toNat:=(by rw [zQ];have h_:(x3_1:Int)≤(l0.length:Int):=zF (by first|(with_reducible assumption)|assumption);omega);have hz_:=zf HR364.out HB.out;rw [hq_] at hz_;exact hz_)|(rw [← show (l0.take (x3_1:Int).toNat).length = x3_1.toNat from (by rw [zQ];have h_:(x3_1:Int)≤(l0.length:Int):=zF (by first|(with_reducible assumption)|assumption);omega)];repeat (first|exact (zf HR364.out HB.out)|(with_reducible exact HR364.out)|(with_reducible refine zW ?_ _)|(with_reducible refine zX ?_ _)|(with_reducible refine zY ?_)))|(repeat (first|exact (zf HR364.out HB.out)|(with_reducible exact HR364.out)|(with_reducible refine zW ?_ _)|(with_reducible refine zX ?_ _)|(with_reducible refine zY ?_))));(case aB=>exact (by repeat (first|(with_reducible first|exact HB.out|apply zD|apply zB|apply zC)|exact HB.out)));(case aF=>exact (fun _ _=>trivial));(case aO=>exact (by (with_reducible repeat (first|apply zK|apply zJ|apply zL));exact HO363.out));(case aS=>exact (zZ (by repeat (first|(with_reducible first|exact HB.out|apply zD|apply zB|apply zC)|exact HB.out))));(case aL=>have:=LMc20.out;have hlx_:=(show (l0.take (x3_1:Int).toNat).length = x3_1.toNat from (by rw [zQ];have h_:(x3_1:Int)≤(l0.length:Int):=zF (by first|(with_reducible assumption)|assumption);omega));omega);intro v366 w25 ho hb hg hat;rw [← Ny365.out] at ho;have n0_:=zA (hb);have n1_:=zA (ho);clear HB;clear HO363;have HB:=n0_;have HO367:=n1_;clear n0_ n1_;clear ho hb hg hat;have p368:0≤(x4_2:Int):=zF (by first|(with_reducible assumption)|assumption);have q368:x4_2 < (l0.length:Int):=zF (by first|(with_reducible assumption)|assumption);obtain ⟨ad368,e368,hx368_0⟩:=Kd.at_int HR0.out x4_2 p368 q368;obtain rfl:ad359 = ad368:=(by injection e368);replace hx368_0:=(HB.out.cell (zk w _ hx368_0)).trans hx368_0;replace p368:=eq_true p368;replace q368:=eq_true q368)|((with_reducible refine gate_builtin (b:=.append) (xs:=#[.tmp 48,.tmp 53]) rfl ?_);at_builtin;refine Kd.R_append (Kd.int .i64) (w0:=w) w.heap.size rfl (.tmp 48) (.tmp 53) 31 3 (.int .i64 0) 8 rfl Try.underlying31 info3 rfl (by decide) (by omega) v366 y365 (rd l0 x4_2) [.int .i64 (rd l0 x4_2)] (fun _=>True) (fun _=>False) rfl rfl ?aP (fun _ hk=>hk.elim) ?aF ?aO ?aB ?aS ?aL ?_;(case aP=>exact rfl);(case aB=>exact (by repeat (first|(with_reducible first|exact HB.out|apply zD|apply zB|apply zC)|exact HB.out)));(case aF=>exact (fun _ _=>trivial));(case aO=>exact (by (with_reducible repeat (first|apply zK|apply zJ|apply zL));exact HO367.out));(case aS=>exact (zZ (by repeat (first|(with_reducible first|exact HB.out|apply zD|apply zB|apply zC)|exact HB.out))));(case aL=>have:=LMc21.out;omega);intro v370 w26 ho hb hg hat;rw [← Ny369.out] at ho;have n0_:=zA (hb);have n1_:=zA (ho);clear HB;clear HO367;have HB:=n0_;have HO371:=n1_;clear n0_ n1_;clear ho hb hg hat));try go_wp2_with (first|((with_reducible refine gate_dst (N:=43) rfl ?_);refine Kd.R_lit (Kd.int .i64) _ 3 ?hg (N:=43) ?hd (xs:=([]:List Int)) (inner:=[]) (ok:=fun _=>True) (okp:=fun _=>True) ?hr ?hp (fun _ hk=>hk) trivial (Below.refl _ _) (Nat.le_refl _) (by simp) ?_;(case hd=>rfl);(case hg=>rfl);(case hr=>first|(go_simp;done)|(go_simp;rfl));(case hp=>exact (Reps.none _ _));intro v362 w22 ho23 hb hg_ hnew_;clear hg_ hnew_;(first|rw [← Ny361.out] at ho23|(simp only [Int.reduceToNat] at ho23;rw [← Ny361.out] at ho23));have n0_:=zA (zq ho23 (zZ (by repeat (first|(with_reducible first|exact HB.out|apply zD|apply zB|apply zC)|exact HB.out))));have n1_:=zA (za (by repeat (first|(with_reducible first|exact HB.out|apply zD|apply zB|apply zC)|exact HB.out)) hb);clear HB;have HO363:=n0_;have HB:=n1_;clear n0_ n1_;clear hb ho23;obtain ⟨i024,hi024,_,hsz24,_⟩:=info_parts info3;obtain ⟨hcut24,hA24,hC24⟩:=print_take_of (P:=Try.prog) (Value.int .i64) 0 31 3 .i64 Try.underlying31 hi024 hsz24 (some ad359) c0 l0 x3_1 (zF (by first|(with_reducible assumption)|assumption)) (zF (by first|(with_reducible assumption)|assumption)) HC0.out;have HR364:=zA (Kd.C_of_reads (h1:=fun _=>rfl) (hA24 _ (Kd.reads_of_C HR0.out)));have HC364:=zA hC24;clear hA24 hC24 hi024 hsz24)|((with_reducible refine gate_builtin (b:=.append) (xs:=#[.tmp 43,.tmp 46]) rfl ?_);at_builtin;refine Kd.R_append_rows (Kd.int .i64) (w0:=w) w.heap.size rfl (.tmp 43) (.tmp 46) 31 3 (.int .i64 0) 8 rfl Try.underlying31 info3 rfl (by decide) (by omega) v362 y361 (l0.take (x3_1:Int).toNat) _ _ _ (fun _=>True) (fun _=>False) rfl rfl ?aO ?aR (fun _ _ h=>h) (fun _ h=>h.elim) ?aF ?aB ?aS ?aL ?_;(case aR=>first|(have hq_:(l0.take (x3_1:Int).toNat).length = x3_1.toNat:=(by rw [zQ];have h_:(x3_1:Int)≤(l0.length:Int):=zF (by first|(with_reducible assumption)|assumption);omega);have hz_:=zf HR364.out HB.out;rw [hq_] at hz_;exact hz_)|(rw [← show (l0.take (x3_1:Int).toNat).length = x3_1.toNat from (by rw [zQ];have h_:(x3_1:Int)≤(l0.length:Int):=zF (by first|(with_reducible assumption)|assumption);omega)];repeat (first|exact (zf HR364.out HB.out)|(with_reducible exact HR364.out)|(with_reducible refine zW ?_ _)|(with_reducible refine zX ?_ _)|(with_reducible refine zY ?_)))|(repeat (first|exact (zf HR364.out HB.out)|(with_reducible exact HR364.out)|(with_reducible refine zW ?_ _)|(with_reducible refine zX ?_ _)|(with_reducible refine zY ?_))));(case aB=>exact (by repeat (first|(with_reducible first|exact HB.out|apply zD|apply zB|apply zC)|exact HB.out)));(case aF=>exact (fun _ _=>trivial));(case aO=>exact (by (with_reducible repeat (first|apply zK|apply zJ|apply zL));exact HO363.out));(case aS=>exact (zZ (by repeat (first|(with_reducible first|exact HB.out|apply zD|apply zB|apply zC)|exact HB.out))));(case aL=>have:=LMc20.out;have hlx_:=(show (l0.take (x3_1:Int).toNat).length = x3_1.toNat from (by rw [zQ];have h_:(x3_1:Int)≤(l0.length:Int):=zF (by first|(with_reducible assumption)|assumption);omega));omega);intro v366 w25 ho hb hg hat;rw [← Ny365.out] at ho;have n0_:=zA (hb);have n1_:=zA (ho);clear HB;clear HO363;have HB:=n0_;have HO367:=n1_;clear n0_ n1_;clear ho hb hg hat;have p368:0≤(x4_2:Int):=zF (by first|(with_reducible assumption)|assumption);have q368:x4_2 < (l0.length:Int):=zF (by first|(with_reducible assumption)|assumption);obtain ⟨ad368,e368,hx368_0⟩:=Kd.at_int HR0.out x4_2 p368 q368;obtain rfl:ad359 = ad368:=(by injection e368);replace hx368_0:=(HB.out.cell (zk w _ hx368_0)).trans hx368_0;replace p368:=eq_true p368;replace q368:=eq_true q368)|((with_reducible refine gate_builtin (b:=.append) (xs:=#[.tmp 48,.tmp 53]) rfl ?_);at_builtin;refine Kd.R_append (Kd.int .i64) (w0:=w) w.heap.size rfl (.tmp 48) (.tmp 53) 31 3 (.int .i64 0) 8 rfl Try.underlying31 info3 rfl (by decide) (by omega) v366 y365 (rd l0 x4_2) [.int .i64 (rd l0 x4_2)] (fun _=>True) (fun _=>False) rfl rfl ?aP (fun _ hk=>hk.elim) ?aF ?aO ?aB ?aS ?aL ?_;(case aP=>exact rfl);(case aB=>exact (by repeat (first|(with_reducible first|exact HB.out|apply zD|apply zB|apply zC)|exact HB.out)));(case aF=>exact (fun _ _=>trivial));(case aO=>exact (by (with_reducible repeat (first|apply zK|apply zJ|apply zL));exact HO367.out));(case aS=>exact (zZ (by repeat (first|(with_reducible first|exact HB.out|apply zD|apply zB|apply zC)|exact HB.out))));(case aL=>have:=LMc21.out;omega);intro v370 w26 ho hb hg hat;rw [← Ny369.out] at ho;have n0_:=zA (hb);have n1_:=zA (ho);clear HB;clear HO367;have HB:=n0_;have HO371:=n1_;clear n0_ n1_;clear ho hb hg hat)))
              go_loopg [5,6] k2 (fun kq v5 v6 w' => ∃ (x5_3:List Int) (x6_3:Int),v6 = .int .i64 x6_3∧Aside0 (spec_l3Next.l2 kq l0 x3_1 x4_2 x5_3 x6_3 = some r)∧Aside0 (kq≤k2)∧Aside0 (Kd.R (Kd.int .i64) 3 w' w.heap.size (fun _=>True) v5 x5_3)∧Aside0 (Below w.heap.size w w'))
              case atStart=>exact ⟨(y369),(wrap64 ((l0.length:Int) - 1)),(by first|rfl|(simp;done)|(simp [*];done)),H',⟨Nat.le_refl _⟩,⟨by (with_reducible repeat (first|apply zK|apply zJ|apply zL));exact HO371.out⟩,⟨by repeat (first|(with_reducible first|exact HB.out|apply zD|apply zB|apply zC)|exact HB.out)⟩⟩
              case round =>
               clear H'
               try clear c1
               try clear c2
               try clear p2
               try clear c3
               try clear c3b0
               try clear p3
               try clear q3
               try clear hx3
               try clear c4
               try clear c4b0
               try clear c5
               try clear c5b0
               try clear p6
               try clear c7
               try clear c7b0
               try clear c8
               try clear c8b0
               try clear c9
               try clear c9b0
               try clear c10
               try clear c10b0
               try clear c13
               try clear c13b0
               try clear c14
               try clear c14b0
               try clear c15
               try clear c15b0
               try clear c16
               try clear c16b0
               try clear c17
               try clear c17b0
               try clear c18
               try clear c18b0
               try clear c19
               try clear c19b0
               try clear c19b1
               try clear c20
               try clear c21
               try clear hx354_0
               try clear hx355_0
               try clear hx359_0
               try clear hx360_0
               try clear hx368_0
               try clear p2
               try clear p3
               try clear p354
               try clear p355
               try clear p359
               try clear p360
               try clear p368
               try clear p6
               try clear q3
               try clear q354
               try clear q355
               try clear q359
               try clear q360
               try clear q368
               obtain ⟨x5_3,x6_3,rfl,HA,HK3,HO_5,HB⟩:=hrel
               cases gk with
               | zero=>exact absurd HA.out (by simp [spec_l3Next.l2])
               | succ k3 =>
                have H:=HA.out
                clear HA
                simp only [spec_l3Next.l2] at H
                by_cases c27:x6_3 > x3_1
                ·rw [if_pos c27] at H
                 have c27b0:decide (x3_1 < x6_3) = true:=zU c27
                 clear c27
                 by_cases c28:x6_3 = x4_2
                 ·rw [if_pos c28] at H
                  have c28b0:(x6_3 == x4_2) = true:=beq_iff_eq.mpr c28
                  have c28b1:(x6_3 != x4_2) = false:=bne_eq_false_iff_eq.mpr c28
                  clear c28
                  by_cases c29:0≤x3_1
                  ·rw [if_pos c29] at H
                   have c29b0:decide (0≤x3_1) = true:=zU c29
                   clear c29
                   by_cases c30:x3_1 < (l0.length:Int)
                   ·rw [if_pos c30] at H
                    have c30b0:decide (x3_1 < (l0.length:Int)) = true:=zU c30
                    clear c30
                    by_cases c31:x5_3.length < 17592186044416
                    ·rw [if_pos c31] at H
                     have LMc31:=zA c31
                     clear c31
                     obtain ⟨y373,hy373⟩:∃ y_:List Int,y_ = (x5_3 ++ [rd l0 x3_1]):=⟨_,rfl⟩
                     replace H:(spec_l3Next.l2 k3 l0 x3_1 x4_2 y373 (wrap64 (x6_3 - 1))) = some r:=by first|(rw [hy373];with_reducible exact H)|(have H2_:=(Option.bind_some _ _).symm.trans H;rw [hy373];with_reducible exact H2_)|(have H2_:=(Option.bind_some _ _).symm.trans H;with_reducible exact H2_)|with_reducible exact H|(rw [hy373];exact H)|exact H
                     have Ny373:=zA hy373
                     clear hy373
                     have H':=zA H
                     clear H
                     have p372:0≤(x3_1:Int):=zF (by first|(with_reducible assumption)|assumption)
                     have q372:x3_1 < (l0.length:Int):=zF (by first|(with_reducible assumption)|assumption)
                     obtain ⟨ad372,e372,hx372_0⟩:=Kd.at_int HR0.out x3_1 p372 q372
                     obtain rfl:ad359 = ad372:=(by injection e372)
                     replace hx372_0:=(HB.out.cell (zk w _ hx372_0)).trans hx372_0
                     replace p372:=eq_true p372
                     replace q372:=eq_true q372
                     go_wp2_with (first|((with_reducible refine gate_builtin (b:=.append) (xs:=#[.tmp 66,.tmp 71]) rfl ?_);at_builtin;refine Kd.R_append (Kd.int .i64) (w0:=w) w.heap.size rfl (.tmp 66) (.tmp 71) 31 3 (.int .i64 0) 8 rfl Try.underlying31 info3 rfl (by decide) (by omega) u5 x5_3 (rd l0 x3_1) [.int .i64 (rd l0 x3_1)] (fun _=>True) (fun _=>False) rfl rfl ?aP (fun _ hk=>hk.elim) ?aF ?aO ?aB ?aS ?aL ?_;(case aP=>exact rfl);(case aB=>exact (by repeat (first|(with_reducible first|exact HB.out|apply zD|apply zB|apply zC)|exact HB.out)));(case aF=>exact (fun _ _=>trivial));(case aO=>exact (by (with_reducible repeat (first|apply zK|apply zJ|apply zL));exact HO_5.out));(case aS=>exact (zZ (by repeat (first|(with_reducible first|exact HB.out|apply zD|apply zB|apply zC)|exact HB.out))));(case aL=>have:=LMc31.out;omega);intro v374 w32 ho hb hg hat;rw [← Ny373.out] at ho;have n0_:=zA (hb);have n1_:=zA (ho);clear HB;clear HO_5;have HB:=n0_;have HO375:=n1_;clear n0_ n1_;clear ho hb hg hat))
                     repeat (go_quiet (first|((with_reducible refine gate_builtin (b:=.append) (xs:=#[.tmp 66,.tmp 71]) rfl ?_);at_builtin;refine Kd.R_append (Kd.int .i64) (w0:=w) w.heap.size rfl (.tmp 66) (.tmp 71) 31 3 (.int .i64 0) 8 rfl Try.underlying31 info3 rfl (by decide) (by omega) u5 x5_3 (rd l0 x3_1) [.int .i64 (rd l0 x3_1)] (fun _=>True) (fun _=>False) rfl rfl ?aP (fun _ hk=>hk.elim) ?aF ?aO ?aB ?aS ?aL ?_;(case aP=>exact rfl);(case aB=>exact (by repeat (first|(with_reducible first|exact HB.out|apply zD|apply zB|apply zC)|exact HB.out)));(case aF=>exact (fun _ _=>trivial));(case aO=>exact (by (with_reducible repeat (first|apply zK|apply zJ|apply zL));exact HO_5.out));(case aS=>exact (zZ (by repeat (first|(with_reducible first|exact HB.out|apply zD|apply zB|apply zC)|exact HB.out))));(case aL=>have:=LMc31.out;omega);intro v374 w32 ho hb hg hat;rw [← Ny373.out] at ho;have n0_:=zA (hb);have n1_:=zA (ho);clear HB;clear HO_5;have HB:=n0_;have HO375:=n1_;clear n0_ n1_;clear ho hb hg hat));try go_wp2_with (first|((with_reducible refine gate_builtin (b:=.append) (xs:=#[.tmp 66,.tmp 71]) rfl ?_);at_builtin;refine Kd.R_append (Kd.int .i64) (w0:=w) w.heap.size rfl (.tmp 66) (.tmp 71) 31 3 (.int .i64 0) 8 rfl Try.underlying31 info3 rfl (by decide) (by omega) u5 x5_3 (rd l0 x3_1) [.int .i64 (rd l0 x3_1)] (fun _=>True) (fun _=>False) rfl rfl ?aP (fun _ hk=>hk.elim) ?aF ?aO ?aB ?aS ?aL ?_;(case aP=>exact rfl);(case aB=>exact (by repeat (first|(with_reducible first|exact HB.out|apply zD|apply zB|apply zC)|exact HB.out)));(case aF=>exact (fun _ _=>trivial));(case aO=>exact (by (with_reducible repeat (first|apply zK|apply zJ|apply zL));exact HO_5.out));(case aS=>exact (zZ (by repeat (first|(with_reducible first|exact HB.out|apply zD|apply zB|apply zC)|exact HB.out))));(case aL=>have:=LMc31.out;omega);intro v374 w32 ho hb hg hat;rw [← Ny373.out] at ho;have n0_:=zA (hb);have n1_:=zA (ho);clear HB;clear HO_5;have HB:=n0_;have HO375:=n1_;clear n0_ n1_;clear ho hb hg hat)))
                     go_roundg k3
                     case measure=>have:=HJ1.out;have:=HK2.out;have:=HK3.out;omega
                     case rel=>exact ⟨(y373),(wrap64 (x6_3 - 1)),(by first|rfl|(simp;done)|(simp [*];done)),H',⟨by have:=HJ1.out;have:=HK2.out;have:=HK3.out;omega⟩,⟨by (with_reducible repeat (first|apply zK|apply zJ|apply zL));exact HO375.out⟩,⟨by repeat (first|(with_reducible first|exact HB.out|apply zD|apply zB|apply zC)|exact HB.out)⟩⟩
                    ·rw [if_neg c31] at H
                     exact absurd H (by simp)
                   ·rw [if_neg c30] at H
                    exact absurd H (by simp)
                  ·rw [if_neg c29] at H
                   exact absurd H (by simp)
                 ·rw [if_neg c28] at H
                  have c28b0:(x6_3 == x4_2) = false:=beq_eq_false_iff_ne.mpr c28
                  have c28b1:(x6_3 != x4_2) = true:=bne_iff_ne.mpr c28
                  by_cases c33:0≤x6_3
                  ·rw [if_pos c33] at H
                   have c33b0:decide (0≤x6_3) = true:=zU c33
                   clear c33
                   by_cases c34:x6_3 < (l0.length:Int)
                   ·rw [if_pos c34] at H
                    have c34b0:decide (x6_3 < (l0.length:Int)) = true:=zU c34
                    clear c34
                    by_cases c35:x5_3.length < 17592186044416
                    ·rw [if_pos c35] at H
                     have LMc35:=zA c35
                     clear c35
                     obtain ⟨y377,hy377⟩:∃ y_:List Int,y_ = (x5_3 ++ [rd l0 x6_3]):=⟨_,rfl⟩
                     replace H:(spec_l3Next.l2 k3 l0 x3_1 x4_2 y377 (wrap64 (x6_3 - 1))) = some r:=by first|(rw [hy377];with_reducible exact H)|(have H2_:=(Option.bind_some _ _).symm.trans H;rw [hy377];with_reducible exact H2_)|(have H2_:=(Option.bind_some _ _).symm.trans H;with_reducible exact H2_)|with_reducible exact H|(rw [hy377];exact H)|exact H
                     have Ny377:=zA hy377
                     clear hy377
                     have H':=zA H
                     clear H
                     have p376:0≤(x6_3:Int):=zF (by first|(with_reducible assumption)|assumption)
                     have q376:x6_3 < (l0.length:Int):=zF (by first|(with_reducible assumption)|assumption)
                     obtain ⟨ad376,e376,hx376_0⟩:=Kd.at_int HR0.out x6_3 p376 q376
                     obtain rfl:ad359 = ad376:=(by injection e376)
                     replace hx376_0:=(HB.out.cell (zk w _ hx376_0)).trans hx376_0
                     replace p376:=eq_true p376
                     replace q376:=eq_true q376
                     go_wp2_with (first|((with_reducible refine gate_builtin (b:=.append) (xs:=#[.tmp 73,.tmp 78]) rfl ?_);at_builtin;refine Kd.R_append (Kd.int .i64) (w0:=w) w.heap.size rfl (.tmp 73) (.tmp 78) 31 3 (.int .i64 0) 8 rfl Try.underlying31 info3 rfl (by decide) (by omega) u5 x5_3 (rd l0 x6_3) [.int .i64 (rd l0 x6_3)] (fun _=>True) (fun _=>False) rfl rfl ?aP (fun _ hk=>hk.elim) ?aF ?aO ?aB ?aS ?aL ?_;(case aP=>exact rfl);(case aB=>exact (by repeat (first|(with_reducible first|exact HB.out|apply zD|apply zB|apply zC)|exact HB.out)));(case aF=>exact (fun _ _=>trivial));(case aO=>exact (by (with_reducible repeat (first|apply zK|apply zJ|apply zL));exact HO_5.out));(case aS=>exact (zZ (by repeat (first|(with_reducible first|exact HB.out|apply zD|apply zB|apply zC)|exact HB.out))));(case aL=>have:=LMc35.out;omega);intro v378 w36 ho hb hg hat;rw [← Ny377.out] at ho;have n0_:=zA (hb);have n1_:=zA (ho);clear HB;clear HO_5;have HB:=n0_;have HO379:=n1_;clear n0_ n1_;clear ho hb hg hat))
                     repeat (go_quiet (first|((with_reducible refine gate_builtin (b:=.append) (xs:=#[.tmp 73,.tmp 78]) rfl ?_);at_builtin;refine Kd.R_append (Kd.int .i64) (w0:=w) w.heap.size rfl (.tmp 73) (.tmp 78) 31 3 (.int .i64 0) 8 rfl Try.underlying31 info3 rfl (by decide) (by omega) u5 x5_3 (rd l0 x6_3) [.int .i64 (rd l0 x6_3)] (fun _=>True) (fun _=>False) rfl rfl ?aP (fun _ hk=>hk.elim) ?aF ?aO ?aB ?aS ?aL ?_;(case aP=>exact rfl);(case aB=>exact (by repeat (first|(with_reducible first|exact HB.out|apply zD|apply zB|apply zC)|exact HB.out)));(case aF=>exact (fun _ _=>trivial));(case aO=>exact (by (with_reducible repeat (first|apply zK|apply zJ|apply zL));exact HO_5.out));(case aS=>exact (zZ (by repeat (first|(with_reducible first|exact HB.out|apply zD|apply zB|apply zC)|exact HB.out))));(case aL=>have:=LMc35.out;omega);intro v378 w36 ho hb hg hat;rw [← Ny377.out] at ho;have n0_:=zA (hb);have n1_:=zA (ho);clear HB;clear HO_5;have HB:=n0_;have HO379:=n1_;clear n0_ n1_;clear ho hb hg hat));try go_wp2_with (first|((with_reducible refine gate_builtin (b:=.append) (xs:=#[.tmp 73,.tmp 78]) rfl ?_);at_builtin;refine Kd.R_append (Kd.int .i64) (w0:=w) w.heap.size rfl (.tmp 73) (.tmp 78) 31 3 (.int .i64 0) 8 rfl Try.underlying31 info3 rfl (by decide) (by omega) u5 x5_3 (rd l0 x6_3) [.int .i64 (rd l0 x6_3)] (fun _=>True) (fun _=>False) rfl rfl ?aP (fun _ hk=>hk.elim) ?aF ?aO ?aB ?aS ?aL ?_;(case aP=>exact rfl);(case aB=>exact (by repeat (first|(with_reducible first|exact HB.out|apply zD|apply zB|apply zC)|exact HB.out)));(case aF=>exact (fun _ _=>trivial));(case aO=>exact (by (with_reducible repeat (first|apply zK|apply zJ|apply zL));exact HO_5.out));(case aS=>exact (zZ (by repeat (first|(with_reducible first|exact HB.out|apply zD|apply zB|apply zC)|exact HB.out))));(case aL=>have:=LMc35.out;omega);intro v378 w36 ho hb hg hat;rw [← Ny377.out] at ho;have n0_:=zA (hb);have n1_:=zA (ho);clear HB;clear HO_5;have HB:=n0_;have HO379:=n1_;clear n0_ n1_;clear ho hb hg hat)))
                     go_roundg k3
                     case measure=>have:=HJ1.out;have:=HK2.out;have:=HK3.out;omega
                     case rel=>exact ⟨(y377),(wrap64 (x6_3 - 1)),(by first|rfl|(simp;done)|(simp [*];done)),H',⟨by have:=HJ1.out;have:=HK2.out;have:=HK3.out;omega⟩,⟨by (with_reducible repeat (first|apply zK|apply zJ|apply zL));exact HO379.out⟩,⟨by repeat (first|(with_reducible first|exact HB.out|apply zD|apply zB|apply zC)|exact HB.out)⟩⟩
                    ·rw [if_neg c35] at H
                     exact absurd H (by simp)
                   ·rw [if_neg c34] at H
                    exact absurd H (by simp)
                  ·rw [if_neg c33] at H
                   exact absurd H (by simp)
                ·rw [if_neg c27] at H
                 have c27b0:decide (x3_1 < x6_3) = false:=zV c27
                 clear c27
                 obtain rfl:=zb H
                 go_wp2
                 repeat (go_quiet (fail);try go_wp2)
                 go_ret
                 exact ⟨_,by first|rfl|(simp [errW_none,errW_some] <;> rfl)|(simp [*,errW_none,errW_some] <;> rfl),by (with_reducible repeat (first|apply zK|apply zJ|apply zL));exact HO_5.out,by repeat (first|(with_reducible first|exact HB.out|apply zD|apply zB|apply zC)|exact HB.out)⟩
             ·rw [if_neg c21] at H
              exact absurd H (by simp)
            ·rw [if_neg c20] at H
             exact absurd H (by simp)
           ·rw [if_neg c19] at H
            exact absurd H (by simp)
         ·rw [if_neg c16] at H
          exact absurd H (by simp)
        ·rw [if_neg c15] at H
         exact absurd H (by simp)
       ·rw [if_neg c14] at H
        exact absurd H (by simp)
      ·rw [if_neg c13] at H
       exact absurd H (by simp)

end Go.Proofs.Ytdaiohcgdpclnaa.Q
