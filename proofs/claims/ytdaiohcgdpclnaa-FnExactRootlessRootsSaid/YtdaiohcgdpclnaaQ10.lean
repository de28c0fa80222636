import Derived.Test.YtdaiohcgdpclnaaQ0
import Derived.Test.YtdaiohcgdpclnaaQ7
import Derived.Test.YtdaiohcgdpclnaaZ
namespace Go.Proofs.Ytdaiohcgdpclnaa.Q
open Go.RowKit Go.Proofs.YtdaiohcgdpclnaaW.PrintWords Go.Proofs.YtdaiohcgdpclnaaW.PrintLast Go.Proofs.YtdaiohcgdpclnaaW.PrintMore
attribute [local go_sem] max2_int min2_int max_two min_two max_three min_three max_four min_four   -- for this text's walks alone
set_option linter.unusedVariables false
set_option linter.unusedSimpArgs false

/-! ### spec_l3Flip: function 73 -/
def spec_l3Flip.l0:Nat→Int→List Int→Int→Option (List Int)
 | 0,_,_,_=>none
 | k+1,x0,x3,x4=>if x4 < x0 then ((some (([wrap64 ((wrap64 (2 * x4))+1),wrap64 (2 * x4)]:List Int):List Int)).bind fun y367=>(if x3.length+y367.length < 17592186044416 then (spec_l3Flip.l0 k x0 (x3 ++ y367) (wrap64 (x4+1))) else (none))) else (some x3)
def spec_l3Flip.f (k:Nat) (a0:Int):Option (List Int):=spec_l3Flip.l0 k a0 (([]:List Int)) 0
theorem spec_l3Flip.mono_l:∀ k,(∀ y0 y1 y2,LeO (spec_l3Flip.l0 k y0 y1 y2) (spec_l3Flip.l0 (k+1) y0 y1 y2))
 | 0=>fun _ _ _ r h=>by simp [spec_l3Flip.l0] at h
 | k+1=>by
  have ih0:=spec_l3Flip.mono_l k
  ·intro y0 y1 y2
   unfold spec_l3Flip.l0
   repeat' first
   | (with_reducible exact ih0 _ _ _)
   | (with_reducible exact LeO.refl _)
   | (with_reducible exact za _)
   | (with_reducible refine zc ?_ ?_)
   | (with_reducible refine zb ?_ (fun _=>?_))
theorem spec_l3Flip.mono:∀ a0 k,LeO (spec_l3Flip.f k a0) (spec_l3Flip.f (k+1) a0):=by
 intro a0 k
 have ih0:=spec_l3Flip.mono_l k
 unfold spec_l3Flip.f
 repeat' first
   | (with_reducible exact ih0 _ _ _)
   | (with_reducible exact LeO.refl _)
   | (with_reducible exact za _)
   | (with_reducible refine zc ?_ ?_)
   | (with_reducible refine zb ?_ (fun _=>?_))
set_option maxHeartbeats 8000000 in
set_option maxRecDepth 100000 in
theorem spec_l3Flip.calls (k:Nat) (a0:Int) (r:List Int) (w:World) (h:spec_l3Flip.f k a0 = some r) :
  Calls Try.prog 73 #[.int .i64 a0] w fun e w' => ∃ v0_:Value,e = .returned (v0_)∧Kd.R (Kd.int .i64) 3 w' w.heap.size (fun _=>True) v0_ r∧Below w.heap.size w w':=by
 have HB:=zA (Below.refl w.heap.size w)
 have H:(spec_l3Flip.l0 k a0 (([]:List Int)) 0) = some r:=h
 clear h
 obtain ⟨y364,hy364⟩:∃ y_:List Int,y_ = (([]:List Int)):=⟨_,rfl⟩
 replace H:(spec_l3Flip.l0 k a0 y364 0) = some r:=by (try rw [hy364]);first|with_reducible exact H|with_reducible exact zS_ H|exact H
 have Ny364:=zA hy364
 clear hy364
 have H':=zA H
 clear H
 go_enter Try.func73,Try.ntmps73
 go_wp2_with (first|((with_reducible refine gate_dst (N:=5) rfl ?_);refine Kd.R_lit (Kd.int .i64) _ 3 ?hg (N:=5) ?hd (xs:=([]:List Int)) (inner:=[]) (ok:=fun _=>True) (okp:=fun _=>True) ?hr ?hp (fun _ hk=>hk) trivial (Below.refl _ _) (Nat.le_refl _) (by simp) ?_;(case hd=>rfl);(case hg=>rfl);(case hr=>first|(go_simp;done)|(go_simp;rfl));(case hp=>exact (Reps.none _ _));intro v365 w2 ho3 hb hg_ hnew_;clear hg_ hnew_;(first|rw [← Ny364.out] at ho3|(simp only [Int.reduceToNat] at ho3;rw [← Ny364.out] at ho3));have n0_:=zA (ze ho3 (zQ (by exact zB_ HB.out)));have n1_:=zA (zR (by exact zB_ HB.out) hb);clear HB;have HO366:=n0_;have HB:=n1_;clear n0_ n1_;clear hb ho3))
 go_loopg [3,4] k (fun kq v3 v4 w' => ∃ (x3_1:List Int) (x4_1:Int),v4 = .int .i64 x4_1∧Aside0 (spec_l3Flip.l0 kq a0 x3_1 x4_1 = some r)∧Aside0 (kq≤k)∧Aside0 (Kd.R (Kd.int .i64) 3 w' w.heap.size (fun _=>True) v3 x3_1)∧Aside0 (Below w.heap.size w w'))
 case atStart=>exact ⟨(y364),(0),(by first|rfl|(simp;done)|(simp [*];done)),H',⟨Nat.le_refl _⟩,⟨by apply zR_;exact HO366.out⟩,⟨by exact zB_ HB.out⟩⟩
 case round =>
  clear H'
  (try clear p2)
  obtain ⟨x3_1,x4_1,rfl,HA,HK1,HO_3,HB⟩:=hrel
  cases gk with
  | zero=>exact absurd HA.out (by simp [spec_l3Flip.l0])
  | succ k1 =>
   have H:=HA.out
   clear HA
   simp only [spec_l3Flip.l0] at H
   by_cases c4:x4_1 < a0
   ·rw [if_pos c4] at H
    have c4b0:decide (x4_1 < a0) = true:=zO c4
    clear c4
    obtain ⟨y367,hy367⟩:∃ y_:List Int,y_ = (([wrap64 ((wrap64 (2 * x4_1))+1),wrap64 (2 * x4_1)]:List Int)):=⟨_,rfl⟩
    replace H:(if x3_1.length+y367.length < 17592186044416 then (spec_l3Flip.l0 k1 a0 (x3_1 ++ y367) (wrap64 (x4_1+1))) else (none)) = some r:=by (try rw [hy367]);first|with_reducible exact H|with_reducible exact zS_ H|exact H
    have Ny367:=zA hy367
    clear hy367
    by_cases c5:x3_1.length+y367.length < 17592186044416
    ·rw [if_pos c5] at H
     have LMc5:=zA c5
     clear c5
     obtain ⟨y370,hy370⟩:∃ y_:List Int,y_ = (x3_1 ++ y367):=⟨_,rfl⟩
     replace H:(spec_l3Flip.l0 k1 a0 y370 (wrap64 (x4_1+1))) = some r:=by (try rw [hy370]);first|with_reducible exact H|with_reducible exact zS_ H|exact H
     have Ny370:=zA hy370
     clear hy370
     have H':=zA H
     clear H
     go_wp2_with (first|((with_reducible refine gate_dst (N:=17) rfl ?_);refine Kd.R_lit (Kd.int .i64) _ 3 ?hg (N:=17) ?hd (xs:=([wrap64 ((wrap64 (2 * x4_1))+1),wrap64 (2 * x4_1)]:List Int)) (inner:=[.int .i64 (wrap64 ((wrap64 (2 * x4_1))+1)),.int .i64 (wrap64 (2 * x4_1))]) (ok:=fun _=>True) (okp:=fun _=>True) ?hr ?hp (fun _ hk=>hk) trivial (Below.refl _ _) (Nat.le_refl _) (by simp) ?_;(case hd=>rfl);(case hg=>rfl);(case hr=>first|(go_simp;done)|(go_simp;rfl));(case hp=>exact (Reps.one (show Kd.M (Kd.int .i64) _ _ _ (wrap64 ((wrap64 (2 * x4_1))+1)) [.int .i64 (wrap64 ((wrap64 (2 * x4_1))+1))] from rfl) (Reps.one (show Kd.M (Kd.int .i64) _ _ _ (wrap64 (2 * x4_1)) [.int .i64 (wrap64 (2 * x4_1))] from rfl) (Reps.none _ _))));intro v368 w6 ho7 hb hg_ hnew_;clear hg_ hnew_;(first|rw [← Ny367.out] at ho7|(simp only [Int.reduceToNat] at ho7;rw [← Ny367.out] at ho7));have n0_:=zA (Kd.R_elder' (by apply zR_;exact HO_3.out) (zd ho7) hb);have n1_:=zA (ze (zh ho7 (Kd.R_lt (by apply zR_;exact HO_3.out))) (zQ (by exact zB_ HB.out)));have n2_:=zA (zR (by exact zB_ HB.out) hb);clear HO_3;clear HB;have HO_3:=n0_;have HO369:=n1_;have HB:=n2_;clear n0_ n1_ n2_;clear hb ho7;obtain ⟨Ao9,co9,eo9⟩:=zg HO369.out;subst eo9)|((with_reducible refine gate_builtin (b:=.append) (xs:=#[.tmp 11,.tmp 17]) rfl ?_);at_builtin;refine Kd.R_append_rows (Kd.int .i64) (w0:=w) w.heap.size rfl (.tmp 11) (.tmp 17) 31 3 (.int .i64 0) 8 rfl Try.underlying31 info3 rfl (by decide) (by omega) u3 x3_1 y367 _ _ _ (fun k_=>some k_≠(.slice Ao9 y367.length co9:Value).ownBlock) (fun _=>False) rfl rfl ?aO ?aR (fun _ _ h=>h) (fun _ h=>h.elim) ?aF ?aB ?aS ?aL ?_;(case aR=>repeat (first|exact (zU HO369.out).2.2|apply zC_));(case aB=>exact (by exact zB_ HB.out));(case aF=>exact (fun k_ hk=>Kd.fresh' (Kd.R_lt (by apply zR_;exact HO369.out)) k_ hk));(case aO=>exact (by apply zR_;exact zV HO_3.out (fun _ hk=>hk.2)));(case aS=>exact (zQ (by exact zB_ HB.out)));(case aL=>have:=LMc5.out;omega);intro v371 w8 ho hb hg hat;rw [← Ny370.out] at ho;have n0_:=zA (Kd.R_after (ok:=(fun _=>True)) (by apply zR_;exact HO369.out) hg hat);have n1_:=zA (hb);have n2_:=zA (ho);clear HO369;clear HB;clear HO_3;have HO369:=n0_;have HB:=n1_;have HO372:=n2_;clear n0_ n1_ n2_;clear ho hb hg hat))
     go_roundg k1
     case measure=>have:=HK1.out;omega
     case rel=>exact ⟨(y370),(wrap64 (x4_1+1)),(by first|rfl|(simp;done)|(simp [*];done)),H',⟨by have:=HK1.out;omega⟩,⟨by apply zR_;exact zV HO372.out (fun _ hk=>trivial)⟩,⟨by exact zB_ HB.out⟩⟩
    ·rw [if_neg c5] at H
     exact absurd H (by simp)
   ·rw [if_neg c4] at H
    have c4b0:decide (x4_1 < a0) = false:=zP c4
    clear c4
    obtain rfl:=zS H
    go_wp2
    go_ret
    exact ⟨_,by first|rfl|(simp [errW_none,errW_some] <;> rfl)|(simp [*,errW_none,errW_some] <;> rfl),by apply zR_;exact HO_3.out,by exact zB_ HB.out⟩

/-! ### spec_l1Same: function 74 -/
def spec_l1Same.l0:Nat→Int→List Int→Int→Option (List Int)
 | 0,_,_,_=>none
 | k+1,x0,x3,x4=>if x4 < x0 then (if x3.length < 17592186044416 then (spec_l1Same.l0 k x0 (x3 ++ [x4]) (wrap64 (x4+1))) else (none)) else (some x3)
def spec_l1Same.f (k:Nat) (a0:Int):Option (List Int):=spec_l1Same.l0 k a0 (([]:List Int)) 0
theorem spec_l1Same.mono_l:∀ k,(∀ y0 y1 y2,LeO (spec_l1Same.l0 k y0 y1 y2) (spec_l1Same.l0 (k+1) y0 y1 y2))
 | 0=>fun _ _ _ r h=>by simp [spec_l1Same.l0] at h
 | k+1=>by
  have ih0:=spec_l1Same.mono_l k
  ·intro y0 y1 y2
   unfold spec_l1Same.l0
   repeat' first
   | (with_reducible exact ih0 _ _ _)
   | (with_reducible exact LeO.refl _)
   | (with_reducible exact za _)
   | (with_reducible refine zc ?_ ?_)
   | (with_reducible refine zb ?_ (fun _=>?_))
theorem spec_l1Same.mono:∀ a0 k,LeO (spec_l1Same.f k a0) (spec_l1Same.f (k+1) a0):=by
 intro a0 k
 have ih0:=spec_l1Same.mono_l k
 unfold spec_l1Same.f
 repeat' first
   | (with_reducible exact ih0 _ _ _)
   | (with_reducible exact LeO.refl _)
   | (with_reducible exact za _)
   | (with_reducible refine zc ?_ ?_)
   | (with_reducible refine zb ?_ (fun _=>?_))
set_option maxHeartbeats 8000000 in
set_option maxRecDepth 100000 in
theorem spec_l1Same.calls (k:Nat) (a0:Int) (r:List Int) (w:World) (h:spec_l1Same.f k a0 = some r) :
  Calls Try.prog 74 #[.int .i64 a0] w fun e w' => ∃ v0_:Value,e = .returned (v0_)∧Kd.R (Kd.int .i64) 3 w' w.heap.size (fun _=>True) v0_ r∧Below w.heap.size w w':=by
 have HB:=zA (Below.refl w.heap.size w)
 have H:(spec_l1Same.l0 k a0 (([]:List Int)) 0) = some r:=h
 clear h
 obtain ⟨y373,hy373⟩:∃ y_:List Int,y_ = (([]:List Int)):=⟨_,rfl⟩
 replace H:(spec_l1Same.l0 k a0 y373 0) = some r:=by (try rw [hy373]);first|with_reducible exact H|with_reducible exact zS_ H|exact H
 have Ny373:=zA hy373
 clear hy373
 have H':=zA H
 clear H
 go_enter Try.func74,Try.ntmps74
 go_wp2_with (first|((with_reducible refine gate_dst (N:=5) rfl ?_);refine Kd.R_lit (Kd.int .i64) _ 3 ?hg (N:=5) ?hd (xs:=([]:List Int)) (inner:=[]) (ok:=fun _=>True) (okp:=fun _=>True) ?hr ?hp (fun _ hk=>hk) trivial (Below.refl _ _) (Nat.le_refl _) (by simp) ?_;(case hd=>rfl);(case hg=>rfl);(case hr=>first|(go_simp;done)|(go_simp;rfl));(case hp=>exact (Reps.none _ _));intro v374 w2 ho3 hb hg_ hnew_;clear hg_ hnew_;(first|rw [← Ny373.out] at ho3|(simp only [Int.reduceToNat] at ho3;rw [← Ny373.out] at ho3));have n0_:=zA (ze ho3 (zQ (by exact zB_ HB.out)));have n1_:=zA (zR (by exact zB_ HB.out) hb);clear HB;have HO375:=n0_;have HB:=n1_;clear n0_ n1_;clear hb ho3))
 go_loopg [3,4] k (fun kq v3 v4 w' => ∃ (x3_1:List Int) (x4_1:Int),v4 = .int .i64 x4_1∧Aside0 (spec_l1Same.l0 kq a0 x3_1 x4_1 = some r)∧Aside0 (kq≤k)∧Aside0 (Kd.R (Kd.int .i64) 3 w' w.heap.size (fun _=>True) v3 x3_1)∧Aside0 (Below w.heap.size w w'))
 case atStart=>exact ⟨(y373),(0),(by first|rfl|(simp;done)|(simp [*];done)),H',⟨Nat.le_refl _⟩,⟨by apply zR_;exact HO375.out⟩,⟨by exact zB_ HB.out⟩⟩
 case round =>
  clear H'
  (try clear p2)
  obtain ⟨x3_1,x4_1,rfl,HA,HK1,HO_3,HB⟩:=hrel
  cases gk with
  | zero=>exact absurd HA.out (by simp [spec_l1Same.l0])
  | succ k1 =>
   have H:=HA.out
   clear HA
   simp only [spec_l1Same.l0] at H
   by_cases c4:x4_1 < a0
   ·rw [if_pos c4] at H
    have c4b0:decide (x4_1 < a0) = true:=zO c4
    clear c4
    by_cases c5:x3_1.length < 17592186044416
    ·rw [if_pos c5] at H
     have LMc5:=zA c5
     clear c5
     obtain ⟨y376,hy376⟩:∃ y_:List Int,y_ = (x3_1 ++ [x4_1]):=⟨_,rfl⟩
     replace H:(spec_l1Same.l0 k1 a0 y376 (wrap64 (x4_1+1))) = some r:=by (try rw [hy376]);first|with_reducible exact H|with_reducible exact zS_ H|exact H
     have Ny376:=zA hy376
     clear hy376
     have H':=zA H
     clear H
     go_wp2_with (first|((with_reducible refine gate_builtin (b:=.append) (xs:=#[.tmp 11,.tmp 13]) rfl ?_);at_builtin;refine Kd.R_append (Kd.int .i64) (w0:=w) w.heap.size rfl (.tmp 11) (.tmp 13) 31 3 (.int .i64 0) 8 rfl Try.underlying31 info3 rfl (by decide) (by omega) u3 x3_1 x4_1 [.int .i64 x4_1] (fun _=>True) (fun _=>False) rfl rfl ?aP (fun _ hk=>hk.elim) ?aF ?aO ?aB ?aS ?aL ?_;(case aP=>exact rfl);(case aB=>exact (by exact zB_ HB.out));(case aF=>exact (fun _ _=>trivial));(case aO=>exact (by apply zR_;exact HO_3.out));(case aS=>exact (zQ (by exact zB_ HB.out)));(case aL=>have:=LMc5.out;omega);intro v377 w6 ho hb hg hat;rw [← Ny376.out] at ho;have n0_:=zA (hb);have n1_:=zA (ho);clear HB;clear HO_3;have HB:=n0_;have HO378:=n1_;clear n0_ n1_;clear ho hb hg hat))
     go_roundg k1
     case measure=>have:=HK1.out;omega
     case rel=>exact ⟨(y376),(wrap64 (x4_1+1)),(by first|rfl|(simp;done)|(simp [*];done)),H',⟨by have:=HK1.out;omega⟩,⟨by apply zR_;exact HO378.out⟩,⟨by exact zB_ HB.out⟩⟩
    ·rw [if_neg c5] at H
     exact absurd H (by simp)
   ·rw [if_neg c4] at H
    have c4b0:decide (x4_1 < a0) = false:=zP c4
    clear c4
    obtain rfl:=zS H
    go_wp2
    go_ret
    exact ⟨_,by first|rfl|(simp [errW_none,errW_some] <;> rfl)|(simp [*,errW_none,errW_some] <;> rfl),by apply zR_;exact HO_3.out,by exact zB_ HB.out⟩

/-! ### spec_l3Next: function 75 -/
mutual
def spec_l3Next.j1:Nat→List Int→Int→Option (List Int)
 | 0,_,_=>none
 | k+1,x0,x3=>if x3 < 0 then (some (([]:List Int))) else (spec_l3Next.l1 k x0 x3 (wrap64 ((x0.length:Int) - 1)))
def spec_l3Next.l1:Nat→List Int→Int→Int→Option (List Int)
 | 0,_,_,_=>none
 | k+1,x0,x3,x4=>if 0≤x4 then (if x4 < (x0.length:Int) then (if 0≤x3 then (if x3 < (x0.length:Int) then (if (rd x0 x4) < (rd x0 x3) then (spec_l3Next.l1 k x0 x3 (wrap64 (x4 - 1))) else ((some (([]:List Int):List Int)).bind fun y386=>(if x3≤(x0.length:Int) then (if y386.length+(x0.take (x3:Int).toNat).length < 17592186044416 then ((some (y386 ++ (x0.take (x3:Int).toNat):List Int)).bind fun y390=>(if y390.length < 17592186044416 then (spec_l3Next.l2 k x0 x3 x4 (y390 ++ [rd x0 x4]) (wrap64 ((x0.length:Int) - 1))) else (none))) else (none)) else (none)))) else (none)) else (none)) else (none)) else (none)
def spec_l3Next.l2:Nat→List Int→Int→Int→List Int→Int→Option (List Int)
 | 0,_,_,_,_,_=>none
 | k+1,x0,x3,x4,x5,x6=>if x6 > x3 then (if x6 = x4 then (if 0≤x3 then (if x3 < (x0.length:Int) then (if x5.length < 17592186044416 then (spec_l3Next.l2 k x0 x3 x4 (x5 ++ [rd x0 x3]) (wrap64 (x6 - 1))) else (none)) else (none)) else (none)) else (if 0≤x6 then (if x6 < (x0.length:Int) then (if x5.length < 17592186044416 then (spec_l3Next.l2 k x0 x3 x4 (x5 ++ [rd x0 x6]) (wrap64 (x6 - 1))) else (none)) else (none)) else (none))) else (some x5)
def spec_l3Next.l0:Nat→List Int→Int→Option (List Int)
 | 0,_,_=>none
 | k+1,x0,x3=>if x3 ≥ 0 then (if 0≤x3 then (if x3 < (x0.length:Int) then (if 0≤(wrap64 (x3+1)) then (if (wrap64 (x3+1)) < (x0.length:Int) then (if (rd x0 x3) > (rd x0 (wrap64 (x3+1))) then (spec_l3Next.l0 k x0 (wrap64 (x3 - 1))) else (spec_l3Next.j1 k x0 x3)) else (none)) else (none)) else (none)) else (none)) else (spec_l3Next.j1 k x0 x3)
end
def spec_l3Next.f (k:Nat) (l0:List Int):Option (List Int):=spec_l3Next.l0 k l0 (wrap64 ((l0.length:Int) - 2))
theorem spec_l3Next.mono_l:∀ k,(∀ y0 y1,LeO (spec_l3Next.j1 k y0 y1) (spec_l3Next.j1 (k+1) y0 y1))∧(∀ y0 y1 y2,LeO (spec_l3Next.l1 k y0 y1 y2) (spec_l3Next.l1 (k+1) y0 y1 y2))∧(∀ y0 y1 y2 y3 y4,LeO (spec_l3Next.l2 k y0 y1 y2 y3 y4) (spec_l3Next.l2 (k+1) y0 y1 y2 y3 y4))∧(∀ y0 y1,LeO (spec_l3Next.l0 k y0 y1) (spec_l3Next.l0 (k+1) y0 y1))
 | 0=>⟨fun _ _ r h=>by simp [spec_l3Next.j1] at h,fun _ _ _ r h=>by simp [spec_l3Next.l1] at h,fun _ _ _ _ _ r h=>by simp [spec_l3Next.l2] at h,fun _ _ r h=>by simp [spec_l3Next.l0] at h⟩
 | k+1=>by
  obtain ⟨ih0,ih1,ih2,ih3⟩:=spec_l3Next.mono_l k
  refine ⟨?_,?_,?_,?_⟩
  ·intro y0 y1
   unfold spec_l3Next.j1
   repeat' first
   | (with_reducible exact ih0 _ _)
   | (with_reducible exact ih1 _ _ _)
   | (with_reducible exact ih2 _ _ _ _ _)
   | (with_reducible exact ih3 _ _)
   | (with_reducible exact LeO.refl _)
   | (with_reducible exact za _)
   | (with_reducible refine zc ?_ ?_)
   | (with_reducible refine zb ?_ (fun _=>?_))
  ·intro y0 y1 y2
   unfold spec_l3Next.l1
   repeat' first
   | (with_reducible exact ih0 _ _)
   | (with_reducible exact ih1 _ _ _)
   | (with_reducible exact ih2 _ _ _ _ _)
   | (with_reducible exact ih3 _ _)
   | (with_reducible exact LeO.refl _)
   | (with_reducible exact za _)
   | (with_reducible refine zc ?_ ?_)
   | (with_reducible refine zb ?_ (fun _=>?_))
  ·intro y0 y1 y2 y3 y4
   unfold spec_l3Next.l2
   repeat' first
   | (with_reducible exact ih0 _ _)
   | (with_reducible exact ih1 _ _ _)
   | (with_reducible exact ih2 _ _ _ _ _)
   | (with_reducible exact ih3 _ _)
   | (with_reducible exact LeO.refl _)
   | (with_reducible exact za _)
   | (with_reducible refine zc ?_ ?_)
   | (with_reducible refine zb ?_ (fun _=>?_))
  ·intro y0 y1
   unfold spec_l3Next.l0
   repeat' first
   | (with_reducible exact ih0 _ _)
   | (with_reducible exact ih1 _ _ _)
   | (with_reducible exact ih2 _ _ _ _ _)
   | (with_reducible exact ih3 _ _)
   | (with_reducible exact LeO.refl _)
   | (with_reducible exact za _)
   | (with_reducible refine zc ?_ ?_)
   | (with_reducible refine zb ?_ (fun _=>?_))
theorem spec_l3Next.mono:∀ a0 k,LeO (spec_l3Next.f k a0) (spec_l3Next.f (k+1) a0):=by
 intro a0 k
 obtain ⟨ih0,ih1,ih2,ih3⟩:=spec_l3Next.mono_l k
 unfold spec_l3Next.f
 repeat' first
   | (with_reducible exact ih0 _ _)
   | (with_reducible exact ih1 _ _ _)
   | (with_reducible exact ih2 _ _ _ _ _)
   | (with_reducible exact ih3 _ _)
   | (with_reducible exact LeO.refl _)
   | (with_reducible exact za _)
   | (with_reducible refine zc ?_ ?_)
   | (with_reducible refine zb ?_ (fun _=>?_))
set_option maxHeartbeats 8000000 in
set_option maxRecDepth 100000 in
theorem spec_l3Next.calls (k:Nat) (A0:Option Addr) (c0:Nat) (l0:List Int) (r:List Int) (w:World) (hr0:Kd.C (Kd.int .i64) w A0 l0.length l0) (hc0:l0.length≤c0) (h:spec_l3Next.f k l0 = some r) :
  Calls Try.prog 75 #[.slice A0 l0.length c0] w fun e w' => ∃ v0_:Value,e = .returned (v0_)∧Kd.R (Kd.int .i64) 3 w' w.heap.size (fun _=>True) v0_ r∧Below w.heap.size w w':=by
 have HR0:=zA hr0
 have HC0:=zA hc0
 clear hr0 hc0
 have HB:=zA (Below.refl w.heap.size w)
 have H:(spec_l3Next.l0 k l0 (wrap64 ((l0.length:Int) - 2))) = some r:=h
 clear h
 have HC2:=zA H
 clear H
 go_enter Try.func75,Try.ntmps75
 go_upto_block 0 with (fail)
 repeat (go_quiet (fail);go_upto_block 0 with (fail))
 go_cut [3] (fun v3 wc => ∃ (kq:Nat) (x3_1:Int),v3 = .int .i64 x3_1∧Aside0 (spec_l3Next.j1 kq l0 x3_1 = some r)∧Aside0 (kq≤k)∧Aside0 (Below w.heap.size w wc))
 case first =>
  have H:=HC2.out
  clear HC2
  have H':=zA H
  clear H
  go_wp2
  repeat (go_quiet (fail);try go_wp2)
  go_loopg [3] k (fun kq v3 w' => ∃ (x3_1:Int),v3 = .int .i64 x3_1∧Aside0 (spec_l3Next.l0 kq l0 x3_1 = some r)∧Aside0 (kq≤k)∧Aside0 (Below w.heap.size w w'))
  case atStart=>exact ⟨(wrap64 ((l0.length:Int) - 2)),(by first|rfl|(simp;done)|(simp [*];done)),H',⟨Nat.le_refl _⟩,⟨by exact zB_ HB.out⟩⟩
  case round =>
   clear H'
   (try clear p2)
   obtain ⟨x3_1,rfl,HA,HK1,HB⟩:=hrel
   cases gk with
   | zero=>exact absurd HA.out (by simp [spec_l3Next.l0])
   | succ k1 =>
    have H:=HA.out
    clear HA
    simp only [spec_l3Next.l0] at H
    by_cases c3:x3_1 ≥ 0
    ·rw [if_pos c3] at H
     have c3b0:decide (0≤x3_1) = true:=zO c3
     clear c3
     (first|rw [c3b0]|(simp only [i64_w,i32_w];rw [c3b0])|skip)
     by_cases c4:0≤x3_1
     ·rw [if_pos c4] at H
      have c4b0:decide (0≤x3_1) = true:=zO c4
      clear c4
      by_cases c5:x3_1 < (l0.length:Int)
      ·rw [if_pos c5] at H
       have c5b0:decide (x3_1 < (l0.length:Int)) = true:=zO c5
       clear c5
       obtain ⟨ji6,hji6⟩:∃ j_:Int,(wrap64 (x3_1+1)) = j_:=⟨_,rfl⟩
       replace H:(if 0≤(ji6) then (if (ji6) < (l0.length:Int) then (if (rd l0 x3_1) > (rd l0 (ji6)) then (spec_l3Next.l0 k1 l0 (wrap64 (x3_1 - 1))) else (spec_l3Next.j1 k1 l0 x3_1)) else (none)) else (none)) = some r:=by first|(rw [hji6] at H;exact H)|(simp only [hji6] at H ⊢;exact H)
       have hji6w:(IntKind.i64.wrap (x3_1+1)) = ji6:=(i64_w _).trans hji6
       by_cases c7:0≤(ji6)
       ·rw [if_pos c7] at H
        have c7b0:decide (0≤(ji6)) = true:=zO c7
        clear c7
        by_cases c8:(ji6) < (l0.length:Int)
        ·rw [if_pos c8] at H
         have c8b0:decide ((ji6) < (l0.length:Int)) = true:=zO c8
         clear c8
         by_cases c9:(rd l0 x3_1) > (rd l0 (ji6))
         ·rw [if_pos c9] at H
          have c9b0:decide ((rd l0 (ji6)) < (rd l0 x3_1)) = true:=zO c9
          clear c9
          have H':=zA H
          clear H
          have p379:0≤(x3_1:Int):=zE (by with_reducible assumption)
          have q379:x3_1 < (l0.length:Int):=zE (by with_reducible assumption)
          obtain ⟨ad379,e379,hx379_0⟩:=Kd.at_int HR0.out x3_1 p379 q379
          cases e379
          replace hx379_0:=(HB.out.cell (zY w _ hx379_0)).trans hx379_0
          replace p379:=eq_true p379
          replace q379:=eq_true q379
          have p380:0≤((ji6):Int):=zE (by with_reducible assumption)
          have q380:(ji6) < (l0.length:Int):=zE (by with_reducible assumption)
          obtain ⟨ad380,e380,hx380_0⟩:=Kd.at_int HR0.out (ji6) p380 q380
          obtain rfl:ad379 = ad380:=(by injection e380)
          replace hx380_0:=(HB.out.cell (zY w _ hx380_0)).trans hx380_0
          replace p380:=eq_true p380
          replace q380:=eq_true q380
          go_wp2
          repeat (go_quiet (fail);try go_wp2)
          go_roundg k1
          case measure=>have:=HK1.out;omega
          case rel=>exact ⟨(wrap64 (x3_1 - 1)),(by first|rfl|(simp;done)|(simp [*];done)),H',⟨by have:=HK1.out;omega⟩,⟨by exact zB_ HB.out⟩⟩
         ·rw [if_neg c9] at H
          have c9b0:decide ((rd l0 (ji6)) < (rd l0 x3_1)) = false:=zP c9
          clear c9
          have H':=zA H
          clear H
          have p379:0≤(x3_1:Int):=zE (by with_reducible assumption)
          have q379:x3_1 < (l0.length:Int):=zE (by with_reducible assumption)
          obtain ⟨ad379,e379,hx379_0⟩:=Kd.at_int HR0.out x3_1 p379 q379
          cases e379
          replace hx379_0:=(HB.out.cell (zY w _ hx379_0)).trans hx379_0
          replace p379:=eq_true p379
          replace q379:=eq_true q379
          have p380:0≤((ji6):Int):=zE (by with_reducible assumption)
          have q380:(ji6) < (l0.length:Int):=zE (by with_reducible assumption)
          obtain ⟨ad380,e380,hx380_0⟩:=Kd.at_int HR0.out (ji6) p380 q380
          obtain rfl:ad379 = ad380:=(by injection e380)
          replace hx380_0:=(HB.out.cell (zY w _ hx380_0)).trans hx380_0
          replace p380:=eq_true p380
          replace q380:=eq_true q380
          go_wp2
          repeat (go_quiet (fail);try go_wp2)
          go_meet
          case rel=>exact ⟨_,(x3_1),(by first|rfl|(simp;done)|(simp [*];done)),H',⟨by have:=HK1.out;first|omega|exact Nat.le_refl _⟩,⟨by exact zB_ HB.out⟩⟩
        ·rw [if_neg c8] at H
         exact absurd H (by simp)
       ·rw [if_neg c7] at H
        exact absurd H (by simp)
      ·rw [if_neg c5] at H
       exact absurd H (by simp)
     ·rw [if_neg c4] at H
      exact absurd H (by simp)
    ·rw [if_neg c3] at H
     have c3b0:decide (0≤x3_1) = false:=zP c3
     clear c3
     (first|rw [c3b0]|(simp only [i64_w,i32_w];rw [c3b0])|skip)
     have H':=zA H
     clear H
     go_wp2
     repeat (go_quiet (fail);try go_wp2)
     go_meet
     case rel=>exact ⟨_,(x3_1),(by first|rfl|(simp;done)|(simp [*];done)),H',⟨by have:=HK1.out;first|omega|exact Nat.le_refl _⟩,⟨by exact zB_ HB.out⟩⟩
 case rest =>
  clear HC2
  (try clear p2);(try clear c3);(try clear c3b0);(try clear p3);(try clear q3);(try clear hx3);(try clear c4);(try clear c4b0);(try clear c5);(try clear c5b0);(try clear p6);(try clear c7);(try clear c7b0);(try clear c8);(try clear c8b0);(try clear c9);(try clear c9b0);(try clear hx379_0);(try clear hx380_0);(try clear p2);(try clear p379);(try clear p380);(try clear q379);(try clear q380)
  obtain ⟨kq,x3_1,rfl,HA,HJ1,HB⟩:=hcut
  cases kq with
  | zero=>exact absurd HA.out (by simp [spec_l3Next.j1])
  | succ kj1 =>
   have H:=HA.out
   clear HA
   simp only [spec_l3Next.j1] at H
   by_cases c10:x3_1 < 0
   ·rw [if_pos c10] at H
    have c10b0:decide (x3_1 < 0) = true:=zO c10
    clear c10
    obtain ⟨y381,hy381⟩:∃ y_:List Int,y_ = (([]:List Int)):=⟨_,rfl⟩
    replace H:(some y381) = some r:=by (try rw [hy381]);first|with_reducible exact H|with_reducible exact zS_ H|exact H
    have Ny381:=zA hy381
    clear hy381
    obtain rfl:=zS H
    go_wp2_with (first|((with_reducible refine gate_dst (N:=28) rfl ?_);refine Kd.R_lit (Kd.int .i64) _ 3 ?hg (N:=28) ?hd (xs:=([]:List Int)) (inner:=[]) (ok:=fun _=>True) (okp:=fun _=>True) ?hr ?hp (fun _ hk=>hk) trivial (Below.refl _ _) (Nat.le_refl _) (by simp) ?_;(case hd=>rfl);(case hg=>rfl);(case hr=>first|(go_simp;done)|(go_simp;rfl));(case hp=>exact (Reps.none _ _));intro v382 w11 ho12 hb hg_ hnew_;clear hg_ hnew_;(first|rw [← Ny381.out] at ho12|(simp only [Int.reduceToNat] at ho12;rw [← Ny381.out] at ho12));have n0_:=zA (ze ho12 (zQ (by exact zB_ HB.out)));have n1_:=zA (zR (by exact zB_ HB.out) hb);clear HB;have HO383:=n0_;have HB:=n1_;clear n0_ n1_;clear hb ho12))
    repeat (go_quiet (first|((with_reducible refine gate_dst (N:=28) rfl ?_);refine Kd.R_lit (Kd.int .i64) _ 3 ?hg (N:=28) ?hd (xs:=([]:List Int)) (inner:=[]) (ok:=fun _=>True) (okp:=fun _=>True) ?hr ?hp (fun _ hk=>hk) trivial (Below.refl _ _) (Nat.le_refl _) (by simp) ?_;(case hd=>rfl);(case hg=>rfl);(case hr=>first|(go_simp;done)|(go_simp;rfl));(case hp=>exact (Reps.none _ _));intro v382 w11 ho12 hb hg_ hnew_;clear hg_ hnew_;(first|rw [← Ny381.out] at ho12|(simp only [Int.reduceToNat] at ho12;rw [← Ny381.out] at ho12));have n0_:=zA (ze ho12 (zQ (by exact zB_ HB.out)));have n1_:=zA (zR (by exact zB_ HB.out) hb);clear HB;have HO383:=n0_;have HB:=n1_;clear n0_ n1_;clear hb ho12));try go_wp2_with (first|((with_reducible refine gate_dst (N:=28) rfl ?_);refine Kd.R_lit (Kd.int .i64) _ 3 ?hg (N:=28) ?hd (xs:=([]:List Int)) (inner:=[]) (ok:=fun _=>True) (okp:=fun _=>True) ?hr ?hp (fun _ hk=>hk) trivial (Below.refl _ _) (Nat.le_refl _) (by simp) ?_;(case hd=>rfl);(case hg=>rfl);(case hr=>first|(go_simp;done)|(go_simp;rfl));(case hp=>exact (Reps.none _ _));intro v382 w11 ho12 hb hg_ hnew_;clear hg_ hnew_;(first|rw [← Ny381.out] at ho12|(simp only [Int.reduceToNat] at ho12;rw [← Ny381.out] at ho12));have n0_:=zA (ze ho12 (zQ (by exact zB_ HB.out)));have n1_:=zA (zR (by exact zB_ HB.out) hb);clear HB;have HO383:=n0_;have HB:=n1_;clear n0_ n1_;clear hb ho12)))
    go_ret
    exact ⟨_,by first|rfl|(simp [errW_none,errW_some] <;> rfl)|(simp [*,errW_none,errW_some] <;> rfl),by apply zR_;exact HO383.out,by exact zB_ HB.out⟩
   ·rw [if_neg c10] at H
    have c10b0:decide (x3_1 < 0) = false:=zP c10
    clear c10
    have H':=zA H
    clear H
    go_wp2
    repeat (go_quiet (fail);try go_wp2)
    go_loopg [4] kj1 (fun kq v4 w' => ∃ (x4_2:Int),v4 = .int .i64 x4_2∧Aside0 (spec_l3Next.l1 kq l0 x3_1 x4_2 = some r)∧Aside0 (kq≤kj1)∧Aside0 (Below w.heap.size w w'))
    case atStart=>exact ⟨(wrap64 ((l0.length:Int) - 1)),(by first|rfl|(simp;done)|(simp [*];done)),H',⟨Nat.le_refl _⟩,⟨by exact zB_ HB.out⟩⟩
    case round =>
     clear H'
     (try clear c1);(try clear p2);(try clear c3);(try clear c3b0);(try clear p3);(try clear q3);(try clear hx3);(try clear c4);(try clear c4b0);(try clear c5);(try clear c5b0);(try clear p6);(try clear c7);(try clear c7b0);(try clear c8);(try clear c8b0);(try clear c9);(try clear c9b0);(try clear c10);(try clear c10b0);(try clear hx379_0);(try clear hx380_0);(try clear p2);(try clear p3);(try clear p379);(try clear p380);(try clear p6);(try clear q3);(try clear q379);(try clear q380)
     obtain ⟨x4_2,rfl,HA,HK2,HB⟩:=hrel
     cases gk with
     | zero=>exact absurd HA.out (by simp [spec_l3Next.l1])
     | succ k2 =>
      have H:=HA.out
      clear HA
      simp only [spec_l3Next.l1] at H
      by_cases c13:0≤x4_2
      ·rw [if_pos c13] at H
       have c13b0:decide (0≤x4_2) = true:=zO c13
       clear c13
       by_cases c14:x4_2 < (l0.length:Int)
       ·rw [if_pos c14] at H
        have c14b0:decide (x4_2 < (l0.length:Int)) = true:=zO c14
        clear c14
        by_cases c15:0≤x3_1
        ·rw [if_pos c15] at H
         have c15b0:decide (0≤x3_1) = true:=zO c15
         clear c15
         by_cases c16:x3_1 < (l0.length:Int)
         ·rw [if_pos c16] at H
          have c16b0:decide (x3_1 < (l0.length:Int)) = true:=zO c16
          clear c16
          by_cases c17:(rd l0 x4_2) < (rd l0 x3_1)
          ·rw [if_pos c17] at H
           have c17b0:decide ((rd l0 x4_2) < (rd l0 x3_1)) = true:=zO c17
           clear c17
           have H':=zA H
           clear H
           have p384:0≤(x4_2:Int):=zE (by with_reducible assumption)
           have q384:x4_2 < (l0.length:Int):=zE (by with_reducible assumption)
           obtain ⟨ad384,e384,hx384_0⟩:=Kd.at_int HR0.out x4_2 p384 q384
           cases e384
           replace hx384_0:=(HB.out.cell (zY w _ hx384_0)).trans hx384_0
           replace p384:=eq_true p384
           replace q384:=eq_true q384
           have p385:0≤(x3_1:Int):=zE (by with_reducible assumption)
           have q385:x3_1 < (l0.length:Int):=zE (by with_reducible assumption)
           obtain ⟨ad385,e385,hx385_0⟩:=Kd.at_int HR0.out x3_1 p385 q385
           obtain rfl:ad384 = ad385:=(by injection e385)
           replace hx385_0:=(HB.out.cell (zY w _ hx385_0)).trans hx385_0
           replace p385:=eq_true p385
           replace q385:=eq_true q385
           go_wp2
           repeat (go_quiet (fail);try go_wp2)
           go_roundg k2
           case measure=>have:=HJ1.out;have:=HK2.out;omega
           case rel=>exact ⟨(wrap64 (x4_2 - 1)),(by first|rfl|(simp;done)|(simp [*];done)),H',⟨by have:=HJ1.out;have:=HK2.out;omega⟩,⟨by exact zB_ HB.out⟩⟩
          ·rw [if_neg c17] at H
           have c17b0:decide ((rd l0 x4_2) < (rd l0 x3_1)) = false:=zP c17
           clear c17
           obtain ⟨y386,hy386⟩:∃ y_:List Int,y_ = (([]:List Int)):=⟨_,rfl⟩
           replace H:(if x3_1≤(l0.length:Int) then (if y386.length+(l0.take (x3_1:Int).toNat).length < 17592186044416 then ((some (y386 ++ (l0.take (x3_1:Int).toNat):List Int)).bind fun y390=>(if y390.length < 17592186044416 then (spec_l3Next.l2 k2 l0 x3_1 x4_2 (y390 ++ [rd l0 x4_2]) (wrap64 ((l0.length:Int) - 1))) else (none))) else (none)) else (none)) = some r:=by (try rw [hy386]);first|with_reducible exact H|with_reducible exact zS_ H|exact H
           have Ny386:=zA hy386
           clear hy386
           have c18b0:=eq_true (zE (by with_reducible assumption):0≤x3_1)
           by_cases c19:x3_1≤(l0.length:Int)
           ·rw [if_pos c19] at H
            have c19b0:=eq_true c19
            have c19b1:decide (x3_1≤(l0.length:Int)) = true:=zO c19
            clear c19
            by_cases c20:y386.length+(l0.take (x3_1:Int).toNat).length < 17592186044416
            ·rw [if_pos c20] at H
             have LMc20:=zA c20
             clear c20
             obtain ⟨y390,hy390⟩:∃ y_:List Int,y_ = (y386 ++ (l0.take (x3_1:Int).toNat)):=⟨_,rfl⟩
             replace H:(if y390.length < 17592186044416 then (spec_l3Next.l2 k2 l0 x3_1 x4_2 (y390 ++ [rd l0 x4_2]) (wrap64 ((l0.length:Int) - 1))) else (none)) = some r:=by (try rw [hy390]);first|with_reducible exact H|with_reducible exact zS_ H|exact H
             have Ny390:=zA hy390
             clear hy390
             by_cases c21:y390.length < 17592186044416
             ·rw [if_pos c21] at H
              have LMc21:=zA c21
              clear c21
              obtain ⟨y394,hy394⟩:∃ y_:List Int,y_ = (y390 ++ [rd l0 x4_2]):=⟨_,rfl⟩
              replace H:(spec_l3Next.l2 k2 l0 x3_1 x4_2 y394 (wrap64 ((l0.length:Int) - 1))) = some r:=by (try rw [hy394]);first|with_reducible exact H|with_reducible exact zS_ H|exact H
              have Ny394:=zA hy394
              clear hy394
              have H':=zA H
              clear H
              have p384:0≤(x4_2:Int):=zE (by with_reducible assumption)
              have q384:x4_2 < (l0.length:Int):=zE (by with_reducible assumption)
              obtain ⟨ad384,e384,hx384_0⟩:=Kd.at_int HR0.out x4_2 p384 q384
              cases e384
              replace hx384_0:=(HB.out.cell (zY w _ hx384_0)).trans hx384_0
              replace p384:=eq_true p384
              replace q384:=eq_true q384
              have p385:0≤(x3_1:Int):=zE (by with_reducible assumption)
              have q385:x3_1 < (l0.length:Int):=zE (by with_reducible assumption)
              obtain ⟨ad385,e385,hx385_0⟩:=Kd.at_int HR0.out x3_1 p385 q385
              obtain rfl:ad384 = ad385:=(by injection e385)
              replace hx385_0:=(HB.out.cell (zY w _ hx385_0)).trans hx385_0
              replace p385:=eq_true p385
              replace q385:=eq_true q385
              go_wp2_with (first|((with_reducible refine gate_dst (N:=43) rfl ?_);refine Kd.R_lit (Kd.int .i64) _ 3 ?hg (N:=43) ?hd (xs:=([]:List Int)) (inner:=[]) (ok:=fun _=>True) (okp:=fun _=>True) ?hr ?hp (fun _ hk=>hk) trivial (Below.refl _ _) (Nat.le_refl _) (by simp) ?_;(case hd=>rfl);(case hg=>rfl);(case hr=>first|(go_simp;done)|(go_simp;rfl));(case hp=>exact (Reps.none _ _));intro v387 w22 ho23 hb hg_ hnew_;clear hg_ hnew_;(first|rw [← Ny386.out] at ho23|(simp only [Int.reduceToNat] at ho23;rw [← Ny386.out] at ho23));have n0_:=zA (ze ho23 (zQ (by exact zB_ HB.out)));have n1_:=zA (zR (by exact zB_ HB.out) hb);clear HB;have HO388:=n0_;have HB:=n1_;clear n0_ n1_;clear hb ho23;obtain ⟨i024,hi024,_,hsz24,_⟩:=info_parts info3;obtain ⟨hcut24,hA24,hC24⟩:=print_take_of (P:=Try.prog) (Value.int .i64) 0 31 3 .i64 Try.underlying31 hi024 hsz24 (some ad384) c0 l0 x3_1 (zE (by with_reducible assumption)) (zE (by with_reducible assumption)) HC0.out;have HR389:=zA (Kd.C_of_reads (h1:=fun _=>rfl) (hA24 _ (Kd.reads_of_C HR0.out)));have HC389:=zA hC24;clear hA24 hC24 hi024 hsz24)|((with_reducible refine gate_builtin (b:=.append) (xs:=#[.tmp 43,.tmp 46]) rfl ?_);at_builtin;refine Kd.R_append_rows (Kd.int .i64) (w0:=w) w.heap.size rfl (.tmp 43) (.tmp 46) 31 3 (.int .i64 0) 8 rfl Try.underlying31 info3 rfl (by decide) (by omega) v387 y386 (l0.take (x3_1:Int).toNat) _ _ _ (fun _=>True) (fun _=>False) rfl rfl ?aO ?aR (fun _ _ h=>h) (fun _ h=>h.elim) ?aF ?aB ?aS ?aL ?_;(case aR=>first|(have hq_:(l0.take (x3_1:Int).toNat).length = x3_1.toNat:=(by rw [zK];have h_:(x3_1:Int)≤(l0.length:Int):=zE (by with_reducible assumption);omega);have hz_:=zW HR389.out HB.out;rw [hq_] at hz_;exact hz_)|(rw [← show (l0.take (x3_1:Int).toNat).length = x3_1.toNat from (by rw [zK];have h_:(x3_1:Int)≤(l0.length:Int):=zE (by with_reducible assumption);omega)];repeat (first|exact (zW HR389.out HB.out)|(with_reducible exact HR389.out)|apply zC_))|(repeat (first|exact (zW HR389.out HB.out)|(with_reducible exact HR389.out)|apply zC_)));(case aB=>exact (by exact zB_ HB.out));(case aF=>exact (fun _ _=>trivial));(case aO=>exact (by apply zR_;exact HO388.out));(case aS=>exact (zQ (by exact zB_ HB.out)));(case aL=>have:=LMc20.out;have hlx_:=(show (l0.take (x3_1:Int).toNat).length = x3_1.toNat from (by rw [zK];have h_:(x3_1:Int)≤(l0.length:Int):=zE (by with_reducible assumption);omega));omega);intro v391 w25 ho hb hg hat;rw [← Ny390.out] at ho;have n0_:=zA (hb);have n1_:=zA (ho);clear HB;clear HO388;have HB:=n0_;have HO392:=n1_;clear n0_ n1_;clear ho hb hg hat;have p393:0≤(x4_2:Int):=zE (by with_reducible assumption);have q393:x4_2 < (l0.length:Int):=zE (by with_reducible assumption);obtain ⟨ad393,e393,hx393_0⟩:=Kd.at_int HR0.out x4_2 p393 q393;obtain rfl:ad384 = ad393:=(by injection e393);replace hx393_0:=(HB.out.cell (zY w _ hx393_0)).trans hx393_0;replace p393:=eq_true p393;replace q393:=eq_true q393)|((with_reducible refine gate_builtin (b:=.append) (xs:=#[.tmp 48,.tmp 53]) rfl ?_);at_builtin;refine Kd.R_append (Kd.int .i64) (w0:=w) w.heap.size rfl (.tmp 48) (.tmp 53) 31 3 (.int .i64 0) 8 rfl Try.underlying31 info3 rfl (by decide) (by omega) v391 y390 (rd l0 x4_2) [.int .i64 (rd l0 x4_2)] (fun _=>True) (fun _=>False) rfl rfl ?aP (fun _ hk=>hk.elim) ?aF ?aO ?aB ?aS ?aL ?_;(case aP=>exact rfl);(case aB=>exact (by exact zB_ HB.out));(case aF=>exact (fun _ _=>trivial));(case aO=>exact (by apply zR_;exact HO392.out));(case aS=>exact (zQ (by exact zB_ HB.out)));(case aL=>have:=LMc21.out;omega);intro v395 w26 ho hb hg hat;rw [← Ny394.out] at ho;have n0_:=zA (hb);have n1_:=zA (ho);clear HB;clear HO392;have HB:=n0_;have HO396:=n1_;clear n0_ n1_;clear ho hb hg hat))
              repeat (go_quiet (first|((with_reducible refine gate_dst (N:=43) rfl ?_);refine Kd.R_lit (Kd.int .i64) _ 3 ?hg (N:=43) ?hd (xs:=([]:List Int)) (inner:=[]) (ok:=fun _=>True) (okp:=fun _=>True) ?hr ?hp (fun _ hk=>hk) trivial (Below.refl _ _) (Nat.le_refl _) (by simp) ?_;(case hd=>rfl);(case hg=>rfl);(case hr=>first|(go_simp;done)|(go_simp;rfl));(case hp=>exact (Reps.none _ _));intro v387 w22 ho23 hb hg_ hnew_;clear hg_ hnew_;(first|rw [← Ny386.out] at ho23|(simp only [Int.reduceToNat] at ho23;rw [← Ny386.out] at ho23));have n0_:=zA (ze ho23 (zQ (by exact zB_ HB.out)));have n1_:=zA (zR (by exact zB_ HB.out) hb);clear HB;have HO388:=n0_;have HB:=n1_;clear n0_ n1_;clear hb ho23;obtain ⟨i024,hi024,_,hsz24,_⟩:=info_parts info3;obtain ⟨hcut24,hA24,hC24⟩:=print_take_of (P:=Try.prog) (Value.int .i64) 0 31 3 .i64 Try.underlying31 hi024 hsz24 (some ad384) c0 l0 x3_1 (zE (by with_reducible assumption)) (zE (by with_reducible assumption)) HC0.out;have HR389:=zA (Kd.C_of_reads (h1:=fun _=>rfl) (hA24 _ (Kd.reads_of_C HR0.out)));have HC389:=zA hC24;clear hA24 hC24 hi024 hsz24)|((with_reducible refine gate_builtin (b:=.append) (xs:=#[.tmp 43,.tmp 46]) rfl ?_);at_builtin;refine Kd.R_append_rows (Kd.int .i64) (w0:=w) w.heap.size rfl (.tmp 43) (.tmp 46) 31 3 (.int .i64 0) 8 rfl Try.underlying31 info3 rfl (by decide) (by omega) v387 y386 (l0.take (x3_1:Int).toNat) _ _ _ (fun _=>True) (fun _=>False) rfl rfl ?aO ?aR (fun _ _ h=>h) (fun _ h=>h.elim) ?aF ?aB ?aS ?aL ?_;(case aR=>first|(have hq_:(l0.take (x3_1:Int).toNat).length = x3_1.toNat:=(by rw [zK];have h_:(x3_1:Int)≤(l0.length:Int):=zE (by with_reducible assumption);omega);have hz_:=zW HR389.out HB.out;rw [hq_] at hz_;exact hz_)|(rw [← show (l0.take (x3_1:Int).toNat).length = x3_1.toNat from (by rw [zK];have h_:(x3_1:Int)≤(l0.length:Int):=zE (by with_reducible assumption);omega)];repeat (first|exact (zW HR389.out HB.out)|(with_reducible exact HR389.out)|apply zC_))|(repeat (first|exact (zW HR389.out HB.out)|(with_reducible exact HR389.out)|apply zC_)));(case aB=>exact (by exact zB_ HB.out));(case aF=>exact (fun _ _=>trivial));(case aO=>exact (by apply zR_;exact HO388.out));(case aS=>exact (zQ (by exact zB_ HB.out)));(case aL=>have:=LMc20.out;have hlx_:=(show (l0.take (x3_1:Int).toNat).length = x3_1.toNat from (by rw [zK];have h_:(x3_1:Int)≤(l0.length:Int):=zE (by with_reducible assumption);omega));omega);intro v391 w25 ho hb hg hat;rw [← Ny390.out] at ho;have n0_:=zA (hb);have n1_:=zA (ho);clear HB;clear HO388;have HB:=n0_;have HO392:=n1_;clear n0_ n1_;clear ho hb hg hat;have p393:0≤(x4_2:Int):=zE (by with_reducible assumption);have q393:x4_2 < (l0.length:Int):=zE (by with_reducible assumption);obtain ⟨ad393,e393,hx393_0⟩:=Kd.at_int HR0.out x4_2 p393 q393;obtain rfl:ad384 = ad393:=(by injection e393);replace hx393_0:=(HB.out.cell (zY w _ hx393_0)).trans hx393_0;replace p393:=eq_true p393;replace q393:=eq_true q393)|((with_reducible refine gate_builtin (b:=.append) (xs:=#[.tmp 48,.tmp 53]) rfl ?_);at_builtin;refine Kd.R_append (Kd.int .i64) (w0:=w) w.heap.size rfl (.tmp 48) (.tmp 53) 31 3 (.int .i64 0) 8 rfl Try.underlying31 info3 rfl (by decide) (by omega) v391 y390 (rd l0 x4_2) [.int .i64 (rd l0 x4_2)] (fun _=>True) (fun _=>False) rfl rfl ?aP (fun _ hk=>hk.elim) ?aF ?aO ?aB ?aS ?aL ?_;(case aP=>exact rfl);(case aB=>exact (by exact zB_ HB.out));(case aF=>exact (fun _ _=>trivial));(case aO=>exact (by apply zR_;exact HO392.out));(case aS=>exact (zQ (by exact zB_ HB.out)));(case aL=>have:=LMc21.out;omega);intro v395 w26 ho hb hg hat;rw [← Ny394.out] at ho;have n0_:=zA (hb);have n1_:=zA (ho);clear HB;clear HO392;have HB:=n0_;have HO396:=n1_;clear n0_ n1_;clear ho hb hg hat));try go_wp2_with (first|((with_reducible refine gate_dst (N:=43) rfl ?_);refine Kd.R_lit (Kd.int .i64) _ 3 ?hg (N:=43) ?hd (xs:=([]:List Int)) (inner:=[]) (ok:=fun _=>True) (okp:=fun _=>True) ?hr ?hp (fun _ hk=>hk) trivial (Below.refl _ _) (Nat.le_refl _) (by simp) ?_;(case hd=>rfl);(case hg=>rfl);(case hr=>first|(go_simp;done)|(go_simp;rfl));(case hp=>exact (Reps.none _ _));intro v387 w22 ho23 hb hg_ hnew_;clear hg_ hnew_;(first|rw [← Ny386.out] at ho23|(simp only [Int.reduceToNat] at ho23;rw [← Ny386.out] at ho23));have n0_:=zA (ze ho23 (zQ (by exact zB_ HB.out)));have n1_:=zA (zR (by exact zB_ HB.out) hb);clear HB;have HO388:=n0_;have HB:=n1_;clear n0_ n1_;clear hb ho23;obtain ⟨i024,hi024,_,hsz24,_⟩:=info_parts info3;obtain ⟨hcut24,hA24,hC24⟩:=print_take_of (P:=Try.prog) (Value.int .i64) 0 31 3 .i64 Try.underlying31 hi024 hsz24 (some ad384) c0 l0 x3_1 (zE (by with_reducible assumption)) (zE (by with_reducible assumption)) HC0.out;have HR389:=zA (Kd.C_of_reads (h1:=fun _=>rfl) (hA24 _ (Kd.reads_of_C HR0.out)));have HC389:=zA hC24;clear hA24 hC24 hi024 hsz24)|((with_reducible refine gate_builtin (b:=.append) (xs:=#[.tmp 43,.tmp 46]) rfl ?_);at_builtin;refine Kd.R_append_rows (Kd.int .i64) (w0:=w) w.heap.size rfl (.tmp 43) (.tmp 46) 31 3 (.int .i64 0) 8 rfl Try.underlying31 info3 rfl (by decide) (by omega) v387 y386 (l0.take (x3_1:Int).toNat) _ _ _ (fun _=>True) (fun _=>False) rfl rfl ?aO ?aR (fun _ _ h=>h) (fun _ h=>h.elim) ?aF ?aB ?aS ?aL ?_;(case aR=>first|(have hq_:(l0.take (x3_1:Int).toNat).length = x3_1.toNat:=(by rw [zK];have h_:(x3_1:Int)≤(l0.length:Int):=zE (by with_reducible assumption);omega);have hz_:=zW HR389.out HB.out;rw [hq_] at hz_;exact hz_)|(rw [← show (l0.take (x3_1:Int).toNat).length = x3_1.toNat from (by rw [zK];have h_:(x3_1:Int)≤(l0.length:Int):=zE (by with_reducible assumption);omega)];repeat (first|exact (zW HR389.out HB.out)|(with_reducible exact HR389.out)|apply zC_))|(repeat (first|exact (zW HR389.out HB.out)|(with_reducible exact HR389.out)|apply zC_)));(case aB=>exact (by exact zB_ HB.out));(case aF=>exact (fun _ _=>trivial));(case aO=>exact (by apply zR_;exact HO388.out));(case aS=>exact (zQ (by exact zB_ HB.out)));(case aL=>have:=LMc20.out;have hlx_:=(show (l0.take (x3_1:Int).toNat).length = x3_1.toNat from (by rw [zK];have h_:(x3_1:Int)≤(l0.length:Int):=zE (by with_reducible assumption);omega));omega);intro v391 w25 ho hb hg hat;rw [← Ny390.out] at ho;have n0_:=zA (hb);have n1_:=zA (ho);clear HB;clear HO388;have HB:=n0_;have HO392:=n1_;clear n0_ n1_;clear ho hb hg hat;have p393:0≤(x4_2:Int):=zE (by with_reducible assumption);have q393:x4_2 < (l0.length:Int):=zE (by with_reducible assumption);obtain ⟨ad393,e393,hx393_0⟩:=Kd.at_int HR0.out x4_2 p393 q393;obtain rfl:ad384 = ad393:=(by injection e393);replace hx393_0:=(HB.out.cell (zY w _ hx393_0)).trans hx393_0;replace p393:=eq_true p393;replace q393:=eq_true q393)|((with_reducible refine gate_builtin (b:=.append) (xs:=#[.tmp 48,.tmp 53]) rfl ?_);at_builtin;refine Kd.R_append (Kd.int .i64) (w0:=w) w.heap.size rfl (.tmp 48) (.tmp 53) 31 3 (.int .i64 0) 8 rfl Try.underlying31 info3 rfl (by decide) (by omega) v391 y390 (rd l0 x4_2) [.int .i64 (rd l0 x4_2)] (fun _=>True) (fun _=>False) rfl rfl ?aP (fun _ hk=>hk.elim) ?aF ?aO ?aB ?aS ?aL ?_;(case aP=>exact rfl);(case aB=>exact (by exact zB_ HB.out));(case aF=>exact (fun _ _=>trivial));(case aO=>exact (by apply zR_;exact HO392.out));(case aS=>exact (zQ (by exact zB_ HB.out)));(case aL=>have:=LMc21.out;omega);intro v395 w26 ho hb hg hat;rw [← Ny394.out] at ho;have n0_:=zA (hb);have n1_:=zA (ho);clear HB;clear HO392;have HB:=n0_;have HO396:=n1_;clear n0_ n1_;clear ho hb hg hat)))
              go_loopg [5,6] k2 (fun kq v5 v6 w' => ∃ (x5_3:List Int) (x6_3:Int),v6 = .int .i64 x6_3∧Aside0 (spec_l3Next.l2 kq l0 x3_1 x4_2 x5_3 x6_3 = some r)∧Aside0 (kq≤k2)∧Aside0 (Kd.R (Kd.int .i64) 3 w' w.heap.size (fun _=>True) v5 x5_3)∧Aside0 (Below w.heap.size w w'))
              case atStart=>exact ⟨(y394),(wrap64 ((l0.length:Int) - 1)),(by first|rfl|(simp;done)|(simp [*];done)),H',⟨Nat.le_refl _⟩,⟨by apply zR_;exact HO396.out⟩,⟨by exact zB_ HB.out⟩⟩
              case round =>
               clear H'
               (try clear c1);(try clear c2);(try clear p2);(try clear c3);(try clear c3b0);(try clear p3);(try clear q3);(try clear hx3);(try clear c4);(try clear c4b0);(try clear c5);(try clear c5b0);(try clear p6);(try clear c7);(try clear c7b0);(try clear c8);(try clear c8b0);(try clear c9);(try clear c9b0);(try clear c10);(try clear c10b0);(try clear c13);(try clear c13b0);(try clear c14);(try clear c14b0);(try clear c15);(try clear c15b0);(try clear c16);(try clear c16b0);(try clear c17);(try clear c17b0);(try clear c18);(try clear c18b0);(try clear c19);(try clear c19b0);(try clear c19b1);(try clear c20);(try clear c21);(try clear hx379_0);(try clear hx380_0);(try clear hx384_0);(try clear hx385_0);(try clear hx393_0);(try clear p2);(try clear p3);(try clear p379);(try clear p380);(try clear p384);(try clear p385);(try clear p393);(try clear p6);(try clear q3);(try clear q379);(try clear q380);(try clear q384);(try clear q385);(try clear q393)
               obtain ⟨x5_3,x6_3,rfl,HA,HK3,HO_5,HB⟩:=hrel
               cases gk with
               | zero=>exact absurd HA.out (by simp [spec_l3Next.l2])
               | succ k3 =>
                have H:=HA.out
                clear HA
                simp only [spec_l3Next.l2] at H
                by_cases c27:x6_3 > x3_1
                ·rw [if_pos c27] at H
                 have c27b0:decide (x3_1 < x6_3) = true:=zO c27
                 clear c27
                 by_cases c28:x6_3 = x4_2
                 ·rw [if_pos c28] at H
                  have c28b0:(x6_3 == x4_2) = true:=beq_iff_eq.mpr c28
                  have c28b1:(x6_3 != x4_2) = false:=bne_eq_false_iff_eq.mpr c28
                  clear c28
                  by_cases c29:0≤x3_1
                  ·rw [if_pos c29] at H
                   have c29b0:decide (0≤x3_1) = true:=zO c29
                   clear c29
                   by_cases c30:x3_1 < (l0.length:Int)
                   ·rw [if_pos c30] at H
                    have c30b0:decide (x3_1 < (l0.length:Int)) = true:=zO c30
                    clear c30
                    by_cases c31:x5_3.length < 17592186044416
                    ·rw [if_pos c31] at H
                     have LMc31:=zA c31
                     clear c31
                     obtain ⟨y398,hy398⟩:∃ y_:List Int,y_ = (x5_3 ++ [rd l0 x3_1]):=⟨_,rfl⟩
                     replace H:(spec_l3Next.l2 k3 l0 x3_1 x4_2 y398 (wrap64 (x6_3 - 1))) = some r:=by (try rw [hy398]);first|with_reducible exact H|with_reducible exact zS_ H|exact H
                     have Ny398:=zA hy398
                     clear hy398
                     have H':=zA H
                     clear H
                     have p397:0≤(x3_1:Int):=zE (by with_reducible assumption)
                     have q397:x3_1 < (l0.length:Int):=zE (by with_reducible assumption)
                     obtain ⟨ad397,e397,hx397_0⟩:=Kd.at_int HR0.out x3_1 p397 q397
                     obtain rfl:ad384 = ad397:=(by injection e397)
                     replace hx397_0:=(HB.out.cell (zY w _ hx397_0)).trans hx397_0
                     replace p397:=eq_true p397
                     replace q397:=eq_true q397
                     go_wp2_with (first|((with_reducible refine gate_builtin (b:=.append) (xs:=#[.tmp 66,.tmp 71]) rfl ?_);at_builtin;refine Kd.R_append (Kd.int .i64) (w0:=w) w.heap.size rfl (.tmp 66) (.tmp 71) 31 3 (.int .i64 0) 8 rfl Try.underlying31 info3 rfl (by decide) (by omega) u5 x5_3 (rd l0 x3_1) [.int .i64 (rd l0 x3_1)] (fun _=>True) (fun _=>False) rfl rfl ?aP (fun _ hk=>hk.elim) ?aF ?aO ?aB ?aS ?aL ?_;(case aP=>exact rfl);(case aB=>exact (by exact zB_ HB.out));(case aF=>exact (fun _ _=>trivial));(case aO=>exact (by apply zR_;exact HO_5.out));(case aS=>exact (zQ (by exact zB_ HB.out)));(case aL=>have:=LMc31.out;omega);intro v399 w32 ho hb hg hat;rw [← Ny398.out] at ho;have n0_:=zA (hb);have n1_:=zA (ho);clear HB;clear HO_5;have HB:=n0_;have HO400:=n1_;clear n0_ n1_;clear ho hb hg hat))
                     repeat (go_quiet (first|((with_reducible refine gate_builtin (b:=.append) (xs:=#[.tmp 66,.tmp 71]) rfl ?_);at_builtin;refine Kd.R_append (Kd.int .i64) (w0:=w) w.heap.size rfl (.tmp 66) (.tmp 71) 31 3 (.int .i64 0) 8 rfl Try.underlying31 info3 rfl (by decide) (by omega) u5 x5_3 (rd l0 x3_1) [.int .i64 (rd l0 x3_1)] (fun _=>True) (fun _=>False) rfl rfl ?aP (fun _ hk=>hk.elim) ?aF ?aO ?aB ?aS ?aL ?_;(case aP=>exact rfl);(case aB=>exact (by exact zB_ HB.out));(case aF=>exact (fun _ _=>trivial));(case aO=>exact (by apply zR_;exact HO_5.out));(case aS=>exact (zQ (by exact zB_ HB.out)));(case aL=>have:=LMc31.out;omega);intro v399 w32 ho hb hg hat;rw [← Ny398.out] at ho;have n0_:=zA (hb);have n1_:=zA (ho);clear HB;clear HO_5;have HB:=n0_;have HO400:=n1_;clear n0_ n1_;clear ho hb hg hat));try go_wp2_with (first|((with_reducible refine gate_builtin (b:=.append) (xs:=#[.tmp 66,.tmp 71]) rfl ?_);at_builtin;refine Kd.R_append (Kd.int .i64) (w0:=w) w.heap.size rfl (.tmp 66) (.tmp 71) 31 3 (.int .i64 0) 8 rfl Try.underlying31 info3 rfl (by decide) (by omega) u5 x5_3 (rd l0 x3_1) [.int .i64 (rd l0 x3_1)] (fun _=>True) (fun _=>False) rfl rfl ?aP (fun _ hk=>hk.elim) ?aF ?aO ?aB ?aS ?aL ?_;(case aP=>exact rfl);(case aB=>exact (by exact zB_ HB.out));(case aF=>exact (fun _ _=>trivial));(case aO=>exact (by apply zR_;exact HO_5.out));(case aS=>exact (zQ (by exact zB_ HB.out)));(case aL=>have:=LMc31.out;omega);intro v399 w32 ho hb hg hat;rw [← Ny398.out] at ho;have n0_:=zA (hb);have n1_:=zA (ho);clear HB;clear HO_5;have HB:=n0_;have HO400:=n1_;clear n0_ n1_;clear ho hb hg hat)))
                     go_roundg k3
                     case measure=>have:=HJ1.out;have:=HK2.out;have:=HK3.out;omega
                     case rel=>exact ⟨(y398),(wrap64 (x6_3 - 1)),(by first|rfl|(simp;done)|(simp [*];done)),H',⟨by have:=HJ1.out;have:=HK2.out;have:=HK3.out;omega⟩,⟨by apply zR_;exact HO400.out⟩,⟨by exact zB_ HB.out⟩⟩
                    ·rw [if_neg c31] at H
                     exact absurd H (by simp)
                   ·rw [if_neg c30] at H
                    exact absurd H (by simp)
                  ·rw [if_neg c29] at H
                   exact absurd H (by simp)
                 ·rw [if_neg c28] at H
                  have c28b0:(x6_3 == x4_2) = false:=beq_eq_false_iff_ne.mpr c28
                  have c28b1:(x6_3 != x4_2) = true:=bne_iff_ne.mpr c28
                  by_cases c33:0≤x6_3
                  ·rw [if_pos c33] at H
                   have c33b0:decide (0≤x6_3) = true:=zO c33
                   clear c33
                   by_cases c34:x6_3 < (l0.length:Int)
                   ·rw [if_pos c34] at H
                    have c34b0:decide (x6_3 < (l0.length:Int)) = true:=zO c34
                    clear c34
                    by_cases c35:x5_3.length < 17592186044416
                    ·rw [if_pos c35] at H
                     have LMc35:=zA c35
                     clear c35
                     obtain ⟨y402,hy402⟩:∃ y_:List Int,y_ = (x5_3 ++ [rd l0 x6_3]):=⟨_,rfl⟩
                     replace H:(spec_l3Next.l2 k3 l0 x3_1 x4_2 y402 (wrap64 (x6_3 - 1))) = some r:=by (try rw [hy402]);first|with_reducible exact H|with_reducible exact zS_ H|exact H
                     have Ny402:=zA hy402
                     clear hy402
                     have H':=zA H
                     clear H
                     have p401:0≤(x6_3:Int):=zE (by with_reducible assumption)
                     have q401:x6_3 < (l0.length:Int):=zE (by with_reducible assumption)
                     obtain ⟨ad401,e401,hx401_0⟩:=Kd.at_int HR0.out x6_3 p401 q401
                     obtain rfl:ad384 = ad401:=(by injection e401)
                     replace hx401_0:=(HB.out.cell (zY w _ hx401_0)).trans hx401_0
                     replace p401:=eq_true p401
                     replace q401:=eq_true q401
                     go_wp2_with (first|((with_reducible refine gate_builtin (b:=.append) (xs:=#[.tmp 73,.tmp 78]) rfl ?_);at_builtin;refine Kd.R_append (Kd.int .i64) (w0:=w) w.heap.size rfl (.tmp 73) (.tmp 78) 31 3 (.int .i64 0) 8 rfl Try.underlying31 info3 rfl (by decide) (by omega) u5 x5_3 (rd l0 x6_3) [.int .i64 (rd l0 x6_3)] (fun _=>True) (fun _=>False) rfl rfl ?aP (fun _ hk=>hk.elim) ?aF ?aO ?aB ?aS ?aL ?_;(case aP=>exact rfl);(case aB=>exact (by exact zB_ HB.out));(case aF=>exact (fun _ _=>trivial));(case aO=>exact (by apply zR_;exact HO_5.out));(case aS=>exact (zQ (by exact zB_ HB.out)));(case aL=>have:=LMc35.out;omega);intro v403 w36 ho hb hg hat;rw [← Ny402.out] at ho;have n0_:=zA (hb);have n1_:=zA (ho);clear HB;clear HO_5;have HB:=n0_;have HO404:=n1_;clear n0_ n1_;clear ho hb hg hat))
                     repeat (go_quiet (first|((with_reducible refine gate_builtin (b:=.append) (xs:=#[.tmp 73,.tmp 78]) rfl ?_);at_builtin;refine Kd.R_append (Kd.int .i64) (w0:=w) w.heap.size rfl (.tmp 73) (.tmp 78) 31 3 (.int .i64 0) 8 rfl Try.underlying31 info3 rfl (by decide) (by omega) u5 x5_3 (rd l0 x6_3) [.int .i64 (rd l0 x6_3)] (fun _=>True) (fun _=>False) rfl rfl ?aP (fun _ hk=>hk.elim) ?aF ?aO ?aB ?aS ?aL ?_;(case aP=>exact rfl);(case aB=>exact (by exact zB_ HB.out));(case aF=>exact (fun _ _=>trivial));(case aO=>exact (by apply zR_;exact HO_5.out));(case aS=>exact (zQ (by exact zB_ HB.out)));(case aL=>have:=LMc35.out;omega);intro v403 w36 ho hb hg hat;rw [← Ny402.out] at ho;have n0_:=zA (hb);have n1_:=zA (ho);clear HB;clear HO_5;have HB:=n0_;have HO404:=n1_;clear n0_ n1_;clear ho hb hg hat));try go_wp2_with (first|((with_reducible refine gate_builtin (b:=.append) (xs:=#[.tmp 73,.tmp 78]) rfl ?_);at_builtin;refine Kd.R_append (Kd.int .i64) (w0:=w) w.heap.size rfl (.tmp 73) (.tmp 78) 31 3 (.int .i64 0) 8 rfl Try.underlying31 info3 rfl (by decide) (by omega) u5 x5_3 (rd l0 x6_3) [.int .i64 (rd l0 x6_3)] (fun _=>True) (fun _=>False) rfl rfl ?aP (fun _ hk=>hk.elim) ?aF ?aO ?aB ?aS ?aL ?_;(case aP=>exact rfl);(case aB=>exact (by exact zB_ HB.out));(case aF=>exact (fun _ _=>trivial));(case aO=>exact (by apply zR_;exact HO_5.out));(case aS=>exact (zQ (by exact zB_ HB.out)));(case aL=>have:=LMc35.out;omega);intro v403 w36 ho hb hg hat;rw [← Ny402.out] at ho;have n0_:=zA (hb);have n1_:=zA (ho);clear HB;clear HO_5;have HB:=n0_;have HO404:=n1_;clear n0_ n1_;clear ho hb hg hat)))
                     go_roundg k3
                     case measure=>have:=HJ1.out;have:=HK2.out;have:=HK3.out;omega
                     case rel=>exact ⟨(y402),(wrap64 (x6_3 - 1)),(by first|rfl|(simp;done)|(simp [*];done)),H',⟨by have:=HJ1.out;have:=HK2.out;have:=HK3.out;omega⟩,⟨by apply zR_;exact HO404.out⟩,⟨by exact zB_ HB.out⟩⟩
                    ·rw [if_neg c35] at H
                     exact absurd H (by simp)
                   ·rw [if_neg c34] at H
                    exact absurd H (by simp)
                  ·rw [if_neg c33] at H
                   exact absurd H (by simp)
                ·rw [if_neg c27] at H
                 have c27b0:decide (x3_1 < x6_3) = false:=zP c27
                 clear c27
                 obtain rfl:=zS H
                 go_wp2
                 repeat (go_quiet (fail);try go_wp2)
                 go_ret
                 exact ⟨_,by first|rfl|(simp [errW_none,errW_some] <;> rfl)|(simp [*,errW_none,errW_some] <;> rfl),by apply zR_;exact HO_5.out,by exact zB_ HB.out⟩
             ·rw [if_neg c21] at H
              exact absurd H (by simp)
            ·rw [if_neg c20] at H
             exact absurd H (by simp)
           ·rw [if_neg c19] at H
            exact absurd H (by simp)
         ·rw [if_neg c16] at H
          exact absurd H (by simp)
        ·rw [if_neg c15] at H
         exact absurd H (by simp)
       ·rw [if_neg c14] at H
        exact absurd H (by simp)
      ·rw [if_neg c13] at H
       exact absurd H (by simp)

/-! ### spec_PermValid: function 111 -/
mutual
def spec_PermValid.l0:Nat→List Int→Int→Option (Bool)
 | 0,_,_=>none
 | k+1,x0,x3=>if x3 < (x0.length:Int) then (if 0≤x3 then ((spec_l6In.f (rd x0 x3) 0 (wrap64 ((x0.length:Int) - 1))).bind fun t407=>(if t407 = true then (spec_PermValid.l1 k x0 x3 0) else (some false))) else (none)) else ((spec_l6In.f (x0.length:Int) 1 12).bind fun t405=>(some t405))
def spec_PermValid.l1:Nat→List Int→Int→Int→Option (Bool)
 | 0,_,_,_=>none
 | k+1,x0,x3,x4=>if x4 < x3 then (if 0≤x4 then (if x4 < (x0.length:Int) then (if 0≤x3 then (if x3 < (x0.length:Int) then (if (rd x0 x4) = (rd x0 x3) then (some false) else (spec_PermValid.l1 k x0 x3 (wrap64 (x4+1)))) else (none)) else (none)) else (none)) else (none)) else (spec_PermValid.l0 k x0 (wrap64 (x3+1)))
end
def spec_PermValid.f (k:Nat) (l0:List Int):Option (Bool):=spec_PermValid.l0 k l0 0
theorem spec_PermValid.mono_l:∀ k,(∀ y0 y1,LeO (spec_PermValid.l0 k y0 y1) (spec_PermValid.l0 (k+1) y0 y1))∧(∀ y0 y1 y2,LeO (spec_PermValid.l1 k y0 y1 y2) (spec_PermValid.l1 (k+1) y0 y1 y2))
 | 0=>⟨fun _ _ r h=>by simp [spec_PermValid.l0] at h,fun _ _ _ r h=>by simp [spec_PermValid.l1] at h⟩
 | k+1=>by
  obtain ⟨ih0,ih1⟩:=spec_PermValid.mono_l k
  refine ⟨?_,?_⟩
  ·intro y0 y1
   unfold spec_PermValid.l0
   repeat' first
   | (with_reducible exact ih0 _ _)
   | (with_reducible exact ih1 _ _ _)
   | (with_reducible exact LeO.refl _)
   | (with_reducible exact za _)
   | (with_reducible refine zc ?_ ?_)
   | (with_reducible refine zb ?_ (fun _=>?_))
  ·intro y0 y1 y2
   unfold spec_PermValid.l1
   repeat' first
   | (with_reducible exact ih0 _ _)
   | (with_reducible exact ih1 _ _ _)
   | (with_reducible exact LeO.refl _)
   | (with_reducible exact za _)
   | (with_reducible refine zc ?_ ?_)
   | (with_reducible refine zb ?_ (fun _=>?_))
theorem spec_PermValid.mono:∀ a0 k,LeO (spec_PermValid.f k a0) (spec_PermValid.f (k+1) a0):=by
 intro a0 k
 obtain ⟨ih0,ih1⟩:=spec_PermValid.mono_l k
 unfold spec_PermValid.f
 repeat' first
   | (with_reducible exact ih0 _ _)
   | (with_reducible exact ih1 _ _ _)
   | (with_reducible exact LeO.refl _)
   | (with_reducible exact za _)
   | (with_reducible refine zc ?_ ?_)
   | (with_reducible refine zb ?_ (fun _=>?_))
set_option maxHeartbeats 8000000 in
set_option maxRecDepth 100000 in
theorem spec_PermValid.calls (k:Nat) (A0:Option Addr) (c0:Nat) (l0:List Int) (r:Bool) (w:World) (hr0:Kd.C (Kd.int .i64) w A0 l0.length l0) (hc0:l0.length≤c0) (h:spec_PermValid.f k l0 = some r) :
  Calls Try.prog 111 #[.slice A0 l0.length c0] w fun e w'=>e = .returned (.bool r)∧Drawn0 w w':=by
 have HR0:=zA hr0
 have HC0:=zA hc0
 clear hr0 hc0
 have H:(spec_PermValid.l0 k l0 0) = some r:=h
 clear h
 have H':=zA H
 clear H
 go_enter Try.func111,Try.ntmps111
 go_wp2
 repeat (go_quiet (fail);try go_wp2)
 go_loopg [3] k (fun kq v3 w' => ∃ (x3_1:Int),v3 = .int .i64 x3_1∧Aside0 (spec_PermValid.l0 kq l0 x3_1 = some r)∧Aside0 (kq≤k)∧Drawn0 w w')
 case atStart=>exact ⟨(0),(by first|rfl|(simp;done)|(simp [*];done)),H',⟨Nat.le_refl _⟩,by repeat (first|exact Drawn0.refl _|apply Drawn0.step)⟩
 case round =>
  clear H'
  (try clear c1)
  obtain ⟨x3_1,rfl,HA,HK1,⟨m1,rfl⟩⟩:=hrel
  cases gk with
  | zero=>exact absurd HA.out (by simp [spec_PermValid.l0])
  | succ k1 =>
   have H:=HA.out
   clear HA
   simp only [spec_PermValid.l0] at H
   by_cases c2:x3_1 < (l0.length:Int)
   ·rw [if_pos c2] at H
    have c2b0:decide (x3_1 < (l0.length:Int)) = true:=zO c2
    clear c2
    by_cases c3:0≤x3_1
    ·rw [if_pos c3] at H
     have c3b0:decide (0≤x3_1) = true:=zO c3
     clear c3
     replace H:=zz0 H
     obtain ⟨t407,A40,H⟩:=H
     try dsimp only at H
     have A4:=zA A40
     clear A40
     by_cases c5:t407 = true
     ·subst c5
      rw [if_pos rfl] at H;try dsimp only at H
      have H':=zA H
      clear H
      have p406:0≤(x3_1:Int):=zE (by with_reducible assumption)
      have q406:x3_1 < (l0.length:Int):=zE (by with_reducible assumption)
      obtain ⟨ad406,e406,hx406_0⟩:=Kd.at_int HR0.out x3_1 p406 q406
      cases e406
      replace p406:=eq_true p406
      replace q406:=eq_true q406
      go_wp2_with (first|(go_at_call 40;(with_reducible refine (spec_l6In.calls (rd l0 x3_1) 0 (wrap64 ((l0.length:Int) - 1)) true _ A4.out).mono ?_);rintro e w' ⟨rfl,⟨nd,rfl⟩⟩;(try first|exact ⟨rfl,_,World.drewN_drewN _ _ _⟩|exact ⟨rfl,_,Eq.trans (World.drewN_drewN _ _ _) (congrArg (World.drewN _) (Nat.add_assoc _ _ _))⟩)))
      repeat (go_quiet (first|(go_at_call 40;(with_reducible refine (spec_l6In.calls (rd l0 x3_1) 0 (wrap64 ((l0.length:Int) - 1)) true _ A4.out).mono ?_);rintro e w' ⟨rfl,⟨nd,rfl⟩⟩;(try first|exact ⟨rfl,_,World.drewN_drewN _ _ _⟩|exact ⟨rfl,_,Eq.trans (World.drewN_drewN _ _ _) (congrArg (World.drewN _) (Nat.add_assoc _ _ _))⟩)));try go_wp2_with (first|(go_at_call 40;(with_reducible refine (spec_l6In.calls (rd l0 x3_1) 0 (wrap64 ((l0.length:Int) - 1)) true _ A4.out).mono ?_);rintro e w' ⟨rfl,⟨nd,rfl⟩⟩;(try first|exact ⟨rfl,_,World.drewN_drewN _ _ _⟩|exact ⟨rfl,_,Eq.trans (World.drewN_drewN _ _ _) (congrArg (World.drewN _) (Nat.add_assoc _ _ _))⟩))))
      go_loopg [4] k1 (fun kq v4 w' => ∃ (x4_2:Int),v4 = .int .i64 x4_2∧Aside0 (spec_PermValid.l1 kq l0 x3_1 x4_2 = some r)∧Aside0 (kq≤k1)∧Drawn0 w w')
      case atStart=>exact ⟨(0),(by first|rfl|(simp;done)|(simp [*];done)),H',⟨Nat.le_refl _⟩,by repeat (first|exact Drawn0.refl _|apply Drawn0.step)⟩
      case round =>
       clear H'
       (try clear c1);(try clear c2);(try clear c2b0);(try clear p2);(try clear c3);(try clear c3b0);(try clear p4);(try clear q4);(try clear hx4);(try clear c5);(try clear hx406_0);(try clear p406);(try clear q406)
       obtain ⟨x4_2,rfl,HA,HK2,⟨m2,rfl⟩⟩:=hrel
       cases gk with
       | zero=>exact absurd HA.out (by simp [spec_PermValid.l1])
       | succ k2 =>
        have H:=HA.out
        clear HA
        simp only [spec_PermValid.l1] at H
        by_cases c6:x4_2 < x3_1
        ·rw [if_pos c6] at H
         have c6b0:decide (x4_2 < x3_1) = true:=zO c6
         clear c6
         by_cases c7:0≤x4_2
         ·rw [if_pos c7] at H
          have c7b0:decide (0≤x4_2) = true:=zO c7
          clear c7
          by_cases c8:x4_2 < (l0.length:Int)
          ·rw [if_pos c8] at H
           have c8b0:decide (x4_2 < (l0.length:Int)) = true:=zO c8
           clear c8
           by_cases c9:0≤x3_1
           ·rw [if_pos c9] at H
            have c9b0:decide (0≤x3_1) = true:=zO c9
            clear c9
            by_cases c10:x3_1 < (l0.length:Int)
            ·rw [if_pos c10] at H
             have c10b0:decide (x3_1 < (l0.length:Int)) = true:=zO c10
             clear c10
             by_cases c11:(rd l0 x4_2) = (rd l0 x3_1)
             ·rw [if_pos c11] at H
              have c11b0:((rd l0 x4_2) == (rd l0 x3_1)) = true:=beq_iff_eq.mpr c11
              have c11b1:((rd l0 x4_2) != (rd l0 x3_1)) = false:=bne_eq_false_iff_eq.mpr c11
              clear c11
              obtain rfl:=zS H
              have p408:0≤(x4_2:Int):=zE (by with_reducible assumption)
              have q408:x4_2 < (l0.length:Int):=zE (by with_reducible assumption)
              obtain ⟨ad408,e408,hx408_0⟩:=Kd.at_int HR0.out x4_2 p408 q408
              obtain rfl:ad406 = ad408:=(by injection e408)
              replace p408:=eq_true p408
              replace q408:=eq_true q408
              have p409:0≤(x3_1:Int):=zE (by with_reducible assumption)
              have q409:x3_1 < (l0.length:Int):=zE (by with_reducible assumption)
              obtain ⟨ad409,e409,hx409_0⟩:=Kd.at_int HR0.out x3_1 p409 q409
              obtain rfl:ad406 = ad409:=(by injection e409)
              replace p409:=eq_true p409
              replace q409:=eq_true q409
              go_wp2
              repeat (go_quiet (fail);try go_wp2)
              go_ret
              exact ⟨by first|rfl|(simp;done)|(simp [*];done),by repeat (first|exact Drawn0.refl _|apply Drawn0.step)⟩
             ·rw [if_neg c11] at H
              have c11b0:((rd l0 x4_2) == (rd l0 x3_1)) = false:=beq_eq_false_iff_ne.mpr c11
              have c11b1:((rd l0 x4_2) != (rd l0 x3_1)) = true:=bne_iff_ne.mpr c11
              have H':=zA H
              clear H
              have p408:0≤(x4_2:Int):=zE (by with_reducible assumption)
              have q408:x4_2 < (l0.length:Int):=zE (by with_reducible assumption)
              obtain ⟨ad408,e408,hx408_0⟩:=Kd.at_int HR0.out x4_2 p408 q408
              obtain rfl:ad406 = ad408:=(by injection e408)
              replace p408:=eq_true p408
              replace q408:=eq_true q408
              have p409:0≤(x3_1:Int):=zE (by with_reducible assumption)
              have q409:x3_1 < (l0.length:Int):=zE (by with_reducible assumption)
              obtain ⟨ad409,e409,hx409_0⟩:=Kd.at_int HR0.out x3_1 p409 q409
              obtain rfl:ad406 = ad409:=(by injection e409)
              replace p409:=eq_true p409
              replace q409:=eq_true q409
              go_wp2
              repeat (go_quiet (fail);try go_wp2)
              go_roundg k2
              case measure=>have:=HK1.out;have:=HK2.out;omega
              case rel=>exact ⟨(wrap64 (x4_2+1)),(by first|rfl|(simp;done)|(simp [*];done)),H',⟨by have:=HK1.out;have:=HK2.out;omega⟩,by repeat (first|exact Drawn0.refl _|apply Drawn0.step)⟩
            ·rw [if_neg c10] at H
             exact absurd H (by simp)
           ·rw [if_neg c9] at H
            exact absurd H (by simp)
          ·rw [if_neg c8] at H
           exact absurd H (by simp)
         ·rw [if_neg c7] at H
          exact absurd H (by simp)
        ·rw [if_neg c6] at H
         have c6b0:decide (x4_2 < x3_1) = false:=zP c6
         clear c6
         have H':=zA H
         clear H
         go_wp2
         repeat (go_quiet (fail);try go_wp2)
         go_roundg k2
         case measure=>have:=HK1.out;have:=HK2.out;omega
         case rel=>exact ⟨(wrap64 (x3_1+1)),(by first|rfl|(simp;done)|(simp [*];done)),H',⟨by have:=HK1.out;have:=HK2.out;omega⟩,by repeat (first|exact Drawn0.refl _|apply Drawn0.step)⟩
     ·replace c5:=Bool.eq_false_iff.mpr c5
      subst c5
      have H1:(some false) = some r:=by rw [if_neg (show ¬ (false = true) by decide)] at H;exact H
      clear H
      have H:=H1
      clear H1
      obtain rfl:=zS H
      have p406:0≤(x3_1:Int):=zE (by with_reducible assumption)
      have q406:x3_1 < (l0.length:Int):=zE (by with_reducible assumption)
      obtain ⟨ad406,e406,hx406_0⟩:=Kd.at_int HR0.out x3_1 p406 q406
      cases e406
      replace p406:=eq_true p406
      replace q406:=eq_true q406
      go_wp2_with (first|(go_at_call 40;(with_reducible refine (spec_l6In.calls (rd l0 x3_1) 0 (wrap64 ((l0.length:Int) - 1)) false _ A4.out).mono ?_);rintro e w' ⟨rfl,⟨nd,rfl⟩⟩;(try first|exact ⟨rfl,_,World.drewN_drewN _ _ _⟩|exact ⟨rfl,_,Eq.trans (World.drewN_drewN _ _ _) (congrArg (World.drewN _) (Nat.add_assoc _ _ _))⟩)))
      repeat (go_quiet (first|(go_at_call 40;(with_reducible refine (spec_l6In.calls (rd l0 x3_1) 0 (wrap64 ((l0.length:Int) - 1)) false _ A4.out).mono ?_);rintro e w' ⟨rfl,⟨nd,rfl⟩⟩;(try first|exact ⟨rfl,_,World.drewN_drewN _ _ _⟩|exact ⟨rfl,_,Eq.trans (World.drewN_drewN _ _ _) (congrArg (World.drewN _) (Nat.add_assoc _ _ _))⟩)));try go_wp2_with (first|(go_at_call 40;(with_reducible refine (spec_l6In.calls (rd l0 x3_1) 0 (wrap64 ((l0.length:Int) - 1)) false _ A4.out).mono ?_);rintro e w' ⟨rfl,⟨nd,rfl⟩⟩;(try first|exact ⟨rfl,_,World.drewN_drewN _ _ _⟩|exact ⟨rfl,_,Eq.trans (World.drewN_drewN _ _ _) (congrArg (World.drewN _) (Nat.add_assoc _ _ _))⟩))))
      go_ret
      exact ⟨by first|rfl|(simp;done)|(simp [*];done),by repeat (first|exact Drawn0.refl _|apply Drawn0.step)⟩
    ·rw [if_neg c3] at H
     exact absurd H (by simp)
   ·rw [if_neg c2] at H
    have c2b0:decide (x3_1 < (l0.length:Int)) = false:=zP c2
    clear c2
    replace H:=zz0 H
    obtain ⟨t405,A120,H⟩:=H
    try dsimp only at H
    have A12:=zA A120
    clear A120
    obtain rfl:=zS H
    go_wp2_with (first|(go_at_call 40;(with_reducible refine (spec_l6In.calls (l0.length:Int) 1 12 t405 _ A12.out).mono ?_);rintro e w' ⟨rfl,⟨nd,rfl⟩⟩;(try first|exact ⟨rfl,_,World.drewN_drewN _ _ _⟩|exact ⟨rfl,_,Eq.trans (World.drewN_drewN _ _ _) (congrArg (World.drewN _) (Nat.add_assoc _ _ _))⟩)))
    repeat (go_quiet (first|(go_at_call 40;(with_reducible refine (spec_l6In.calls (l0.length:Int) 1 12 t405 _ A12.out).mono ?_);rintro e w' ⟨rfl,⟨nd,rfl⟩⟩;(try first|exact ⟨rfl,_,World.drewN_drewN _ _ _⟩|exact ⟨rfl,_,Eq.trans (World.drewN_drewN _ _ _) (congrArg (World.drewN _) (Nat.add_assoc _ _ _))⟩)));try go_wp2_with (first|(go_at_call 40;(with_reducible refine (spec_l6In.calls (l0.length:Int) 1 12 t405 _ A12.out).mono ?_);rintro e w' ⟨rfl,⟨nd,rfl⟩⟩;(try first|exact ⟨rfl,_,World.drewN_drewN _ _ _⟩|exact ⟨rfl,_,Eq.trans (World.drewN_drewN _ _ _) (congrArg (World.drewN _) (Nat.add_assoc _ _ _))⟩))))
    go_ret
    exact ⟨by first|rfl|(simp;done)|(simp [*];done),by repeat (first|exact Drawn0.refl _|apply Drawn0.step)⟩

/-! ### spec_l1Both: function 94 -/
def spec_l1Both.f (k:Nat) (l0:List Int) (l1:List Int):Option (Bool):=(spec_PermValid.f k l0).bind fun t410=>(if t410 = true then ((spec_PermValid.f k l1).bind fun t411=>(if t411 = true then (some ((l0.length:Int) == (l1.length:Int))) else (some false))) else (some false))
theorem spec_l1Both.mono:∀ a0 a1 k,LeO (spec_l1Both.f k a0 a1) (spec_l1Both.f (k+1) a0 a1):=by
 intro a0 a1 k
 unfold spec_l1Both.f
 repeat' first
   | (with_reducible exact spec_PermValid.mono _ _)
   | (with_reducible exact LeO.refl _)
   | (with_reducible exact za _)
   | (with_reducible refine zc ?_ ?_)
   | (with_reducible refine zb ?_ (fun _=>?_))
set_option maxHeartbeats 8000000 in
set_option maxRecDepth 100000 in
theorem spec_l1Both.calls (k:Nat) (A0:Option Addr) (c0:Nat) (l0:List Int) (A1:Option Addr) (c1:Nat) (l1:List Int) (r:Bool) (w:World) (hr0:Kd.C (Kd.int .i64) w A0 l0.length l0) (hc0:l0.length≤c0) (hr1:Kd.C (Kd.int .i64) w A1 l1.length l1) (hc1:l1.length≤c1) (h:spec_l1Both.f k l0 l1 = some r) :
  Calls Try.prog 94 #[.slice A0 l0.length c0,.slice A1 l1.length c1] w fun e w'=>e = .returned (.bool r)∧Drawn0 w w':=by
 have HR0:=zA hr0
 have HC0:=zA hc0
 clear hr0 hc0
 have HR1:=zA hr1
 have HC1:=zA hc1
 clear hr1 hc1
 have H:((spec_PermValid.f k l0).bind fun t410=>(if t410 = true then ((spec_PermValid.f k l1).bind fun t411=>(if t411 = true then (some ((l0.length:Int) == (l1.length:Int))) else (some false))) else (some false))) = some r:=h
 clear h
 replace H:=zz0 H
 obtain ⟨t410,A30,H⟩:=H
 try dsimp only at H
 have A3:=zA A30
 clear A30
 by_cases c4:t410 = true
 ·subst c4
  rw [if_pos rfl] at H;try dsimp only at H
  replace H:=zz0 H
  obtain ⟨t411,A50,H⟩:=H
  try dsimp only at H
  have A5:=zA A50
  clear A50
  by_cases c6:t411 = true
  ·subst c6
   rw [if_pos rfl] at H;try dsimp only at H
   obtain rfl:=zS H
   go_enter Try.func94,Try.ntmps94
   go_wp2_with (first|((with_reducible refine gate_callee (f:=111) rfl ?_);refine goesL_ (some 6) rfl rfl Try.func111 (by kernel_rfl) rfl #[.slice A0 l0.length c0] rfl (by (try simp only [zJ,zM,zN]);first|done|rfl|(simp only [zL,zK];rfl)) ?_;(with_reducible refine (spec_PermValid.calls k _ _ l0 true _ ?side1 ?side2 A3.out).mono ?_);(case side1=>repeat (first|exact HR0.out|apply zC_));(case side2=>exact HC0.out);rintro e w' ⟨rfl,⟨nd,rfl⟩⟩;refine ⟨_,rfl,?_⟩)|(go_at_call 111;(with_reducible refine (spec_PermValid.calls k _ _ l1 true _ ?side1 ?side2 A5.out).mono ?_);(case side1=>repeat (first|exact HR1.out|apply zC_));(case side2=>exact HC1.out);rintro e w' ⟨rfl,⟨nd,rfl⟩⟩))
   go_ret
   exact ⟨by first|rfl|(simp;done)|(simp [*];done),by repeat (first|exact Drawn0.refl _|apply Drawn0.step)⟩
  ·replace c6:=Bool.eq_false_iff.mpr c6
   subst c6
   have H1:(some false) = some r:=by rw [if_neg (show ¬ (false = true) by decide)] at H;exact H
   clear H
   have H:=H1
   clear H1
   obtain rfl:=zS H
   go_enter Try.func94,Try.ntmps94
   go_wp2_with (first|((with_reducible refine gate_callee (f:=111) rfl ?_);refine goesL_ (some 6) rfl rfl Try.func111 (by kernel_rfl) rfl #[.slice A0 l0.length c0] rfl (by (try simp only [zJ,zM,zN]);first|done|rfl|(simp only [zL,zK];rfl)) ?_;(with_reducible refine (spec_PermValid.calls k _ _ l0 true _ ?side1 ?side2 A3.out).mono ?_);(case side1=>repeat (first|exact HR0.out|apply zC_));(case side2=>exact HC0.out);rintro e w' ⟨rfl,⟨nd,rfl⟩⟩;refine ⟨_,rfl,?_⟩)|(go_at_call 111;(with_reducible refine (spec_PermValid.calls k _ _ l1 false _ ?side1 ?side2 A5.out).mono ?_);(case side1=>repeat (first|exact HR1.out|apply zC_));(case side2=>exact HC1.out);rintro e w' ⟨rfl,⟨nd,rfl⟩⟩))
   go_ret
   exact ⟨by first|rfl|(simp;done)|(simp [*];done),by repeat (first|exact Drawn0.refl _|apply Drawn0.step)⟩
 ·replace c4:=Bool.eq_false_iff.mpr c4
  subst c4
  have H1:(some false) = some r:=by rw [if_neg (show ¬ (false = true) by decide)] at H;exact H
  clear H
  have H:=H1
  clear H1
  obtain rfl:=zS H
  go_enter Try.func94,Try.ntmps94
  go_wp2_with (first|((with_reducible refine gate_callee (f:=111) rfl ?_);refine goesL_ (some 6) rfl rfl Try.func111 (by kernel_rfl) rfl #[.slice A0 l0.length c0] rfl (by (try simp only [zJ,zM,zN]);first|done|rfl|(simp only [zL,zK];rfl)) ?_;(with_reducible refine (spec_PermValid.calls k _ _ l0 false _ ?side1 ?side2 A3.out).mono ?_);(case side1=>repeat (first|exact HR0.out|apply zC_));(case side2=>exact HC0.out);rintro e w' ⟨rfl,⟨nd,rfl⟩⟩;refine ⟨_,rfl,?_⟩))
  go_ret
  exact ⟨by first|rfl|(simp;done)|(simp [*];done),by repeat (first|exact Drawn0.refl _|apply Drawn0.step)⟩

end Go.Proofs.Ytdaiohcgdpclnaa.Q
