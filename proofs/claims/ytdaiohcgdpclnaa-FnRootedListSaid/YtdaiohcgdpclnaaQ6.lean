import Derived.Test.YtdaiohcgdpclnaaQ0
import Derived.Test.YtdaiohcgdpclnaaQ4
import Derived.Test.YtdaiohcgdpclnaaZ
namespace Go.Proofs.Ytdaiohcgdpclnaa.Q
open Go.RowKit Go.Proofs.YtdaiohcgdpclnaaW.PrintWords Go.Proofs.YtdaiohcgdpclnaaW.PrintLast Go.Proofs.YtdaiohcgdpclnaaW.PrintMore
attribute [local go_sem] max2_int min2_int max_two min_two max_three min_three max_four min_four   -- for this text's walks alone
set_option linter.unusedVariables false
set_option linter.unusedSimpArgs false

/-! ### spec_l3Flip: function 73 -/
def spec_l3Flip.l0:Nat→Int→List Int→Int→Option (List Int)
 | 0,_,_,_=>none
 | k+1,x0,x3,x4=>if x4 < x0 then ((some (([wrap64 ((wrap64 (2 * x4))+1),wrap64 (2 * x4)]:List Int):List Int)).bind fun y297=>(if x3.length+y297.length < 17592186044416 then (spec_l3Flip.l0 k x0 (x3 ++ y297) (wrap64 (x4+1))) else (none))) else (some x3)
def spec_l3Flip.f (k:Nat) (a0:Int):Option (List Int):=spec_l3Flip.l0 k a0 (([]:List Int)) 0
theorem spec_l3Flip.mono_l:∀ k,(∀ y0 y1 y2,LeO (spec_l3Flip.l0 k y0 y1 y2) (spec_l3Flip.l0 (k+1) y0 y1 y2))
 | 0=>fun _ _ _ r h=>by simp [spec_l3Flip.l0] at h
 | k+1=>by
  have ih0:=spec_l3Flip.mono_l k
  ·intro y0 y1 y2
   unfold spec_l3Flip.l0
   repeat' first
   | (with_reducible exact ih0 _ _ _)
   | (with_reducible exact LeO.refl _)
   | (with_reducible exact za _)
   | (with_reducible refine zc ?_ ?_)
   | (with_reducible refine zb ?_ (fun _=>?_))
theorem spec_l3Flip.mono:∀ a0 k,LeO (spec_l3Flip.f k a0) (spec_l3Flip.f (k+1) a0):=by
 intro a0 k
 have ih0:=spec_l3Flip.mono_l k
 unfold spec_l3Flip.f
 repeat' first
   | (with_reducible exact ih0 _ _ _)
   | (with_reducible exact LeO.refl _)
   | (with_reducible exact za _)
   | (with_reducible refine zc ?_ ?_)
   | (with_reducible refine zb ?_ (fun _=>?_))
set_option maxHeartbeats 8000000 in
set_option maxRecDepth 100000 in
theorem spec_l3Flip.calls (k:Nat) (a0:Int) (r:List Int) (w:World) (h:spec_l3Flip.f k a0 = some r) :
  Calls Try.prog 73 #[.int .i64 a0] w fun e w' => ∃ v0_:Value,e = .returned (v0_)∧Kd.R (Kd.int .i64) 3 w' w.heap.size (fun _=>True) v0_ r∧Below w.heap.size w w':=by
 have HB:=zA (Below.refl w.heap.size w)
 have H:(spec_l3Flip.l0 k a0 (([]:List Int)) 0) = some r:=h
 clear h
 obtain ⟨y294,hy294⟩:∃ y_:List Int,y_ = (([]:List Int)):=⟨_,rfl⟩
 replace H:(spec_l3Flip.l0 k a0 y294 0) = some r:=by (try rw [hy294]);first|with_reducible exact H|with_reducible exact zS_ H|exact H
 have Ny294:=zA hy294
 clear hy294
 have H':=zA H
 clear H
 go_enter Try.func73,Try.ntmps73
 go_wp2_with (first|((with_reducible refine gate_dst (N:=5) rfl ?_);refine Kd.R_lit (Kd.int .i64) _ 3 ?hg (N:=5) ?hd (xs:=([]:List Int)) (inner:=[]) (ok:=fun _=>True) (okp:=fun _=>True) ?hr ?hp (fun _ hk=>hk) trivial (Below.refl _ _) (Nat.le_refl _) (by simp) ?_;(case hd=>rfl);(case hg=>rfl);(case hr=>first|(go_simp;done)|(go_simp;rfl));(case hp=>exact (Reps.none _ _));intro v295 w2 ho3 hb hg_ hnew_;clear hg_ hnew_;(first|rw [← Ny294.out] at ho3|(simp only [Int.reduceToNat] at ho3;rw [← Ny294.out] at ho3));have n0_:=zA (ze ho3 (zQ (by exact zB_ HB.out)));have n1_:=zA (zR (by exact zB_ HB.out) hb);clear HB;have HO296:=n0_;have HB:=n1_;clear n0_ n1_;clear hb ho3))
 go_loopg [3,4] k (fun kq v3 v4 w' => ∃ (x3_1:List Int) (x4_1:Int),v4 = .int .i64 x4_1∧Aside0 (spec_l3Flip.l0 kq a0 x3_1 x4_1 = some r)∧Aside0 (kq≤k)∧Aside0 (Kd.R (Kd.int .i64) 3 w' w.heap.size (fun _=>True) v3 x3_1)∧Aside0 (Below w.heap.size w w'))
 case atStart=>exact ⟨(y294),(0),(by first|rfl|(simp;done)|(simp [*];done)),H',⟨Nat.le_refl _⟩,⟨by apply zR_;exact HO296.out⟩,⟨by exact zB_ HB.out⟩⟩
 case round =>
  clear H'
  (try clear p2)
  obtain ⟨x3_1,x4_1,rfl,HA,HK1,HO_3,HB⟩:=hrel
  cases gk with
  | zero=>exact absurd HA.out (by simp [spec_l3Flip.l0])
  | succ k1 =>
   have H:=HA.out
   clear HA
   simp only [spec_l3Flip.l0] at H
   by_cases c4:x4_1 < a0
   ·rw [if_pos c4] at H
    have c4b0:decide (x4_1 < a0) = true:=zO c4
    clear c4
    obtain ⟨y297,hy297⟩:∃ y_:List Int,y_ = (([wrap64 ((wrap64 (2 * x4_1))+1),wrap64 (2 * x4_1)]:List Int)):=⟨_,rfl⟩
    replace H:(if x3_1.length+y297.length < 17592186044416 then (spec_l3Flip.l0 k1 a0 (x3_1 ++ y297) (wrap64 (x4_1+1))) else (none)) = some r:=by (try rw [hy297]);first|with_reducible exact H|with_reducible exact zS_ H|exact H
    have Ny297:=zA hy297
    clear hy297
    by_cases c5:x3_1.length+y297.length < 17592186044416
    ·rw [if_pos c5] at H
     have LMc5:=zA c5
     clear c5
     obtain ⟨y300,hy300⟩:∃ y_:List Int,y_ = (x3_1 ++ y297):=⟨_,rfl⟩
     replace H:(spec_l3Flip.l0 k1 a0 y300 (wrap64 (x4_1+1))) = some r:=by (try rw [hy300]);first|with_reducible exact H|with_reducible exact zS_ H|exact H
     have Ny300:=zA hy300
     clear hy300
     have H':=zA H
     clear H
     go_wp2_with (first|((with_reducible refine gate_dst (N:=17) rfl ?_);refine Kd.R_lit (Kd.int .i64) _ 3 ?hg (N:=17) ?hd (xs:=([wrap64 ((wrap64 (2 * x4_1))+1),wrap64 (2 * x4_1)]:List Int)) (inner:=[.int .i64 (wrap64 ((wrap64 (2 * x4_1))+1)),.int .i64 (wrap64 (2 * x4_1))]) (ok:=fun _=>True) (okp:=fun _=>True) ?hr ?hp (fun _ hk=>hk) trivial (Below.refl _ _) (Nat.le_refl _) (by simp) ?_;(case hd=>rfl);(case hg=>rfl);(case hr=>first|(go_simp;done)|(go_simp;rfl));(case hp=>exact (Reps.one (show Kd.M (Kd.int .i64) _ _ _ (wrap64 ((wrap64 (2 * x4_1))+1)) [.int .i64 (wrap64 ((wrap64 (2 * x4_1))+1))] from rfl) (Reps.one (show Kd.M (Kd.int .i64) _ _ _ (wrap64 (2 * x4_1)) [.int .i64 (wrap64 (2 * x4_1))] from rfl) (Reps.none _ _))));intro v298 w6 ho7 hb hg_ hnew_;clear hg_ hnew_;(first|rw [← Ny297.out] at ho7|(simp only [Int.reduceToNat] at ho7;rw [← Ny297.out] at ho7));have n0_:=zA (Kd.R_elder' (by apply zR_;exact HO_3.out) (zd ho7) hb);have n1_:=zA (ze (Kd.R_new' ho7 (Kd.R_lt (by apply zR_;exact HO_3.out))) (zQ (by exact zB_ HB.out)));have n2_:=zA (zR (by exact zB_ HB.out) hb);clear HO_3;clear HB;have HO_3:=n0_;have HO299:=n1_;have HB:=n2_;clear n0_ n1_ n2_;clear hb ho7;obtain ⟨Ao9,co9,eo9⟩:=zg HO299.out;subst eo9)|((with_reducible refine gate_builtin (b:=.append) (xs:=#[.tmp 11,.tmp 17]) rfl ?_);at_builtin;refine Kd.R_append_rows (Kd.int .i64) (w0:=w) w.heap.size rfl (.tmp 11) (.tmp 17) 31 3 (.int .i64 0) 8 rfl Try.underlying31 info3 rfl (by decide) (by omega) u3 x3_1 y297 _ _ _ (fun k_=>some k_≠(.slice Ao9 y297.length co9:Value).ownBlock) (fun _=>False) rfl rfl ?aO ?aR (fun _ _ h=>h) (fun _ h=>h.elim) ?aF ?aB ?aS ?aL ?_;(case aR=>repeat (first|exact (zU HO299.out).2.2|apply zC_));(case aB=>exact (by exact zB_ HB.out));(case aF=>exact (fun k_ hk=>Kd.fresh' (Kd.R_lt (by apply zR_;exact HO299.out)) k_ hk));(case aO=>exact (by apply zR_;exact zV HO_3.out (fun _ hk=>hk.2)));(case aS=>exact (zQ (by exact zB_ HB.out)));(case aL=>have:=LMc5.out;omega);intro v301 w8 ho hb hg hat;rw [← Ny300.out] at ho;have n0_:=zA (Kd.R_after (ok:=(fun _=>True)) (by apply zR_;exact HO299.out) hg hat);have n1_:=zA (hb);have n2_:=zA (ho);clear HO299;clear HB;clear HO_3;have HO299:=n0_;have HB:=n1_;have HO302:=n2_;clear n0_ n1_ n2_;clear ho hb hg hat))
     go_roundg k1
     case measure=>have:=HK1.out;omega
     case rel=>exact ⟨(y300),(wrap64 (x4_1+1)),(by first|rfl|(simp;done)|(simp [*];done)),H',⟨by have:=HK1.out;omega⟩,⟨by apply zR_;exact zV HO302.out (fun _ hk=>trivial)⟩,⟨by exact zB_ HB.out⟩⟩
    ·rw [if_neg c5] at H
     exact absurd H (by simp)
   ·rw [if_neg c4] at H
    have c4b0:decide (x4_1 < a0) = false:=zP c4
    clear c4
    obtain rfl:=zS H
    go_wp2
    go_ret
    exact ⟨_,by first|rfl|(simp [errW_none,errW_some] <;> rfl)|(simp [*,errW_none,errW_some] <;> rfl),by apply zR_;exact HO_3.out,by exact zB_ HB.out⟩

/-! ### spec_l1Same: function 74 -/
def spec_l1Same.l0:Nat→Int→List Int→Int→Option (List Int)
 | 0,_,_,_=>none
 | k+1,x0,x3,x4=>if x4 < x0 then (if x3.length < 17592186044416 then (spec_l1Same.l0 k x0 (x3 ++ [x4]) (wrap64 (x4+1))) else (none)) else (some x3)
def spec_l1Same.f (k:Nat) (a0:Int):Option (List Int):=spec_l1Same.l0 k a0 (([]:List Int)) 0
theorem spec_l1Same.mono_l:∀ k,(∀ y0 y1 y2,LeO (spec_l1Same.l0 k y0 y1 y2) (spec_l1Same.l0 (k+1) y0 y1 y2))
 | 0=>fun _ _ _ r h=>by simp [spec_l1Same.l0] at h
 | k+1=>by
  have ih0:=spec_l1Same.mono_l k
  ·intro y0 y1 y2
   unfold spec_l1Same.l0
   repeat' first
   | (with_reducible exact ih0 _ _ _)
   | (with_reducible exact LeO.refl _)
   | (with_reducible exact za _)
   | (with_reducible refine zc ?_ ?_)
   | (with_reducible refine zb ?_ (fun _=>?_))
theorem spec_l1Same.mono:∀ a0 k,LeO (spec_l1Same.f k a0) (spec_l1Same.f (k+1) a0):=by
 intro a0 k
 have ih0:=spec_l1Same.mono_l k
 unfold spec_l1Same.f
 repeat' first
   | (with_reducible exact ih0 _ _ _)
   | (with_reducible exact LeO.refl _)
   | (with_reducible exact za _)
   | (with_reducible refine zc ?_ ?_)
   | (with_reducible refine zb ?_ (fun _=>?_))
set_option maxHeartbeats 8000000 in
set_option maxRecDepth 100000 in
theorem spec_l1Same.calls (k:Nat) (a0:Int) (r:List Int) (w:World) (h:spec_l1Same.f k a0 = some r) :
  Calls Try.prog 74 #[.int .i64 a0] w fun e w' => ∃ v0_:Value,e = .returned (v0_)∧Kd.R (Kd.int .i64) 3 w' w.heap.size (fun _=>True) v0_ r∧Below w.heap.size w w':=by
 have HB:=zA (Below.refl w.heap.size w)
 have H:(spec_l1Same.l0 k a0 (([]:List Int)) 0) = some r:=h
 clear h
 obtain ⟨y303,hy303⟩:∃ y_:List Int,y_ = (([]:List Int)):=⟨_,rfl⟩
 replace H:(spec_l1Same.l0 k a0 y303 0) = some r:=by (try rw [hy303]);first|with_reducible exact H|with_reducible exact zS_ H|exact H
 have Ny303:=zA hy303
 clear hy303
 have H':=zA H
 clear H
 go_enter Try.func74,Try.ntmps74
 go_wp2_with (first|((with_reducible refine gate_dst (N:=5) rfl ?_);refine Kd.R_lit (Kd.int .i64) _ 3 ?hg (N:=5) ?hd (xs:=([]:List Int)) (inner:=[]) (ok:=fun _=>True) (okp:=fun _=>True) ?hr ?hp (fun _ hk=>hk) trivial (Below.refl _ _) (Nat.le_refl _) (by simp) ?_;(case hd=>rfl);(case hg=>rfl);(case hr=>first|(go_simp;done)|(go_simp;rfl));(case hp=>exact (Reps.none _ _));intro v304 w2 ho3 hb hg_ hnew_;clear hg_ hnew_;(first|rw [← Ny303.out] at ho3|(simp only [Int.reduceToNat] at ho3;rw [← Ny303.out] at ho3));have n0_:=zA (ze ho3 (zQ (by exact zB_ HB.out)));have n1_:=zA (zR (by exact zB_ HB.out) hb);clear HB;have HO305:=n0_;have HB:=n1_;clear n0_ n1_;clear hb ho3))
 go_loopg [3,4] k (fun kq v3 v4 w' => ∃ (x3_1:List Int) (x4_1:Int),v4 = .int .i64 x4_1∧Aside0 (spec_l1Same.l0 kq a0 x3_1 x4_1 = some r)∧Aside0 (kq≤k)∧Aside0 (Kd.R (Kd.int .i64) 3 w' w.heap.size (fun _=>True) v3 x3_1)∧Aside0 (Below w.heap.size w w'))
 case atStart=>exact ⟨(y303),(0),(by first|rfl|(simp;done)|(simp [*];done)),H',⟨Nat.le_refl _⟩,⟨by apply zR_;exact HO305.out⟩,⟨by exact zB_ HB.out⟩⟩
 case round =>
  clear H'
  (try clear p2)
  obtain ⟨x3_1,x4_1,rfl,HA,HK1,HO_3,HB⟩:=hrel
  cases gk with
  | zero=>exact absurd HA.out (by simp [spec_l1Same.l0])
  | succ k1 =>
   have H:=HA.out
   clear HA
   simp only [spec_l1Same.l0] at H
   by_cases c4:x4_1 < a0
   ·rw [if_pos c4] at H
    have c4b0:decide (x4_1 < a0) = true:=zO c4
    clear c4
    by_cases c5:x3_1.length < 17592186044416
    ·rw [if_pos c5] at H
     have LMc5:=zA c5
     clear c5
     obtain ⟨y306,hy306⟩:∃ y_:List Int,y_ = (x3_1 ++ [x4_1]):=⟨_,rfl⟩
     replace H:(spec_l1Same.l0 k1 a0 y306 (wrap64 (x4_1+1))) = some r:=by (try rw [hy306]);first|with_reducible exact H|with_reducible exact zS_ H|exact H
     have Ny306:=zA hy306
     clear hy306
     have H':=zA H
     clear H
     go_wp2_with (first|((with_reducible refine gate_builtin (b:=.append) (xs:=#[.tmp 11,.tmp 13]) rfl ?_);at_builtin;refine Kd.R_append (Kd.int .i64) (w0:=w) w.heap.size rfl (.tmp 11) (.tmp 13) 31 3 (.int .i64 0) 8 rfl Try.underlying31 info3 rfl (by decide) (by omega) u3 x3_1 x4_1 [.int .i64 x4_1] (fun _=>True) (fun _=>False) rfl rfl ?aP (fun _ hk=>hk.elim) ?aF ?aO ?aB ?aS ?aL ?_;(case aP=>exact rfl);(case aB=>exact (by exact zB_ HB.out));(case aF=>exact (fun _ _=>trivial));(case aO=>exact (by apply zR_;exact HO_3.out));(case aS=>exact (zQ (by exact zB_ HB.out)));(case aL=>have:=LMc5.out;omega);intro v307 w6 ho hb hg hat;rw [← Ny306.out] at ho;have n0_:=zA (hb);have n1_:=zA (ho);clear HB;clear HO_3;have HB:=n0_;have HO308:=n1_;clear n0_ n1_;clear ho hb hg hat))
     go_roundg k1
     case measure=>have:=HK1.out;omega
     case rel=>exact ⟨(y306),(wrap64 (x4_1+1)),(by first|rfl|(simp;done)|(simp [*];done)),H',⟨by have:=HK1.out;omega⟩,⟨by apply zR_;exact HO308.out⟩,⟨by exact zB_ HB.out⟩⟩
    ·rw [if_neg c5] at H
     exact absurd H (by simp)
   ·rw [if_neg c4] at H
    have c4b0:decide (x4_1 < a0) = false:=zP c4
    clear c4
    obtain rfl:=zS H
    go_wp2
    go_ret
    exact ⟨_,by first|rfl|(simp [errW_none,errW_some] <;> rfl)|(simp [*,errW_none,errW_some] <;> rfl),by apply zR_;exact HO_3.out,by exact zB_ HB.out⟩

/-! ### spec_l3Next: function 75 -/
mutual
def spec_l3Next.j1:Nat→List Int→Int→Option (List Int)
 | 0,_,_=>none
 | k+1,x0,x3=>if x3 < 0 then (some (([]:List Int))) else (spec_l3Next.l1 k x0 x3 (wrap64 ((x0.length:Int) - 1)))
def spec_l3Next.l1:Nat→List Int→Int→Int→Option (List Int)
 | 0,_,_,_=>none
 | k+1,x0,x3,x4=>if 0≤x4 then (if x4 < (x0.length:Int) then (if 0≤x3 then (if x3 < (x0.length:Int) then (if (rd x0 x4) < (rd x0 x3) then (spec_l3Next.l1 k x0 x3 (wrap64 (x4 - 1))) else ((some (([]:List Int):List Int)).bind fun y316=>(if x3≤(x0.length:Int) then (if y316.length+(x0.take (x3:Int).toNat).length < 17592186044416 then ((some (y316 ++ (x0.take (x3:Int).toNat):List Int)).bind fun y320=>(if y320.length < 17592186044416 then (spec_l3Next.l2 k x0 x3 x4 (y320 ++ [rd x0 x4]) (wrap64 ((x0.length:Int) - 1))) else (none))) else (none)) else (none)))) else (none)) else (none)) else (none)) else (none)
def spec_l3Next.l2:Nat→List Int→Int→Int→List Int→Int→Option (List Int)
 | 0,_,_,_,_,_=>none
 | k+1,x0,x3,x4,x5,x6=>if x6 > x3 then (if x6 = x4 then (if 0≤x3 then (if x3 < (x0.length:Int) then (if x5.length < 17592186044416 then (spec_l3Next.l2 k x0 x3 x4 (x5 ++ [rd x0 x3]) (wrap64 (x6 - 1))) else (none)) else (none)) else (none)) else (if 0≤x6 then (if x6 < (x0.length:Int) then (if x5.length < 17592186044416 then (spec_l3Next.l2 k x0 x3 x4 (x5 ++ [rd x0 x6]) (wrap64 (x6 - 1))) else (none)) else (none)) else (none))) else (some x5)
def spec_l3Next.l0:Nat→List Int→Int→Option (List Int)
 | 0,_,_=>none
 | k+1,x0,x3=>if x3 ≥ 0 then (if 0≤x3 then (if x3 < (x0.length:Int) then (if 0≤(wrap64 (x3+1)) then (if (wrap64 (x3+1)) < (x0.length:Int) then (if (rd x0 x3) > (rd x0 (wrap64 (x3+1))) then (spec_l3Next.l0 k x0 (wrap64 (x3 - 1))) else (spec_l3Next.j1 k x0 x3)) else (none)) else (none)) else (none)) else (none)) else (spec_l3Next.j1 k x0 x3)
end
def spec_l3Next.f (k:Nat) (l0:List Int):Option (List Int):=spec_l3Next.l0 k l0 (wrap64 ((l0.length:Int) - 2))
theorem spec_l3Next.mono_l:∀ k,(∀ y0 y1,LeO (spec_l3Next.j1 k y0 y1) (spec_l3Next.j1 (k+1) y0 y1))∧(∀ y0 y1 y2,LeO (spec_l3Next.l1 k y0 y1 y2) (spec_l3Next.l1 (k+1) y0 y1 y2))∧(∀ y0 y1 y2 y3 y4,LeO (spec_l3Next.l2 k y0 y1 y2 y3 y4) (spec_l3Next.l2 (k+1) y0 y1 y2 y3 y4))∧(∀ y0 y1,LeO (spec_l3Next.l0 k y0 y1) (spec_l3Next.l0 (k+1) y0 y1))
 | 0=>⟨fun _ _ r h=>by simp [spec_l3Next.j1] at h,fun _ _ _ r h=>by simp [spec_l3Next.l1] at h,fun _ _ _ _ _ r h=>by simp [spec_l3Next.l2] at h,fun _ _ r h=>by simp [spec_l3Next.l0] at h⟩
 | k+1=>by
  obtain ⟨ih0,ih1,ih2,ih3⟩:=spec_l3Next.mono_l k
  refine ⟨?_,?_,?_,?_⟩
  ·intro y0 y1
   unfold spec_l3Next.j1
   repeat' first
   | (with_reducible exact ih0 _ _)
   | (with_reducible exact ih1 _ _ _)
   | (with_reducible exact ih2 _ _ _ _ _)
   | (with_reducible exact ih3 _ _)
   | (with_reducible exact LeO.refl _)
   | (with_reducible exact za _)
   | (with_reducible refine zc ?_ ?_)
   | (with_reducible refine zb ?_ (fun _=>?_))
  ·intro y0 y1 y2
   unfold spec_l3Next.l1
   repeat' first
   | (with_reducible exact ih0 _ _)
   | (with_reducible exact ih1 _ _ _)
   | (with_reducible exact ih2 _ _ _ _ _)
   | (with_reducible exact ih3 _ _)
   | (with_reducible exact LeO.refl _)
   | (with_reducible exact za _)
   | (with_reducible refine zc ?_ ?_)
   | (with_reducible refine zb ?_ (fun _=>?_))
  ·intro y0 y1 y2 y3 y4
   unfold spec_l3Next.l2
   repeat' first
   | (with_reducible exact ih0 _ _)
   | (with_reducible exact ih1 _ _ _)
   | (with_reducible exact ih2 _ _ _ _ _)
   | (with_reducible exact ih3 _ _)
   | (with_reducible exact LeO.refl _)
   | (with_reducible exact za _)
   | (with_reducible refine zc ?_ ?_)
   | (with_reducible refine zb ?_ (fun _=>?_))
  ·intro y0 y1
   unfold spec_l3Next.l0
   repeat' first
   | (with_reducible exact ih0 _ _)
   | (with_reducible exact ih1 _ _ _)
   | (with_reducible exact ih2 _ _ _ _ _)
   | (with_reducible exact ih3 _ _)
   | (with_reducible exact LeO.refl _)
   | (with_reducible exact za _)
   | (with_reducible refine zc ?_ ?_)
   | (with_reducible refine zb ?_ (fun _=>?_))
theorem spec_l3Next.mono:∀ a0 k,LeO (spec_l3Next.f k a0) (spec_l3Next.f (k+1) a0):=by
 intro a0 k
 obtain ⟨ih0,ih1,ih2,ih3⟩:=spec_l3Next.mono_l k
 unfold spec_l3Next.f
 repeat' first
   | (with_reducible exact ih0 _ _)
   | (with_reducible exact ih1 _ _ _)
   | (with_reducible exact ih2 _ _ _ _ _)
   | (with_reducible exact ih3 _ _)
   | (with_reducible exact LeO.refl _)
   | (with_reducible exact za _)
   | (with_reducible refine zc ?_ ?_)
   | (with_reducible refine zb ?_ (fun _=>?_))
set_option maxHeartbeats 8000000 in
set_option maxRecDepth 100000 in
theorem spec_l3Next.calls (k:Nat) (A0:Option Addr) (c0:Nat) (l0:List Int) (r:List Int) (w:World) (hr0:Kd.C (Kd.int .i64) w A0 l0.length l0) (hc0:l0.length≤c0) (h:spec_l3Next.f k l0 = some r) :
  Calls Try.prog 75 #[.slice A0 l0.length c0] w fun e w' => ∃ v0_:Value,e = .returned (v0_)∧Kd.R (Kd.int .i64) 3 w' w.heap.size (fun _=>True) v0_ r∧Below w.heap.size w w':=by
 have HR0:=zA hr0
 have HC0:=zA hc0
 clear hr0 hc0
 have HB:=zA (Below.refl w.heap.size w)
 have H:(spec_l3Next.l0 k l0 (wrap64 ((l0.length:Int) - 2))) = some r:=h
 clear h
 have HC2:=zA H
 clear H
 go_enter Try.func75,Try.ntmps75
 go_upto_block 0 with (fail)
 repeat (go_quiet (fail);go_upto_block 0 with (fail))
 go_cut [3] (fun v3 wc => ∃ (kq:Nat) (x3_1:Int),v3 = .int .i64 x3_1∧Aside0 (spec_l3Next.j1 kq l0 x3_1 = some r)∧Aside0 (kq≤k)∧Aside0 (Below w.heap.size w wc))
 case first =>
  have H:=HC2.out
  clear HC2
  have H':=zA H
  clear H
  go_wp2
  repeat (go_quiet (fail);try go_wp2)
  go_loopg [3] k (fun kq v3 w' => ∃ (x3_1:Int),v3 = .int .i64 x3_1∧Aside0 (spec_l3Next.l0 kq l0 x3_1 = some r)∧Aside0 (kq≤k)∧Aside0 (Below w.heap.size w w'))
  case atStart=>exact ⟨(wrap64 ((l0.length:Int) - 2)),(by first|rfl|(simp;done)|(simp [*];done)),H',⟨Nat.le_refl _⟩,⟨by exact zB_ HB.out⟩⟩
  case round =>
   clear H'
   (try clear p2)
   obtain ⟨x3_1,rfl,HA,HK1,HB⟩:=hrel
   cases gk with
   | zero=>exact absurd HA.out (by simp [spec_l3Next.l0])
   | succ k1 =>
    have H:=HA.out
    clear HA
    simp only [spec_l3Next.l0] at H
    by_cases c3:x3_1 ≥ 0
    ·rw [if_pos c3] at H
     have c3b0:decide (0≤x3_1) = true:=zO c3
     clear c3
     (first|rw [c3b0]|(simp only [i64_w,i32_w];rw [c3b0])|skip)
     by_cases c4:0≤x3_1
     ·rw [if_pos c4] at H
      have c4b0:decide (0≤x3_1) = true:=zO c4
      clear c4
      by_cases c5:x3_1 < (l0.length:Int)
      ·rw [if_pos c5] at H
       have c5b0:decide (x3_1 < (l0.length:Int)) = true:=zO c5
       clear c5
       obtain ⟨ji6,hji6⟩:∃ j_:Int,(wrap64 (x3_1+1)) = j_:=⟨_,rfl⟩
       replace H:(if 0≤(ji6) then (if (ji6) < (l0.length:Int) then (if (rd l0 x3_1) > (rd l0 (ji6)) then (spec_l3Next.l0 k1 l0 (wrap64 (x3_1 - 1))) else (spec_l3Next.j1 k1 l0 x3_1)) else (none)) else (none)) = some r:=by first|(rw [hji6] at H;exact H)|(simp only [hji6] at H ⊢;exact H)
       have hji6w:(IntKind.i64.wrap (x3_1+1)) = ji6:=(i64_w _).trans hji6
       by_cases c7:0≤(ji6)
       ·rw [if_pos c7] at H
        have c7b0:decide (0≤(ji6)) = true:=zO c7
        clear c7
        by_cases c8:(ji6) < (l0.length:Int)
        ·rw [if_pos c8] at H
         have c8b0:decide ((ji6) < (l0.length:Int)) = true:=zO c8
         clear c8
         by_cases c9:(rd l0 x3_1) > (rd l0 (ji6))
         ·rw [if_pos c9] at H
          have c9b0:decide ((rd l0 (ji6)) < (rd l0 x3_1)) = true:=zO c9
          clear c9
          have H':=zA H
          clear H
          have p309:0≤(x3_1:Int):=zE (by with_reducible assumption)
          have q309:x3_1 < (l0.length:Int):=zE (by with_reducible assumption)
          obtain ⟨ad309,e309,hx309_0⟩:=Kd.at_int HR0.out x3_1 p309 q309
          cases e309
          replace hx309_0:=(HB.out.cell (zY w _ hx309_0)).trans hx309_0
          replace p309:=eq_true p309
          replace q309:=eq_true q309
          have p310:0≤((ji6):Int):=zE (by with_reducible assumption)
          have q310:(ji6) < (l0.length:Int):=zE (by with_reducible assumption)
          obtain ⟨ad310,e310,hx310_0⟩:=Kd.at_int HR0.out (ji6) p310 q310
          obtain rfl:ad309 = ad310:=(by injection e310)
          replace hx310_0:=(HB.out.cell (zY w _ hx310_0)).trans hx310_0
          replace p310:=eq_true p310
          replace q310:=eq_true q310
          go_wp2
          repeat (go_quiet (fail);try go_wp2)
          go_roundg k1
          case measure=>have:=HK1.out;omega
          case rel=>exact ⟨(wrap64 (x3_1 - 1)),(by first|rfl|(simp;done)|(simp [*];done)),H',⟨by have:=HK1.out;omega⟩,⟨by exact zB_ HB.out⟩⟩
         ·rw [if_neg c9] at H
          have c9b0:decide ((rd l0 (ji6)) < (rd l0 x3_1)) = false:=zP c9
          clear c9
          have H':=zA H
          clear H
          have p309:0≤(x3_1:Int):=zE (by with_reducible assumption)
          have q309:x3_1 < (l0.length:Int):=zE (by with_reducible assumption)
          obtain ⟨ad309,e309,hx309_0⟩:=Kd.at_int HR0.out x3_1 p309 q309
          cases e309
          replace hx309_0:=(HB.out.cell (zY w _ hx309_0)).trans hx309_0
          replace p309:=eq_true p309
          replace q309:=eq_true q309
          have p310:0≤((ji6):Int):=zE (by with_reducible assumption)
          have q310:(ji6) < (l0.length:Int):=zE (by with_reducible assumption)
          obtain ⟨ad310,e310,hx310_0⟩:=Kd.at_int HR0.out (ji6) p310 q310
          obtain rfl:ad309 = ad310:=(by injection e310)
          replace hx310_0:=(HB.out.cell (zY w _ hx310_0)).trans hx310_0
          replace p310:=eq_true p310
          replace q310:=eq_true q310
          go_wp2
          repeat (go_quiet (fail);try go_wp2)
          go_meet
          case rel=>exact ⟨_,(x3_1),(by first|rfl|(simp;done)|(simp [*];done)),H',⟨by have:=HK1.out;first|omega|exact Nat.le_refl _⟩,⟨by exact zB_ HB.out⟩⟩
        ·rw [if_neg c8] at H
         exact absurd H (by simp)
       ·rw [if_neg c7] at H
        exact absurd H (by simp)
      ·rw [if_neg c5] at H
       exact absurd H (by simp)
     ·rw [if_neg c4] at H
      exact absurd H (by simp)
    ·rw [if_neg c3] at H
     have c3b0:decide (0≤x3_1) = false:=zP c3
     clear c3
     (first|rw [c3b0]|(simp only [i64_w,i32_w];rw [c3b0])|skip)
     have H':=zA H
     clear H
     go_wp2
     repeat (go_quiet (fail);try go_wp2)
     go_meet
     case rel=>exact ⟨_,(x3_1),(by first|rfl|(simp;done)|(simp [*];done)),H',⟨by have:=HK1.out;first|omega|exact Nat.le_refl _⟩,⟨by exact zB_ HB.out⟩⟩
 case rest =>
  clear HC2
  (try clear p2);(try clear c3);(try clear c3b0);(try clear p3);(try clear q3);(try clear hx3);(try clear c4);(try clear c4b0);(try clear c5);(try clear c5b0);(try clear p6);(try clear c7);(try clear c7b0);(try clear c8);(try clear c8b0);(try clear c9);(try clear c9b0);(try clear hx309_0);(try clear hx310_0);(try clear p2);(try clear p309);(try clear p310);(try clear q309);(try clear q310)
  obtain ⟨kq,x3_1,rfl,HA,HJ1,HB⟩:=hcut
  cases kq with
  | zero=>exact absurd HA.out (by simp [spec_l3Next.j1])
  | succ kj1 =>
   have H:=HA.out
   clear HA
   simp only [spec_l3Next.j1] at H
   by_cases c10:x3_1 < 0
   ·rw [if_pos c10] at H
    have c10b0:decide (x3_1 < 0) = true:=zO c10
    clear c10
    obtain ⟨y311,hy311⟩:∃ y_:List Int,y_ = (([]:List Int)):=⟨_,rfl⟩
    replace H:(some y311) = some r:=by (try rw [hy311]);first|with_reducible exact H|with_reducible exact zS_ H|exact H
    have Ny311:=zA hy311
    clear hy311
    obtain rfl:=zS H
    go_wp2_with (first|((with_reducible refine gate_dst (N:=28) rfl ?_);refine Kd.R_lit (Kd.int .i64) _ 3 ?hg (N:=28) ?hd (xs:=([]:List Int)) (inner:=[]) (ok:=fun _=>True) (okp:=fun _=>True) ?hr ?hp (fun _ hk=>hk) trivial (Below.refl _ _) (Nat.le_refl _) (by simp) ?_;(case hd=>rfl);(case hg=>rfl);(case hr=>first|(go_simp;done)|(go_simp;rfl));(case hp=>exact (Reps.none _ _));intro v312 w11 ho12 hb hg_ hnew_;clear hg_ hnew_;(first|rw [← Ny311.out] at ho12|(simp only [Int.reduceToNat] at ho12;rw [← Ny311.out] at ho12));have n0_:=zA (ze ho12 (zQ (by exact zB_ HB.out)));have n1_:=zA (zR (by exact zB_ HB.out) hb);clear HB;have HO313:=n0_;have HB:=n1_;clear n0_ n1_;clear hb ho12))
    repeat (go_quiet (first|((with_reducible refine gate_dst (N:=28) rfl ?_);refine Kd.R_lit (Kd.int .i64) _ 3 ?hg (N:=28) ?hd (xs:=([]:List Int)) (inner:=[]) (ok:=fun _=>True) (okp:=fun _=>True) ?hr ?hp (fun _ hk=>hk) trivial (Below.refl _ _) (Nat.le_refl _) (by simp) ?_;(case hd=>rfl);(case hg=>rfl);(case hr=>first|(go_simp;done)|(go_simp;rfl));(case hp=>exact (Reps.none _ _));intro v312 w11 ho12 hb hg_ hnew_;clear hg_ hnew_;(first|rw [← Ny311.out] at ho12|(simp only [Int.reduceToNat] at ho12;rw [← Ny311.out] at ho12));have n0_:=zA (ze ho12 (zQ (by exact zB_ HB.out)));have n1_:=zA (zR (by exact zB_ HB.out) hb);clear HB;have HO313:=n0_;have HB:=n1_;clear n0_ n1_;clear hb ho12));try go_wp2_with (first|((with_reducible refine gate_dst (N:=28) rfl ?_);refine Kd.R_lit (Kd.int .i64) _ 3 ?hg (N:=28) ?hd (xs:=([]:List Int)) (inner:=[]) (ok:=fun _=>True) (okp:=fun _=>True) ?hr ?hp (fun _ hk=>hk) trivial (Below.refl _ _) (Nat.le_refl _) (by simp) ?_;(case hd=>rfl);(case hg=>rfl);(case hr=>first|(go_simp;done)|(go_simp;rfl));(case hp=>exact (Reps.none _ _));intro v312 w11 ho12 hb hg_ hnew_;clear hg_ hnew_;(first|rw [← Ny311.out] at ho12|(simp only [Int.reduceToNat] at ho12;rw [← Ny311.out] at ho12));have n0_:=zA (ze ho12 (zQ (by exact zB_ HB.out)));have n1_:=zA (zR (by exact zB_ HB.out) hb);clear HB;have HO313:=n0_;have HB:=n1_;clear n0_ n1_;clear hb ho12)))
    go_ret
    exact ⟨_,by first|rfl|(simp [errW_none,errW_some] <;> rfl)|(simp [*,errW_none,errW_some] <;> rfl),by apply zR_;exact HO313.out,by exact zB_ HB.out⟩
   ·rw [if_neg c10] at H
    have c10b0:decide (x3_1 < 0) = false:=zP c10
    clear c10
    have H':=zA H
    clear H
    go_wp2
    repeat (go_quiet (fail);try go_wp2)
    go_loopg [4] kj1 (fun kq v4 w' => ∃ (x4_2:Int),v4 = .int .i64 x4_2∧Aside0 (spec_l3Next.l1 kq l0 x3_1 x4_2 = some r)∧Aside0 (kq≤kj1)∧Aside0 (Below w.heap.size w w'))
    case atStart=>exact ⟨(wrap64 ((l0.length:Int) - 1)),(by first|rfl|(simp;done)|(simp [*];done)),H',⟨Nat.le_refl _⟩,⟨by exact zB_ HB.out⟩⟩
    case round =>
     clear H'
     (try clear c1);(try clear p2);(try clear c3);(try clear c3b0);(try clear p3);(try clear q3);(try clear hx3);(try clear c4);(try clear c4b0);(try clear c5);(try clear c5b0);(try clear p6);(try clear c7);(try clear c7b0);(try clear c8);(try clear c8b0);(try clear c9);(try clear c9b0);(try clear c10);(try clear c10b0);(try clear hx309_0);(try clear hx310_0);(try clear p2);(try clear p3);(try clear p309);(try clear p310);(try clear p6);(try clear q3);(try clear q309);(try clear q310)
     obtain ⟨x4_2,rfl,HA,HK2,HB⟩:=hrel
     cases gk with
     | zero=>exact absurd HA.out (by simp [spec_l3Next.l1])
     | succ k2 =>
      have H:=HA.out
      clear HA
      simp only [spec_l3Next.l1] at H
      by_cases c13:0≤x4_2
      ·rw [if_pos c13] at H
       have c13b0:decide (0≤x4_2) = true:=zO c13
       clear c13
       by_cases c14:x4_2 < (l0.length:Int)
       ·rw [if_pos c14] at H
        have c14b0:decide (x4_2 < (l0.length:Int)) = true:=zO c14
        clear c14
        by_cases c15:0≤x3_1
        ·rw [if_pos c15] at H
         have c15b0:decide (0≤x3_1) = true:=zO c15
         clear c15
         by_cases c16:x3_1 < (l0.length:Int)
         ·rw [if_pos c16] at H
          have c16b0:decide (x3_1 < (l0.length:Int)) = true:=zO c16
          clear c16
          by_cases c17:(rd l0 x4_2) < (rd l0 x3_1)
          ·rw [if_pos c17] at H
           have c17b0:decide ((rd l0 x4_2) < (rd l0 x3_1)) = true:=zO c17
           clear c17
           have H':=zA H
           clear H
           have p314:0≤(x4_2:Int):=zE (by with_reducible assumption)
           have q314:x4_2 < (l0.length:Int):=zE (by with_reducible assumption)
           obtain ⟨ad314,e314,hx314_0⟩:=Kd.at_int HR0.out x4_2 p314 q314
           cases e314
           replace hx314_0:=(HB.out.cell (zY w _ hx314_0)).trans hx314_0
           replace p314:=eq_true p314
           replace q314:=eq_true q314
           have p315:0≤(x3_1:Int):=zE (by with_reducible assumption)
           have q315:x3_1 < (l0.length:Int):=zE (by with_reducible assumption)
           obtain ⟨ad315,e315,hx315_0⟩:=Kd.at_int HR0.out x3_1 p315 q315
           obtain rfl:ad314 = ad315:=(by injection e315)
           replace hx315_0:=(HB.out.cell (zY w _ hx315_0)).trans hx315_0
           replace p315:=eq_true p315
           replace q315:=eq_true q315
           go_wp2
           repeat (go_quiet (fail);try go_wp2)
           go_roundg k2
           case measure=>have:=HJ1.out;have:=HK2.out;omega
           case rel=>exact ⟨(wrap64 (x4_2 - 1)),(by first|rfl|(simp;done)|(simp [*];done)),H',⟨by have:=HJ1.out;have:=HK2.out;omega⟩,⟨by exact zB_ HB.out⟩⟩
          ·rw [if_neg c17] at H
           have c17b0:decide ((rd l0 x4_2) < (rd l0 x3_1)) = false:=zP c17
           clear c17
           obtain ⟨y316,hy316⟩:∃ y_:List Int,y_ = (([]:List Int)):=⟨_,rfl⟩
           replace H:(if x3_1≤(l0.length:Int) then (if y316.length+(l0.take (x3_1:Int).toNat).length < 17592186044416 then ((some (y316 ++ (l0.take (x3_1:Int).toNat):List Int)).bind fun y320=>(if y320.length < 17592186044416 then (spec_l3Next.l2 k2 l0 x3_1 x4_2 (y320 ++ [rd l0 x4_2]) (wrap64 ((l0.length:Int) - 1))) else (none))) else (none)) else (none)) = some r:=by (try rw [hy316]);first|with_reducible exact H|with_reducible exact zS_ H|exact H
           have Ny316:=zA hy316
           clear hy316
           have c18b0:=eq_true (zE (by with_reducible assumption):0≤x3_1)
           by_cases c19:x3_1≤(l0.length:Int)
           ·rw [if_pos c19] at H
            have c19b0:=eq_true c19
            have c19b1:decide (x3_1≤(l0.length:Int)) = true:=zO c19
            clear c19
            by_cases c20:y316.length+(l0.take (x3_1:Int).toNat).length < 17592186044416
            ·rw [if_pos c20] at H
             have LMc20:=zA c20
             clear c20
             obtain ⟨y320,hy320⟩:∃ y_:List Int,y_ = (y316 ++ (l0.take (x3_1:Int).toNat)):=⟨_,rfl⟩
             replace H:(if y320.length < 17592186044416 then (spec_l3Next.l2 k2 l0 x3_1 x4_2 (y320 ++ [rd l0 x4_2]) (wrap64 ((l0.length:Int) - 1))) else (none)) = some r:=by (try rw [hy320]);first|with_reducible exact H|with_reducible exact zS_ H|exact H
             have Ny320:=zA hy320
             clear hy320
             by_cases c21:y320.length < 17592186044416
             ·rw [if_pos c21] at H
              have LMc21:=zA c21
              clear c21
              obtain ⟨y324,hy324⟩:∃ y_:List Int,y_ = (y320 ++ [rd l0 x4_2]):=⟨_,rfl⟩
              replace H:(spec_l3Next.l2 k2 l0 x3_1 x4_2 y324 (wrap64 ((l0.length:Int) - 1))) = some r:=by (try rw [hy324]);first|with_reducible exact H|with_reducible exact zS_ H|exact H
              have Ny324:=zA hy324
              clear hy324
              have H':=zA H
              clear H
              have p314:0≤(x4_2:Int):=zE (by with_reducible assumption)
              have q314:x4_2 < (l0.length:Int):=zE (by with_reducible assumption)
              obtain ⟨ad314,e314,hx314_0⟩:=Kd.at_int HR0.out x4_2 p314 q314
              cases e314
              replace hx314_0:=(HB.out.cell (zY w _ hx314_0)).trans hx314_0
              replace p314:=eq_true p314
              replace q314:=eq_true q314
              have p315:0≤(x3_1:Int):=zE (by with_reducible assumption)
              have q315:x3_1 < (l0.length:Int):=zE (by with_reducible assumption)
              obtain ⟨ad315,e315,hx315_0⟩:=Kd.at_int HR0.out x3_1 p315 q315
              obtain rfl:ad314 = ad315:=(by injection e315)
              replace hx315_0:=(HB.out.cell (zY w _ hx315_0)).trans hx315_0
              replace p315:=eq_true p315
              replace q315:=eq_true q315
              go_wp2_with (first|((with_reducible refine gate_dst (N:=43) rfl ?_);refine Kd.R_lit (Kd.int .i64) _ 3 ?hg (N:=43) ?hd (xs:=([]:List Int)) (inner:=[]) (ok:=fun _=>True) (okp:=fun _=>True) ?hr ?hp (fun _ hk=>hk) trivial (Below.refl _ _) (Nat.le_refl _) (by simp) ?_;(case hd=>rfl);(case hg=>rfl);(case hr=>first|(go_simp;done)|(go_simp;rfl));(case hp=>exact (Reps.none _ _));intro v317 w22 ho23 hb hg_ hnew_;clear hg_ hnew_;(first|rw [← Ny316.out] at ho23|(simp only [Int.reduceToNat] at ho23;rw [← Ny316.out] at ho23));have n0_:=zA (ze ho23 (zQ (by exact zB_ HB.out)));have n1_:=zA (zR (by exact zB_ HB.out) hb);clear HB;have HO318:=n0_;have HB:=n1_;clear n0_ n1_;clear hb ho23;obtain ⟨i024,hi024,_,hsz24,_⟩:=info_parts info3;obtain ⟨hcut24,hA24,hC24⟩:=print_take_of (P:=Try.prog) (Value.int .i64) 0 31 3 .i64 Try.underlying31 hi024 hsz24 (some ad314) c0 l0 x3_1 (zE (by with_reducible assumption)) (zE (by with_reducible assumption)) HC0.out;have HR319:=zA (Kd.C_of_reads (h1:=fun _=>rfl) (hA24 _ (Kd.reads_of_C HR0.out)));have HC319:=zA hC24;clear hA24 hC24 hi024 hsz24)|((with_reducible refine gate_builtin (b:=.append) (xs:=#[.tmp 43,.tmp 46]) rfl ?_);at_builtin;refine Kd.R_append_rows (Kd.int .i64) (w0:=w) w.heap.size rfl (.tmp 43) (.tmp 46) 31 3 (.int .i64 0) 8 rfl Try.underlying31 info3 rfl (by decide) (by omega) v317 y316 (l0.take (x3_1:Int).toNat) _ _ _ (fun _=>True) (fun _=>False) rfl rfl ?aO ?aR (fun _ _ h=>h) (fun _ h=>h.elim) ?aF ?aB ?aS ?aL ?_;(case aR=>first|(have hq_:(l0.take (x3_1:Int).toNat).length = x3_1.toNat:=(by rw [zK];have h_:(x3_1:Int)≤(l0.length:Int):=zE (by with_reducible assumption);omega);have hz_:=zW HR319.out HB.out;rw [hq_] at hz_;exact hz_)|(rw [← show (l0.take (x3_1:Int).toNat).length = x3_1.toNat from (by rw [zK];have h_:(x3_1:Int)≤(l0.length:Int):=zE (by with_reducible assumption);omega)];repeat (first|exact (zW HR319.out HB.out)|(with_reducible exact HR319.out)|apply zC_))|(repeat (first|exact (zW HR319.out HB.out)|(with_reducible exact HR319.out)|apply zC_)));(case aB=>exact (by exact zB_ HB.out));(case aF=>exact (fun _ _=>trivial));(case aO=>exact (by apply zR_;exact HO318.out));(case aS=>exact (zQ (by exact zB_ HB.out)));(case aL=>have:=LMc20.out;have hlx_:=(show (l0.take (x3_1:Int).toNat).length = x3_1.toNat from (by rw [zK];have h_:(x3_1:Int)≤(l0.length:Int):=zE (by with_reducible assumption);omega));omega);intro v321 w25 ho hb hg hat;rw [← Ny320.out] at ho;have n0_:=zA (hb);have n1_:=zA (ho);clear HB;clear HO318;have HB:=n0_;have HO322:=n1_;clear n0_ n1_;clear ho hb hg hat;have p323:0≤(x4_2:Int):=zE (by with_reducible assumption);have q323:x4_2 < (l0.length:Int):=zE (by with_reducible assumption);obtain ⟨ad323,e323,hx323_0⟩:=Kd.at_int HR0.out x4_2 p323 q323;obtain rfl:ad314 = ad323:=(by injection e323);replace hx323_0:=(HB.out.cell (zY w _ hx323_0)).trans hx323_0;replace p323:=eq_true p323;replace q323:=eq_true q323)|((with_reducible refine gate_builtin (b:=.append) (xs:=#[.tmp 48,.tmp 53]) rfl ?_);at_builtin;refine Kd.R_append (Kd.int .i64) (w0:=w) w.heap.size rfl (.tmp 48) (.tmp 53) 31 3 (.int .i64 0) 8 rfl Try.underlying31 info3 rfl (by decide) (by omega) v321 y320 (rd l0 x4_2) [.int .i64 (rd l0 x4_2)] (fun _=>True) (fun _=>False) rfl rfl ?aP (fun _ hk=>hk.elim) ?aF ?aO ?aB ?aS ?aL ?_;(case aP=>exact rfl);(case aB=>exact (by exact zB_ HB.out));(case aF=>exact (fun _ _=>trivial));(case aO=>exact (by apply zR_;exact HO322.out));(case aS=>exact (zQ (by exact zB_ HB.out)));(case aL=>have:=LMc21.out;omega);intro v325 w26 ho hb hg hat;rw [← Ny324.out] at ho;have n0_:=zA (hb);have n1_:=zA (ho);clear HB;clear HO322;have HB:=n0_;have HO326:=n1_;clear n0_ n1_;clear ho hb hg hat))
              repeat (go_quiet (first|((with_reducible refine gate_dst (N:=43) rfl ?_);refine Kd.R_lit (Kd.int .i64) _ 3 ?hg (N:=43) ?hd (xs:=([]:List Int)) (inner:=[]) (ok:=fun _=>True) (okp:=fun _=>True) ?hr ?hp (fun _ hk=>hk) trivial (Below.refl _ _) (Nat.le_refl _) (by simp) ?_;(case hd=>rfl);(case hg=>rfl);(case hr=>first|(go_simp;done)|(go_simp;rfl));(case hp=>exact (Reps.none _ _));intro v317 w22 ho23 hb hg_ hnew_;clear hg_ hnew_;(first|rw [← Ny316.out] at ho23|(simp only [Int.reduceToNat] at ho23;rw [← Ny316.out] at ho23));have n0_:=zA (ze ho23 (zQ (by exact zB_ HB.out)));have n1_:=zA (zR (by exact zB_ HB.out) hb);clear HB;have HO318:=n0_;have HB:=n1_;clear n0_ n1_;clear hb ho23;obtain ⟨i024,hi024,_,hsz24,_⟩:=info_parts info3;obtain ⟨hcut24,hA24,hC24⟩:=print_take_of (P:=Try.prog) (Value.int .i64) 0 31 3 .i64 Try.underlying31 hi024 hsz24 (some ad314) c0 l0 x3_1 (zE (by with_reducible assumption)) (zE (by with_reducible assumption)) HC0.out;have HR319:=zA (Kd.C_of_reads (h1:=fun _=>rfl) (hA24 _ (Kd.reads_of_C HR0.out)));have HC319:=zA hC24;clear hA24 hC24 hi024 hsz24)|((with_reducible refine gate_builtin (b:=.append) (xs:=#[.tmp 43,.tmp 46]) rfl ?_);at_builtin;refine Kd.R_append_rows (Kd.int .i64) (w0:=w) w.heap.size rfl (.tmp 43) (.tmp 46) 31 3 (.int .i64 0) 8 rfl Try.underlying31 info3 rfl (by decide) (by omega) v317 y316 (l0.take (x3_1:Int).toNat) _ _ _ (fun _=>True) (fun _=>False) rfl rfl ?aO ?aR (fun _ _ h=>h) (fun _ h=>h.elim) ?aF ?aB ?aS ?aL ?_;(case aR=>first|(have hq_:(l0.take (x3_1:Int).toNat).length = x3_1.toNat:=(by rw [zK];have h_:(x3_1:Int)≤(l0.length:Int):=zE (by with_reducible assumption);omega);have hz_:=zW HR319.out HB.out;rw [hq_] at hz_;exact hz_)|(rw [← show (l0.take (x3_1:Int).toNat).length = x3_1.toNat from (by rw [zK];have h_:(x3_1:Int)≤(l0.length:Int):=zE (by with_reducible assumption);omega)];repeat (first|exact (zW HR319.out HB.out)|(with_reducible exact HR319.out)|apply zC_))|(repeat (first|exact (zW HR319.out HB.out)|(with_reducible exact HR319.out)|apply zC_)));(case aB=>exact (by exact zB_ HB.out));(case aF=>exact (fun _ _=>trivial));(case aO=>exact (by apply zR_;exact HO318.out));(case aS=>exact (zQ (by exact zB_ HB.out)));(case aL=>have:=LMc20.out;have hlx_:=(show (l0.take (x3_1:Int).toNat).length = x3_1.toNat from (by rw [zK];have h_:(x3_1:Int)≤(l0.length:Int):=zE (by with_reducible assumption);omega));omega);intro v321 w25 ho hb hg hat;rw [← Ny320.out] at ho;have n0_:=zA (hb);have n1_:=zA (ho);clear HB;clear HO318;have HB:=n0_;have HO322:=n1_;clear n0_ n1_;clear ho hb hg hat;have p323:0≤(x4_2:Int):=zE (by with_reducible assumption);have q323:x4_2 < (l0.length:Int):=zE (by with_reducible assumption);obtain ⟨ad323,e323,hx323_0⟩:=Kd.at_int HR0.out x4_2 p323 q323;obtain rfl:ad314 = ad323:=(by injection e323);replace hx323_0:=(HB.out.cell (zY w _ hx323_0)).trans hx323_0;replace p323:=eq_true p323;replace q323:=eq_true q323)|((with_reducible refine gate_builtin (b:=.append) (xs:=#[.tmp 48,.tmp 53]) rfl ?_);at_builtin;refine Kd.R_append (Kd.int .i64) (w0:=w) w.heap.size rfl (.tmp 48) (.tmp 53) 31 3 (.int .i64 0) 8 rfl Try.underlying31 info3 rfl (by decide) (by omega) v321 y320 (rd l0 x4_2) [.int .i64 (rd l0 x4_2)] (fun _=>True) (fun _=>False) rfl rfl ?aP (fun _ hk=>hk.elim) ?aF ?aO ?aB ?aS ?aL ?_;(case aP=>exact rfl);(case aB=>exact (by exact zB_ HB.out));(case aF=>exact (fun _ _=>trivial));(case aO=>exact (by apply zR_;exact HO322.out));(case aS=>exact (zQ (by exact zB_ HB.out)));(case aL=>have:=LMc21.out;omega);intro v325 w26 ho hb hg hat;rw [← Ny324.out] at ho;have n0_:=zA (hb);have n1_:=zA (ho);clear HB;clear HO322;have HB:=n0_;have HO326:=n1_;clear n0_ n1_;clear ho hb hg hat));try go_wp2_with (first|((with_reducible refine gate_dst (N:=43) rfl ?_);refine Kd.R_lit (Kd.int .i64) _ 3 ?hg (N:=43) ?hd (xs:=([]:List Int)) (inner:=[]) (ok:=fun _=>True) (okp:=fun _=>True) ?hr ?hp (fun _ hk=>hk) trivial (Below.refl _ _) (Nat.le_refl _) (by simp) ?_;(case hd=>rfl);(case hg=>rfl);(case hr=>first|(go_simp;done)|(go_simp;rfl));(case hp=>exact (Reps.none _ _));intro v317 w22 ho23 hb hg_ hnew_;clear hg_ hnew_;(first|rw [← Ny316.out] at ho23|(simp only [Int.reduceToNat] at ho23;rw [← Ny316.out] at ho23));have n0_:=zA (ze ho23 (zQ (by exact zB_ HB.out)));have n1_:=zA (zR (by exact zB_ HB.out) hb);clear HB;have HO318:=n0_;have HB:=n1_;clear n0_ n1_;clear hb ho23;obtain ⟨i024,hi024,_,hsz24,_⟩:=info_parts info3;obtain ⟨hcut24,hA24,hC24⟩:=print_take_of (P:=Try.prog) (Value.int .i64) 0 31 3 .i64 Try.underlying31 hi024 hsz24 (some ad314) c0 l0 x3_1 (zE (by with_reducible assumption)) (zE (by with_reducible assumption)) HC0.out;have HR319:=zA (Kd.C_of_reads (h1:=fun _=>rfl) (hA24 _ (Kd.reads_of_C HR0.out)));have HC319:=zA hC24;clear hA24 hC24 hi024 hsz24)|((with_reducible refine gate_builtin (b:=.append) (xs:=#[.tmp 43,.tmp 46]) rfl ?_);at_builtin;refine Kd.R_append_rows (Kd.int .i64) (w0:=w) w.heap.size rfl (.tmp 43) (.tmp 46) 31 3 (.int .i64 0) 8 rfl Try.underlying31 info3 rfl (by decide) (by omega) v317 y316 (l0.take (x3_1:Int).toNat) _ _ _ (fun _=>True) (fun _=>False) rfl rfl ?aO ?aR (fun _ _ h=>h) (fun _ h=>h.elim) ?aF ?aB ?aS ?aL ?_;(case aR=>first|(have hq_:(l0.take (x3_1:Int).toNat).length = x3_1.toNat:=(by rw [zK];have h_:(x3_1:Int)≤(l0.length:Int):=zE (by with_reducible assumption);omega);have hz_:=zW HR319.out HB.out;rw [hq_] at hz_;exact hz_)|(rw [← show (l0.take (x3_1:Int).toNat).length = x3_1.toNat from (by rw [zK];have h_:(x3_1:Int)≤(l0.length:Int):=zE (by with_reducible assumption);omega)];repeat (first|exact (zW HR319.out HB.out)|(with_reducible exact HR319.out)|apply zC_))|(repeat (first|exact (zW HR319.out HB.out)|(with_reducible exact HR319.out)|apply zC_)));(case aB=>exact (by exact zB_ HB.out));(case aF=>exact (fun _ _=>trivial));(case aO=>exact (by apply zR_;exact HO318.out));(case aS=>exact (zQ (by exact zB_ HB.out)));(case aL=>have:=LMc20.out;have hlx_:=(show (l0.take (x3_1:Int).toNat).length = x3_1.toNat from (by rw [zK];have h_:(x3_1:Int)≤(l0.length:Int):=zE (by with_reducible assumption);omega));omega);intro v321 w25 ho hb hg hat;rw [← Ny320.out] at ho;have n0_:=zA (hb);have n1_:=zA (ho);clear HB;clear HO318;have HB:=n0_;have HO322:=n1_;clear n0_ n1_;clear ho hb hg hat;have p323:0≤(x4_2:Int):=zE (by with_reducible assumption);have q323:x4_2 < (l0.length:Int):=zE (by with_reducible assumption);obtain ⟨ad323,e323,hx323_0⟩:=Kd.at_int HR0.out x4_2 p323 q323;obtain rfl:ad314 = ad323:=(by injection e323);replace hx323_0:=(HB.out.cell (zY w _ hx323_0)).trans hx323_0;replace p323:=eq_true p323;replace q323:=eq_true q323)|((with_reducible refine gate_builtin (b:=.append) (xs:=#[.tmp 48,.tmp 53]) rfl ?_);at_builtin;refine Kd.R_append (Kd.int .i64) (w0:=w) w.heap.size rfl (.tmp 48) (.tmp 53) 31 3 (.int .i64 0) 8 rfl Try.underlying31 info3 rfl (by decide) (by omega) v321 y320 (rd l0 x4_2) [.int .i64 (rd l0 x4_2)] (fun _=>True) (fun _=>False) rfl rfl ?aP (fun _ hk=>hk.elim) ?aF ?aO ?aB ?aS ?aL ?_;(case aP=>exact rfl);(case aB=>exact (by exact zB_ HB.out));(case aF=>exact (fun _ _=>trivial));(case aO=>exact (by apply zR_;exact HO322.out));(case aS=>exact (zQ (by exact zB_ HB.out)));(case aL=>have:=LMc21.out;omega);intro v325 w26 ho hb hg hat;rw [← Ny324.out] at ho;have n0_:=zA (hb);have n1_:=zA (ho);clear HB;clear HO322;have HB:=n0_;have HO326:=n1_;clear n0_ n1_;clear ho hb hg hat)))
              go_loopg [5,6] k2 (fun kq v5 v6 w' => ∃ (x5_3:List Int) (x6_3:Int),v6 = .int .i64 x6_3∧Aside0 (spec_l3Next.l2 kq l0 x3_1 x4_2 x5_3 x6_3 = some r)∧Aside0 (kq≤k2)∧Aside0 (Kd.R (Kd.int .i64) 3 w' w.heap.size (fun _=>True) v5 x5_3)∧Aside0 (Below w.heap.size w w'))
              case atStart=>exact ⟨(y324),(wrap64 ((l0.length:Int) - 1)),(by first|rfl|(simp;done)|(simp [*];done)),H',⟨Nat.le_refl _⟩,⟨by apply zR_;exact HO326.out⟩,⟨by exact zB_ HB.out⟩⟩
              case round =>
               clear H'
               (try clear c1);(try clear c2);(try clear p2);(try clear c3);(try clear c3b0);(try clear p3);(try clear q3);(try clear hx3);(try clear c4);(try clear c4b0);(try clear c5);(try clear c5b0);(try clear p6);(try clear c7);(try clear c7b0);(try clear c8);(try clear c8b0);(try clear c9);(try clear c9b0);(try clear c10);(try clear c10b0);(try clear c13);(try clear c13b0);(try clear c14);(try clear c14b0);(try clear c15);(try clear c15b0);(try clear c16);(try clear c16b0);(try clear c17);(try clear c17b0);(try clear c18);(try clear c18b0);(try clear c19);(try clear c19b0);(try clear c19b1);(try clear c20);(try clear c21);(try clear hx309_0);(try clear hx310_0);(try clear hx314_0);(try clear hx315_0);(try clear hx323_0);(try clear p2);(try clear p3);(try clear p309);(try clear p310);(try clear p314);(try clear p315);(try clear p323);(try clear p6);(try clear q3);(try clear q309);(try clear q310);(try clear q314);(try clear q315);(try clear q323)
               obtain ⟨x5_3,x6_3,rfl,HA,HK3,HO_5,HB⟩:=hrel
               cases gk with
               | zero=>exact absurd HA.out (by simp [spec_l3Next.l2])
               | succ k3 =>
                have H:=HA.out
                clear HA
                simp only [spec_l3Next.l2] at H
                by_cases c27:x6_3 > x3_1
                ·rw [if_pos c27] at H
                 have c27b0:decide (x3_1 < x6_3) = true:=zO c27
                 clear c27
                 by_cases c28:x6_3 = x4_2
                 ·rw [if_pos c28] at H
                  have c28b0:(x6_3 == x4_2) = true:=beq_iff_eq.mpr c28
                  have c28b1:(x6_3 != x4_2) = false:=bne_eq_false_iff_eq.mpr c28
                  clear c28
                  by_cases c29:0≤x3_1
                  ·rw [if_pos c29] at H
                   have c29b0:decide (0≤x3_1) = true:=zO c29
                   clear c29
                   by_cases c30:x3_1 < (l0.length:Int)
                   ·rw [if_pos c30] at H
                    have c30b0:decide (x3_1 < (l0.length:Int)) = true:=zO c30
                    clear c30
                    by_cases c31:x5_3.length < 17592186044416
                    ·rw [if_pos c31] at H
                     have LMc31:=zA c31
                     clear c31
                     obtain ⟨y328,hy328⟩:∃ y_:List Int,y_ = (x5_3 ++ [rd l0 x3_1]):=⟨_,rfl⟩
                     replace H:(spec_l3Next.l2 k3 l0 x3_1 x4_2 y328 (wrap64 (x6_3 - 1))) = some r:=by (try rw [hy328]);first|with_reducible exact H|with_reducible exact zS_ H|exact H
                     have Ny328:=zA hy328
                     clear hy328
                     have H':=zA H
                     clear H
                     have p327:0≤(x3_1:Int):=zE (by with_reducible assumption)
                     have q327:x3_1 < (l0.length:Int):=zE (by with_reducible assumption)
                     obtain ⟨ad327,e327,hx327_0⟩:=Kd.at_int HR0.out x3_1 p327 q327
                     obtain rfl:ad314 = ad327:=(by injection e327)
                     replace hx327_0:=(HB.out.cell (zY w _ hx327_0)).trans hx327_0
                     replace p327:=eq_true p327
                     replace q327:=eq_true q327
                     go_wp2_with (first|((with_reducible refine gate_builtin (b:=.append) (xs:=#[.tmp 66,.tmp 71]) rfl ?_);at_builtin;refine Kd.R_append (Kd.int .i64) (w0:=w) w.heap.size rfl (.tmp 66) (.tmp 71) 31 3 (.int .i64 0) 8 rfl Try.underlying31 info3 rfl (by decide) (by omega) u5 x5_3 (rd l0 x3_1) [.int .i64 (rd l0 x3_1)] (fun _=>True) (fun _=>False) rfl rfl ?aP (fun _ hk=>hk.elim) ?aF ?aO ?aB ?aS ?aL ?_;(case aP=>exact rfl);(case aB=>exact (by exact zB_ HB.out));(case aF=>exact (fun _ _=>trivial));(case aO=>exact (by apply zR_;exact HO_5.out));(case aS=>exact (zQ (by exact zB_ HB.out)));(case aL=>have:=LMc31.out;omega);intro v329 w32 ho hb hg hat;rw [← Ny328.out] at ho;have n0_:=zA (hb);have n1_:=zA (ho);clear HB;clear HO_5;have HB:=n0_;have HO330:=n1_;clear n0_ n1_;clear ho hb hg hat))
                     repeat (go_quiet (first|((with_reducible refine gate_builtin (b:=.append) (xs:=#[.tmp 66,.tmp 71]) rfl ?_);at_builtin;refine Kd.R_append (Kd.int .i64) (w0:=w) w.heap.size rfl (.tmp 66) (.tmp 71) 31 3 (.int .i64 0) 8 rfl Try.underlying31 info3 rfl (by decide) (by omega) u5 x5_3 (rd l0 x3_1) [.int .i64 (rd l0 x3_1)] (fun _=>True) (fun _=>False) rfl rfl ?aP (fun _ hk=>hk.elim) ?aF ?aO ?aB ?aS ?aL ?_;(case aP=>exact rfl);(case aB=>exact (by exact zB_ HB.out));(case aF=>exact (fun _ _=>trivial));(case aO=>exact (by apply zR_;exact HO_5.out));(case aS=>exact (zQ (by exact zB_ HB.out)));(case aL=>have:=LMc31.out;omega);intro v329 w32 ho hb hg hat;rw [← Ny328.out] at ho;have n0_:=zA (hb);have n1_:=zA (ho);clear HB;clear HO_5;have HB:=n0_;have HO330:=n1_;clear n0_ n1_;clear ho hb hg hat));try go_wp2_with (first|((with_reducible refine gate_builtin (b:=.append) (xs:=#[.tmp 66,.tmp 71]) rfl ?_);at_builtin;refine Kd.R_append (Kd.int .i64) (w0:=w) w.heap.size rfl (.tmp 66) (.tmp 71) 31 3 (.int .i64 0) 8 rfl Try.underlying31 info3 rfl (by decide) (by omega) u5 x5_3 (rd l0 x3_1) [.int .i64 (rd l0 x3_1)] (fun _=>True) (fun _=>False) rfl rfl ?aP (fun _ hk=>hk.elim) ?aF ?aO ?aB ?aS ?aL ?_;(case aP=>exact rfl);(case aB=>exact (by exact zB_ HB.out));(case aF=>exact (fun _ _=>trivial));(case aO=>exact (by apply zR_;exact HO_5.out));(case aS=>exact (zQ (by exact zB_ HB.out)));(case aL=>have:=LMc31.out;omega);intro v329 w32 ho hb hg hat;rw [← Ny328.out] at ho;have n0_:=zA (hb);have n1_:=zA (ho);clear HB;clear HO_5;have HB:=n0_;have HO330:=n1_;clear n0_ n1_;clear ho hb hg hat)))
                     go_roundg k3
                     case measure=>have:=HJ1.out;have:=HK2.out;have:=HK3.out;omega
                     case rel=>exact ⟨(y328),(wrap64 (x6_3 - 1)),(by first|rfl|(simp;done)|(simp [*];done)),H',⟨by have:=HJ1.out;have:=HK2.out;have:=HK3.out;omega⟩,⟨by apply zR_;exact HO330.out⟩,⟨by exact zB_ HB.out⟩⟩
                    ·rw [if_neg c31] at H
                     exact absurd H (by simp)
                   ·rw [if_neg c30] at H
                    exact absurd H (by simp)
                  ·rw [if_neg c29] at H
                   exact absurd H (by simp)
                 ·rw [if_neg c28] at H
                  have c28b0:(x6_3 == x4_2) = false:=beq_eq_false_iff_ne.mpr c28
                  have c28b1:(x6_3 != x4_2) = true:=bne_iff_ne.mpr c28
                  by_cases c33:0≤x6_3
                  ·rw [if_pos c33] at H
                   have c33b0:decide (0≤x6_3) = true:=zO c33
                   clear c33
                   by_cases c34:x6_3 < (l0.length:Int)
                   ·rw [if_pos c34] at H
                    have c34b0:decide (x6_3 < (l0.length:Int)) = true:=zO c34
                    clear c34
                    by_cases c35:x5_3.length < 17592186044416
                    ·rw [if_pos c35] at H
                     have LMc35:=zA c35
                     clear c35
                     obtain ⟨y332,hy332⟩:∃ y_:List Int,y_ = (x5_3 ++ [rd l0 x6_3]):=⟨_,rfl⟩
                     replace H:(spec_l3Next.l2 k3 l0 x3_1 x4_2 y332 (wrap64 (x6_3 - 1))) = some r:=by (try rw [hy332]);first|with_reducible exact H|with_reducible exact zS_ H|exact H
                     have Ny332:=zA hy332
                     clear hy332
                     have H':=zA H
                     clear H
                     have p331:0≤(x6_3:Int):=zE (by with_reducible assumption)
                     have q331:x6_3 < (l0.length:Int):=zE (by with_reducible assumption)
                     obtain ⟨ad331,e331,hx331_0⟩:=Kd.at_int HR0.out x6_3 p331 q331
                     obtain rfl:ad314 = ad331:=(by injection e331)
                     replace hx331_0:=(HB.out.cell (zY w _ hx331_0)).trans hx331_0
                     replace p331:=eq_true p331
                     replace q331:=eq_true q331
                     go_wp2_with (first|((with_reducible refine gate_builtin (b:=.append) (xs:=#[.tmp 73,.tmp 78]) rfl ?_);at_builtin;refine Kd.R_append (Kd.int .i64) (w0:=w) w.heap.size rfl (.tmp 73) (.tmp 78) 31 3 (.int .i64 0) 8 rfl Try.underlying31 info3 rfl (by decide) (by omega) u5 x5_3 (rd l0 x6_3) [.int .i64 (rd l0 x6_3)] (fun _=>True) (fun _=>False) rfl rfl ?aP (fun _ hk=>hk.elim) ?aF ?aO ?aB ?aS ?aL ?_;(case aP=>exact rfl);(case aB=>exact (by exact zB_ HB.out));(case aF=>exact (fun _ _=>trivial));(case aO=>exact (by apply zR_;exact HO_5.out));(case aS=>exact (zQ (by exact zB_ HB.out)));(case aL=>have:=LMc35.out;omega);intro v333 w36 ho hb hg hat;rw [← Ny332.out] at ho;have n0_:=zA (hb);have n1_:=zA (ho);clear HB;clear HO_5;have HB:=n0_;have HO334:=n1_;clear n0_ n1_;clear ho hb hg hat))
                     repeat (go_quiet (first|((with_reducible refine gate_builtin (b:=.append) (xs:=#[.tmp 73,.tmp 78]) rfl ?_);at_builtin;refine Kd.R_append (Kd.int .i64) (w0:=w) w.heap.size rfl (.tmp 73) (.tmp 78) 31 3 (.int .i64 0) 8 rfl Try.underlying31 info3 rfl (by decide) (by omega) u5 x5_3 (rd l0 x6_3) [.int .i64 (rd l0 x6_3)] (fun _=>True) (fun _=>False) rfl rfl ?aP (fun _ hk=>hk.elim) ?aF ?aO ?aB ?aS ?aL ?_;(case aP=>exact rfl);(case aB=>exact (by exact zB_ HB.out));(case aF=>exact (fun _ _=>trivial));(case aO=>exact (by apply zR_;exact HO_5.out));(case aS=>exact (zQ (by exact zB_ HB.out)));(case aL=>have:=LMc35.out;omega);intro v333 w36 ho hb hg hat;rw [← Ny332.out] at ho;have n0_:=zA (hb);have n1_:=zA (ho);clear HB;clear HO_5;have HB:=n0_;have HO334:=n1_;clear n0_ n1_;clear ho hb hg hat));try go_wp2_with (first|((with_reducible refine gate_builtin (b:=.append) (xs:=#[.tmp 73,.tmp 78]) rfl ?_);at_builtin;refine Kd.R_append (Kd.int .i64) (w0:=w) w.heap.size rfl (.tmp 73) (.tmp 78) 31 3 (.int .i64 0) 8 rfl Try.underlying31 info3 rfl (by decide) (by omega) u5 x5_3 (rd l0 x6_3) [.int .i64 (rd l0 x6_3)] (fun _=>True) (fun _=>False) rfl rfl ?aP (fun _ hk=>hk.elim) ?aF ?aO ?aB ?aS ?aL ?_;(case aP=>exact rfl);(case aB=>exact (by exact zB_ HB.out));(case aF=>exact (fun _ _=>trivial));(case aO=>exact (by apply zR_;exact HO_5.out));(case aS=>exact (zQ (by exact zB_ HB.out)));(case aL=>have:=LMc35.out;omega);intro v333 w36 ho hb hg hat;rw [← Ny332.out] at ho;have n0_:=zA (hb);have n1_:=zA (ho);clear HB;clear HO_5;have HB:=n0_;have HO334:=n1_;clear n0_ n1_;clear ho hb hg hat)))
                     go_roundg k3
                     case measure=>have:=HJ1.out;have:=HK2.out;have:=HK3.out;omega
                     case rel=>exact ⟨(y332),(wrap64 (x6_3 - 1)),(by first|rfl|(simp;done)|(simp [*];done)),H',⟨by have:=HJ1.out;have:=HK2.out;have:=HK3.out;omega⟩,⟨by apply zR_;exact HO334.out⟩,⟨by exact zB_ HB.out⟩⟩
                    ·rw [if_neg c35] at H
                     exact absurd H (by simp)
                   ·rw [if_neg c34] at H
                    exact absurd H (by simp)
                  ·rw [if_neg c33] at H
                   exact absurd H (by simp)
                ·rw [if_neg c27] at H
                 have c27b0:decide (x3_1 < x6_3) = false:=zP c27
                 clear c27
                 obtain rfl:=zS H
                 go_wp2
                 repeat (go_quiet (fail);try go_wp2)
                 go_ret
                 exact ⟨_,by first|rfl|(simp [errW_none,errW_some] <;> rfl)|(simp [*,errW_none,errW_some] <;> rfl),by apply zR_;exact HO_5.out,by exact zB_ HB.out⟩
             ·rw [if_neg c21] at H
              exact absurd H (by simp)
            ·rw [if_neg c20] at H
             exact absurd H (by simp)
           ·rw [if_neg c19] at H
            exact absurd H (by simp)
         ·rw [if_neg c16] at H
          exact absurd H (by simp)
        ·rw [if_neg c15] at H
         exact absurd H (by simp)
       ·rw [if_neg c14] at H
        exact absurd H (by simp)
      ·rw [if_neg c13] at H
       exact absurd H (by simp)

/-! ### spec_PermValid: function 111 -/
mutual
def spec_PermValid.l0:Nat→List Int→Int→Option (Bool)
 | 0,_,_=>none
 | k+1,x0,x3=>if x3 < (x0.length:Int) then (if 0≤x3 then ((spec_l6In.f (rd x0 x3) 0 (wrap64 ((x0.length:Int) - 1))).bind fun t337=>(if t337 = true then (spec_PermValid.l1 k x0 x3 0) else (some false))) else (none)) else ((spec_l6In.f (x0.length:Int) 1 12).bind fun t335=>(some t335))
def spec_PermValid.l1:Nat→List Int→Int→Int→Option (Bool)
 | 0,_,_,_=>none
 | k+1,x0,x3,x4=>if x4 < x3 then (if 0≤x4 then (if x4 < (x0.length:Int) then (if 0≤x3 then (if x3 < (x0.length:Int) then (if (rd x0 x4) = (rd x0 x3) then (some false) else (spec_PermValid.l1 k x0 x3 (wrap64 (x4+1)))) else (none)) else (none)) else (none)) else (none)) else (spec_PermValid.l0 k x0 (wrap64 (x3+1)))
end
def spec_PermValid.f (k:Nat) (l0:List Int):Option (Bool):=spec_PermValid.l0 k l0 0
theorem spec_PermValid.mono_l:∀ k,(∀ y0 y1,LeO (spec_PermValid.l0 k y0 y1) (spec_PermValid.l0 (k+1) y0 y1))∧(∀ y0 y1 y2,LeO (spec_PermValid.l1 k y0 y1 y2) (spec_PermValid.l1 (k+1) y0 y1 y2))
 | 0=>⟨fun _ _ r h=>by simp [spec_PermValid.l0] at h,fun _ _ _ r h=>by simp [spec_PermValid.l1] at h⟩
 | k+1=>by
  obtain ⟨ih0,ih1⟩:=spec_PermValid.mono_l k
  refine ⟨?_,?_⟩
  ·intro y0 y1
   unfold spec_PermValid.l0
   repeat' first
   | (with_reducible exact ih0 _ _)
   | (with_reducible exact ih1 _ _ _)
   | (with_reducible exact LeO.refl _)
   | (with_reducible exact za _)
   | (with_reducible refine zc ?_ ?_)
   | (with_reducible refine zb ?_ (fun _=>?_))
  ·intro y0 y1 y2
   unfold spec_PermValid.l1
   repeat' first
   | (with_reducible exact ih0 _ _)
   | (with_reducible exact ih1 _ _ _)
   | (with_reducible exact LeO.refl _)
   | (with_reducible exact za _)
   | (with_reducible refine zc ?_ ?_)
   | (with_reducible refine zb ?_ (fun _=>?_))
theorem spec_PermValid.mono:∀ a0 k,LeO (spec_PermValid.f k a0) (spec_PermValid.f (k+1) a0):=by
 intro a0 k
 obtain ⟨ih0,ih1⟩:=spec_PermValid.mono_l k
 unfold spec_PermValid.f
 repeat' first
   | (with_reducible exact ih0 _ _)
   | (with_reducible exact ih1 _ _ _)
   | (with_reducible exact LeO.refl _)
   | (with_reducible exact za _)
   | (with_reducible refine zc ?_ ?_)
   | (with_reducible refine zb ?_ (fun _=>?_))
set_option maxHeartbeats 8000000 in
set_option maxRecDepth 100000 in
theorem spec_PermValid.calls (k:Nat) (A0:Option Addr) (c0:Nat) (l0:List Int) (r:Bool) (w:World) (hr0:Kd.C (Kd.int .i64) w A0 l0.length l0) (hc0:l0.length≤c0) (h:spec_PermValid.f k l0 = some r) :
  Calls Try.prog 111 #[.slice A0 l0.length c0] w fun e w'=>e = .returned (.bool r)∧Drawn0 w w':=by
 have HR0:=zA hr0
 have HC0:=zA hc0
 clear hr0 hc0
 have H:(spec_PermValid.l0 k l0 0) = some r:=h
 clear h
 have H':=zA H
 clear H
 go_enter Try.func111,Try.ntmps111
 go_wp2
 repeat (go_quiet (fail);try go_wp2)
 go_loopg [3] k (fun kq v3 w' => ∃ (x3_1:Int),v3 = .int .i64 x3_1∧Aside0 (spec_PermValid.l0 kq l0 x3_1 = some r)∧Aside0 (kq≤k)∧Drawn0 w w')
 case atStart=>exact ⟨(0),(by first|rfl|(simp;done)|(simp [*];done)),H',⟨Nat.le_refl _⟩,by repeat (first|exact Drawn0.refl _|apply Drawn0.step)⟩
 case round =>
  clear H'
  (try clear c1)
  obtain ⟨x3_1,rfl,HA,HK1,⟨m1,rfl⟩⟩:=hrel
  cases gk with
  | zero=>exact absurd HA.out (by simp [spec_PermValid.l0])
  | succ k1 =>
   have H:=HA.out
   clear HA
   simp only [spec_PermValid.l0] at H
   by_cases c2:x3_1 < (l0.length:Int)
   ·rw [if_pos c2] at H
    have c2b0:decide (x3_1 < (l0.length:Int)) = true:=zO c2
    clear c2
    by_cases c3:0≤x3_1
    ·rw [if_pos c3] at H
     have c3b0:decide (0≤x3_1) = true:=zO c3
     clear c3
     replace H:=zz0 H
     obtain ⟨t337,A40,H⟩:=H
     try dsimp only at H
     have A4:=zA A40
     clear A40
     by_cases c5:t337 = true
     ·subst c5
      rw [if_pos rfl] at H;try dsimp only at H
      have H':=zA H
      clear H
      have p336:0≤(x3_1:Int):=zE (by with_reducible assumption)
      have q336:x3_1 < (l0.length:Int):=zE (by with_reducible assumption)
      obtain ⟨ad336,e336,hx336_0⟩:=Kd.at_int HR0.out x3_1 p336 q336
      cases e336
      replace p336:=eq_true p336
      replace q336:=eq_true q336
      go_wp2_with (first|(go_at_call 40;(with_reducible refine (spec_l6In.calls (rd l0 x3_1) 0 (wrap64 ((l0.length:Int) - 1)) true _ A4.out).mono ?_);rintro e w' ⟨rfl,⟨nd,rfl⟩⟩;(try first|exact ⟨rfl,_,World.drewN_drewN _ _ _⟩|exact ⟨rfl,_,Eq.trans (World.drewN_drewN _ _ _) (congrArg (World.drewN _) (Nat.add_assoc _ _ _))⟩)))
      repeat (go_quiet (first|(go_at_call 40;(with_reducible refine (spec_l6In.calls (rd l0 x3_1) 0 (wrap64 ((l0.length:Int) - 1)) true _ A4.out).mono ?_);rintro e w' ⟨rfl,⟨nd,rfl⟩⟩;(try first|exact ⟨rfl,_,World.drewN_drewN _ _ _⟩|exact ⟨rfl,_,Eq.trans (World.drewN_drewN _ _ _) (congrArg (World.drewN _) (Nat.add_assoc _ _ _))⟩)));try go_wp2_with (first|(go_at_call 40;(with_reducible refine (spec_l6In.calls (rd l0 x3_1) 0 (wrap64 ((l0.length:Int) - 1)) true _ A4.out).mono ?_);rintro e w' ⟨rfl,⟨nd,rfl⟩⟩;(try first|exact ⟨rfl,_,World.drewN_drewN _ _ _⟩|exact ⟨rfl,_,Eq.trans (World.drewN_drewN _ _ _) (congrArg (World.drewN _) (Nat.add_assoc _ _ _))⟩))))
      go_loopg [4] k1 (fun kq v4 w' => ∃ (x4_2:Int),v4 = .int .i64 x4_2∧Aside0 (spec_PermValid.l1 kq l0 x3_1 x4_2 = some r)∧Aside0 (kq≤k1)∧Drawn0 w w')
      case atStart=>exact ⟨(0),(by first|rfl|(simp;done)|(simp [*];done)),H',⟨Nat.le_refl _⟩,by repeat (first|exact Drawn0.refl _|apply Drawn0.step)⟩
      case round =>
       clear H'
       (try clear c1);(try clear c2);(try clear c2b0);(try clear p2);(try clear c3);(try clear c3b0);(try clear p3);(try clear q3);(try clear hx3);(try clear c5);(try clear hx336_0);(try clear p336);(try clear q336)
       obtain ⟨x4_2,rfl,HA,HK2,⟨m2,rfl⟩⟩:=hrel
       cases gk with
       | zero=>exact absurd HA.out (by simp [spec_PermValid.l1])
       | succ k2 =>
        have H:=HA.out
        clear HA
        simp only [spec_PermValid.l1] at H
        by_cases c6:x4_2 < x3_1
        ·rw [if_pos c6] at H
         have c6b0:decide (x4_2 < x3_1) = true:=zO c6
         clear c6
         by_cases c7:0≤x4_2
         ·rw [if_pos c7] at H
          have c7b0:decide (0≤x4_2) = true:=zO c7
          clear c7
          by_cases c8:x4_2 < (l0.length:Int)
          ·rw [if_pos c8] at H
           have c8b0:decide (x4_2 < (l0.length:Int)) = true:=zO c8
           clear c8
           by_cases c9:0≤x3_1
           ·rw [if_pos c9] at H
            have c9b0:decide (0≤x3_1) = true:=zO c9
            clear c9
            by_cases c10:x3_1 < (l0.length:Int)
            ·rw [if_pos c10] at H
             have c10b0:decide (x3_1 < (l0.length:Int)) = true:=zO c10
             clear c10
             by_cases c11:(rd l0 x4_2) = (rd l0 x3_1)
             ·rw [if_pos c11] at H
              have c11b0:((rd l0 x4_2) == (rd l0 x3_1)) = true:=beq_iff_eq.mpr c11
              have c11b1:((rd l0 x4_2) != (rd l0 x3_1)) = false:=bne_eq_false_iff_eq.mpr c11
              clear c11
              obtain rfl:=zS H
              have p338:0≤(x4_2:Int):=zE (by with_reducible assumption)
              have q338:x4_2 < (l0.length:Int):=zE (by with_reducible assumption)
              obtain ⟨ad338,e338,hx338_0⟩:=Kd.at_int HR0.out x4_2 p338 q338
              obtain rfl:ad336 = ad338:=(by injection e338)
              replace p338:=eq_true p338
              replace q338:=eq_true q338
              have p339:0≤(x3_1:Int):=zE (by with_reducible assumption)
              have q339:x3_1 < (l0.length:Int):=zE (by with_reducible assumption)
              obtain ⟨ad339,e339,hx339_0⟩:=Kd.at_int HR0.out x3_1 p339 q339
              obtain rfl:ad336 = ad339:=(by injection e339)
              replace p339:=eq_true p339
              replace q339:=eq_true q339
              go_wp2
              repeat (go_quiet (fail);try go_wp2)
              go_ret
              exact ⟨by first|rfl|(simp;done)|(simp [*];done),by repeat (first|exact Drawn0.refl _|apply Drawn0.step)⟩
             ·rw [if_neg c11] at H
              have c11b0:((rd l0 x4_2) == (rd l0 x3_1)) = false:=beq_eq_false_iff_ne.mpr c11
              have c11b1:((rd l0 x4_2) != (rd l0 x3_1)) = true:=bne_iff_ne.mpr c11
              have H':=zA H
              clear H
              have p338:0≤(x4_2:Int):=zE (by with_reducible assumption)
              have q338:x4_2 < (l0.length:Int):=zE (by with_reducible assumption)
              obtain ⟨ad338,e338,hx338_0⟩:=Kd.at_int HR0.out x4_2 p338 q338
              obtain rfl:ad336 = ad338:=(by injection e338)
              replace p338:=eq_true p338
              replace q338:=eq_true q338
              have p339:0≤(x3_1:Int):=zE (by with_reducible assumption)
              have q339:x3_1 < (l0.length:Int):=zE (by with_reducible assumption)
              obtain ⟨ad339,e339,hx339_0⟩:=Kd.at_int HR0.out x3_1 p339 q339
              obtain rfl:ad336 = ad339:=(by injection e339)
              replace p339:=eq_true p339
              replace q339:=eq_true q339
              go_wp2
              repeat (go_quiet (fail);try go_wp2)
              go_roundg k2
              case measure=>have:=HK1.out;have:=HK2.out;omega
              case rel=>exact ⟨(wrap64 (x4_2+1)),(by first|rfl|(simp;done)|(simp [*];done)),H',⟨by have:=HK1.out;have:=HK2.out;omega⟩,by repeat (first|exact Drawn0.refl _|apply Drawn0.step)⟩
            ·rw [if_neg c10] at H
             exact absurd H (by simp)
           ·rw [if_neg c9] at H
            exact absurd H (by simp)
          ·rw [if_neg c8] at H
           exact absurd H (by simp)
         ·rw [if_neg c7] at H
          exact absurd H (by simp)
        ·rw [if_neg c6] at H
         have c6b0:decide (x4_2 < x3_1) = false:=zP c6
         clear c6
         have H':=zA H
         clear H
         go_wp2
         repeat (go_quiet (fail);try go_wp2)
         go_roundg k2
         case measure=>have:=HK1.out;have:=HK2.out;omega
         case rel=>exact ⟨(wrap64 (x3_1+1)),(by first|rfl|(simp;done)|(simp [*];done)),H',⟨by have:=HK1.out;have:=HK2.out;omega⟩,by repeat (first|exact Drawn0.refl _|apply Drawn0.step)⟩
     ·replace c5:=Bool.eq_false_iff.mpr c5
      subst c5
      have H1:(some false) = some r:=by rw [if_neg (show ¬ (false = true) by decide)] at H;exact H
      clear H
      have H:=H1
      clear H1
      obtain rfl:=zS H
      have p336:0≤(x3_1:Int):=zE (by with_reducible assumption)
      have q336:x3_1 < (l0.length:Int):=zE (by with_reducible assumption)
      obtain ⟨ad336,e336,hx336_0⟩:=Kd.at_int HR0.out x3_1 p336 q336
      cases e336
      replace p336:=eq_true p336
      replace q336:=eq_true q336
      go_wp2_with (first|(go_at_call 40;(with_reducible refine (spec_l6In.calls (rd l0 x3_1) 0 (wrap64 ((l0.length:Int) - 1)) false _ A4.out).mono ?_);rintro e w' ⟨rfl,⟨nd,rfl⟩⟩;(try first|exact ⟨rfl,_,World.drewN_drewN _ _ _⟩|exact ⟨rfl,_,Eq.trans (World.drewN_drewN _ _ _) (congrArg (World.drewN _) (Nat.add_assoc _ _ _))⟩)))
      repeat (go_quiet (first|(go_at_call 40;(with_reducible refine (spec_l6In.calls (rd l0 x3_1) 0 (wrap64 ((l0.length:Int) - 1)) false _ A4.out).mono ?_);rintro e w' ⟨rfl,⟨nd,rfl⟩⟩;(try first|exact ⟨rfl,_,World.drewN_drewN _ _ _⟩|exact ⟨rfl,_,Eq.trans (World.drewN_drewN _ _ _) (congrArg (World.drewN _) (Nat.add_assoc _ _ _))⟩)));try go_wp2_with (first|(go_at_call 40;(with_reducible refine (spec_l6In.calls (rd l0 x3_1) 0 (wrap64 ((l0.length:Int) - 1)) false _ A4.out).mono ?_);rintro e w' ⟨rfl,⟨nd,rfl⟩⟩;(try first|exact ⟨rfl,_,World.drewN_drewN _ _ _⟩|exact ⟨rfl,_,Eq.trans (World.drewN_drewN _ _ _) (congrArg (World.drewN _) (Nat.add_assoc _ _ _))⟩))))
      go_ret
      exact ⟨by first|rfl|(simp;done)|(simp [*];done),by repeat (first|exact Drawn0.refl _|apply Drawn0.step)⟩
    ·rw [if_neg c3] at H
     exact absurd H (by simp)
   ·rw [if_neg c2] at H
    have c2b0:decide (x3_1 < (l0.length:Int)) = false:=zP c2
    clear c2
    replace H:=zz0 H
    obtain ⟨t335,A120,H⟩:=H
    try dsimp only at H
    have A12:=zA A120
    clear A120
    obtain rfl:=zS H
    go_wp2_with (first|(go_at_call 40;(with_reducible refine (spec_l6In.calls (l0.length:Int) 1 12 t335 _ A12.out).mono ?_);rintro e w' ⟨rfl,⟨nd,rfl⟩⟩;(try first|exact ⟨rfl,_,World.drewN_drewN _ _ _⟩|exact ⟨rfl,_,Eq.trans (World.drewN_drewN _ _ _) (congrArg (World.drewN _) (Nat.add_assoc _ _ _))⟩)))
    repeat (go_quiet (first|(go_at_call 40;(with_reducible refine (spec_l6In.calls (l0.length:Int) 1 12 t335 _ A12.out).mono ?_);rintro e w' ⟨rfl,⟨nd,rfl⟩⟩;(try first|exact ⟨rfl,_,World.drewN_drewN _ _ _⟩|exact ⟨rfl,_,Eq.trans (World.drewN_drewN _ _ _) (congrArg (World.drewN _) (Nat.add_assoc _ _ _))⟩)));try go_wp2_with (first|(go_at_call 40;(with_reducible refine (spec_l6In.calls (l0.length:Int) 1 12 t335 _ A12.out).mono ?_);rintro e w' ⟨rfl,⟨nd,rfl⟩⟩;(try first|exact ⟨rfl,_,World.drewN_drewN _ _ _⟩|exact ⟨rfl,_,Eq.trans (World.drewN_drewN _ _ _) (congrArg (World.drewN _) (Nat.add_assoc _ _ _))⟩))))
    go_ret
    exact ⟨by first|rfl|(simp;done)|(simp [*];done),by repeat (first|exact Drawn0.refl _|apply Drawn0.step)⟩

/-! ### spec_l1Both: function 94 -/
def spec_l1Both.f (k:Nat) (l0:List Int) (l1:List Int):Option (Bool):=(spec_PermValid.f k l0).bind fun t340=>(if t340 = true then ((spec_PermValid.f k l1).bind fun t341=>(if t341 = true then (some ((l0.length:Int) == (l1.length:Int))) else (some false))) else (some false))
theorem spec_l1Both.mono:∀ a0 a1 k,LeO (spec_l1Both.f k a0 a1) (spec_l1Both.f (k+1) a0 a1):=by
 intro a0 a1 k
 unfold spec_l1Both.f
 repeat' first
   | (with_reducible exact spec_PermValid.mono _ _)
   | (with_reducible exact LeO.refl _)
   | (with_reducible exact za _)
   | (with_reducible refine zc ?_ ?_)
   | (with_reducible refine zb ?_ (fun _=>?_))
set_option maxHeartbeats 8000000 in
set_option maxRecDepth 100000 in
theorem spec_l1Both.calls (k:Nat) (A0:Option Addr) (c0:Nat) (l0:List Int) (A1:Option Addr) (c1:Nat) (l1:List Int) (r:Bool) (w:World) (hr0:Kd.C (Kd.int .i64) w A0 l0.length l0) (hc0:l0.length≤c0) (hr1:Kd.C (Kd.int .i64) w A1 l1.length l1) (hc1:l1.length≤c1) (h:spec_l1Both.f k l0 l1 = some r) :
  Calls Try.prog 94 #[.slice A0 l0.length c0,.slice A1 l1.length c1] w fun e w'=>e = .returned (.bool r)∧Drawn0 w w':=by
 have HR0:=zA hr0
 have HC0:=zA hc0
 clear hr0 hc0
 have HR1:=zA hr1
 have HC1:=zA hc1
 clear hr1 hc1
 have H:((spec_PermValid.f k l0).bind fun t340=>(if t340 = true then ((spec_PermValid.f k l1).bind fun t341=>(if t341 = true then (some ((l0.length:Int) == (l1.length:Int))) else (some false))) else (some false))) = some r:=h
 clear h
 replace H:=zz0 H
 obtain ⟨t340,A30,H⟩:=H
 try dsimp only at H
 have A3:=zA A30
 clear A30
 by_cases c4:t340 = true
 ·subst c4
  rw [if_pos rfl] at H;try dsimp only at H
  replace H:=zz0 H
  obtain ⟨t341,A50,H⟩:=H
  try dsimp only at H
  have A5:=zA A50
  clear A50
  by_cases c6:t341 = true
  ·subst c6
   rw [if_pos rfl] at H;try dsimp only at H
   obtain rfl:=zS H
   go_enter Try.func94,Try.ntmps94
   go_wp2_with (first|((with_reducible refine gate_callee (f:=111) rfl ?_);refine goesL_ (some 6) rfl rfl Try.func111 (by kernel_rfl) rfl #[.slice A0 l0.length c0] rfl (by (try simp only [zJ,zM,zN]);first|done|rfl|(simp only [zL,zK];rfl)) ?_;(with_reducible refine (spec_PermValid.calls k _ _ l0 true _ ?side1 ?side2 A3.out).mono ?_);(case side1=>repeat (first|exact HR0.out|apply zC_));(case side2=>exact HC0.out);rintro e w' ⟨rfl,⟨nd,rfl⟩⟩;refine ⟨_,rfl,?_⟩)|(go_at_call 111;(with_reducible refine (spec_PermValid.calls k _ _ l1 true _ ?side1 ?side2 A5.out).mono ?_);(case side1=>repeat (first|exact HR1.out|apply zC_));(case side2=>exact HC1.out);rintro e w' ⟨rfl,⟨nd,rfl⟩⟩))
   go_ret
   exact ⟨by first|rfl|(simp;done)|(simp [*];done),by repeat (first|exact Drawn0.refl _|apply Drawn0.step)⟩
  ·replace c6:=Bool.eq_false_iff.mpr c6
   subst c6
   have H1:(some false) = some r:=by rw [if_neg (show ¬ (false = true) by decide)] at H;exact H
   clear H
   have H:=H1
   clear H1
   obtain rfl:=zS H
   go_enter Try.func94,Try.ntmps94
   go_wp2_with (first|((with_reducible refine gate_callee (f:=111) rfl ?_);refine goesL_ (some 6) rfl rfl Try.func111 (by kernel_rfl) rfl #[.slice A0 l0.length c0] rfl (by (try simp only [zJ,zM,zN]);first|done|rfl|(simp only [zL,zK];rfl)) ?_;(with_reducible refine (spec_PermValid.calls k _ _ l0 true _ ?side1 ?side2 A3.out).mono ?_);(case side1=>repeat (first|exact HR0.out|apply zC_));(case side2=>exact HC0.out);rintro e w' ⟨rfl,⟨nd,rfl⟩⟩;refine ⟨_,rfl,?_⟩)|(go_at_call 111;(with_reducible refine (spec_PermValid.calls k _ _ l1 false _ ?side1 ?side2 A5.out).mono ?_);(case side1=>repeat (first|exact HR1.out|apply zC_));(case side2=>exact HC1.out);rintro e w' ⟨rfl,⟨nd,rfl⟩⟩))
   go_ret
   exact ⟨by first|rfl|(simp;done)|(simp [*];done),by repeat (first|exact Drawn0.refl _|apply Drawn0.step)⟩
 ·replace c4:=Bool.eq_false_iff.mpr c4
  subst c4
  have H1:(some false) = some r:=by rw [if_neg (show ¬ (false = true) by decide)] at H;exact H
  clear H
  have H:=H1
  clear H1
  obtain rfl:=zS H
  go_enter Try.func94,Try.ntmps94
  go_wp2_with (first|((with_reducible refine gate_callee (f:=111) rfl ?_);refine goesL_ (some 6) rfl rfl Try.func111 (by kernel_rfl) rfl #[.slice A0 l0.length c0] rfl (by (try simp only [zJ,zM,zN]);first|done|rfl|(simp only [zL,zK];rfl)) ?_;(with_reducible refine (spec_PermValid.calls k _ _ l0 false _ ?side1 ?side2 A3.out).mono ?_);(case side1=>repeat (first|exact HR0.out|apply zC_));(case side2=>exact HC0.out);rintro e w' ⟨rfl,⟨nd,rfl⟩⟩;refine ⟨_,rfl,?_⟩))
  go_ret
  exact ⟨by first|rfl|(simp;done)|(simp [*];done),by repeat (first|exact Drawn0.refl _|apply Drawn0.step)⟩

/-! ### spec_l1Orbits: function 95 -/
mutual
def spec_l1Orbits.l0:Nat→List Int→List Int→List Int→Int→Option (List Int)
 | 0,_,_,_,_=>none
 | k+1,x0,x1,x5,x6=>if x6 < (x0.length:Int) then (spec_l1Orbits.l1 k x0 x1 x5 x6 0) else (some x5)
def spec_l1Orbits.l1:Nat→List Int→List Int→List Int→Int→Int→Option (List Int)
 | 0,_,_,_,_,_=>none
 | k+1,x0,x1,x5,x6,x7=>if x7 < (x0.length:Int) then (if 0≤x7 then (if x7 < (x5.length:Int) then (if 0≤(rd x0 x7) then (if (rd x0 x7) < (x5.length:Int) then (if x7 < (x1.length:Int) then (if 0≤(rd x1 x7) then (if (rd x1 x7) < (x5.length:Int) then (spec_l1Orbits.l1 k x0 x1 (((x5.set (x7:Int).toNat (mn (rd x5 x7) (mn (rd x5 (rd x0 x7)) (rd x5 (rd x1 x7))))).set ((rd x0 x7):Int).toNat (mn (rd x5 x7) (mn (rd x5 (rd x0 x7)) (rd x5 (rd x1 x7))))).set ((rd x1 x7):Int).toNat (mn (rd x5 x7) (mn (rd x5 (rd x0 x7)) (rd x5 (rd x1 x7))))) x6 (wrap64 (x7+1))) else (none)) else (none)) else (none)) else (none)) else (none)) else (none)) else (none)) else (spec_l1Orbits.l0 k x0 x1 x5 (wrap64 (x6+1)))
end
def spec_l1Orbits.f (k:Nat) (l0:List Int) (l1:List Int):Option (List Int):=(spec_l1Same.f k (l0.length:Int)).bind fun t342=>(spec_l1Orbits.l0 k l0 l1 t342 0)
theorem spec_l1Orbits.mono_l:∀ k,(∀ y0 y1 y2 y3,LeO (spec_l1Orbits.l0 k y0 y1 y2 y3) (spec_l1Orbits.l0 (k+1) y0 y1 y2 y3))∧(∀ y0 y1 y2 y3 y4,LeO (spec_l1Orbits.l1 k y0 y1 y2 y3 y4) (spec_l1Orbits.l1 (k+1) y0 y1 y2 y3 y4))
 | 0=>⟨fun _ _ _ _ r h=>by simp [spec_l1Orbits.l0] at h,fun _ _ _ _ _ r h=>by simp [spec_l1Orbits.l1] at h⟩
 | k+1=>by
  obtain ⟨ih0,ih1⟩:=spec_l1Orbits.mono_l k
  refine ⟨?_,?_⟩
  ·intro y0 y1 y2 y3
   unfold spec_l1Orbits.l0
   repeat' first
   | (with_reducible exact ih0 _ _ _ _)
   | (with_reducible exact ih1 _ _ _ _ _)
   | (with_reducible exact spec_l1Same.mono _ _)
   | (with_reducible exact LeO.refl _)
   | (with_reducible exact za _)
   | (with_reducible refine zc ?_ ?_)
   | (with_reducible refine zb ?_ (fun _=>?_))
  ·intro y0 y1 y2 y3 y4
   unfold spec_l1Orbits.l1
   repeat' first
   | (with_reducible exact ih0 _ _ _ _)
   | (with_reducible exact ih1 _ _ _ _ _)
   | (with_reducible exact spec_l1Same.mono _ _)
   | (with_reducible exact LeO.refl _)
   | (with_reducible exact za _)
   | (with_reducible refine zc ?_ ?_)
   | (with_reducible refine zb ?_ (fun _=>?_))
theorem spec_l1Orbits.mono:∀ a0 a1 k,LeO (spec_l1Orbits.f k a0 a1) (spec_l1Orbits.f (k+1) a0 a1):=by
 intro a0 a1 k
 obtain ⟨ih0,ih1⟩:=spec_l1Orbits.mono_l k
 unfold spec_l1Orbits.f
 repeat' first
   | (with_reducible exact ih0 _ _ _ _)
   | (with_reducible exact ih1 _ _ _ _ _)
   | (with_reducible exact spec_l1Same.mono _ _)
   | (with_reducible exact LeO.refl _)
   | (with_reducible exact za _)
   | (with_reducible refine zc ?_ ?_)
   | (with_reducible refine zb ?_ (fun _=>?_))
set_option maxHeartbeats 8000000 in
set_option maxRecDepth 100000 in
theorem spec_l1Orbits.calls (k:Nat) (A0:Option Addr) (c0:Nat) (l0:List Int) (A1:Option Addr) (c1:Nat) (l1:List Int) (r:List Int) (w:World) (hr0:Kd.C (Kd.int .i64) w A0 l0.length l0) (hc0:l0.length≤c0) (hr1:Kd.C (Kd.int .i64) w A1 l1.length l1) (hc1:l1.length≤c1) (h:spec_l1Orbits.f k l0 l1 = some r) :
  Calls Try.prog 95 #[.slice A0 l0.length c0,.slice A1 l1.length c1] w fun e w' => ∃ v0_:Value,e = .returned (v0_)∧Kd.R (Kd.int .i64) 3 w' w.heap.size (fun _=>True) v0_ r∧Below w.heap.size w w':=by
 have HR0:=zA hr0
 have HC0:=zA hc0
 clear hr0 hc0
 have HR1:=zA hr1
 have HC1:=zA hc1
 clear hr1 hc1
 have HB:=zA (Below.refl w.heap.size w)
 have H:((spec_l1Same.f k (l0.length:Int)).bind fun t342=>(spec_l1Orbits.l0 k l0 l1 t342 0)) = some r:=h
 clear h
 replace H:=zz0 H
 obtain ⟨t342,A30,H⟩:=H
 try dsimp only at H
 have A3:=zA A30
 clear A30
 have H':=zA H
 clear H
 go_enter Try.func95,Try.ntmps95
 go_wp2_with (first|(go_at_call 74;(with_reducible refine (spec_l1Same.calls k (l0.length:Int) t342 _ A3.out).mono ?_);rintro e w4 ⟨v343,rfl,ho0,hb⟩;have n0_:=zA (ze ho0 (zQ (by exact zB_ HB.out)));have n1_:=zA (zR (by exact zB_ HB.out) hb);clear HB;have HO344:=n0_;have HB:=n1_;clear n0_ n1_;(try clear hb);(try clear hb2);(try clear hk);(try clear hi);(try clear ho0)))
 repeat (go_quiet (fail);try go_wp2_with (first|(go_at_call 74;(with_reducible refine (spec_l1Same.calls k (l0.length:Int) t342 _ A3.out).mono ?_);rintro e w4 ⟨v343,rfl,ho0,hb⟩;have n0_:=zA (ze ho0 (zQ (by exact zB_ HB.out)));have n1_:=zA (zR (by exact zB_ HB.out) hb);clear HB;have HO344:=n0_;have HB:=n1_;clear n0_ n1_;(try clear hb);(try clear hb2);(try clear hk);(try clear hi);(try clear ho0))))
 go_loopg [6] k (fun kq v6 w' => ∃ (x5_1:List Int) (x6_1:Int),v6 = .int .i64 x6_1∧Aside0 (spec_l1Orbits.l0 kq l0 l1 x5_1 x6_1 = some r)∧Aside0 (kq≤k)∧Aside0 (Kd.R (Kd.int .i64) 3 w' w.heap.size (fun _=>True) v343 x5_1)∧Aside0 (Below w.heap.size w w'))
 case atStart=>exact ⟨(t342),(0),(by first|rfl|(simp;done)|(simp [*];done)),H',⟨Nat.le_refl _⟩,⟨by apply zR_;exact HO344.out⟩,⟨by exact zB_ HB.out⟩⟩
 case round =>
  clear H'
  (try clear c1);(try clear p2)
  obtain ⟨x5_1,x6_1,rfl,HA,HK1,HO_5,HB⟩:=hrel
  cases gk with
  | zero=>exact absurd HA.out (by simp [spec_l1Orbits.l0])
  | succ k1 =>
   have H:=HA.out
   clear HA
   simp only [spec_l1Orbits.l0] at H
   by_cases c5:x6_1 < (l0.length:Int)
   ·rw [if_pos c5] at H
    have c5b0:decide (x6_1 < (l0.length:Int)) = true:=zO c5
    clear c5
    have H':=zA H
    clear H
    go_wp2
    repeat (go_quiet (fail);try go_wp2)
    go_loopg [7] k1 (fun kq v7 w' => ∃ (x5_2:List Int) (x7_2:Int),v7 = .int .i64 x7_2∧Aside0 (spec_l1Orbits.l1 kq l0 l1 x5_2 x6_1 x7_2 = some r)∧Aside0 (kq≤k1)∧Aside0 (Kd.R (Kd.int .i64) 3 w' w.heap.size (fun _=>True) v343 x5_2)∧Aside0 (Below w.heap.size w w'))
    case atStart=>exact ⟨(x5_1),(0),(by first|rfl|(simp;done)|(simp [*];done)),H',⟨Nat.le_refl _⟩,⟨by apply zR_;exact HO_5.out⟩,⟨by exact zB_ HB.out⟩⟩
    case round =>
     clear H'
     (try clear c1);(try clear p2);(try clear c5);(try clear c5b0);(try clear p2)
     obtain ⟨x5_2,x7_2,rfl,HA,HK2,HO_5,HB⟩:=hrel
     cases gk with
     | zero=>exact absurd HA.out (by simp [spec_l1Orbits.l1])
     | succ k2 =>
      have H:=HA.out
      clear HA
      simp only [spec_l1Orbits.l1] at H
      by_cases c6:x7_2 < (l0.length:Int)
      ·rw [if_pos c6] at H
       have c6b0:decide (x7_2 < (l0.length:Int)) = true:=zO c6
       clear c6
       by_cases c7:0≤x7_2
       ·rw [if_pos c7] at H
        have c7b0:decide (0≤x7_2) = true:=zO c7
        clear c7
        by_cases c8:x7_2 < (x5_2.length:Int)
        ·rw [if_pos c8] at H
         have c8b0:decide (x7_2 < (x5_2.length:Int)) = true:=zO c8
         clear c8
         by_cases c9:0≤(rd l0 x7_2)
         ·rw [if_pos c9] at H
          have c9b0:decide (0≤(rd l0 x7_2)) = true:=zO c9
          clear c9
          by_cases c10:(rd l0 x7_2) < (x5_2.length:Int)
          ·rw [if_pos c10] at H
           have c10b0:decide ((rd l0 x7_2) < (x5_2.length:Int)) = true:=zO c10
           clear c10
           by_cases c11:x7_2 < (l1.length:Int)
           ·rw [if_pos c11] at H
            have c11b0:decide (x7_2 < (l1.length:Int)) = true:=zO c11
            clear c11
            by_cases c12:0≤(rd l1 x7_2)
            ·rw [if_pos c12] at H
             have c12b0:decide (0≤(rd l1 x7_2)) = true:=zO c12
             clear c12
             by_cases c13:(rd l1 x7_2) < (x5_2.length:Int)
             ·rw [if_pos c13] at H
              have c13b0:decide ((rd l1 x7_2) < (x5_2.length:Int)) = true:=zO c13
              clear c13
              obtain ⟨ji14,hji14⟩:∃ j_:Int,(mn (rd x5_2 (rd l0 x7_2)) (rd x5_2 (rd l1 x7_2))) = j_:=⟨_,rfl⟩
              replace H:(spec_l1Orbits.l1 k2 l0 l1 (((x5_2.set (x7_2:Int).toNat (mn (rd x5_2 x7_2) (ji14))).set ((rd l0 x7_2):Int).toNat (mn (rd x5_2 x7_2) (ji14))).set ((rd l1 x7_2):Int).toNat (mn (rd x5_2 x7_2) (ji14))) x6_1 (wrap64 (x7_2+1))) = some r:=by first|(rw [hji14] at H;exact H)|(simp only [hji14] at H ⊢;exact H)
              have hji14_:(if (rd x5_2 (rd l1 x7_2)) < (rd x5_2 (rd l0 x7_2)) then (rd x5_2 (rd l1 x7_2)) else (rd x5_2 (rd l0 x7_2))) = ji14:=hji14
              obtain ⟨ji15,hji15⟩:∃ j_:Int,(mn (rd x5_2 x7_2) (ji14)) = j_:=⟨_,rfl⟩
              replace H:(spec_l1Orbits.l1 k2 l0 l1 (((x5_2.set (x7_2:Int).toNat (ji15)).set ((rd l0 x7_2):Int).toNat (ji15)).set ((rd l1 x7_2):Int).toNat (ji15)) x6_1 (wrap64 (x7_2+1))) = some r:=by first|(rw [hji15] at H;exact H)|(simp only [hji15] at H ⊢;exact H)
              have hji15_:(if (ji14) < (rd x5_2 x7_2) then (ji14) else (rd x5_2 x7_2)) = ji15:=hji15
              obtain ⟨y350,hy350⟩:∃ y_:List Int,y_ = (x5_2.set (x7_2:Int).toNat (ji15)):=⟨_,rfl⟩
              replace H:(spec_l1Orbits.l1 k2 l0 l1 ((y350.set ((rd l0 x7_2):Int).toNat (ji15)).set ((rd l1 x7_2):Int).toNat (ji15)) x6_1 (wrap64 (x7_2+1))) = some r:=by (try rw [hy350]);first|with_reducible exact H|with_reducible exact zS_ H|exact H
              have Ny350:=zA hy350
              clear hy350
              obtain ⟨y352,hy352⟩:∃ y_:List Int,y_ = (y350.set ((rd l0 x7_2):Int).toNat (ji15)):=⟨_,rfl⟩
              replace H:(spec_l1Orbits.l1 k2 l0 l1 (y352.set ((rd l1 x7_2):Int).toNat (ji15)) x6_1 (wrap64 (x7_2+1))) = some r:=by (try rw [hy352]);first|with_reducible exact H|with_reducible exact zS_ H|exact H
              have Ny352:=zA hy352
              clear hy352
              obtain ⟨y354,hy354⟩:∃ y_:List Int,y_ = (y352.set ((rd l1 x7_2):Int).toNat (ji15)):=⟨_,rfl⟩
              replace H:(spec_l1Orbits.l1 k2 l0 l1 y354 x6_1 (wrap64 (x7_2+1))) = some r:=by (try rw [hy354]);first|with_reducible exact H|with_reducible exact zS_ H|exact H
              have Ny354:=zA hy354
              clear hy354
              have H':=zA H
              clear H
              obtain ⟨Ao19,co19,eo19⟩:=zg HO_5.out
              subst eo19
              have p345:0≤(x7_2:Int):=zE (by with_reducible assumption)
              have q345:x7_2 < (x5_2.length:Int):=zE (by with_reducible assumption)
              obtain ⟨ad345,e345,hx345_0⟩:=Kd.at_int (zU HO_5.out).2.2 x7_2 p345 q345
              cases e345
              replace p345:=eq_true p345
              replace q345:=eq_true q345
              have p346:0≤(x7_2:Int):=zE (by with_reducible assumption)
              have q346:x7_2 < (l0.length:Int):=zE (by with_reducible assumption)
              obtain ⟨ad346,e346,hx346_0⟩:=Kd.at_int HR0.out x7_2 p346 q346
              cases e346
              replace hx346_0:=(HB.out.cell (zY w _ hx346_0)).trans hx346_0
              replace p346:=eq_true p346
              replace q346:=eq_true q346
              have p347:0≤((rd l0 x7_2):Int):=zE (by with_reducible assumption)
              have q347:(rd l0 x7_2) < (x5_2.length:Int):=zE (by with_reducible assumption)
              obtain ⟨ad347,e347,hx347_0⟩:=Kd.at_int (zU HO_5.out).2.2 (rd l0 x7_2) p347 q347
              obtain rfl:ad345 = ad347:=(by injection e347)
              replace p347:=eq_true p347
              replace q347:=eq_true q347
              have p348:0≤(x7_2:Int):=zE (by with_reducible assumption)
              have q348:x7_2 < (l1.length:Int):=zE (by with_reducible assumption)
              obtain ⟨ad348,e348,hx348_0⟩:=Kd.at_int HR1.out x7_2 p348 q348
              cases e348
              replace hx348_0:=(HB.out.cell (zY w _ hx348_0)).trans hx348_0
              replace p348:=eq_true p348
              replace q348:=eq_true q348
              have p349:0≤((rd l1 x7_2):Int):=zE (by with_reducible assumption)
              have q349:(rd l1 x7_2) < (x5_2.length:Int):=zE (by with_reducible assumption)
              obtain ⟨ad349,e349,hx349_0⟩:=Kd.at_int (zU HO_5.out).2.2 (rd l1 x7_2) p349 q349
              obtain rfl:ad345 = ad349:=(by injection e349)
              replace p349:=eq_true p349
              replace q349:=eq_true q349
              have p16:0≤(x7_2:Int):=zE (by with_reducible assumption)
              have q16:(x7_2:Int) < ((x5_2.length:Int):Int):=zE (by with_reducible assumption)
              obtain ⟨go16,co16,eo16,gb16,gl16,cl16,HG16⟩:=Kd.R_form HO_5.out (by omega)
              (first|cases eo16|(injection eo16 with ea_ en_ ec_;(first|subst ea_|(injection ea_ with ea_;subst ea_));subst ec_;clear en_))
              have GB16:=zA gb16
              have GG16:=zA HG16
              clear gb16 gl16 HG16
              (first|simp only [add_plain] at hx345_0|skip)
              (first|simp only [add_plain] at hx347_0|skip)
              (first|simp only [add_plain] at hx349_0|skip)
              obtain ⟨hx16_0,hf16_0⟩:=Kd.R_celln 0 HO_5.out (x7_2:Int) p16 q16
              replace p16:=eq_true p16
              replace q16:=eq_true q16
              have HP20:=Kd.R_putg HO_5.out (x7_2:Int) ji15
              go_wp2_with (first|((with_reducible refine gate_store (t:=3) (p:=47) rfl ?_);(try ((first|(generalize hq_:World.drewN wr _ = wr)|(rw [drewN_self wr];generalize hq_:World.drewN wr _ = wr));have n0_:=zA (Kd.R_at hq_ HO_5.out);have n1_:=zA (below_at hq_ HB.out);clear hq_ HO_5 HB;have HO_5:=n0_;have HB:=n1_;clear n0_ n1_;(try (have HP20:=Kd.R_putg HO_5.out (x7_2:Int) ji15));(try (obtain ⟨hx19b_,hf19b_⟩:=Kd.R_celln 0 HO_5.out (x7_2:Int) (of_eq_true (by assumption)) (of_eq_true (by assumption))))));refine store_event (t:=3) (p:=47) (v:=?vo_w21) (w1:=(wr.setCell ⟨go16,(x7_2:Int).toNat,none⟩ (.int .i64 ji15))) ?hg ?ho ?hn ?hr ?_;(case ho=>rfl);(case hg=>rfl);(case hn=>rfl);(case hr=>first|(go_simp;done)|(go_simp;rfl));intro w21 hw;have hg:wr.grownBy w21 (some go16):=(by rw [hw];exact HP20.2);have hp_:Kd.R (Kd.int .i64) 3 w21 w.heap.size (fun _=>True) (.slice (some ⟨go16,0,none⟩) x5_2.length co19) y350:=(by rw [hw,Ny350.out];exact HP20.1);clear HP20;have n0_:=zA (hp_);have n1_:=zA ((by rw [hw];exact zF (HB.out) GB16.out:Below w.heap.size w w21));clear HO_5;clear HB;have HO_5:=n0_;have HB:=n1_;clear n0_ n1_;clear hg hw hp_;have p351:0≤(x7_2:Int):=zE (by with_reducible assumption);have q351:x7_2 < (l0.length:Int):=zE (by with_reducible assumption);obtain ⟨ad351,e351,hx351_0⟩:=Kd.at_int HR0.out x7_2 p351 q351;obtain rfl:ad346 = ad351:=(by injection e351);replace hx351_0:=(HB.out.cell (zY w _ hx351_0)).trans hx351_0;replace p351:=eq_true p351;replace q351:=eq_true q351;have p17:0≤((rd l0 x7_2):Int):=zE (by with_reducible assumption);have q17:((rd l0 x7_2):Int) < ((x5_2.length:Int):Int):=zE (by with_reducible assumption);obtain ⟨hx17_0,hf17_0⟩:=Kd.R_celln 0 HO_5.out ((rd l0 x7_2):Int) p17 q17;replace p17:=eq_true p17;replace q17:=eq_true q17;obtain ⟨hy22_,hz22_⟩:=Kd.R_celln 0 HO_5.out ((rd l0 x7_2):Int) (zE (by with_reducible assumption)) (zE (by with_reducible assumption));have HP22:=Kd.R_putg HO_5.out ((rd l0 x7_2):Int) ji15)|((with_reducible refine gate_store (t:=3) (p:=54) rfl ?_);(try (rw [drewN_self w21];generalize hq_:World.drewN w21 _ = w21;have n0_:=zA (Kd.R_at hq_ HO_5.out);have n1_:=zA (below_at hq_ HB.out);clear hq_ HO_5 HB;have HO_5:=n0_;have HB:=n1_;clear n0_ n1_;(try (obtain ⟨hy22_,hz22_⟩:=Kd.R_celln 0 HO_5.out ((rd l0 x7_2):Int) (zE (by with_reducible assumption)) (zE (by with_reducible assumption))));(try (have HP22:=Kd.R_putg HO_5.out ((rd l0 x7_2):Int) ji15))));refine store_event (t:=3) (p:=54) (v:=?vo_w23) (w1:=(w21.setCell ⟨go16,((rd l0 x7_2):Int).toNat,none⟩ (.int .i64 ji15))) ?hg ?ho ?hn ?hr ?_;(case ho=>rfl);(case hg=>rfl);(case hn=>rfl);(case hr=>first|(go_simp;done)|(go_simp;rfl));intro w23 hw;have hg:w21.grownBy w23 (some go16):=(by rw [hw];exact HP22.2);have hp_:Kd.R (Kd.int .i64) 3 w23 w.heap.size (fun _=>True) (.slice (some ⟨go16,0,none⟩) x5_2.length co19) y352:=(by rw [hw,Ny352.out];exact HP22.1);clear HP22;have n0_:=zA (hp_);have n1_:=zA ((by rw [hw];exact zF (HB.out) GB16.out:Below w.heap.size w w23));clear HO_5;clear HB;have HO_5:=n0_;have HB:=n1_;clear n0_ n1_;clear hg hw hp_;have p353:0≤(x7_2:Int):=zE (by with_reducible assumption);have q353:x7_2 < (l1.length:Int):=zE (by with_reducible assumption);obtain ⟨ad353,e353,hx353_0⟩:=Kd.at_int HR1.out x7_2 p353 q353;obtain rfl:ad348 = ad353:=(by injection e353);replace hx353_0:=(HB.out.cell (zY w _ hx353_0)).trans hx353_0;replace p353:=eq_true p353;replace q353:=eq_true q353;have p18:0≤((rd l1 x7_2):Int):=zE (by with_reducible assumption);have q18:((rd l1 x7_2):Int) < ((x5_2.length:Int):Int):=zE (by with_reducible assumption);obtain ⟨hx18_0,hf18_0⟩:=Kd.R_celln 0 HO_5.out ((rd l1 x7_2):Int) p18 q18;replace p18:=eq_true p18;replace q18:=eq_true q18;obtain ⟨hy24_,hz24_⟩:=Kd.R_celln 0 HO_5.out ((rd l1 x7_2):Int) (zE (by with_reducible assumption)) (zE (by with_reducible assumption));have HP24:=Kd.R_putg HO_5.out ((rd l1 x7_2):Int) ji15)|((with_reducible refine gate_store (t:=3) (p:=61) rfl ?_);(try (rw [drewN_self w23];generalize hq_:World.drewN w23 _ = w23;have n0_:=zA (Kd.R_at hq_ HO_5.out);have n1_:=zA (below_at hq_ HB.out);clear hq_ HO_5 HB;have HO_5:=n0_;have HB:=n1_;clear n0_ n1_;(try (obtain ⟨hy24_,hz24_⟩:=Kd.R_celln 0 HO_5.out ((rd l1 x7_2):Int) (zE (by with_reducible assumption)) (zE (by with_reducible assumption))));(try (have HP24:=Kd.R_putg HO_5.out ((rd l1 x7_2):Int) ji15))));refine store_event (t:=3) (p:=61) (v:=?vo_w25) (w1:=(w23.setCell ⟨go16,((rd l1 x7_2):Int).toNat,none⟩ (.int .i64 ji15))) ?hg ?ho ?hn ?hr ?_;(case ho=>rfl);(case hg=>rfl);(case hn=>rfl);(case hr=>first|(go_simp;done)|(go_simp;rfl));intro w25 hw;have hg:w23.grownBy w25 (some go16):=(by rw [hw];exact HP24.2);have hp_:Kd.R (Kd.int .i64) 3 w25 w.heap.size (fun _=>True) (.slice (some ⟨go16,0,none⟩) x5_2.length co19) y354:=(by rw [hw,Ny354.out];exact HP24.1);clear HP24;have n0_:=zA (hp_);have n1_:=zA ((by rw [hw];exact zF (HB.out) GB16.out:Below w.heap.size w w25));clear HO_5;clear HB;have HO_5:=n0_;have HB:=n1_;clear n0_ n1_;clear hg hw hp_))
              repeat (go_quiet (first|((with_reducible refine gate_store (t:=3) (p:=47) rfl ?_);(try ((first|(generalize hq_:World.drewN wr _ = wr)|(rw [drewN_self wr];generalize hq_:World.drewN wr _ = wr));have n0_:=zA (Kd.R_at hq_ HO_5.out);have n1_:=zA (below_at hq_ HB.out);clear hq_ HO_5 HB;have HO_5:=n0_;have HB:=n1_;clear n0_ n1_;(try (have HP20:=Kd.R_putg HO_5.out (x7_2:Int) ji15));(try (obtain ⟨hx19b_,hf19b_⟩:=Kd.R_celln 0 HO_5.out (x7_2:Int) (of_eq_true (by assumption)) (of_eq_true (by assumption))))));refine store_event (t:=3) (p:=47) (v:=?vo_w21) (w1:=(wr.setCell ⟨go16,(x7_2:Int).toNat,none⟩ (.int .i64 ji15))) ?hg ?ho ?hn ?hr ?_;(case ho=>rfl);(case hg=>rfl);(case hn=>rfl);(case hr=>first|(go_simp;done)|(go_simp;rfl));intro w21 hw;have hg:wr.grownBy w21 (some go16):=(by rw [hw];exact HP20.2);have hp_:Kd.R (Kd.int .i64) 3 w21 w.heap.size (fun _=>True) (.slice (some ⟨go16,0,none⟩) x5_2.length co19) y350:=(by rw [hw,Ny350.out];exact HP20.1);clear HP20;have n0_:=zA (hp_);have n1_:=zA ((by rw [hw];exact zF (HB.out) GB16.out:Below w.heap.size w w21));clear HO_5;clear HB;have HO_5:=n0_;have HB:=n1_;clear n0_ n1_;clear hg hw hp_;have p351:0≤(x7_2:Int):=zE (by with_reducible assumption);have q351:x7_2 < (l0.length:Int):=zE (by with_reducible assumption);obtain ⟨ad351,e351,hx351_0⟩:=Kd.at_int HR0.out x7_2 p351 q351;obtain rfl:ad346 = ad351:=(by injection e351);replace hx351_0:=(HB.out.cell (zY w _ hx351_0)).trans hx351_0;replace p351:=eq_true p351;replace q351:=eq_true q351;have p17:0≤((rd l0 x7_2):Int):=zE (by with_reducible assumption);have q17:((rd l0 x7_2):Int) < ((x5_2.length:Int):Int):=zE (by with_reducible assumption);obtain ⟨hx17_0,hf17_0⟩:=Kd.R_celln 0 HO_5.out ((rd l0 x7_2):Int) p17 q17;replace p17:=eq_true p17;replace q17:=eq_true q17;obtain ⟨hy22_,hz22_⟩:=Kd.R_celln 0 HO_5.out ((rd l0 x7_2):Int) (zE (by with_reducible assumption)) (zE (by with_reducible assumption));have HP22:=Kd.R_putg HO_5.out ((rd l0 x7_2):Int) ji15)|((with_reducible refine gate_store (t:=3) (p:=54) rfl ?_);(try (rw [drewN_self w21];generalize hq_:World.drewN w21 _ = w21;have n0_:=zA (Kd.R_at hq_ HO_5.out);have n1_:=zA (below_at hq_ HB.out);clear hq_ HO_5 HB;have HO_5:=n0_;have HB:=n1_;clear n0_ n1_;(try (obtain ⟨hy22_,hz22_⟩:=Kd.R_celln 0 HO_5.out ((rd l0 x7_2):Int) (zE (by with_reducible assumption)) (zE (by with_reducible assumption))));(try (have HP22:=Kd.R_putg HO_5.out ((rd l0 x7_2):Int) ji15))));refine store_event (t:=3) (p:=54) (v:=?vo_w23) (w1:=(w21.setCell ⟨go16,((rd l0 x7_2):Int).toNat,none⟩ (.int .i64 ji15))) ?hg ?ho ?hn ?hr ?_;(case ho=>rfl);(case hg=>rfl);(case hn=>rfl);(case hr=>first|(go_simp;done)|(go_simp;rfl));intro w23 hw;have hg:w21.grownBy w23 (some go16):=(by rw [hw];exact HP22.2);have hp_:Kd.R (Kd.int .i64) 3 w23 w.heap.size (fun _=>True) (.slice (some ⟨go16,0,none⟩) x5_2.length co19) y352:=(by rw [hw,Ny352.out];exact HP22.1);clear HP22;have n0_:=zA (hp_);have n1_:=zA ((by rw [hw];exact zF (HB.out) GB16.out:Below w.heap.size w w23));clear HO_5;clear HB;have HO_5:=n0_;have HB:=n1_;clear n0_ n1_;clear hg hw hp_;have p353:0≤(x7_2:Int):=zE (by with_reducible assumption);have q353:x7_2 < (l1.length:Int):=zE (by with_reducible assumption);obtain ⟨ad353,e353,hx353_0⟩:=Kd.at_int HR1.out x7_2 p353 q353;obtain rfl:ad348 = ad353:=(by injection e353);replace hx353_0:=(HB.out.cell (zY w _ hx353_0)).trans hx353_0;replace p353:=eq_true p353;replace q353:=eq_true q353;have p18:0≤((rd l1 x7_2):Int):=zE (by with_reducible assumption);have q18:((rd l1 x7_2):Int) < ((x5_2.length:Int):Int):=zE (by with_reducible assumption);obtain ⟨hx18_0,hf18_0⟩:=Kd.R_celln 0 HO_5.out ((rd l1 x7_2):Int) p18 q18;replace p18:=eq_true p18;replace q18:=eq_true q18;obtain ⟨hy24_,hz24_⟩:=Kd.R_celln 0 HO_5.out ((rd l1 x7_2):Int) (zE (by with_reducible assumption)) (zE (by with_reducible assumption));have HP24:=Kd.R_putg HO_5.out ((rd l1 x7_2):Int) ji15)|((with_reducible refine gate_store (t:=3) (p:=61) rfl ?_);(try (rw [drewN_self w23];generalize hq_:World.drewN w23 _ = w23;have n0_:=zA (Kd.R_at hq_ HO_5.out);have n1_:=zA (below_at hq_ HB.out);clear hq_ HO_5 HB;have HO_5:=n0_;have HB:=n1_;clear n0_ n1_;(try (obtain ⟨hy24_,hz24_⟩:=Kd.R_celln 0 HO_5.out ((rd l1 x7_2):Int) (zE (by with_reducible assumption)) (zE (by with_reducible assumption))));(try (have HP24:=Kd.R_putg HO_5.out ((rd l1 x7_2):Int) ji15))));refine store_event (t:=3) (p:=61) (v:=?vo_w25) (w1:=(w23.setCell ⟨go16,((rd l1 x7_2):Int).toNat,none⟩ (.int .i64 ji15))) ?hg ?ho ?hn ?hr ?_;(case ho=>rfl);(case hg=>rfl);(case hn=>rfl);(case hr=>first|(go_simp;done)|(go_simp;rfl));intro w25 hw;have hg:w23.grownBy w25 (some go16):=(by rw [hw];exact HP24.2);have hp_:Kd.R (Kd.int .i64) 3 w25 w.heap.size (fun _=>True) (.slice (some ⟨go16,0,none⟩) x5_2.length co19) y354:=(by rw [hw,Ny354.out];exact HP24.1);clear HP24;have n0_:=zA (hp_);have n1_:=zA ((by rw [hw];exact zF (HB.out) GB16.out:Below w.heap.size w w25));clear HO_5;clear HB;have HO_5:=n0_;have HB:=n1_;clear n0_ n1_;clear hg hw hp_));try go_wp2_with (first|((with_reducible refine gate_store (t:=3) (p:=47) rfl ?_);(try ((first|(generalize hq_:World.drewN wr _ = wr)|(rw [drewN_self wr];generalize hq_:World.drewN wr _ = wr));have n0_:=zA (Kd.R_at hq_ HO_5.out);have n1_:=zA (below_at hq_ HB.out);clear hq_ HO_5 HB;have HO_5:=n0_;have HB:=n1_;clear n0_ n1_;(try (have HP20:=Kd.R_putg HO_5.out (x7_2:Int) ji15));(try (obtain ⟨hx19b_,hf19b_⟩:=Kd.R_celln 0 HO_5.out (x7_2:Int) (of_eq_true (by assumption)) (of_eq_true (by assumption))))));refine store_event (t:=3) (p:=47) (v:=?vo_w21) (w1:=(wr.setCell ⟨go16,(x7_2:Int).toNat,none⟩ (.int .i64 ji15))) ?hg ?ho ?hn ?hr ?_;(case ho=>rfl);(case hg=>rfl);(case hn=>rfl);(case hr=>first|(go_simp;done)|(go_simp;rfl));intro w21 hw;have hg:wr.grownBy w21 (some go16):=(by rw [hw];exact HP20.2);have hp_:Kd.R (Kd.int .i64) 3 w21 w.heap.size (fun _=>True) (.slice (some ⟨go16,0,none⟩) x5_2.length co19) y350:=(by rw [hw,Ny350.out];exact HP20.1);clear HP20;have n0_:=zA (hp_);have n1_:=zA ((by rw [hw];exact zF (HB.out) GB16.out:Below w.heap.size w w21));clear HO_5;clear HB;have HO_5:=n0_;have HB:=n1_;clear n0_ n1_;clear hg hw hp_;have p351:0≤(x7_2:Int):=zE (by with_reducible assumption);have q351:x7_2 < (l0.length:Int):=zE (by with_reducible assumption);obtain ⟨ad351,e351,hx351_0⟩:=Kd.at_int HR0.out x7_2 p351 q351;obtain rfl:ad346 = ad351:=(by injection e351);replace hx351_0:=(HB.out.cell (zY w _ hx351_0)).trans hx351_0;replace p351:=eq_true p351;replace q351:=eq_true q351;have p17:0≤((rd l0 x7_2):Int):=zE (by with_reducible assumption);have q17:((rd l0 x7_2):Int) < ((x5_2.length:Int):Int):=zE (by with_reducible assumption);obtain ⟨hx17_0,hf17_0⟩:=Kd.R_celln 0 HO_5.out ((rd l0 x7_2):Int) p17 q17;replace p17:=eq_true p17;replace q17:=eq_true q17;obtain ⟨hy22_,hz22_⟩:=Kd.R_celln 0 HO_5.out ((rd l0 x7_2):Int) (zE (by with_reducible assumption)) (zE (by with_reducible assumption));have HP22:=Kd.R_putg HO_5.out ((rd l0 x7_2):Int) ji15)|((with_reducible refine gate_store (t:=3) (p:=54) rfl ?_);(try (rw [drewN_self w21];generalize hq_:World.drewN w21 _ = w21;have n0_:=zA (Kd.R_at hq_ HO_5.out);have n1_:=zA (below_at hq_ HB.out);clear hq_ HO_5 HB;have HO_5:=n0_;have HB:=n1_;clear n0_ n1_;(try (obtain ⟨hy22_,hz22_⟩:=Kd.R_celln 0 HO_5.out ((rd l0 x7_2):Int) (zE (by with_reducible assumption)) (zE (by with_reducible assumption))));(try (have HP22:=Kd.R_putg HO_5.out ((rd l0 x7_2):Int) ji15))));refine store_event (t:=3) (p:=54) (v:=?vo_w23) (w1:=(w21.setCell ⟨go16,((rd l0 x7_2):Int).toNat,none⟩ (.int .i64 ji15))) ?hg ?ho ?hn ?hr ?_;(case ho=>rfl);(case hg=>rfl);(case hn=>rfl);(case hr=>first|(go_simp;done)|(go_simp;rfl));intro w23 hw;have hg:w21.grownBy w23 (some go16):=(by rw [hw];exact HP22.2);have hp_:Kd.R (Kd.int .i64) 3 w23 w.heap.size (fun _=>True) (.slice (some ⟨go16,0,none⟩) x5_2.length co19) y352:=(by rw [hw,Ny352.out];exact HP22.1);clear HP22;have n0_:=zA (hp_);have n1_:=zA ((by rw [hw];exact zF (HB.out) GB16.out:Below w.heap.size w w23));clear HO_5;clear HB;have HO_5:=n0_;have HB:=n1_;clear n0_ n1_;clear hg hw hp_;have p353:0≤(x7_2:Int):=zE (by with_reducible assumption);have q353:x7_2 < (l1.length:Int):=zE (by with_reducible assumption);obtain ⟨ad353,e353,hx353_0⟩:=Kd.at_int HR1.out x7_2 p353 q353;obtain rfl:ad348 = ad353:=(by injection e353);replace hx353_0:=(HB.out.cell (zY w _ hx353_0)).trans hx353_0;replace p353:=eq_true p353;replace q353:=eq_true q353;have p18:0≤((rd l1 x7_2):Int):=zE (by with_reducible assumption);have q18:((rd l1 x7_2):Int) < ((x5_2.length:Int):Int):=zE (by with_reducible assumption);obtain ⟨hx18_0,hf18_0⟩:=Kd.R_celln 0 HO_5.out ((rd l1 x7_2):Int) p18 q18;replace p18:=eq_true p18;replace q18:=eq_true q18;obtain ⟨hy24_,hz24_⟩:=Kd.R_celln 0 HO_5.out ((rd l1 x7_2):Int) (zE (by with_reducible assumption)) (zE (by with_reducible assumption));have HP24:=Kd.R_putg HO_5.out ((rd l1 x7_2):Int) ji15)|((with_reducible refine gate_store (t:=3) (p:=61) rfl ?_);(try (rw [drewN_self w23];generalize hq_:World.drewN w23 _ = w23;have n0_:=zA (Kd.R_at hq_ HO_5.out);have n1_:=zA (below_at hq_ HB.out);clear hq_ HO_5 HB;have HO_5:=n0_;have HB:=n1_;clear n0_ n1_;(try (obtain ⟨hy24_,hz24_⟩:=Kd.R_celln 0 HO_5.out ((rd l1 x7_2):Int) (zE (by with_reducible assumption)) (zE (by with_reducible assumption))));(try (have HP24:=Kd.R_putg HO_5.out ((rd l1 x7_2):Int) ji15))));refine store_event (t:=3) (p:=61) (v:=?vo_w25) (w1:=(w23.setCell ⟨go16,((rd l1 x7_2):Int).toNat,none⟩ (.int .i64 ji15))) ?hg ?ho ?hn ?hr ?_;(case ho=>rfl);(case hg=>rfl);(case hn=>rfl);(case hr=>first|(go_simp;done)|(go_simp;rfl));intro w25 hw;have hg:w23.grownBy w25 (some go16):=(by rw [hw];exact HP24.2);have hp_:Kd.R (Kd.int .i64) 3 w25 w.heap.size (fun _=>True) (.slice (some ⟨go16,0,none⟩) x5_2.length co19) y354:=(by rw [hw,Ny354.out];exact HP24.1);clear HP24;have n0_:=zA (hp_);have n1_:=zA ((by rw [hw];exact zF (HB.out) GB16.out:Below w.heap.size w w25));clear HO_5;clear HB;have HO_5:=n0_;have HB:=n1_;clear n0_ n1_;clear hg hw hp_)))
              go_roundg k2
              case measure=>have:=HK1.out;have:=HK2.out;omega
              case rel=>exact ⟨(y354),(wrap64 (x7_2+1)),(by first|rfl|(simp;done)|(simp [*];done)),H',⟨by have:=HK1.out;have:=HK2.out;omega⟩,⟨by apply zR_;exact HO_5.out⟩,⟨by exact zB_ HB.out⟩⟩
             ·rw [if_neg c13] at H
              exact absurd H (by simp)
            ·rw [if_neg c12] at H
             exact absurd H (by simp)
           ·rw [if_neg c11] at H
            exact absurd H (by simp)
          ·rw [if_neg c10] at H
           exact absurd H (by simp)
         ·rw [if_neg c9] at H
          exact absurd H (by simp)
        ·rw [if_neg c8] at H
         exact absurd H (by simp)
       ·rw [if_neg c7] at H
        exact absurd H (by simp)
      ·rw [if_neg c6] at H
       have c6b0:decide (x7_2 < (l0.length:Int)) = false:=zP c6
       clear c6
       have H':=zA H
       clear H
       go_wp2
       repeat (go_quiet (fail);try go_wp2)
       go_roundg k2
       case measure=>have:=HK1.out;have:=HK2.out;omega
       case rel=>exact ⟨(x5_2),(wrap64 (x6_1+1)),(by first|rfl|(simp;done)|(simp [*];done)),H',⟨by have:=HK1.out;have:=HK2.out;omega⟩,⟨by apply zR_;exact HO_5.out⟩,⟨by exact zB_ HB.out⟩⟩
   ·rw [if_neg c5] at H
    have c5b0:decide (x6_1 < (l0.length:Int)) = false:=zP c5
    clear c5
    obtain rfl:=zS H
    go_wp2
    repeat (go_quiet (fail);try go_wp2)
    go_ret
    exact ⟨_,by first|rfl|(simp [errW_none,errW_some] <;> rfl)|(simp [*,errW_none,errW_some] <;> rfl),by apply zR_;exact HO_5.out,by exact zB_ HB.out⟩

end Go.Proofs.Ytdaiohcgdpclnaa.Q
