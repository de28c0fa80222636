import Derived.Test.YtdaiohcgdpclnaaQ0
import Derived.Test.YtdaiohcgdpclnaaQ10
import Derived.Test.YtdaiohcgdpclnaaQ11
import Derived.Test.YtdaiohcgdpclnaaQ13
import Derived.Test.YtdaiohcgdpclnaaQ4
import Derived.Test.YtdaiohcgdpclnaaQ7
import Derived.Test.YtdaiohcgdpclnaaQ8
import Derived.Test.YtdaiohcgdpclnaaZ
namespace Go.Proofs.Ytdaiohcgdpclnaa.Q
open Go.RowKit Go.Proofs.YtdaiohcgdpclnaaW.PrintWords Go.Proofs.YtdaiohcgdpclnaaW.PrintLast Go.Proofs.YtdaiohcgdpclnaaW.PrintMore
attribute [local go_sem] max2_int min2_int max_two min_two max_three min_three max_four min_four   -- for this text's walks alone
set_option linter.unusedVariables false
set_option linter.unusedSimpArgs false

/-! ### spec_l2Least: function 65 -/
def spec_l2Least.l0:Nat→Int→List Int→List Int→List Int→List Int→Option (List Int × List Int)
 | 0,_,_,_,_,_=>none
 | k+1,x4,x609000,x609001,x617000,x617001=>if x4 < (x609000.length:Int) then ((spec_l2Form.f k x609000 x609001 x4).bind fun bt617=>((spec_l2Before.f k bt617.1 bt617.2 x617000 x617001).bind fun t624=>(if t624 < 0 then (spec_l2Least.l0 k (wrap64 (x4+1)) x609000 x609001 bt617.1 bt617.2) else (spec_l2Least.l0 k (wrap64 (x4+1)) x609000 x609001 x617000 x617001)))) else (some (x617000,x617001))
def spec_l2Least.f (k:Nat) (l0_0:List Int) (l0_1:List Int):Option (List Int × List Int):=(spec_l2Form.f k l0_0 l0_1 0).bind fun bt610=>(spec_l2Least.l0 k 1 l0_0 l0_1 bt610.1 bt610.2)
theorem spec_l2Least.mono_l:∀ k,(∀ y0 y1 y2 y3 y4,LeO (spec_l2Least.l0 k y0 y1 y2 y3 y4) (spec_l2Least.l0 (k+1) y0 y1 y2 y3 y4))
 | 0=>fun _ _ _ _ _ r h=>by simp [spec_l2Least.l0] at h
 | k+1=>by
  have ih0:=spec_l2Least.mono_l k
  ·intro y0 y1 y2 y3 y4
   unfold spec_l2Least.l0
   repeat' first
   | (with_reducible exact ih0 _ _ _ _ _)
   | (with_reducible exact spec_l2Before.mono _ _ _ _ _)
   | (with_reducible exact spec_l2Form.mono _ _ _ _)
   | (with_reducible exact LeO.refl _)
   | (with_reducible exact za _)
   | (with_reducible refine zc ?_ ?_)
   | (with_reducible refine zb ?_ (fun _=>?_))
theorem spec_l2Least.mono:∀ a0 a1 k,LeO (spec_l2Least.f k a0 a1) (spec_l2Least.f (k+1) a0 a1):=by
 intro a0 a1 k
 have ih0:=spec_l2Least.mono_l k
 unfold spec_l2Least.f
 repeat' first
   | (with_reducible exact ih0 _ _ _ _ _)
   | (with_reducible exact spec_l2Before.mono _ _ _ _ _)
   | (with_reducible exact spec_l2Form.mono _ _ _ _)
   | (with_reducible exact LeO.refl _)
   | (with_reducible exact za _)
   | (with_reducible refine zc ?_ ?_)
   | (with_reducible refine zb ?_ (fun _=>?_))
set_option maxHeartbeats 8000000 in
set_option maxRecDepth 100000 in
theorem spec_l2Least.calls (k:Nat) (A0_0:Option Addr) (c0_0:Nat) (l0_0:List Int) (A0_1:Option Addr) (c0_1:Nat) (l0_1:List Int) (r1:List Int) (r2:List Int) (w:World) (hr0_0:Kd.C (Kd.int .i64) w A0_0 l0_0.length l0_0) (hc0_0:l0_0.length≤c0_0) (hr0_1:Kd.C (Kd.int .i64) w A0_1 l0_1.length l0_1) (hc0_1:l0_1.length≤c0_1) (h:spec_l2Least.f k l0_0 l0_1 = some (r1,r2)) :
  Calls Try.prog 65 #[.agg #[.slice A0_0 l0_0.length c0_0,.slice A0_1 l0_1.length c0_1]] w fun e w' => ∃ v0_ v1_:Value,e = .returned (.agg #[v0_,v1_])∧Kd.R (Kd.int .i64) 3 w' w.heap.size (fun k_=>some k_≠(v1_:Value).ownBlock) v0_ r1∧Kd.R (Kd.int .i64) 3 w' w.heap.size (fun k_=>some k_≠(v0_:Value).ownBlock) v1_ r2∧Below w.heap.size w w':=by
 have hu33:=Try.underlying33
 have HR0_0:=zA hr0_0
 have HC0_0:=zA hc0_0
 clear hr0_0 hc0_0
 have HR0_1:=zA hr0_1
 have HC0_1:=zA hc0_1
 clear hr0_1 hc0_1
 have HB:=zA (Below.refl w.heap.size w)
 have H:((spec_l2Form.f k l0_0 l0_1 0).bind fun bt610=>(spec_l2Least.l0 k 1 l0_0 l0_1 bt610.1 bt610.2)) = some (r1,r2):=h
 clear h
 replace H:=zz0 H
 obtain ⟨⟨t610,t613⟩,A20,H⟩:=H
 try dsimp only at H
 have A2:=zA A20
 clear A20
 have H':=zA H
 clear H
 go_enter Try.func65,Try.ntmps65
 go_wp2_with (first|((with_reducible refine gate_dst (N:=1) rfl ?_);refine box_event ?hg (N:=1) ?hd (cs:=#[.slice A0_0 l0_0.length c0_0,.slice A0_1 l0_1.length c0_1]) (t:=33) ?hr ?_;(case hd=>rfl);(case hg=>rfl);(case hr=>first|(go_simp;done)|(go_simp;rfl));intro gb608 hg w3 hbox hb;have n0_:=zA (zR (by exact zB_ HB.out) hb);have n1_:=zA (hbox);have n2_:=zA ((by rw [hg];exact (zQ (by exact zB_ HB.out)):w.heap.size≤gb608));have n3_:=zA ((by rw [hg];exact (zQ (by exact zB_ HB.out)):w.heap.size≤gb608));clear HB;have HB:=n0_;have BK608:=n1_;have GW608:=n2_;have GE608:=n3_;clear n0_ n1_ n2_ n3_;clear hb hbox hg)|((with_reducible refine gate_dst (N:=2) rfl ?_);refine box_event ?hg (N:=2) ?hd (cs:=#[.slice none 0 0,.slice none 0 0]) (t:=33) ?hr ?_;(case hd=>rfl);(case hg=>rfl);(case hr=>first|(go_simp;done)|(go_simp;rfl));intro gb609 hg w4 hbox hb;have n0_:=zA (zX (g:=gb608) (o:=.cells #[.slice A0_0 l0_0.length c0_0,.slice A0_1 l0_1.length c0_1] 33 (0,0)) (by (with_reducible repeat (first|refine zG ?_ _|refine zI ?_|refine zH ?_ _));exact BK608.out) hb);have n1_:=zA (zR (by repeat (first|(with_reducible first|exact HB.out|apply zD|apply zB|apply zC|refine zF ?_ GE608.out)|exact HB.out)) hb);have n2_:=zA (hbox);have n3_:=zA ((by rw [hg];exact (zQ (by repeat (first|(with_reducible first|exact HB.out|apply zD|apply zB|apply zC|refine zF ?_ GE608.out)|exact HB.out))):w.heap.size≤gb609));have n4_:=zA ((by rw [hg];exact (zQ (by repeat (first|(with_reducible first|exact HB.out|apply zD|apply zB|apply zC|refine zF ?_ GE608.out)|exact HB.out))):w.heap.size≤gb609));have n5_:=zA ((by rw [hg];exact Nat.ne_of_lt (blk_lt (g:=gb608) (o:=.cells #[.slice A0_0 l0_0.length c0_0,.slice A0_1 l0_1.length c0_1] 33 (0,0)) (by (with_reducible repeat (first|refine zG ?_ _|refine zI ?_|refine zH ?_ _));exact BK608.out)):gb608≠gb609));have n6_:=zA ((by rw [hg];exact Nat.ne_of_gt (blk_lt (g:=gb608) (o:=.cells #[.slice A0_0 l0_0.length c0_0,.slice A0_1 l0_1.length c0_1] 33 (0,0)) (by (with_reducible repeat (first|refine zG ?_ _|refine zI ?_|refine zH ?_ _));exact BK608.out)):gb609≠gb608));clear BK608;clear HB;have BK608:=n0_;have HB:=n1_;have BK609:=n2_;have GW609:=n3_;have GE609:=n4_;have NB608_609:=n5_;have NB609_608:=n6_;clear n0_ n1_ n2_ n3_ n4_ n5_ n6_;clear hb hbox hg;have hnb5:=NB608_609.out;have hnc5:=NB609_608.out;have hcz6_0:w4.cell? ⟨gb608,0,none⟩ = some (.slice A0_0 l0_0.length c0_0):=(zT BK608.out 0).trans rfl;have hcz6_1:w4.cell? ⟨gb608,1,none⟩ = some (.slice A0_1 l0_1.length c0_1):=(zT BK608.out 1).trans rfl;have hfz6_0:=zZ BK608.out 0;have hfz6_1:=zZ BK608.out 1)|((with_reducible refine gate_callee (f:=78) rfl ?_);refine goesL_ (some 7) rfl rfl Try.func78 (by kernel_rfl) rfl #[.agg #[.slice A0_0 l0_0.length c0_0,.slice A0_1 l0_1.length c0_1],.int .i64 0] rfl (by (try simp only [zJ,zM,zN]);first|done|rfl|(simp only [zL,zK];rfl)) ?_;(with_reducible refine (spec_l2Form.calls k _ _ l0_0 _ _ l0_1 0 t610 t613 _ ?side1 ?side2 ?side3 ?side4 A2.out).mono ?_);(case side1=>repeat (first|exact (zW HR0_0.out HB.out)|(with_reducible exact HR0_0.out)|apply zC_));(case side2=>exact HC0_0.out);(case side3=>repeat (first|exact (zW HR0_1.out HB.out)|(with_reducible exact HR0_1.out)|apply zC_));(case side4=>exact HC0_1.out);rintro e w7 ⟨v611,v614,rfl,ho0,ho1,hb⟩;refine ⟨_,rfl,?_⟩;have n0_:=zA (ze ho0 (zQ (by repeat (first|(with_reducible first|exact HB.out|apply zD|apply zB|apply zC|refine zF ?_ GE608.out|refine zF ?_ GE609.out)|exact HB.out))));have n1_:=zA (ze ho1 (zQ (by repeat (first|(with_reducible first|exact HB.out|apply zD|apply zB|apply zC|refine zF ?_ GE608.out|refine zF ?_ GE609.out)|exact HB.out))));have n2_:=zA (zX (g:=gb608) (o:=.cells #[.slice A0_0 l0_0.length c0_0,.slice A0_1 l0_1.length c0_1] 33 (0,0)) (by (with_reducible repeat (first|refine zG ?_ _|refine zI ?_|refine zH ?_ _));exact BK608.out) hb);have n3_:=zA (zX (g:=gb609) (o:=.cells #[.slice none 0 0,.slice none 0 0] 33 (0,0)) (by (with_reducible repeat (first|refine zG ?_ _|refine zI ?_|refine zH ?_ _));exact BK609.out) hb);have n4_:=zA (zR (by repeat (first|(with_reducible first|exact HB.out|apply zD|apply zB|apply zC|refine zF ?_ GE608.out|refine zF ?_ GE609.out)|exact HB.out)) hb);clear BK608;clear BK609;clear HB;have HO612:=n0_;have HO615:=n1_;have BK608:=n2_;have BK609:=n3_;have HB:=n4_;clear n0_ n1_ n2_ n3_ n4_;(try clear hb);(try clear hb2);(try clear hk);(try clear hi);(try clear ho0);(try clear ho1))|((with_reducible refine gate_dst (N:=3) rfl ?_);refine box_event ?hg (N:=3) ?hd (cs:=#[.slice none 0 0,.slice none 0 0]) (t:=33) ?hr ?_;(case hd=>rfl);(case hg=>rfl);(case hr=>first|(go_simp;done)|(go_simp;rfl));intro gb616 hg w8 hbox hb;have n0_:=zA (zj (by apply zR_;exact HO612.out) hb);have n1_:=zA (zj (by apply zR_;exact HO615.out) hb);have n2_:=zA (zX (g:=gb608) (o:=.cells #[.slice A0_0 l0_0.length c0_0,.slice A0_1 l0_1.length c0_1] 33 (0,0)) (by (with_reducible repeat (first|refine zG ?_ _|refine zI ?_|refine zH ?_ _));exact BK608.out) hb);have n3_:=zA (zX (g:=gb609) (o:=.cells #[.slice none 0 0,.slice none 0 0] 33 (0,0)) (by (with_reducible repeat (first|refine zG ?_ _|refine zI ?_|refine zH ?_ _));exact BK609.out) hb);have n4_:=zA (zR (by repeat (first|(with_reducible first|exact HB.out|apply zD|apply zB|apply zC|refine zF ?_ GE608.out|refine zF ?_ GE609.out)|exact HB.out)) hb);have n5_:=zA (hbox);have n6_:=zA ((by rw [hg];exact (zQ (by repeat (first|(with_reducible first|exact HB.out|apply zD|apply zB|apply zC|refine zF ?_ GE608.out|refine zF ?_ GE609.out)|exact HB.out))):w.heap.size≤gb616));have n7_:=zA ((by rw [hg];exact (zQ (by repeat (first|(with_reducible first|exact HB.out|apply zD|apply zB|apply zC|refine zF ?_ GE608.out|refine zF ?_ GE609.out)|exact HB.out))):w.heap.size≤gb616));have n8_:=zA ((by rw [hg];exact Nat.ne_of_lt (blk_lt (g:=gb608) (o:=.cells #[.slice A0_0 l0_0.length c0_0,.slice A0_1 l0_1.length c0_1] 33 (0,0)) (by (with_reducible repeat (first|refine zG ?_ _|refine zI ?_|refine zH ?_ _));exact BK608.out)):gb608≠gb616));have n9_:=zA ((by rw [hg];exact Nat.ne_of_gt (blk_lt (g:=gb608) (o:=.cells #[.slice A0_0 l0_0.length c0_0,.slice A0_1 l0_1.length c0_1] 33 (0,0)) (by (with_reducible repeat (first|refine zG ?_ _|refine zI ?_|refine zH ?_ _));exact BK608.out)):gb616≠gb608));have n10_:=zA ((by rw [hg];exact Nat.ne_of_lt (blk_lt (g:=gb609) (o:=.cells #[.slice none 0 0,.slice none 0 0] 33 (0,0)) (by (with_reducible repeat (first|refine zG ?_ _|refine zI ?_|refine zH ?_ _));exact BK609.out)):gb609≠gb616));have n11_:=zA ((by rw [hg];exact Nat.ne_of_gt (blk_lt (g:=gb609) (o:=.cells #[.slice none 0 0,.slice none 0 0] 33 (0,0)) (by (with_reducible repeat (first|refine zG ?_ _|refine zI ?_|refine zH ?_ _));exact BK609.out)):gb616≠gb609));clear HO612;clear HO615;clear BK608;clear BK609;clear HB;have HO612:=n0_;have HO615:=n1_;have BK608:=n2_;have BK609:=n3_;have HB:=n4_;have BK616:=n5_;have GW616:=n6_;have GE616:=n7_;have NB608_616:=n8_;have NB616_608:=n9_;have NB609_616:=n10_;have NB616_609:=n11_;clear n0_ n1_ n2_ n3_ n4_ n5_ n6_ n7_ n8_ n9_ n10_ n11_;clear hb hbox hg;obtain ⟨Ao9,co9,eo9⟩:=zg HO612.out;subst eo9;have hnb10:=NB616_608.out;have hnc10:=NB608_616.out;have hnb11:=NB616_609.out;have hnc11:=NB609_616.out;have hcz12_0:w8.cell? ⟨gb616,0,none⟩ = some (.slice none 0 0):=(zT BK616.out 0).trans rfl;have hcz12_1:w8.cell? ⟨gb616,1,none⟩ = some (.slice none 0 0):=(zT BK616.out 1).trans rfl;have hfz12_0:=zZ BK616.out 0;have hfz12_1:=zZ BK616.out 1;obtain ⟨Ao13,co13,eo13⟩:=zg HO615.out;subst eo13))
 go_loopg [4] k (fun kq v4 w' => ∃ (x4_1:Int) (x617000_1:List Int) (x617001_1:List Int) (u617000:Value) (u617001:Value),v4 = .int .i64 x4_1∧Aside0 (spec_l2Least.l0 kq x4_1 l0_0 l0_1 x617000_1 x617001_1 = some (r1,r2))∧Aside0 (kq≤k)∧Aside0 (Kd.R (Kd.int .i64) 3 w' w.heap.size (fun k_=>some k_≠(u617001:Value).ownBlock) u617000 x617000_1)∧Aside0 (Kd.R (Kd.int .i64) 3 w' w.heap.size (fun k_=>some k_≠(u617000:Value).ownBlock) u617001 x617001_1)∧Aside0 (w'.heap[gb608]? = some (.cells #[(.slice A0_0 l0_0.length c0_0),(.slice A0_1 l0_1.length c0_1)] 33 (0,0)))∧Aside0 (w'.heap[gb609]? = some (.cells #[(.slice none 0 0),(.slice none 0 0)] 33 (0,0)))∧Aside0 (w'.heap[gb616]? = some (.cells #[u617000,u617001] 33 (0,0)))∧Aside0 (Below w.heap.size w w'))
 case atStart=>exact ⟨(1),(t610),(t613),(.slice Ao9 t610.length co9),(.slice Ao13 t613.length co13),(by first|rfl|(simp;done)|(simp [*];done)),H',⟨Nat.le_refl _⟩,⟨by apply zR_;exact zV (zi (p:=⟨gb616,1,none⟩) (zi (p:=⟨gb616,0,none⟩) (Kd.R_types HO612.out BK616.out (by decide)) (fun _ hk=>hk.2) (.slice Ao9 t610.length co9)) (fun _ hk=>hk.2) (.slice Ao13 t613.length co13)) (fun _ hk=>hk.1)⟩,⟨by apply zR_;exact zV (zi (p:=⟨gb616,1,none⟩) (zi (p:=⟨gb616,0,none⟩) (Kd.R_types HO615.out BK616.out (by decide)) (fun _ hk=>hk.2) (.slice Ao9 t610.length co9)) (fun _ hk=>hk.2) (.slice Ao13 t613.length co13)) (fun _ hk=>hk.1)⟩,⟨by (with_reducible repeat (first|refine zG ?_ _|refine zI ?_|refine zH ?_ _));refine blk_far ?_ NB608_616.out _;(with_reducible repeat (first|refine zG ?_ _|refine zI ?_|refine zH ?_ _));refine blk_far ?_ NB608_616.out _;(with_reducible repeat (first|refine zG ?_ _|refine zI ?_|refine zH ?_ _));exact BK608.out⟩,⟨by (with_reducible repeat (first|refine zG ?_ _|refine zI ?_|refine zH ?_ _));refine blk_far ?_ NB609_616.out _;(with_reducible repeat (first|refine zG ?_ _|refine zI ?_|refine zH ?_ _));refine blk_far ?_ NB609_616.out _;(with_reducible repeat (first|refine zG ?_ _|refine zI ?_|refine zH ?_ _));exact BK609.out⟩,⟨by (with_reducible repeat (first|refine zG ?_ _|refine zI ?_|refine zH ?_ _));refine blk_put (cs:=#[.slice Ao9 t610.length co9,.slice none 0 0]) ?_ 1 _ rfl;(with_reducible repeat (first|refine zG ?_ _|refine zI ?_|refine zH ?_ _));refine blk_put (cs:=#[.slice none 0 0,.slice none 0 0]) ?_ 0 _ rfl;(with_reducible repeat (first|refine zG ?_ _|refine zI ?_|refine zH ?_ _));exact BK616.out⟩,⟨by repeat (first|(with_reducible first|exact HB.out|apply zD|apply zB|apply zC|refine zF ?_ GE608.out|refine zF ?_ GE609.out|refine zF ?_ GE616.out)|exact HB.out)⟩⟩
 case round =>
  clear H'
  (try clear c1);(try clear p2);(try clear c5);(try clear c6);(try clear c7);(try clear c10);(try clear c11);(try clear hcz12_0);(try clear hcz12_1);(try clear hcz6_0);(try clear hcz6_1);(try clear hfz12_0);(try clear hfz12_1);(try clear hfz6_0);(try clear hfz6_1)
  obtain ⟨x4_1,x617000_1,x617001_1,u617000,u617001,rfl,HA,HK1,HO_617000,HO_617001,BK608,BK609,BK616,HB⟩:=hrel
  cases gk with
  | zero=>exact absurd HA.out (by simp [spec_l2Least.l0])
  | succ k1 =>
   have H:=HA.out
   clear HA
   simp only [spec_l2Least.l0] at H
   by_cases c14:x4_1 < (l0_0.length:Int)
   ·rw [if_pos c14] at H
    have c14b0:decide (x4_1 < (l0_0.length:Int)) = true:=zO c14
    clear c14
    replace H:=zz0 H
    obtain ⟨⟨t617,t620⟩,A150,H⟩:=H
    try dsimp only at H
    have A15:=zA A150
    clear A150
    replace H:=zz0 H
    obtain ⟨t624,A160,H⟩:=H
    try dsimp only at H
    have A16:=zA A160
    clear A160
    by_cases c17:t624 < 0
    ·rw [if_pos c17] at H
     have c17b0:decide (t624 < 0) = true:=zO c17
     clear c17
     have H':=zA H
     clear H
     have hnb18:=NB608_609.out
     have hnc18:=NB609_608.out
     have hnb19:=NB608_616.out
     have hnc19:=NB616_608.out
     have hcz20_0:wr.cell? ⟨gb608,0,none⟩ = some (.slice A0_0 l0_0.length c0_0):=(zT BK608.out 0).trans rfl
     have hcz20_1:wr.cell? ⟨gb608,1,none⟩ = some (.slice A0_1 l0_1.length c0_1):=(zT BK608.out 1).trans rfl
     have hfz20_0:=zZ BK608.out 0
     have hfz20_1:=zZ BK608.out 1
     go_wp2_with (first|((with_reducible refine gate_callee (f:=78) rfl ?_);refine goesL_ (some 17) rfl rfl Try.func78 (by kernel_rfl) rfl #[.agg #[.slice A0_0 l0_0.length c0_0,.slice A0_1 l0_1.length c0_1],.int .i64 x4_1] rfl (by (try simp only [zJ,zM,zN]);first|done|rfl|(simp only [zL,zK];rfl)) ?_;(with_reducible refine (spec_l2Form.calls k1 _ _ l0_0 _ _ l0_1 x4_1 t617 t620 _ ?side1 ?side2 ?side3 ?side4 A15.out).mono ?_);(case side1=>repeat (first|exact (zW HR0_0.out HB.out)|(with_reducible exact HR0_0.out)|apply zC_));(case side2=>exact HC0_0.out);(case side3=>repeat (first|exact (zW HR0_1.out HB.out)|(with_reducible exact HR0_1.out)|apply zC_));(case side4=>exact HC0_1.out);rintro e w21 ⟨v618,v621,rfl,ho0,ho1,hb⟩;refine ⟨_,rfl,?_⟩;have n0_:=zA (zV (Kd.R_told (Kd.R_told (Kd.R_old (by apply zR_;exact HO_617000.out) hb) (zd ho0)) (zd ho1)) (fun _ h_=>h_.1));have n1_:=zA (zV (Kd.R_told (Kd.R_told (Kd.R_old (by apply zR_;exact HO_617001.out) hb) (zd ho0)) (zd ho1)) (fun _ h_=>h_.1));have n2_:=zA (ze (zh (zh ho0 (Kd.R_lt (by apply zR_;exact HO_617000.out))) (Kd.R_lt (by apply zR_;exact HO_617001.out))) (zQ (by repeat (first|(with_reducible first|exact HB.out|apply zD|apply zB|apply zC|refine zF ?_ GE608.out|refine zF ?_ GE609.out|refine zF ?_ GE616.out)|exact HB.out))));have n3_:=zA (ze (zh (zh ho1 (Kd.R_lt (by apply zR_;exact HO_617000.out))) (Kd.R_lt (by apply zR_;exact HO_617001.out))) (zQ (by repeat (first|(with_reducible first|exact HB.out|apply zD|apply zB|apply zC|refine zF ?_ GE608.out|refine zF ?_ GE609.out|refine zF ?_ GE616.out)|exact HB.out))));have n4_:=zA (zX (g:=gb608) (o:=.cells #[.slice A0_0 l0_0.length c0_0,.slice A0_1 l0_1.length c0_1] 33 (0,0)) (by (with_reducible repeat (first|refine zG ?_ _|refine zI ?_|refine zH ?_ _));exact BK608.out) hb);have n5_:=zA (zX (g:=gb609) (o:=.cells #[.slice none 0 0,.slice none 0 0] 33 (0,0)) (by (with_reducible repeat (first|refine zG ?_ _|refine zI ?_|refine zH ?_ _));exact BK609.out) hb);have n6_:=zA (zX (g:=gb616) (o:=.cells #[u617000,u617001] 33 (0,0)) (by (with_reducible repeat (first|refine zG ?_ _|refine zI ?_|refine zH ?_ _));exact BK616.out) hb);have n7_:=zA (zR (by repeat (first|(with_reducible first|exact HB.out|apply zD|apply zB|apply zC|refine zF ?_ GE608.out|refine zF ?_ GE609.out|refine zF ?_ GE616.out)|exact HB.out)) hb);clear HO_617000;clear HO_617001;clear BK608;clear BK609;clear BK616;clear HB;have HO_617000:=n0_;have HO_617001:=n1_;have HO619:=n2_;have HO622:=n3_;have BK608:=n4_;have BK609:=n5_;have BK616:=n6_;have HB:=n7_;clear n0_ n1_ n2_ n3_ n4_ n5_ n6_ n7_;(try clear hb);(try clear hb2);(try clear hk);(try clear hi);(try clear ho0);(try clear ho1))|((with_reducible refine gate_dst (N:=5) rfl ?_);refine box_event ?hg (N:=5) ?hd (cs:=#[.slice none 0 0,.slice none 0 0]) (t:=33) ?hr ?_;(case hd=>rfl);(case hg=>rfl);(case hr=>first|(go_simp;done)|(go_simp;rfl));intro gb623 hg w22 hbox hb;have n0_:=zA (zj (by apply zR_;exact HO_617000.out) hb);have n1_:=zA (zj (by apply zR_;exact HO_617001.out) hb);have n2_:=zA (zj (by apply zR_;exact HO619.out) hb);have n3_:=zA (zj (by apply zR_;exact HO622.out) hb);have n4_:=zA (zX (g:=gb608) (o:=.cells #[.slice A0_0 l0_0.length c0_0,.slice A0_1 l0_1.length c0_1] 33 (0,0)) (by (with_reducible repeat (first|refine zG ?_ _|refine zI ?_|refine zH ?_ _));exact BK608.out) hb);have n5_:=zA (zX (g:=gb609) (o:=.cells #[.slice none 0 0,.slice none 0 0] 33 (0,0)) (by (with_reducible repeat (first|refine zG ?_ _|refine zI ?_|refine zH ?_ _));exact BK609.out) hb);have n6_:=zA (zX (g:=gb616) (o:=.cells #[u617000,u617001] 33 (0,0)) (by (with_reducible repeat (first|refine zG ?_ _|refine zI ?_|refine zH ?_ _));exact BK616.out) hb);have n7_:=zA (zR (by repeat (first|(with_reducible first|exact HB.out|apply zD|apply zB|apply zC|refine zF ?_ GE608.out|refine zF ?_ GE609.out|refine zF ?_ GE616.out)|exact HB.out)) hb);have n8_:=zA (hbox);have n9_:=zA ((by rw [hg];exact (zQ (by repeat (first|(with_reducible first|exact HB.out|apply zD|apply zB|apply zC|refine zF ?_ GE608.out|refine zF ?_ GE609.out|refine zF ?_ GE616.out)|exact HB.out))):w.heap.size≤gb623));have n10_:=zA ((by rw [hg];exact (zQ (by repeat (first|(with_reducible first|exact HB.out|apply zD|apply zB|apply zC|refine zF ?_ GE608.out|refine zF ?_ GE609.out|refine zF ?_ GE616.out)|exact HB.out))):w.heap.size≤gb623));have n11_:=zA ((by rw [hg];exact Nat.ne_of_lt (blk_lt (g:=gb608) (o:=.cells #[.slice A0_0 l0_0.length c0_0,.slice A0_1 l0_1.length c0_1] 33 (0,0)) (by (with_reducible repeat (first|refine zG ?_ _|refine zI ?_|refine zH ?_ _));exact BK608.out)):gb608≠gb623));have n12_:=zA ((by rw [hg];exact Nat.ne_of_gt (blk_lt (g:=gb608) (o:=.cells #[.slice A0_0 l0_0.length c0_0,.slice A0_1 l0_1.length c0_1] 33 (0,0)) (by (with_reducible repeat (first|refine zG ?_ _|refine zI ?_|refine zH ?_ _));exact BK608.out)):gb623≠gb608));have n13_:=zA ((by rw [hg];exact Nat.ne_of_lt (blk_lt (g:=gb609) (o:=.cells #[.slice none 0 0,.slice none 0 0] 33 (0,0)) (by (with_reducible repeat (first|refine zG ?_ _|refine zI ?_|refine zH ?_ _));exact BK609.out)):gb609≠gb623));have n14_:=zA ((by rw [hg];exact Nat.ne_of_gt (blk_lt (g:=gb609) (o:=.cells #[.slice none 0 0,.slice none 0 0] 33 (0,0)) (by (with_reducible repeat (first|refine zG ?_ _|refine zI ?_|refine zH ?_ _));exact BK609.out)):gb623≠gb609));have n15_:=zA ((by rw [hg];exact Nat.ne_of_lt (blk_lt (g:=gb616) (o:=.cells #[u617000,u617001] 33 (0,0)) (by (with_reducible repeat (first|refine zG ?_ _|refine zI ?_|refine zH ?_ _));exact BK616.out)):gb616≠gb623));have n16_:=zA ((by rw [hg];exact Nat.ne_of_gt (blk_lt (g:=gb616) (o:=.cells #[u617000,u617001] 33 (0,0)) (by (with_reducible repeat (first|refine zG ?_ _|refine zI ?_|refine zH ?_ _));exact BK616.out)):gb623≠gb616));clear HO_617000;clear HO_617001;clear HO619;clear HO622;clear BK608;clear BK609;clear BK616;clear HB;have HO_617000:=n0_;have HO_617001:=n1_;have HO619:=n2_;have HO622:=n3_;have BK608:=n4_;have BK609:=n5_;have BK616:=n6_;have HB:=n7_;have BK623:=n8_;have GW623:=n9_;have GE623:=n10_;have NB608_623:=n11_;have NB623_608:=n12_;have NB609_623:=n13_;have NB623_609:=n14_;have NB616_623:=n15_;have NB623_616:=n16_;clear n0_ n1_ n2_ n3_ n4_ n5_ n6_ n7_ n8_ n9_ n10_ n11_ n12_ n13_ n14_ n15_ n16_;clear hb hbox hg;obtain ⟨Ao23,co23,eo23⟩:=zg HO619.out;subst eo23;have hnb24:=NB623_608.out;have hnc24:=NB608_623.out;have hnb25:=NB623_609.out;have hnc25:=NB609_623.out;have hnb26:=NB623_616.out;have hnc26:=NB616_623.out;have hcz27_0:w22.cell? ⟨gb623,0,none⟩ = some (.slice none 0 0):=(zT BK623.out 0).trans rfl;have hcz27_1:w22.cell? ⟨gb623,1,none⟩ = some (.slice none 0 0):=(zT BK623.out 1).trans rfl;have hfz27_0:=zZ BK623.out 0;have hfz27_1:=zZ BK623.out 1;obtain ⟨Ao28,co28,eo28⟩:=zg HO622.out;subst eo28;have hnb29:=NB616_609.out;have hnc29:=NB609_616.out;have hcz30_0:w22.cell? ⟨gb616,0,none⟩ = some (u617000):=(zT BK616.out 0).trans rfl;have hcz30_1:w22.cell? ⟨gb616,1,none⟩ = some (u617001):=(zT BK616.out 1).trans rfl;have hfz30_0:=zZ BK616.out 0;have hfz30_1:=zZ BK616.out 1;obtain ⟨Ao31,co31,eo31⟩:=zg HO_617000.out;subst eo31;obtain ⟨Ao32,co32,eo32⟩:=zg HO_617001.out;subst eo32)|((with_reducible refine gate_callee (f:=83) rfl ?_);refine goesL_ (some 20) rfl rfl Try.func83 (by kernel_rfl) rfl #[.agg #[.slice Ao23 t617.length co23,.slice Ao28 t620.length co28],.agg #[.slice Ao31 x617000_1.length co31,.slice Ao32 x617001_1.length co32]] rfl (by (try simp only [zJ,zM,zN]);first|done|rfl|(simp only [zL,zK];rfl)) ?_;(with_reducible refine (spec_l2Before.calls k1 _ _ t617 _ _ t620 _ _ x617000_1 _ _ x617001_1 t624 _ ?side1 ?side2 ?side3 ?side4 ?side5 ?side6 ?side7 ?side8 A16.out).mono ?_);(case side1=>refine (zU (e:=3) (base:=w.heap.size) (ok:=fun k_=>((some k_≠(.slice Ao28 t620.length co28:Value).ownBlock∧some k_≠(.slice Ao31 x617000_1.length co31:Value).ownBlock)∧some k_≠(.slice Ao32 x617001_1.length co32:Value).ownBlock)) (n:=t617.length) (c:=co23) ?_).2.2;exact (by apply zR_;exact (zV (zi (p:=⟨gb623,1,none⟩) (zi (p:=⟨gb623,0,none⟩) (Kd.R_types HO619.out BK623.out (by decide)) (fun _ hk=>hk.2) (.slice Ao23 t617.length co23)) (fun _ hk=>hk.2) (.slice Ao28 t620.length co28)) (fun _ h_=>h_.1))));(case side2=>exact (zU HO619.out).2.1);(case side3=>refine (zU (e:=3) (base:=w.heap.size) (ok:=fun k_=>((some k_≠(.slice Ao23 t617.length co23:Value).ownBlock∧some k_≠(.slice Ao31 x617000_1.length co31:Value).ownBlock)∧some k_≠(.slice Ao32 x617001_1.length co32:Value).ownBlock)) (n:=t620.length) (c:=co28) ?_).2.2;exact (by apply zR_;exact (zV (zi (p:=⟨gb623,1,none⟩) (zi (p:=⟨gb623,0,none⟩) (Kd.R_types HO622.out BK623.out (by decide)) (fun _ hk=>hk.2) (.slice Ao23 t617.length co23)) (fun _ hk=>hk.2) (.slice Ao28 t620.length co28)) (fun _ h_=>h_.1))));(case side4=>exact (zU HO622.out).2.1);(case side5=>refine (zU (e:=3) (base:=w.heap.size) (ok:=fun k_=>((some k_≠(.slice Ao32 x617001_1.length co32:Value).ownBlock∧some k_≠(.slice Ao23 t617.length co23:Value).ownBlock)∧some k_≠(.slice Ao28 t620.length co28:Value).ownBlock)) (n:=x617000_1.length) (c:=co31) ?_).2.2;exact (by apply zR_;exact (zV (zi (p:=⟨gb623,1,none⟩) (zi (p:=⟨gb623,0,none⟩) (Kd.R_types HO_617000.out BK623.out (by decide)) (fun _ hk=>hk.2) (.slice Ao23 t617.length co23)) (fun _ hk=>hk.2) (.slice Ao28 t620.length co28)) (fun _ h_=>h_.1))));(case side6=>exact (zU HO_617000.out).2.1);(case side7=>refine (zU (e:=3) (base:=w.heap.size) (ok:=fun k_=>((some k_≠(.slice Ao31 x617000_1.length co31:Value).ownBlock∧some k_≠(.slice Ao23 t617.length co23:Value).ownBlock)∧some k_≠(.slice Ao28 t620.length co28:Value).ownBlock)) (n:=x617001_1.length) (c:=co32) ?_).2.2;exact (by apply zR_;exact (zV (zi (p:=⟨gb623,1,none⟩) (zi (p:=⟨gb623,0,none⟩) (Kd.R_types HO_617001.out BK623.out (by decide)) (fun _ hk=>hk.2) (.slice Ao23 t617.length co23)) (fun _ hk=>hk.2) (.slice Ao28 t620.length co28)) (fun _ h_=>h_.1))));(case side8=>exact (zU HO_617001.out).2.1);rintro e w33 ⟨rfl,hb⟩;refine ⟨_,rfl,?_⟩;have n0_:=zA (zj (by apply zR_;exact (zV (zi (p:=⟨gb623,1,none⟩) (zi (p:=⟨gb623,0,none⟩) (Kd.R_types HO_617000.out BK623.out (by decide)) (fun _ hk=>hk.2) (.slice Ao23 t617.length co23)) (fun _ hk=>hk.2) (.slice Ao28 t620.length co28)) (fun _ h_=>h_.1))) hb);have n1_:=zA (zj (by apply zR_;exact (zV (zi (p:=⟨gb623,1,none⟩) (zi (p:=⟨gb623,0,none⟩) (Kd.R_types HO_617001.out BK623.out (by decide)) (fun _ hk=>hk.2) (.slice Ao23 t617.length co23)) (fun _ hk=>hk.2) (.slice Ao28 t620.length co28)) (fun _ h_=>h_.1))) hb);have n2_:=zA (zj (by apply zR_;exact (zV (zi (p:=⟨gb623,1,none⟩) (zi (p:=⟨gb623,0,none⟩) (Kd.R_types HO619.out BK623.out (by decide)) (fun _ hk=>hk.2) (.slice Ao23 t617.length co23)) (fun _ hk=>hk.2) (.slice Ao28 t620.length co28)) (fun _ h_=>h_.1))) hb);have n3_:=zA (zj (by apply zR_;exact (zV (zi (p:=⟨gb623,1,none⟩) (zi (p:=⟨gb623,0,none⟩) (Kd.R_types HO622.out BK623.out (by decide)) (fun _ hk=>hk.2) (.slice Ao23 t617.length co23)) (fun _ hk=>hk.2) (.slice Ao28 t620.length co28)) (fun _ h_=>h_.1))) hb);have n4_:=zA (zX (g:=gb608) (o:=.cells #[.slice A0_0 l0_0.length c0_0,.slice A0_1 l0_1.length c0_1] 33 (0,0)) (by (with_reducible repeat (first|refine zG ?_ _|refine zI ?_|refine zH ?_ _));refine blk_far ?_ NB608_623.out _;(with_reducible repeat (first|refine zG ?_ _|refine zI ?_|refine zH ?_ _));refine blk_far ?_ NB608_623.out _;(with_reducible repeat (first|refine zG ?_ _|refine zI ?_|refine zH ?_ _));exact BK608.out) hb);have n5_:=zA (zX (g:=gb609) (o:=.cells #[.slice none 0 0,.slice none 0 0] 33 (0,0)) (by (with_reducible repeat (first|refine zG ?_ _|refine zI ?_|refine zH ?_ _));refine blk_far ?_ NB609_623.out _;(with_reducible repeat (first|refine zG ?_ _|refine zI ?_|refine zH ?_ _));refine blk_far ?_ NB609_623.out _;(with_reducible repeat (first|refine zG ?_ _|refine zI ?_|refine zH ?_ _));exact BK609.out) hb);have n6_:=zA (zX (g:=gb616) (o:=.cells #[.slice Ao31 x617000_1.length co31,.slice Ao32 x617001_1.length co32] 33 (0,0)) (by (with_reducible repeat (first|refine zG ?_ _|refine zI ?_|refine zH ?_ _));refine blk_far ?_ NB616_623.out _;(with_reducible repeat (first|refine zG ?_ _|refine zI ?_|refine zH ?_ _));refine blk_far ?_ NB616_623.out _;(with_reducible repeat (first|refine zG ?_ _|refine zI ?_|refine zH ?_ _));exact BK616.out) hb);have n7_:=zA (zX (g:=gb623) (o:=.cells #[.slice Ao23 t617.length co23,.slice Ao28 t620.length co28] 33 (0,0)) (by (with_reducible repeat (first|refine zG ?_ _|refine zI ?_|refine zH ?_ _));refine blk_put (cs:=#[.slice Ao23 t617.length co23,.slice none 0 0]) ?_ 1 _ rfl;(with_reducible repeat (first|refine zG ?_ _|refine zI ?_|refine zH ?_ _));refine blk_put (cs:=#[.slice none 0 0,.slice none 0 0]) ?_ 0 _ rfl;(with_reducible repeat (first|refine zG ?_ _|refine zI ?_|refine zH ?_ _));exact BK623.out) hb);have n8_:=zA (zR (by repeat (first|(with_reducible first|exact HB.out|apply zD|apply zB|apply zC|refine zF ?_ GE608.out|refine zF ?_ GE609.out|refine zF ?_ GE616.out|refine zF ?_ GE623.out)|exact HB.out)) hb);clear HO_617000;clear HO_617001;clear HO619;clear HO622;clear BK608;clear BK609;clear BK616;clear BK623;clear HB;have HO_617000:=n0_;have HO_617001:=n1_;have HO619:=n2_;have HO622:=n3_;have BK608:=n4_;have BK609:=n5_;have BK616:=n6_;have BK623:=n7_;have HB:=n8_;clear n0_ n1_ n2_ n3_ n4_ n5_ n6_ n7_ n8_;(try clear hb);(try clear hb2);(try clear hk);(try clear hi);have hcz34_0:w33.cell? ⟨gb623,0,none⟩ = some (.slice Ao23 t617.length co23):=(zT BK623.out 0).trans rfl;have hcz34_1:w33.cell? ⟨gb623,1,none⟩ = some (.slice Ao28 t620.length co28):=(zT BK623.out 1).trans rfl;have hfz34_0:=zZ BK623.out 0;have hfz34_1:=zZ BK623.out 1;have hcz35_0:w33.cell? ⟨gb616,0,none⟩ = some (.slice Ao31 x617000_1.length co31):=(zT BK616.out 0).trans rfl;have hcz35_1:w33.cell? ⟨gb616,1,none⟩ = some (.slice Ao32 x617001_1.length co32):=(zT BK616.out 1).trans rfl;have hfz35_0:=zZ BK616.out 0;have hfz35_1:=zZ BK616.out 1))
     go_roundg k1
     case measure=>have:=HK1.out;omega
     case rel=>exact ⟨(wrap64 (x4_1+1)),(t617),(t620),(.slice Ao23 t617.length co23),(.slice Ao28 t620.length co28),(by first|rfl|(simp;done)|(simp [*];done)),H',⟨by have:=HK1.out;omega⟩,⟨by apply zR_;exact zV (zi (p:=⟨gb616,1,none⟩) (zi (p:=⟨gb616,0,none⟩) (Kd.R_types HO619.out BK616.out (by decide)) (fun _ hk=>hk.2) (.slice Ao23 t617.length co23)) (fun _ hk=>hk.2) (.slice Ao28 t620.length co28)) (fun _ hk=>hk.1.1.1)⟩,⟨by apply zR_;exact zV (zi (p:=⟨gb616,1,none⟩) (zi (p:=⟨gb616,0,none⟩) (Kd.R_types HO622.out BK616.out (by decide)) (fun _ hk=>hk.2) (.slice Ao23 t617.length co23)) (fun _ hk=>hk.2) (.slice Ao28 t620.length co28)) (fun _ hk=>hk.1.1.1)⟩,⟨by (with_reducible repeat (first|refine zG ?_ _|refine zI ?_|refine zH ?_ _));refine blk_far ?_ NB608_616.out _;(with_reducible repeat (first|refine zG ?_ _|refine zI ?_|refine zH ?_ _));refine blk_far ?_ NB608_616.out _;(with_reducible repeat (first|refine zG ?_ _|refine zI ?_|refine zH ?_ _));exact BK608.out⟩,⟨by (with_reducible repeat (first|refine zG ?_ _|refine zI ?_|refine zH ?_ _));refine blk_far ?_ NB609_616.out _;(with_reducible repeat (first|refine zG ?_ _|refine zI ?_|refine zH ?_ _));refine blk_far ?_ NB609_616.out _;(with_reducible repeat (first|refine zG ?_ _|refine zI ?_|refine zH ?_ _));exact BK609.out⟩,⟨by (with_reducible repeat (first|refine zG ?_ _|refine zI ?_|refine zH ?_ _));refine blk_put (cs:=#[.slice Ao23 t617.length co23,.slice Ao32 x617001_1.length co32]) ?_ 1 _ rfl;(with_reducible repeat (first|refine zG ?_ _|refine zI ?_|refine zH ?_ _));refine blk_put (cs:=#[.slice Ao31 x617000_1.length co31,.slice Ao32 x617001_1.length co32]) ?_ 0 _ rfl;(with_reducible repeat (first|refine zG ?_ _|refine zI ?_|refine zH ?_ _));exact BK616.out⟩,⟨by repeat (first|(with_reducible first|exact HB.out|apply zD|apply zB|apply zC|refine zF ?_ GE608.out|refine zF ?_ GE609.out|refine zF ?_ GE616.out|refine zF ?_ GE623.out)|exact HB.out)⟩⟩
    ·rw [if_neg c17] at H
     have c17b0:decide (t624 < 0) = false:=zP c17
     clear c17
     have H':=zA H
     clear H
     have hnb36:=NB608_609.out
     have hnc36:=NB609_608.out
     have hnb37:=NB608_616.out
     have hnc37:=NB616_608.out
     have hcz38_0:wr.cell? ⟨gb608,0,none⟩ = some (.slice A0_0 l0_0.length c0_0):=(zT BK608.out 0).trans rfl
     have hcz38_1:wr.cell? ⟨gb608,1,none⟩ = some (.slice A0_1 l0_1.length c0_1):=(zT BK608.out 1).trans rfl
     have hfz38_0:=zZ BK608.out 0
     have hfz38_1:=zZ BK608.out 1
     go_wp2_with (first|((with_reducible refine gate_callee (f:=78) rfl ?_);refine goesL_ (some 17) rfl rfl Try.func78 (by kernel_rfl) rfl #[.agg #[.slice A0_0 l0_0.length c0_0,.slice A0_1 l0_1.length c0_1],.int .i64 x4_1] rfl (by (try simp only [zJ,zM,zN]);first|done|rfl|(simp only [zL,zK];rfl)) ?_;(with_reducible refine (spec_l2Form.calls k1 _ _ l0_0 _ _ l0_1 x4_1 t617 t620 _ ?side1 ?side2 ?side3 ?side4 A15.out).mono ?_);(case side1=>repeat (first|exact (zW HR0_0.out HB.out)|(with_reducible exact HR0_0.out)|apply zC_));(case side2=>exact HC0_0.out);(case side3=>repeat (first|exact (zW HR0_1.out HB.out)|(with_reducible exact HR0_1.out)|apply zC_));(case side4=>exact HC0_1.out);rintro e w39 ⟨v618,v621,rfl,ho0,ho1,hb⟩;refine ⟨_,rfl,?_⟩;have n0_:=zA (zV (Kd.R_told (Kd.R_told (Kd.R_old (by apply zR_;exact HO_617000.out) hb) (zd ho0)) (zd ho1)) (fun _ h_=>h_.1));have n1_:=zA (zV (Kd.R_told (Kd.R_told (Kd.R_old (by apply zR_;exact HO_617001.out) hb) (zd ho0)) (zd ho1)) (fun _ h_=>h_.1));have n2_:=zA (ze (zh (zh ho0 (Kd.R_lt (by apply zR_;exact HO_617000.out))) (Kd.R_lt (by apply zR_;exact HO_617001.out))) (zQ (by repeat (first|(with_reducible first|exact HB.out|apply zD|apply zB|apply zC|refine zF ?_ GE608.out|refine zF ?_ GE609.out|refine zF ?_ GE616.out)|exact HB.out))));have n3_:=zA (ze (zh (zh ho1 (Kd.R_lt (by apply zR_;exact HO_617000.out))) (Kd.R_lt (by apply zR_;exact HO_617001.out))) (zQ (by repeat (first|(with_reducible first|exact HB.out|apply zD|apply zB|apply zC|refine zF ?_ GE608.out|refine zF ?_ GE609.out|refine zF ?_ GE616.out)|exact HB.out))));have n4_:=zA (zX (g:=gb608) (o:=.cells #[.slice A0_0 l0_0.length c0_0,.slice A0_1 l0_1.length c0_1] 33 (0,0)) (by (with_reducible repeat (first|refine zG ?_ _|refine zI ?_|refine zH ?_ _));exact BK608.out) hb);have n5_:=zA (zX (g:=gb609) (o:=.cells #[.slice none 0 0,.slice none 0 0] 33 (0,0)) (by (with_reducible repeat (first|refine zG ?_ _|refine zI ?_|refine zH ?_ _));exact BK609.out) hb);have n6_:=zA (zX (g:=gb616) (o:=.cells #[u617000,u617001] 33 (0,0)) (by (with_reducible repeat (first|refine zG ?_ _|refine zI ?_|refine zH ?_ _));exact BK616.out) hb);have n7_:=zA (zR (by repeat (first|(with_reducible first|exact HB.out|apply zD|apply zB|apply zC|refine zF ?_ GE608.out|refine zF ?_ GE609.out|refine zF ?_ GE616.out)|exact HB.out)) hb);clear HO_617000;clear HO_617001;clear BK608;clear BK609;clear BK616;clear HB;have HO_617000:=n0_;have HO_617001:=n1_;have HO619:=n2_;have HO622:=n3_;have BK608:=n4_;have BK609:=n5_;have BK616:=n6_;have HB:=n7_;clear n0_ n1_ n2_ n3_ n4_ n5_ n6_ n7_;(try clear hb);(try clear hb2);(try clear hk);(try clear hi);(try clear ho0);(try clear ho1))|((with_reducible refine gate_dst (N:=5) rfl ?_);refine box_event ?hg (N:=5) ?hd (cs:=#[.slice none 0 0,.slice none 0 0]) (t:=33) ?hr ?_;(case hd=>rfl);(case hg=>rfl);(case hr=>first|(go_simp;done)|(go_simp;rfl));intro gb623 hg w40 hbox hb;have n0_:=zA (zj (by apply zR_;exact HO_617000.out) hb);have n1_:=zA (zj (by apply zR_;exact HO_617001.out) hb);have n2_:=zA (zj (by apply zR_;exact HO619.out) hb);have n3_:=zA (zj (by apply zR_;exact HO622.out) hb);have n4_:=zA (zX (g:=gb608) (o:=.cells #[.slice A0_0 l0_0.length c0_0,.slice A0_1 l0_1.length c0_1] 33 (0,0)) (by (with_reducible repeat (first|refine zG ?_ _|refine zI ?_|refine zH ?_ _));exact BK608.out) hb);have n5_:=zA (zX (g:=gb609) (o:=.cells #[.slice none 0 0,.slice none 0 0] 33 (0,0)) (by (with_reducible repeat (first|refine zG ?_ _|refine zI ?_|refine zH ?_ _));exact BK609.out) hb);have n6_:=zA (zX (g:=gb616) (o:=.cells #[u617000,u617001] 33 (0,0)) (by (with_reducible repeat (first|refine zG ?_ _|refine zI ?_|refine zH ?_ _));exact BK616.out) hb);have n7_:=zA (zR (by repeat (first|(with_reducible first|exact HB.out|apply zD|apply zB|apply zC|refine zF ?_ GE608.out|refine zF ?_ GE609.out|refine zF ?_ GE616.out)|exact HB.out)) hb);have n8_:=zA (hbox);have n9_:=zA ((by rw [hg];exact (zQ (by repeat (first|(with_reducible first|exact HB.out|apply zD|apply zB|apply zC|refine zF ?_ GE608.out|refine zF ?_ GE609.out|refine zF ?_ GE616.out)|exact HB.out))):w.heap.size≤gb623));have n10_:=zA ((by rw [hg];exact (zQ (by repeat (first|(with_reducible first|exact HB.out|apply zD|apply zB|apply zC|refine zF ?_ GE608.out|refine zF ?_ GE609.out|refine zF ?_ GE616.out)|exact HB.out))):w.heap.size≤gb623));have n11_:=zA ((by rw [hg];exact Nat.ne_of_lt (blk_lt (g:=gb608) (o:=.cells #[.slice A0_0 l0_0.length c0_0,.slice A0_1 l0_1.length c0_1] 33 (0,0)) (by (with_reducible repeat (first|refine zG ?_ _|refine zI ?_|refine zH ?_ _));exact BK608.out)):gb608≠gb623));have n12_:=zA ((by rw [hg];exact Nat.ne_of_gt (blk_lt (g:=gb608) (o:=.cells #[.slice A0_0 l0_0.length c0_0,.slice A0_1 l0_1.length c0_1] 33 (0,0)) (by (with_reducible repeat (first|refine zG ?_ _|refine zI ?_|refine zH ?_ _));exact BK608.out)):gb623≠gb608));have n13_:=zA ((by rw [hg];exact Nat.ne_of_lt (blk_lt (g:=gb609) (o:=.cells #[.slice none 0 0,.slice none 0 0] 33 (0,0)) (by (with_reducible repeat (first|refine zG ?_ _|refine zI ?_|refine zH ?_ _));exact BK609.out)):gb609≠gb623));have n14_:=zA ((by rw [hg];exact Nat.ne_of_gt (blk_lt (g:=gb609) (o:=.cells #[.slice none 0 0,.slice none 0 0] 33 (0,0)) (by (with_reducible repeat (first|refine zG ?_ _|refine zI ?_|refine zH ?_ _));exact BK609.out)):gb623≠gb609));have n15_:=zA ((by rw [hg];exact Nat.ne_of_lt (blk_lt (g:=gb616) (o:=.cells #[u617000,u617001] 33 (0,0)) (by (with_reducible repeat (first|refine zG ?_ _|refine zI ?_|refine zH ?_ _));exact BK616.out)):gb616≠gb623));have n16_:=zA ((by rw [hg];exact Nat.ne_of_gt (blk_lt (g:=gb616) (o:=.cells #[u617000,u617001] 33 (0,0)) (by (with_reducible repeat (first|refine zG ?_ _|refine zI ?_|refine zH ?_ _));exact BK616.out)):gb623≠gb616));clear HO_617000;clear HO_617001;clear HO619;clear HO622;clear BK608;clear BK609;clear BK616;clear HB;have HO_617000:=n0_;have HO_617001:=n1_;have HO619:=n2_;have HO622:=n3_;have BK608:=n4_;have BK609:=n5_;have BK616:=n6_;have HB:=n7_;have BK623:=n8_;have GW623:=n9_;have GE623:=n10_;have NB608_623:=n11_;have NB623_608:=n12_;have NB609_623:=n13_;have NB623_609:=n14_;have NB616_623:=n15_;have NB623_616:=n16_;clear n0_ n1_ n2_ n3_ n4_ n5_ n6_ n7_ n8_ n9_ n10_ n11_ n12_ n13_ n14_ n15_ n16_;clear hb hbox hg;obtain ⟨Ao41,co41,eo41⟩:=zg HO619.out;subst eo41;have hnb42:=NB623_608.out;have hnc42:=NB608_623.out;have hnb43:=NB623_609.out;have hnc43:=NB609_623.out;have hnb44:=NB623_616.out;have hnc44:=NB616_623.out;have hcz45_0:w40.cell? ⟨gb623,0,none⟩ = some (.slice none 0 0):=(zT BK623.out 0).trans rfl;have hcz45_1:w40.cell? ⟨gb623,1,none⟩ = some (.slice none 0 0):=(zT BK623.out 1).trans rfl;have hfz45_0:=zZ BK623.out 0;have hfz45_1:=zZ BK623.out 1;obtain ⟨Ao46,co46,eo46⟩:=zg HO622.out;subst eo46;have hnb47:=NB616_609.out;have hnc47:=NB609_616.out;have hcz48_0:w40.cell? ⟨gb616,0,none⟩ = some (u617000):=(zT BK616.out 0).trans rfl;have hcz48_1:w40.cell? ⟨gb616,1,none⟩ = some (u617001):=(zT BK616.out 1).trans rfl;have hfz48_0:=zZ BK616.out 0;have hfz48_1:=zZ BK616.out 1;obtain ⟨Ao49,co49,eo49⟩:=zg HO_617000.out;subst eo49;obtain ⟨Ao50,co50,eo50⟩:=zg HO_617001.out;subst eo50)|((with_reducible refine gate_callee (f:=83) rfl ?_);refine goesL_ (some 20) rfl rfl Try.func83 (by kernel_rfl) rfl #[.agg #[.slice Ao41 t617.length co41,.slice Ao46 t620.length co46],.agg #[.slice Ao49 x617000_1.length co49,.slice Ao50 x617001_1.length co50]] rfl (by (try simp only [zJ,zM,zN]);first|done|rfl|(simp only [zL,zK];rfl)) ?_;(with_reducible refine (spec_l2Before.calls k1 _ _ t617 _ _ t620 _ _ x617000_1 _ _ x617001_1 t624 _ ?side1 ?side2 ?side3 ?side4 ?side5 ?side6 ?side7 ?side8 A16.out).mono ?_);(case side1=>refine (zU (e:=3) (base:=w.heap.size) (ok:=fun k_=>((some k_≠(.slice Ao46 t620.length co46:Value).ownBlock∧some k_≠(.slice Ao49 x617000_1.length co49:Value).ownBlock)∧some k_≠(.slice Ao50 x617001_1.length co50:Value).ownBlock)) (n:=t617.length) (c:=co41) ?_).2.2;exact (by apply zR_;exact (zV (zi (p:=⟨gb623,1,none⟩) (zi (p:=⟨gb623,0,none⟩) (Kd.R_types HO619.out BK623.out (by decide)) (fun _ hk=>hk.2) (.slice Ao41 t617.length co41)) (fun _ hk=>hk.2) (.slice Ao46 t620.length co46)) (fun _ h_=>h_.1))));(case side2=>exact (zU HO619.out).2.1);(case side3=>refine (zU (e:=3) (base:=w.heap.size) (ok:=fun k_=>((some k_≠(.slice Ao41 t617.length co41:Value).ownBlock∧some k_≠(.slice Ao49 x617000_1.length co49:Value).ownBlock)∧some k_≠(.slice Ao50 x617001_1.length co50:Value).ownBlock)) (n:=t620.length) (c:=co46) ?_).2.2;exact (by apply zR_;exact (zV (zi (p:=⟨gb623,1,none⟩) (zi (p:=⟨gb623,0,none⟩) (Kd.R_types HO622.out BK623.out (by decide)) (fun _ hk=>hk.2) (.slice Ao41 t617.length co41)) (fun _ hk=>hk.2) (.slice Ao46 t620.length co46)) (fun _ h_=>h_.1))));(case side4=>exact (zU HO622.out).2.1);(case side5=>refine (zU (e:=3) (base:=w.heap.size) (ok:=fun k_=>((some k_≠(.slice Ao50 x617001_1.length co50:Value).ownBlock∧some k_≠(.slice Ao41 t617.length co41:Value).ownBlock)∧some k_≠(.slice Ao46 t620.length co46:Value).ownBlock)) (n:=x617000_1.length) (c:=co49) ?_).2.2;exact (by apply zR_;exact (zV (zi (p:=⟨gb623,1,none⟩) (zi (p:=⟨gb623,0,none⟩) (Kd.R_types HO_617000.out BK623.out (by decide)) (fun _ hk=>hk.2) (.slice Ao41 t617.length co41)) (fun _ hk=>hk.2) (.slice Ao46 t620.length co46)) (fun _ h_=>h_.1))));(case side6=>exact (zU HO_617000.out).2.1);(case side7=>refine (zU (e:=3) (base:=w.heap.size) (ok:=fun k_=>((some k_≠(.slice Ao49 x617000_1.length co49:Value).ownBlock∧some k_≠(.slice Ao41 t617.length co41:Value).ownBlock)∧some k_≠(.slice Ao46 t620.length co46:Value).ownBlock)) (n:=x617001_1.length) (c:=co50) ?_).2.2;exact (by apply zR_;exact (zV (zi (p:=⟨gb623,1,none⟩) (zi (p:=⟨gb623,0,none⟩) (Kd.R_types HO_617001.out BK623.out (by decide)) (fun _ hk=>hk.2) (.slice Ao41 t617.length co41)) (fun _ hk=>hk.2) (.slice Ao46 t620.length co46)) (fun _ h_=>h_.1))));(case side8=>exact (zU HO_617001.out).2.1);rintro e w51 ⟨rfl,hb⟩;refine ⟨_,rfl,?_⟩;have n0_:=zA (zj (by apply zR_;exact (zV (zi (p:=⟨gb623,1,none⟩) (zi (p:=⟨gb623,0,none⟩) (Kd.R_types HO_617000.out BK623.out (by decide)) (fun _ hk=>hk.2) (.slice Ao41 t617.length co41)) (fun _ hk=>hk.2) (.slice Ao46 t620.length co46)) (fun _ h_=>h_.1))) hb);have n1_:=zA (zj (by apply zR_;exact (zV (zi (p:=⟨gb623,1,none⟩) (zi (p:=⟨gb623,0,none⟩) (Kd.R_types HO_617001.out BK623.out (by decide)) (fun _ hk=>hk.2) (.slice Ao41 t617.length co41)) (fun _ hk=>hk.2) (.slice Ao46 t620.length co46)) (fun _ h_=>h_.1))) hb);have n2_:=zA (zj (by apply zR_;exact (zV (zi (p:=⟨gb623,1,none⟩) (zi (p:=⟨gb623,0,none⟩) (Kd.R_types HO619.out BK623.out (by decide)) (fun _ hk=>hk.2) (.slice Ao41 t617.length co41)) (fun _ hk=>hk.2) (.slice Ao46 t620.length co46)) (fun _ h_=>h_.1))) hb);have n3_:=zA (zj (by apply zR_;exact (zV (zi (p:=⟨gb623,1,none⟩) (zi (p:=⟨gb623,0,none⟩) (Kd.R_types HO622.out BK623.out (by decide)) (fun _ hk=>hk.2) (.slice Ao41 t617.length co41)) (fun _ hk=>hk.2) (.slice Ao46 t620.length co46)) (fun _ h_=>h_.1))) hb);have n4_:=zA (zX (g:=gb608) (o:=.cells #[.slice A0_0 l0_0.length c0_0,.slice A0_1 l0_1.length c0_1] 33 (0,0)) (by (with_reducible repeat (first|refine zG ?_ _|refine zI ?_|refine zH ?_ _));refine blk_far ?_ NB608_623.out _;(with_reducible repeat (first|refine zG ?_ _|refine zI ?_|refine zH ?_ _));refine blk_far ?_ NB608_623.out _;(with_reducible repeat (first|refine zG ?_ _|refine zI ?_|refine zH ?_ _));exact BK608.out) hb);have n5_:=zA (zX (g:=gb609) (o:=.cells #[.slice none 0 0,.slice none 0 0] 33 (0,0)) (by (with_reducible repeat (first|refine zG ?_ _|refine zI ?_|refine zH ?_ _));refine blk_far ?_ NB609_623.out _;(with_reducible repeat (first|refine zG ?_ _|refine zI ?_|refine zH ?_ _));refine blk_far ?_ NB609_623.out _;(with_reducible repeat (first|refine zG ?_ _|refine zI ?_|refine zH ?_ _));exact BK609.out) hb);have n6_:=zA (zX (g:=gb616) (o:=.cells #[.slice Ao49 x617000_1.length co49,.slice Ao50 x617001_1.length co50] 33 (0,0)) (by (with_reducible repeat (first|refine zG ?_ _|refine zI ?_|refine zH ?_ _));refine blk_far ?_ NB616_623.out _;(with_reducible repeat (first|refine zG ?_ _|refine zI ?_|refine zH ?_ _));refine blk_far ?_ NB616_623.out _;(with_reducible repeat (first|refine zG ?_ _|refine zI ?_|refine zH ?_ _));exact BK616.out) hb);have n7_:=zA (zX (g:=gb623) (o:=.cells #[.slice Ao41 t617.length co41,.slice Ao46 t620.length co46] 33 (0,0)) (by (with_reducible repeat (first|refine zG ?_ _|refine zI ?_|refine zH ?_ _));refine blk_put (cs:=#[.slice Ao41 t617.length co41,.slice none 0 0]) ?_ 1 _ rfl;(with_reducible repeat (first|refine zG ?_ _|refine zI ?_|refine zH ?_ _));refine blk_put (cs:=#[.slice none 0 0,.slice none 0 0]) ?_ 0 _ rfl;(with_reducible repeat (first|refine zG ?_ _|refine zI ?_|refine zH ?_ _));exact BK623.out) hb);have n8_:=zA (zR (by repeat (first|(with_reducible first|exact HB.out|apply zD|apply zB|apply zC|refine zF ?_ GE608.out|refine zF ?_ GE609.out|refine zF ?_ GE616.out|refine zF ?_ GE623.out)|exact HB.out)) hb);clear HO_617000;clear HO_617001;clear HO619;clear HO622;clear BK608;clear BK609;clear BK616;clear BK623;clear HB;have HO_617000:=n0_;have HO_617001:=n1_;have HO619:=n2_;have HO622:=n3_;have BK608:=n4_;have BK609:=n5_;have BK616:=n6_;have BK623:=n7_;have HB:=n8_;clear n0_ n1_ n2_ n3_ n4_ n5_ n6_ n7_ n8_;(try clear hb);(try clear hb2);(try clear hk);(try clear hi)))
     go_roundg k1
     case measure=>have:=HK1.out;omega
     case rel=>exact ⟨(wrap64 (x4_1+1)),(x617000_1),(x617001_1),(.slice Ao49 x617000_1.length co49),(.slice Ao50 x617001_1.length co50),(by first|rfl|(simp;done)|(simp [*];done)),H',⟨by have:=HK1.out;omega⟩,⟨by apply zR_;exact zV HO_617000.out (fun _ hk=>hk.1.1)⟩,⟨by apply zR_;exact zV HO_617001.out (fun _ hk=>hk.1.1)⟩,⟨by (with_reducible repeat (first|refine zG ?_ _|refine zI ?_|refine zH ?_ _));exact BK608.out⟩,⟨by (with_reducible repeat (first|refine zG ?_ _|refine zI ?_|refine zH ?_ _));exact BK609.out⟩,⟨by (with_reducible repeat (first|refine zG ?_ _|refine zI ?_|refine zH ?_ _));exact BK616.out⟩,⟨by repeat (first|(with_reducible first|exact HB.out|apply zD|apply zB|apply zC|refine zF ?_ GE608.out|refine zF ?_ GE609.out|refine zF ?_ GE616.out|refine zF ?_ GE623.out)|exact HB.out)⟩⟩
   ·rw [if_neg c14] at H
    have c14b0:decide (x4_1 < (l0_0.length:Int)) = false:=zP c14
    clear c14
    simp only [Option.some.injEq,Prod.mk.injEq] at H
    obtain ⟨rfl,rfl⟩:=H
    have hnb52:=NB608_609.out
    have hnc52:=NB609_608.out
    have hnb53:=NB608_616.out
    have hnc53:=NB616_608.out
    have hcz54_0:wr.cell? ⟨gb608,0,none⟩ = some (.slice A0_0 l0_0.length c0_0):=(zT BK608.out 0).trans rfl
    have hcz54_1:wr.cell? ⟨gb608,1,none⟩ = some (.slice A0_1 l0_1.length c0_1):=(zT BK608.out 1).trans rfl
    have hfz54_0:=zZ BK608.out 0
    have hfz54_1:=zZ BK608.out 1
    have hnb55:=NB616_609.out
    have hnc55:=NB609_616.out
    have hcz56_0:wr.cell? ⟨gb616,0,none⟩ = some (u617000):=(zT BK616.out 0).trans rfl
    have hcz56_1:wr.cell? ⟨gb616,1,none⟩ = some (u617001):=(zT BK616.out 1).trans rfl
    have hfz56_0:=zZ BK616.out 0
    have hfz56_1:=zZ BK616.out 1
    obtain ⟨Ao57,co57,eo57⟩:=zg HO_617000.out
    subst eo57
    have hcz58_0:wr.cell? ⟨gb609,0,none⟩ = some (.slice none 0 0):=(zT BK609.out 0).trans rfl
    have hcz58_1:wr.cell? ⟨gb609,1,none⟩ = some (.slice none 0 0):=(zT BK609.out 1).trans rfl
    have hfz58_0:=zZ BK609.out 0
    have hfz58_1:=zZ BK609.out 1
    obtain ⟨Ao59,co59,eo59⟩:=zg HO_617001.out
    subst eo59
    go_wp2
    refine bodyPost_ret (results_cell_row rfl _ _ gb609 33 #[.slice Ao57 x617000_1.length co57,.slice Ao59 x617001_1.length co59] (0,0) _ rfl (by (with_reducible repeat (first|refine zG ?_ _|refine zI ?_|refine zH ?_ _));refine blk_put (cs:=#[.slice Ao57 x617000_1.length co57,.slice none 0 0]) ?_ 1 _ rfl;(with_reducible repeat (first|refine zG ?_ _|refine zI ?_|refine zH ?_ _));refine blk_put (cs:=#[.slice none 0 0,.slice none 0 0]) ?_ 0 _ rfl;(with_reducible repeat (first|refine zG ?_ _|refine zI ?_|refine zH ?_ _));exact BK609.out) Try.underlying33 rfl (by kernel_rfl)) rfl ?_
    exact ⟨_,_,by first|rfl|(simp [errW_none,errW_some] <;> rfl)|(simp [*,errW_none,errW_some] <;> rfl),by apply zR_;exact zV (zi (p:=⟨gb609,1,none⟩) (zi (p:=⟨gb609,0,none⟩) (Kd.R_types HO_617000.out BK609.out (by decide)) (fun _ hk=>hk.2) (.slice Ao57 x617000_1.length co57)) (fun _ hk=>hk.2) (.slice Ao59 x617001_1.length co59)) (fun _ hk=>hk.1),by apply zR_;exact zV (zi (p:=⟨gb609,1,none⟩) (zi (p:=⟨gb609,0,none⟩) (Kd.R_types HO_617001.out BK609.out (by decide)) (fun _ hk=>hk.2) (.slice Ao57 x617000_1.length co57)) (fun _ hk=>hk.2) (.slice Ao59 x617001_1.length co59)) (fun _ hk=>hk.1),by repeat (first|(with_reducible first|exact HB.out|apply zD|apply zB|apply zC|refine zF ?_ GE608.out|refine zF ?_ GE609.out|refine zF ?_ GE616.out)|exact HB.out)⟩

/-! ### spec_l3Different: function 41 -/
def spec_l3Different.l0:Nat→List (S33)→List (S33)→Int→Option ((List (S33)))
 | 0,_,_,_=>none
 | k+1,x5,x6,x7=>if x7 < (x6.length:Int) then (if 0≤x7 then ((spec_l2Least.f k ((rd_T33 x6 x7).f0) ((rd_T33 x6 x7).f1)).bind fun bt632=>((spec_l3Put.f k x5 bt632.1 bt632.2).bind fun t638=>(spec_l3Different.l0 k t638 x6 (wrap64 (x7+1))))) else (none)) else (some x5)
def spec_l3Different.f (k:Nat) (a0:Int) (a1:Int):Option ((List (S33))):=(spec_l3All.f k a0 a1).bind fun t628=>(spec_l3Different.l0 k (([]:List (S33))) t628 0)
theorem spec_l3Different.mono_l:∀ k,(∀ y0 y1 y2,LeO (spec_l3Different.l0 k y0 y1 y2) (spec_l3Different.l0 (k+1) y0 y1 y2))
 | 0=>fun _ _ _ r h=>by simp [spec_l3Different.l0] at h
 | k+1=>by
  have ih0:=spec_l3Different.mono_l k
  ·intro y0 y1 y2
   unfold spec_l3Different.l0
   repeat' first
   | (with_reducible exact ih0 _ _ _)
   | (with_reducible exact spec_l2Least.mono _ _ _)
   | (with_reducible exact spec_l3All.mono _ _ _)
   | (with_reducible exact spec_l3Put.mono _ _ _ _)
   | (with_reducible exact LeO.refl _)
   | (with_reducible exact za _)
   | (with_reducible refine zc ?_ ?_)
   | (with_reducible refine zb ?_ (fun _=>?_))
theorem spec_l3Different.mono:∀ a0 a1 k,LeO (spec_l3Different.f k a0 a1) (spec_l3Different.f (k+1) a0 a1):=by
 intro a0 a1 k
 have ih0:=spec_l3Different.mono_l k
 unfold spec_l3Different.f
 repeat' first
   | (with_reducible exact ih0 _ _ _)
   | (with_reducible exact spec_l2Least.mono _ _ _)
   | (with_reducible exact spec_l3All.mono _ _ _)
   | (with_reducible exact spec_l3Put.mono _ _ _ _)
   | (with_reducible exact LeO.refl _)
   | (with_reducible exact za _)
   | (with_reducible refine zc ?_ ?_)
   | (with_reducible refine zb ?_ (fun _=>?_))
set_option maxHeartbeats 8000000 in
set_option maxRecDepth 100000 in
theorem spec_l3Different.calls (k:Nat) (a0:Int) (a1:Int) (r:List (S33)) (w:World) (h:spec_l3Different.f k a0 a1 = some r) :
  Calls Try.prog 41 #[.int .i64 a0,.int .i64 a1] w fun e w' => ∃ v0_:Value,e = .returned (v0_)∧Kd.V k33 33 w' w.heap.size (fun k_=>(w.heap.size≤k_)) v0_ r∧Below w.heap.size w w':=by
 have hu33:=Try.underlying33
 have HB:=zA (Below.refl w.heap.size w)
 have H:((spec_l3All.f k a0 a1).bind fun t628=>(spec_l3Different.l0 k (([]:List (S33))) t628 0)) = some r:=h
 clear h
 obtain ⟨y625,hy625⟩:∃ y_:List (S33),y_ = (([]:List (S33))):=⟨_,rfl⟩
 replace H:((spec_l3All.f k a0 a1).bind fun t628=>(spec_l3Different.l0 k y625 t628 0)) = some r:=by (try rw [hy625]);first|with_reducible exact H|with_reducible exact zS_ H|exact H
 have Ny625:=zA hy625
 clear hy625
 replace H:=zz0 H
 obtain ⟨t628,A30,H⟩:=H
 try dsimp only at H
 have A3:=zA A30
 clear A30
 have H':=zA H
 clear H
 go_enter Try.func41,Try.ntmps41
 go_wp2_with (first|((with_reducible refine gate_dst (N:=8) rfl ?_);refine Kd.S_lit k33 _ 33 ?hg (N:=8) ?hd (xs:=([]:List (S33))) (inner:=[]) (ok:=fun _=>True) (okp:=fun _=>True) ?hr ?hp (fun _ hk=>hk) trivial (Below.refl _ _) (Nat.le_refl _) (by simp) ?_;(case hd=>rfl);(case hg=>rfl);(case hr=>first|(go_simp;done)|(go_simp;rfl));(case hp=>exact (Reps.none _ _));intro v626 w4 ho5 hb hg_ hnew_;clear hg_ hnew_;(first|rw [← Ny625.out] at ho5|(simp only [Int.reduceToNat] at ho5;rw [← Ny625.out] at ho5));have n0_:=zA (Kd.S_lower (Kd.S_newM (M:=fun k_=>(w.heap.size≤k_)) ho5 (zQ (by exact zB_ HB.out)) (fun k_ h_=>h_)) (zQ (by exact zB_ HB.out)));have n1_:=zA (zR (by exact zB_ HB.out) hb);clear HB;have HO627:=n0_;have HB:=n1_;clear n0_ n1_;clear hb ho5)|((with_reducible refine gate_callee (f:=45) rfl ?_);refine goesL_ (some 11) rfl rfl Try.func45 (by kernel_rfl) rfl #[.int .i64 a0,.int .i64 a1] rfl (by (try simp only [zJ,zM,zN]);first|done|rfl|(simp only [zL,zK];rfl)) ?_;(with_reducible refine (spec_l3All.calls k a0 a1 t628 _ A3.out).mono ?_);rintro e w6 ⟨v629,rfl,ho0,hb⟩;refine ⟨_,rfl,?_⟩;have n0_:=zA (Kd.S_below (by (with_reducible repeat (first|apply Kd.S_alloc|apply Kd.S_drewN|apply Kd.S_drew));exact HO627.out) hb);have n1_:=zA (Kd.V_lower (Kd.V_mono (ok':=fun k_=>(w.heap.size≤k_)∧some k_≠(v626:Value).ownBlock) ho0 (fun k_ hk_=>⟨(Nat.le_trans (zQ (by exact zB_ HB.out)) hk_),(Kd.fresh' (Kd.S_lt (by (with_reducible repeat (first|apply Kd.S_alloc|apply Kd.S_drewN|apply Kd.S_drew));exact HO627.out)) k_ hk_)⟩)) (zQ (by exact zB_ HB.out)));have n2_:=zA (zR (by exact zB_ HB.out) hb);clear HO627;clear HB;have HO627:=n0_;have HO630:=n1_;have HB:=n2_;clear n0_ n1_ n2_;(try clear hb);(try clear hb2);(try clear hk);(try clear hi);(try clear ho0)))
 go_loopg [5,7] k (fun kq v5 v7 w' => ∃ (x5_1:List (S33)) (x7_1:Int),v7 = .int .i64 x7_1∧Aside0 (spec_l3Different.l0 kq x5_1 t628 x7_1 = some r)∧Aside0 (kq≤k)∧Aside0 (Kd.V k33 33 w' w.heap.size (fun k_=>(w.heap.size≤k_)) v5 x5_1)∧Aside0 (Kd.V k33 33 w' w.heap.size (fun k_=>(w.heap.size≤k_)) v629 t628)∧Aside0 (Below w.heap.size w w'))
 case atStart=>exact ⟨(y625),(0),(by first|rfl|(simp;done)|(simp [*];done)),H',⟨Nat.le_refl _⟩,⟨Kd.S_V (by (with_reducible repeat (first|apply Kd.S_alloc|apply Kd.S_drewN|apply Kd.S_drew));exact Kd.S_mono HO627.out (fun _ hk=>hk.1))⟩,⟨by apply zV_;exact Kd.V_mono HO630.out (fun _ hk=>hk.1)⟩,⟨by exact zB_ HB.out⟩⟩
 case round =>
  clear H'
  (try clear p2);(try clear c4)
  obtain ⟨x5_1,x7_1,rfl,HA,HK1,HO_5,HO_6,HB⟩:=hrel
  cases gk with
  | zero=>exact absurd HA.out (by simp [spec_l3Different.l0])
  | succ k1 =>
   have H:=HA.out
   clear HA
   simp only [spec_l3Different.l0] at H
   by_cases c7:x7_1 < (t628.length:Int)
   ·rw [if_pos c7] at H
    have c7b0:decide (x7_1 < (t628.length:Int)) = true:=zO c7
    clear c7
    by_cases c8:0≤x7_1
    ·rw [if_pos c8] at H
     have c8b0:decide (0≤x7_1) = true:=zO c8
     clear c8
     replace H:=zz0 H
     obtain ⟨⟨t632,t635⟩,A90,H⟩:=H
     try dsimp only at H
     have A9:=zA A90
     clear A90
     replace H:=zz0 H
     obtain ⟨t638,A100,H⟩:=H
     try dsimp only at H
     have A10:=zA A100
     clear A100
     have H':=zA H
     clear H
     obtain ⟨Ao11,co11,eo11⟩:=Kd.V_slice HO_6.out
     subst eo11
     have p631:0≤(x7_1:Int):=zE (by with_reducible assumption)
     have q631:x7_1 < (t628.length:Int):=zE (by with_reducible assumption)
     obtain ⟨ad631,A631_0,c631_0,A631_1,c631_1,e631,hx631_0,hx631_1,hl631_0,hi631_0,hl631_1,hi631_1⟩:=at_T33 (zk HO_6.out).2.2 x7_1 p631 q631
     cases e631
     obtain ⟨ce631,hce631,hMe631,hcc631⟩:=Kd.V_get HO_6.out z33 x7_1 p631 (by first|exact q631|exact zE (by with_reducible assumption)|(have e_:=(zk HO_6.out).1;omega))
     obtain ⟨ua631_0,uc631_0,ua631_1,uc631_1,rfl,ul631_0,ge631_0,ul631_1,ge631_1⟩:=k33_openF hMe631
     have hv631_0:=hcc631 0 _ rfl
     rw [Nat.add_zero] at hv631_0
     replace hv631_0:=zS (hv631_0.symm.trans hx631_0)
     injection hv631_0 with hva_ hvn_ hvc_
     rw [hva_] at ge631_0
     rw [hvc_] at ul631_0
     have HL631_0:=zA (show Kd.V (Kd.int .i64) 3 _ w.heap.size _ _ ((rd_T33 t628 x7_1).f0) from Kd.V_mk ul631_0 ge631_0)
     clear hva_ hvn_ hvc_ ge631_0 ul631_0
     have hv631_1:=hcc631 1 _ rfl
     rw [add_field _ _ 1 (by omega)] at hv631_1
     replace hv631_1:=zS (hv631_1.symm.trans hx631_1)
     injection hv631_1 with hva_ hvn_ hvc_
     rw [hva_] at ge631_1
     rw [hvc_] at ul631_1
     have HL631_1:=zA (show Kd.V (Kd.int .i64) 3 _ w.heap.size _ _ ((rd_T33 t628 x7_1).f1) from Kd.V_mk ul631_1 ge631_1)
     clear hva_ hvn_ hvc_ ge631_1 ul631_1 hcc631 hce631
     have HR631_0:=zA hi631_0
     have HC631_0:=zA hl631_0
     clear hi631_0 hl631_0
     have HR631_1:=zA hi631_1
     have HC631_1:=zA hl631_1
     clear hi631_1 hl631_1
     replace p631:=eq_true p631
     replace q631:=eq_true q631
     go_wp2_with (first|((with_reducible refine gate_callee (f:=65) rfl ?_);refine goesL_ (some 23) rfl rfl Try.func65 (by kernel_rfl) rfl #[.agg #[.slice A631_0 ((rd_T33 t628 x7_1).f0).length c631_0,.slice A631_1 ((rd_T33 t628 x7_1).f1).length c631_1]] rfl (by (try simp only [zJ,zM,zN]);first|done|rfl|(simp only [zL,zK];rfl)) ?_;(with_reducible refine (spec_l2Least.calls k1 _ _ ((rd_T33 t628 x7_1).f0) _ _ ((rd_T33 t628 x7_1).f1) t632 t635 _ ?side1 ?side2 ?side3 ?side4 A9.out).mono ?_);(case side1=>repeat (first|exact (by repeat (first|(with_reducible exact HR631_0.out)|apply zC_|exact HR631_0.out))|apply zC_));(case side2=>exact HC631_0.out);(case side3=>repeat (first|exact (by repeat (first|(with_reducible exact HR631_1.out)|apply zC_|exact HR631_1.out))|apply zC_));(case side4=>exact HC631_1.out);rintro e w12 ⟨v633,v636,rfl,ho0,ho1,hb⟩;refine ⟨_,rfl,?_⟩;have n0_:=zA (Kd.V_mono (Kd.V_told (Kd.V_told (Kd.V_old (by apply zV_;exact HO_5.out) hb) (zd ho0)) (zd ho1)) (fun _ h_=>h_.1));have n1_:=zA (Kd.V_mono (Kd.V_told (Kd.V_told (Kd.V_old (by apply zV_;exact HO_6.out) hb) (zd ho0)) (zd ho1)) (fun _ h_=>h_.1));have n2_:=zA (Kd.V_mono (Kd.V_told (Kd.V_told (Kd.V_old (by apply zV_;exact HL631_0.out) hb) (zd ho0)) (zd ho1)) (fun _ h_=>h_.1));have n3_:=zA (Kd.V_mono (Kd.V_told (Kd.V_told (Kd.V_old (by apply zV_;exact HL631_1.out) hb) (zd ho0)) (zd ho1)) (fun _ h_=>h_.1));have n4_:=zA (ze (Kd.R_newM (M:=fun k_=>(w.heap.size≤k_)) ho0 (zQ (by exact zB_ HB.out)) (fun k_ h_=>h_)) (zQ (by exact zB_ HB.out)));have n5_:=zA (ze (Kd.R_newM (M:=fun k_=>(w.heap.size≤k_)) ho1 (zQ (by exact zB_ HB.out)) (fun k_ h_=>h_)) (zQ (by exact zB_ HB.out)));have n6_:=zA (zW (by repeat (first|(with_reducible exact HR631_0.out)|apply zC_|exact HR631_0.out)) hb);have n7_:=zA (zW (by repeat (first|(with_reducible exact HR631_1.out)|apply zC_|exact HR631_1.out)) hb);have n8_:=zA (zR (by exact zB_ HB.out) hb);clear HO_5;clear HO_6;clear HL631_0;clear HL631_1;clear HR631_0;clear HR631_1;clear HB;have HO_5:=n0_;have HO_6:=n1_;have HL631_0:=n2_;have HL631_1:=n3_;have HO634:=n4_;have HO637:=n5_;have HR631_0:=n6_;have HR631_1:=n7_;have HB:=n8_;clear n0_ n1_ n2_ n3_ n4_ n5_ n6_ n7_ n8_;(try clear hb);(try clear hb2);(try clear hk);(try clear hi);(try clear ho0);(try clear ho1);obtain ⟨Ao13,co13,eo13⟩:=Kd.V_slice HO_5.out;subst eo13;obtain ⟨Ao14,co14,eo14⟩:=zg HO634.out;subst eo14;obtain ⟨Ao15,co15,eo15⟩:=zg HO637.out;subst eo15)|((with_reducible refine gate_callee (f:=64) rfl ?_);refine goesL_ (some 24) rfl rfl Try.func64 (by kernel_rfl) rfl #[.slice Ao13 x5_1.length co13,.agg #[.slice Ao14 t632.length co14,.slice Ao15 t635.length co15]] rfl (by (try simp only [zJ,zM,zN]);first|done|rfl|(simp only [zL,zK];rfl)) ?_;(with_reducible refine (spec_l3Put.calls k1 (fun k_=>(((w.heap.size≤k_)∧some k_≠(.slice Ao14 t632.length co14:Value).ownBlock)∧some k_≠(.slice Ao15 t635.length co15:Value).ownBlock)) _ _ x5_1 (fun k_=>some k_ = (.slice Ao14 t632.length co14:Value).ownBlock) _ _ t632 (fun k_=>some k_ = (.slice Ao15 t635.length co15:Value).ownBlock) _ _ t635 t638 _ ?side1 ?side2 ?side3 A10.out).mono ?_);(case side1=>exact HO_5.out);(case side2=>exact Kd.R_V (Kd.R_tight rfl (HO634.out)));(case side3=>exact Kd.R_V (Kd.R_tight rfl (HO637.out)));rintro e w16 ⟨v639,rfl,ho0,hb⟩;refine ⟨_,rfl,?_⟩;have n0_:=zA (Kd.V_below (by apply zV_;exact HO_5.out) hb);have n1_:=zA (Kd.V_below (by apply zV_;exact HO_6.out) hb);have n2_:=zA (Kd.V_below (by apply zV_;exact HL631_0.out) hb);have n3_:=zA (Kd.V_below (by apply zV_;exact HL631_1.out) hb);have n4_:=zA (zj (by apply zR_;exact HO634.out) hb);have n5_:=zA (zj (by apply zR_;exact HO637.out) hb);have n6_:=zA (Kd.V_lower (Kd.V_mono (ok':=fun k_=>(w.heap.size≤k_)) ho0 (fun k_ hk_=>Or.elim hk_ (fun hs_=>Or.elim hs_ (fun hs_=>hs_.1.1) (fun hs_=>Or.elim hs_ (fun hs_=>((HO634.out).1 k_ hs_.symm).1) (fun hs_=>((HO637.out).1 k_ hs_.symm).1))) (fun hn_=>(Nat.le_trans (zQ (by exact zB_ HB.out)) hn_)))) (zQ (by exact zB_ HB.out)));have n7_:=zA (zW (by repeat (first|(with_reducible exact HR631_0.out)|apply zC_|exact HR631_0.out)) hb);have n8_:=zA (zW (by repeat (first|(with_reducible exact HR631_1.out)|apply zC_|exact HR631_1.out)) hb);have n9_:=zA (zR (by exact zB_ HB.out) hb);clear HO_5;clear HO_6;clear HL631_0;clear HL631_1;clear HO634;clear HO637;clear HR631_0;clear HR631_1;clear HB;have HO_5:=n0_;have HO_6:=n1_;have HL631_0:=n2_;have HL631_1:=n3_;have HO634:=n4_;have HO637:=n5_;have HO640:=n6_;have HR631_0:=n7_;have HR631_1:=n8_;have HB:=n9_;clear n0_ n1_ n2_ n3_ n4_ n5_ n6_ n7_ n8_ n9_;(try clear hb);(try clear hb2);(try clear hk);(try clear hi);(try clear ho0)))
     go_roundg k1
     case measure=>have:=HK1.out;omega
     case rel=>exact ⟨(t638),(wrap64 (x7_1+1)),(by first|rfl|(simp;done)|(simp [*];done)),H',⟨by have:=HK1.out;omega⟩,⟨by apply zV_;exact HO640.out⟩,⟨by apply zV_;exact Kd.V_mono HO_6.out (fun _ hk=>hk.1.1)⟩,⟨by exact zB_ HB.out⟩⟩
    ·rw [if_neg c8] at H
     exact absurd H (by simp)
   ·rw [if_neg c7] at H
    have c7b0:decide (x7_1 < (t628.length:Int)) = false:=zP c7
    clear c7
    obtain rfl:=zS H
    obtain ⟨Ao17,co17,eo17⟩:=Kd.V_slice HO_6.out
    subst eo17
    go_wp2
    go_ret
    exact ⟨_,by first|rfl|(simp [errW_none,errW_some] <;> rfl)|(simp [*,errW_none,errW_some] <;> rfl),by apply zV_;exact HO_5.out,by exact zB_ HB.out⟩

/-! ### spec_MapTurns: function 54 -/
def spec_MapTurns.l0:Nat→Int→Int→List Int→List Int→Option (Int)
 | 0,_,_,_,_=>none
 | k+1,x3,x4,x642000,x642001=>if x4 < (x642000.length:Int) then ((spec_l2Form.f k x642000 x642001 x4).bind fun bt643=>((spec_l2Form.f k x642000 x642001 0).bind fun bt649=>((spec_l2Before.f k bt643.1 bt643.2 bt649.1 bt649.2).bind fun t655=>(if t655 = 0 then (spec_MapTurns.l0 k (wrap64 (x3+1)) (wrap64 (x4+1)) x642000 x642001) else (spec_MapTurns.l0 k x3 (wrap64 (x4+1)) x642000 x642001))))) else (some x3)
def spec_MapTurns.f (k:Nat) (l0_0:List Int) (l0_1:List Int):Option (Int):=(spec_MapValid.f k l0_0 l0_1).bind fun t642=>(if t642 = true then (spec_MapTurns.l0 k 0 0 l0_0 l0_1) else (some (-1)))
theorem spec_MapTurns.mono_l:∀ k,(∀ y0 y1 y2 y3,LeO (spec_MapTurns.l0 k y0 y1 y2 y3) (spec_MapTurns.l0 (k+1) y0 y1 y2 y3))
 | 0=>fun _ _ _ _ r h=>by simp [spec_MapTurns.l0] at h
 | k+1=>by
  have ih0:=spec_MapTurns.mono_l k
  ·intro y0 y1 y2 y3
   unfold spec_MapTurns.l0
   repeat' first
   | (with_reducible exact ih0 _ _ _ _)
   | (with_reducible exact spec_MapValid.mono _ _ _)
   | (with_reducible exact spec_l2Before.mono _ _ _ _ _)
   | (with_reducible exact spec_l2Form.mono _ _ _ _)
   | (with_reducible exact LeO.refl _)
   | (with_reducible exact za _)
   | (with_reducible refine zc ?_ ?_)
   | (with_reducible refine zb ?_ (fun _=>?_))
theorem spec_MapTurns.mono:∀ a0 a1 k,LeO (spec_MapTurns.f k a0 a1) (spec_MapTurns.f (k+1) a0 a1):=by
 intro a0 a1 k
 have ih0:=spec_MapTurns.mono_l k
 unfold spec_MapTurns.f
 repeat' first
   | (with_reducible exact ih0 _ _ _ _)
   | (with_reducible exact spec_MapValid.mono _ _ _)
   | (with_reducible exact spec_l2Before.mono _ _ _ _ _)
   | (with_reducible exact spec_l2Form.mono _ _ _ _)
   | (with_reducible exact LeO.refl _)
   | (with_reducible exact za _)
   | (with_reducible refine zc ?_ ?_)
   | (with_reducible refine zb ?_ (fun _=>?_))
set_option maxHeartbeats 8000000 in
set_option maxRecDepth 100000 in
theorem spec_MapTurns.calls (k:Nat) (A0_0:Option Addr) (c0_0:Nat) (l0_0:List Int) (A0_1:Option Addr) (c0_1:Nat) (l0_1:List Int) (r:Int) (w:World) (hr0_0:Kd.C (Kd.int .i64) w A0_0 l0_0.length l0_0) (hc0_0:l0_0.length≤c0_0) (hr0_1:Kd.C (Kd.int .i64) w A0_1 l0_1.length l0_1) (hc0_1:l0_1.length≤c0_1) (h:spec_MapTurns.f k l0_0 l0_1 = some r) :
  Calls Try.prog 54 #[.agg #[.slice A0_0 l0_0.length c0_0,.slice A0_1 l0_1.length c0_1]] w fun e w'=>e = .returned (.int .i64 r)∧Below w.heap.size w w':=by
 have hu33:=Try.underlying33
 have HR0_0:=zA hr0_0
 have HC0_0:=zA hc0_0
 clear hr0_0 hc0_0
 have HR0_1:=zA hr0_1
 have HC0_1:=zA hc0_1
 clear hr0_1 hc0_1
 have HB:=zA (Below.refl w.heap.size w)
 have H:((spec_MapValid.f k l0_0 l0_1).bind fun t642=>(if t642 = true then (spec_MapTurns.l0 k 0 0 l0_0 l0_1) else (some (-1)))) = some r:=h
 clear h
 replace H:=zz0 H
 obtain ⟨t642,A20,H⟩:=H
 try dsimp only at H
 have A2:=zA A20
 clear A20
 by_cases c3:t642 = true
 ·subst c3
  rw [if_pos rfl] at H;try dsimp only at H
  have H':=zA H
  clear H
  go_enter Try.func54,Try.ntmps54
  go_wp2_with (first|((with_reducible refine gate_dst (N:=1) rfl ?_);refine box_event ?hg (N:=1) ?hd (cs:=#[.slice A0_0 l0_0.length c0_0,.slice A0_1 l0_1.length c0_1]) (t:=33) ?hr ?_;(case hd=>rfl);(case hg=>rfl);(case hr=>first|(go_simp;done)|(go_simp;rfl));intro gb641 hg w4 hbox hb;have n0_:=zA (zR (by exact zB_ HB.out) hb);have n1_:=zA (hbox);have n2_:=zA ((by rw [hg];exact (zQ (by exact zB_ HB.out)):w.heap.size≤gb641));have n3_:=zA ((by rw [hg];exact (zQ (by exact zB_ HB.out)):w.heap.size≤gb641));clear HB;have HB:=n0_;have BK641:=n1_;have GW641:=n2_;have GE641:=n3_;clear n0_ n1_ n2_ n3_;clear hb hbox hg;have hcz5_0:w4.cell? ⟨gb641,0,none⟩ = some (.slice A0_0 l0_0.length c0_0):=(zT BK641.out 0).trans rfl;have hcz5_1:w4.cell? ⟨gb641,1,none⟩ = some (.slice A0_1 l0_1.length c0_1):=(zT BK641.out 1).trans rfl;have hfz5_0:=zZ BK641.out 0;have hfz5_1:=zZ BK641.out 1)|((with_reducible refine gate_callee (f:=76) rfl ?_);refine goesL_ (some 6) rfl rfl Try.func76 (by kernel_rfl) rfl #[.agg #[.slice A0_0 l0_0.length c0_0,.slice A0_1 l0_1.length c0_1]] rfl (by (try simp only [zJ,zM,zN]);first|done|rfl|(simp only [zL,zK];rfl)) ?_;(with_reducible refine (spec_MapValid.calls k _ _ l0_0 _ _ l0_1 true _ ?side1 ?side2 ?side3 ?side4 A2.out).mono ?_);(case side1=>repeat (first|exact (zW HR0_0.out HB.out)|(with_reducible exact HR0_0.out)|apply zC_));(case side2=>exact HC0_0.out);(case side3=>repeat (first|exact (zW HR0_1.out HB.out)|(with_reducible exact HR0_1.out)|apply zC_));(case side4=>exact HC0_1.out);rintro e w6 ⟨rfl,hb⟩;refine ⟨_,rfl,?_⟩;have n0_:=zA (zX (g:=gb641) (o:=.cells #[.slice A0_0 l0_0.length c0_0,.slice A0_1 l0_1.length c0_1] 33 (0,0)) (by (with_reducible repeat (first|refine zG ?_ _|refine zI ?_|refine zH ?_ _));exact BK641.out) hb);have n1_:=zA (zR (by repeat (first|(with_reducible first|exact HB.out|apply zD|apply zB|apply zC|refine zF ?_ GE641.out)|exact HB.out)) hb);clear BK641;clear HB;have BK641:=n0_;have HB:=n1_;clear n0_ n1_;(try clear hb);(try clear hb2);(try clear hk);(try clear hi)))
  go_loopg [3,4] k (fun kq v3 v4 w' => ∃ (x3_1:Int) (x4_1:Int),v3 = .int .i64 x3_1∧v4 = .int .i64 x4_1∧Aside0 (spec_MapTurns.l0 kq x3_1 x4_1 l0_0 l0_1 = some r)∧Aside0 (kq≤k)∧Aside0 (w'.heap[gb641]? = some (.cells #[(.slice A0_0 l0_0.length c0_0),(.slice A0_1 l0_1.length c0_1)] 33 (0,0)))∧Aside0 (Below w.heap.size w w'))
  case atStart=>exact ⟨(0),(0),(by first|rfl|(simp;done)|(simp [*];done)),(by first|rfl|(simp;done)|(simp [*];done)),H',⟨Nat.le_refl _⟩,⟨by (with_reducible repeat (first|refine zG ?_ _|refine zI ?_|refine zH ?_ _));exact BK641.out⟩,⟨by repeat (first|(with_reducible first|exact HB.out|apply zD|apply zB|apply zC|refine zF ?_ GE641.out)|exact HB.out)⟩⟩
  case round =>
   clear H'
   (try clear p2);(try clear c3);(try clear c5);(try clear hcz5_0);(try clear hcz5_1);(try clear hfz5_0);(try clear hfz5_1)
   obtain ⟨x3_1,x4_1,rfl,rfl,HA,HK1,BK641,HB⟩:=hrel
   cases gk with
   | zero=>exact absurd HA.out (by simp [spec_MapTurns.l0])
   | succ k1 =>
    have H:=HA.out
    clear HA
    simp only [spec_MapTurns.l0] at H
    by_cases c7:x4_1 < (l0_0.length:Int)
    ·rw [if_pos c7] at H
     have c7b0:decide (x4_1 < (l0_0.length:Int)) = true:=zO c7
     clear c7
     replace H:=zz0 H
     obtain ⟨⟨t643,t646⟩,A80,H⟩:=H
     try dsimp only at H
     have A8:=zA A80
     clear A80
     replace H:=zz0 H
     obtain ⟨⟨t649,t652⟩,A90,H⟩:=H
     try dsimp only at H
     have A9:=zA A90
     clear A90
     replace H:=zz0 H
     obtain ⟨t655,A100,H⟩:=H
     try dsimp only at H
     have A10:=zA A100
     clear A100
     have H9_:=zA H
     clear H
     have hcz12_0:wr.cell? ⟨gb641,0,none⟩ = some (.slice A0_0 l0_0.length c0_0):=(zT BK641.out 0).trans rfl
     have hcz12_1:wr.cell? ⟨gb641,1,none⟩ = some (.slice A0_1 l0_1.length c0_1):=(zT BK641.out 1).trans rfl
     have hfz12_0:=zZ BK641.out 0
     have hfz12_1:=zZ BK641.out 1
     try go_wp2
     have n0_:=zA (zI BK641.out)
     have n1_:=zA (zC HB.out)
     clear BK641 HB
     have BK641:=n0_
     have HB:=n1_
     clear n0_ n1_
     refine start_ (n:=7) (S:=fun w'=>w'.cell? ⟨gb641,0,none⟩ = some (.slice A0_0 l0_0.length c0_0)∧w'.cell? ⟨gb641,1,none⟩ = some (.slice A0_1 l0_1.length c0_1)) (ds:=[]) #[zf,zf,zf,zf,zf,zf,zf] (by kernel_rfl) rfl rfl ⟨(zT BK641.out 0).trans rfl,(zT BK641.out 1).trans rfl⟩ (fun hHeld=>?_)
     generalize wr.drew = w13 at BK641 HB hHeld ⊢
     refine pure_ (i:=1) (N:=some 16) (v:=?_) (a':=?_) #[zf,zt,zf,zf,zf,zf,zf] rfl rfl (by kernel_rfl) (fun _ _ _ h=>h) (Or.inl ⟨by rfl,?_⟩) ?_ ?_
     rotate_left
     ·intro w'
      go_simp
      with_reducible rfl
     rotate_left
     ·simp only [Act.put,zP_,i64_w]
      rfl
     refine take_ (i:=0) (N:=some 15) (v:=?_) (a':=?_) #[zt,zt,zf,zf,zf,zf,zf] rfl rfl (by kernel_rfl) (fun _ _ _ h=>h) (Or.inl ⟨by rfl,?_⟩) hHeld ?_ ?_
     rotate_left
     ·rintro w' ⟨s0,s1⟩
      go_simp
      with_reducible rfl
     rotate_left
     ·simp only [Act.put,zP_,i64_w]
      rfl
     refine take_ (i:=3) (N:=some 18) (v:=?_) (a':=?_) #[zt,zt,zf,zt,zf,zf,zf] rfl rfl (by kernel_rfl) (fun _ _ _ h=>h) (Or.inl ⟨by rfl,?_⟩) hHeld ?_ ?_
     rotate_left
     ·rintro w' ⟨s0,s1⟩
      go_simp
      with_reducible rfl
     rotate_left
     ·simp only [Act.put,zP_,i64_w]
      rfl
     refine one_ (i:=2) (N:=some 17) #[zt,zt,zt,zt,zf,zf,zf] rfl rfl (by kernel_rfl) (by decide) (fun K hK=>?_)
     refine goes_ Try.func78 (by kernel_rfl) rfl #[.agg #[.slice A0_0 l0_0.length c0_0,.slice A0_1 l0_1.length c0_1],.int .i64 x4_1] (by rfl) rfl rfl (by (try simp only [zJ,zM,zN]);first|done|rfl|(simp only [zL,zK];rfl)) ?_
     with_reducible refine (spec_l2Form.calls k1 _ _ l0_0 _ _ l0_1 x4_1 t643 t646 _ ?side1 ?side2 ?side3 ?side4 A8.out).mono ?_
     (case side1=>repeat (first|exact (zW HR0_0.out HB.out)|(with_reducible exact HR0_0.out)|apply zC_))
     (case side2=>exact HC0_0.out)
     (case side3=>repeat (first|exact (zW HR0_1.out HB.out)|(with_reducible exact HR0_1.out)|apply zC_))
     (case side4=>exact HC0_1.out)
     rintro e w14 ⟨v644,v647,rfl,ho0,ho1,hb⟩
     refine ⟨_,rfl,?_⟩
     have n0_:=zA (ze ho0 (zQ (by repeat (first|(with_reducible first|exact HB.out|apply zD|apply zB|apply zC|refine zF ?_ GE641.out)|exact HB.out))))
     have n1_:=zA (ze ho1 (zQ (by repeat (first|(with_reducible first|exact HB.out|apply zD|apply zB|apply zC|refine zF ?_ GE641.out)|exact HB.out))))
     have n2_:=zA (zX (g:=gb641) (o:=.cells #[.slice A0_0 l0_0.length c0_0,.slice A0_1 l0_1.length c0_1] 33 (0,0)) (by (with_reducible repeat (first|refine zG ?_ _|refine zI ?_|refine zH ?_ _));exact BK641.out) hb)
     have n3_:=zA (zR (by repeat (first|(with_reducible first|exact HB.out|apply zD|apply zB|apply zC|refine zF ?_ GE641.out)|exact HB.out)) hb)
     clear BK641 HB
     have HO645:=n0_
     have HO648:=n1_
     have BK641:=n2_
     have HB:=n3_
     clear n0_ n1_ n2_ n3_
     (try clear hb);(try clear hb2);(try clear hk);(try clear hi);(try clear ho0);(try clear ho1)
     refine hK.out _ _ ⟨(zT BK641.out 0).trans rfl,(zT BK641.out 1).trans rfl⟩ (fun hHeld=>?_)
     clear hK K
     refine norm_ (a':=?_) ?_ ?_
     rotate_left
     ·show Act.put _ (some 17) _ = _
      simp only [Act.put,zP_,i64_w]
      rfl
     refine one_ (i:=4) (N:=some 19) #[zt,zt,zt,zt,zt,zf,zf] rfl rfl (by kernel_rfl) (by decide) (fun K hK=>?_)
     refine goes_ Try.func78 (by kernel_rfl) rfl #[.agg #[.slice A0_0 l0_0.length c0_0,.slice A0_1 l0_1.length c0_1],.int .i64 0] (by rfl) rfl rfl (by (try simp only [zJ,zM,zN]);first|done|rfl|(simp only [zL,zK];rfl)) ?_
     with_reducible refine (spec_l2Form.calls k1 _ _ l0_0 _ _ l0_1 0 t649 t652 _ ?side1 ?side2 ?side3 ?side4 A9.out).mono ?_
     (case side1=>repeat (first|exact (zW HR0_0.out HB.out)|(with_reducible exact HR0_0.out)|apply zC_))
     (case side2=>exact HC0_0.out)
     (case side3=>repeat (first|exact (zW HR0_1.out HB.out)|(with_reducible exact HR0_1.out)|apply zC_))
     (case side4=>exact HC0_1.out)
     rintro e w15 ⟨v650,v653,rfl,ho0,ho1,hb⟩
     refine ⟨_,rfl,?_⟩
     have n0_:=zA (zV (Kd.R_told (Kd.R_told (Kd.R_old (by apply zR_;exact HO645.out) hb) (zd ho0)) (zd ho1)) (fun _ h_=>h_.1))
     have n1_:=zA (zV (Kd.R_told (Kd.R_told (Kd.R_old (by apply zR_;exact HO648.out) hb) (zd ho0)) (zd ho1)) (fun _ h_=>h_.1))
     have n2_:=zA (ze (zh (zh ho0 (Kd.R_lt (by apply zR_;exact HO645.out))) (Kd.R_lt (by apply zR_;exact HO648.out))) (zQ (by repeat (first|(with_reducible first|exact HB.out|apply zD|apply zB|apply zC|refine zF ?_ GE641.out)|exact HB.out))))
     have n3_:=zA (ze (zh (zh ho1 (Kd.R_lt (by apply zR_;exact HO645.out))) (Kd.R_lt (by apply zR_;exact HO648.out))) (zQ (by repeat (first|(with_reducible first|exact HB.out|apply zD|apply zB|apply zC|refine zF ?_ GE641.out)|exact HB.out))))
     have n4_:=zA (zX (g:=gb641) (o:=.cells #[.slice A0_0 l0_0.length c0_0,.slice A0_1 l0_1.length c0_1] 33 (0,0)) (by (with_reducible repeat (first|refine zG ?_ _|refine zI ?_|refine zH ?_ _));exact BK641.out) hb)
     have n5_:=zA (zR (by repeat (first|(with_reducible first|exact HB.out|apply zD|apply zB|apply zC|refine zF ?_ GE641.out)|exact HB.out)) hb)
     clear HO645 HO648 BK641 HB
     have HO645:=n0_
     have HO648:=n1_
     have HO651:=n2_
     have HO654:=n3_
     have BK641:=n4_
     have HB:=n5_
     clear n0_ n1_ n2_ n3_ n4_ n5_
     (try clear hb);(try clear hb2);(try clear hk);(try clear hi);(try clear ho0);(try clear ho1)
     obtain ⟨Ao16,co16,eo16⟩:=zg HO645.out
     (first|subst eo16|(injection eo16 with f1_ f2_ f3_;have f4_:=f1_.symm;have f5_:=f3_.symm;clear f1_ f2_ f3_;subst f4_;subst f5_))
     obtain ⟨Ao17,co17,eo17⟩:=zg HO648.out
     (first|subst eo17|(injection eo17 with f1_ f2_ f3_;have f4_:=f1_.symm;have f5_:=f3_.symm;clear f1_ f2_ f3_;subst f4_;subst f5_))
     obtain ⟨Ao18,co18,eo18⟩:=zg HO651.out
     (first|subst eo18|(injection eo18 with f1_ f2_ f3_;have f4_:=f1_.symm;have f5_:=f3_.symm;clear f1_ f2_ f3_;subst f4_;subst f5_))
     obtain ⟨Ao19,co19,eo19⟩:=zg HO654.out
     (first|subst eo19|(injection eo19 with f1_ f2_ f3_;have f4_:=f1_.symm;have f5_:=f3_.symm;clear f1_ f2_ f3_;subst f4_;subst f5_))
     refine hK.out _ _ ⟨(zT BK641.out 0).trans rfl,(zT BK641.out 1).trans rfl⟩ (fun hHeld=>?_)
     clear hK K
     refine norm_ (a':=?_) ?_ ?_
     rotate_left
     ·show Act.put _ (some 19) _ = _
      simp only [Act.put,zP_,i64_w]
      rfl
     refine one_ (i:=5) (N:=some 20) #[zt,zt,zt,zt,zt,zt,zf] rfl rfl (by kernel_rfl) (by decide) (fun K hK=>?_)
     refine goes_ Try.func83 (by kernel_rfl) rfl #[.agg #[.slice Ao16 t643.length co16,.slice Ao17 t646.length co17],.agg #[.slice Ao18 t649.length co18,.slice Ao19 t652.length co19]] (by rfl) rfl rfl (by (try simp only [zJ,zM,zN]);first|done|rfl|(simp only [zL,zK];rfl)) ?_
     with_reducible refine (spec_l2Before.calls k1 _ _ t643 _ _ t646 _ _ t649 _ _ t652 t655 _ ?side1 ?side2 ?side3 ?side4 ?side5 ?side6 ?side7 ?side8 A10.out).mono ?_
     (case side1=>repeat (first|exact (zU HO645.out).2.2|apply zC_))
     (case side2=>exact (zU HO645.out).2.1)
     (case side3=>repeat (first|exact (zU HO648.out).2.2|apply zC_))
     (case side4=>exact (zU HO648.out).2.1)
     (case side5=>repeat (first|exact (zU HO651.out).2.2|apply zC_))
     (case side6=>exact (zU HO651.out).2.1)
     (case side7=>repeat (first|exact (zU HO654.out).2.2|apply zC_))
     (case side8=>exact (zU HO654.out).2.1)
     rintro e w20 ⟨rfl,hb⟩
     refine ⟨_,rfl,?_⟩
     have n0_:=zA (zj (by apply zR_;exact HO645.out) hb)
     have n1_:=zA (zj (by apply zR_;exact HO648.out) hb)
     have n2_:=zA (zj (by apply zR_;exact HO651.out) hb)
     have n3_:=zA (zj (by apply zR_;exact HO654.out) hb)
     have n4_:=zA (zX (g:=gb641) (o:=.cells #[.slice A0_0 l0_0.length c0_0,.slice A0_1 l0_1.length c0_1] 33 (0,0)) (by (with_reducible repeat (first|refine zG ?_ _|refine zI ?_|refine zH ?_ _));exact BK641.out) hb)
     have n5_:=zA (zR (by repeat (first|(with_reducible first|exact HB.out|apply zD|apply zB|apply zC|refine zF ?_ GE641.out)|exact HB.out)) hb)
     clear HO645 HO648 HO651 HO654 BK641 HB
     have HO645:=n0_
     have HO648:=n1_
     have HO651:=n2_
     have HO654:=n3_
     have BK641:=n4_
     have HB:=n5_
     clear n0_ n1_ n2_ n3_ n4_ n5_
     (try clear hb);(try clear hb2);(try clear hk);(try clear hi)
     refine hK.out _ _ ⟨(zT BK641.out 0).trans rfl,(zT BK641.out 1).trans rfl⟩ (fun hHeld=>?_)
     clear hK K
     refine norm_ (a':=?_) ?_ ?_
     rotate_left
     ·show Act.put _ (some 20) _ = _
      simp only [Act.put,zP_,i64_w]
      rfl
     refine pure_ (i:=6) (N:=some 21) (v:=?_) (a':=?_) #[zt,zt,zt,zt,zt,zt,zt] rfl rfl (by kernel_rfl) (fun _ _ _ h=>h) (Or.inl ⟨by rfl,?_⟩) ?_ ?_
     rotate_left
     ·intro w'
      go_simp
      with_reducible rfl
     rotate_left
     ·simp only [Act.put,zP_,i64_w]
      rfl
     refine done_ (by kernel_rfl) ?_
     have H:=H9_.out
     clear H9_
     by_cases c11:t655 = 0
     ·rw [if_pos c11] at H
      have c11b0:(t655 == 0) = true:=beq_iff_eq.mpr c11
      have c11b1:(t655 != 0) = false:=bne_eq_false_iff_eq.mpr c11
      clear c11
      try rw [c11b0]
      have H':=zA H
      clear H
      try go_wp2
      go_roundg k1
      case measure=>have:=HK1.out;omega
      case rel=>exact ⟨(wrap64 (x3_1+1)),(wrap64 (x4_1+1)),(by first|rfl|(simp;done)|(simp [*];done)),(by first|rfl|(simp;done)|(simp [*];done)),H',⟨by have:=HK1.out;omega⟩,⟨by (with_reducible repeat (first|refine zG ?_ _|refine zI ?_|refine zH ?_ _));exact BK641.out⟩,⟨by repeat (first|(with_reducible first|exact HB.out|apply zD|apply zB|apply zC|refine zF ?_ GE641.out)|exact HB.out)⟩⟩
     ·rw [if_neg c11] at H
      have c11b0:(t655 == 0) = false:=beq_eq_false_iff_ne.mpr c11
      have c11b1:(t655 != 0) = true:=bne_iff_ne.mpr c11
      have H':=zA H
      clear H
      try go_wp2
      go_roundg k1
      case measure=>have:=HK1.out;omega
      case rel=>exact ⟨(x3_1),(wrap64 (x4_1+1)),(by first|rfl|(simp;done)|(simp [*];done)),(by first|rfl|(simp;done)|(simp [*];done)),H',⟨by have:=HK1.out;omega⟩,⟨by (with_reducible repeat (first|refine zG ?_ _|refine zI ?_|refine zH ?_ _));exact BK641.out⟩,⟨by repeat (first|(with_reducible first|exact HB.out|apply zD|apply zB|apply zC|refine zF ?_ GE641.out)|exact HB.out)⟩⟩
    ·rw [if_neg c7] at H
     have c7b0:decide (x4_1 < (l0_0.length:Int)) = false:=zP c7
     clear c7
     obtain rfl:=zS H
     have hcz30_0:wr.cell? ⟨gb641,0,none⟩ = some (.slice A0_0 l0_0.length c0_0):=(zT BK641.out 0).trans rfl
     have hcz30_1:wr.cell? ⟨gb641,1,none⟩ = some (.slice A0_1 l0_1.length c0_1):=(zT BK641.out 1).trans rfl
     have hfz30_0:=zZ BK641.out 0
     have hfz30_1:=zZ BK641.out 1
     go_wp2
     go_ret
     exact ⟨by first|rfl|(simp [errW_none,errW_some] <;> rfl)|(simp [*,errW_none,errW_some] <;> rfl),by repeat (first|(with_reducible first|exact HB.out|apply zD|apply zB|apply zC|refine zF ?_ GE641.out)|exact HB.out)⟩
 ·replace c3:=Bool.eq_false_iff.mpr c3
  subst c3
  have H1:(some (-1)) = some r:=by rw [if_neg (show ¬ (false = true) by decide)] at H;exact H
  clear H
  have H:=H1
  clear H1
  obtain rfl:=zS H
  go_enter Try.func54,Try.ntmps54
  go_wp2_with (first|((with_reducible refine gate_dst (N:=1) rfl ?_);refine box_event ?hg (N:=1) ?hd (cs:=#[.slice A0_0 l0_0.length c0_0,.slice A0_1 l0_1.length c0_1]) (t:=33) ?hr ?_;(case hd=>rfl);(case hg=>rfl);(case hr=>first|(go_simp;done)|(go_simp;rfl));intro gb641 hg w31 hbox hb;have n0_:=zA (zR (by exact zB_ HB.out) hb);have n1_:=zA (hbox);have n2_:=zA ((by rw [hg];exact (zQ (by exact zB_ HB.out)):w.heap.size≤gb641));have n3_:=zA ((by rw [hg];exact (zQ (by exact zB_ HB.out)):w.heap.size≤gb641));clear HB;have HB:=n0_;have BK641:=n1_;have GW641:=n2_;have GE641:=n3_;clear n0_ n1_ n2_ n3_;clear hb hbox hg;have hcz32_0:w31.cell? ⟨gb641,0,none⟩ = some (.slice A0_0 l0_0.length c0_0):=(zT BK641.out 0).trans rfl;have hcz32_1:w31.cell? ⟨gb641,1,none⟩ = some (.slice A0_1 l0_1.length c0_1):=(zT BK641.out 1).trans rfl;have hfz32_0:=zZ BK641.out 0;have hfz32_1:=zZ BK641.out 1)|((with_reducible refine gate_callee (f:=76) rfl ?_);refine goesL_ (some 6) rfl rfl Try.func76 (by kernel_rfl) rfl #[.agg #[.slice A0_0 l0_0.length c0_0,.slice A0_1 l0_1.length c0_1]] rfl (by (try simp only [zJ,zM,zN]);first|done|rfl|(simp only [zL,zK];rfl)) ?_;(with_reducible refine (spec_MapValid.calls k _ _ l0_0 _ _ l0_1 false _ ?side1 ?side2 ?side3 ?side4 A2.out).mono ?_);(case side1=>repeat (first|exact (zW HR0_0.out HB.out)|(with_reducible exact HR0_0.out)|apply zC_));(case side2=>exact HC0_0.out);(case side3=>repeat (first|exact (zW HR0_1.out HB.out)|(with_reducible exact HR0_1.out)|apply zC_));(case side4=>exact HC0_1.out);rintro e w33 ⟨rfl,hb⟩;refine ⟨_,rfl,?_⟩;have n0_:=zA (zX (g:=gb641) (o:=.cells #[.slice A0_0 l0_0.length c0_0,.slice A0_1 l0_1.length c0_1] 33 (0,0)) (by (with_reducible repeat (first|refine zG ?_ _|refine zI ?_|refine zH ?_ _));exact BK641.out) hb);have n1_:=zA (zR (by repeat (first|(with_reducible first|exact HB.out|apply zD|apply zB|apply zC|refine zF ?_ GE641.out)|exact HB.out)) hb);clear BK641;clear HB;have BK641:=n0_;have HB:=n1_;clear n0_ n1_;(try clear hb);(try clear hb2);(try clear hk);(try clear hi)))
  go_ret
  exact ⟨by first|rfl|(simp [errW_none,errW_some] <;> rfl)|(simp [*,errW_none,errW_some] <;> rfl),by repeat (first|(with_reducible first|exact HB.out|apply zD|apply zB|apply zC|refine zF ?_ GE641.out)|exact HB.out)⟩

/-! ### spec_RootlessRoots: function 27 -/
mutual
def spec_RootlessRoots.j0:Nat→Int→Int→Bool→Option (Int)
 | 0,_,_,_=>none
 | k+1,x0,x1,x14=>if x14 = true then (some (-1)) else ((spec_l3Different.f k x0 x1).bind fun t657=>(spec_RootlessRoots.l0 k x0 0 t657 0))
def spec_RootlessRoots.l0:Nat→Int→Int→List (S33)→Int→Option (Int)
 | 0,_,_,_,_=>none
 | k+1,x0,x5,x6,x7=>if x7 < (x6.length:Int) then (if 0≤x7 then ((spec_MapTurns.f k ((rd_T33 x6 x7).f0) ((rd_T33 x6 x7).f1)).bind fun t661=>(if t661 = 0 then (none) else (spec_RootlessRoots.l0 k x0 (wrap64 (x5+(wrap64 (Int.tdiv (wrap64 (2 * x0)) t661)))) x6 (wrap64 (x7+1))))) else (none)) else (some x5)
end
def spec_RootlessRoots.f (k:Nat) (a0:Int) (a1:Int):Option (Int):=(spec_l6In.f a0 1 3).bind fun t656=>(if t656 = true then (spec_RootlessRoots.j0 k a0 a1 (decide (a1 < 0))) else (spec_RootlessRoots.j0 k a0 a1 true))
theorem spec_RootlessRoots.mono_l:∀ k,(∀ y0 y1 y2,LeO (spec_RootlessRoots.j0 k y0 y1 y2) (spec_RootlessRoots.j0 (k+1) y0 y1 y2))∧(∀ y0 y1 y2 y3,LeO (spec_RootlessRoots.l0 k y0 y1 y2 y3) (spec_RootlessRoots.l0 (k+1) y0 y1 y2 y3))
 | 0=>⟨fun _ _ _ r h=>by simp [spec_RootlessRoots.j0] at h,fun _ _ _ _ r h=>by simp [spec_RootlessRoots.l0] at h⟩
 | k+1=>by
  obtain ⟨ih0,ih1⟩:=spec_RootlessRoots.mono_l k
  refine ⟨?_,?_⟩
  ·intro y0 y1 y2
   unfold spec_RootlessRoots.j0
   repeat' first
   | (with_reducible exact ih0 _ _ _)
   | (with_reducible exact ih1 _ _ _ _)
   | (with_reducible exact spec_MapTurns.mono _ _ _)
   | (with_reducible exact spec_l3Different.mono _ _ _)
   | (with_reducible exact LeO.refl _)
   | (with_reducible exact za _)
   | (with_reducible refine zc ?_ ?_)
   | (with_reducible refine zb ?_ (fun _=>?_))
  ·intro y0 y1 y2 y3
   unfold spec_RootlessRoots.l0
   repeat' first
   | (with_reducible exact ih0 _ _ _)
   | (with_reducible exact ih1 _ _ _ _)
   | (with_reducible exact spec_MapTurns.mono _ _ _)
   | (with_reducible exact spec_l3Different.mono _ _ _)
   | (with_reducible exact LeO.refl _)
   | (with_reducible exact za _)
   | (with_reducible refine zc ?_ ?_)
   | (with_reducible refine zb ?_ (fun _=>?_))
theorem spec_RootlessRoots.mono:∀ a0 a1 k,LeO (spec_RootlessRoots.f k a0 a1) (spec_RootlessRoots.f (k+1) a0 a1):=by
 intro a0 a1 k
 obtain ⟨ih0,ih1⟩:=spec_RootlessRoots.mono_l k
 unfold spec_RootlessRoots.f
 repeat' first
   | (with_reducible exact ih0 _ _ _)
   | (with_reducible exact ih1 _ _ _ _)
   | (with_reducible exact spec_MapTurns.mono _ _ _)
   | (with_reducible exact spec_l3Different.mono _ _ _)
   | (with_reducible exact LeO.refl _)
   | (with_reducible exact za _)
   | (with_reducible refine zc ?_ ?_)
   | (with_reducible refine zb ?_ (fun _=>?_))
set_option maxHeartbeats 8000000 in
set_option maxRecDepth 100000 in
theorem spec_RootlessRoots.calls (k:Nat) (a0:Int) (a1:Int) (r:Int) (w:World) (h:spec_RootlessRoots.f k a0 a1 = some r) :
  Calls Try.prog 27 #[.int .i64 a0,.int .i64 a1] w fun e w'=>e = .returned (.int .i64 r)∧Below w.heap.size w w':=by
 have hu33:=Try.underlying33
 have HB:=zA (Below.refl w.heap.size w)
 have H:((spec_l6In.f a0 1 3).bind fun t656=>(if t656 = true then (spec_RootlessRoots.j0 k a0 a1 (decide (a1 < 0))) else (spec_RootlessRoots.j0 k a0 a1 true))) = some r:=h
 clear h
 have HC3:=zA H
 clear H
 go_enter Try.func27,Try.ntmps27
 go_upto_region 1 with (fail)
 go_cut [14] (fun v14 wc => ∃ (kq:Nat) (x14_2:Bool),v14 = .bool x14_2∧Aside0 (spec_RootlessRoots.j0 kq a0 a1 x14_2 = some r)∧Aside0 (kq≤k)∧Aside0 (Below w.heap.size w wc))
 case first =>
  have H:=HC3.out
  clear HC3
  replace H:=zz0 H
  obtain ⟨t656,A40,H⟩:=H
  try dsimp only at H
  have A4:=zA A40
  clear A40
  by_cases c5:t656 = true
  ·subst c5
   rw [if_pos rfl] at H;try dsimp only at H
   have H':=zA H
   clear H
   go_wp2_with (first|((with_reducible refine gate_callee (f:=40) rfl ?_);refine goesL_ (some 9) rfl rfl Try.func40 (by kernel_rfl) rfl #[.int .i64 a0,.int .i64 1,.int .i64 3] rfl (by (try simp only [zJ,zM,zN]);first|done|rfl|(simp only [zL,zK];rfl)) ?_;(with_reducible refine (spec_l6In.calls a0 1 3 true _ A4.out).mono ?_);rintro e w' ⟨rfl,⟨nd,rfl⟩⟩;refine ⟨_,rfl,?_⟩))
   go_meet
   case rel=>exact ⟨_,(decide (a1 < 0)),(by first|rfl|(simp;done)|(simp [*];done)),H',⟨by first|omega|exact Nat.le_refl _⟩,⟨by exact zB_ HB.out⟩⟩
  ·replace c5:=Bool.eq_false_iff.mpr c5
   subst c5
   have H1:(spec_RootlessRoots.j0 k a0 a1 true) = some r:=by rw [if_neg (show ¬ (false = true) by decide)] at H;exact H
   clear H
   have H:=H1
   clear H1
   have H':=zA H
   clear H
   go_wp2_with (first|((with_reducible refine gate_callee (f:=40) rfl ?_);refine goesL_ (some 9) rfl rfl Try.func40 (by kernel_rfl) rfl #[.int .i64 a0,.int .i64 1,.int .i64 3] rfl (by (try simp only [zJ,zM,zN]);first|done|rfl|(simp only [zL,zK];rfl)) ?_;(with_reducible refine (spec_l6In.calls a0 1 3 false _ A4.out).mono ?_);rintro e w' ⟨rfl,⟨nd,rfl⟩⟩;refine ⟨_,rfl,?_⟩))
   go_meet
   case rel=>exact ⟨_,(true),(by first|rfl|(simp;done)|(simp [*];done)),H',⟨by first|omega|exact Nat.le_refl _⟩,⟨by exact zB_ HB.out⟩⟩
 case rest =>
  clear HC3
  (try clear c2);(try clear p2);(try clear c4);(try clear c5)
  obtain ⟨kq,x14_2,rfl,HA,HJ2,HB⟩:=hcut
  cases kq with
  | zero=>exact absurd HA.out (by simp [spec_RootlessRoots.j0])
  | succ kj2 =>
   have H:=HA.out
   clear HA
   simp only [spec_RootlessRoots.j0] at H
   by_cases c6:x14_2 = true
   ·subst c6
    rw [if_pos rfl] at H;try dsimp only at H
    obtain rfl:=zS H
    go_wp2
    go_ret
    exact ⟨by first|rfl|(simp [errW_none,errW_some] <;> rfl)|(simp [*,errW_none,errW_some] <;> rfl),by exact zB_ HB.out⟩
   ·replace c6:=Bool.eq_false_iff.mpr c6
    subst c6
    have H1:((spec_l3Different.f kj2 a0 a1).bind fun t657=>(spec_RootlessRoots.l0 kj2 a0 0 t657 0)) = some r:=by rw [if_neg (show ¬ (false = true) by decide)] at H;exact H
    clear H
    have H:=H1
    clear H1
    replace H:=zz0 H
    obtain ⟨t657,A70,H⟩:=H
    try dsimp only at H
    have A7:=zA A70
    clear A70
    have H':=zA H
    clear H
    go_wp2_with (first|((with_reducible refine gate_callee (f:=41) rfl ?_);refine goesL_ (some 17) rfl rfl Try.func41 (by kernel_rfl) rfl #[.int .i64 a0,.int .i64 a1] rfl (by (try simp only [zJ,zM,zN]);first|done|rfl|(simp only [zL,zK];rfl)) ?_;(with_reducible refine (spec_l3Different.calls kj2 a0 a1 t657 _ A7.out).mono ?_);rintro e w8 ⟨v658,rfl,ho0,hb⟩;refine ⟨_,rfl,?_⟩;have n0_:=zA (Kd.V_lower (Kd.V_mono (ok':=fun k_=>True) ho0 (fun k_ hk_=>trivial)) (zQ (by exact zB_ HB.out)));have n1_:=zA (zR (by exact zB_ HB.out) hb);clear HB;have HO659:=n0_;have HB:=n1_;clear n0_ n1_;(try clear hb);(try clear hb2);(try clear hk);(try clear hi);(try clear ho0)))
    go_loopg [5,7] kj2 (fun kq v5 v7 w' => ∃ (x5_2:Int) (x7_2:Int),v5 = .int .i64 x5_2∧v7 = .int .i64 x7_2∧Aside0 (spec_RootlessRoots.l0 kq a0 x5_2 t657 x7_2 = some r)∧Aside0 (kq≤kj2)∧Aside0 (Kd.V k33 33 w' w.heap.size (fun _=>True) v658 t657)∧Aside0 (Below w.heap.size w w'))
    case atStart=>exact ⟨(0),(0),(by first|rfl|(simp;done)|(simp [*];done)),(by first|rfl|(simp;done)|(simp [*];done)),H',⟨Nat.le_refl _⟩,⟨by apply zV_;exact HO659.out⟩,⟨by exact zB_ HB.out⟩⟩
    case round =>
     clear H'
     (try clear c2);(try clear p2);(try clear c4);(try clear c5);(try clear c6);(try clear p2)
     obtain ⟨x5_2,x7_2,rfl,rfl,HA,HK2,HO_6,HB⟩:=hrel
     cases gk with
     | zero=>exact absurd HA.out (by simp [spec_RootlessRoots.l0])
     | succ k2 =>
      have H:=HA.out
      clear HA
      simp only [spec_RootlessRoots.l0] at H
      by_cases c9:x7_2 < (t657.length:Int)
      ·rw [if_pos c9] at H
       have c9b0:decide (x7_2 < (t657.length:Int)) = true:=zO c9
       clear c9
       by_cases c10:0≤x7_2
       ·rw [if_pos c10] at H
        have c10b0:decide (0≤x7_2) = true:=zO c10
        clear c10
        replace H:=zz0 H
        obtain ⟨t661,A110,H⟩:=H
        try dsimp only at H
        have A11:=zA A110
        clear A110
        by_cases c12:t661 = 0
        ·rw [if_pos c12] at H
         exact absurd H (by simp)
        ·rw [if_neg c12] at H
         have c12b0:(t661 == 0) = false:=beq_eq_false_iff_ne.mpr c12
         have c12b1:(t661 != 0) = true:=bne_iff_ne.mpr c12
         have H':=zA H
         clear H
         obtain ⟨Ao13,co13,eo13⟩:=Kd.V_slice HO_6.out
         subst eo13
         have p660:0≤(x7_2:Int):=zE (by with_reducible assumption)
         have q660:x7_2 < (t657.length:Int):=zE (by with_reducible assumption)
         obtain ⟨ad660,A660_0,c660_0,A660_1,c660_1,e660,hx660_0,hx660_1,hl660_0,hi660_0,hl660_1,hi660_1⟩:=at_T33 (zk HO_6.out).2.2 x7_2 p660 q660
         cases e660
         obtain ⟨ce660,hce660,hMe660,hcc660⟩:=Kd.V_get HO_6.out z33 x7_2 p660 (by first|exact q660|exact zE (by with_reducible assumption)|(have e_:=(zk HO_6.out).1;omega))
         obtain ⟨ua660_0,uc660_0,ua660_1,uc660_1,rfl,ul660_0,ge660_0,ul660_1,ge660_1⟩:=k33_openF hMe660
         have hv660_0:=hcc660 0 _ rfl
         rw [Nat.add_zero] at hv660_0
         replace hv660_0:=zS (hv660_0.symm.trans hx660_0)
         injection hv660_0 with hva_ hvn_ hvc_
         rw [hva_] at ge660_0
         rw [hvc_] at ul660_0
         have HL660_0:=zA (show Kd.V (Kd.int .i64) 3 _ w.heap.size _ _ ((rd_T33 t657 x7_2).f0) from Kd.V_mk ul660_0 ge660_0)
         clear hva_ hvn_ hvc_ ge660_0 ul660_0
         have hv660_1:=hcc660 1 _ rfl
         rw [add_field _ _ 1 (by omega)] at hv660_1
         replace hv660_1:=zS (hv660_1.symm.trans hx660_1)
         injection hv660_1 with hva_ hvn_ hvc_
         rw [hva_] at ge660_1
         rw [hvc_] at ul660_1
         have HL660_1:=zA (show Kd.V (Kd.int .i64) 3 _ w.heap.size _ _ ((rd_T33 t657 x7_2).f1) from Kd.V_mk ul660_1 ge660_1)
         clear hva_ hvn_ hvc_ ge660_1 ul660_1 hcc660 hce660
         have HR660_0:=zA hi660_0
         have HC660_0:=zA hl660_0
         clear hi660_0 hl660_0
         have HR660_1:=zA hi660_1
         have HC660_1:=zA hl660_1
         clear hi660_1 hl660_1
         replace p660:=eq_true p660
         replace q660:=eq_true q660
         go_wp2_with (first|((with_reducible refine gate_callee (f:=54) rfl ?_);refine goesL_ (some 31) rfl rfl Try.func54 (by kernel_rfl) rfl #[.agg #[.slice A660_0 ((rd_T33 t657 x7_2).f0).length c660_0,.slice A660_1 ((rd_T33 t657 x7_2).f1).length c660_1]] rfl (by (try simp only [zJ,zM,zN]);first|done|rfl|(simp only [zL,zK];rfl)) ?_;(with_reducible refine (spec_MapTurns.calls k2 _ _ ((rd_T33 t657 x7_2).f0) _ _ ((rd_T33 t657 x7_2).f1) t661 _ ?side1 ?side2 ?side3 ?side4 A11.out).mono ?_);(case side1=>repeat (first|exact (by repeat (first|(with_reducible exact HR660_0.out)|apply zC_|exact HR660_0.out))|apply zC_));(case side2=>exact HC660_0.out);(case side3=>repeat (first|exact (by repeat (first|(with_reducible exact HR660_1.out)|apply zC_|exact HR660_1.out))|apply zC_));(case side4=>exact HC660_1.out);rintro e w14 ⟨rfl,hb⟩;refine ⟨_,rfl,?_⟩;have n0_:=zA (Kd.V_below (by apply zV_;exact HO_6.out) hb);have n1_:=zA (Kd.V_below (by apply zV_;exact HL660_0.out) hb);have n2_:=zA (Kd.V_below (by apply zV_;exact HL660_1.out) hb);have n3_:=zA (zW (by repeat (first|(with_reducible exact HR660_0.out)|apply zC_|exact HR660_0.out)) hb);have n4_:=zA (zW (by repeat (first|(with_reducible exact HR660_1.out)|apply zC_|exact HR660_1.out)) hb);have n5_:=zA (zR (by exact zB_ HB.out) hb);clear HO_6;clear HL660_0;clear HL660_1;clear HR660_0;clear HR660_1;clear HB;have HO_6:=n0_;have HL660_0:=n1_;have HL660_1:=n2_;have HR660_0:=n3_;have HR660_1:=n4_;have HB:=n5_;clear n0_ n1_ n2_ n3_ n4_ n5_;(try clear hb);(try clear hb2);(try clear hk);(try clear hi)))
         go_roundg k2
         case measure=>have:=HJ2.out;have:=HK2.out;omega
         case rel=>exact ⟨(wrap64 (x5_2+(wrap64 (Int.tdiv (wrap64 (2 * a0)) t661)))),(wrap64 (x7_2+1)),(by first|rfl|(simp;done)|(simp [*];done)),(by first|rfl|(simp;done)|(simp [*];done)),H',⟨by have:=HJ2.out;have:=HK2.out;omega⟩,⟨by apply zV_;exact HO_6.out⟩,⟨by exact zB_ HB.out⟩⟩
       ·rw [if_neg c10] at H
        exact absurd H (by simp)
      ·rw [if_neg c9] at H
       have c9b0:decide (x7_2 < (t657.length:Int)) = false:=zP c9
       clear c9
       obtain rfl:=zS H
       obtain ⟨Ao15,co15,eo15⟩:=Kd.V_slice HO_6.out
       subst eo15
       go_wp2
       go_ret
       exact ⟨by first|rfl|(simp [errW_none,errW_some] <;> rfl)|(simp [*,errW_none,errW_some] <;> rfl),by exact zB_ HB.out⟩

/-! ### laws_FnRoots: function 5 -/
def laws_FnRoots.f (k:Nat) (l0:List Int):Option (Bool):=if (l0.length:Int) > 1048576 then (some true) else ((spec_DrawRootlessRoots.f k l0).bind fun bt662=>((impl_RootlessRoots.f k bt662.1 bt662.2).bind fun t664=>((spec_RootlessRoots.f k bt662.1 bt662.2).bind fun t665=>(if t664 = t665 then (if t664 < 0 then (some (t664 == t665)) else ((impl_RootedCount.f bt662.1 bt662.2).bind fun t666=>(some (t664 == t666)))) else (some (t664 == t665))))))
theorem laws_FnRoots.mono:∀ a0 k,LeO (laws_FnRoots.f k a0) (laws_FnRoots.f (k+1) a0):=by
 intro a0 k
 unfold laws_FnRoots.f
 repeat' first
   | (with_reducible exact impl_RootlessRoots.mono _ _ _)
   | (with_reducible exact spec_DrawRootlessRoots.mono _ _)
   | (with_reducible exact spec_RootlessRoots.mono _ _ _)
   | (with_reducible exact LeO.refl _)
   | (with_reducible exact za _)
   | (with_reducible refine zc ?_ ?_)
   | (with_reducible refine zb ?_ (fun _=>?_))
set_option maxHeartbeats 8000000 in
set_option maxRecDepth 100000 in
theorem laws_FnRoots.calls (k:Nat) (A0:Option Addr) (c0:Nat) (l0:List Int) (r:Bool) (w:World) (hr0:Kd.C (Kd.int .u8) w A0 l0.length l0) (hc0:l0.length≤c0) (h:laws_FnRoots.f k l0 = some r) :
  Calls Try.prog 5 #[.slice A0 l0.length c0] w fun e w'=>e = .returned (.bool r)∧Below w.heap.size w w':=by
 have HR0:=zA hr0
 have HC0:=zA hc0
 clear hr0 hc0
 have HB:=zA (Below.refl w.heap.size w)
 have H:(if (l0.length:Int) > 1048576 then (some true) else ((spec_DrawRootlessRoots.f k l0).bind fun bt662=>((impl_RootlessRoots.f k bt662.1 bt662.2).bind fun t664=>((spec_RootlessRoots.f k bt662.1 bt662.2).bind fun t665=>(if t664 = t665 then (if t664 < 0 then (some (t664 == t665)) else ((impl_RootedCount.f bt662.1 bt662.2).bind fun t666=>(some (t664 == t666)))) else (some (t664 == t665))))))) = some r:=h
 clear h
 by_cases c2:(l0.length:Int) > 1048576
 ·rw [if_pos c2] at H
  have c2b0:decide (1048576 < (l0.length:Int)) = true:=zO c2
  have c2b1:decide (1048576 < l0.length) = true:=zO (by omega)
  clear c2
  obtain rfl:=zS H
  go_enter Try.func5,Try.ntmps5
  go_wp2
  go_ret
  exact ⟨by first|rfl|(simp [errW_none,errW_some] <;> rfl)|(simp [*,errW_none,errW_some] <;> rfl),by exact zB_ HB.out⟩
 ·rw [if_neg c2] at H
  have c2b0:decide (1048576 < (l0.length:Int)) = false:=zP c2
  have c2b1:decide (1048576 < l0.length) = false:=zP (by omega)
  clear c2
  replace H:=zz0 H
  obtain ⟨⟨t662,t663⟩,A30,H⟩:=H
  try dsimp only at H
  have A3:=zA A30
  clear A30
  replace H:=zz0 H
  obtain ⟨t664,A40,H⟩:=H
  try dsimp only at H
  have A4:=zA A40
  clear A40
  replace H:=zz0 H
  obtain ⟨t665,A50,H⟩:=H
  try dsimp only at H
  have A5:=zA A50
  clear A50
  by_cases c6:t664 = t665
  ·rw [if_pos c6] at H
   have c6b0:(t664 == t665) = true:=beq_iff_eq.mpr c6
   have c6b1:(t664 != t665) = false:=bne_eq_false_iff_eq.mpr c6
   clear c6
   by_cases c7:t664 < 0
   ·rw [if_pos c7] at H
    have c7b0:decide (t664 < 0) = true:=zO c7
    clear c7
    obtain rfl:=zS H
    go_enter Try.func5,Try.ntmps5
    go_wp2_with (first|((with_reducible refine gate_callee (f:=25) rfl ?_);refine goesL_ (some 12) rfl rfl Try.func25 (by kernel_rfl) rfl #[.slice A0 l0.length c0] rfl (by (try simp only [zJ,zM,zN]);first|done|rfl|(simp only [zL,zK];rfl)) ?_;(with_reducible refine (spec_DrawRootlessRoots.calls k _ _ l0 t662 t663 _ ?side1 ?side2 A3.out).mono ?_);(case side1=>repeat (first|exact HR0.out|apply zC_));(case side2=>exact HC0.out);rintro e w8 ⟨rfl,hb⟩;refine ⟨_,rfl,?_⟩;have n0_:=zA (zR (by exact zB_ HB.out) hb);clear HB;have HB:=n0_;clear n0_;(try clear hb);(try clear hb2);(try clear hk);(try clear hi))|((with_reducible refine gate_callee (f:=26) rfl ?_);refine goesL_ (some 17) rfl rfl Try.func26 (by kernel_rfl) rfl #[.int .i64 t662,.int .i64 t663] rfl (by (try simp only [zJ,zM,zN]);first|done|rfl|(simp only [zL,zK];rfl)) ?_;(with_reducible refine (impl_RootlessRoots.calls k t662 t663 t664 _ A4.out).mono ?_);rintro e w9 ⟨rfl,hb⟩;refine ⟨_,rfl,?_⟩;have n0_:=zA (zR (by exact zB_ HB.out) hb);clear HB;have HB:=n0_;clear n0_;(try clear hb);(try clear hb2);(try clear hk);(try clear hi))|((with_reducible refine gate_callee (f:=27) rfl ?_);refine goesL_ (some 20) rfl rfl Try.func27 (by kernel_rfl) rfl #[.int .i64 t662,.int .i64 t663] rfl (by (try simp only [zJ,zM,zN]);first|done|rfl|(simp only [zL,zK];rfl)) ?_;(with_reducible refine (spec_RootlessRoots.calls k t662 t663 t665 _ A5.out).mono ?_);rintro e w10 ⟨rfl,hb⟩;refine ⟨_,rfl,?_⟩;have n0_:=zA (zR (by exact zB_ HB.out) hb);clear HB;have HB:=n0_;clear n0_;(try clear hb);(try clear hb2);(try clear hk);(try clear hi)))
    go_ret
    exact ⟨by first|rfl|(simp [errW_none,errW_some] <;> rfl)|(simp [*,errW_none,errW_some] <;> rfl),by exact zB_ HB.out⟩
   ·rw [if_neg c7] at H
    have c7b0:decide (t664 < 0) = false:=zP c7
    clear c7
    replace H:=zz0 H
    obtain ⟨t666,A110,H⟩:=H
    try dsimp only at H
    have A11:=zA A110
    clear A110
    obtain rfl:=zS H
    go_enter Try.func5,Try.ntmps5
    go_wp2_with (first|((with_reducible refine gate_callee (f:=25) rfl ?_);refine goesL_ (some 12) rfl rfl Try.func25 (by kernel_rfl) rfl #[.slice A0 l0.length c0] rfl (by (try simp only [zJ,zM,zN]);first|done|rfl|(simp only [zL,zK];rfl)) ?_;(with_reducible refine (spec_DrawRootlessRoots.calls k _ _ l0 t662 t663 _ ?side1 ?side2 A3.out).mono ?_);(case side1=>repeat (first|exact HR0.out|apply zC_));(case side2=>exact HC0.out);rintro e w12 ⟨rfl,hb⟩;refine ⟨_,rfl,?_⟩;have n0_:=zA (zR (by exact zB_ HB.out) hb);clear HB;have HB:=n0_;clear n0_;(try clear hb);(try clear hb2);(try clear hk);(try clear hi))|((with_reducible refine gate_callee (f:=26) rfl ?_);refine goesL_ (some 17) rfl rfl Try.func26 (by kernel_rfl) rfl #[.int .i64 t662,.int .i64 t663] rfl (by (try simp only [zJ,zM,zN]);first|done|rfl|(simp only [zL,zK];rfl)) ?_;(with_reducible refine (impl_RootlessRoots.calls k t662 t663 t664 _ A4.out).mono ?_);rintro e w13 ⟨rfl,hb⟩;refine ⟨_,rfl,?_⟩;have n0_:=zA (zR (by exact zB_ HB.out) hb);clear HB;have HB:=n0_;clear n0_;(try clear hb);(try clear hb2);(try clear hk);(try clear hi))|((with_reducible refine gate_callee (f:=27) rfl ?_);refine goesL_ (some 20) rfl rfl Try.func27 (by kernel_rfl) rfl #[.int .i64 t662,.int .i64 t663] rfl (by (try simp only [zJ,zM,zN]);first|done|rfl|(simp only [zL,zK];rfl)) ?_;(with_reducible refine (spec_RootlessRoots.calls k t662 t663 t665 _ A5.out).mono ?_);rintro e w14 ⟨rfl,hb⟩;refine ⟨_,rfl,?_⟩;have n0_:=zA (zR (by exact zB_ HB.out) hb);clear HB;have HB:=n0_;clear n0_;(try clear hb);(try clear hb2);(try clear hk);(try clear hi))|((with_reducible refine gate_callee (f:=16) rfl ?_);refine goesL_ (some 34) rfl rfl Try.func16 (by kernel_rfl) rfl #[.int .i64 t662,.int .i64 t663] rfl (by (try simp only [zJ,zM,zN]);first|done|rfl|(simp only [zL,zK];rfl)) ?_;(with_reducible refine (impl_RootedCount.calls t662 t663 t666 _ A11.out).mono ?_);rintro e w15 ⟨rfl,hb⟩;refine ⟨_,rfl,?_⟩;have n0_:=zA (zR (by exact zB_ HB.out) hb);clear HB;have HB:=n0_;clear n0_;(try clear hb);(try clear hb2);(try clear hk);(try clear hi)))
    go_ret
    exact ⟨by first|rfl|(simp [errW_none,errW_some] <;> rfl)|(simp [*,errW_none,errW_some] <;> rfl),by exact zB_ HB.out⟩
  ·rw [if_neg c6] at H
   have c6b0:(t664 == t665) = false:=beq_eq_false_iff_ne.mpr c6
   have c6b1:(t664 != t665) = true:=bne_iff_ne.mpr c6
   obtain rfl:=zS H
   go_enter Try.func5,Try.ntmps5
   go_wp2_with (first|((with_reducible refine gate_callee (f:=25) rfl ?_);refine goesL_ (some 12) rfl rfl Try.func25 (by kernel_rfl) rfl #[.slice A0 l0.length c0] rfl (by (try simp only [zJ,zM,zN]);first|done|rfl|(simp only [zL,zK];rfl)) ?_;(with_reducible refine (spec_DrawRootlessRoots.calls k _ _ l0 t662 t663 _ ?side1 ?side2 A3.out).mono ?_);(case side1=>repeat (first|exact HR0.out|apply zC_));(case side2=>exact HC0.out);rintro e w16 ⟨rfl,hb⟩;refine ⟨_,rfl,?_⟩;have n0_:=zA (zR (by exact zB_ HB.out) hb);clear HB;have HB:=n0_;clear n0_;(try clear hb);(try clear hb2);(try clear hk);(try clear hi))|((with_reducible refine gate_callee (f:=26) rfl ?_);refine goesL_ (some 17) rfl rfl Try.func26 (by kernel_rfl) rfl #[.int .i64 t662,.int .i64 t663] rfl (by (try simp only [zJ,zM,zN]);first|done|rfl|(simp only [zL,zK];rfl)) ?_;(with_reducible refine (impl_RootlessRoots.calls k t662 t663 t664 _ A4.out).mono ?_);rintro e w17 ⟨rfl,hb⟩;refine ⟨_,rfl,?_⟩;have n0_:=zA (zR (by exact zB_ HB.out) hb);clear HB;have HB:=n0_;clear n0_;(try clear hb);(try clear hb2);(try clear hk);(try clear hi))|((with_reducible refine gate_callee (f:=27) rfl ?_);refine goesL_ (some 20) rfl rfl Try.func27 (by kernel_rfl) rfl #[.int .i64 t662,.int .i64 t663] rfl (by (try simp only [zJ,zM,zN]);first|done|rfl|(simp only [zL,zK];rfl)) ?_;(with_reducible refine (spec_RootlessRoots.calls k t662 t663 t665 _ A5.out).mono ?_);rintro e w18 ⟨rfl,hb⟩;refine ⟨_,rfl,?_⟩;have n0_:=zA (zR (by exact zB_ HB.out) hb);clear HB;have HB:=n0_;clear n0_;(try clear hb);(try clear hb2);(try clear hk);(try clear hi)))
   go_ret
   exact ⟨by first|rfl|(simp [errW_none,errW_some] <;> rfl)|(simp [*,errW_none,errW_some] <;> rfl),by exact zB_ HB.out⟩

/-- THE ONE PURE STATEMENT of laws_FnRoots: yours. -/
def laws_FnRoots.Pure:Prop := ∀ (l0:List Int),l0.length≤maxLen→l0.length * 1≤140737488351232→(∀ x ∈ l0,(Lit.int .u8 x).wf = true) → ∃ k,laws_FnRoots.f k l0 = some true
theorem laws_FnRoots.walk (P:laws_FnRoots.Pure) (a0:Option Addr) (len0 cap0:Nat) (z0:List Int) (w:World) (w0:(a0 = none∧len0 = 0∧cap0 = 0∧z0 = []) ∨ ∃ x,a0 = some x∧len0≤cap0∧cap0≤maxLen∧z0.length = cap0∧(∀ i,i < z0.length→w.cell? (x.add i) = some (.int .u8 (z0.getD i 0))) ∧ ∀ n ∈ z0,(Lit.int .u8 n).wf = true) (y0:len0 * 1≤140737488351232) :
  Calls Try.prog 5 #[.slice a0 len0 cap0] w fun e w'=>e = .returned (.bool true)∧Below w.heap.size w w':=by
 obtain ⟨l0,rfl,hr0,hm0,hw0,hc0⟩:=ReadsInt.ofRowC w0
 obtain ⟨k,h⟩:=P l0 hm0 y0 hw0
 refine (laws_FnRoots.calls k _ _ l0 true w (Kd.C_of_reads (d:=(0:Int)) (h1:=fun _=>rfl) hr0) hc0 h).mono ?_
 rintro e w' ⟨rfl,hd⟩
 exact ⟨rfl,hd⟩

end Go.Proofs.Ytdaiohcgdpclnaa.Q
