import Derived.Test.YtdaiohcgdpclnaaQ0
import Derived.Test.YtdaiohcgdpclnaaQ10
import Derived.Test.YtdaiohcgdpclnaaZ
namespace Go.Proofs.Ytdaiohcgdpclnaa.Q
open Go.RowKit Go.Proofs.YtdaiohcgdpclnaaW.PrintWords Go.Proofs.YtdaiohcgdpclnaaW.PrintLast Go.Proofs.YtdaiohcgdpclnaaW.PrintMore
attribute [local go_sem] max2_int min2_int max_two min_two max_three min_three max_four min_four   -- for this text's walks alone
set_option linter.unusedVariables false
set_option linter.unusedSimpArgs false

/-! ### spec_l1Orbits: function 95 -/
mutual
def spec_l1Orbits.l0:Nat→List Int→List Int→List Int→Int→Option (List Int)
 | 0,_,_,_,_=>none
 | k+1,x0,x1,x5,x6=>if x6 < (x0.length:Int) then (spec_l1Orbits.l1 k x0 x1 x5 x6 0) else (some x5)
def spec_l1Orbits.l1:Nat→List Int→List Int→List Int→Int→Int→Option (List Int)
 | 0,_,_,_,_,_=>none
 | k+1,x0,x1,x5,x6,x7=>if x7 < (x0.length:Int) then (if 0≤x7 then (if x7 < (x5.length:Int) then (if 0≤(rd x0 x7) then (if (rd x0 x7) < (x5.length:Int) then (if x7 < (x1.length:Int) then (if 0≤(rd x1 x7) then (if (rd x1 x7) < (x5.length:Int) then (spec_l1Orbits.l1 k x0 x1 (((x5.set (x7:Int).toNat (mn (rd x5 x7) (mn (rd x5 (rd x0 x7)) (rd x5 (rd x1 x7))))).set ((rd x0 x7):Int).toNat (mn (rd x5 x7) (mn (rd x5 (rd x0 x7)) (rd x5 (rd x1 x7))))).set ((rd x1 x7):Int).toNat (mn (rd x5 x7) (mn (rd x5 (rd x0 x7)) (rd x5 (rd x1 x7))))) x6 (wrap64 (x7+1))) else (none)) else (none)) else (none)) else (none)) else (none)) else (none)) else (none)) else (spec_l1Orbits.l0 k x0 x1 x5 (wrap64 (x6+1)))
end
def spec_l1Orbits.f (k:Nat) (l0:List Int) (l1:List Int):Option (List Int):=(spec_l1Same.f k (l0.length:Int)).bind fun t412=>(spec_l1Orbits.l0 k l0 l1 t412 0)
theorem spec_l1Orbits.mono_l:∀ k,(∀ y0 y1 y2 y3,LeO (spec_l1Orbits.l0 k y0 y1 y2 y3) (spec_l1Orbits.l0 (k+1) y0 y1 y2 y3))∧(∀ y0 y1 y2 y3 y4,LeO (spec_l1Orbits.l1 k y0 y1 y2 y3 y4) (spec_l1Orbits.l1 (k+1) y0 y1 y2 y3 y4))
 | 0=>⟨fun _ _ _ _ r h=>by simp [spec_l1Orbits.l0] at h,fun _ _ _ _ _ r h=>by simp [spec_l1Orbits.l1] at h⟩
 | k+1=>by
  obtain ⟨ih0,ih1⟩:=spec_l1Orbits.mono_l k
  refine ⟨?_,?_⟩
  ·intro y0 y1 y2 y3
   unfold spec_l1Orbits.l0
   repeat' first
   | (with_reducible exact ih0 _ _ _ _)
   | (with_reducible exact ih1 _ _ _ _ _)
   | (with_reducible exact spec_l1Same.mono _ _)
   | (with_reducible exact LeO.refl _)
   | (with_reducible exact za _)
   | (with_reducible refine zc ?_ ?_)
   | (with_reducible refine zb ?_ (fun _=>?_))
  ·intro y0 y1 y2 y3 y4
   unfold spec_l1Orbits.l1
   repeat' first
   | (with_reducible exact ih0 _ _ _ _)
   | (with_reducible exact ih1 _ _ _ _ _)
   | (with_reducible exact spec_l1Same.mono _ _)
   | (with_reducible exact LeO.refl _)
   | (with_reducible exact za _)
   | (with_reducible refine zc ?_ ?_)
   | (with_reducible refine zb ?_ (fun _=>?_))
theorem spec_l1Orbits.mono:∀ a0 a1 k,LeO (spec_l1Orbits.f k a0 a1) (spec_l1Orbits.f (k+1) a0 a1):=by
 intro a0 a1 k
 obtain ⟨ih0,ih1⟩:=spec_l1Orbits.mono_l k
 unfold spec_l1Orbits.f
 repeat' first
   | (with_reducible exact ih0 _ _ _ _)
   | (with_reducible exact ih1 _ _ _ _ _)
   | (with_reducible exact spec_l1Same.mono _ _)
   | (with_reducible exact LeO.refl _)
   | (with_reducible exact za _)
   | (with_reducible refine zc ?_ ?_)
   | (with_reducible refine zb ?_ (fun _=>?_))
set_option maxHeartbeats 8000000 in
set_option maxRecDepth 100000 in
theorem spec_l1Orbits.calls (k:Nat) (A0:Option Addr) (c0:Nat) (l0:List Int) (A1:Option Addr) (c1:Nat) (l1:List Int) (r:List Int) (w:World) (hr0:Kd.C (Kd.int .i64) w A0 l0.length l0) (hc0:l0.length≤c0) (hr1:Kd.C (Kd.int .i64) w A1 l1.length l1) (hc1:l1.length≤c1) (h:spec_l1Orbits.f k l0 l1 = some r) :
  Calls Try.prog 95 #[.slice A0 l0.length c0,.slice A1 l1.length c1] w fun e w' => ∃ v0_:Value,e = .returned (v0_)∧Kd.R (Kd.int .i64) 3 w' w.heap.size (fun _=>True) v0_ r∧Below w.heap.size w w':=by
 have HR0:=zA hr0
 have HC0:=zA hc0
 clear hr0 hc0
 have HR1:=zA hr1
 have HC1:=zA hc1
 clear hr1 hc1
 have HB:=zA (Below.refl w.heap.size w)
 have H:((spec_l1Same.f k (l0.length:Int)).bind fun t412=>(spec_l1Orbits.l0 k l0 l1 t412 0)) = some r:=h
 clear h
 replace H:=zz0 H
 obtain ⟨t412,A30,H⟩:=H
 try dsimp only at H
 have A3:=zA A30
 clear A30
 have H':=zA H
 clear H
 go_enter Try.func95,Try.ntmps95
 go_wp2_with (first|(go_at_call 74;(with_reducible refine (spec_l1Same.calls k (l0.length:Int) t412 _ A3.out).mono ?_);rintro e w4 ⟨v413,rfl,ho0,hb⟩;have n0_:=zA (ze ho0 (zQ (by exact zB_ HB.out)));have n1_:=zA (zR (by exact zB_ HB.out) hb);clear HB;have HO414:=n0_;have HB:=n1_;clear n0_ n1_;(try clear hb);(try clear hb2);(try clear hk);(try clear hi);(try clear ho0)))
 repeat (go_quiet (fail);try go_wp2_with (first|(go_at_call 74;(with_reducible refine (spec_l1Same.calls k (l0.length:Int) t412 _ A3.out).mono ?_);rintro e w4 ⟨v413,rfl,ho0,hb⟩;have n0_:=zA (ze ho0 (zQ (by exact zB_ HB.out)));have n1_:=zA (zR (by exact zB_ HB.out) hb);clear HB;have HO414:=n0_;have HB:=n1_;clear n0_ n1_;(try clear hb);(try clear hb2);(try clear hk);(try clear hi);(try clear ho0))))
 go_loopg [6] k (fun kq v6 w' => ∃ (x5_1:List Int) (x6_1:Int),v6 = .int .i64 x6_1∧Aside0 (spec_l1Orbits.l0 kq l0 l1 x5_1 x6_1 = some r)∧Aside0 (kq≤k)∧Aside0 (Kd.R (Kd.int .i64) 3 w' w.heap.size (fun _=>True) v413 x5_1)∧Aside0 (Below w.heap.size w w'))
 case atStart=>exact ⟨(t412),(0),(by first|rfl|(simp;done)|(simp [*];done)),H',⟨Nat.le_refl _⟩,⟨by apply zR_;exact HO414.out⟩,⟨by exact zB_ HB.out⟩⟩
 case round =>
  clear H'
  (try clear c1);(try clear p2)
  obtain ⟨x5_1,x6_1,rfl,HA,HK1,HO_5,HB⟩:=hrel
  cases gk with
  | zero=>exact absurd HA.out (by simp [spec_l1Orbits.l0])
  | succ k1 =>
   have H:=HA.out
   clear HA
   simp only [spec_l1Orbits.l0] at H
   by_cases c5:x6_1 < (l0.length:Int)
   ·rw [if_pos c5] at H
    have c5b0:decide (x6_1 < (l0.length:Int)) = true:=zO c5
    clear c5
    have H':=zA H
    clear H
    go_wp2
    repeat (go_quiet (fail);try go_wp2)
    go_loopg [7] k1 (fun kq v7 w' => ∃ (x5_2:List Int) (x7_2:Int),v7 = .int .i64 x7_2∧Aside0 (spec_l1Orbits.l1 kq l0 l1 x5_2 x6_1 x7_2 = some r)∧Aside0 (kq≤k1)∧Aside0 (Kd.R (Kd.int .i64) 3 w' w.heap.size (fun _=>True) v413 x5_2)∧Aside0 (Below w.heap.size w w'))
    case atStart=>exact ⟨(x5_1),(0),(by first|rfl|(simp;done)|(simp [*];done)),H',⟨Nat.le_refl _⟩,⟨by apply zR_;exact HO_5.out⟩,⟨by exact zB_ HB.out⟩⟩
    case round =>
     clear H'
     (try clear c1);(try clear p2);(try clear c5);(try clear c5b0);(try clear p2)
     obtain ⟨x5_2,x7_2,rfl,HA,HK2,HO_5,HB⟩:=hrel
     cases gk with
     | zero=>exact absurd HA.out (by simp [spec_l1Orbits.l1])
     | succ k2 =>
      have H:=HA.out
      clear HA
      simp only [spec_l1Orbits.l1] at H
      by_cases c6:x7_2 < (l0.length:Int)
      ·rw [if_pos c6] at H
       have c6b0:decide (x7_2 < (l0.length:Int)) = true:=zO c6
       clear c6
       by_cases c7:0≤x7_2
       ·rw [if_pos c7] at H
        have c7b0:decide (0≤x7_2) = true:=zO c7
        clear c7
        by_cases c8:x7_2 < (x5_2.length:Int)
        ·rw [if_pos c8] at H
         have c8b0:decide (x7_2 < (x5_2.length:Int)) = true:=zO c8
         clear c8
         by_cases c9:0≤(rd l0 x7_2)
         ·rw [if_pos c9] at H
          have c9b0:decide (0≤(rd l0 x7_2)) = true:=zO c9
          clear c9
          by_cases c10:(rd l0 x7_2) < (x5_2.length:Int)
          ·rw [if_pos c10] at H
           have c10b0:decide ((rd l0 x7_2) < (x5_2.length:Int)) = true:=zO c10
           clear c10
           by_cases c11:x7_2 < (l1.length:Int)
           ·rw [if_pos c11] at H
            have c11b0:decide (x7_2 < (l1.length:Int)) = true:=zO c11
            clear c11
            by_cases c12:0≤(rd l1 x7_2)
            ·rw [if_pos c12] at H
             have c12b0:decide (0≤(rd l1 x7_2)) = true:=zO c12
             clear c12
             by_cases c13:(rd l1 x7_2) < (x5_2.length:Int)
             ·rw [if_pos c13] at H
              have c13b0:decide ((rd l1 x7_2) < (x5_2.length:Int)) = true:=zO c13
              clear c13
              obtain ⟨ji14,hji14⟩:∃ j_:Int,(mn (rd x5_2 (rd l0 x7_2)) (rd x5_2 (rd l1 x7_2))) = j_:=⟨_,rfl⟩
              replace H:(spec_l1Orbits.l1 k2 l0 l1 (((x5_2.set (x7_2:Int).toNat (mn (rd x5_2 x7_2) (ji14))).set ((rd l0 x7_2):Int).toNat (mn (rd x5_2 x7_2) (ji14))).set ((rd l1 x7_2):Int).toNat (mn (rd x5_2 x7_2) (ji14))) x6_1 (wrap64 (x7_2+1))) = some r:=by first|(rw [hji14] at H;exact H)|(simp only [hji14] at H ⊢;exact H)
              have hji14_:(if (rd x5_2 (rd l1 x7_2)) < (rd x5_2 (rd l0 x7_2)) then (rd x5_2 (rd l1 x7_2)) else (rd x5_2 (rd l0 x7_2))) = ji14:=hji14
              obtain ⟨ji15,hji15⟩:∃ j_:Int,(mn (rd x5_2 x7_2) (ji14)) = j_:=⟨_,rfl⟩
              replace H:(spec_l1Orbits.l1 k2 l0 l1 (((x5_2.set (x7_2:Int).toNat (ji15)).set ((rd l0 x7_2):Int).toNat (ji15)).set ((rd l1 x7_2):Int).toNat (ji15)) x6_1 (wrap64 (x7_2+1))) = some r:=by first|(rw [hji15] at H;exact H)|(simp only [hji15] at H ⊢;exact H)
              have hji15_:(if (ji14) < (rd x5_2 x7_2) then (ji14) else (rd x5_2 x7_2)) = ji15:=hji15
              obtain ⟨y420,hy420⟩:∃ y_:List Int,y_ = (x5_2.set (x7_2:Int).toNat (ji15)):=⟨_,rfl⟩
              replace H:(spec_l1Orbits.l1 k2 l0 l1 ((y420.set ((rd l0 x7_2):Int).toNat (ji15)).set ((rd l1 x7_2):Int).toNat (ji15)) x6_1 (wrap64 (x7_2+1))) = some r:=by (try rw [hy420]);first|with_reducible exact H|with_reducible exact zS_ H|exact H
              have Ny420:=zA hy420
              clear hy420
              obtain ⟨y422,hy422⟩:∃ y_:List Int,y_ = (y420.set ((rd l0 x7_2):Int).toNat (ji15)):=⟨_,rfl⟩
              replace H:(spec_l1Orbits.l1 k2 l0 l1 (y422.set ((rd l1 x7_2):Int).toNat (ji15)) x6_1 (wrap64 (x7_2+1))) = some r:=by (try rw [hy422]);first|with_reducible exact H|with_reducible exact zS_ H|exact H
              have Ny422:=zA hy422
              clear hy422
              obtain ⟨y424,hy424⟩:∃ y_:List Int,y_ = (y422.set ((rd l1 x7_2):Int).toNat (ji15)):=⟨_,rfl⟩
              replace H:(spec_l1Orbits.l1 k2 l0 l1 y424 x6_1 (wrap64 (x7_2+1))) = some r:=by (try rw [hy424]);first|with_reducible exact H|with_reducible exact zS_ H|exact H
              have Ny424:=zA hy424
              clear hy424
              have H':=zA H
              clear H
              obtain ⟨Ao19,co19,eo19⟩:=zg HO_5.out
              subst eo19
              have p415:0≤(x7_2:Int):=zE (by with_reducible assumption)
              have q415:x7_2 < (x5_2.length:Int):=zE (by with_reducible assumption)
              obtain ⟨ad415,e415,hx415_0⟩:=Kd.at_int (zU HO_5.out).2.2 x7_2 p415 q415
              cases e415
              replace p415:=eq_true p415
              replace q415:=eq_true q415
              have p416:0≤(x7_2:Int):=zE (by with_reducible assumption)
              have q416:x7_2 < (l0.length:Int):=zE (by with_reducible assumption)
              obtain ⟨ad416,e416,hx416_0⟩:=Kd.at_int HR0.out x7_2 p416 q416
              cases e416
              replace hx416_0:=(HB.out.cell (zY w _ hx416_0)).trans hx416_0
              replace p416:=eq_true p416
              replace q416:=eq_true q416
              have p417:0≤((rd l0 x7_2):Int):=zE (by with_reducible assumption)
              have q417:(rd l0 x7_2) < (x5_2.length:Int):=zE (by with_reducible assumption)
              obtain ⟨ad417,e417,hx417_0⟩:=Kd.at_int (zU HO_5.out).2.2 (rd l0 x7_2) p417 q417
              obtain rfl:ad415 = ad417:=(by injection e417)
              replace p417:=eq_true p417
              replace q417:=eq_true q417
              have p418:0≤(x7_2:Int):=zE (by with_reducible assumption)
              have q418:x7_2 < (l1.length:Int):=zE (by with_reducible assumption)
              obtain ⟨ad418,e418,hx418_0⟩:=Kd.at_int HR1.out x7_2 p418 q418
              cases e418
              replace hx418_0:=(HB.out.cell (zY w _ hx418_0)).trans hx418_0
              replace p418:=eq_true p418
              replace q418:=eq_true q418
              have p419:0≤((rd l1 x7_2):Int):=zE (by with_reducible assumption)
              have q419:(rd l1 x7_2) < (x5_2.length:Int):=zE (by with_reducible assumption)
              obtain ⟨ad419,e419,hx419_0⟩:=Kd.at_int (zU HO_5.out).2.2 (rd l1 x7_2) p419 q419
              obtain rfl:ad415 = ad419:=(by injection e419)
              replace p419:=eq_true p419
              replace q419:=eq_true q419
              have p16:0≤(x7_2:Int):=zE (by with_reducible assumption)
              have q16:(x7_2:Int) < ((x5_2.length:Int):Int):=zE (by with_reducible assumption)
              obtain ⟨go16,co16,eo16,gb16,gl16,cl16,HG16⟩:=Kd.R_form HO_5.out (by omega)
              (first|cases eo16|(injection eo16 with ea_ en_ ec_;(first|subst ea_|(injection ea_ with ea_;subst ea_));subst ec_;clear en_))
              have GB16:=zA gb16
              have GG16:=zA HG16
              clear gb16 gl16 HG16
              (first|simp only [add_plain] at hx415_0|skip)
              (first|simp only [add_plain] at hx417_0|skip)
              (first|simp only [add_plain] at hx419_0|skip)
              obtain ⟨hx16_0,hf16_0⟩:=Kd.R_celln 0 HO_5.out (x7_2:Int) p16 q16
              replace p16:=eq_true p16
              replace q16:=eq_true q16
              have HP20:=Kd.R_putg HO_5.out (x7_2:Int) ji15
              go_wp2_with (first|((with_reducible refine gate_store (t:=3) (p:=47) rfl ?_);(try ((first|(generalize hq_:World.drewN wr _ = wr)|(rw [drewN_self wr];generalize hq_:World.drewN wr _ = wr));have n0_:=zA (Kd.R_at hq_ HO_5.out);have n1_:=zA (below_at hq_ HB.out);clear hq_ HO_5 HB;have HO_5:=n0_;have HB:=n1_;clear n0_ n1_;(try (have HP20:=Kd.R_putg HO_5.out (x7_2:Int) ji15));(try (obtain ⟨hx19b_,hf19b_⟩:=Kd.R_celln 0 HO_5.out (x7_2:Int) (of_eq_true (by assumption)) (of_eq_true (by assumption))))));refine store_event (t:=3) (p:=47) (v:=?vo_w21) (w1:=(wr.setCell ⟨go16,(x7_2:Int).toNat,none⟩ (.int .i64 ji15))) ?hg ?ho ?hn ?hr ?_;(case ho=>rfl);(case hg=>rfl);(case hn=>rfl);(case hr=>first|(go_simp;done)|(go_simp;rfl));intro w21 hw;have hg:wr.grownBy w21 (some go16):=(by rw [hw];exact HP20.2);have hp_:Kd.R (Kd.int .i64) 3 w21 w.heap.size (fun _=>True) (.slice (some ⟨go16,0,none⟩) x5_2.length co19) y420:=(by rw [hw,Ny420.out];exact HP20.1);clear HP20;have n0_:=zA (hp_);have n1_:=zA ((by rw [hw];exact zF (HB.out) GB16.out:Below w.heap.size w w21));clear HO_5;clear HB;have HO_5:=n0_;have HB:=n1_;clear n0_ n1_;clear hg hw hp_;have p421:0≤(x7_2:Int):=zE (by with_reducible assumption);have q421:x7_2 < (l0.length:Int):=zE (by with_reducible assumption);obtain ⟨ad421,e421,hx421_0⟩:=Kd.at_int HR0.out x7_2 p421 q421;obtain rfl:ad416 = ad421:=(by injection e421);replace hx421_0:=(HB.out.cell (zY w _ hx421_0)).trans hx421_0;replace p421:=eq_true p421;replace q421:=eq_true q421;have p17:0≤((rd l0 x7_2):Int):=zE (by with_reducible assumption);have q17:((rd l0 x7_2):Int) < ((x5_2.length:Int):Int):=zE (by with_reducible assumption);obtain ⟨hx17_0,hf17_0⟩:=Kd.R_celln 0 HO_5.out ((rd l0 x7_2):Int) p17 q17;replace p17:=eq_true p17;replace q17:=eq_true q17;obtain ⟨hy22_,hz22_⟩:=Kd.R_celln 0 HO_5.out ((rd l0 x7_2):Int) (zE (by with_reducible assumption)) (zE (by with_reducible assumption));have HP22:=Kd.R_putg HO_5.out ((rd l0 x7_2):Int) ji15)|((with_reducible refine gate_store (t:=3) (p:=54) rfl ?_);(try (rw [drewN_self w21];generalize hq_:World.drewN w21 _ = w21;have n0_:=zA (Kd.R_at hq_ HO_5.out);have n1_:=zA (below_at hq_ HB.out);clear hq_ HO_5 HB;have HO_5:=n0_;have HB:=n1_;clear n0_ n1_;(try (obtain ⟨hy22_,hz22_⟩:=Kd.R_celln 0 HO_5.out ((rd l0 x7_2):Int) (zE (by with_reducible assumption)) (zE (by with_reducible assumption))));(try (have HP22:=Kd.R_putg HO_5.out ((rd l0 x7_2):Int) ji15))));refine store_event (t:=3) (p:=54) (v:=?vo_w23) (w1:=(w21.setCell ⟨go16,((rd l0 x7_2):Int).toNat,none⟩ (.int .i64 ji15))) ?hg ?ho ?hn ?hr ?_;(case ho=>rfl);(case hg=>rfl);(case hn=>rfl);(case hr=>first|(go_simp;done)|(go_simp;rfl));intro w23 hw;have hg:w21.grownBy w23 (some go16):=(by rw [hw];exact HP22.2);have hp_:Kd.R (Kd.int .i64) 3 w23 w.heap.size (fun _=>True) (.slice (some ⟨go16,0,none⟩) x5_2.length co19) y422:=(by rw [hw,Ny422.out];exact HP22.1);clear HP22;have n0_:=zA (hp_);have n1_:=zA ((by rw [hw];exact zF (HB.out) GB16.out:Below w.heap.size w w23));clear HO_5;clear HB;have HO_5:=n0_;have HB:=n1_;clear n0_ n1_;clear hg hw hp_;have p423:0≤(x7_2:Int):=zE (by with_reducible assumption);have q423:x7_2 < (l1.length:Int):=zE (by with_reducible assumption);obtain ⟨ad423,e423,hx423_0⟩:=Kd.at_int HR1.out x7_2 p423 q423;obtain rfl:ad418 = ad423:=(by injection e423);replace hx423_0:=(HB.out.cell (zY w _ hx423_0)).trans hx423_0;replace p423:=eq_true p423;replace q423:=eq_true q423;have p18:0≤((rd l1 x7_2):Int):=zE (by with_reducible assumption);have q18:((rd l1 x7_2):Int) < ((x5_2.length:Int):Int):=zE (by with_reducible assumption);obtain ⟨hx18_0,hf18_0⟩:=Kd.R_celln 0 HO_5.out ((rd l1 x7_2):Int) p18 q18;replace p18:=eq_true p18;replace q18:=eq_true q18;obtain ⟨hy24_,hz24_⟩:=Kd.R_celln 0 HO_5.out ((rd l1 x7_2):Int) (zE (by with_reducible assumption)) (zE (by with_reducible assumption));have HP24:=Kd.R_putg HO_5.out ((rd l1 x7_2):Int) ji15)|((with_reducible refine gate_store (t:=3) (p:=61) rfl ?_);(try (rw [drewN_self w23];generalize hq_:World.drewN w23 _ = w23;have n0_:=zA (Kd.R_at hq_ HO_5.out);have n1_:=zA (below_at hq_ HB.out);clear hq_ HO_5 HB;have HO_5:=n0_;have HB:=n1_;clear n0_ n1_;(try (obtain ⟨hy24_,hz24_⟩:=Kd.R_celln 0 HO_5.out ((rd l1 x7_2):Int) (zE (by with_reducible assumption)) (zE (by with_reducible assumption))));(try (have HP24:=Kd.R_putg HO_5.out ((rd l1 x7_2):Int) ji15))));refine store_event (t:=3) (p:=61) (v:=?vo_w25) (w1:=(w23.setCell ⟨go16,((rd l1 x7_2):Int).toNat,none⟩ (.int .i64 ji15))) ?hg ?ho ?hn ?hr ?_;(case ho=>rfl);(case hg=>rfl);(case hn=>rfl);(case hr=>first|(go_simp;done)|(go_simp;rfl));intro w25 hw;have hg:w23.grownBy w25 (some go16):=(by rw [hw];exact HP24.2);have hp_:Kd.R (Kd.int .i64) 3 w25 w.heap.size (fun _=>True) (.slice (some ⟨go16,0,none⟩) x5_2.length co19) y424:=(by rw [hw,Ny424.out];exact HP24.1);clear HP24;have n0_:=zA (hp_);have n1_:=zA ((by rw [hw];exact zF (HB.out) GB16.out:Below w.heap.size w w25));clear HO_5;clear HB;have HO_5:=n0_;have HB:=n1_;clear n0_ n1_;clear hg hw hp_))
              repeat (go_quiet (first|((with_reducible refine gate_store (t:=3) (p:=47) rfl ?_);(try ((first|(generalize hq_:World.drewN wr _ = wr)|(rw [drewN_self wr];generalize hq_:World.drewN wr _ = wr));have n0_:=zA (Kd.R_at hq_ HO_5.out);have n1_:=zA (below_at hq_ HB.out);clear hq_ HO_5 HB;have HO_5:=n0_;have HB:=n1_;clear n0_ n1_;(try (have HP20:=Kd.R_putg HO_5.out (x7_2:Int) ji15));(try (obtain ⟨hx19b_,hf19b_⟩:=Kd.R_celln 0 HO_5.out (x7_2:Int) (of_eq_true (by assumption)) (of_eq_true (by assumption))))));refine store_event (t:=3) (p:=47) (v:=?vo_w21) (w1:=(wr.setCell ⟨go16,(x7_2:Int).toNat,none⟩ (.int .i64 ji15))) ?hg ?ho ?hn ?hr ?_;(case ho=>rfl);(case hg=>rfl);(case hn=>rfl);(case hr=>first|(go_simp;done)|(go_simp;rfl));intro w21 hw;have hg:wr.grownBy w21 (some go16):=(by rw [hw];exact HP20.2);have hp_:Kd.R (Kd.int .i64) 3 w21 w.heap.size (fun _=>True) (.slice (some ⟨go16,0,none⟩) x5_2.length co19) y420:=(by rw [hw,Ny420.out];exact HP20.1);clear HP20;have n0_:=zA (hp_);have n1_:=zA ((by rw [hw];exact zF (HB.out) GB16.out:Below w.heap.size w w21));clear HO_5;clear HB;have HO_5:=n0_;have HB:=n1_;clear n0_ n1_;clear hg hw hp_;have p421:0≤(x7_2:Int):=zE (by with_reducible assumption);have q421:x7_2 < (l0.length:Int):=zE (by with_reducible assumption);obtain ⟨ad421,e421,hx421_0⟩:=Kd.at_int HR0.out x7_2 p421 q421;obtain rfl:ad416 = ad421:=(by injection e421);replace hx421_0:=(HB.out.cell (zY w _ hx421_0)).trans hx421_0;replace p421:=eq_true p421;replace q421:=eq_true q421;have p17:0≤((rd l0 x7_2):Int):=zE (by with_reducible assumption);have q17:((rd l0 x7_2):Int) < ((x5_2.length:Int):Int):=zE (by with_reducible assumption);obtain ⟨hx17_0,hf17_0⟩:=Kd.R_celln 0 HO_5.out ((rd l0 x7_2):Int) p17 q17;replace p17:=eq_true p17;replace q17:=eq_true q17;obtain ⟨hy22_,hz22_⟩:=Kd.R_celln 0 HO_5.out ((rd l0 x7_2):Int) (zE (by with_reducible assumption)) (zE (by with_reducible assumption));have HP22:=Kd.R_putg HO_5.out ((rd l0 x7_2):Int) ji15)|((with_reducible refine gate_store (t:=3) (p:=54) rfl ?_);(try (rw [drewN_self w21];generalize hq_:World.drewN w21 _ = w21;have n0_:=zA (Kd.R_at hq_ HO_5.out);have n1_:=zA (below_at hq_ HB.out);clear hq_ HO_5 HB;have HO_5:=n0_;have HB:=n1_;clear n0_ n1_;(try (obtain ⟨hy22_,hz22_⟩:=Kd.R_celln 0 HO_5.out ((rd l0 x7_2):Int) (zE (by with_reducible assumption)) (zE (by with_reducible assumption))));(try (have HP22:=Kd.R_putg HO_5.out ((rd l0 x7_2):Int) ji15))));refine store_event (t:=3) (p:=54) (v:=?vo_w23) (w1:=(w21.setCell ⟨go16,((rd l0 x7_2):Int).toNat,none⟩ (.int .i64 ji15))) ?hg ?ho ?hn ?hr ?_;(case ho=>rfl);(case hg=>rfl);(case hn=>rfl);(case hr=>first|(go_simp;done)|(go_simp;rfl));intro w23 hw;have hg:w21.grownBy w23 (some go16):=(by rw [hw];exact HP22.2);have hp_:Kd.R (Kd.int .i64) 3 w23 w.heap.size (fun _=>True) (.slice (some ⟨go16,0,none⟩) x5_2.length co19) y422:=(by rw [hw,Ny422.out];exact HP22.1);clear HP22;have n0_:=zA (hp_);have n1_:=zA ((by rw [hw];exact zF (HB.out) GB16.out:Below w.heap.size w w23));clear HO_5;clear HB;have HO_5:=n0_;have HB:=n1_;clear n0_ n1_;clear hg hw hp_;have p423:0≤(x7_2:Int):=zE (by with_reducible assumption);have q423:x7_2 < (l1.length:Int):=zE (by with_reducible assumption);obtain ⟨ad423,e423,hx423_0⟩:=Kd.at_int HR1.out x7_2 p423 q423;obtain rfl:ad418 = ad423:=(by injection e423);replace hx423_0:=(HB.out.cell (zY w _ hx423_0)).trans hx423_0;replace p423:=eq_true p423;replace q423:=eq_true q423;have p18:0≤((rd l1 x7_2):Int):=zE (by with_reducible assumption);have q18:((rd l1 x7_2):Int) < ((x5_2.length:Int):Int):=zE (by with_reducible assumption);obtain ⟨hx18_0,hf18_0⟩:=Kd.R_celln 0 HO_5.out ((rd l1 x7_2):Int) p18 q18;replace p18:=eq_true p18;replace q18:=eq_true q18;obtain ⟨hy24_,hz24_⟩:=Kd.R_celln 0 HO_5.out ((rd l1 x7_2):Int) (zE (by with_reducible assumption)) (zE (by with_reducible assumption));have HP24:=Kd.R_putg HO_5.out ((rd l1 x7_2):Int) ji15)|((with_reducible refine gate_store (t:=3) (p:=61) rfl ?_);(try (rw [drewN_self w23];generalize hq_:World.drewN w23 _ = w23;have n0_:=zA (Kd.R_at hq_ HO_5.out);have n1_:=zA (below_at hq_ HB.out);clear hq_ HO_5 HB;have HO_5:=n0_;have HB:=n1_;clear n0_ n1_;(try (obtain ⟨hy24_,hz24_⟩:=Kd.R_celln 0 HO_5.out ((rd l1 x7_2):Int) (zE (by with_reducible assumption)) (zE (by with_reducible assumption))));(try (have HP24:=Kd.R_putg HO_5.out ((rd l1 x7_2):Int) ji15))));refine store_event (t:=3) (p:=61) (v:=?vo_w25) (w1:=(w23.setCell ⟨go16,((rd l1 x7_2):Int).toNat,none⟩ (.int .i64 ji15))) ?hg ?ho ?hn ?hr ?_;(case ho=>rfl);(case hg=>rfl);(case hn=>rfl);(case hr=>first|(go_simp;done)|(go_simp;rfl));intro w25 hw;have hg:w23.grownBy w25 (some go16):=(by rw [hw];exact HP24.2);have hp_:Kd.R (Kd.int .i64) 3 w25 w.heap.size (fun _=>True) (.slice (some ⟨go16,0,none⟩) x5_2.length co19) y424:=(by rw [hw,Ny424.out];exact HP24.1);clear HP24;have n0_:=zA (hp_);have n1_:=zA ((by rw [hw];exact zF (HB.out) GB16.out:Below w.heap.size w w25));clear HO_5;clear HB;have HO_5:=n0_;have HB:=n1_;clear n0_ n1_;clear hg hw hp_));try go_wp2_with (first|((with_reducible refine gate_store (t:=3) (p:=47) rfl ?_);(try ((first|(generalize hq_:World.drewN wr _ = wr)|(rw [drewN_self wr];generalize hq_:World.drewN wr _ = wr));have n0_:=zA (Kd.R_at hq_ HO_5.out);have n1_:=zA (below_at hq_ HB.out);clear hq_ HO_5 HB;have HO_5:=n0_;have HB:=n1_;clear n0_ n1_;(try (have HP20:=Kd.R_putg HO_5.out (x7_2:Int) ji15));(try (obtain ⟨hx19b_,hf19b_⟩:=Kd.R_celln 0 HO_5.out (x7_2:Int) (of_eq_true (by assumption)) (of_eq_true (by assumption))))));refine store_event (t:=3) (p:=47) (v:=?vo_w21) (w1:=(wr.setCell ⟨go16,(x7_2:Int).toNat,none⟩ (.int .i64 ji15))) ?hg ?ho ?hn ?hr ?_;(case ho=>rfl);(case hg=>rfl);(case hn=>rfl);(case hr=>first|(go_simp;done)|(go_simp;rfl));intro w21 hw;have hg:wr.grownBy w21 (some go16):=(by rw [hw];exact HP20.2);have hp_:Kd.R (Kd.int .i64) 3 w21 w.heap.size (fun _=>True) (.slice (some ⟨go16,0,none⟩) x5_2.length co19) y420:=(by rw [hw,Ny420.out];exact HP20.1);clear HP20;have n0_:=zA (hp_);have n1_:=zA ((by rw [hw];exact zF (HB.out) GB16.out:Below w.heap.size w w21));clear HO_5;clear HB;have HO_5:=n0_;have HB:=n1_;clear n0_ n1_;clear hg hw hp_;have p421:0≤(x7_2:Int):=zE (by with_reducible assumption);have q421:x7_2 < (l0.length:Int):=zE (by with_reducible assumption);obtain ⟨ad421,e421,hx421_0⟩:=Kd.at_int HR0.out x7_2 p421 q421;obtain rfl:ad416 = ad421:=(by injection e421);replace hx421_0:=(HB.out.cell (zY w _ hx421_0)).trans hx421_0;replace p421:=eq_true p421;replace q421:=eq_true q421;have p17:0≤((rd l0 x7_2):Int):=zE (by with_reducible assumption);have q17:((rd l0 x7_2):Int) < ((x5_2.length:Int):Int):=zE (by with_reducible assumption);obtain ⟨hx17_0,hf17_0⟩:=Kd.R_celln 0 HO_5.out ((rd l0 x7_2):Int) p17 q17;replace p17:=eq_true p17;replace q17:=eq_true q17;obtain ⟨hy22_,hz22_⟩:=Kd.R_celln 0 HO_5.out ((rd l0 x7_2):Int) (zE (by with_reducible assumption)) (zE (by with_reducible assumption));have HP22:=Kd.R_putg HO_5.out ((rd l0 x7_2):Int) ji15)|((with_reducible refine gate_store (t:=3) (p:=54) rfl ?_);(try (rw [drewN_self w21];generalize hq_:World.drewN w21 _ = w21;have n0_:=zA (Kd.R_at hq_ HO_5.out);have n1_:=zA (below_at hq_ HB.out);clear hq_ HO_5 HB;have HO_5:=n0_;have HB:=n1_;clear n0_ n1_;(try (obtain ⟨hy22_,hz22_⟩:=Kd.R_celln 0 HO_5.out ((rd l0 x7_2):Int) (zE (by with_reducible assumption)) (zE (by with_reducible assumption))));(try (have HP22:=Kd.R_putg HO_5.out ((rd l0 x7_2):Int) ji15))));refine store_event (t:=3) (p:=54) (v:=?vo_w23) (w1:=(w21.setCell ⟨go16,((rd l0 x7_2):Int).toNat,none⟩ (.int .i64 ji15))) ?hg ?ho ?hn ?hr ?_;(case ho=>rfl);(case hg=>rfl);(case hn=>rfl);(case hr=>first|(go_simp;done)|(go_simp;rfl));intro w23 hw;have hg:w21.grownBy w23 (some go16):=(by rw [hw];exact HP22.2);have hp_:Kd.R (Kd.int .i64) 3 w23 w.heap.size (fun _=>True) (.slice (some ⟨go16,0,none⟩) x5_2.length co19) y422:=(by rw [hw,Ny422.out];exact HP22.1);clear HP22;have n0_:=zA (hp_);have n1_:=zA ((by rw [hw];exact zF (HB.out) GB16.out:Below w.heap.size w w23));clear HO_5;clear HB;have HO_5:=n0_;have HB:=n1_;clear n0_ n1_;clear hg hw hp_;have p423:0≤(x7_2:Int):=zE (by with_reducible assumption);have q423:x7_2 < (l1.length:Int):=zE (by with_reducible assumption);obtain ⟨ad423,e423,hx423_0⟩:=Kd.at_int HR1.out x7_2 p423 q423;obtain rfl:ad418 = ad423:=(by injection e423);replace hx423_0:=(HB.out.cell (zY w _ hx423_0)).trans hx423_0;replace p423:=eq_true p423;replace q423:=eq_true q423;have p18:0≤((rd l1 x7_2):Int):=zE (by with_reducible assumption);have q18:((rd l1 x7_2):Int) < ((x5_2.length:Int):Int):=zE (by with_reducible assumption);obtain ⟨hx18_0,hf18_0⟩:=Kd.R_celln 0 HO_5.out ((rd l1 x7_2):Int) p18 q18;replace p18:=eq_true p18;replace q18:=eq_true q18;obtain ⟨hy24_,hz24_⟩:=Kd.R_celln 0 HO_5.out ((rd l1 x7_2):Int) (zE (by with_reducible assumption)) (zE (by with_reducible assumption));have HP24:=Kd.R_putg HO_5.out ((rd l1 x7_2):Int) ji15)|((with_reducible refine gate_store (t:=3) (p:=61) rfl ?_);(try (rw [drewN_self w23];generalize hq_:World.drewN w23 _ = w23;have n0_:=zA (Kd.R_at hq_ HO_5.out);have n1_:=zA (below_at hq_ HB.out);clear hq_ HO_5 HB;have HO_5:=n0_;have HB:=n1_;clear n0_ n1_;(try (obtain ⟨hy24_,hz24_⟩:=Kd.R_celln 0 HO_5.out ((rd l1 x7_2):Int) (zE (by with_reducible assumption)) (zE (by with_reducible assumption))));(try (have HP24:=Kd.R_putg HO_5.out ((rd l1 x7_2):Int) ji15))));refine store_event (t:=3) (p:=61) (v:=?vo_w25) (w1:=(w23.setCell ⟨go16,((rd l1 x7_2):Int).toNat,none⟩ (.int .i64 ji15))) ?hg ?ho ?hn ?hr ?_;(case ho=>rfl);(case hg=>rfl);(case hn=>rfl);(case hr=>first|(go_simp;done)|(go_simp;rfl));intro w25 hw;have hg:w23.grownBy w25 (some go16):=(by rw [hw];exact HP24.2);have hp_:Kd.R (Kd.int .i64) 3 w25 w.heap.size (fun _=>True) (.slice (some ⟨go16,0,none⟩) x5_2.length co19) y424:=(by rw [hw,Ny424.out];exact HP24.1);clear HP24;have n0_:=zA (hp_);have n1_:=zA ((by rw [hw];exact zF (HB.out) GB16.out:Below w.heap.size w w25));clear HO_5;clear HB;have HO_5:=n0_;have HB:=n1_;clear n0_ n1_;clear hg hw hp_)))
              go_roundg k2
              case measure=>have:=HK1.out;have:=HK2.out;omega
              case rel=>exact ⟨(y424),(wrap64 (x7_2+1)),(by first|rfl|(simp;done)|(simp [*];done)),H',⟨by have:=HK1.out;have:=HK2.out;omega⟩,⟨by apply zR_;exact HO_5.out⟩,⟨by exact zB_ HB.out⟩⟩
             ·rw [if_neg c13] at H
              exact absurd H (by simp)
            ·rw [if_neg c12] at H
             exact absurd H (by simp)
           ·rw [if_neg c11] at H
            exact absurd H (by simp)
          ·rw [if_neg c10] at H
           exact absurd H (by simp)
         ·rw [if_neg c9] at H
          exact absurd H (by simp)
        ·rw [if_neg c8] at H
         exact absurd H (by simp)
       ·rw [if_neg c7] at H
        exact absurd H (by simp)
      ·rw [if_neg c6] at H
       have c6b0:decide (x7_2 < (l0.length:Int)) = false:=zP c6
       clear c6
       have H':=zA H
       clear H
       go_wp2
       repeat (go_quiet (fail);try go_wp2)
       go_roundg k2
       case measure=>have:=HK1.out;have:=HK2.out;omega
       case rel=>exact ⟨(x5_2),(wrap64 (x6_1+1)),(by first|rfl|(simp;done)|(simp [*];done)),H',⟨by have:=HK1.out;have:=HK2.out;omega⟩,⟨by apply zR_;exact HO_5.out⟩,⟨by exact zB_ HB.out⟩⟩
   ·rw [if_neg c5] at H
    have c5b0:decide (x6_1 < (l0.length:Int)) = false:=zP c5
    clear c5
    obtain rfl:=zS H
    go_wp2
    repeat (go_quiet (fail);try go_wp2)
    go_ret
    exact ⟨_,by first|rfl|(simp [errW_none,errW_some] <;> rfl)|(simp [*,errW_none,errW_some] <;> rfl),by apply zR_;exact HO_5.out,by exact zB_ HB.out⟩

/-! ### spec_MapValid: function 76 -/
mutual
def spec_MapValid.l0:Nat→Int→List Int→List Int→Option (Bool)
 | 0,_,_,_=>none
 | k+1,x3,x426000,x426001=>if x3 < (x426001.length:Int) then (if 0≤x3 then (if (rd x426001 x3) = x3 then (some false) else (if 0≤(rd x426001 x3) then (if (rd x426001 x3) < (x426001.length:Int) then (if (rd x426001 (rd x426001 x3)) = x3 then (spec_MapValid.l0 k (wrap64 (x3+1)) x426000 x426001) else (some false)) else (none)) else (none))) else (none)) else ((spec_l1Orbits.f k x426000 x426001).bind fun t430=>(spec_MapValid.l1 k t430 0))
def spec_MapValid.l1:Nat→List Int→Int→Option (Bool)
 | 0,_,_=>none
 | k+1,x4,x5=>if x5 < (x4.length:Int) then (if 0≤x5 then (if (rd x4 x5) = 0 then (spec_MapValid.l1 k x4 (wrap64 (x5+1))) else (some false)) else (none)) else (some true)
end
def spec_MapValid.f (k:Nat) (l0_0:List Int) (l0_1:List Int):Option (Bool):=(spec_l1Both.f k l0_0 l0_1).bind fun t426=>(if t426 = true then (spec_MapValid.l0 k 0 l0_0 l0_1) else (some false))
theorem spec_MapValid.mono_l:∀ k,(∀ y0 y1 y2,LeO (spec_MapValid.l0 k y0 y1 y2) (spec_MapValid.l0 (k+1) y0 y1 y2))∧(∀ y0 y1,LeO (spec_MapValid.l1 k y0 y1) (spec_MapValid.l1 (k+1) y0 y1))
 | 0=>⟨fun _ _ _ r h=>by simp [spec_MapValid.l0] at h,fun _ _ r h=>by simp [spec_MapValid.l1] at h⟩
 | k+1=>by
  obtain ⟨ih0,ih1⟩:=spec_MapValid.mono_l k
  refine ⟨?_,?_⟩
  ·intro y0 y1 y2
   unfold spec_MapValid.l0
   repeat' first
   | (with_reducible exact ih0 _ _ _)
   | (with_reducible exact ih1 _ _)
   | (with_reducible exact spec_l1Both.mono _ _ _)
   | (with_reducible exact spec_l1Orbits.mono _ _ _)
   | (with_reducible exact LeO.refl _)
   | (with_reducible exact za _)
   | (with_reducible refine zc ?_ ?_)
   | (with_reducible refine zb ?_ (fun _=>?_))
  ·intro y0 y1
   unfold spec_MapValid.l1
   repeat' first
   | (with_reducible exact ih0 _ _ _)
   | (with_reducible exact ih1 _ _)
   | (with_reducible exact spec_l1Both.mono _ _ _)
   | (with_reducible exact spec_l1Orbits.mono _ _ _)
   | (with_reducible exact LeO.refl _)
   | (with_reducible exact za _)
   | (with_reducible refine zc ?_ ?_)
   | (with_reducible refine zb ?_ (fun _=>?_))
theorem spec_MapValid.mono:∀ a0 a1 k,LeO (spec_MapValid.f k a0 a1) (spec_MapValid.f (k+1) a0 a1):=by
 intro a0 a1 k
 obtain ⟨ih0,ih1⟩:=spec_MapValid.mono_l k
 unfold spec_MapValid.f
 repeat' first
   | (with_reducible exact ih0 _ _ _)
   | (with_reducible exact ih1 _ _)
   | (with_reducible exact spec_l1Both.mono _ _ _)
   | (with_reducible exact spec_l1Orbits.mono _ _ _)
   | (with_reducible exact LeO.refl _)
   | (with_reducible exact za _)
   | (with_reducible refine zc ?_ ?_)
   | (with_reducible refine zb ?_ (fun _=>?_))
set_option maxHeartbeats 8000000 in
set_option maxRecDepth 100000 in
theorem spec_MapValid.calls (k:Nat) (A0_0:Option Addr) (c0_0:Nat) (l0_0:List Int) (A0_1:Option Addr) (c0_1:Nat) (l0_1:List Int) (r:Bool) (w:World) (hr0_0:Kd.C (Kd.int .i64) w A0_0 l0_0.length l0_0) (hc0_0:l0_0.length≤c0_0) (hr0_1:Kd.C (Kd.int .i64) w A0_1 l0_1.length l0_1) (hc0_1:l0_1.length≤c0_1) (h:spec_MapValid.f k l0_0 l0_1 = some r) :
  Calls Try.prog 76 #[.agg #[.slice A0_0 l0_0.length c0_0,.slice A0_1 l0_1.length c0_1]] w fun e w'=>e = .returned (.bool r)∧Below w.heap.size w w':=by
 have hu33:=Try.underlying33
 have HR0_0:=zA hr0_0
 have HC0_0:=zA hc0_0
 clear hr0_0 hc0_0
 have HR0_1:=zA hr0_1
 have HC0_1:=zA hc0_1
 clear hr0_1 hc0_1
 have HB:=zA (Below.refl w.heap.size w)
 have H:((spec_l1Both.f k l0_0 l0_1).bind fun t426=>(if t426 = true then (spec_MapValid.l0 k 0 l0_0 l0_1) else (some false))) = some r:=h
 clear h
 replace H:=zz0 H
 obtain ⟨t426,A20,H⟩:=H
 try dsimp only at H
 have A2:=zA A20
 clear A20
 by_cases c3:t426 = true
 ·subst c3
  rw [if_pos rfl] at H;try dsimp only at H
  have H':=zA H
  clear H
  go_enter Try.func76,Try.ntmps76
  go_wp2_with (first|((with_reducible refine gate_dst (N:=1) rfl ?_);refine box_event ?hg (N:=1) ?hd (cs:=#[.slice A0_0 l0_0.length c0_0,.slice A0_1 l0_1.length c0_1]) (t:=33) ?hr ?_;(case hd=>rfl);(case hg=>rfl);(case hr=>first|(go_simp;done)|(go_simp;rfl));intro gb425 hg w4 hbox hb;have n0_:=zA (zR (by exact zB_ HB.out) hb);have n1_:=zA (hbox);have n2_:=zA ((by rw [hg];exact (zQ (by exact zB_ HB.out)):w.heap.size≤gb425));have n3_:=zA ((by rw [hg];exact (zQ (by exact zB_ HB.out)):w.heap.size≤gb425));clear HB;have HB:=n0_;have BK425:=n1_;have GW425:=n2_;have GE425:=n3_;clear n0_ n1_ n2_ n3_;clear hb hbox hg;have hcz5_0:w4.cell? ⟨gb425,0,none⟩ = some (.slice A0_0 l0_0.length c0_0):=(zT BK425.out 0).trans rfl;have hcz5_1:w4.cell? ⟨gb425,1,none⟩ = some (.slice A0_1 l0_1.length c0_1):=(zT BK425.out 1).trans rfl;have hfz5_0:=zZ BK425.out 0;have hfz5_1:=zZ BK425.out 1)|(go_at_call 94;(with_reducible refine (spec_l1Both.calls k _ _ l0_0 _ _ l0_1 true _ ?side1 ?side2 ?side3 ?side4 A2.out).mono ?_);(case side1=>repeat (first|exact (zW HR0_0.out HB.out)|(with_reducible exact HR0_0.out)|apply zC_));(case side2=>exact HC0_0.out);(case side3=>repeat (first|exact (zW HR0_1.out HB.out)|(with_reducible exact HR0_1.out)|apply zC_));(case side4=>exact HC0_1.out);rintro e w' ⟨rfl,⟨nd,rfl⟩⟩;(try first|exact ⟨rfl,_,World.drewN_drewN _ _ _⟩|exact ⟨rfl,_,Eq.trans (World.drewN_drewN _ _ _) (congrArg (World.drewN _) (Nat.add_assoc _ _ _))⟩)))
  repeat (go_quiet (fail);try go_wp2_with (first|((with_reducible refine gate_dst (N:=1) rfl ?_);refine box_event ?hg (N:=1) ?hd (cs:=#[.slice A0_0 l0_0.length c0_0,.slice A0_1 l0_1.length c0_1]) (t:=33) ?hr ?_;(case hd=>rfl);(case hg=>rfl);(case hr=>first|(go_simp;done)|(go_simp;rfl));intro gb425 hg w4 hbox hb;have n0_:=zA (zR (by exact zB_ HB.out) hb);have n1_:=zA (hbox);have n2_:=zA ((by rw [hg];exact (zQ (by exact zB_ HB.out)):w.heap.size≤gb425));have n3_:=zA ((by rw [hg];exact (zQ (by exact zB_ HB.out)):w.heap.size≤gb425));clear HB;have HB:=n0_;have BK425:=n1_;have GW425:=n2_;have GE425:=n3_;clear n0_ n1_ n2_ n3_;clear hb hbox hg;have hcz5_0:w4.cell? ⟨gb425,0,none⟩ = some (.slice A0_0 l0_0.length c0_0):=(zT BK425.out 0).trans rfl;have hcz5_1:w4.cell? ⟨gb425,1,none⟩ = some (.slice A0_1 l0_1.length c0_1):=(zT BK425.out 1).trans rfl;have hfz5_0:=zZ BK425.out 0;have hfz5_1:=zZ BK425.out 1)|(go_at_call 94;(with_reducible refine (spec_l1Both.calls k _ _ l0_0 _ _ l0_1 true _ ?side1 ?side2 ?side3 ?side4 A2.out).mono ?_);(case side1=>repeat (first|exact (zW HR0_0.out HB.out)|(with_reducible exact HR0_0.out)|apply zC_));(case side2=>exact HC0_0.out);(case side3=>repeat (first|exact (zW HR0_1.out HB.out)|(with_reducible exact HR0_1.out)|apply zC_));(case side4=>exact HC0_1.out);rintro e w' ⟨rfl,⟨nd,rfl⟩⟩;(try first|exact ⟨rfl,_,World.drewN_drewN _ _ _⟩|exact ⟨rfl,_,Eq.trans (World.drewN_drewN _ _ _) (congrArg (World.drewN _) (Nat.add_assoc _ _ _))⟩))))
  go_loopg [3] k (fun kq v3 w' => ∃ (x3_1:Int),v3 = .int .i64 x3_1∧Aside0 (spec_MapValid.l0 kq x3_1 l0_0 l0_1 = some r)∧Aside0 (kq≤k)∧Aside0 (w'.heap[gb425]? = some (.cells #[(.slice A0_0 l0_0.length c0_0),(.slice A0_1 l0_1.length c0_1)] 33 (0,0)))∧Aside0 (Below w.heap.size w w'))
  case atStart=>exact ⟨(0),(by first|rfl|(simp;done)|(simp [*];done)),H',⟨Nat.le_refl _⟩,⟨by (with_reducible repeat (first|refine zG ?_ _|refine zI ?_|refine zH ?_ _));exact BK425.out⟩,⟨by repeat (first|(with_reducible first|exact HB.out|apply zD|apply zB|apply zC|refine zF ?_ GE425.out)|exact HB.out)⟩⟩
  case round =>
   clear H'
   (try clear p2);(try clear c3);(try clear hcz5_0);(try clear hcz5_1);(try clear hfz5_0);(try clear hfz5_1)
   obtain ⟨x3_1,rfl,HA,HK1,BK425,HB⟩:=hrel
   cases gk with
   | zero=>exact absurd HA.out (by simp [spec_MapValid.l0])
   | succ k1 =>
    have H:=HA.out
    clear HA
    simp only [spec_MapValid.l0] at H
    by_cases c6:x3_1 < (l0_1.length:Int)
    ·rw [if_pos c6] at H
     have c6b0:decide (x3_1 < (l0_1.length:Int)) = true:=zO c6
     clear c6
     by_cases c7:0≤x3_1
     ·rw [if_pos c7] at H
      have c7b0:decide (0≤x3_1) = true:=zO c7
      clear c7
      by_cases c8:(rd l0_1 x3_1) = x3_1
      ·rw [if_pos c8] at H
       have c8b0:((rd l0_1 x3_1) == x3_1) = true:=beq_iff_eq.mpr c8
       have c8b1:((rd l0_1 x3_1) != x3_1) = false:=bne_eq_false_iff_eq.mpr c8
       clear c8
       obtain rfl:=zS H
       have hcz9_0:wr.cell? ⟨gb425,0,none⟩ = some (.slice A0_0 l0_0.length c0_0):=(zT BK425.out 0).trans rfl
       have hcz9_1:wr.cell? ⟨gb425,1,none⟩ = some (.slice A0_1 l0_1.length c0_1):=(zT BK425.out 1).trans rfl
       have hfz9_0:=zZ BK425.out 0
       have hfz9_1:=zZ BK425.out 1
       have p427:0≤(x3_1:Int):=zE (by with_reducible assumption)
       have q427:x3_1 < (l0_1.length:Int):=zE (by with_reducible assumption)
       obtain ⟨ad427,e427,hx427_0⟩:=Kd.at_int HR0_1.out x3_1 p427 q427
       cases e427
       replace hx427_0:=(HB.out.cell (zY w _ hx427_0)).trans hx427_0
       replace p427:=eq_true p427
       replace q427:=eq_true q427
       go_wp2
       repeat (go_quiet (fail);try go_wp2)
       go_ret
       exact ⟨by first|rfl|(simp [errW_none,errW_some] <;> rfl)|(simp [*,errW_none,errW_some] <;> rfl),by repeat (first|(with_reducible first|exact HB.out|apply zD|apply zB|apply zC|refine zF ?_ GE425.out)|exact HB.out)⟩
      ·rw [if_neg c8] at H
       have c8b0:((rd l0_1 x3_1) == x3_1) = false:=beq_eq_false_iff_ne.mpr c8
       have c8b1:((rd l0_1 x3_1) != x3_1) = true:=bne_iff_ne.mpr c8
       by_cases c10:0≤(rd l0_1 x3_1)
       ·rw [if_pos c10] at H
        have c10b0:decide (0≤(rd l0_1 x3_1)) = true:=zO c10
        clear c10
        by_cases c11:(rd l0_1 x3_1) < (l0_1.length:Int)
        ·rw [if_pos c11] at H
         have c11b0:decide ((rd l0_1 x3_1) < (l0_1.length:Int)) = true:=zO c11
         clear c11
         by_cases c12:(rd l0_1 (rd l0_1 x3_1)) = x3_1
         ·rw [if_pos c12] at H
          have c12b0:((rd l0_1 (rd l0_1 x3_1)) == x3_1) = true:=beq_iff_eq.mpr c12
          have c12b1:((rd l0_1 (rd l0_1 x3_1)) != x3_1) = false:=bne_eq_false_iff_eq.mpr c12
          clear c12
          have H':=zA H
          clear H
          have hcz13_0:wr.cell? ⟨gb425,0,none⟩ = some (.slice A0_0 l0_0.length c0_0):=(zT BK425.out 0).trans rfl
          have hcz13_1:wr.cell? ⟨gb425,1,none⟩ = some (.slice A0_1 l0_1.length c0_1):=(zT BK425.out 1).trans rfl
          have hfz13_0:=zZ BK425.out 0
          have hfz13_1:=zZ BK425.out 1
          have p427:0≤(x3_1:Int):=zE (by with_reducible assumption)
          have q427:x3_1 < (l0_1.length:Int):=zE (by with_reducible assumption)
          obtain ⟨ad427,e427,hx427_0⟩:=Kd.at_int HR0_1.out x3_1 p427 q427
          cases e427
          replace hx427_0:=(HB.out.cell (zY w _ hx427_0)).trans hx427_0
          replace p427:=eq_true p427
          replace q427:=eq_true q427
          have p428:0≤(x3_1:Int):=zE (by with_reducible assumption)
          have q428:x3_1 < (l0_1.length:Int):=zE (by with_reducible assumption)
          obtain ⟨ad428,e428,hx428_0⟩:=Kd.at_int HR0_1.out x3_1 p428 q428
          obtain rfl:ad427 = ad428:=(by injection e428)
          replace hx428_0:=(HB.out.cell (zY w _ hx428_0)).trans hx428_0
          replace p428:=eq_true p428
          replace q428:=eq_true q428
          have p429:0≤((rd l0_1 x3_1):Int):=zE (by with_reducible assumption)
          have q429:(rd l0_1 x3_1) < (l0_1.length:Int):=zE (by with_reducible assumption)
          obtain ⟨ad429,e429,hx429_0⟩:=Kd.at_int HR0_1.out (rd l0_1 x3_1) p429 q429
          obtain rfl:ad427 = ad429:=(by injection e429)
          replace hx429_0:=(HB.out.cell (zY w _ hx429_0)).trans hx429_0
          replace p429:=eq_true p429
          replace q429:=eq_true q429
          go_wp2
          repeat (go_quiet (fail);try go_wp2)
          go_roundg k1
          case measure=>have:=HK1.out;omega
          case rel=>exact ⟨(wrap64 (x3_1+1)),(by first|rfl|(simp;done)|(simp [*];done)),H',⟨by have:=HK1.out;omega⟩,⟨by (with_reducible repeat (first|refine zG ?_ _|refine zI ?_|refine zH ?_ _));exact BK425.out⟩,⟨by repeat (first|(with_reducible first|exact HB.out|apply zD|apply zB|apply zC|refine zF ?_ GE425.out)|exact HB.out)⟩⟩
         ·rw [if_neg c12] at H
          have c12b0:((rd l0_1 (rd l0_1 x3_1)) == x3_1) = false:=beq_eq_false_iff_ne.mpr c12
          have c12b1:((rd l0_1 (rd l0_1 x3_1)) != x3_1) = true:=bne_iff_ne.mpr c12
          obtain rfl:=zS H
          have hcz14_0:wr.cell? ⟨gb425,0,none⟩ = some (.slice A0_0 l0_0.length c0_0):=(zT BK425.out 0).trans rfl
          have hcz14_1:wr.cell? ⟨gb425,1,none⟩ = some (.slice A0_1 l0_1.length c0_1):=(zT BK425.out 1).trans rfl
          have hfz14_0:=zZ BK425.out 0
          have hfz14_1:=zZ BK425.out 1
          have p427:0≤(x3_1:Int):=zE (by with_reducible assumption)
          have q427:x3_1 < (l0_1.length:Int):=zE (by with_reducible assumption)
          obtain ⟨ad427,e427,hx427_0⟩:=Kd.at_int HR0_1.out x3_1 p427 q427
          cases e427
          replace hx427_0:=(HB.out.cell (zY w _ hx427_0)).trans hx427_0
          replace p427:=eq_true p427
          replace q427:=eq_true q427
          have p428:0≤(x3_1:Int):=zE (by with_reducible assumption)
          have q428:x3_1 < (l0_1.length:Int):=zE (by with_reducible assumption)
          obtain ⟨ad428,e428,hx428_0⟩:=Kd.at_int HR0_1.out x3_1 p428 q428
          obtain rfl:ad427 = ad428:=(by injection e428)
          replace hx428_0:=(HB.out.cell (zY w _ hx428_0)).trans hx428_0
          replace p428:=eq_true p428
          replace q428:=eq_true q428
          have p429:0≤((rd l0_1 x3_1):Int):=zE (by with_reducible assumption)
          have q429:(rd l0_1 x3_1) < (l0_1.length:Int):=zE (by with_reducible assumption)
          obtain ⟨ad429,e429,hx429_0⟩:=Kd.at_int HR0_1.out (rd l0_1 x3_1) p429 q429
          obtain rfl:ad427 = ad429:=(by injection e429)
          replace hx429_0:=(HB.out.cell (zY w _ hx429_0)).trans hx429_0
          replace p429:=eq_true p429
          replace q429:=eq_true q429
          go_wp2
          repeat (go_quiet (fail);try go_wp2)
          go_ret
          exact ⟨by first|rfl|(simp [errW_none,errW_some] <;> rfl)|(simp [*,errW_none,errW_some] <;> rfl),by repeat (first|(with_reducible first|exact HB.out|apply zD|apply zB|apply zC|refine zF ?_ GE425.out)|exact HB.out)⟩
        ·rw [if_neg c11] at H
         exact absurd H (by simp)
       ·rw [if_neg c10] at H
        exact absurd H (by simp)
     ·rw [if_neg c7] at H
      exact absurd H (by simp)
    ·rw [if_neg c6] at H
     have c6b0:decide (x3_1 < (l0_1.length:Int)) = false:=zP c6
     clear c6
     replace H:=zz0 H
     obtain ⟨t430,A150,H⟩:=H
     try dsimp only at H
     have A15:=zA A150
     clear A150
     have H':=zA H
     clear H
     have hcz16_0:wr.cell? ⟨gb425,0,none⟩ = some (.slice A0_0 l0_0.length c0_0):=(zT BK425.out 0).trans rfl
     have hcz16_1:wr.cell? ⟨gb425,1,none⟩ = some (.slice A0_1 l0_1.length c0_1):=(zT BK425.out 1).trans rfl
     have hfz16_0:=zZ BK425.out 0
     have hfz16_1:=zZ BK425.out 1
     go_wp2_with (first|(go_at_call 95;(with_reducible refine (spec_l1Orbits.calls k1 _ _ l0_0 _ _ l0_1 t430 _ ?side1 ?side2 ?side3 ?side4 A15.out).mono ?_);(case side1=>repeat (first|exact (zW HR0_0.out HB.out)|(with_reducible exact HR0_0.out)|apply zC_));(case side2=>exact HC0_0.out);(case side3=>repeat (first|exact (zW HR0_1.out HB.out)|(with_reducible exact HR0_1.out)|apply zC_));(case side4=>exact HC0_1.out);rintro e w17 ⟨v431,rfl,ho0,hb⟩;have n0_:=zA (ze ho0 (zQ (by repeat (first|(with_reducible first|exact HB.out|apply zD|apply zB|apply zC|refine zF ?_ GE425.out)|exact HB.out))));have n1_:=zA (zX (g:=gb425) (o:=.cells #[.slice A0_0 l0_0.length c0_0,.slice A0_1 l0_1.length c0_1] 33 (0,0)) (by (with_reducible repeat (first|refine zG ?_ _|refine zI ?_|refine zH ?_ _));exact BK425.out) hb);have n2_:=zA (zR (by repeat (first|(with_reducible first|exact HB.out|apply zD|apply zB|apply zC|refine zF ?_ GE425.out)|exact HB.out)) hb);clear BK425;clear HB;have HO432:=n0_;have BK425:=n1_;have HB:=n2_;clear n0_ n1_ n2_;(try clear hb);(try clear hb2);(try clear hk);(try clear hi);(try clear ho0)))
     repeat (go_quiet (fail);try go_wp2_with (first|(go_at_call 95;(with_reducible refine (spec_l1Orbits.calls k1 _ _ l0_0 _ _ l0_1 t430 _ ?side1 ?side2 ?side3 ?side4 A15.out).mono ?_);(case side1=>repeat (first|exact (zW HR0_0.out HB.out)|(with_reducible exact HR0_0.out)|apply zC_));(case side2=>exact HC0_0.out);(case side3=>repeat (first|exact (zW HR0_1.out HB.out)|(with_reducible exact HR0_1.out)|apply zC_));(case side4=>exact HC0_1.out);rintro e w17 ⟨v431,rfl,ho0,hb⟩;have n0_:=zA (ze ho0 (zQ (by repeat (first|(with_reducible first|exact HB.out|apply zD|apply zB|apply zC|refine zF ?_ GE425.out)|exact HB.out))));have n1_:=zA (zX (g:=gb425) (o:=.cells #[.slice A0_0 l0_0.length c0_0,.slice A0_1 l0_1.length c0_1] 33 (0,0)) (by (with_reducible repeat (first|refine zG ?_ _|refine zI ?_|refine zH ?_ _));exact BK425.out) hb);have n2_:=zA (zR (by repeat (first|(with_reducible first|exact HB.out|apply zD|apply zB|apply zC|refine zF ?_ GE425.out)|exact HB.out)) hb);clear BK425;clear HB;have HO432:=n0_;have BK425:=n1_;have HB:=n2_;clear n0_ n1_ n2_;(try clear hb);(try clear hb2);(try clear hk);(try clear hi);(try clear ho0))))
     go_loopg [5] k1 (fun kq v5 w' => ∃ (x5_2:Int),v5 = .int .i64 x5_2∧Aside0 (spec_MapValid.l1 kq t430 x5_2 = some r)∧Aside0 (kq≤k1)∧Aside0 (Kd.R (Kd.int .i64) 3 w' w.heap.size (fun _=>True) v431 t430)∧Aside0 (w'.heap[gb425]? = some (.cells #[(.slice A0_0 l0_0.length c0_0),(.slice A0_1 l0_1.length c0_1)] 33 (0,0)))∧Aside0 (Below w.heap.size w w'))
     case atStart=>exact ⟨(0),(by first|rfl|(simp;done)|(simp [*];done)),H',⟨Nat.le_refl _⟩,⟨by apply zR_;exact HO432.out⟩,⟨by (with_reducible repeat (first|refine zG ?_ _|refine zI ?_|refine zH ?_ _));exact BK425.out⟩,⟨by repeat (first|(with_reducible first|exact HB.out|apply zD|apply zB|apply zC|refine zF ?_ GE425.out)|exact HB.out)⟩⟩
     case round =>
      clear H'
      (try clear c1);(try clear p2);(try clear c3);(try clear p4);(try clear q4);(try clear hx4);(try clear c6);(try clear c6b0);(try clear p6);(try clear c7);(try clear c7b0);(try clear c8);(try clear c8b0);(try clear c8b1);(try clear c10);(try clear c10b0);(try clear c11);(try clear c11b0);(try clear c12);(try clear c12b0);(try clear c12b1);(try clear hcz13_0);(try clear hcz13_1);(try clear hcz14_0);(try clear hcz14_1);(try clear hcz16_0);(try clear hcz16_1);(try clear hcz5_0);(try clear hcz5_1);(try clear hcz9_0);(try clear hcz9_1);(try clear hfz13_0);(try clear hfz13_1);(try clear hfz14_0);(try clear hfz14_1);(try clear hfz16_0);(try clear hfz16_1);(try clear hfz5_0);(try clear hfz5_1);(try clear hfz9_0);(try clear hfz9_1);(try clear hx427_0);(try clear hx428_0);(try clear hx429_0);(try clear p2);(try clear p427);(try clear p428);(try clear p429);(try clear q427);(try clear q428);(try clear q429)
      obtain ⟨x5_2,rfl,HA,HK2,HO_4,BK425,HB⟩:=hrel
      cases gk with
      | zero=>exact absurd HA.out (by simp [spec_MapValid.l1])
      | succ k2 =>
       have H:=HA.out
       clear HA
       simp only [spec_MapValid.l1] at H
       by_cases c18:x5_2 < (t430.length:Int)
       ·rw [if_pos c18] at H
        have c18b0:decide (x5_2 < (t430.length:Int)) = true:=zO c18
        clear c18
        by_cases c19:0≤x5_2
        ·rw [if_pos c19] at H
         have c19b0:decide (0≤x5_2) = true:=zO c19
         clear c19
         by_cases c20:(rd t430 x5_2) = 0
         ·rw [if_pos c20] at H
          have c20b0:((rd t430 x5_2) == 0) = true:=beq_iff_eq.mpr c20
          have c20b1:((rd t430 x5_2) != 0) = false:=bne_eq_false_iff_eq.mpr c20
          clear c20
          have H':=zA H
          clear H
          obtain ⟨Ao21,co21,eo21⟩:=zg HO_4.out
          subst eo21
          have p433:0≤(x5_2:Int):=zE (by with_reducible assumption)
          have q433:x5_2 < (t430.length:Int):=zE (by with_reducible assumption)
          obtain ⟨ad433,e433,hx433_0⟩:=Kd.at_int (zU HO_4.out).2.2 x5_2 p433 q433
          cases e433
          replace p433:=eq_true p433
          replace q433:=eq_true q433
          go_wp2
          repeat (go_quiet (fail);try go_wp2)
          go_roundg k2
          case measure=>have:=HK1.out;have:=HK2.out;omega
          case rel=>exact ⟨(wrap64 (x5_2+1)),(by first|rfl|(simp;done)|(simp [*];done)),H',⟨by have:=HK1.out;have:=HK2.out;omega⟩,⟨by apply zR_;exact HO_4.out⟩,⟨by (with_reducible repeat (first|refine zG ?_ _|refine zI ?_|refine zH ?_ _));exact BK425.out⟩,⟨by repeat (first|(with_reducible first|exact HB.out|apply zD|apply zB|apply zC|refine zF ?_ GE425.out)|exact HB.out)⟩⟩
         ·rw [if_neg c20] at H
          have c20b0:((rd t430 x5_2) == 0) = false:=beq_eq_false_iff_ne.mpr c20
          have c20b1:((rd t430 x5_2) != 0) = true:=bne_iff_ne.mpr c20
          obtain rfl:=zS H
          obtain ⟨Ao22,co22,eo22⟩:=zg HO_4.out
          subst eo22
          have p433:0≤(x5_2:Int):=zE (by with_reducible assumption)
          have q433:x5_2 < (t430.length:Int):=zE (by with_reducible assumption)
          obtain ⟨ad433,e433,hx433_0⟩:=Kd.at_int (zU HO_4.out).2.2 x5_2 p433 q433
          cases e433
          replace p433:=eq_true p433
          replace q433:=eq_true q433
          go_wp2
          repeat (go_quiet (fail);try go_wp2)
          go_ret
          exact ⟨by first|rfl|(simp [errW_none,errW_some] <;> rfl)|(simp [*,errW_none,errW_some] <;> rfl),by repeat (first|(with_reducible first|exact HB.out|apply zD|apply zB|apply zC|refine zF ?_ GE425.out)|exact HB.out)⟩
        ·rw [if_neg c19] at H
         exact absurd H (by simp)
       ·rw [if_neg c18] at H
        have c18b0:decide (x5_2 < (t430.length:Int)) = false:=zP c18
        clear c18
        obtain rfl:=zS H
        obtain ⟨Ao23,co23,eo23⟩:=zg HO_4.out
        subst eo23
        go_wp2
        repeat (go_quiet (fail);try go_wp2)
        go_ret
        exact ⟨by first|rfl|(simp [errW_none,errW_some] <;> rfl)|(simp [*,errW_none,errW_some] <;> rfl),by repeat (first|(with_reducible first|exact HB.out|apply zD|apply zB|apply zC|refine zF ?_ GE425.out)|exact HB.out)⟩
 ·replace c3:=Bool.eq_false_iff.mpr c3
  subst c3
  have H1:(some false) = some r:=by rw [if_neg (show ¬ (false = true) by decide)] at H;exact H
  clear H
  have H:=H1
  clear H1
  obtain rfl:=zS H
  go_enter Try.func76,Try.ntmps76
  go_wp2_with (first|((with_reducible refine gate_dst (N:=1) rfl ?_);refine box_event ?hg (N:=1) ?hd (cs:=#[.slice A0_0 l0_0.length c0_0,.slice A0_1 l0_1.length c0_1]) (t:=33) ?hr ?_;(case hd=>rfl);(case hg=>rfl);(case hr=>first|(go_simp;done)|(go_simp;rfl));intro gb425 hg w24 hbox hb;have n0_:=zA (zR (by exact zB_ HB.out) hb);have n1_:=zA (hbox);have n2_:=zA ((by rw [hg];exact (zQ (by exact zB_ HB.out)):w.heap.size≤gb425));have n3_:=zA ((by rw [hg];exact (zQ (by exact zB_ HB.out)):w.heap.size≤gb425));clear HB;have HB:=n0_;have BK425:=n1_;have GW425:=n2_;have GE425:=n3_;clear n0_ n1_ n2_ n3_;clear hb hbox hg;have hcz25_0:w24.cell? ⟨gb425,0,none⟩ = some (.slice A0_0 l0_0.length c0_0):=(zT BK425.out 0).trans rfl;have hcz25_1:w24.cell? ⟨gb425,1,none⟩ = some (.slice A0_1 l0_1.length c0_1):=(zT BK425.out 1).trans rfl;have hfz25_0:=zZ BK425.out 0;have hfz25_1:=zZ BK425.out 1)|(go_at_call 94;(with_reducible refine (spec_l1Both.calls k _ _ l0_0 _ _ l0_1 false _ ?side1 ?side2 ?side3 ?side4 A2.out).mono ?_);(case side1=>repeat (first|exact (zW HR0_0.out HB.out)|(with_reducible exact HR0_0.out)|apply zC_));(case side2=>exact HC0_0.out);(case side3=>repeat (first|exact (zW HR0_1.out HB.out)|(with_reducible exact HR0_1.out)|apply zC_));(case side4=>exact HC0_1.out);rintro e w' ⟨rfl,⟨nd,rfl⟩⟩;(try first|exact ⟨rfl,_,World.drewN_drewN _ _ _⟩|exact ⟨rfl,_,Eq.trans (World.drewN_drewN _ _ _) (congrArg (World.drewN _) (Nat.add_assoc _ _ _))⟩)))
  repeat (go_quiet (fail);try go_wp2_with (first|((with_reducible refine gate_dst (N:=1) rfl ?_);refine box_event ?hg (N:=1) ?hd (cs:=#[.slice A0_0 l0_0.length c0_0,.slice A0_1 l0_1.length c0_1]) (t:=33) ?hr ?_;(case hd=>rfl);(case hg=>rfl);(case hr=>first|(go_simp;done)|(go_simp;rfl));intro gb425 hg w24 hbox hb;have n0_:=zA (zR (by exact zB_ HB.out) hb);have n1_:=zA (hbox);have n2_:=zA ((by rw [hg];exact (zQ (by exact zB_ HB.out)):w.heap.size≤gb425));have n3_:=zA ((by rw [hg];exact (zQ (by exact zB_ HB.out)):w.heap.size≤gb425));clear HB;have HB:=n0_;have BK425:=n1_;have GW425:=n2_;have GE425:=n3_;clear n0_ n1_ n2_ n3_;clear hb hbox hg;have hcz25_0:w24.cell? ⟨gb425,0,none⟩ = some (.slice A0_0 l0_0.length c0_0):=(zT BK425.out 0).trans rfl;have hcz25_1:w24.cell? ⟨gb425,1,none⟩ = some (.slice A0_1 l0_1.length c0_1):=(zT BK425.out 1).trans rfl;have hfz25_0:=zZ BK425.out 0;have hfz25_1:=zZ BK425.out 1)|(go_at_call 94;(with_reducible refine (spec_l1Both.calls k _ _ l0_0 _ _ l0_1 false _ ?side1 ?side2 ?side3 ?side4 A2.out).mono ?_);(case side1=>repeat (first|exact (zW HR0_0.out HB.out)|(with_reducible exact HR0_0.out)|apply zC_));(case side2=>exact HC0_0.out);(case side3=>repeat (first|exact (zW HR0_1.out HB.out)|(with_reducible exact HR0_1.out)|apply zC_));(case side4=>exact HC0_1.out);rintro e w' ⟨rfl,⟨nd,rfl⟩⟩;(try first|exact ⟨rfl,_,World.drewN_drewN _ _ _⟩|exact ⟨rfl,_,Eq.trans (World.drewN_drewN _ _ _) (congrArg (World.drewN _) (Nat.add_assoc _ _ _))⟩))))
  go_ret
  exact ⟨by first|rfl|(simp [errW_none,errW_some] <;> rfl)|(simp [*,errW_none,errW_some] <;> rfl),by repeat (first|(with_reducible first|exact HB.out|apply zD|apply zB|apply zC|refine zF ?_ GE425.out)|exact HB.out)⟩

/-! ### spec_l1Cycles: function 84 -/
mutual
def spec_l1Cycles.l0:Nat→List Int→List (List Int)→List Bool→Int→Option ((List (List Int)))
 | 0,_,_,_,_=>none
 | k+1,x0,x3,x4,x5=>if x5 < (x0.length:Int) then (if 0≤x5 then (if x5 < (x4.length:Int) then (if rdOf false x4 x5 = true then (spec_l1Cycles.l0 k x0 x3 x4 (wrap64 (x5+1))) else (spec_l1Cycles.l1 k x0 x3 x4 x5 (([]:List Int)) x5)) else (none)) else (none)) else (some x3)
def spec_l1Cycles.l1:Nat→List Int→List (List Int)→List Bool→Int→List Int→Int→Option ((List (List Int)))
 | 0,_,_,_,_,_,_=>none
 | k+1,x0,x3,x4,x5,x6,x7=>if 0≤x7 then (if x7 < (x4.length:Int) then (if rdOf false x4 x7 = true then (if x3.length < 5864062014805 then (spec_l1Cycles.l0 k x0 (x3 ++ [x6]) x4 (wrap64 (x5+1))) else (none)) else (if x6.length < 17592186044416 then (if x7 < (x0.length:Int) then (spec_l1Cycles.l1 k x0 x3 (x4.set (x7:Int).toNat true) x5 (x6 ++ [x7]) (rd x0 x7)) else (none)) else (none))) else (none)) else (none)
end
def spec_l1Cycles.f (k:Nat) (l0:List Int):Option ((List (List Int))):=if 0≤(l0.length:Int) then (if ((l0.length:Int):Int).toNat≤281474976710656 then (spec_l1Cycles.l0 k l0 (([]:List (List Int))) (List.replicate ((l0.length:Int):Int).toNat false) 0) else (none)) else (none)
theorem spec_l1Cycles.mono_l:∀ k,(∀ y0 y1 y2 y3,LeO (spec_l1Cycles.l0 k y0 y1 y2 y3) (spec_l1Cycles.l0 (k+1) y0 y1 y2 y3))∧(∀ y0 y1 y2 y3 y4 y5,LeO (spec_l1Cycles.l1 k y0 y1 y2 y3 y4 y5) (spec_l1Cycles.l1 (k+1) y0 y1 y2 y3 y4 y5))
 | 0=>⟨fun _ _ _ _ r h=>by simp [spec_l1Cycles.l0] at h,fun _ _ _ _ _ _ r h=>by simp [spec_l1Cycles.l1] at h⟩
 | k+1=>by
  obtain ⟨ih0,ih1⟩:=spec_l1Cycles.mono_l k
  refine ⟨?_,?_⟩
  ·intro y0 y1 y2 y3
   unfold spec_l1Cycles.l0
   repeat' first
   | (with_reducible exact ih0 _ _ _ _)
   | (with_reducible exact ih1 _ _ _ _ _ _)
   | (with_reducible exact LeO.refl _)
   | (with_reducible exact za _)
   | (with_reducible refine zc ?_ ?_)
   | (with_reducible refine zb ?_ (fun _=>?_))
  ·intro y0 y1 y2 y3 y4 y5
   unfold spec_l1Cycles.l1
   repeat' first
   | (with_reducible exact ih0 _ _ _ _)
   | (with_reducible exact ih1 _ _ _ _ _ _)
   | (with_reducible exact LeO.refl _)
   | (with_reducible exact za _)
   | (with_reducible refine zc ?_ ?_)
   | (with_reducible refine zb ?_ (fun _=>?_))
theorem spec_l1Cycles.mono:∀ a0 k,LeO (spec_l1Cycles.f k a0) (spec_l1Cycles.f (k+1) a0):=by
 intro a0 k
 obtain ⟨ih0,ih1⟩:=spec_l1Cycles.mono_l k
 unfold spec_l1Cycles.f
 repeat' first
   | (with_reducible exact ih0 _ _ _ _)
   | (with_reducible exact ih1 _ _ _ _ _ _)
   | (with_reducible exact LeO.refl _)
   | (with_reducible exact za _)
   | (with_reducible refine zc ?_ ?_)
   | (with_reducible refine zb ?_ (fun _=>?_))
set_option maxHeartbeats 8000000 in
set_option maxRecDepth 100000 in
theorem spec_l1Cycles.calls (k:Nat) (A0:Option Addr) (c0:Nat) (l0:List Int) (r:List (List Int)) (w:World) (hr0:Kd.C (Kd.int .i64) w A0 l0.length l0) (hc0:l0.length≤c0) (h:spec_l1Cycles.f k l0 = some r) :
  Calls Try.prog 84 #[.slice A0 l0.length c0] w fun e w' => ∃ v0_:Value,e = .returned (v0_)∧Kd.S (Kd.slice 3 (Kd.int .i64)) 31 w' w.heap.size (fun _=>True) v0_ r∧Below w.heap.size w w':=by
 have HR0:=zA hr0
 have HC0:=zA hc0
 clear hr0 hc0
 have HB:=zA (Below.refl w.heap.size w)
 have H:(if 0≤(l0.length:Int) then (if ((l0.length:Int):Int).toNat≤281474976710656 then (spec_l1Cycles.l0 k l0 (([]:List (List Int))) (List.replicate ((l0.length:Int):Int).toNat false) 0) else (none)) else (none)) = some r:=h
 clear h
 obtain ⟨y434,hy434⟩:∃ y_:List (List Int),y_ = (([]:List (List Int))):=⟨_,rfl⟩
 replace H:(if 0≤(l0.length:Int) then (if ((l0.length:Int):Int).toNat≤281474976710656 then (spec_l1Cycles.l0 k l0 y434 (List.replicate ((l0.length:Int):Int).toNat false) 0) else (none)) else (none)) = some r:=by (try rw [hy434]);first|with_reducible exact H|with_reducible exact zS_ H|exact H
 have Ny434:=zA hy434
 clear hy434
 by_cases c2:0≤(l0.length:Int)
 ·rw [if_pos c2] at H
  have c2b0:=eq_true c2
  have c2b1:decide (0≤(l0.length:Int)) = true:=zO c2
  clear c2
  by_cases c3:((l0.length:Int):Int).toNat≤281474976710656
  ·rw [if_pos c3] at H
   have c3b0:=eq_true c3
   have c3b1:decide (((l0.length:Int):Int).toNat≤281474976710656) = true:=zO c3
   clear c3
   obtain ⟨y437,hy437⟩:∃ y_:List Bool,y_ = (List.replicate ((l0.length:Int):Int).toNat false):=⟨_,rfl⟩
   replace H:(spec_l1Cycles.l0 k l0 y434 y437 0) = some r:=by (try rw [hy437]);first|with_reducible exact H|with_reducible exact zS_ H|exact H
   have Ny437:=zA hy437
   clear hy437
   have H':=zA H
   clear H
   go_enter Try.func84,Try.ntmps84
   go_wp2_with (first|((with_reducible refine gate_dst (N:=8) rfl ?_);refine Kd.S_lit (Kd.slice 3 (Kd.int .i64)) _ 31 ?hg (N:=8) ?hd (xs:=([]:List (List Int))) (inner:=[]) (ok:=fun _=>True) (okp:=fun _=>True) ?hr ?hp (fun _ hk=>hk) trivial (Below.refl _ _) (Nat.le_refl _) (by simp) ?_;(case hd=>rfl);(case hg=>rfl);(case hr=>first|(go_simp;done)|(go_simp;rfl));(case hp=>exact (Reps.none _ _));intro v435 w4 ho5 hb hg_ hnew_;clear hg_ hnew_;(first|rw [← Ny434.out] at ho5|(simp only [Int.reduceToNat] at ho5;rw [← Ny434.out] at ho5));have n0_:=zA (Kd.S_lower ho5 (zQ (by exact zB_ HB.out)));have n1_:=zA (zR (by exact zB_ HB.out) hb);clear HB;have HO436:=n0_;have HB:=n1_;clear n0_ n1_;clear hb ho5)|((with_reducible refine gate_dst (N:=11) rfl ?_);refine Kd.R_make Kd.bool _ 4 rfl (N:=11) rfl 73 _ _ rfl (l0.length:Int) rfl rfl Try.underlying73 (.bool false) 1 info4 rfl (by decide) (by omega) false (ok:=fun _=>True) (okp:=fun _=>True) rfl (fun _ hk=>hk) trivial (zE (by with_reducible assumption)) (Nat.le_trans (Nat.mul_le_mul_right _ (zE (by with_reducible assumption):(l0.length:Int).toNat≤281474976710656)) (by omega)) (Below.refl _ _) (Nat.le_refl _) ?_;intro v438 w6 ho7 hb hg_ hnew_;clear hg_ hnew_;(first|rw [← Ny437.out] at ho7|(simp only [Int.reduceToNat] at ho7;rw [← Ny437.out] at ho7));have n0_:=zA (Kd.S_below (by (with_reducible repeat (first|apply Kd.S_alloc|apply Kd.S_drewN|apply Kd.S_drew));exact HO436.out) hb);have n1_:=zA (ze ho7 (zQ (by exact zB_ HB.out)));have n2_:=zA (zR (by exact zB_ HB.out) hb);clear HO436;clear HB;have HO436:=n0_;have HO439:=n1_;have HB:=n2_;clear n0_ n1_ n2_;clear hb ho7))
   go_loopg [3,5] k (fun kq v3 v5 w' => ∃ (x3_1:List (List Int)) (x4_1:List Bool) (x5_1:Int),v5 = .int .i64 x5_1∧Aside0 (spec_l1Cycles.l0 kq l0 x3_1 x4_1 x5_1 = some r)∧Aside0 (kq≤k)∧Aside0 (Kd.S (Kd.slice 3 (Kd.int .i64)) 31 w' w.heap.size (fun _=>True) v3 x3_1)∧Aside0 (Kd.R Kd.bool 4 w' w.heap.size (fun _=>True) v438 x4_1)∧Aside0 (Below w.heap.size w w'))
   case atStart=>exact ⟨(y434),(y437),(0),(by first|rfl|(simp;done)|(simp [*];done)),H',⟨Nat.le_refl _⟩,⟨by (with_reducible repeat (first|apply Kd.S_alloc|apply Kd.S_drewN|apply Kd.S_drew));exact HO436.out⟩,⟨by apply zR_;exact HO439.out⟩,⟨by exact zB_ HB.out⟩⟩
   case round =>
    clear H'
    (try clear c2);(try clear c2b0);(try clear c2b1);(try clear p2);(try clear c3);(try clear c3b0);(try clear c3b1)
    obtain ⟨x3_1,x4_1,x5_1,rfl,HA,HK1,HO_3,HO_4,HB⟩:=hrel
    cases gk with
    | zero=>exact absurd HA.out (by simp [spec_l1Cycles.l0])
    | succ k1 =>
     have H:=HA.out
     clear HA
     simp only [spec_l1Cycles.l0] at H
     by_cases c8:x5_1 < (l0.length:Int)
     ·rw [if_pos c8] at H
      have c8b0:decide (x5_1 < (l0.length:Int)) = true:=zO c8
      clear c8
      by_cases c9:0≤x5_1
      ·rw [if_pos c9] at H
       have c9b0:decide (0≤x5_1) = true:=zO c9
       clear c9
       by_cases c10:x5_1 < (x4_1.length:Int)
       ·rw [if_pos c10] at H
        have c10b0:decide (x5_1 < (x4_1.length:Int)) = true:=zO c10
        clear c10
        obtain ⟨bq11,hbq11⟩:∃ b_:Bool,b_ = (rdOf false x4_1 x5_1):=⟨_,rfl⟩
        replace H:(if bq11 = true then (spec_l1Cycles.l0 k1 l0 x3_1 x4_1 (wrap64 (x5_1+1))) else (spec_l1Cycles.l1 k1 l0 x3_1 x4_1 x5_1 (([]:List Int)) x5_1)) = some r:=by rw [← hbq11] at H;exact H
        have Nbq11:=zA hbq11
        clear hbq11
        by_cases c12:bq11 = true
        ·subst c12
         rw [if_pos rfl] at H;try dsimp only at H
         have H':=zA H
         clear H
         obtain ⟨Ao13,co13,eo13⟩:=zg HO_4.out
         subst eo13
         have p440:0≤(x5_1:Int):=zE (by with_reducible assumption)
         have q440:x5_1 < (x4_1.length:Int):=zE (by with_reducible assumption)
         obtain ⟨ad440,e440,hx440_0⟩:=Kd.at_bool (zU HO_4.out).2.2 x5_1 p440 q440
         (try rw [← Nbq11.out] at hx440_0)
         cases e440
         replace p440:=eq_true p440
         replace q440:=eq_true q440
         go_wp2
         go_roundg k1
         case measure=>have:=HK1.out;omega
         case rel=>exact ⟨(x3_1),(x4_1),(wrap64 (x5_1+1)),(by first|rfl|(simp;done)|(simp [*];done)),H',⟨by have:=HK1.out;omega⟩,⟨by (with_reducible repeat (first|apply Kd.S_alloc|apply Kd.S_drewN|apply Kd.S_drew));exact HO_3.out⟩,⟨by apply zR_;exact HO_4.out⟩,⟨by exact zB_ HB.out⟩⟩
        ·replace c12:=Bool.eq_false_iff.mpr c12
         subst c12
         have H1:(spec_l1Cycles.l1 k1 l0 x3_1 x4_1 x5_1 (([]:List Int)) x5_1) = some r:=by rw [if_neg (show ¬ (false = true) by decide)] at H;exact H
         clear H
         have H:=H1
         clear H1
         obtain ⟨y441,hy441⟩:∃ y_:List Int,y_ = (([]:List Int)):=⟨_,rfl⟩
         replace H:(spec_l1Cycles.l1 k1 l0 x3_1 x4_1 x5_1 y441 x5_1) = some r:=by (try rw [hy441]);first|with_reducible exact H|with_reducible exact zS_ H|exact H
         have Ny441:=zA hy441
         clear hy441
         have H':=zA H
         clear H
         obtain ⟨Ao14,co14,eo14⟩:=zg HO_4.out
         subst eo14
         have p440:0≤(x5_1:Int):=zE (by with_reducible assumption)
         have q440:x5_1 < (x4_1.length:Int):=zE (by with_reducible assumption)
         obtain ⟨ad440,e440,hx440_0⟩:=Kd.at_bool (zU HO_4.out).2.2 x5_1 p440 q440
         (try rw [← Nbq11.out] at hx440_0)
         cases e440
         replace p440:=eq_true p440
         replace q440:=eq_true q440
         go_wp2_with (first|((with_reducible refine gate_dst (N:=22) rfl ?_);refine Kd.R_lit (Kd.int .i64) _ 3 ?hg (N:=22) ?hd (xs:=([]:List Int)) (inner:=[]) (ok:=fun _=>True) (okp:=fun _=>True) ?hr ?hp (fun _ hk=>hk) trivial (Below.refl _ _) (Nat.le_refl _) (by simp) ?_;(case hd=>rfl);(case hg=>rfl);(case hr=>first|(go_simp;done)|(go_simp;rfl));(case hp=>exact (Reps.none _ _));intro v442 w15 ho16 hb hg_ hnew_;clear hg_ hnew_;(first|rw [← Ny441.out] at ho16|(simp only [Int.reduceToNat] at ho16;rw [← Ny441.out] at ho16));have n0_:=zA (Kd.S_elder' (by (with_reducible repeat (first|apply Kd.S_alloc|apply Kd.S_drewN|apply Kd.S_drew));exact HO_3.out) (zd ho16) hb);have n1_:=zA (zj (by apply zR_;exact HO_4.out) hb);have n2_:=zA (ze ho16 (zQ (by exact zB_ HB.out)));have n3_:=zA (zR (by exact zB_ HB.out) hb);clear HO_3;clear HO_4;clear HB;have HO_3:=n0_;have HO_4:=n1_;have HO443:=n2_;have HB:=n3_;clear n0_ n1_ n2_ n3_;clear hb ho16))
         generalize hq_:Addr.add _ _ = adq_
         clear hq_
         go_loopg [6,7] k1 (fun kq v6 v7 w' => ∃ (x4_2:List Bool) (x6_2:List Int) (x7_2:Int),v7 = .int .i64 x7_2∧Aside0 (spec_l1Cycles.l1 kq l0 x3_1 x4_2 x5_1 x6_2 x7_2 = some r)∧Aside0 (kq≤k1)∧Aside0 (Kd.S (Kd.slice 3 (Kd.int .i64)) 31 w' w.heap.size (fun k_=>some k_≠(v6:Value).ownBlock) u3 x3_1)∧Aside0 (Kd.R Kd.bool 4 w' w.heap.size (fun _=>True) (.slice (some ad440) x4_1.length co14) x4_2)∧Aside0 (Kd.R (Kd.int .i64) 3 w' w.heap.size (fun _=>True) v6 x6_2)∧Aside0 (Below w.heap.size w w'))
         case atStart=>exact ⟨(x4_1),(y441),(x5_1),(by first|rfl|(simp;done)|(simp [*];done)),H',⟨Nat.le_refl _⟩,⟨by (with_reducible repeat (first|apply Kd.S_alloc|apply Kd.S_drewN|apply Kd.S_drew));exact Kd.S_mono HO_3.out (fun _ hk=>hk.2)⟩,⟨by apply zR_;exact HO_4.out⟩,⟨by apply zR_;exact HO443.out⟩,⟨by exact zB_ HB.out⟩⟩
         case round =>
          clear H'
          (try clear c1);(try clear q1);(try clear c2);(try clear c2b0);(try clear c2b1);(try clear p2);(try clear c3);(try clear c3b0);(try clear c3b1);(try clear p4);(try clear q4);(try clear hx4);(try clear p6);(try clear c8);(try clear c8b0);(try clear c9);(try clear c9b0);(try clear c10);(try clear c10b0);(try clear q11);(try clear c12);(try clear hx440_0);(try clear p2);(try clear p440);(try clear q440)
          obtain ⟨x4_2,x6_2,x7_2,rfl,HA,HK2,HO_3,HO_4,HO_6,HB⟩:=hrel
          have hl4_2:=(zU HO_4.out).1
          rw [hl4_2] at HO_4
          (try simp only [hl4_2])
          (try simp only [hl4_2] at HO_3)
          (try simp only [hl4_2] at HO_6)
          cases gk with
          | zero=>exact absurd HA.out (by simp [spec_l1Cycles.l1])
          | succ k2 =>
           have H:=HA.out
           clear HA
           simp only [spec_l1Cycles.l1] at H
           by_cases c17:0≤x7_2
           ·rw [if_pos c17] at H
            have c17b0:decide (0≤x7_2) = true:=zO c17
            clear c17
            by_cases c18:x7_2 < (x4_2.length:Int)
            ·rw [if_pos c18] at H
             have c18b0:decide (x7_2 < (x4_2.length:Int)) = true:=zO c18
             clear c18
             obtain ⟨bq19,hbq19⟩:∃ b_:Bool,b_ = (rdOf false x4_2 x7_2):=⟨_,rfl⟩
             replace H:(if bq19 = true then (if x3_1.length < 5864062014805 then (spec_l1Cycles.l0 k2 l0 (x3_1 ++ [x6_2]) x4_2 (wrap64 (x5_1+1))) else (none)) else (if x6_2.length < 17592186044416 then (if x7_2 < (l0.length:Int) then (spec_l1Cycles.l1 k2 l0 x3_1 (x4_2.set (x7_2:Int).toNat true) x5_1 (x6_2 ++ [x7_2]) (rd l0 x7_2)) else (none)) else (none))) = some r:=by rw [← hbq19] at H;exact H
             have Nbq19:=zA hbq19
             clear hbq19
             by_cases c20:bq19 = true
             ·subst c20
              rw [if_pos rfl] at H;try dsimp only at H
              by_cases c21:x3_1.length < 5864062014805
              ·rw [if_pos c21] at H
               have LMc21:=zA c21
               clear c21
               obtain ⟨y445,hy445⟩:∃ y_:List (List Int),y_ = (x3_1 ++ [x6_2]):=⟨_,rfl⟩
               replace H:(spec_l1Cycles.l0 k2 l0 y445 x4_2 (wrap64 (x5_1+1))) = some r:=by (try rw [hy445]);first|with_reducible exact H|with_reducible exact zS_ H|exact H
               have Ny445:=zA hy445
               clear hy445
               have H':=zA H
               clear H
               have p444:0≤(x7_2:Int):=zE (by with_reducible assumption)
               have q444:x7_2 < (x4_2.length:Int):=zE (by with_reducible assumption)
               obtain ⟨ad444,e444,hx444_0⟩:=Kd.at_bool (zU HO_4.out).2.2 x7_2 p444 q444
               (try rw [← Nbq11.out] at hx444_0)
               (try rw [← Nbq19.out] at hx444_0)
               obtain rfl:ad440 = ad444:=(by injection e444)
               replace p444:=eq_true p444
               replace q444:=eq_true q444
               obtain ⟨Ao23,co23,eo23⟩:=zg HO_6.out
               subst eo23
               go_wp2_with (first|((with_reducible refine gate_builtin (b:=.append) (xs:=#[.tmp 40,.tmp 42]) rfl ?_);at_builtin;refine Kd.S_append (Kd.slice 3 (Kd.int .i64)) (w0:=w) w.heap.size rfl (.tmp 40) (.tmp 42) 55 31 (.slice none 0 0) 24 rfl Try.underlying55 info31 rfl (by decide) (by omega) u3 x3_1 x6_2 [.slice Ao23 x6_2.length co23] (fun _=>True) (fun k_=>some k_ = (.slice Ao23 x6_2.length co23:Value).ownBlock) rfl rfl ?aP (fun k_ hk_=>((zV (ok':=fun k_=>((fun _=>True)) k_∧some k_≠(u3:Value).ownBlock) (Kd.R_apart' (HO_6.out) (Kd.S_typed HO_3.out) (by decide)) (fun k_ hk=>⟨trivial,hk.2⟩))).1 k_ hk_.symm) ?aF ?aO ?aB ?aS ?aL ?_;(case aP=>exact Kd.M_row (zV (Kd.R_tight rfl (zV (ok':=fun k_=>((fun _=>True)) k_∧some k_≠(u3:Value).ownBlock) (Kd.R_apart' (HO_6.out) (Kd.S_typed HO_3.out) (by decide)) (fun k_ hk=>⟨trivial,hk.2⟩))) (fun _ h_=>h_)));(case aB=>exact (by exact zB_ HB.out));(case aF=>exact (fun _ _=>trivial));(case aO=>exact (by (with_reducible repeat (first|apply Kd.S_alloc|apply Kd.S_drewN|apply Kd.S_drew));exact Kd.S_mono HO_3.out (fun k_ hk=>⟨trivial,fun e_=>hk e_⟩)));(case aS=>exact (zQ (by exact zB_ HB.out)));(case aL=>have:=LMc21.out;omega);intro v446 w22 ho hb hg hat;rw [← Ny445.out] at ho;have n0_:=zA (Kd.R_over' (by apply zR_;exact HO_4.out) (Kd.S_typed (by (with_reducible repeat (first|apply Kd.S_alloc|apply Kd.S_drewN|apply Kd.S_drew));exact HO_3.out)) (by decide) hg);have n1_:=zA (hb);have n2_:=zA (ho);clear HO_4;clear HB;clear HO_3;clear HO_6;have HO_4:=n0_;have HB:=n1_;have HO447:=n2_;clear n0_ n1_ n2_;clear ho hb hg hat))
               (try simp only [← hl4_2])
               go_roundg k2
               case measure=>have:=HK1.out;have:=HK2.out;omega
               case rel=>exact ⟨(y445),(x4_2),(wrap64 (x5_1+1)),(by first|rfl|(simp;done)|(simp [*];done)),H',⟨by have:=HK1.out;have:=HK2.out;omega⟩,⟨by (try simp only [hl4_2]);(with_reducible repeat (first|apply Kd.S_alloc|apply Kd.S_drewN|apply Kd.S_drew));exact HO447.out⟩,⟨by (try simp only [hl4_2]);apply zR_;exact HO_4.out⟩,⟨by exact zB_ HB.out⟩⟩
              ·rw [if_neg c21] at H
               exact absurd H (by simp)
             ·replace c20:=Bool.eq_false_iff.mpr c20
              subst c20
              have H1:(if x6_2.length < 17592186044416 then (if x7_2 < (l0.length:Int) then (spec_l1Cycles.l1 k2 l0 x3_1 (x4_2.set (x7_2:Int).toNat true) x5_1 (x6_2 ++ [x7_2]) (rd l0 x7_2)) else (none)) else (none)) = some r:=by rw [if_neg (show ¬ (false = true) by decide)] at H;exact H
              clear H
              have H:=H1
              clear H1
              obtain ⟨y448,hy448⟩:∃ y_:List Bool,y_ = (x4_2.set (x7_2:Int).toNat true):=⟨_,rfl⟩
              replace H:(if x6_2.length < 17592186044416 then (if x7_2 < (l0.length:Int) then (spec_l1Cycles.l1 k2 l0 x3_1 y448 x5_1 (x6_2 ++ [x7_2]) (rd l0 x7_2)) else (none)) else (none)) = some r:=by (try rw [hy448]);first|with_reducible exact H|with_reducible exact zS_ H|exact H
              have Ny448:=zA hy448
              clear hy448
              by_cases c25:x6_2.length < 17592186044416
              ·rw [if_pos c25] at H
               have LMc25:=zA c25
               clear c25
               obtain ⟨y449,hy449⟩:∃ y_:List Int,y_ = (x6_2 ++ [x7_2]):=⟨_,rfl⟩
               replace H:(if x7_2 < (l0.length:Int) then (spec_l1Cycles.l1 k2 l0 x3_1 y448 x5_1 y449 (rd l0 x7_2)) else (none)) = some r:=by (try rw [hy449]);first|with_reducible exact H|with_reducible exact zS_ H|exact H
               have Ny449:=zA hy449
               clear hy449
               by_cases c26:x7_2 < (l0.length:Int)
               ·rw [if_pos c26] at H
                have c26b0:decide (x7_2 < (l0.length:Int)) = true:=zO c26
                clear c26
                have H':=zA H
                clear H
                have p444:0≤(x7_2:Int):=zE (by with_reducible assumption)
                have q444:x7_2 < (x4_2.length:Int):=zE (by with_reducible assumption)
                obtain ⟨ad444,e444,hx444_0⟩:=Kd.at_bool (zU HO_4.out).2.2 x7_2 p444 q444
                (try rw [← Nbq11.out] at hx444_0)
                (try rw [← Nbq19.out] at hx444_0)
                obtain rfl:ad440 = ad444:=(by injection e444)
                replace p444:=eq_true p444
                replace q444:=eq_true q444
                have p24:0≤(x7_2:Int):=zE (by with_reducible assumption)
                have q24:(x7_2:Int) < ((x4_2.length:Int):Int):=zE (by with_reducible assumption)
                obtain ⟨go24,co24,eo24,gb24,gl24,cl24,HG24⟩:=Kd.R_form HO_4.out (by omega)
                (first|cases eo24|(injection eo24 with ea_ en_ ec_;(first|subst ea_|(injection ea_ with ea_;subst ea_));subst ec_;clear en_))
                have GB24:=zA gb24
                have GG24:=zA HG24
                clear gb24 gl24 HG24
                (first|simp only [add_plain] at hx440_0|skip)
                (first|simp only [add_plain] at hx444_0|skip)
                obtain ⟨hx24_0,hf24_0⟩:=Kd.R_celln false HO_4.out (x7_2:Int) p24 q24
                replace p24:=eq_true p24
                replace q24:=eq_true q24
                have HP27:=Kd.R_putg HO_4.out (x7_2:Int) true
                go_wp2_with (first|((with_reducible refine gate_store (t:=4) (p:=35) rfl ?_);refine store_event (t:=4) (p:=35) (v:=?vo_w28) (w1:=(wr.setCell ⟨go24,(x7_2:Int).toNat,none⟩ (.bool true))) ?hg ?ho ?hn ?hr ?_;(case ho=>rfl);(case hg=>rfl);(case hn=>rfl);(case hr=>first|(go_simp;done)|(go_simp;rfl));intro w28 hw;have hg:wr.grownBy w28 (some go24):=(by rw [hw];exact HP27.2);have hp_:Kd.R Kd.bool 4 w28 w.heap.size (fun _=>True) (.slice (some ⟨go24,0,none⟩) x4_2.length co14) y448:=(by rw [hw,Ny448.out];exact HP27.1);clear HP27;have n0_:=zA (Kd.S_over' (v:=(.slice (some ⟨go24,0,none⟩) x4_2.length co14)) (by (with_reducible repeat (first|apply Kd.S_alloc|apply Kd.S_drewN|apply Kd.S_drew));exact HO_3.out) (Kd.R_typed HO_4.out) (by decide) hg);have n1_:=zA (hp_);have n2_:=zA (Kd.R_over' (v:=(.slice (some ⟨go24,0,none⟩) x4_2.length co14)) (by apply zR_;exact HO_6.out) (Kd.R_typed HO_4.out) (by decide) hg);have n3_:=zA ((by rw [hw];exact zF (HB.out) GB24.out:Below w.heap.size w w28));clear HO_3;clear HO_4;clear HO_6;clear HB;have HO_3:=n0_;have HO_4:=n1_;have HO_6:=n2_;have HB:=n3_;clear n0_ n1_ n2_ n3_;clear hg hw hp_)|((with_reducible refine gate_builtin (b:=.append) (xs:=#[.tmp 36,.tmp 38]) rfl ?_);at_builtin;refine Kd.R_append (Kd.int .i64) (w0:=w) w.heap.size rfl (.tmp 36) (.tmp 38) 31 3 (.int .i64 0) 8 rfl Try.underlying31 info3 rfl (by decide) (by omega) u6 x6_2 x7_2 [.int .i64 x7_2] (fun _=>True) (fun _=>False) rfl rfl ?aP (fun _ hk=>hk.elim) ?aF ?aO ?aB ?aS ?aL ?_;(case aP=>exact rfl);(case aB=>exact (by exact zB_ HB.out));(case aF=>exact (fun _ _=>trivial));(case aO=>exact (by apply zR_;exact HO_6.out));(case aS=>exact (zQ (by exact zB_ HB.out)));(case aL=>have:=LMc25.out;omega);intro v450 w29 ho hb hg hat;rw [← Ny449.out] at ho;have n0_:=zA (Kd.S_after (ok:=(fun _=>True)) (by (with_reducible repeat (first|apply Kd.S_alloc|apply Kd.S_drewN|apply Kd.S_drew));exact Kd.S_mono HO_3.out (fun _ hk=>⟨trivial,hk⟩)) hg hat);have n1_:=zA (Kd.R_over' (by apply zR_;exact HO_4.out) (Kd.R_typed (by apply zR_;exact HO_6.out)) (by decide) hg);have n2_:=zA (hb);have n3_:=zA (ho);clear HO_3;clear HO_4;clear HB;clear HO_6;have HO_3:=n0_;have HO_4:=n1_;have HB:=n2_;have HO451:=n3_;clear n0_ n1_ n2_ n3_;clear ho hb hg hat;have p452:0≤(x7_2:Int):=zE (by with_reducible assumption);have q452:x7_2 < (l0.length:Int):=zE (by with_reducible assumption);obtain ⟨ad452,e452,hx452_0⟩:=Kd.at_int HR0.out x7_2 p452 q452;cases e452;replace hx452_0:=(HB.out.cell (zY w _ hx452_0)).trans hx452_0;replace p452:=eq_true p452;replace q452:=eq_true q452))
                (try simp only [← hl4_2])
                go_roundg k2
                case measure=>have:=HK1.out;have:=HK2.out;omega
                case rel=>exact ⟨(y448),(y449),(rd l0 x7_2),(by first|rfl|(simp;done)|(simp [*];done)),H',⟨by have:=HK1.out;have:=HK2.out;omega⟩,⟨by (try simp only [hl4_2]);(with_reducible repeat (first|apply Kd.S_alloc|apply Kd.S_drewN|apply Kd.S_drew));exact Kd.S_mono HO_3.out (fun _ hk=>hk.2)⟩,⟨by (try simp only [hl4_2]);apply zR_;exact HO_4.out⟩,⟨by (try simp only [hl4_2]);apply zR_;exact HO451.out⟩,⟨by exact zB_ HB.out⟩⟩
               ·rw [if_neg c26] at H
                exact absurd H (by simp)
              ·rw [if_neg c25] at H
               exact absurd H (by simp)
            ·rw [if_neg c18] at H
             exact absurd H (by simp)
           ·rw [if_neg c17] at H
            exact absurd H (by simp)
       ·rw [if_neg c10] at H
        exact absurd H (by simp)
      ·rw [if_neg c9] at H
       exact absurd H (by simp)
     ·rw [if_neg c8] at H
      have c8b0:decide (x5_1 < (l0.length:Int)) = false:=zP c8
      clear c8
      obtain rfl:=zS H
      go_wp2
      go_ret
      exact ⟨_,by first|rfl|(simp [errW_none,errW_some] <;> rfl)|(simp [*,errW_none,errW_some] <;> rfl),by (with_reducible repeat (first|apply Kd.S_alloc|apply Kd.S_drewN|apply Kd.S_drew));exact HO_3.out,by exact zB_ HB.out⟩
  ·rw [if_neg c3] at H
   exact absurd H (by simp)
 ·rw [if_neg c2] at H
  exact absurd H (by simp)

/-! ### spec_l1Mul: function 99 -/
def spec_l1Mul.l0:Nat→List Int→List Int→List Int→Int→Option (List Int)
 | 0,_,_,_,_=>none
 | k+1,x0,x1,x5,x6=>if x6 < (x0.length:Int) then (if 0≤x6 then (if 0≤(rd x0 x6) then (if (rd x0 x6) < (x1.length:Int) then (if x5.length < 17592186044416 then (spec_l1Mul.l0 k x0 x1 (x5 ++ [rd x1 (rd x0 x6)]) (wrap64 (x6+1))) else (none)) else (none)) else (none)) else (none)) else (some x5)
def spec_l1Mul.f (k:Nat) (l0:List Int) (l1:List Int):Option (List Int):=spec_l1Mul.l0 k l0 l1 (([]:List Int)) 0
theorem spec_l1Mul.mono_l:∀ k,(∀ y0 y1 y2 y3,LeO (spec_l1Mul.l0 k y0 y1 y2 y3) (spec_l1Mul.l0 (k+1) y0 y1 y2 y3))
 | 0=>fun _ _ _ _ r h=>by simp [spec_l1Mul.l0] at h
 | k+1=>by
  have ih0:=spec_l1Mul.mono_l k
  ·intro y0 y1 y2 y3
   unfold spec_l1Mul.l0
   repeat' first
   | (with_reducible exact ih0 _ _ _ _)
   | (with_reducible exact LeO.refl _)
   | (with_reducible exact za _)
   | (with_reducible refine zc ?_ ?_)
   | (with_reducible refine zb ?_ (fun _=>?_))
theorem spec_l1Mul.mono:∀ a0 a1 k,LeO (spec_l1Mul.f k a0 a1) (spec_l1Mul.f (k+1) a0 a1):=by
 intro a0 a1 k
 have ih0:=spec_l1Mul.mono_l k
 unfold spec_l1Mul.f
 repeat' first
   | (with_reducible exact ih0 _ _ _ _)
   | (with_reducible exact LeO.refl _)
   | (with_reducible exact za _)
   | (with_reducible refine zc ?_ ?_)
   | (with_reducible refine zb ?_ (fun _=>?_))
set_option maxHeartbeats 8000000 in
set_option maxRecDepth 100000 in
theorem spec_l1Mul.calls (k:Nat) (A0:Option Addr) (c0:Nat) (l0:List Int) (A1:Option Addr) (c1:Nat) (l1:List Int) (r:List Int) (w:World) (hr0:Kd.C (Kd.int .i64) w A0 l0.length l0) (hc0:l0.length≤c0) (hr1:Kd.C (Kd.int .i64) w A1 l1.length l1) (hc1:l1.length≤c1) (h:spec_l1Mul.f k l0 l1 = some r) :
  Calls Try.prog 99 #[.slice A0 l0.length c0,.slice A1 l1.length c1] w fun e w' => ∃ v0_:Value,e = .returned (v0_)∧Kd.R (Kd.int .i64) 3 w' w.heap.size (fun _=>True) v0_ r∧Below w.heap.size w w':=by
 have HR0:=zA hr0
 have HC0:=zA hc0
 clear hr0 hc0
 have HR1:=zA hr1
 have HC1:=zA hc1
 clear hr1 hc1
 have HB:=zA (Below.refl w.heap.size w)
 have H:(spec_l1Mul.l0 k l0 l1 (([]:List Int)) 0) = some r:=h
 clear h
 obtain ⟨y453,hy453⟩:∃ y_:List Int,y_ = (([]:List Int)):=⟨_,rfl⟩
 replace H:(spec_l1Mul.l0 k l0 l1 y453 0) = some r:=by (try rw [hy453]);first|with_reducible exact H|with_reducible exact zS_ H|exact H
 have Ny453:=zA hy453
 clear hy453
 have H':=zA H
 clear H
 go_enter Try.func99,Try.ntmps99
 go_wp2_with (first|((with_reducible refine gate_dst (N:=7) rfl ?_);refine Kd.R_lit (Kd.int .i64) _ 3 ?hg (N:=7) ?hd (xs:=([]:List Int)) (inner:=[]) (ok:=fun _=>True) (okp:=fun _=>True) ?hr ?hp (fun _ hk=>hk) trivial (Below.refl _ _) (Nat.le_refl _) (by simp) ?_;(case hd=>rfl);(case hg=>rfl);(case hr=>first|(go_simp;done)|(go_simp;rfl));(case hp=>exact (Reps.none _ _));intro v454 w3 ho4 hb hg_ hnew_;clear hg_ hnew_;(first|rw [← Ny453.out] at ho4|(simp only [Int.reduceToNat] at ho4;rw [← Ny453.out] at ho4));have n0_:=zA (ze ho4 (zQ (by exact zB_ HB.out)));have n1_:=zA (zR (by exact zB_ HB.out) hb);clear HB;have HO455:=n0_;have HB:=n1_;clear n0_ n1_;clear hb ho4))
 go_loopg [5,6] k (fun kq v5 v6 w' => ∃ (x5_1:List Int) (x6_1:Int),v6 = .int .i64 x6_1∧Aside0 (spec_l1Mul.l0 kq l0 l1 x5_1 x6_1 = some r)∧Aside0 (kq≤k)∧Aside0 (Kd.R (Kd.int .i64) 3 w' w.heap.size (fun _=>True) v5 x5_1)∧Aside0 (Below w.heap.size w w'))
 case atStart=>exact ⟨(y453),(0),(by first|rfl|(simp;done)|(simp [*];done)),H',⟨Nat.le_refl _⟩,⟨by apply zR_;exact HO455.out⟩,⟨by exact zB_ HB.out⟩⟩
 case round =>
  clear H'
  (try clear c1);(try clear p2)
  obtain ⟨x5_1,x6_1,rfl,HA,HK1,HO_5,HB⟩:=hrel
  cases gk with
  | zero=>exact absurd HA.out (by simp [spec_l1Mul.l0])
  | succ k1 =>
   have H:=HA.out
   clear HA
   simp only [spec_l1Mul.l0] at H
   by_cases c5:x6_1 < (l0.length:Int)
   ·rw [if_pos c5] at H
    have c5b0:decide (x6_1 < (l0.length:Int)) = true:=zO c5
    clear c5
    by_cases c6:0≤x6_1
    ·rw [if_pos c6] at H
     have c6b0:decide (0≤x6_1) = true:=zO c6
     clear c6
     by_cases c7:0≤(rd l0 x6_1)
     ·rw [if_pos c7] at H
      have c7b0:decide (0≤(rd l0 x6_1)) = true:=zO c7
      clear c7
      by_cases c8:(rd l0 x6_1) < (l1.length:Int)
      ·rw [if_pos c8] at H
       have c8b0:decide ((rd l0 x6_1) < (l1.length:Int)) = true:=zO c8
       clear c8
       by_cases c9:x5_1.length < 17592186044416
       ·rw [if_pos c9] at H
        have LMc9:=zA c9
        clear c9
        obtain ⟨y458,hy458⟩:∃ y_:List Int,y_ = (x5_1 ++ [rd l1 (rd l0 x6_1)]):=⟨_,rfl⟩
        replace H:(spec_l1Mul.l0 k1 l0 l1 y458 (wrap64 (x6_1+1))) = some r:=by (try rw [hy458]);first|with_reducible exact H|with_reducible exact zS_ H|exact H
        have Ny458:=zA hy458
        clear hy458
        have H':=zA H
        clear H
        have p456:0≤(x6_1:Int):=zE (by with_reducible assumption)
        have q456:x6_1 < (l0.length:Int):=zE (by with_reducible assumption)
        obtain ⟨ad456,e456,hx456_0⟩:=Kd.at_int HR0.out x6_1 p456 q456
        cases e456
        replace hx456_0:=(HB.out.cell (zY w _ hx456_0)).trans hx456_0
        replace p456:=eq_true p456
        replace q456:=eq_true q456
        have p457:0≤((rd l0 x6_1):Int):=zE (by with_reducible assumption)
        have q457:(rd l0 x6_1) < (l1.length:Int):=zE (by with_reducible assumption)
        obtain ⟨ad457,e457,hx457_0⟩:=Kd.at_int HR1.out (rd l0 x6_1) p457 q457
        cases e457
        replace hx457_0:=(HB.out.cell (zY w _ hx457_0)).trans hx457_0
        replace p457:=eq_true p457
        replace q457:=eq_true q457
        go_wp2_with (first|((with_reducible refine gate_builtin (b:=.append) (xs:=#[.tmp 14,.tmp 22]) rfl ?_);at_builtin;refine Kd.R_append (Kd.int .i64) (w0:=w) w.heap.size rfl (.tmp 14) (.tmp 22) 31 3 (.int .i64 0) 8 rfl Try.underlying31 info3 rfl (by decide) (by omega) u5 x5_1 (rd l1 (rd l0 x6_1)) [.int .i64 (rd l1 (rd l0 x6_1))] (fun _=>True) (fun _=>False) rfl rfl ?aP (fun _ hk=>hk.elim) ?aF ?aO ?aB ?aS ?aL ?_;(case aP=>exact rfl);(case aB=>exact (by exact zB_ HB.out));(case aF=>exact (fun _ _=>trivial));(case aO=>exact (by apply zR_;exact HO_5.out));(case aS=>exact (zQ (by exact zB_ HB.out)));(case aL=>have:=LMc9.out;omega);intro v459 w10 ho hb hg hat;rw [← Ny458.out] at ho;have n0_:=zA (hb);have n1_:=zA (ho);clear HB;clear HO_5;have HB:=n0_;have HO460:=n1_;clear n0_ n1_;clear ho hb hg hat))
        go_roundg k1
        case measure=>have:=HK1.out;omega
        case rel=>exact ⟨(y458),(wrap64 (x6_1+1)),(by first|rfl|(simp;done)|(simp [*];done)),H',⟨by have:=HK1.out;omega⟩,⟨by apply zR_;exact HO460.out⟩,⟨by exact zB_ HB.out⟩⟩
       ·rw [if_neg c9] at H
        exact absurd H (by simp)
      ·rw [if_neg c8] at H
       exact absurd H (by simp)
     ·rw [if_neg c7] at H
      exact absurd H (by simp)
    ·rw [if_neg c6] at H
     exact absurd H (by simp)
   ·rw [if_neg c5] at H
    have c5b0:decide (x6_1 < (l0.length:Int)) = false:=zP c5
    clear c5
    obtain rfl:=zS H
    go_wp2
    go_ret
    exact ⟨_,by first|rfl|(simp [errW_none,errW_some] <;> rfl)|(simp [*,errW_none,errW_some] <;> rfl),by apply zR_;exact HO_5.out,by exact zB_ HB.out⟩

/-! ### spec_l2Faces: function 85 -/
def spec_l2Faces.f (k:Nat) (l0_0:List Int) (l0_1:List Int):Option (List Int):=(spec_l1Mul.f k l0_1 l0_0).bind fun t462=>(some t462)
theorem spec_l2Faces.mono:∀ a0 a1 k,LeO (spec_l2Faces.f k a0 a1) (spec_l2Faces.f (k+1) a0 a1):=by
 intro a0 a1 k
 unfold spec_l2Faces.f
 repeat' first
   | (with_reducible exact spec_l1Mul.mono _ _ _)
   | (with_reducible exact LeO.refl _)
   | (with_reducible exact za _)
   | (with_reducible refine zc ?_ ?_)
   | (with_reducible refine zb ?_ (fun _=>?_))
set_option maxHeartbeats 8000000 in
set_option maxRecDepth 100000 in
theorem spec_l2Faces.calls (k:Nat) (A0_0:Option Addr) (c0_0:Nat) (l0_0:List Int) (A0_1:Option Addr) (c0_1:Nat) (l0_1:List Int) (r:List Int) (w:World) (hr0_0:Kd.C (Kd.int .i64) w A0_0 l0_0.length l0_0) (hc0_0:l0_0.length≤c0_0) (hr0_1:Kd.C (Kd.int .i64) w A0_1 l0_1.length l0_1) (hc0_1:l0_1.length≤c0_1) (h:spec_l2Faces.f k l0_0 l0_1 = some r) :
  Calls Try.prog 85 #[.agg #[.slice A0_0 l0_0.length c0_0,.slice A0_1 l0_1.length c0_1]] w fun e w' => ∃ v0_:Value,e = .returned (v0_)∧Kd.R (Kd.int .i64) 3 w' w.heap.size (fun _=>True) v0_ r∧Below w.heap.size w w':=by
 have hu33:=Try.underlying33
 have HR0_0:=zA hr0_0
 have HC0_0:=zA hc0_0
 clear hr0_0 hc0_0
 have HR0_1:=zA hr0_1
 have HC0_1:=zA hc0_1
 clear hr0_1 hc0_1
 have HB:=zA (Below.refl w.heap.size w)
 have H:((spec_l1Mul.f k l0_1 l0_0).bind fun t462=>(some t462)) = some r:=h
 clear h
 replace H:=zz0 H
 obtain ⟨t462,A20,H⟩:=H
 try dsimp only at H
 have A2:=zA A20
 clear A20
 obtain rfl:=zS H
 go_enter Try.func85,Try.ntmps85
 go_wp2_with (first|((with_reducible refine gate_dst (N:=1) rfl ?_);refine box_event ?hg (N:=1) ?hd (cs:=#[.slice A0_0 l0_0.length c0_0,.slice A0_1 l0_1.length c0_1]) (t:=33) ?hr ?_;(case hd=>rfl);(case hg=>rfl);(case hr=>first|(go_simp;done)|(go_simp;rfl));intro gb461 hg w3 hbox hb;have n0_:=zA (zR (by exact zB_ HB.out) hb);have n1_:=zA (hbox);have n2_:=zA ((by rw [hg];exact (zQ (by exact zB_ HB.out)):w.heap.size≤gb461));have n3_:=zA ((by rw [hg];exact (zQ (by exact zB_ HB.out)):w.heap.size≤gb461));clear HB;have HB:=n0_;have BK461:=n1_;have GW461:=n2_;have GE461:=n3_;clear n0_ n1_ n2_ n3_;clear hb hbox hg;have hcz4_0:w3.cell? ⟨gb461,0,none⟩ = some (.slice A0_0 l0_0.length c0_0):=(zT BK461.out 0).trans rfl;have hcz4_1:w3.cell? ⟨gb461,1,none⟩ = some (.slice A0_1 l0_1.length c0_1):=(zT BK461.out 1).trans rfl;have hfz4_0:=zZ BK461.out 0;have hfz4_1:=zZ BK461.out 1)|((with_reducible refine gate_callee (f:=99) rfl ?_);refine goesL_ (some 7) rfl rfl Try.func99 (by kernel_rfl) rfl #[.slice A0_1 l0_1.length c0_1,.slice A0_0 l0_0.length c0_0] rfl (by (try simp only [zJ,zM,zN]);first|done|rfl|(simp only [zL,zK];rfl)) ?_;(with_reducible refine (spec_l1Mul.calls k _ _ l0_1 _ _ l0_0 t462 _ ?side1 ?side2 ?side3 ?side4 A2.out).mono ?_);(case side1=>repeat (first|exact (zW HR0_1.out HB.out)|(with_reducible exact HR0_1.out)|apply zC_));(case side2=>exact HC0_1.out);(case side3=>repeat (first|exact (zW HR0_0.out HB.out)|(with_reducible exact HR0_0.out)|apply zC_));(case side4=>exact HC0_0.out);rintro e w5 ⟨v463,rfl,ho0,hb⟩;refine ⟨_,rfl,?_⟩;have n0_:=zA (ze ho0 (zQ (by repeat (first|(with_reducible first|exact HB.out|apply zD|apply zB|apply zC|refine zF ?_ GE461.out)|exact HB.out))));have n1_:=zA (zX (g:=gb461) (o:=.cells #[.slice A0_0 l0_0.length c0_0,.slice A0_1 l0_1.length c0_1] 33 (0,0)) (by (with_reducible repeat (first|refine zG ?_ _|refine zI ?_|refine zH ?_ _));exact BK461.out) hb);have n2_:=zA (zR (by repeat (first|(with_reducible first|exact HB.out|apply zD|apply zB|apply zC|refine zF ?_ GE461.out)|exact HB.out)) hb);clear BK461;clear HB;have HO464:=n0_;have BK461:=n1_;have HB:=n2_;clear n0_ n1_ n2_;(try clear hb);(try clear hb2);(try clear hk);(try clear hi);(try clear ho0)))
 go_ret
 exact ⟨_,by first|rfl|(simp [errW_none,errW_some] <;> rfl)|(simp [*,errW_none,errW_some] <;> rfl),by apply zR_;exact HO464.out,by repeat (first|(with_reducible first|exact HB.out|apply zD|apply zB|apply zC|refine zF ?_ GE461.out)|exact HB.out)⟩

end Go.Proofs.Ytdaiohcgdpclnaa.Q
