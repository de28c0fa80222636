import Derived.Test.YtonlecigglbohaaZ
import Derived.Test.YtonlecigglbohaaProg
import Derived.Below
import Derived.Deep.Draws
import Derived.Deep.AppendLies
import Derived.Maps.AppendAt
import Derived.OwnWalk
import Derived.Laws.BytesArg
import Derived.Laws.MakeOwn
import Derived.Laws.OwnMore
import Derived.Deep.OwnRows
import Derived.Tactics
import Derived.Lib.ConvBytes
import Derived.Laws.Slices
import Derived.WalkKit
import Derived.KernelRfl
import Derived.RowKit3
import Derived.Deep.LoopGhost
import Derived.Deep.QuietTactic
import Derived.BigQuiet
import Derived.WideLaws
import Derived.Deep.DeepCutAuto
import Derived.Deep.CutBlock
import Derived.Deep.RegionHeld3
import Derived.Laws.Rows
import Derived.Lib.AppendStr
import Derived.ArgAppend
import Derived.Laws.IdiomCopy
import Derived.OrdersHeld
import Derived.Laws.BitsLemmas
import Derived.RowKit
import Derived.Test.YtonlecigglbohaaWWords
import Derived.Test.YtonlecigglbohaaWLast
import Derived.Test.YtonlecigglbohaaWTab
import Derived.Test.YtonlecigglbohaaWFour
import Derived.Test.YtonlecigglbohaaWQPut
import Derived.Test.YtonlecigglbohaaWApart
import Derived.Test.YtonlecigglbohaaWArr
import Derived.Test.YtonlecigglbohaaWZeros
import Derived.Test.YtonlecigglbohaaWFoot
import Derived.Test.YtonlecigglbohaaWKept
import Derived.Test.YtonlecigglbohaaWShare
import Derived.Test.YtonlecigglbohaaWN
import Derived.Test.YtonlecigglbohaaWFootNe
import Derived.Test.YtonlecigglbohaaWAt
import Derived.Test.YtonlecigglbohaaWEqStruct
import Derived.Test.YtonlecigglbohaaWRepsOne
import Derived.Test.YtonlecigglbohaaWInv
import Derived.Test.YtonlecigglbohaaWInvWords
import Derived.Test.YtonlecigglbohaaWGuard
import Derived.Test.YtonlecigglbohaaWNEv
import Derived.Test.YtonlecigglbohaaWMore
import Derived.Lib.Hide
import Derived.WalkSpells
namespace Go.Proofs.Ytonlecigglbohaa.Q
open Go.RowKit Go.Proofs.YtonlecigglbohaaW.PrintWords Go.Proofs.YtonlecigglbohaaW.PrintLast Go.Proofs.YtonlecigglbohaaW.PrintMore
attribute [local go_sem] max2_int min2_int max_two min_two max_three min_three max_four min_four   -- for this text's walks alone
set_option linter.unusedVariables false
set_option linter.unusedSimpArgs false



def errW : Option Int → Value
  | none => .nilIface
  | some c => .iface 0 (.int .i64 c)
theorem errW_none : errW none = .nilIface := rfl
theorem errW_some (c : Int) : errW (some c) = .iface 0 (.int .i64 c) := rfl

theorem info3 : (Try.prog.info? 3).map (fun i => (i.zero, i.size, i.bytes)) = some (some (.int .i64 0), 1, 8) := by kernel_rfl
theorem info4 : (Try.prog.info? 4).map (fun i => (i.zero, i.size, i.bytes)) = some (some (.bool false), 1, 1) := by kernel_rfl
theorem info5 : (Try.prog.info? 5).map (fun i => (i.zero, i.size, i.bytes)) = some (some (.int .u8 0), 1, 1) := by kernel_rfl
theorem info23 : (Try.prog.info? 23).map (fun i => (i.zero, i.size, i.bytes)) = some (some (.slice none 0 0), 1, 24) := by kernel_rfl
-- the values' own types
def rd_L1 (xs : List (List Int)) (i : Int) : (List Int) := xs.getD i.toNat ([] : List Int)
theorem at_L1 {w : World} {A : Option Addr} {n : Nat} {xs : List (List Int)} (h : Kd.C (Kd.slice 3 (Kd.int .i64)) w A n xs) (i : Int) (h0 : 0 ≤ i) (h1 : i < n) : ∃ ad A0 c0, A = some ad ∧ w.cell? (ad.add i.toNat) = some (.slice A0 (rd_L1 xs i).length c0) ∧ (rd_L1 xs i).length ≤ c0 ∧ (Kd.int .i64).C w A0 (rd_L1 xs i).length (rd_L1 xs i) := by
  obtain ⟨ad, c, e, _, hK, hc0⟩ := Kd.C_get h ([] : List Int) i h0 h1
  have hc : ∀ j u, c[j]? = some u → w.cell? (ad.add (i.toNat * 1 + j)) = some u := hc0
  obtain ⟨A0, c0, rfl, l0, g0⟩ := hK
  exact ⟨ad, A0, c0, e, by have hq := hc 0 _ rfl; rwa [Nat.mul_one, Nat.add_zero] at hq, l0, g0⟩

/-! ### slices_Clone_int_int: function 85 (a section of my own) -/
def slices_Clone_int_int.f (l0:List Int):Option (List Int):=if l0.length < 17592186044416 then some l0 else none
theorem slices_Clone_int_int.nilrow {w:World} {l:List Int} (h:Kd.C (Kd.int .i64) w none l.length l):l = []:=by
 refine List.eq_nil_of_length_eq_zero (Nat.eq_zero_of_not_pos fun hp=>?_)
 obtain ⟨ad,e,_⟩:=h.2.2 hp
 cases e
set_option maxHeartbeats 8000000 in
set_option maxRecDepth 100000 in
theorem slices_Clone_int_int.calls (A0:Option Addr) (c0:Nat) (l0:List Int) (r:List Int) (w:World) (hr0:Kd.C (Kd.int .i64) w A0 l0.length l0) (hc0:l0.length≤c0) (h:slices_Clone_int_int.f l0 = some r) :
  Calls Try.prog 85 #[.slice A0 l0.length c0] w fun e w' => ∃ v0_:Value,e = .returned (v0_)∧Kd.R (Kd.int .i64) 3 w' w.heap.size (fun _=>True) v0_ r∧Below w.heap.size w w':=by
 have HR0:=zA hr0
 have HC0:=zA hc0
 clear hr0 hc0
 have HB:=zA (Below.refl w.heap.size w)
 unfold slices_Clone_int_int.f at h
 by_cases c2:l0.length < 17592186044416
 ·rw [if_pos c2] at h
  have LMc2:=zA c2
  clear c2
  obtain rfl:=zS h
  clear h
  cases A0 with
  | none =>
   have hn:=slices_Clone_int_int.nilrow HR0.out
   subst hn
   have hcmp:∀ w:World,(binOp .eql 23 (.slice none 0 c0) (.slice none 0 0)).run Try.prog w = .ok (.bool true) w:=fun w=>by
    rw [Lib.run_eql_slice_nil w 23 3 none 0 c0 0 0 Try.underlying23];rfl
   go_enter Try.func85,Try.ntmps85
   go_wp2
   go_ret
   exact ⟨_,rfl,Kd.R_nil _ _ _ _ _,HB.out⟩
  | some a0 =>
   have hcmp:∀ w:World,(binOp .eql 23 (.slice (some a0) l0.length c0) (.slice none 0 0)).run Try.prog w = .ok (.bool false) w:=fun w=>by
    rw [Lib.run_eql_slice_nil w 23 3 (some a0) l0.length c0 0 0 Try.underlying23];rfl
   go_enter Try.func85,Try.ntmps85
   go_wp2_with (first|((with_reducible refine gate_dst (N:=5) rfl ?_);refine Kd.R_lit (Kd.int .i64) _ 3 ?hg (N:=5) ?hd (xs:=([]:List Int)) (inner:=[]) (ok:=fun _=>True) (okp:=fun _=>True) ?hr ?hp (fun _ hk=>hk) trivial (Below.refl _ _) (Nat.le_refl _) (by simp) ?_;(case hd=>rfl);(case hg=>rfl);(case hr=>first|(go_simp;done)|(go_simp;rfl));(case hp=>exact (Reps.none _ _));intro v314 w3 ho4 hb hg_ hnew_;clear hg_ hnew_;have n0_:=zA (ze ho4 (zQ HB.out));have n1_:=zA (zR HB.out hb);clear HB;have HO315:=n0_;have HB:=n1_;clear n0_ n1_;clear hb ho4)|((with_reducible refine gate_builtin (b:=.append) (xs:=#[.tmp 5,.tmp 6]) rfl ?_);at_builtin;refine Kd.R_append_rows (Kd.int .i64) (w0:=w) w.heap.size rfl (.tmp 5) (.tmp 6) 23 3 (.int .i64 0) 8 rfl Try.underlying23 info3 rfl (by decide) (by omega) v314 ([]:List Int) l0 _ _ _ (fun _=>True) (fun _=>False) rfl rfl ?aO ?aR (fun _ _ h=>h) (fun _ h=>h.elim) ?aF ?aB ?aS ?aL ?_;(case aR=>exact (zW HR0.out HB.out));(case aB=>exact HB.out);(case aF=>exact (fun _ _=>trivial));(case aO=>exact HO315.out);(case aS=>exact (zQ HB.out));(case aL=>have:=LMc2.out;simp only [List.length_nil];omega);intro v317 w5 ho hb hg hat;have n0_:=zA (hb);have n1_:=zA (ho);clear HB;clear HO315;have HB:=n0_;have HO318:=n1_;clear n0_ n1_;clear ho hb hg hat))
   go_ret
   exact ⟨_,rfl,by simpa using HO318.out,HB.out⟩
 ·rw [if_neg c2] at h;cases h

end Go.Proofs.Ytonlecigglbohaa.Q
