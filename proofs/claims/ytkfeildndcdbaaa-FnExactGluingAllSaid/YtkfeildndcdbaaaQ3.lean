import Derived.Test.YtkfeildndcdbaaaQ0
import Derived.Test.YtkfeildndcdbaaaQ1
import Derived.Test.YtkfeildndcdbaaaQ2
import Derived.Laws.EntriesVeiled
namespace Go.Proofs.Ytkfeildndcdbaaa.Q
open Go.RowKit Go.Proofs.YtkfeildndcdbaaaW.PrintWords Go.Proofs.YtkfeildndcdbaaaW.PrintLast Go.Proofs.YtkfeildndcdbaaaW.PrintMore
attribute [local go_sem] max2_int min2_int max_two min_two max_three min_three max_four min_four   -- for this text's walks alone
set_option linter.unusedVariables false
set_option linter.unusedSimpArgs false

/-! ### impl_GluingAll: function 21 (a section of my own) -/

def impl_GluingAll.own (bo bg be h0 k : Nat) : Prop := k = bo ∨ k = bg ∨ k = be ∨ h0 ≤ k
def impl_GluingAll.loop (g : List Int → Option (List (List Int))) (p : List Int) (a : Int) : Nat → Int → Option (List (List Int))
  | 0, _ => some []
  | d + 1, k => if rd p k < 0 then (if rd p k = -1 ∧ rd p a = -1 then (g ((p.set a.toNat k).set k.toNat a)).bind fun x => (impl_GluingAll.loop g p a d (k + 1)).bind fun y => some (x ++ y) else none) else impl_GluingAll.loop g p a d (k + 1)
def impl_GluingAll.gen : Nat → List Int → Option (List (List Int))
  | 0, _ => none
  | f + 1, p => (slices_Index_int_int.f 60 p (-1)).bind fun t => if t < 0 then some [p] else if t < (p.length : Int) then impl_GluingAll.loop (impl_GluingAll.gen f) p t (p.length - (t.toNat + 1)) (t + 1) else none
/-- the function value that try holds; the four variables, and the row that is being filled -/
def impl_GluingAll.TV (bn bt bp bf : Nat) : Value := .func (.func 92) #[] #[.pointer (some ⟨bp, 0, none⟩), .pointer (some ⟨bt, 0, none⟩), .pointer (some ⟨bn, 0, none⟩), .pointer (some ⟨bf, 0, none⟩)]
structure impl_GluingAll.FS (W : World) (bn bt bp bf gp n cp base : Nat) (F : Value) (p : List Int) : Prop where
  hn : W.heap[bn]? = some (.cells #[.int .i64 (n : Int)] 3 (0, 0))
  ht : W.heap[bt]? = some (.cells #[F] 60 (0, 0))
  hp : W.heap[bp]? = some (.cells #[.slice (some ⟨gp, 0, none⟩) n cp] 32 (0, 0))
  hf : W.heap[bf]? = some (.cells #[impl_GluingAll.TV bn bt bp bf] 1 (0, 0))
  hr : Kd.R (Kd.int .i64) 3 W base (fun k => k = gp) (.slice (some ⟨gp, 0, none⟩) n cp) p
  hl : p.length = n
structure impl_GluingAll.Ne (bn bt bp bf gp h0 : Nat) : Prop where
  n : bn < h0 ∧ bn ≠ gp
  t : bt < h0 ∧ bt ≠ gp
  p : bp < h0 ∧ bp ≠ gp
  f : bf < h0 ∧ bf ≠ gp
  g : gp < h0
structure impl_GluingAll.Fr (w w' : World) (h0 bo be gp : Nat) : Prop where
  size : w.heap.size ≤ w'.heap.size
  keep : ∀ k, k < h0 → k ≠ bo → k ≠ be → k ≠ gp → w'.heap[k]? = w.heap[k]?
theorem impl_GluingAll.Fr.refl (w : World) (h0 bo be gp : Nat) : impl_GluingAll.Fr w w h0 bo be gp := ⟨Nat.le_refl _, fun _ _ _ _ _ => rfl⟩
theorem impl_GluingAll.Fr.trans {w w1 w2 : World} {h0 bo be gp : Nat} (a : impl_GluingAll.Fr w w1 h0 bo be gp) (b : impl_GluingAll.Fr w1 w2 h0 bo be gp) : impl_GluingAll.Fr w w2 h0 bo be gp := ⟨Nat.le_trans a.size b.size, fun k h1 h2 h3 h4 => (b.keep k h1 h2 h3 h4).trans (a.keep k h1 h2 h3 h4)⟩
section
variable {W W' : World} {bn bt bp bf gp n cp base : Nat} {F : Value} {p : List Int}
theorem impl_GluingAll.FS.step (h : impl_GluingAll.FS W bn bt bp bf gp n cp base F p) (h1 : W'.heap[bn]? = W.heap[bn]?) (h2 : W'.heap[bt]? = W.heap[bt]?) (h3 : W'.heap[bp]? = W.heap[bp]?) (h4 : W'.heap[bf]? = W.heap[bf]?) (h5 : W'.heap[gp]? = W.heap[gp]?) : impl_GluingAll.FS W' bn bt bp bf gp n cp base F p :=
  ⟨h1.trans h.hn, h2.trans h.ht, h3.trans h.hp, h4.trans h.hf, Kd.R_step h.hr (fun k hk _ => by rw [hk]; exact h5), h.hl⟩
theorem impl_GluingAll.FS.put (h : impl_GluingAll.FS W bn bt bp bf gp n cp base F p) {h0 : Nat} (hne : impl_GluingAll.Ne bn bt bp bf gp h0) (i v : Int) : impl_GluingAll.FS (W.setCell ⟨gp, i.toNat, none⟩ (.int .i64 v)) bn bt bp bf gp n cp base F (p.set i.toNat v) :=
  ⟨(heap_setCell_other W _ bn _ hne.n.2).trans h.hn, (heap_setCell_other W _ bt _ hne.t.2).trans h.ht, (heap_setCell_other W _ bp _ hne.p.2).trans h.hp, (heap_setCell_other W _ bf _ hne.f.2).trans h.hf, Kd.R_putn h.hr i v, by rw [List.length_set]; exact h.hl⟩
end
structure impl_GluingAll.Bx (bo bg be h0 bn bt bp bf gp : Nat) : Prop where
  o : bo < h0
  e : be < h0
  go : gp ≠ bo ∧ gp ≠ bg ∧ gp ≠ be
  no : bn ≠ bo ∧ bn ≠ be
  tt : bt ≠ bo ∧ bt ≠ be
  po : bp ≠ bo ∧ bp ≠ be
  fo : bf ≠ bo ∧ bf ≠ be
theorem impl_GluingAll.FS.over {W W' : World} {bn bt bp bf gp n cp base h0 bo bg be : Nat} {F : Value} {p : List Int} (h : impl_GluingAll.FS W bn bt bp bf gp n cp base F p) (hne : impl_GluingAll.Ne bn bt bp bf gp h0) (hbx : impl_GluingAll.Bx bo bg be h0 bn bt bp bf gp) (hk : ∀ k, k < h0 → k ≠ bo → k ≠ be → W'.heap[k]? = W.heap[k]?) : impl_GluingAll.FS W' bn bt bp bf gp n cp base F p :=
  h.step (hk bn hne.n.1 hbx.no.1 hbx.no.2) (hk bt hne.t.1 hbx.tt.1 hbx.tt.2) (hk bp hne.p.1 hbx.po.1 hbx.po.2) (hk bf hne.f.1 hbx.fo.1 hbx.fo.2) (hk gp hne.g hbx.go.1 hbx.go.2.2)
theorem impl_GluingAll.own_ne {bo bg be h0 bn bt bp bf gp q : Nat} (hbx : impl_GluingAll.Bx bo bg be h0 bn bt bp bf gp) (hne : impl_GluingAll.Ne bn bt bp bf gp h0) (h : impl_GluingAll.own bo bg be h0 q) : q ≠ gp := by
  have h1 := hbx.go; have h2 := hne.g
  unfold impl_GluingAll.own at h
  omega
theorem impl_GluingAll.put_back (p : List Int) (a k : Int) (ha : 0 ≤ a) (hak : a < k) (hk : k < (p.length : Int)) (h1 : rd p k = -1) (h2 : rd p a = -1) : (((p.set a.toNat k).set k.toNat a).set a.toNat (-1)).set k.toNat (-1) = p := by
  have r1 : p.getD k.toNat 0 = -1 := h1
  have r2 : p.getD a.toNat 0 = -1 := h2
  rw [List.getD_eq_getElem?_getD, List.getElem?_eq_getElem (by omega), Option.getD_some] at r1 r2
  apply List.ext_getElem (by simp)
  intro i h3 h4
  simp only [List.length_set] at h3
  simp only [List.getElem_set]
  by_cases e1 : k.toNat = i
  · subst e1; simp [r1]
  · by_cases e2 : a.toNat = i
    · subst e2; simp [e1, r2]
    · simp [e1, e2]

def impl_GluingAll.FV (bo bg : Nat) : Value := (.func (.func 59) #[] #[.pointer (some ⟨bo, 0, none⟩)] : Value)
def impl_GluingAll.Q (x : List Int) : Prop := True
def impl_GluingAll.I (W : World) (bo bg be h0 base : Nat) (g : Int) (rows : List (List Int)) : Prop :=
  be ≠ bo ∧ ∃ v, W.heap[bo]? = some (.cells #[v] 22 (0, 0)) ∧ Kd.S (Kd.slice 3 (Kd.int .i64)) 32 W base (fun k => k = be ∨ h0 ≤ k) v rows
theorem impl_GluingAll.I_step {W W' : World} {bo bg be h0 base : Nat} {g : Int} {rows : List (List Int)} (h : impl_GluingAll.I W bo bg be h0 base g rows) (hm : ∀ k, impl_GluingAll.own bo bg be h0 k → k < W.heap.size → W'.heap[k]? = W.heap[k]?) : impl_GluingAll.I W' bo bg be h0 base g rows := by
  obtain ⟨h1, v, hv, hs⟩ := h
  refine ⟨h1, v, (hm bo (.inl rfl) ?_).trans hv, Kd.S_step hs (fun k hk hlt => hm k (.inr (.inr hk)) hlt)⟩
  exact (Array.getElem?_eq_some_iff.1 hv).1
set_option maxHeartbeats 8000000 in
set_option maxRecDepth 100000 in
theorem impl_GluingAll.tell (x : List Int) (A : Option Addr) (c : Nat) (w1 w w0 : World) (bo bg be h0 : Nat) (g : Int) (rows : List (List Int)) (hrow : rows.length ≤ 1000000) (hq : impl_GluingAll.Q x) (HI : impl_GluingAll.I w1 bo bg be h0 w0.heap.size g rows) (hbx : Below w1.heap.size w1 w)
    (HR : Kd.R (Kd.int .i64) 3 w w1.heap.size (fun _ => True) (.slice A x.length c) x) (hbo : bo < h0) (hbe : be < h0) (hh : h0 ≤ w1.heap.size) (hob : w0.heap.size ≤ bo) (hb : w0.heap.size ≤ h0) (heb : w0.heap.size ≤ be) (HB : Below w0.heap.size w0 w1) :
    Calls Try.prog 59 #[.slice A x.length c, .pointer (some ⟨bo, 0, none⟩)] w fun e w' =>
      e = .returned (.tuple #[]) ∧ impl_GluingAll.I w' bo bg be h0 w0.heap.size g (rows ++ [x]) ∧ w1.heap.size ≤ w'.heap.size ∧ (∀ q, q < h0 → q ≠ bo → q ≠ be → w'.heap[q]? = w1.heap[q]?) ∧ Below w0.heap.size w0 w' := by
  obtain ⟨hoe, v, hv, HS⟩ := HI
  have HS0 := Aside0.mk (Kd.S_below (Kd.S_mono (ok' := fun k => (k = be ∨ h0 ≤ k) ∧ k < w1.heap.size) (Kd.S_bound HS) (fun k hk => ⟨hk.1, hk.2.2.1⟩)) hbx)
  have HR0 := Aside0.mk HR
  have HB0 := Aside0.mk (below_step HB hbx)
  have HN := Aside0.mk (show bo < h0 ∧ be < h0 ∧ h0 ≤ w1.heap.size ∧ w0.heap.size ≤ bo ∧ w0.heap.size ≤ h0 ∧ w0.heap.size ≤ be ∧ rows.length ≤ 1000000 ∧ be ≠ bo ∧ w1.heap.size ≤ w.heap.size from ⟨hbo, hbe, hh, hob, hb, heb, hrow, hoe, hbx.size⟩)
  have HX := Aside0.mk hbx
  have HV := Aside0.mk ((hbx.block bo (by omega)).trans hv)
  have hc : w.cell? ⟨bo, 0, none⟩ = some v := cell_of_row w bo 0 _ _ _ HV.out
  clear HS HR HB hbo hbe hh hob hb heb hrow hv hoe hbx hq
  go_enter Try.func59, Try.ntmps59
  go_wp2_with (first | ((with_reducible refine gate_builtin (b := .append) (xs := #[.tmp 3, .tmp 5]) rfl ?_); at_builtin; refine Kd.S_append (Kd.slice 3 (Kd.int .i64)) (w0 := w0) w0.heap.size rfl (.tmp 3) (.tmp 5) 22 32 (.slice none 0 0) 24 rfl Try.underlying22 info32 rfl (by decide) (by omega) v rows x [.slice A x.length c] (fun k => k = be ∨ h0 ≤ k) (fun k_ => some k_ = (.slice A x.length c : Value).ownBlock) rfl rfl ?aP ?aK ?aF ?aO ?aB ?aS ?aL ?_; (case aP => exact Kd.M_row (Kd.R_mono (Kd.R_tight rfl (Kd.R_lower HR0.out (by have := HN.out; omega))) (fun _ h_ => h_))); (case aK => exact fun k hk => ⟨.inr (by have h2 := Kd.R_base HR0.out k hk.symm; have := HN.out; omega), fun e => by have h1 := (HS0.out.choose_spec.1 k e.symm).2; have h2 := Kd.R_base HR0.out k hk.symm; omega⟩); (case aF => exact fun k hk => .inr (by have := HN.out; omega)); (case aO => exact Kd.S_mono HS0.out (fun k hk => ⟨hk.1, fun e => by have h1 := hk.2; have h2 := Kd.R_base HR0.out k e.symm; omega⟩)); (case aB => exact HB0.out); (case aS => have := HN.out; omega); (case aL => have := HN.out; omega); intro v1 wy ho hb hg hat; obtain ⟨A1, c1, rfl⟩ := Kd.S_slice ho; have hk1 := (hg.block bo (by have := HN.out; omega) (fun e => by have h1 := (HS0.out.choose_spec.1 bo e.symm).1; have := HN.out; omega)).trans HV.out; have hc1 : wy.cell? ⟨bo, 0, none⟩ = some v := cell_of_row wy bo 0 _ _ _ hk1; have hf1 : wy.frozen? ⟨bo, 0, none⟩ = false := frozen_of_row wy bo 0 _ _ hk1; have HK1 := Aside0.mk hk1; have HO1 := Aside0.mk ho; have HB1 := Aside0.mk hb; have HG1 := Aside0.mk hg; clear ho hb hg hat hk1))
  have HO2 := HO1.out
  rw [show (rows ++ [x]).length = rows.length + 1 by simp] at HO2
  go_end0
  refine ⟨rfl, ⟨HN.out.2.2.2.2.2.2.2.1, _, heap_setCell_same wy bo 0 _ _ _ HK1.out, Kd.S_far HO2 (fun k hk => ?_) _⟩, ?_, fun k hk hnp hne => ?_, below_set HB1.out HN.out.2.2.2.1⟩
  · show k ≠ bo
    have := HN.out; omega
  · have h1 : w.heap.size ≤ (wy.setCell ⟨bo, 0, none⟩ (.slice A1 (rows.length + 1) c1)).heap.size := Nat.le_trans HG1.out.size (by simp)
    exact Nat.le_trans HN.out.2.2.2.2.2.2.2.2 h1
  · rw [heap_setCell_other wy _ k _ hnp]
    exact (HG1.out.block k (by have := HN.out; omega) (fun e => by have h1 := (HS0.out.choose_spec.1 k e.symm).1; have := HN.out; omega)).trans (HX.out.block k (by have := HN.out; omega))

set_option maxHeartbeats 16000000 in
set_option maxRecDepth 100000 in
theorem impl_GluingAll.leafcase (bn bt bp bf gp n cp bo bg be h0 : Nat) (g : Int) (w0 : World) (hne : impl_GluingAll.Ne bn bt bp bf gp h0) (hbx : impl_GluingAll.Bx bo bg be h0 bn bt bp bf gp) (hb0 : w0.heap.size ≤ bo ∧ w0.heap.size ≤ gp ∧ w0.heap.size ≤ h0 ∧ w0.heap.size ≤ be) (hn : n ≤ 40)
    (p : List Int) (w : World) (rows : List (List Int)) (t : Int) (ht : slices_Index_int_int.f 60 p (-1) = some t) (c1 : t < 0) (hrow : rows.length + 1 ≤ 1000000) (hq : impl_GluingAll.Q p)
    (HFS : impl_GluingAll.FS w bn bt bp bf gp n cp w0.heap.size (impl_GluingAll.FV bo bg) p) (HI : impl_GluingAll.I w bo bg be h0 w0.heap.size g rows) (hh : h0 ≤ w.heap.size) (HB : Below w0.heap.size w0 w) :
    Calls Try.prog 92 #[.pointer (some ⟨bp, 0, none⟩), .pointer (some ⟨bt, 0, none⟩), .pointer (some ⟨bn, 0, none⟩), .pointer (some ⟨bf, 0, none⟩)] w fun e w' =>
      e = .returned (.tuple #[]) ∧ impl_GluingAll.FS w' bn bt bp bf gp n cp w0.heap.size (impl_GluingAll.FV bo bg) p ∧ impl_GluingAll.I w' bo bg be h0 w0.heap.size g (rows ++ [p]) ∧ impl_GluingAll.Fr w w' h0 bo be gp ∧ Below w0.heap.size w0 w' := by
  have HFS0 := Aside0.mk HFS
  have HI0 := Aside0.mk HI
  have HB0 := Aside0.mk HB
  have HH := Aside0.mk hh
  have HROW := Aside0.mk hrow
  have HQ := Aside0.mk hq
  have HNE := Aside0.mk hne
  have HBX := Aside0.mk hbx
  have HB00 := Aside0.mk hb0
  have hnc : n ≤ cp := (Kd.R_reads' HFS.hr).2.1
  have HLN := Aside0.mk (show p.length = n ∧ n ≤ 40 ∧ n ≤ cp from ⟨HFS.hl, hn, hnc⟩)
  have hcp : w.cell? ⟨bp, 0, none⟩ = some (.slice (some ⟨gp, 0, none⟩) n cp) := cell_of_row w bp 0 _ _ _ HFS.hp
  have HIX := Aside0.mk (show Calls Try.prog 93 #[.slice (some ⟨gp, 0, none⟩) n cp, .int .i64 (-1)] w fun e w' => e = .returned (.int .i64 t) ∧ Drawn0 w w' by
    have h1 := slices_Index_int_int.calls 60 (some ⟨gp, 0, none⟩) cp p (-1) t w (Kd.R_reads' HFS.hr).2.2 (by rw [HFS.hl]; exact hnc) ht
    rw [HFS.hl] at h1
    exact h1)
  have c1b : decide (t < 0) = true := decide_eq_true c1
  clear HFS HI HB hh hrow hq hne hbx hb0 hnc ht hn c1
  go_enter Try.func92, Try.ntmps92
  go_upto_region 1 with (go_at_call 93; refine HIX.out.mono ?_; rintro e w' ⟨rfl, ⟨nd, rfl⟩⟩)
  generalize hw9 : w.drewN nd = wc
  have hwc : Aside0 (∃ m, wc = w.drewN m) := ⟨⟨nd, hw9.symm⟩⟩
  clear hw9
  ·
    have HFS := Aside0.mk (show impl_GluingAll.FS wc bn bt bp bf gp n cp w0.heap.size (impl_GluingAll.FV bo bg) p by obtain ⟨m, rfl⟩ := hwc.out; exact HFS0.out.step rfl rfl rfl rfl rfl)
    have HI := Aside0.mk (show impl_GluingAll.I wc bo bg be h0 w0.heap.size g rows by obtain ⟨m, rfl⟩ := hwc.out; exact impl_GluingAll.I_step HI0.out (fun _ _ _ => rfl))
    have HB := Aside0.mk (show Below w0.heap.size w0 wc by obtain ⟨m, rfl⟩ := hwc.out; exact pw_below_drewN HB0.out m)
    have HFR := Aside0.mk (show impl_GluingAll.Fr w wc h0 bo be gp by obtain ⟨m, rfl⟩ := hwc.out; exact ⟨Nat.le_refl _, fun _ _ _ _ _ => rfl⟩)
    have HSZ := Aside0.mk (show h0 ≤ wc.heap.size by have := HFR.out.size; have := HH.out; omega)
    clear hwc HFS0 HI0 HB0 HIX hcp
    have hcp : wc.cell? ⟨bp, 0, none⟩ = some (.slice (some ⟨gp, 0, none⟩) n cp) := cell_of_row wc bp 0 _ _ _ HFS.out.hp
    have hct : wc.cell? ⟨bt, 0, none⟩ = some (.func (.func 59) #[] #[.pointer (some ⟨bo, 0, none⟩)] : Value) := cell_of_row wc bt 0 _ _ _ HFS.out.ht
    have HCC := Aside0.mk (And.intro hct hcp)
    have HCL := Aside0.mk (show Calls Try.prog 53 #[.slice (some ⟨gp, 0, none⟩) n cp] wc.drew fun e w' => ∃ v0_ : Value, e = .returned (v0_) ∧ Kd.R (Kd.int .i64) 3 w' wc.drew.heap.size (fun _ => True) v0_ p ∧ Below wc.drew.heap.size wc.drew w' by
      have h1 := slices_Clone_int_int.calls (some ⟨gp, 0, none⟩) cp p p wc.drew (Kd.C_drew (Kd.R_reads' HFS.out.hr).2.2) (by rw [HLN.out.1]; exact HLN.out.2.2) (by unfold slices_Clone_int_int.f; rw [if_pos (by have := HLN.out; omega)])
      rw [HLN.out.1] at h1
      exact h1)
    go_wp2_with fail
    go_region_held3 (fun w' => w'.cell? ⟨bt, 0, none⟩ = some (.func (.func 59) #[] #[.pointer (some ⟨bo, 0, none⟩)] : Value) ∧ w'.cell? ⟨bp, 0, none⟩ = some (.slice (some ⟨gp, 0, none⟩) n cp)) (first | exact ⟨HKZ.out.1, HKZ.out.2⟩ | exact ⟨HKX.out.1, HKX.out.2⟩ | exact ⟨hct, hcp⟩ | go_keep) (first | (go_at_call 53; refine HCL.out.mono ?_; rintro e wx ⟨vx, rfl, hox, hbx⟩; obtain ⟨Ax, cx, rfl⟩ := Kd.R_slice hox; have HBX1 := Aside0.mk (show Below wc.heap.size wc wx from (Below.refl _ _).drew.trans (hbx.mono (by simp))); have HOX := Aside0.mk (Kd.R_lower (base' := wc.heap.size) hox (by simp)); have HKX := Aside0.mk (And.intro ((HBX1.out.cell (p := ⟨bt, 0, none⟩) (Nat.lt_of_lt_of_le HNE.out.t.1 HSZ.out)).trans HCC.out.1) ((HBX1.out.cell (p := ⟨bp, 0, none⟩) (Nat.lt_of_lt_of_le HNE.out.p.1 HSZ.out)).trans HCC.out.2)); clear hox hbx) | (go_at_call 59; refine (impl_GluingAll.tell p Ax cx wc wx w0 bo bg be h0 g rows (by have := HROW.out; omega) HQ.out HI.out HBX1.out HOX.out HBX.out.o HBX.out.e HSZ.out HB00.out.1 HB00.out.2.2.1 HB00.out.2.2.2 HB.out).mono ?_; rintro e wz ⟨rfl, hiz, hsz, hkz, hbz⟩; have HIZ := Aside0.mk hiz; have HFZ := Aside0.mk (HFS.out.over HNE.out HBX.out hkz); have HRZ := Aside0.mk (show impl_GluingAll.Fr wc wz h0 bo be gp from ⟨hsz, fun k a b c _ => hkz k a b c⟩); have HBZ := Aside0.mk hbz; have HKZ := Aside0.mk (And.intro (cell_of_row wz bt 0 _ _ _ HFZ.out.ht) (cell_of_row wz bp 0 _ _ _ HFZ.out.hp)); clear hiz hsz hkz hbz))
    all_goals go_wp2
    all_goals (first | go_end0 | ((try simp only [Exit.inBlock, Exit.then]); refine bodyPost_ret (results_none rfl _ _ _) rfl ?_))
    all_goals exact ⟨rfl, HFZ.out, HIZ.out, HFR.out.trans HRZ.out, HBZ.out⟩

set_option maxHeartbeats 16000000 in
set_option maxRecDepth 100000 in
theorem impl_GluingAll.try_ (bn bt bp bf gp n cp bo bg be h0 : Nat) (g : Int) (w0 : World) (hne : impl_GluingAll.Ne bn bt bp bf gp h0) (hbx : impl_GluingAll.Bx bo bg be h0 bn bt bp bf gp) (hb0 : w0.heap.size ≤ bo ∧ w0.heap.size ≤ gp ∧ w0.heap.size ≤ h0 ∧ w0.heap.size ≤ be) (hn : n ≤ 40) :
    ∀ (f : Nat) (p : List Int) (out : List (List Int)) (w : World) (rows : List (List Int)), impl_GluingAll.gen f p = some out → rows.length + out.length ≤ 1000000 → (∀ x ∈ out, impl_GluingAll.Q x) →
    impl_GluingAll.FS w bn bt bp bf gp n cp w0.heap.size (impl_GluingAll.FV bo bg) p → impl_GluingAll.I w bo bg be h0 w0.heap.size g rows → h0 ≤ w.heap.size → Below w0.heap.size w0 w →
    Calls Try.prog 92 #[.pointer (some ⟨bp, 0, none⟩), .pointer (some ⟨bt, 0, none⟩), .pointer (some ⟨bn, 0, none⟩), .pointer (some ⟨bf, 0, none⟩)] w fun e w' =>
      e = .returned (.tuple #[]) ∧ impl_GluingAll.FS w' bn bt bp bf gp n cp w0.heap.size (impl_GluingAll.FV bo bg) p ∧ impl_GluingAll.I w' bo bg be h0 w0.heap.size g (rows ++ out) ∧ impl_GluingAll.Fr w w' h0 bo be gp ∧ Below w0.heap.size w0 w' := by
  intro f
  induction f with
  | zero => intro p out w rows h; simp [impl_GluingAll.gen] at h
  | succ f ih =>
    intro p out w rows h hrow hq HFS HI hh HB
    simp only [impl_GluingAll.gen] at h
    obtain ⟨t, ht, h⟩ := Option.bind_eq_some_iff.mp h
    by_cases c1 : t < 0
    · rw [if_pos c1] at h
      obtain rfl := Option.some.inj h
      exact impl_GluingAll.leafcase bn bt bp bf gp n cp bo bg be h0 g w0 hne hbx hb0 hn p w rows t ht c1 hrow (hq p (by simp)) HFS HI hh HB
    rw [if_neg c1] at h
    by_cases c2 : t < (p.length : Int)
    · rw [if_pos c2] at h
      have HIH := Aside0.mk ih
      have HFS0 := Aside0.mk HFS
      have HI0 := Aside0.mk HI
      have HB0 := Aside0.mk HB
      have HH := Aside0.mk hh
      have HROW := Aside0.mk hrow
      have HQ := Aside0.mk hq
      have HNE := Aside0.mk hne
      have HBX := Aside0.mk hbx
      have HB00 := Aside0.mk hb0
      have hnc : n ≤ cp := (Kd.R_reads' HFS.hr).2.1
      have HLN := Aside0.mk (show p.length = n ∧ n ≤ 40 ∧ n ≤ cp from ⟨HFS.hl, hn, hnc⟩)
      have hcp : w.cell? ⟨bp, 0, none⟩ = some (.slice (some ⟨gp, 0, none⟩) n cp) := cell_of_row w bp 0 _ _ _ HFS.hp
      have HIX := Aside0.mk (show Calls Try.prog 93 #[.slice (some ⟨gp, 0, none⟩) n cp, .int .i64 (-1)] w fun e w' => e = .returned (.int .i64 t) ∧ Drawn0 w w' by
        have h1 := slices_Index_int_int.calls 60 (some ⟨gp, 0, none⟩) cp p (-1) t w (Kd.R_reads' HFS.hr).2.2 (by rw [HFS.hl]; exact hnc) ht
        rw [HFS.hl] at h1
        exact h1)
      have c1b : decide (t < 0) = false := decide_eq_false c1
      have HT := Aside0.mk (show 0 ≤ t ∧ t < (n : Int) from ⟨by omega, by rw [← HFS.hl]; exact c2⟩)
      have HL := Aside0.mk (show impl_GluingAll.loop (impl_GluingAll.gen f) p t (n - (t.toNat + 1)) (t + 1) = some out by rw [HFS.hl] at h; exact h)
      have HW := Aside0.mk (show wrap64 (t + 1) = t + 1 by have := HT.out; have := HLN.out; unfold wrap64; omega)
      clear HFS HI HB hh hrow hq hne hbx hb0 hnc ht h hn c1 c2 ih
      go_enter Try.func92, Try.ntmps92
      go_upto_region 1 with (go_at_call 93; refine HIX.out.mono ?_; rintro e w' ⟨rfl, ⟨nd, rfl⟩⟩)
      generalize hw9 : w.drewN nd = wc
      have hwc : Aside0 (∃ m, wc = w.drewN m) := ⟨⟨nd, hw9.symm⟩⟩
      clear hw9
      ·
        have HFS := Aside0.mk (show impl_GluingAll.FS wc bn bt bp bf gp n cp w0.heap.size (impl_GluingAll.FV bo bg) p by obtain ⟨m, rfl⟩ := hwc.out; exact HFS0.out.step rfl rfl rfl rfl rfl)
        have HI := Aside0.mk (show impl_GluingAll.I wc bo bg be h0 w0.heap.size g rows by obtain ⟨m, rfl⟩ := hwc.out; exact impl_GluingAll.I_step HI0.out (fun _ _ _ => rfl))
        have HB := Aside0.mk (show Below w0.heap.size w0 wc by obtain ⟨m, rfl⟩ := hwc.out; exact pw_below_drewN HB0.out m)
        have HFR := Aside0.mk (show impl_GluingAll.Fr w wc h0 bo be gp by obtain ⟨m, rfl⟩ := hwc.out; exact ⟨Nat.le_refl _, fun _ _ _ _ _ => rfl⟩)
        clear hwc HFS0 HI0 HB0 HIX hcp
        go_wp2
        go_loopg [5] (n - (t.toNat + 1)) (fun d v5 wr => ∃ (k : Int) (rows1 : List (List Int)), v5 = .int .i64 k ∧ Aside0 (k + d = n ∧ t + 1 ≤ k) ∧ Aside0 (impl_GluingAll.FS wr bn bt bp bf gp n cp w0.heap.size (impl_GluingAll.FV bo bg) p) ∧ Aside0 (impl_GluingAll.I wr bo bg be h0 w0.heap.size g rows1) ∧ Aside0 (∃ rest, impl_GluingAll.loop (impl_GluingAll.gen f) p t d k = some rest ∧ rows1 ++ rest = rows ++ out ∧ ∀ z ∈ rest, impl_GluingAll.Q z) ∧ Aside0 (impl_GluingAll.Fr w wr h0 bo be gp) ∧ Aside0 (Below w0.heap.size w0 wr))
        case atStart => exact ⟨wrap64 (t + 1), rows, rfl, ⟨by rw [HW.out]; have := HT.out; omega, by rw [HW.out]; omega⟩, HFS, HI, ⟨⟨out, by rw [HW.out]; exact HL.out, rfl, HQ.out⟩⟩, HFR, HB⟩
        case round =>
          clear HFS HI HB HFR HL
          obtain ⟨k, rows1, rfl, HK, HFS, HI, HE, HFR, HB⟩ := hrel
          have hcn : wr.cell? ⟨bn, 0, none⟩ = some (.int .i64 (n : Int)) := cell_of_row wr bn 0 _ _ _ HFS.out.hn
          cases gk with
          | zero =>
            have hc : decide (k < (n : Int)) = false := decide_eq_false (by have := HK.out; omega)
            have HE2 := Aside0.mk (show rows1 = rows ++ out by obtain ⟨rest, h1, h2, _⟩ := HE.out; simp only [impl_GluingAll.loop] at h1; obtain rfl := Option.some.inj h1; rw [List.append_nil] at h2; exact h2)
            go_wp2
            go_end0
            exact ⟨rfl, HFS.out, by rw [← HE2.out]; exact HI.out, HFR.out, HB.out⟩
          | succ d =>
            have hc : decide (k < (n : Int)) = true := decide_eq_true (by have := HK.out; omega)
            have HWK := Aside0.mk (show wrap64 (k + 1) = k + 1 by have := HK.out; have := HLN.out; have := HT.out; unfold wrap64; omega)
            go_upto_block 1 with (fail)
            go_cut [] (fun wd => ∃ rows2 : List (List Int), Aside0 (impl_GluingAll.FS wd bn bt bp bf gp n cp w0.heap.size (impl_GluingAll.FV bo bg) p) ∧ Aside0 (impl_GluingAll.I wd bo bg be h0 w0.heap.size g rows2) ∧ Aside0 (∃ rest, impl_GluingAll.loop (impl_GluingAll.gen f) p t d (k + 1) = some rest ∧ rows2 ++ rest = rows ++ out ∧ ∀ z ∈ rest, impl_GluingAll.Q z) ∧ Aside0 (impl_GluingAll.Fr w wd h0 bo be gp) ∧ Aside0 (Below w0.heap.size w0 wd))
            case first =>
              have hcp : wr.cell? ⟨bp, 0, none⟩ = some (.slice (some ⟨gp, 0, none⟩) n cp) := cell_of_row wr bp 0 _ _ _ HFS.out.hp
              have i1 : (0 ≤ k) = True := eq_true (by have := HK.out; have := HT.out; omega)
              have i2 : (k < (n : Int)) = True := eq_true (by have := HK.out; omega)
              obtain ⟨hxk, hfk⟩ := Kd.R_celln 0 HFS.out.hr k (by have := HK.out; have := HT.out; omega) (by have := HK.out; omega)
              have HKN := Aside0.mk (show k.toNat < n ∧ t.toNat < k.toNat ∧ 0 ≤ t ∧ t < k ∧ k < (n : Int) by have := HK.out; have := HT.out; omega)
              have hx1 : wr.cell? ⟨gp, k.toNat, none⟩ = some (.int .i64 (rd p k)) := hxk
              clear hxk
              by_cases cn : rd p k < 0
              · have cnb : decide (rd p k < 0) = true := decide_eq_true cn
                have HE' := Aside0.mk (show (rd p k = -1 ∧ rd p t = -1) ∧ ∃ x y, impl_GluingAll.gen f ((p.set t.toNat k).set k.toNat t) = some x ∧ impl_GluingAll.loop (impl_GluingAll.gen f) p t d (k + 1) = some y ∧ rows1 ++ x ++ y = rows ++ out ∧ (∀ z ∈ x, impl_GluingAll.Q z) ∧ ∀ z ∈ y, impl_GluingAll.Q z by
                  obtain ⟨rest, h1, h2, h3⟩ := HE.out
                  simp only [impl_GluingAll.loop] at h1
                  rw [if_pos cn] at h1
                  by_cases ce : rd p k = -1 ∧ rd p t = -1
                  · rw [if_pos ce] at h1
                    obtain ⟨x, hx, h1⟩ := Option.bind_eq_some_iff.mp h1
                    obtain ⟨y, hy, h1⟩ := Option.bind_eq_some_iff.mp h1
                    obtain rfl := Option.some.inj h1
                    exact ⟨ce, x, y, hx, hy, by rw [← h2, List.append_assoc], fun z hz => h3 z (by simp [hz]), fun z hz => h3 z (by simp [hz])⟩
                  · rw [if_neg ce] at h1; cases h1)
                clear HE cn
                obtain ⟨x, y, hx, hy, hxy⟩ := HE'.out.2
                have HX := Aside0.mk (And.intro hx (And.intro hy hxy))
                clear hx hy hxy
                obtain ⟨p1, hp1⟩ : ∃ p1, p1 = (p.set t.toNat k).set k.toNat t := ⟨_, rfl⟩
                have HP1 := Aside0.mk hp1
                clear hp1
                go_upto_region 7 with (fail)
                go_cut [] (fun we => Aside0 (impl_GluingAll.FS we bn bt bp bf gp n cp w0.heap.size (impl_GluingAll.FV bo bg) p1) ∧ Aside0 (impl_GluingAll.I we bo bg be h0 w0.heap.size g rows1) ∧ Aside0 (impl_GluingAll.Fr w we h0 bo be gp) ∧ Aside0 (Below w0.heap.size w0 we))
                case first =>
                  have j1 : (0 ≤ t) = True := eq_true (by have := HKN.out; omega)
                  have j2 : (t < (n : Int)) = True := eq_true (by have := HKN.out; omega)
                  obtain ⟨hx2, hf2⟩ := Kd.R_celln 0 HFS.out.hr t (by have := HKN.out; omega) (by have := HKN.out; omega)
                  have hne1 : gp ≠ bp := fun e => HNE.out.p.2 e.symm
                  have hne2 : bp ≠ gp := HNE.out.p.2
                  have hne3 : t.toNat ≠ k.toNat := by have := HKN.out; omega
                  have hne4 : k.toNat ≠ t.toNat := by have := HKN.out; omega
                  go_region
                  all_goals go_wp2
                  all_goals go_meet
                  all_goals (
                    have h1 := (HFS.out.put HNE.out t k).put HNE.out k t
                    rw [← HP1.out] at h1
                    refine ⟨⟨impl_GluingAll.FS.step h1 rfl rfl rfl rfl rfl⟩, ⟨impl_GluingAll.I_step HI.out (fun q hq _ => ?_)⟩, ⟨HFR.out.trans ⟨?_, fun q a b c e => ?_⟩⟩, ⟨below_drew1 (below_set (below_set HB.out HB00.out.2.1) HB00.out.2.1)⟩⟩
                    · have hqg := impl_GluingAll.own_ne HBX.out HNE.out hq
                      exact (heap_setCell_other _ _ q _ hqg).trans (heap_setCell_other _ _ q _ hqg)
                    · show wr.heap.size ≤ ((wr.setCell _ _).setCell _ _).heap.size
                      simp
                    · exact (heap_setCell_other _ _ q _ e).trans (heap_setCell_other _ _ q _ e))
                case rest =>
                  obtain ⟨HFS1, HI1, HFR1, HB1⟩ := hcut
                  clear HFS HI HFR HB hcp hcn hx1 hfk
                  have hcf : wc.cell? ⟨bf, 0, none⟩ = some (.func (.func 92) #[] #[.pointer (some ⟨bp, 0, none⟩), .pointer (some ⟨bt, 0, none⟩), .pointer (some ⟨bn, 0, none⟩), .pointer (some ⟨bf, 0, none⟩)]) := cell_of_row wc bf 0 _ _ _ HFS1.out.hf
                  go_upto_region 9 with (go_at_call 92; go_loud (refine (HIH.out p1 x wc rows1 (by rw [HP1.out]; exact HX.out.1) (by have h1 := congrArg List.length HX.out.2.2.1; simp only [List.length_append] at h1; have := HROW.out; omega) HX.out.2.2.2.1 HFS1.out HI1.out (by have := HFR1.out.size; have := HH.out; omega) HB1.out).mono ?_; rintro e wf ⟨rfl, hfs, hi, hfr, hb⟩; have HFS2 := Aside0.mk hfs; have HI2 := Aside0.mk hi; have HFR2 := Aside0.mk hfr; have HB2 := Aside0.mk hb; clear hfs hi hfr hb))
                  clear hcf
                  have hcp : wf.cell? ⟨bp, 0, none⟩ = some (.slice (some ⟨gp, 0, none⟩) n cp) := cell_of_row wf bp 0 _ _ _ HFS2.out.hp
                  have j1 : (0 ≤ t) = True := eq_true (by have := HKN.out; omega)
                  have j2 : (t < (n : Int)) = True := eq_true (by have := HKN.out; omega)
                  obtain ⟨hx2, hf2⟩ := Kd.R_celln 0 HFS2.out.hr t (by have := HKN.out; omega) (by have := HKN.out; omega)
                  obtain ⟨hx1, hfk⟩ := Kd.R_celln 0 HFS2.out.hr k (by have := HKN.out; omega) (by have := HKN.out; omega)
                  have hne1 : gp ≠ bp := fun e => HNE.out.p.2 e.symm
                  have hne2 : bp ≠ gp := HNE.out.p.2
                  have hne3 : t.toNat ≠ k.toNat := by have := HKN.out; omega
                  have hne4 : k.toNat ≠ t.toNat := by have := HKN.out; omega
                  go_region
                  all_goals go_wp2
                  all_goals go_meet
                  all_goals (
                    have h1 := (HFS2.out.put HNE.out t (-1)).put HNE.out k (-1)
                    rw [HP1.out, impl_GluingAll.put_back p t k HKN.out.2.2.1 HKN.out.2.2.2.1 (by rw [HLN.out.1]; exact HKN.out.2.2.2.2) HE'.out.1.1 HE'.out.1.2] at h1
                    refine ⟨rows1 ++ x, ⟨impl_GluingAll.FS.step h1 rfl rfl rfl rfl rfl⟩, ⟨impl_GluingAll.I_step HI2.out (fun q hq _ => ?_)⟩, ⟨⟨y, HX.out.2.1, HX.out.2.2.1, HX.out.2.2.2.2⟩⟩, ⟨(HFR1.out.trans HFR2.out).trans ⟨?_, fun q a b c e => ?_⟩⟩, ⟨below_drew1 (below_set (below_set HB2.out HB00.out.2.1) HB00.out.2.1)⟩⟩
                    · have hqg := impl_GluingAll.own_ne HBX.out HNE.out hq
                      exact (heap_setCell_other _ _ q _ hqg).trans (heap_setCell_other _ _ q _ hqg)
                    · show wf.heap.size ≤ ((wf.setCell _ _).setCell _ _).heap.size
                      simp
                    · exact (heap_setCell_other _ _ q _ e).trans (heap_setCell_other _ _ q _ e))
              · have cnb : decide (rd p k < 0) = false := decide_eq_false cn
                have HE' := Aside0.mk (show ∃ rest, impl_GluingAll.loop (impl_GluingAll.gen f) p t d (k + 1) = some rest ∧ rows1 ++ rest = rows ++ out ∧ ∀ z ∈ rest, impl_GluingAll.Q z by
                  obtain ⟨rest, h1, h2⟩ := HE.out
                  simp only [impl_GluingAll.loop] at h1
                  rw [if_neg cn] at h1
                  exact ⟨rest, h1, h2⟩)
                clear HE cn
                go_wp2
                go_meet
                exact ⟨rows1, HFS, HI, HE', HFR, HB⟩
            case rest =>
              obtain ⟨rows2, HFS2, HI2, HE2, HFR2, HB2⟩ := hcut
              go_wp2
              go_roundg d
              case measure => omega
              case rel => exact ⟨wrap64 (k + 1), rows2, rfl, ⟨by rw [HWK.out]; have := HK.out; omega, by rw [HWK.out]; have := HK.out; omega⟩, HFS2, HI2, ⟨by rw [HWK.out]; exact HE2.out⟩, HFR2, HB2⟩
    · rw [if_neg c2] at h; cases h

theorem impl_GluingAll.two (w : World) (A B : Obj) : ((w.alloc A).alloc B).heap[w.heap.size]? = some A ∧ ((w.alloc A).alloc B).heap[w.heap.size + 1]? = some B ∧ ((w.alloc A).alloc B).heap.size = w.heap.size + 2 := by
  show ((w.heap.push A).push B)[w.heap.size]? = some A ∧ ((w.heap.push A).push B)[w.heap.size + 1]? = some B ∧ ((w.heap.push A).push B).size = w.heap.size + 2
  have e1 : (w.heap.push A).size = w.heap.size + 1 := Array.size_push _
  refine ⟨?_, ?_, ?_⟩
  · rw [Array.getElem?_push, if_neg (by omega), Array.getElem?_push, if_pos rfl]
  · rw [Array.getElem?_push, if_pos (by omega)]
  · rw [Array.size_push, e1]
theorem impl_GluingAll.fill_step (n : Nat) (i : Int) (h0 : 0 ≤ i) (h : i < (n : Int)) : (List.replicate i.toNat (-1 : Int) ++ List.replicate (n - i.toNat) 0).set i.toNat (-1) = List.replicate (i + 1).toNat (-1) ++ List.replicate (n - (i + 1).toNat) 0 := by
  obtain ⟨j, rfl⟩ := Int.eq_ofNat_of_zero_le h0
  have e1 : ((j : Int)).toNat = j := Int.toNat_natCast j
  have e2 : ((j : Int) + 1).toNat = j + 1 := by omega
  rw [e1, e2]
  obtain ⟨m, hm⟩ : ∃ m, n - j = m + 1 := ⟨n - j - 1, by omega⟩
  rw [hm, show n - (j + 1) = m by omega, List.set_append_right _ _ (by simp), List.length_replicate, Nat.sub_self]
  rw [List.replicate_succ, List.set_cons_zero, List.replicate_succ' (n := j), List.append_assoc]
  rfl
set_option maxHeartbeats 16000000 in
set_option maxRecDepth 100000 in
theorem impl_GluingAll.flips (nI : Nat) (out : List (List Int)) (w w0 : World) (bo bg be : Nat) (g : Int) (hn : 1 ≤ nI ∧ nI ≤ 20) (hgen : impl_GluingAll.gen 12 (List.replicate nI (-1)) = some out) (hout : out.length ≤ 1000000) (hq : ∀ x ∈ out, impl_GluingAll.Q x)
    (HI : ∀ h0, w.heap.size ≤ h0 → impl_GluingAll.I w bo bg be h0 w0.heap.size g []) (hbo : bo < w.heap.size ∧ bg < w.heap.size ∧ be < w.heap.size) (hb : w0.heap.size ≤ bo ∧ w0.heap.size ≤ be) (HB : Below w0.heap.size w0 w) :
    Calls Try.prog 58 #[.int .i64 (nI : Int), impl_GluingAll.FV bo bg] w fun e w' => e = .returned (.tuple #[]) ∧ ∃ h0, w.heap.size ≤ h0 ∧ impl_GluingAll.I w' bo bg be h0 w0.heap.size g out ∧ (∀ k, k < w.heap.size → k ≠ bo → k ≠ be → w'.heap[k]? = w.heap[k]?) ∧ w.heap.size ≤ w'.heap.size ∧ Below w0.heap.size w0 w' := by
  have HN := Aside0.mk hn
  have HG := Aside0.mk (And.intro hgen (And.intro hout hq))
  have HI0 := Aside0.mk HI
  have HBO := Aside0.mk (And.intro hbo hb)
  have HB0 := Aside0.mk HB
  clear hn hgen hout hq HI hbo hb HB
  unfold impl_GluingAll.FV
  go_enter Try.func58, Try.ntmps58
  go_upto_region 2 with ((with_reducible refine gate_dst (N := 8) rfl ?_); refine Kd.R_make (Kd.int .i64) _ 3 rfl (N := 8) rfl 32 _ _ rfl (nI : Int) rfl rfl Try.underlying32 (.int .i64 0) 8 info3 rfl (by decide) (by omega) 0 (ok := fun _ => True) (okp := fun _ => True) rfl (fun _ hk => hk) trivial (by omega) (by have := HN.out; omega) (Below.refl _ _) (Nat.le_refl _) ?_; intro v185 w4 ho5 hb hg_ hnew_; clear hg_ hnew_; rw [Int.toNat_natCast] at ho5; obtain ⟨gp, cp, ev, hgb, hgl, cl_, hG_⟩ := Kd.R_form ho5 (by have := HN.out; simp; omega); rw [List.length_replicate] at ev; subst ev; clear hG_ cl_; have HGB := Aside0.mk (And.intro hgb hgl); have HO5 := Aside0.mk ho5; have HB4 := Aside0.mk hb; clear hgb hgl ho5 hb)
  have hsz2 := (impl_GluingAll.two w (.cells #[.int .i64 (nI : Int)] 3 (0, 0)) (.cells #[(.func (.func 59) #[] #[.pointer (some ⟨bo, 0, none⟩)] : Value)] 60 (0, 0))).2.2
  have HS4 := Aside0.mk (show w.heap.size + 2 ≤ gp ∧ gp < w4.heap.size by have h1 := HGB.out; rw [hsz2] at h1; exact h1)
  have HN4 := Aside0.mk (show w4.heap[w.heap.size]? = some (.cells #[.int .i64 (nI : Int)] 3 (0, 0)) from (HB4.out.block _ (by rw [hsz2]; omega)).trans (impl_GluingAll.two w _ _).1)
  have HT4 := Aside0.mk (show w4.heap[w.heap.size + 1]? = some (.cells #[(.func (.func 59) #[] #[.pointer (some ⟨bo, 0, none⟩)] : Value)] 60 (0, 0)) from (HB4.out.block _ (by rw [hsz2]; omega)).trans (impl_GluingAll.two w _ _).2.1)
  have HBW := Aside0.mk (show Below w.heap.size w w4 from below_step (below_alloc (below_alloc (Below.refl _ _) _) _) HB4.out)
  have HR4 := Aside0.mk (show Kd.R (Kd.int .i64) 3 w4 w0.heap.size (fun k => k = gp) (.slice (some ⟨gp, 0, none⟩) nI cp) (List.replicate nI 0) from Kd.R_mono (Kd.R_tight rfl (Kd.R_lower HO5.out (by rw [hsz2]; have := HB0.out.size; omega))) (fun k hk => by simpa [Value.ownBlock] using hk))
  clear HO5 HB4 HGB hsz2
  generalize hw5 : World.alloc w4 _ = w5
  have HN5 := Aside0.mk (show w5.heap[w.heap.size]? = some (.cells #[.int .i64 (nI : Int)] 3 (0, 0)) by rw [← hw5]; exact ((below_alloc (Below.refl _ _) _).block _ (by have := HS4.out; omega)).trans HN4.out)
  have HT5 := Aside0.mk (show w5.heap[w.heap.size + 1]? = some (.cells #[(.func (.func 59) #[] #[.pointer (some ⟨bo, 0, none⟩)] : Value)] 60 (0, 0)) by rw [← hw5]; exact ((below_alloc (Below.refl _ _) _).block _ (by have := HS4.out; omega)).trans HT4.out)
  have HP5 := Aside0.mk (show w5.heap[w4.heap.size]? = some (.cells #[.slice (some ⟨gp, 0, none⟩) nI cp] 32 (0, 0)) by rw [← hw5]; exact blk_new w4 _)
  have HR5 := Aside0.mk (show Kd.R (Kd.int .i64) 3 w5 w0.heap.size (fun k => k = gp) (.slice (some ⟨gp, 0, none⟩) nI cp) (List.replicate nI 0) by rw [← hw5]; exact Kd.R_alloc HR4.out _)
  have HBW5 := Aside0.mk (show Below w.heap.size w w5 by rw [← hw5]; exact below_alloc HBW.out _)
  have HS5 := Aside0.mk (show w5.heap.size = w4.heap.size + 1 by rw [← hw5]; exact Array.size_push _)
  clear hw5 HN4 HT4 HR4 HBW
  have hcp5 : w5.cell? ⟨w4.heap.size, 0, none⟩ = some (.slice (some ⟨gp, 0, none⟩) nI cp) := cell_of_row w5 _ 0 _ _ _ HP5.out
  go_wp2
  go_loopg [11] nI (fun d v11 wr => ∃ i : Int, v11 = .int .i64 i ∧ Aside0 (0 ≤ i ∧ i + d = nI) ∧ Aside0 (wr.heap[w.heap.size]? = some (.cells #[.int .i64 (nI : Int)] 3 (0, 0)) ∧ wr.heap[w.heap.size + 1]? = some (.cells #[(.func (.func 59) #[] #[.pointer (some ⟨bo, 0, none⟩)] : Value)] 60 (0, 0)) ∧ wr.heap[w4.heap.size]? = some (.cells #[.slice (some ⟨gp, 0, none⟩) nI cp] 32 (0, 0)) ∧ wr.heap.size = w4.heap.size + 1) ∧ Aside0 (Kd.R (Kd.int .i64) 3 wr w0.heap.size (fun k => k = gp) (.slice (some ⟨gp, 0, none⟩) nI cp) (List.replicate i.toNat (-1) ++ List.replicate (nI - i.toNat) 0)) ∧ Aside0 (Below w.heap.size w wr))
  case atStart => exact ⟨0, rfl, ⟨by omega, by omega⟩, ⟨HN5.out, HT5.out, HP5.out, HS5.out⟩, HR5, HBW5⟩
  case round =>
    clear HN5 HT5 HP5 HR5 HBW5 HS5 hcp5
    obtain ⟨i, rfl, HI1, HF, HR, HBW⟩ := hrel
    cases gk with
    | zero =>
      have hc : decide (i < (nI : Int)) = false := decide_eq_false (by have := HI1.out; omega)
      have HR1 := Aside0.mk (show Kd.R (Kd.int .i64) 3 wr w0.heap.size (fun k => k = gp) (.slice (some ⟨gp, 0, none⟩) nI cp) (List.replicate nI (-1)) by
        have h1 := HR.out
        rw [show i.toNat = nI by have := HI1.out; omega, Nat.sub_self, List.replicate_zero, List.append_nil] at h1
        exact h1)
      clear HR
      have HX := Aside0.mk (show impl_GluingAll.Ne w.heap.size (w.heap.size + 1) w4.heap.size wr.heap.size gp (wr.heap.size + 1) from by have h1 := HS4.out; have h2 := HF.out.2.2.2; exact ⟨⟨by omega, by omega⟩, ⟨by omega, by omega⟩, ⟨by omega, by omega⟩, ⟨by omega, by omega⟩, by omega⟩)
      have HY := Aside0.mk (show impl_GluingAll.Bx bo bg be (wr.heap.size + 1) w.heap.size (w.heap.size + 1) w4.heap.size wr.heap.size gp from by have h1 := HS4.out; have h2 := HF.out.2.2.2; have h3 := HBO.out; exact ⟨by omega, by omega, ⟨by omega, by omega, by omega⟩, ⟨by omega, by omega⟩, ⟨by omega, by omega⟩, ⟨by omega, by omega⟩, ⟨by omega, by omega⟩⟩)
      have HSW := Aside0.mk (show w0.heap.size ≤ w.heap.size from HB0.out.size)
      have HTRY := Aside0.mk (show ∀ wf, wf = wr.alloc (.cells #[impl_GluingAll.TV w.heap.size (w.heap.size + 1) w4.heap.size wr.heap.size] 1 (0, 0)) → Calls Try.prog 92 #[.pointer (some ⟨w4.heap.size, 0, none⟩), .pointer (some ⟨w.heap.size + 1, 0, none⟩), .pointer (some ⟨w.heap.size, 0, none⟩), .pointer (some ⟨wr.heap.size, 0, none⟩)] wf fun e w' => e = .returned (.tuple #[]) ∧ impl_GluingAll.I w' bo bg be (wr.heap.size + 1) w0.heap.size g out ∧ (∀ k, k < w.heap.size → k ≠ bo → k ≠ be → w'.heap[k]? = w.heap[k]?) ∧ w.heap.size ≤ w'.heap.size ∧ Below w0.heap.size w0 w' by
        intro wf hwf
        have hold : ∀ k, k < wr.heap.size → wf.heap[k]? = wr.heap[k]? := fun k hk => by rw [hwf]; exact (below_alloc (Below.refl _ _) _).block k hk
        have h1 := HS4.out
        have h2 := HF.out.2.2.2
        have hsf : wf.heap.size = wr.heap.size + 1 := by rw [hwf]; exact Array.size_push _
        have hfs : impl_GluingAll.FS wf w.heap.size (w.heap.size + 1) w4.heap.size wr.heap.size gp nI cp w0.heap.size (impl_GluingAll.FV bo bg) (List.replicate nI (-1)) :=
          ⟨(hold _ (by omega)).trans HF.out.1, (hold _ (by omega)).trans HF.out.2.1, (hold _ (by omega)).trans HF.out.2.2.1, by rw [hwf]; exact blk_new wr _, Kd.R_step HR1.out (fun k hk _ => by rw [hk]; exact hold gp (by omega)), List.length_replicate⟩
        have hi : impl_GluingAll.I wf bo bg be (wr.heap.size + 1) w0.heap.size g [] := impl_GluingAll.I_step (HI0.out (wr.heap.size + 1) (by omega)) (fun k _ hk => (hold k (by omega)).trans (HBW.out.block k hk))
        have hbf : Below w0.heap.size w0 wf := by
          have h3 := below_step HB0.out HBW.out
          rw [hwf]; exact below_alloc h3 _
        refine (impl_GluingAll.try_ w.heap.size (w.heap.size + 1) w4.heap.size wr.heap.size gp nI cp bo bg be (wr.heap.size + 1) g w0 HX.out HY.out (by have := HBO.out; have := HSW.out; omega) (by have := HN.out; omega) 12 (List.replicate nI (-1)) out wf [] HG.out.1 (by simpa using HG.out.2.1) HG.out.2.2 hfs hi (by omega) hbf).mono ?_
        rintro e w' ⟨he, _, hi', hfr, hb'⟩
        refine ⟨he, by simpa using hi', fun k hk a b => ?_, ?_, hb'⟩
        · exact ((hfr.keep k (by omega) a b (by omega)).trans (hold k (by omega))).trans (HBW.out.block k hk)
        · have := hfr.size; omega)
      unfold impl_GluingAll.TV at HTRY
      clear HF
      go_wp2_with (go_at_call 92; refine (HTRY.out _ rfl).mono ?_; rintro e w' ⟨rfl, hi', hk', hs', hb'⟩; have HI9 := Aside0.mk hi'; have HK9 := Aside0.mk (And.intro hk' (And.intro hs' hb')); clear hi' hk' hs' hb')
      go_end0
      exact ⟨rfl, _, by have := HBW.out.size; omega, HI9.out, HK9.out.1, HK9.out.2.1, HK9.out.2.2⟩
    | succ d =>
      have hc : decide (i < (nI : Int)) = true := decide_eq_true (by have := HI1.out; omega)
      have HW := Aside0.mk (show wrap64 (i + 1) = i + 1 by have := HI1.out; have := HN.out; unfold wrap64; omega)
      have i1 : (0 ≤ i) = True := eq_true HI1.out.1
      have i2 : (i < (nI : Int)) = True := eq_true (by have := HI1.out; omega)
      have hcp : wr.cell? ⟨w4.heap.size, 0, none⟩ = some (.slice (some ⟨gp, 0, none⟩) nI cp) := cell_of_row wr _ 0 _ _ _ HF.out.2.2.1
      obtain ⟨hx, hf⟩ := Kd.R_celln 0 HR.out i HI1.out.1 (by have := HI1.out; omega)
      go_wp2
      go_roundg d
      case measure => omega
      case rel =>
        have h1 := HS4.out
        refine ⟨wrap64 (i + 1), rfl, ⟨by rw [HW.out]; have := HI1.out; omega, by rw [HW.out]; have := HI1.out; omega⟩, ⟨?_, ?_, ?_, ?_⟩, ⟨?_⟩, ⟨?_⟩⟩
        · exact (heap_setCell_other wr _ _ _ (by show w.heap.size ≠ gp; omega)).trans HF.out.1
        · exact (heap_setCell_other wr _ _ _ (by show w.heap.size + 1 ≠ gp; omega)).trans HF.out.2.1
        · exact (heap_setCell_other wr _ _ _ (by show w4.heap.size ≠ gp; omega)).trans HF.out.2.2.1
        · rw [← HF.out.2.2.2]; simp
        · rw [HW.out, ← impl_GluingAll.fill_step nI i HI1.out.1 (by have := HI1.out; omega)]
          exact Kd.R_putn HR.out i (-1)
        · exact below_set HBW.out (by omega)

theorem impl_GluingAll.empty (W : World) (base gq : Nat) (P : Nat → Prop) (h : W.heap[gq]? = some (.cells #[] 32 (0, 0))) (hb : base ≤ gq) (hp : P gq) : Kd.S (Kd.slice 3 (Kd.int .i64)) 32 W base P (.slice (some ⟨gq, 0, none⟩) 0 0) [] :=
  ⟨fun _ => 0, fun k hk => by (have e : gq = k := by simpa [Value.ownBlock] using hk); exact e ▸ hp, [], ⟨by simp, .inr ⟨gq, 0, #[], rfl, hb, h, Nat.le_refl _, Nat.zero_le _, by simp, by simp⟩⟩, Reps.none _ _⟩
def impl_GluingAll.f (a0 : Int) : Option (List (List Int) × Bool) := if a0 < 1 then some ([], false) else if 3 < a0 then some ([], false) else (impl_GluingAll.gen 12 (List.replicate (2 * a0).toNat (-1))).bind fun L => if L.length ≤ 1000000 then some (L, true) else none
set_option maxHeartbeats 8000000 in
set_option maxRecDepth 100000 in
theorem impl_GluingAll.calls (a0 : Int) (r1 : List (List Int)) (r2 : Bool) (w : World) (h : impl_GluingAll.f a0 = some (r1, r2)) :
    Calls Try.prog 21 #[.int .i64 a0] w fun e w' => ∃ v0_ : Value, e = .returned (.tuple #[v0_, .bool r2]) ∧ Kd.S (Kd.slice 3 (Kd.int .i64)) 32 w' w.heap.size (fun _ => True) v0_ r1 ∧ Below w.heap.size w w' := by
  have HB := Aside0.mk (Below.refl w.heap.size w)
  unfold impl_GluingAll.f at h
  by_cases c1 : a0 < 1
  · rw [if_pos c1] at h
    obtain ⟨rfl, rfl⟩ := Prod.mk.inj (Option.some.inj h)
    have c1b : decide (a0 < 1) = true := decide_eq_true c1
    clear h c1
    go_enter Try.func21, Try.ntmps21
    go_wp2
    go_ret2
    exact ⟨_, rfl, Kd.S_nil _ _ _ _ _, HB.out⟩
  · rw [if_neg c1] at h
    have c1b : decide (a0 < 1) = false := decide_eq_false c1
    by_cases c2 : 3 < a0
    · rw [if_pos c2] at h
      obtain ⟨rfl, rfl⟩ := Prod.mk.inj (Option.some.inj h)
      have c2b : decide (3 < a0) = true := decide_eq_true c2
      clear h c1 c2
      go_enter Try.func21, Try.ntmps21
      go_wp2
      go_ret2
      exact ⟨_, rfl, Kd.S_nil _ _ _ _ _, HB.out⟩
    · rw [if_neg c2] at h
      have c2b : decide (3 < a0) = false := decide_eq_false c2
      obtain ⟨L, hL, h⟩ := Option.bind_eq_some_iff.mp h
      by_cases c3 : L.length ≤ 1000000
      · rw [if_pos c3] at h
        obtain ⟨rfl, rfl⟩ := Prod.mk.inj (Option.some.inj h)
        have HA := Aside0.mk (show 1 ≤ a0 ∧ a0 ≤ 3 by omega)
        have HL := Aside0.mk (And.intro hL c3)
        have HW := Aside0.mk (show wrap64 (2 * a0) = (((2 * a0).toNat : Nat) : Int) by have := HA.out; unfold wrap64; omega)
        clear h c1 c2 hL c3
        go_enter Try.func21, Try.ntmps21
        go_wp2_with (go_at_call 58; rw [HW.out]; refine (impl_GluingAll.flips (2 * a0).toNat L _ w (w.heap.size + 1) (w.heap.size + 1) w.heap.size 0 (by have := HA.out; omega) HL.out.1 HL.out.2 (fun _ _ => trivial) (fun h0 _ => ⟨by omega, _, (impl_GluingAll.two w _ _).2.1, impl_GluingAll.empty _ _ w.heap.size _ (impl_GluingAll.two w _ _).1 (Nat.le_refl _) (.inl rfl)⟩) (by rw [(impl_GluingAll.two w _ _).2.2]; omega) (by omega) (below_alloc (below_alloc HB.out _) _)).mono ?_; rintro e w1 ⟨rfl, h0, hh0, ⟨hne, v1, hv1, hs1⟩, hk, hsz, hb1⟩; have hc1 : w1.cell? ⟨w.heap.size + 1, 0, none⟩ = some v1 := cell_of_row w1 _ 0 _ _ _ hv1; have HS1 := Aside0.mk hs1; have HB1 := Aside0.mk hb1; clear hs1 hb1 hk hsz hv1)
        go_ret2
        exact ⟨_, rfl, Kd.S_mono HS1.out (fun _ _ => trivial), HB1.out⟩
      · rw [if_neg c3] at h; cases h

/-! ### laws_FnExactGluingAll: function 4 (a section of my own) -/
def laws_FnExactGluingAll.f (k : Nat) (a0 : Int) : Option (Bool) := (spec_GluingAll.f k a0).bind fun s => (impl_GluingAll.f a0).bind fun g => if s = g ∧ g.1.length ≤ 1000000 then (laws_eqIntSS.f 200 g.1 s.1).bind fun e => if e = true then (laws_markIntSS.all g.1 1).bind fun m => if laws_heldIntSS.f 200 m.1 1 = some m.2 ∧ 0 ≤ m.2 then some true else none else none else none
set_option maxHeartbeats 16000000 in
set_option maxRecDepth 100000 in
set_option maxHeartbeats 8000000 in
set_option maxRecDepth 100000 in
theorem laws_FnExactGluingAll.calls (k : Nat) (a0 : Int) (r : Bool) (w : World) (h : laws_FnExactGluingAll.f k a0 = some r) :
    Calls Try.prog 4 #[.int .i64 a0] w fun e w' => e = .returned (.bool r) ∧ Below w.heap.size w w' := by
  unfold laws_FnExactGluingAll.f at h
  obtain ⟨s, hs, h⟩ := Option.bind_eq_some_iff.mp h
  obtain ⟨⟨L, bb⟩, hg, h⟩ := Option.bind_eq_some_iff.mp h
  by_cases c1 : ¬ (s = (L, bb) ∧ L.length ≤ 1000000)
  · rw [if_neg c1] at h; cases h
  replace c1 := Classical.not_not.mp c1
  rw [if_pos c1] at h
  obtain ⟨rfl, hl⟩ := c1
  obtain ⟨e, he, h⟩ := Option.bind_eq_some_iff.mp h
  by_cases c2 : ¬ (e = true)
  · rw [if_neg c2] at h; cases h
  replace c2 := Classical.not_not.mp c2
  rw [if_pos c2] at h
  subst c2
  obtain ⟨⟨m, k1⟩, hm, h⟩ := Option.bind_eq_some_iff.mp h
  by_cases c3 : ¬ (laws_heldIntSS.f 200 m 1 = some k1 ∧ 0 ≤ k1)
  · rw [if_neg c3] at h; cases h
  replace c3 := Classical.not_not.mp c3
  rw [if_pos c3] at h
  obtain rfl := Option.some.inj h
  have HS := Aside0.mk hs
  have HG := Aside0.mk hg
  have HE := Aside0.mk he
  have HM := Aside0.mk hm
  have HD := Aside0.mk c3
  have HL := Aside0.mk hl
  have HB := Aside0.mk (Below.refl w.heap.size w)
  have hk1 : decide (k1 < 0) = false := decide_eq_false (by have := c3.2; omega)
  clear hs hg he hm c3 hl h
  have key : ∀ b : Bool, bb = b → Calls Try.prog 4 #[.int .i64 a0] w fun e w' => e = .returned (.bool true) ∧ Below w.heap.size w w' := by
    intro b hbb
    subst hbb
    cases bb
    all_goals
      go_enter Try.func4, Try.ntmps4
      go_upto_region 2 with (go_at_call 20; refine (spec_GluingAll.calls k a0 L _ _ HS.out).mono ?_; rintro e w1 ⟨v1, rfl, ho, hb⟩; obtain ⟨Aw, cw, rfl, lw, gw⟩ := Kd.N_reads ho; have HC1 := Aside0.mk (And.intro lw gw); have HB1 := Aside0.mk hb; clear ho hb lw gw)
      go_upto_region 3 with (go_at_call 21; refine (impl_GluingAll.calls a0 L _ w1 HG.out).mono ?_; rintro e w2 ⟨v2, rfl, ho, hb⟩; obtain ⟨Ag, cg, rfl⟩ := Kd.S_slice ho; have HO2 := Aside0.mk ho; have HB2 := Aside0.mk hb; clear ho hb)
      have HR2 := Aside0.mk (Kd.S_reads' HO2.out).2
      have HW2 := Aside0.mk (Kd.C_below HC1.out.2 HB2.out)
      go_upto_region 6 with (go_at_call 17; refine (laws_eqIntSS.calls 200 Ag cg L Aw cw L true _ HR2.out.2 HR2.out.1 HW2.out HC1.out.1 HE.out).mono ?_; rintro e w' ⟨rfl, ⟨n1, rfl⟩⟩)
      clear HR2 HW2
      go_upto_region 8 with (go_at_call 18; refine (laws_markIntSS.marksA L m 1 k1 HM.out HL.out Ag cg _ w1 (Kd.S_drewN HO2.out _) (pw_below_drewN HB2.out _)).mono ?_; rintro e w3 ⟨rfl, ⟨hm1, hm2⟩, hb⟩; have HM3 := Aside0.mk (And.intro hm1 hm2); have HB3 := Aside0.mk hb; clear hm1 hm2 hb)
      have HLG := Aside0.mk (show L.length ≤ cg from (Kd.S_reads' HO2.out).2.1)
      clear HO2
      have HG3 := Aside0.mk (show Kd.C (Kd.slice 3 (Kd.int .i64)) w3 Ag m.length m ∧ m.length ≤ cg ∧ m.length = L.length from ⟨HM3.out.2, by rw [HM3.out.1]; exact HLG.out, HM3.out.1⟩)
      have HHC := Aside0.mk (show ∀ W, Kd.C (Kd.slice 3 (Kd.int .i64)) W Ag m.length m → Calls Try.prog 19 #[.slice Ag L.length cg, .int .i64 1] W fun e w' => e = .returned (.int .i64 k1) ∧ Drawn0 W w' from fun W hW => by
        have h1 := laws_heldIntSS.calls 200 Ag cg m 1 k1 W hW HG3.out.2.1 HD.out.1
        rw [HG3.out.2.2] at h1
        exact h1)
      clear HM3
      go_upto_region 13 with (go_at_call 19; refine (HHC.out _ HG3.out.1).mono ?_; rintro e w' ⟨rfl, ⟨n2, rfl⟩⟩)
      go_upto_region 14 with (go_at_call 21; refine (impl_GluingAll.calls a0 L _ _ HG.out).mono ?_; rintro e w4 ⟨v4, rfl, ho, hb⟩; obtain ⟨Ah, ch, rfl⟩ := Kd.S_slice ho; have HO4 := Aside0.mk (Kd.S_reads' ho).2; have HB4 := Aside0.mk hb; clear ho hb)
      have HW4 := Aside0.mk (Kd.C_below (Kd.C_drewN (Kd.C_below HC1.out.2 HB3.out) n2) HB4.out)
      have HG4 := Aside0.mk (Kd.C_below (Kd.C_drewN HG3.out.1 n2) HB4.out)
      have HBB := Aside0.mk (below_step (pw_below_drewN (below_step HB1.out HB3.out) n2) HB4.out)
      clear HB1 HB2 HB3 HB4 HG3
      go_upto_region 17 with (go_at_call 17; refine (laws_eqIntSS.calls 200 Ah ch L Aw cw L true _ HO4.out.2 HO4.out.1 HW4.out HC1.out.1 HE.out).mono ?_; rintro e w' ⟨rfl, ⟨n3, rfl⟩⟩)
      clear HO4 HW4
      go_wp2_with (go_at_call 19; refine (HHC.out _ (Kd.C_drewN HG4.out _)).mono ?_; rintro e w' ⟨rfl, ⟨n4, rfl⟩⟩)
      go_ret
      exact ⟨rfl, pw_below_drewN HBB.out _⟩
  exact key bb rfl
def laws_FnExactGluingAll.Pure : Prop := ∀ (a0 : Int), (Lit.int .i64 a0).wf = true → ∃ k, laws_FnExactGluingAll.f k a0 = some true
theorem laws_FnExactGluingAll.walk (P : laws_FnExactGluingAll.Pure) (a0 : Int) (w : World) (w0 : (Lit.int .i64 a0).wf = true) :
    Calls Try.prog 4 #[.int .i64 a0] w fun e w' => e = .returned (.bool true) ∧ Below w.heap.size w w' := by
  obtain ⟨k, h⟩ := P a0 w0
  exact laws_FnExactGluingAll.calls k a0 true w h

end Go.Proofs.Ytkfeildndcdbaaa.Q
