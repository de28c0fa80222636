import Derived.Test.YtdaiohcgdpclnaaQ0
import Derived.Test.YtdaiohcgdpclnaaQ1
import Derived.Test.YtdaiohcgdpclnaaQ2
import Derived.Test.YtdaiohcgdpclnaaQ3
import Derived.Laws.EntriesVeiled
import Derived.Shelf.SlSortCmp.WholeK
import Derived.Test.YtdaiohcgdpclnaaZ
namespace Go.Proofs.Ytdaiohcgdpclnaa.Q
open Go.RowKit Go.Proofs.YtdaiohcgdpclnaaW.PrintWords Go.Proofs.YtdaiohcgdpclnaaW.PrintLast Go.Proofs.YtdaiohcgdpclnaaW.PrintMore
attribute [local go_sem] max2_int min2_int max_two min_two max_three min_three max_four min_four   -- for this text's walks alone
set_option linter.unusedVariables false
set_option linter.unusedSimpArgs false

/-! ### impl_rooted: function 42 (a section of my own) -/
def impl_rooted.ren:Go.Shelf.Ren:=⟨fun|6=>72|15=>93|14=>92|28=>109|29=>110|20=>101|21=>102|22=>103|23=>104|24=>105|25=>106|26=>107|27=>108|46=>114|47=>115|48=>116|49=>117|50=>118|57=>120|n=>n,fun|22=>27|24=>33|25=>60|3=>3|39=>78|0=>0|53=>89|55=>91|4=>4|46=>82|45=>81|50=>86|5=>5|9=>9|66=>95|70=>99|76=>101|77=>23|n=>n,fun|n=>n⟩
theorem impl_rooted.lays:Go.Proofs.SlLaysF0.n6 Try.prog impl_rooted.ren:={
  mixed:=by kernel_rfl
  f6:=⟨Try.f72.name,by decide,Try.func72.trans (congrArg some (by kernel_rfl))⟩
  f14:=⟨Try.f92.name,by decide,Try.func92.trans (congrArg some (by kernel_rfl))⟩
  f15:=Try.func93.trans (congrArg some (by kernel_rfl))
  f20:=⟨Try.f101.name,by decide,Try.func101.trans (congrArg some (by kernel_rfl))⟩
  f21:=⟨Try.f102.name,by decide,Try.func102.trans (congrArg some (by kernel_rfl))⟩
  f22:=⟨Try.f103.name,by decide,Try.func103.trans (congrArg some (by kernel_rfl))⟩
  f23:=⟨Try.f104.name,by decide,Try.func104.trans (congrArg some (by kernel_rfl))⟩
  f24:=⟨Try.f105.name,by decide,Try.func105.trans (congrArg some (by kernel_rfl))⟩
  f25:=⟨Try.f106.name,by decide,Try.func106.trans (congrArg some (by kernel_rfl))⟩
  f26:=⟨Try.f107.name,by decide,Try.func107.trans (congrArg some (by kernel_rfl))⟩
  f27:=⟨Try.f108.name,by decide,Try.func108.trans (congrArg some (by kernel_rfl))⟩
  f28:=Try.func109.trans (congrArg some (by kernel_rfl))
  f29:=Try.func110.trans (congrArg some (by kernel_rfl))
  f46:=⟨Try.f114.name,by decide,Try.func114.trans (congrArg some (by kernel_rfl))⟩
  f47:=Try.func115.trans (congrArg some (by kernel_rfl))
  f48:=Try.func116.trans (congrArg some (by kernel_rfl))
  f49:=⟨Try.f117.name,by decide,Try.func117.trans (congrArg some (by kernel_rfl))⟩
  f50:=⟨Try.f118.name,by decide,Try.func118.trans (congrArg some (by kernel_rfl))⟩
  f57:=⟨Try.f120.name,by decide,Try.func120.trans (congrArg some (by kernel_rfl))⟩
  t0:=Try.underlying0
  a0:=Try.isAgg0
  z0:=Try.sizeOf0
  v0:=Try.zeroValue0
  t3:=Try.underlying3
  a3:=Try.isAgg3
  z3:=Try.sizeOf3
  v3:=Try.zeroValue3
  t4:=Try.underlying4
  a4:=Try.isAgg4
  z4:=Try.sizeOf4
  v4:=Try.zeroValue4
  t5:=Try.underlying5
  a5:=Try.isAgg5
  z5:=Try.sizeOf5
  v5:=Try.zeroValue5
  t9:=Try.underlying9
  a9:=Try.isAgg9
  z9:=Try.sizeOf9
  v9:=Try.zeroValue9
  t22:=Try.underlying27
  a22:=Try.isAgg27
  z22:=Try.sizeOf27
  v22:=Try.zeroValue27
  t25:=Try.underlying60
  a25:=Try.isAgg60
  z25:=Try.sizeOf60
  v25:=Try.zeroValue60
  t39:=Try.underlying78
  a39:=Try.isAgg78
  z39:=Try.sizeOf78
  v39:=Try.zeroValue78
  t45:=Try.underlying81
  a45:=Try.isAgg81
  z45:=Try.sizeOf81
  v45:=Try.zeroValue81
  t46:=Try.underlying82
  a46:=Try.isAgg82
  z46:=Try.sizeOf82
  v46:=Try.zeroValue82
  t50:=Try.underlying86
  a50:=Try.isAgg86
  z50:=Try.sizeOf86
  v50:=Try.zeroValue86
  t53:=Try.underlying89
  a53:=Try.isAgg89
  z53:=Try.sizeOf89
  v53:=Try.zeroValue89
  t55:=Try.underlying91
  a55:=Try.isAgg91
  z55:=Try.sizeOf91
  v55:=Try.zeroValue91
  t66:=Try.underlying95
  a66:=Try.isAgg95
  z66:=Try.sizeOf95
  v66:=Try.zeroValue95
  t70:=Try.underlying99
  a70:=Try.isAgg99
  z70:=Try.sizeOf99
  v70:=Try.zeroValue99
  t76:=Try.underlying101
  a76:=Try.isAgg101
  z76:=Try.sizeOf101
  v76:=Try.zeroValue101
  t77:=Try.underlying23
  a77:=Try.isAgg23
  z77:=Try.sizeOf23
  v77:=Try.zeroValue23 }

def impl_rooted.own (bo bg be h0 k:Nat):Prop:=k = bo∨k = bg∨k = be∨h0≤k
def impl_rooted.loop (g:List Int→Option (List (List Int))) (p:List Int) (a:Int):Nat→Int→Option (List (List Int))
  | 0,_=>some []
  | d+1,k=>if rd p k < 0 then (if rd p k = -1∧rd p a = -1 then (g ((p.set a.toNat k).set k.toNat a)).bind fun x=>(impl_rooted.loop g p a d (k+1)).bind fun y=>some (x ++ y) else none) else impl_rooted.loop g p a d (k+1)
def impl_rooted.gen:Nat→List Int→Option (List (List Int))
  | 0,_=>none
  | f+1,p=>(slices_Index_int_int.f 60 p (-1)).bind fun t=>if t < 0 then some [p] else if t < (p.length:Int) then impl_rooted.loop (impl_rooted.gen f) p t (p.length - (t.toNat+1)) (t+1) else none
/-- the function value that try holds; the four variables, and the row that is being filled -/
def impl_rooted.TV (bn bt bp bf:Nat):Value:=.func (.func 88) #[] #[.pointer (some ⟨bp,0,none⟩),.pointer (some ⟨bt,0,none⟩),.pointer (some ⟨bn,0,none⟩),.pointer (some ⟨bf,0,none⟩)]
structure impl_rooted.FS (W:World) (bn bt bp bf gp n cp base:Nat) (F:Value) (p:List Int):Prop where
  hn:W.heap[bn]? = some (.cells #[.int .i64 (n:Int)] 3 (0,0))
  ht:W.heap[bt]? = some (.cells #[F] 64 (0,0))
  hp:W.heap[bp]? = some (.cells #[.slice (some ⟨gp,0,none⟩) n cp] 31 (0,0))
  hf:W.heap[bf]? = some (.cells #[impl_rooted.TV bn bt bp bf] 1 (0,0))
  hr:Kd.R (Kd.int .i64) 3 W base (fun k=>k = gp) (.slice (some ⟨gp,0,none⟩) n cp) p
  hl:p.length = n
structure impl_rooted.Ne (bn bt bp bf gp h0:Nat):Prop where
  n:bn < h0∧bn≠gp
  t:bt < h0∧bt≠gp
  p:bp < h0∧bp≠gp
  f:bf < h0∧bf≠gp
  g:gp < h0
structure impl_rooted.Fr (w w':World) (h0 bo be gp:Nat):Prop where
  size:w.heap.size≤w'.heap.size
  keep:∀ k,k < h0→k≠bo→k≠be→k≠gp→w'.heap[k]? = w.heap[k]?
theorem impl_rooted.Fr.refl (w:World) (h0 bo be gp:Nat):impl_rooted.Fr w w h0 bo be gp:=⟨Nat.le_refl _,fun _ _ _ _ _=>rfl⟩
theorem impl_rooted.Fr.trans {w w1 w2:World} {h0 bo be gp:Nat} (a:impl_rooted.Fr w w1 h0 bo be gp) (b:impl_rooted.Fr w1 w2 h0 bo be gp):impl_rooted.Fr w w2 h0 bo be gp:=⟨Nat.le_trans a.size b.size,fun k h1 h2 h3 h4=>(b.keep k h1 h2 h3 h4).trans (a.keep k h1 h2 h3 h4)⟩
section
variable {W W':World} {bn bt bp bf gp n cp base:Nat} {F:Value} {p:List Int}
theorem impl_rooted.FS.step (h:impl_rooted.FS W bn bt bp bf gp n cp base F p) (h1:W'.heap[bn]? = W.heap[bn]?) (h2:W'.heap[bt]? = W.heap[bt]?) (h3:W'.heap[bp]? = W.heap[bp]?) (h4:W'.heap[bf]? = W.heap[bf]?) (h5:W'.heap[gp]? = W.heap[gp]?):impl_rooted.FS W' bn bt bp bf gp n cp base F p :=
  ⟨h1.trans h.hn,h2.trans h.ht,h3.trans h.hp,h4.trans h.hf,Kd.R_step h.hr (fun k hk _=>by rw [hk];exact h5),h.hl⟩
theorem impl_rooted.FS.put (h:impl_rooted.FS W bn bt bp bf gp n cp base F p) {h0:Nat} (hne:impl_rooted.Ne bn bt bp bf gp h0) (i v:Int):impl_rooted.FS (W.setCell ⟨gp,i.toNat,none⟩ (.int .i64 v)) bn bt bp bf gp n cp base F (p.set i.toNat v) :=
  ⟨(heap_setCell_other W _ bn _ hne.n.2).trans h.hn,(heap_setCell_other W _ bt _ hne.t.2).trans h.ht,(heap_setCell_other W _ bp _ hne.p.2).trans h.hp,(heap_setCell_other W _ bf _ hne.f.2).trans h.hf,Kd.R_putn h.hr i v,by rw [List.length_set];exact h.hl⟩
end
structure impl_rooted.Bx (bo bg be h0 bn bt bp bf gp:Nat):Prop where
  o:bo < h0
  e:be < h0
  go:gp≠bo∧gp≠bg∧gp≠be
  no:bn≠bo∧bn≠be
  tt:bt≠bo∧bt≠be
  po:bp≠bo∧bp≠be
  fo:bf≠bo∧bf≠be
theorem impl_rooted.FS.over {W W':World} {bn bt bp bf gp n cp base h0 bo bg be:Nat} {F:Value} {p:List Int} (h:impl_rooted.FS W bn bt bp bf gp n cp base F p) (hne:impl_rooted.Ne bn bt bp bf gp h0) (hbx:impl_rooted.Bx bo bg be h0 bn bt bp bf gp) (hk:∀ k,k < h0→k≠bo→k≠be→W'.heap[k]? = W.heap[k]?):impl_rooted.FS W' bn bt bp bf gp n cp base F p :=
  h.step (hk bn hne.n.1 hbx.no.1 hbx.no.2) (hk bt hne.t.1 hbx.tt.1 hbx.tt.2) (hk bp hne.p.1 hbx.po.1 hbx.po.2) (hk bf hne.f.1 hbx.fo.1 hbx.fo.2) (hk gp hne.g hbx.go.1 hbx.go.2.2)
theorem impl_rooted.own_ne {bo bg be h0 bn bt bp bf gp q:Nat} (hbx:impl_rooted.Bx bo bg be h0 bn bt bp bf gp) (hne:impl_rooted.Ne bn bt bp bf gp h0) (h:impl_rooted.own bo bg be h0 q):q≠gp:=by
  have h1:=hbx.go;have h2:=hne.g
  unfold impl_rooted.own at h
  omega
theorem impl_rooted.put_back (p:List Int) (a k:Int) (ha:0≤a) (hak:a < k) (hk:k < (p.length:Int)) (h1:rd p k = -1) (h2:rd p a = -1):(((p.set a.toNat k).set k.toNat a).set a.toNat (-1)).set k.toNat (-1) = p:=by
  have r1:p.getD k.toNat 0 = -1:=h1
  have r2:p.getD a.toNat 0 = -1:=h2
  rw [List.getD_eq_getElem?_getD,List.getElem?_eq_getElem (by omega),Option.getD_some] at r1 r2
  apply List.ext_getElem (by simp)
  intro i h3 h4
  simp only [List.length_set] at h3
  simp only [List.getElem_set]
  by_cases e1:k.toNat = i
  · subst e1;simp [r1]
  · by_cases e2:a.toNat = i
    · subst e2;simp [e1,r2]
    · simp [e1,e2]

def impl_rooted.FV (bo bg:Nat):Value:=(.func (.func 67) #[] #[.pointer (some ⟨bo,0,none⟩)]:Value)
def impl_rooted.Q (x:List Int):Prop:=True
def impl_rooted.I (W:World) (bo bg be h0 base:Nat) (g:Int) (rows:List (List Int)):Prop :=
  be≠bo ∧ ∃ v,W.heap[bo]? = some (.cells #[v] 55 (0,0))∧Kd.S (Kd.slice 3 (Kd.int .i64)) 31 W base (fun k=>k = be∨h0≤k) v rows
theorem impl_rooted.I_step {W W':World} {bo bg be h0 base:Nat} {g:Int} {rows:List (List Int)} (h:impl_rooted.I W bo bg be h0 base g rows) (hm:∀ k,impl_rooted.own bo bg be h0 k→k < W.heap.size→W'.heap[k]? = W.heap[k]?):impl_rooted.I W' bo bg be h0 base g rows:=by
  obtain ⟨h1,v,hv,hs⟩:=h
  refine ⟨h1,v,(hm bo (.inl rfl) ?_).trans hv,Kd.S_step hs (fun k hk hlt=>hm k (.inr (.inr hk)) hlt)⟩
  exact (Array.getElem?_eq_some_iff.1 hv).1
set_option maxHeartbeats 8000000 in
set_option maxRecDepth 100000 in
theorem impl_rooted.tell (x:List Int) (A:Option Addr) (c:Nat) (w1 w w0:World) (bo bg be h0:Nat) (g:Int) (rows:List (List Int)) (hrow:rows.length≤1000000) (hq:impl_rooted.Q x) (HI:impl_rooted.I w1 bo bg be h0 w0.heap.size g rows) (hbx:Below w1.heap.size w1 w)
    (HR:Kd.R (Kd.int .i64) 3 w w1.heap.size (fun _=>True) (.slice A x.length c) x) (hbo:bo < h0) (hbe:be < h0) (hh:h0≤w1.heap.size) (hob:w0.heap.size≤bo) (hb:w0.heap.size≤h0) (heb:w0.heap.size≤be) (HB:Below w0.heap.size w0 w1) :
    Calls Try.prog 67 #[.slice A x.length c,.pointer (some ⟨bo,0,none⟩)] w fun e w' =>
      e = .returned (.tuple #[])∧impl_rooted.I w' bo bg be h0 w0.heap.size g (rows ++ [x])∧w1.heap.size≤w'.heap.size∧(∀ q,q < h0→q≠bo→q≠be→w'.heap[q]? = w1.heap[q]?)∧Below w0.heap.size w0 w':=by
  obtain ⟨hoe,v,hv,HS⟩:=HI
  have HS0:=zA (Kd.S_below (Kd.S_mono (ok':=fun k=>(k = be∨h0≤k)∧k < w1.heap.size) (Kd.S_bound HS) (fun k hk=>⟨hk.1,hk.2.2.1⟩)) hbx)
  have HR0:=zA HR
  have HB0:=zA (zR HB hbx)
  have HN:=zA (show bo < h0∧be < h0∧h0≤w1.heap.size∧w0.heap.size≤bo∧w0.heap.size≤h0∧w0.heap.size≤be∧rows.length≤1000000∧be≠bo∧w1.heap.size≤w.heap.size from ⟨hbo,hbe,hh,hob,hb,heb,hrow,hoe,hbx.size⟩)
  have HX:=zA hbx
  have HV:=zA ((hbx.block bo (by omega)).trans hv)
  have hc:w.cell? ⟨bo,0,none⟩ = some v:=cell_of_row w bo 0 _ _ _ HV.out
  clear HS HR HB hbo hbe hh hob hb heb hrow hv hoe hbx hq
  go_enter Try.func67,Try.ntmps67
  go_wp2_with (first|((with_reducible refine gate_builtin (b:=.append) (xs:=#[.tmp 3,.tmp 5]) rfl ?_);at_builtin;refine Kd.S_append (Kd.slice 3 (Kd.int .i64)) (w0:=w0) w0.heap.size rfl (.tmp 3) (.tmp 5) 55 31 (.slice none 0 0) 24 rfl Try.underlying55 info31 rfl (by decide) (by omega) v rows x [.slice A x.length c] (fun k=>k = be∨h0≤k) (fun k_=>some k_ = (.slice A x.length c:Value).ownBlock) rfl rfl ?aP ?aK ?aF ?aO ?aB ?aS ?aL ?_;(case aP=>exact Kd.M_row (zV (Kd.R_tight rfl (ze HR0.out (by have:=HN.out;omega))) (fun _ h_=>h_)));(case aK=>exact fun k hk=>⟨.inr (by have h2:=zd HR0.out k hk.symm;have:=HN.out;omega),fun e=>by have h1:=(HS0.out.choose_spec.1 k e.symm).2;have h2:=zd HR0.out k hk.symm;omega⟩);(case aF=>exact fun k hk=>.inr (by have:=HN.out;omega));(case aO=>exact Kd.S_mono HS0.out (fun k hk=>⟨hk.1,fun e=>by have h1:=hk.2;have h2:=zd HR0.out k e.symm;omega⟩));(case aB=>exact HB0.out);(case aS=>have:=HN.out;omega);(case aL=>have:=HN.out;omega);intro v1 wy ho hb hg hat;obtain ⟨A1,c1,rfl⟩:=Kd.S_slice ho;have hk1:=(hg.block bo (by have:=HN.out;omega) (fun e=>by have h1:=(HS0.out.choose_spec.1 bo e.symm).1;have:=HN.out;omega)).trans HV.out;have hc1:wy.cell? ⟨bo,0,none⟩ = some v:=cell_of_row wy bo 0 _ _ _ hk1;have hf1:wy.frozen? ⟨bo,0,none⟩ = false:=frozen_of_row wy bo 0 _ _ hk1;have HK1:=zA hk1;have HO1:=zA ho;have HB1:=zA hb;have HG1:=zA hg;clear ho hb hg hat hk1))
  have HO2:=HO1.out
  rw [show (rows ++ [x]).length = rows.length+1 by simp] at HO2
  go_end0
  refine ⟨rfl,⟨HN.out.2.2.2.2.2.2.2.1,_,heap_setCell_same wy bo 0 _ _ _ HK1.out,Kd.S_far HO2 (fun k hk=>?_) _⟩,?_,fun k hk hnp hne=>?_,zF HB1.out HN.out.2.2.2.1⟩
  · show k≠bo
    have:=HN.out;omega
  · have h1:w.heap.size≤(wy.setCell ⟨bo,0,none⟩ (.slice A1 (rows.length+1) c1)).heap.size:=Nat.le_trans HG1.out.size (by simp)
    exact Nat.le_trans HN.out.2.2.2.2.2.2.2.2 h1
  · rw [heap_setCell_other wy _ k _ hnp]
    exact (HG1.out.block k (by have:=HN.out;omega) (fun e=>by have h1:=(HS0.out.choose_spec.1 k e.symm).1;have:=HN.out;omega)).trans (HX.out.block k (by have:=HN.out;omega))

set_option maxHeartbeats 16000000 in
set_option maxRecDepth 100000 in
theorem impl_rooted.leafcase (bn bt bp bf gp n cp bo bg be h0:Nat) (g:Int) (w0:World) (hne:impl_rooted.Ne bn bt bp bf gp h0) (hbx:impl_rooted.Bx bo bg be h0 bn bt bp bf gp) (hb0:w0.heap.size≤bo∧w0.heap.size≤gp∧w0.heap.size≤h0∧w0.heap.size≤be) (hn:n≤40)
    (p:List Int) (w:World) (rows:List (List Int)) (t:Int) (ht:slices_Index_int_int.f 60 p (-1) = some t) (c1:t < 0) (hrow:rows.length+1≤1000000) (hq:impl_rooted.Q p)
    (HFS:impl_rooted.FS w bn bt bp bf gp n cp w0.heap.size (impl_rooted.FV bo bg) p) (HI:impl_rooted.I w bo bg be h0 w0.heap.size g rows) (hh:h0≤w.heap.size) (HB:Below w0.heap.size w0 w) :
    Calls Try.prog 88 #[.pointer (some ⟨bp,0,none⟩),.pointer (some ⟨bt,0,none⟩),.pointer (some ⟨bn,0,none⟩),.pointer (some ⟨bf,0,none⟩)] w fun e w' =>
      e = .returned (.tuple #[])∧impl_rooted.FS w' bn bt bp bf gp n cp w0.heap.size (impl_rooted.FV bo bg) p∧impl_rooted.I w' bo bg be h0 w0.heap.size g (rows ++ [p])∧impl_rooted.Fr w w' h0 bo be gp∧Below w0.heap.size w0 w':=by
  have HFS0:=zA HFS
  have HI0:=zA HI
  have HB0:=zA HB
  have HH:=zA hh
  have HROW:=zA hrow
  have HQ:=zA hq
  have HNE:=zA hne
  have HBX:=zA hbx
  have HB00:=zA hb0
  have hnc:n≤cp:=(zU HFS.hr).2.1
  have HLN:=zA (show p.length = n∧n≤40∧n≤cp from ⟨HFS.hl,hn,hnc⟩)
  have hcp:w.cell? ⟨bp,0,none⟩ = some (.slice (some ⟨gp,0,none⟩) n cp):=cell_of_row w bp 0 _ _ _ HFS.hp
  have HIX:=zA (show Calls Try.prog 89 #[.slice (some ⟨gp,0,none⟩) n cp,.int .i64 (-1)] w fun e w'=>e = .returned (.int .i64 t)∧Drawn0 w w' by
    have h1:=slices_Index_int_int.calls 60 (some ⟨gp,0,none⟩) cp p (-1) t w (zU HFS.hr).2.2 (by rw [HFS.hl];exact hnc) ht
    rw [HFS.hl] at h1
    exact h1)
  have c1b:decide (t < 0) = true:=zO c1
  clear HFS HI HB hh hrow hq hne hbx hb0 hnc ht hn c1
  go_enter Try.func88,Try.ntmps88
  go_upto_region 1 with (go_at_call 89;refine HIX.out.mono ?_;rintro e w' ⟨rfl,⟨nd,rfl⟩⟩)
  generalize hw9:w.drewN nd = wc
  have hwc:Aside0 (∃ m,wc = w.drewN m):=⟨⟨nd,hw9.symm⟩⟩
  clear hw9
  ·
    have HFS:=zA (show impl_rooted.FS wc bn bt bp bf gp n cp w0.heap.size (impl_rooted.FV bo bg) p by obtain ⟨m,rfl⟩:=hwc.out;exact HFS0.out.step rfl rfl rfl rfl rfl)
    have HI:=zA (show impl_rooted.I wc bo bg be h0 w0.heap.size g rows by obtain ⟨m,rfl⟩:=hwc.out;exact impl_rooted.I_step HI0.out (fun _ _ _=>rfl))
    have HB:=zA (show Below w0.heap.size w0 wc by obtain ⟨m,rfl⟩:=hwc.out;exact zB HB0.out m)
    have HFR:=zA (show impl_rooted.Fr w wc h0 bo be gp by obtain ⟨m,rfl⟩:=hwc.out;exact ⟨Nat.le_refl _,fun _ _ _ _ _=>rfl⟩)
    have HSZ:=zA (show h0≤wc.heap.size by have:=HFR.out.size;have:=HH.out;omega)
    clear hwc HFS0 HI0 HB0 HIX hcp
    have hcp:wc.cell? ⟨bp,0,none⟩ = some (.slice (some ⟨gp,0,none⟩) n cp):=cell_of_row wc bp 0 _ _ _ HFS.out.hp
    have hct:wc.cell? ⟨bt,0,none⟩ = some (.func (.func 67) #[] #[.pointer (some ⟨bo,0,none⟩)]:Value):=cell_of_row wc bt 0 _ _ _ HFS.out.ht
    have HCC:=zA (And.intro hct hcp)
    have HCL:=zA (show Calls Try.prog 50 #[.slice (some ⟨gp,0,none⟩) n cp] wc.drew fun e w' => ∃ v0_:Value,e = .returned (v0_)∧Kd.R (Kd.int .i64) 3 w' wc.drew.heap.size (fun _=>True) v0_ p∧Below wc.drew.heap.size wc.drew w' by
      have h1:=slices_Clone_int_int.calls (some ⟨gp,0,none⟩) cp p p wc.drew (Kd.C_drew (zU HFS.out.hr).2.2) (by rw [HLN.out.1];exact HLN.out.2.2) (by unfold slices_Clone_int_int.f;rw [if_pos (by have:=HLN.out;omega)])
      rw [HLN.out.1] at h1
      exact h1)
    go_wp2_with fail
    go_region_held3 (fun w'=>w'.cell? ⟨bt,0,none⟩ = some (.func (.func 67) #[] #[.pointer (some ⟨bo,0,none⟩)]:Value)∧w'.cell? ⟨bp,0,none⟩ = some (.slice (some ⟨gp,0,none⟩) n cp)) (first|exact ⟨HKZ.out.1,HKZ.out.2⟩|exact ⟨HKX.out.1,HKX.out.2⟩|exact ⟨hct,hcp⟩|go_keep) (first|(go_at_call 50;refine HCL.out.mono ?_;rintro e wx ⟨vx,rfl,hox,hbx⟩;obtain ⟨Ax,cx,rfl⟩:=zg hox;have HBX1:=zA (show Below wc.heap.size wc wx from (Below.refl _ _).drew.trans (hbx.mono (by simp)));have HOX:=zA (ze (base':=wc.heap.size) hox (by simp));have HKX:=zA (And.intro ((HBX1.out.cell (p:=⟨bt,0,none⟩) (Nat.lt_of_lt_of_le HNE.out.t.1 HSZ.out)).trans HCC.out.1) ((HBX1.out.cell (p:=⟨bp,0,none⟩) (Nat.lt_of_lt_of_le HNE.out.p.1 HSZ.out)).trans HCC.out.2));clear hox hbx)|(go_at_call 67;refine (impl_rooted.tell p Ax cx wc wx w0 bo bg be h0 g rows (by have:=HROW.out;omega) HQ.out HI.out HBX1.out HOX.out HBX.out.o HBX.out.e HSZ.out HB00.out.1 HB00.out.2.2.1 HB00.out.2.2.2 HB.out).mono ?_;rintro e wz ⟨rfl,hiz,hsz,hkz,hbz⟩;have HIZ:=zA hiz;have HFZ:=zA (HFS.out.over HNE.out HBX.out hkz);have HRZ:=zA (show impl_rooted.Fr wc wz h0 bo be gp from ⟨hsz,fun k a b c _=>hkz k a b c⟩);have HBZ:=zA hbz;have HKZ:=zA (And.intro (cell_of_row wz bt 0 _ _ _ HFZ.out.ht) (cell_of_row wz bp 0 _ _ _ HFZ.out.hp));clear hiz hsz hkz hbz))
    all_goals go_wp2
    all_goals (first|go_end0|((try simp only [Exit.inBlock,Exit.then]);refine bodyPost_ret (results_none rfl _ _ _) rfl ?_))
    all_goals exact ⟨rfl,HFZ.out,HIZ.out,HFR.out.trans HRZ.out,HBZ.out⟩

set_option maxHeartbeats 16000000 in
set_option maxRecDepth 100000 in
theorem impl_rooted.try_ (bn bt bp bf gp n cp bo bg be h0:Nat) (g:Int) (w0:World) (hne:impl_rooted.Ne bn bt bp bf gp h0) (hbx:impl_rooted.Bx bo bg be h0 bn bt bp bf gp) (hb0:w0.heap.size≤bo∧w0.heap.size≤gp∧w0.heap.size≤h0∧w0.heap.size≤be) (hn:n≤40) :
    ∀ (f:Nat) (p:List Int) (out:List (List Int)) (w:World) (rows:List (List Int)),impl_rooted.gen f p = some out→rows.length+out.length≤1000000→(∀ x ∈ out,impl_rooted.Q x) →
    impl_rooted.FS w bn bt bp bf gp n cp w0.heap.size (impl_rooted.FV bo bg) p→impl_rooted.I w bo bg be h0 w0.heap.size g rows→h0≤w.heap.size→Below w0.heap.size w0 w →
    Calls Try.prog 88 #[.pointer (some ⟨bp,0,none⟩),.pointer (some ⟨bt,0,none⟩),.pointer (some ⟨bn,0,none⟩),.pointer (some ⟨bf,0,none⟩)] w fun e w' =>
      e = .returned (.tuple #[])∧impl_rooted.FS w' bn bt bp bf gp n cp w0.heap.size (impl_rooted.FV bo bg) p∧impl_rooted.I w' bo bg be h0 w0.heap.size g (rows ++ out)∧impl_rooted.Fr w w' h0 bo be gp∧Below w0.heap.size w0 w':=by
  intro f
  induction f with
  | zero=>intro p out w rows h;simp [impl_rooted.gen] at h
  | succ f ih =>
    intro p out w rows h hrow hq HFS HI hh HB
    simp only [impl_rooted.gen] at h
    obtain ⟨t,ht,h⟩:=zz0 h
    by_cases c1:t < 0
    · rw [if_pos c1] at h
      obtain rfl:=zS h
      exact impl_rooted.leafcase bn bt bp bf gp n cp bo bg be h0 g w0 hne hbx hb0 hn p w rows t ht c1 hrow (hq p (by simp)) HFS HI hh HB
    rw [if_neg c1] at h
    by_cases c2:t < (p.length:Int)
    · rw [if_pos c2] at h
      have HIH:=zA ih
      have HFS0:=zA HFS
      have HI0:=zA HI
      have HB0:=zA HB
      have HH:=zA hh
      have HROW:=zA hrow
      have HQ:=zA hq
      have HNE:=zA hne
      have HBX:=zA hbx
      have HB00:=zA hb0
      have hnc:n≤cp:=(zU HFS.hr).2.1
      have HLN:=zA (show p.length = n∧n≤40∧n≤cp from ⟨HFS.hl,hn,hnc⟩)
      have hcp:w.cell? ⟨bp,0,none⟩ = some (.slice (some ⟨gp,0,none⟩) n cp):=cell_of_row w bp 0 _ _ _ HFS.hp
      have HIX:=zA (show Calls Try.prog 89 #[.slice (some ⟨gp,0,none⟩) n cp,.int .i64 (-1)] w fun e w'=>e = .returned (.int .i64 t)∧Drawn0 w w' by
        have h1:=slices_Index_int_int.calls 60 (some ⟨gp,0,none⟩) cp p (-1) t w (zU HFS.hr).2.2 (by rw [HFS.hl];exact hnc) ht
        rw [HFS.hl] at h1
        exact h1)
      have c1b:decide (t < 0) = false:=zP c1
      have HT:=zA (show 0≤t∧t < (n:Int) from ⟨by omega,by rw [← HFS.hl];exact c2⟩)
      have HL:=zA (show impl_rooted.loop (impl_rooted.gen f) p t (n - (t.toNat+1)) (t+1) = some out by rw [HFS.hl] at h;exact h)
      have HW:=zA (show wrap64 (t+1) = t+1 by have:=HT.out;have:=HLN.out;unfold wrap64;omega)
      clear HFS HI HB hh hrow hq hne hbx hb0 hnc ht h hn c1 c2 ih
      go_enter Try.func88,Try.ntmps88
      go_upto_region 1 with (go_at_call 89;refine HIX.out.mono ?_;rintro e w' ⟨rfl,⟨nd,rfl⟩⟩)
      generalize hw9:w.drewN nd = wc
      have hwc:Aside0 (∃ m,wc = w.drewN m):=⟨⟨nd,hw9.symm⟩⟩
      clear hw9
      ·
        have HFS:=zA (show impl_rooted.FS wc bn bt bp bf gp n cp w0.heap.size (impl_rooted.FV bo bg) p by obtain ⟨m,rfl⟩:=hwc.out;exact HFS0.out.step rfl rfl rfl rfl rfl)
        have HI:=zA (show impl_rooted.I wc bo bg be h0 w0.heap.size g rows by obtain ⟨m,rfl⟩:=hwc.out;exact impl_rooted.I_step HI0.out (fun _ _ _=>rfl))
        have HB:=zA (show Below w0.heap.size w0 wc by obtain ⟨m,rfl⟩:=hwc.out;exact zB HB0.out m)
        have HFR:=zA (show impl_rooted.Fr w wc h0 bo be gp by obtain ⟨m,rfl⟩:=hwc.out;exact ⟨Nat.le_refl _,fun _ _ _ _ _=>rfl⟩)
        clear hwc HFS0 HI0 HB0 HIX hcp
        go_wp2
        go_loopg [5] (n - (t.toNat+1)) (fun d v5 wr => ∃ (k:Int) (rows1:List (List Int)),v5 = .int .i64 k∧Aside0 (k+d = n∧t+1≤k)∧Aside0 (impl_rooted.FS wr bn bt bp bf gp n cp w0.heap.size (impl_rooted.FV bo bg) p)∧Aside0 (impl_rooted.I wr bo bg be h0 w0.heap.size g rows1)∧Aside0 (∃ rest,impl_rooted.loop (impl_rooted.gen f) p t d k = some rest∧rows1 ++ rest = rows ++ out ∧ ∀ z ∈ rest,impl_rooted.Q z)∧Aside0 (impl_rooted.Fr w wr h0 bo be gp)∧Aside0 (Below w0.heap.size w0 wr))
        case atStart=>exact ⟨wrap64 (t+1),rows,rfl,⟨by rw [HW.out];have:=HT.out;omega,by rw [HW.out];omega⟩,HFS,HI,⟨⟨out,by rw [HW.out];exact HL.out,rfl,HQ.out⟩⟩,HFR,HB⟩
        case round =>
          clear HFS HI HB HFR HL
          obtain ⟨k,rows1,rfl,HK,HFS,HI,HE,HFR,HB⟩:=hrel
          have hcn:wr.cell? ⟨bn,0,none⟩ = some (.int .i64 (n:Int)):=cell_of_row wr bn 0 _ _ _ HFS.out.hn
          cases gk with
          | zero =>
            have hc:decide (k < (n:Int)) = false:=zP (by have:=HK.out;omega)
            have HE2:=zA (show rows1 = rows ++ out by obtain ⟨rest,h1,h2,_⟩:=HE.out;simp only [impl_rooted.loop] at h1;obtain rfl:=zS h1;rw [List.append_nil] at h2;exact h2)
            go_wp2
            go_end0
            exact ⟨rfl,HFS.out,by rw [← HE2.out];exact HI.out,HFR.out,HB.out⟩
          | succ d =>
            have hc:decide (k < (n:Int)) = true:=zO (by have:=HK.out;omega)
            have HWK:=zA (show wrap64 (k+1) = k+1 by have:=HK.out;have:=HLN.out;have:=HT.out;unfold wrap64;omega)
            go_upto_block 1 with (fail)
            go_cut [] (fun wd => ∃ rows2:List (List Int),Aside0 (impl_rooted.FS wd bn bt bp bf gp n cp w0.heap.size (impl_rooted.FV bo bg) p)∧Aside0 (impl_rooted.I wd bo bg be h0 w0.heap.size g rows2)∧Aside0 (∃ rest,impl_rooted.loop (impl_rooted.gen f) p t d (k+1) = some rest∧rows2 ++ rest = rows ++ out ∧ ∀ z ∈ rest,impl_rooted.Q z)∧Aside0 (impl_rooted.Fr w wd h0 bo be gp)∧Aside0 (Below w0.heap.size w0 wd))
            case first =>
              have hcp:wr.cell? ⟨bp,0,none⟩ = some (.slice (some ⟨gp,0,none⟩) n cp):=cell_of_row wr bp 0 _ _ _ HFS.out.hp
              have i1:(0≤k) = True:=eq_true (by have:=HK.out;have:=HT.out;omega)
              have i2:(k < (n:Int)) = True:=eq_true (by have:=HK.out;omega)
              obtain ⟨hxk,hfk⟩:=Kd.R_celln 0 HFS.out.hr k (by have:=HK.out;have:=HT.out;omega) (by have:=HK.out;omega)
              have HKN:=zA (show k.toNat < n∧t.toNat < k.toNat∧0≤t∧t < k∧k < (n:Int) by have:=HK.out;have:=HT.out;omega)
              have hx1:wr.cell? ⟨gp,k.toNat,none⟩ = some (.int .i64 (rd p k)):=hxk
              clear hxk
              by_cases cn:rd p k < 0
              · have cnb:decide (rd p k < 0) = true:=zO cn
                have HE':=zA (show (rd p k = -1∧rd p t = -1) ∧ ∃ x y,impl_rooted.gen f ((p.set t.toNat k).set k.toNat t) = some x∧impl_rooted.loop (impl_rooted.gen f) p t d (k+1) = some y∧rows1 ++ x ++ y = rows ++ out∧(∀ z ∈ x,impl_rooted.Q z) ∧ ∀ z ∈ y,impl_rooted.Q z by
                  obtain ⟨rest,h1,h2,h3⟩:=HE.out
                  simp only [impl_rooted.loop] at h1
                  rw [if_pos cn] at h1
                  by_cases ce:rd p k = -1∧rd p t = -1
                  · rw [if_pos ce] at h1
                    obtain ⟨x,hx,h1⟩:=zz0 h1
                    obtain ⟨y,hy,h1⟩:=zz0 h1
                    obtain rfl:=zS h1
                    exact ⟨ce,x,y,hx,hy,by rw [← h2,List.append_assoc],fun z hz=>h3 z (by simp [hz]),fun z hz=>h3 z (by simp [hz])⟩
                  · rw [if_neg ce] at h1;cases h1)
                clear HE cn
                obtain ⟨x,y,hx,hy,hxy⟩:=HE'.out.2
                have HX:=zA (And.intro hx (And.intro hy hxy))
                clear hx hy hxy
                obtain ⟨p1,hp1⟩:∃ p1,p1 = (p.set t.toNat k).set k.toNat t:=⟨_,rfl⟩
                have HP1:=zA hp1
                clear hp1
                go_upto_region 7 with (fail)
                go_cut [] (fun we=>Aside0 (impl_rooted.FS we bn bt bp bf gp n cp w0.heap.size (impl_rooted.FV bo bg) p1)∧Aside0 (impl_rooted.I we bo bg be h0 w0.heap.size g rows1)∧Aside0 (impl_rooted.Fr w we h0 bo be gp)∧Aside0 (Below w0.heap.size w0 we))
                case first =>
                  have j1:(0≤t) = True:=eq_true (by have:=HKN.out;omega)
                  have j2:(t < (n:Int)) = True:=eq_true (by have:=HKN.out;omega)
                  obtain ⟨hx2,hf2⟩:=Kd.R_celln 0 HFS.out.hr t (by have:=HKN.out;omega) (by have:=HKN.out;omega)
                  have hne1:gp≠bp:=fun e=>HNE.out.p.2 e.symm
                  have hne2:bp≠gp:=HNE.out.p.2
                  have hne3:t.toNat≠k.toNat:=by have:=HKN.out;omega
                  have hne4:k.toNat≠t.toNat:=by have:=HKN.out;omega
                  go_region
                  all_goals go_wp2
                  all_goals go_meet
                  all_goals (
                    have h1:=(HFS.out.put HNE.out t k).put HNE.out k t
                    rw [← HP1.out] at h1
                    refine ⟨⟨impl_rooted.FS.step h1 rfl rfl rfl rfl rfl⟩,⟨impl_rooted.I_step HI.out (fun q hq _=>?_)⟩,⟨HFR.out.trans ⟨?_,fun q a b c e=>?_⟩⟩,⟨zC (zF (zF HB.out HB00.out.2.1) HB00.out.2.1)⟩⟩
                    · have hqg:=impl_rooted.own_ne HBX.out HNE.out hq
                      exact (heap_setCell_other _ _ q _ hqg).trans (heap_setCell_other _ _ q _ hqg)
                    · show wr.heap.size≤((wr.setCell _ _).setCell _ _).heap.size
                      simp
                    · exact (heap_setCell_other _ _ q _ e).trans (heap_setCell_other _ _ q _ e))
                case rest =>
                  obtain ⟨HFS1,HI1,HFR1,HB1⟩:=hcut
                  clear HFS HI HFR HB hcp hcn hx1 hfk
                  have hcf:wc.cell? ⟨bf,0,none⟩ = some (.func (.func 88) #[] #[.pointer (some ⟨bp,0,none⟩),.pointer (some ⟨bt,0,none⟩),.pointer (some ⟨bn,0,none⟩),.pointer (some ⟨bf,0,none⟩)]):=cell_of_row wc bf 0 _ _ _ HFS1.out.hf
                  go_upto_region 9 with (go_at_call 88;go_loud (refine (HIH.out p1 x wc rows1 (by rw [HP1.out];exact HX.out.1) (by have h1:=congrArg List.length HX.out.2.2.1;simp only [List.length_append] at h1;have:=HROW.out;omega) HX.out.2.2.2.1 HFS1.out HI1.out (by have:=HFR1.out.size;have:=HH.out;omega) HB1.out).mono ?_;rintro e wf ⟨rfl,hfs,hi,hfr,hb⟩;have HFS2:=zA hfs;have HI2:=zA hi;have HFR2:=zA hfr;have HB2:=zA hb;clear hfs hi hfr hb))
                  clear hcf
                  have hcp:wf.cell? ⟨bp,0,none⟩ = some (.slice (some ⟨gp,0,none⟩) n cp):=cell_of_row wf bp 0 _ _ _ HFS2.out.hp
                  have j1:(0≤t) = True:=eq_true (by have:=HKN.out;omega)
                  have j2:(t < (n:Int)) = True:=eq_true (by have:=HKN.out;omega)
                  obtain ⟨hx2,hf2⟩:=Kd.R_celln 0 HFS2.out.hr t (by have:=HKN.out;omega) (by have:=HKN.out;omega)
                  obtain ⟨hx1,hfk⟩:=Kd.R_celln 0 HFS2.out.hr k (by have:=HKN.out;omega) (by have:=HKN.out;omega)
                  have hne1:gp≠bp:=fun e=>HNE.out.p.2 e.symm
                  have hne2:bp≠gp:=HNE.out.p.2
                  have hne3:t.toNat≠k.toNat:=by have:=HKN.out;omega
                  have hne4:k.toNat≠t.toNat:=by have:=HKN.out;omega
                  go_region
                  all_goals go_wp2
                  all_goals go_meet
                  all_goals (
                    have h1:=(HFS2.out.put HNE.out t (-1)).put HNE.out k (-1)
                    rw [HP1.out,impl_rooted.put_back p t k HKN.out.2.2.1 HKN.out.2.2.2.1 (by rw [HLN.out.1];exact HKN.out.2.2.2.2) HE'.out.1.1 HE'.out.1.2] at h1
                    refine ⟨rows1 ++ x,⟨impl_rooted.FS.step h1 rfl rfl rfl rfl rfl⟩,⟨impl_rooted.I_step HI2.out (fun q hq _=>?_)⟩,⟨⟨y,HX.out.2.1,HX.out.2.2.1,HX.out.2.2.2.2⟩⟩,⟨(HFR1.out.trans HFR2.out).trans ⟨?_,fun q a b c e=>?_⟩⟩,⟨zC (zF (zF HB2.out HB00.out.2.1) HB00.out.2.1)⟩⟩
                    · have hqg:=impl_rooted.own_ne HBX.out HNE.out hq
                      exact (heap_setCell_other _ _ q _ hqg).trans (heap_setCell_other _ _ q _ hqg)
                    · show wf.heap.size≤((wf.setCell _ _).setCell _ _).heap.size
                      simp
                    · exact (heap_setCell_other _ _ q _ e).trans (heap_setCell_other _ _ q _ e))
              · have cnb:decide (rd p k < 0) = false:=zP cn
                have HE':=zA (show ∃ rest,impl_rooted.loop (impl_rooted.gen f) p t d (k+1) = some rest∧rows1 ++ rest = rows ++ out ∧ ∀ z ∈ rest,impl_rooted.Q z by
                  obtain ⟨rest,h1,h2⟩:=HE.out
                  simp only [impl_rooted.loop] at h1
                  rw [if_neg cn] at h1
                  exact ⟨rest,h1,h2⟩)
                clear HE cn
                go_wp2
                go_meet
                exact ⟨rows1,HFS,HI,HE',HFR,HB⟩
            case rest =>
              obtain ⟨rows2,HFS2,HI2,HE2,HFR2,HB2⟩:=hcut
              go_wp2
              go_roundg d
              case measure=>omega
              case rel=>exact ⟨wrap64 (k+1),rows2,rfl,⟨by rw [HWK.out];have:=HK.out;omega,by rw [HWK.out];have:=HK.out;omega⟩,HFS2,HI2,⟨by rw [HWK.out];exact HE2.out⟩,HFR2,HB2⟩
    · rw [if_neg c2] at h;cases h

theorem impl_rooted.two (w:World) (A B:Obj):((w.alloc A).alloc B).heap[w.heap.size]? = some A∧((w.alloc A).alloc B).heap[w.heap.size+1]? = some B∧((w.alloc A).alloc B).heap.size = w.heap.size+2:=by
  show ((w.heap.push A).push B)[w.heap.size]? = some A∧((w.heap.push A).push B)[w.heap.size+1]? = some B∧((w.heap.push A).push B).size = w.heap.size+2
  have e1:(w.heap.push A).size = w.heap.size+1:=Array.size_push _
  refine ⟨?_,?_,?_⟩
  · rw [Array.getElem?_push,if_neg (by omega),Array.getElem?_push,if_pos rfl]
  · rw [Array.getElem?_push,if_pos (by omega)]
  · rw [Array.size_push,e1]
theorem impl_rooted.fill_step (n:Nat) (i:Int) (h0:0≤i) (h:i < (n:Int)):(List.replicate i.toNat (-1:Int) ++ List.replicate (n - i.toNat) 0).set i.toNat (-1) = List.replicate (i+1).toNat (-1) ++ List.replicate (n - (i+1).toNat) 0:=by
  obtain ⟨j,rfl⟩:=Int.eq_ofNat_of_zero_le h0
  have e1:((j:Int)).toNat = j:=Int.toNat_natCast j
  have e2:((j:Int)+1).toNat = j+1:=by omega
  rw [e1,e2]
  obtain ⟨m,hm⟩:∃ m,n - j = m+1:=⟨n - j - 1,by omega⟩
  rw [hm,show n - (j+1) = m by omega,List.set_append_right _ _ (by simp),List.length_replicate,Nat.sub_self]
  rw [List.replicate_succ,List.set_cons_zero,List.replicate_succ' (n:=j),List.append_assoc]
  rfl
set_option maxHeartbeats 16000000 in
set_option maxRecDepth 100000 in
theorem impl_rooted.flips (nI:Nat) (out:List (List Int)) (w w0:World) (bo bg be:Nat) (g:Int) (hn:1≤nI∧nI≤20) (hgen:impl_rooted.gen 12 (List.replicate nI (-1)) = some out) (hout:out.length≤1000000) (hq:∀ x ∈ out,impl_rooted.Q x)
    (HI:∀ h0,w.heap.size≤h0→impl_rooted.I w bo bg be h0 w0.heap.size g []) (hbo:bo < w.heap.size∧bg < w.heap.size∧be < w.heap.size) (hb:w0.heap.size≤bo∧w0.heap.size≤be) (HB:Below w0.heap.size w0 w) :
    Calls Try.prog 66 #[.int .i64 (nI:Int),impl_rooted.FV bo bg] w fun e w'=>e = .returned (.tuple #[]) ∧ ∃ h0,w.heap.size≤h0∧impl_rooted.I w' bo bg be h0 w0.heap.size g out∧(∀ k,k < w.heap.size→k≠bo→k≠be→w'.heap[k]? = w.heap[k]?)∧w.heap.size≤w'.heap.size∧Below w0.heap.size w0 w':=by
  have HN:=zA hn
  have HG:=zA (And.intro hgen (And.intro hout hq))
  have HI0:=zA HI
  have HBO:=zA (And.intro hbo hb)
  have HB0:=zA HB
  clear hn hgen hout hq HI hbo hb HB
  unfold impl_rooted.FV
  go_enter Try.func66,Try.ntmps66
  go_upto_region 2 with ((with_reducible refine gate_dst (N:=8) rfl ?_);refine Kd.R_make (Kd.int .i64) _ 3 rfl (N:=8) rfl 31 _ _ rfl (nI:Int) rfl rfl Try.underlying31 (.int .i64 0) 8 info3 rfl (by decide) (by omega) 0 (ok:=fun _=>True) (okp:=fun _=>True) rfl (fun _ hk=>hk) trivial (by omega) (by have:=HN.out;omega) (Below.refl _ _) (Nat.le_refl _) ?_;intro v185 w4 ho5 hb hg_ hnew_;clear hg_ hnew_;rw [Int.toNat_natCast] at ho5;obtain ⟨gp,cp,ev,hgb,hgl,cl_,hG_⟩:=Kd.R_form ho5 (by have:=HN.out;simp;omega);rw [List.length_replicate] at ev;subst ev;clear hG_ cl_;have HGB:=zA (And.intro hgb hgl);have HO5:=zA ho5;have HB4:=zA hb;clear hgb hgl ho5 hb)
  have hsz2:=(impl_rooted.two w (.cells #[.int .i64 (nI:Int)] 3 (0,0)) (.cells #[(.func (.func 67) #[] #[.pointer (some ⟨bo,0,none⟩)]:Value)] 64 (0,0))).2.2
  have HS4:=zA (show w.heap.size+2≤gp∧gp < w4.heap.size by have h1:=HGB.out;rw [hsz2] at h1;exact h1)
  have HN4:=zA (show w4.heap[w.heap.size]? = some (.cells #[.int .i64 (nI:Int)] 3 (0,0)) from (HB4.out.block _ (by rw [hsz2];omega)).trans (impl_rooted.two w _ _).1)
  have HT4:=zA (show w4.heap[w.heap.size+1]? = some (.cells #[(.func (.func 67) #[] #[.pointer (some ⟨bo,0,none⟩)]:Value)] 64 (0,0)) from (HB4.out.block _ (by rw [hsz2];omega)).trans (impl_rooted.two w _ _).2.1)
  have HBW:=zA (show Below w.heap.size w w4 from zR (zD (zD (Below.refl _ _) _) _) HB4.out)
  have HR4:=zA (show Kd.R (Kd.int .i64) 3 w4 w0.heap.size (fun k=>k = gp) (.slice (some ⟨gp,0,none⟩) nI cp) (List.replicate nI 0) from zV (Kd.R_tight rfl (ze HO5.out (by rw [hsz2];have:=HB0.out.size;omega))) (fun k hk=>by simpa [Value.ownBlock] using hk))
  clear HO5 HB4 HGB hsz2
  generalize hw5:World.alloc w4 _ = w5
  have HN5:=zA (show w5.heap[w.heap.size]? = some (.cells #[.int .i64 (nI:Int)] 3 (0,0)) by rw [← hw5];exact ((zD (Below.refl _ _) _).block _ (by have:=HS4.out;omega)).trans HN4.out)
  have HT5:=zA (show w5.heap[w.heap.size+1]? = some (.cells #[(.func (.func 67) #[] #[.pointer (some ⟨bo,0,none⟩)]:Value)] 64 (0,0)) by rw [← hw5];exact ((zD (Below.refl _ _) _).block _ (by have:=HS4.out;omega)).trans HT4.out)
  have HP5:=zA (show w5.heap[w4.heap.size]? = some (.cells #[.slice (some ⟨gp,0,none⟩) nI cp] 31 (0,0)) by rw [← hw5];exact blk_new w4 _)
  have HR5:=zA (show Kd.R (Kd.int .i64) 3 w5 w0.heap.size (fun k=>k = gp) (.slice (some ⟨gp,0,none⟩) nI cp) (List.replicate nI 0) by rw [← hw5];exact Kd.R_alloc HR4.out _)
  have HBW5:=zA (show Below w.heap.size w w5 by rw [← hw5];exact zD HBW.out _)
  have HS5:=zA (show w5.heap.size = w4.heap.size+1 by rw [← hw5];exact Array.size_push _)
  clear hw5 HN4 HT4 HR4 HBW
  have hcp5:w5.cell? ⟨w4.heap.size,0,none⟩ = some (.slice (some ⟨gp,0,none⟩) nI cp):=cell_of_row w5 _ 0 _ _ _ HP5.out
  go_wp2
  go_loopg [11] nI (fun d v11 wr => ∃ i:Int,v11 = .int .i64 i∧Aside0 (0≤i∧i+d = nI)∧Aside0 (wr.heap[w.heap.size]? = some (.cells #[.int .i64 (nI:Int)] 3 (0,0))∧wr.heap[w.heap.size+1]? = some (.cells #[(.func (.func 67) #[] #[.pointer (some ⟨bo,0,none⟩)]:Value)] 64 (0,0))∧wr.heap[w4.heap.size]? = some (.cells #[.slice (some ⟨gp,0,none⟩) nI cp] 31 (0,0))∧wr.heap.size = w4.heap.size+1)∧Aside0 (Kd.R (Kd.int .i64) 3 wr w0.heap.size (fun k=>k = gp) (.slice (some ⟨gp,0,none⟩) nI cp) (List.replicate i.toNat (-1) ++ List.replicate (nI - i.toNat) 0))∧Aside0 (Below w.heap.size w wr))
  case atStart=>exact ⟨0,rfl,⟨by omega,by omega⟩,⟨HN5.out,HT5.out,HP5.out,HS5.out⟩,HR5,HBW5⟩
  case round =>
    clear HN5 HT5 HP5 HR5 HBW5 HS5 hcp5
    obtain ⟨i,rfl,HI1,HF,HR,HBW⟩:=hrel
    cases gk with
    | zero =>
      have hc:decide (i < (nI:Int)) = false:=zP (by have:=HI1.out;omega)
      have HR1:=zA (show Kd.R (Kd.int .i64) 3 wr w0.heap.size (fun k=>k = gp) (.slice (some ⟨gp,0,none⟩) nI cp) (List.replicate nI (-1)) by
        have h1:=HR.out
        rw [show i.toNat = nI by have:=HI1.out;omega,Nat.sub_self,List.replicate_zero,List.append_nil] at h1
        exact h1)
      clear HR
      have HX:=zA (show impl_rooted.Ne w.heap.size (w.heap.size+1) w4.heap.size wr.heap.size gp (wr.heap.size+1) from by have h1:=HS4.out;have h2:=HF.out.2.2.2;exact ⟨⟨by omega,by omega⟩,⟨by omega,by omega⟩,⟨by omega,by omega⟩,⟨by omega,by omega⟩,by omega⟩)
      have HY:=zA (show impl_rooted.Bx bo bg be (wr.heap.size+1) w.heap.size (w.heap.size+1) w4.heap.size wr.heap.size gp from by have h1:=HS4.out;have h2:=HF.out.2.2.2;have h3:=HBO.out;exact ⟨by omega,by omega,⟨by omega,by omega,by omega⟩,⟨by omega,by omega⟩,⟨by omega,by omega⟩,⟨by omega,by omega⟩,⟨by omega,by omega⟩⟩)
      have HSW:=zA (show w0.heap.size≤w.heap.size from HB0.out.size)
      have HTRY:=zA (show ∀ wf,wf = wr.alloc (.cells #[impl_rooted.TV w.heap.size (w.heap.size+1) w4.heap.size wr.heap.size] 1 (0,0))→Calls Try.prog 88 #[.pointer (some ⟨w4.heap.size,0,none⟩),.pointer (some ⟨w.heap.size+1,0,none⟩),.pointer (some ⟨w.heap.size,0,none⟩),.pointer (some ⟨wr.heap.size,0,none⟩)] wf fun e w'=>e = .returned (.tuple #[])∧impl_rooted.I w' bo bg be (wr.heap.size+1) w0.heap.size g out∧(∀ k,k < w.heap.size→k≠bo→k≠be→w'.heap[k]? = w.heap[k]?)∧w.heap.size≤w'.heap.size∧Below w0.heap.size w0 w' by
        intro wf hwf
        have hold:∀ k,k < wr.heap.size→wf.heap[k]? = wr.heap[k]? := fun k hk=>by rw [hwf];exact (zD (Below.refl _ _) _).block k hk
        have h1:=HS4.out
        have h2:=HF.out.2.2.2
        have hsf:wf.heap.size = wr.heap.size+1:=by rw [hwf];exact Array.size_push _
        have hfs:impl_rooted.FS wf w.heap.size (w.heap.size+1) w4.heap.size wr.heap.size gp nI cp w0.heap.size (impl_rooted.FV bo bg) (List.replicate nI (-1)) :=
          ⟨(hold _ (by omega)).trans HF.out.1,(hold _ (by omega)).trans HF.out.2.1,(hold _ (by omega)).trans HF.out.2.2.1,by rw [hwf];exact blk_new wr _,Kd.R_step HR1.out (fun k hk _=>by rw [hk];exact hold gp (by omega)),List.length_replicate⟩
        have hi:impl_rooted.I wf bo bg be (wr.heap.size+1) w0.heap.size g []:=impl_rooted.I_step (HI0.out (wr.heap.size+1) (by omega)) (fun k _ hk=>(hold k (by omega)).trans (HBW.out.block k hk))
        have hbf:Below w0.heap.size w0 wf:=by
          have h3:=zR HB0.out HBW.out
          rw [hwf];exact zD h3 _
        refine (impl_rooted.try_ w.heap.size (w.heap.size+1) w4.heap.size wr.heap.size gp nI cp bo bg be (wr.heap.size+1) g w0 HX.out HY.out (by have:=HBO.out;have:=HSW.out;omega) (by have:=HN.out;omega) 12 (List.replicate nI (-1)) out wf [] HG.out.1 (by simpa using HG.out.2.1) HG.out.2.2 hfs hi (by omega) hbf).mono ?_
        rintro e w' ⟨he,_,hi',hfr,hb'⟩
        refine ⟨he,by simpa using hi',fun k hk a b=>?_,?_,hb'⟩
        · exact ((hfr.keep k (by omega) a b (by omega)).trans (hold k (by omega))).trans (HBW.out.block k hk)
        · have:=hfr.size;omega)
      unfold impl_rooted.TV at HTRY
      clear HF
      go_wp2_with (go_at_call 88;refine (HTRY.out _ rfl).mono ?_;rintro e w' ⟨rfl,hi',hk',hs',hb'⟩;have HI9:=zA hi';have HK9:=zA (And.intro hk' (And.intro hs' hb'));clear hi' hk' hs' hb')
      go_end0
      exact ⟨rfl,_,by have:=HBW.out.size;omega,HI9.out,HK9.out.1,HK9.out.2.1,HK9.out.2.2⟩
    | succ d =>
      have hc:decide (i < (nI:Int)) = true:=zO (by have:=HI1.out;omega)
      have HW:=zA (show wrap64 (i+1) = i+1 by have:=HI1.out;have:=HN.out;unfold wrap64;omega)
      have i1:(0≤i) = True:=eq_true HI1.out.1
      have i2:(i < (nI:Int)) = True:=eq_true (by have:=HI1.out;omega)
      have hcp:wr.cell? ⟨w4.heap.size,0,none⟩ = some (.slice (some ⟨gp,0,none⟩) nI cp):=cell_of_row wr _ 0 _ _ _ HF.out.2.2.1
      obtain ⟨hx,hf⟩:=Kd.R_celln 0 HR.out i HI1.out.1 (by have:=HI1.out;omega)
      go_wp2
      go_roundg d
      case measure=>omega
      case rel =>
        have h1:=HS4.out
        refine ⟨wrap64 (i+1),rfl,⟨by rw [HW.out];have:=HI1.out;omega,by rw [HW.out];have:=HI1.out;omega⟩,⟨?_,?_,?_,?_⟩,⟨?_⟩,⟨?_⟩⟩
        · exact (heap_setCell_other wr _ _ _ (by show w.heap.size≠gp;omega)).trans HF.out.1
        · exact (heap_setCell_other wr _ _ _ (by show w.heap.size+1≠gp;omega)).trans HF.out.2.1
        · exact (heap_setCell_other wr _ _ _ (by show w4.heap.size≠gp;omega)).trans HF.out.2.2.1
        · rw [← HF.out.2.2.2];simp
        · rw [HW.out, ← impl_rooted.fill_step nI i HI1.out.1 (by have:=HI1.out;omega)]
          exact Kd.R_putn HR.out i (-1)
        · exact zF HBW.out (by omega)

/-! permsOf and what it tells of -/
def impl_rooted.has (p:List Int) (i:Int):Bool:=p.contains i
def impl_rooted.ploop (g:List Int→List (List Int)) (p:List Int):Nat→Nat→List (List Int)
  | 0,_=>[]
  | d+1,i=>(if slices_Contains_int_int.f 60 p (i:Int) = some true then [] else g (p ++ [(i:Int)])) ++ impl_rooted.ploop g p d (i+1)
def impl_rooted.pgen (n:Nat):Nat→List Int→List (List Int)
  | 0,_=>[]
  | f+1,p=>if p.length = n then [p] else impl_rooted.ploop (impl_rooted.pgen n f) p n 0
/-- one turn, one flip -/
def impl_rooted.one (e g:Int) (x y:List Int):Option (List S33):=if x.length≤40∧y.length≤40 then (impl_MapValid.f 900 x y).bind fun v=>if v = true then (impl_genusOf.f 300 x y).bind fun t=>if t = g then (impl_namesFrom.f 300 x y 0).bind fun nm=>(impl_still.f 60 (wrap64 (2 * e))).bind fun st=>(slices_Equal_int_int.f 60 nm st).bind fun b=>if b = true then some [⟨x,y⟩] else some [] else some [] else some [] else none
def impl_rooted.tl (e g:Int) (x:List Int):List (List Int)→Option (List S33)
  | []=>some []
  | y :: ys=>(impl_rooted.one e g x y).bind fun a=>(impl_rooted.tl e g x ys).bind fun b=>some (a ++ b)
def impl_rooted.tD (e g:Int) (fl:List (List Int)) (x:List Int):List S33:=(impl_rooted.tl e g x fl).getD []
def impl_rooted.all (e g:Int) (fl:List (List Int)) (rows:List (List Int)):List S33:=rows.flatMap (impl_rooted.tD e g fl)
def impl_rooted.PV (bn bt bf:Nat):Value:=.func (.func 90) #[] #[.pointer (some ⟨bn,0,none⟩),.pointer (some ⟨bt,0,none⟩),.pointer (some ⟨bf,0,none⟩)]
def impl_rooted.TW (bl bg bi bo:Nat):Value:=.func (.func 69) #[] #[.pointer (some ⟨bl,0,none⟩),.pointer (some ⟨bg,0,none⟩),.pointer (some ⟨bi,0,none⟩),.pointer (some ⟨bo,0,none⟩)]
/-- what stays as it is: the variables, the flips -/
structure impl_rooted.Fix (W:World) (bl bg bi base h0 bo be:Nat) (e g:Int) (fl:List (List Int)):Prop where
  hl:∃ v,W.heap[bl]? = some (.cells #[v] 55 (0,0))∧Kd.S (Kd.slice 3 (Kd.int .i64)) 31 W base (fun k=>k < h0∧k≠bo∧k≠be) v fl
  hg:W.heap[bg]? = some (.cells #[.int .i64 g] 3 (0,0))
  hi:W.heap[bi]? = some (.cells #[.int .i64 e] 3 (0,0))
/-- the numbers of the blocks -/
structure impl_rooted.Cx (bl bg bi base h0 bo be:Nat):Prop where
  l:bl < h0∧bl≠bo∧bl≠be
  g:bg < h0∧bg≠bo∧bg≠be
  i:bi < h0∧bi≠bo∧bi≠be
  o:bo < h0∧base≤bo∧base≤h0∧bo≠be∧be < h0∧base≤be
theorem impl_rooted.Fix.step {W W':World} {bl bg bi base h0 bo be:Nat} {e g:Int} {fl:List (List Int)} (h:impl_rooted.Fix W bl bg bi base h0 bo be e g fl) (c:impl_rooted.Cx bl bg bi base h0 bo be) (hk:∀ k,k < h0→k≠bo→k≠be→W'.heap[k]? = W.heap[k]?):impl_rooted.Fix W' bl bg bi base h0 bo be e g fl:=by
  obtain ⟨⟨v,hv,hs⟩,hg,hi⟩:=h
  exact ⟨⟨v,(hk bl c.l.1 c.l.2.1 c.l.2.2).trans hv,Kd.S_step hs (fun k hk1 _=>hk k hk1.1 hk1.2.1 hk1.2.2)⟩,(hk bg c.g.1 c.g.2.1 c.g.2.2).trans hg,(hk bi c.i.1 c.i.2.1 c.i.2.2).trans hi⟩
/-- a map's two rows, apart from each other -/
def impl_rooted.kS:Kd S33 where
  sz:=k33.sz
  E:=k33.E
  K:=k33.K
  M:=fun w base ok x cs => ∃ v0 v1,cs = [v0,v1]∧Kd.R (Kd.int .i64) 3 w base (fun k=>ok k∧some k≠v1.ownBlock) v0 x.f0∧Kd.R (Kd.int .i64) 3 w base (fun k=>ok k∧some k≠v0.ownBlock) v1 x.f1
  K_len:=k33.K_len
  K_one:=k33.K_one
  K_below:=k33.K_below
  K_of_M:=by
    rintro w base ok x cs ⟨v0,v1,rfl,h0,h1⟩
    exact k33.K_of_M (k33_mkM w base ok x (zV h0 (fun _ h=>h.1)) (zV h1 (fun _ h=>h.1)))
  M_mono:=by
    rintro w base ok ok' x cs hok ⟨v0,v1,rfl,h0,h1⟩
    exact ⟨v0,v1,rfl,zV h0 (fun k h=>⟨hok k h.1,h.2⟩),zV h1 (fun k h=>⟨hok k h.1,h.2⟩)⟩
  M_bound:=by
    rintro w base ok x cs ⟨v0,v1,rfl,h0,h1⟩
    exact ⟨v0,v1,rfl,zV (Kd.R_bound h0) (fun k h=>⟨⟨h.1.1,h.2.1,h.2.2.1,h.2.2.2.choose,List.mem_append_left _ h.2.2.2.choose_spec.1,h.2.2.2.choose_spec.2⟩,h.1.2⟩),zV (Kd.R_bound h1) (fun k h=>⟨⟨h.1.1,h.2.1,h.2.2.1,h.2.2.2.choose,List.mem_append_right _ h.2.2.2.choose_spec.1,h.2.2.2.choose_spec.2⟩,h.1.2⟩)⟩
  M_move:=by
    rintro w w1 base ok x cs hm ⟨v0,v1,rfl,h0,h1⟩
    exact ⟨v0,v1,rfl,Kd.R_move h0 (fun k h=>hm k h.1),Kd.R_move h1 (fun k h=>hm k h.1)⟩
  M_lower:=by
    rintro w base base' ok x cs hb ⟨v0,v1,rfl,h0,h1⟩
    exact ⟨v0,v1,rfl,ze h0 hb,ze h1 hb⟩
theorem impl_rooted.kS_S {w:World} {base e:Nat} {ok:Nat→Prop} {v:Value} {xs:List S33} (h:Kd.S impl_rooted.kS e w base ok v xs):Kd.S k33 e w base ok v xs:=by
  obtain ⟨f,h0,inner,ho,hr⟩:=h
  refine ⟨f,h0,inner,ho,hr.imp_ (fun x cs hp=>?_)⟩
  obtain ⟨v0,v1,rfl,g0,g1⟩:=hp
  exact k33_mkM _ _ _ x.1 (zV g0 (fun _ h=>h.1)) (zV g1 (fun _ h=>h.1))
/-- what has been collected -/
def impl_rooted.Out (W:World) (bo base:Nat) (P:Nat→Prop) (ms:List S33):Prop := ∃ v,W.heap[bo]? = some (.cells #[v] 27 (0,0))∧Kd.S impl_rooted.kS 33 W base P v ms∧v.ownBlock≠none
theorem impl_rooted.Out.step {W W':World} {bo base:Nat} {P:Nat→Prop} {ms:List S33} (h:impl_rooted.Out W bo base P ms) (h1:W'.heap[bo]? = W.heap[bo]?) (hk:∀ k,P k→k < W.heap.size→W'.heap[k]? = W.heap[k]?):impl_rooted.Out W' bo base P ms:=by
  obtain ⟨v,hv,hs,hn⟩:=h
  exact ⟨v,h1.trans hv,Kd.S_step hs hk,hn⟩
theorem impl_rooted.Out.mono {W:World} {bo base:Nat} {P P':Nat→Prop} {ms:List S33} (h:impl_rooted.Out W bo base P ms) (hk:∀ k,P k→P' k):impl_rooted.Out W bo base P' ms:=by
  obtain ⟨v,hv,hs,hn⟩:=h
  exact ⟨v,hv,Kd.S_mono hs hk,hn⟩
structure impl_rooted.Ft (w w':World) (hc bo:Nat) (P:Nat→Prop):Prop where
  size:w.heap.size≤w'.heap.size
  keep:∀ k,k < hc → ¬ P k→k≠bo→w'.heap[k]? = w.heap[k]?
/-- the variables of permsOf -/
structure impl_rooted.PS (W:World) (bn bt bf n:Nat) (F:Value):Prop where
  hn:W.heap[bn]? = some (.cells #[.int .i64 (n:Int)] 3 (0,0))
  ht:W.heap[bt]? = some (.cells #[F] 64 (0,0))
  hf:W.heap[bf]? = some (.cells #[impl_rooted.PV bn bt bf] 64 (0,0))
theorem impl_rooted.PS.step {W W':World} {bn bt bf n h0 bo be:Nat} {F:Value} (h:impl_rooted.PS W bn bt bf n F) (c:(bn < h0∧bn≠bo∧bn≠be)∧(bt < h0∧bt≠bo∧bt≠be)∧(bf < h0∧bf≠bo∧bf≠be)) (hk:∀ k,k < h0→k≠bo→k≠be→W'.heap[k]? = W.heap[k]?):impl_rooted.PS W' bn bt bf n F :=
  ⟨(hk bn c.1.1 c.1.2.1 c.1.2.2).trans h.hn,(hk bt c.2.1.1 c.2.1.2.1 c.2.1.2.2).trans h.ht,(hk bf c.2.2.1 c.2.2.2.1 c.2.2.2.2).trans h.hf⟩

/-- what is asked of each turn -/
def impl_rooted.Qt (e g:Int) (fl:List (List Int)) (x:List Int):Prop:=(impl_rooted.tl e g x fl).isSome = true
def impl_rooted.TELL (bl bg bi bo be h0:Nat) (e g:Int) (fl:List (List Int)) (w0:World):Prop :=
  ∀ (x:List Int) (A:Option Addr) (c:Nat) (w:World) (hc:Nat) (P:Nat→Prop) (ms:List S33),(ms ++ impl_rooted.tD e g fl x).length≤1000000→impl_rooted.Qt e g fl x→impl_rooted.Fix w bl bg bi w0.heap.size h0 bo be e g fl→impl_rooted.Out w bo w0.heap.size P ms →
    (∀ k,P k→k < hc∧(k = be∨h0≤k))→h0≤hc→hc≤w.heap.size→Kd.R (Kd.int .i64) 3 w hc (fun _=>True) (.slice A x.length c) x→Below w0.heap.size w0 w →
    Calls Try.prog 69 #[.slice A x.length c,.pointer (some ⟨bl,0,none⟩),.pointer (some ⟨bg,0,none⟩),.pointer (some ⟨bi,0,none⟩),.pointer (some ⟨bo,0,none⟩)] w fun e' w' =>
      e' = .returned (.tuple #[])∧impl_rooted.Out w' bo w0.heap.size (fun k=>P k∨hc≤k) (ms ++ impl_rooted.tD e g fl x)∧impl_rooted.Ft w w' hc bo P∧Below w0.heap.size w0 w'
theorem impl_rooted.pone {W:World} {g:Nat} {k:Int} (h:W.cell? ⟨g,0,none⟩ = some (.int .i64 k)):Kd.C (Kd.int .i64) W (some ⟨g,0,none⟩) 1 [k]:=by
  refine Kd.C_of_reads (d:=(0:Int)) (h1:=fun _=>rfl) ⟨rfl,by omega,fun _=>⟨_,rfl,fun j hj=>?_⟩⟩
  obtain rfl:j = 0:=by omega
  exact h
theorem impl_rooted.pnew (W:World) (k:Int):((W.alloc (.cells #[.int .i64 k] 3)).drew).cell? ⟨W.heap.size,0,none⟩ = some (.int .i64 k):=by
  show (W.alloc (.cells #[.int .i64 k] 3)).cell? ⟨W.heap.size,0,none⟩ = _
  rw [World.cell?_alloc_new];rfl
theorem impl_rooted.all_app (e g:Int) (fl:List (List Int)) (a b:List (List Int)):impl_rooted.all e g fl (a ++ b) = impl_rooted.all e g fl a ++ impl_rooted.all e g fl b:=List.flatMap_append
set_option maxHeartbeats 16000000 in
set_option maxRecDepth 100000 in
theorem impl_rooted.pleaf (bl bg bi bo be h0:Nat) (e g:Int) (fl:List (List Int)) (w0:World) (HT:impl_rooted.TELL bl bg bi bo be h0 e g fl w0) (bn bt bf n:Nat)
    (hcx:impl_rooted.Cx bl bg bi w0.heap.size h0 bo be) (p:List Int) (A:Option Addr) (c:Nat) (w:World) (hc:Nat) (P:Nat→Prop) (ms:List S33) (hp:p.length = n)
    (hrow:(ms ++ impl_rooted.tD e g fl p).length≤1000000) (hq:impl_rooted.Qt e g fl p) (HFX:impl_rooted.Fix w bl bg bi w0.heap.size h0 bo be e g fl) (HPS:impl_rooted.PS w bn bt bf n (impl_rooted.TW bl bg bi bo)) (HO:impl_rooted.Out w bo w0.heap.size P ms)
    (hP:∀ k,P k→k < hc∧(k = be∨h0≤k)) (hh:h0≤hc) (hs:hc≤w.heap.size) (HR:Kd.R (Kd.int .i64) 3 w hc (fun _=>True) (.slice A p.length c) p) (HB:Below w0.heap.size w0 w) :
    Calls Try.prog 90 #[.slice A p.length c,.pointer (some ⟨bn,0,none⟩),.pointer (some ⟨bt,0,none⟩),.pointer (some ⟨bf,0,none⟩)] w fun e' w' =>
      e' = .returned (.tuple #[])∧impl_rooted.Out w' bo w0.heap.size (fun k=>P k∨hc≤k) (ms ++ impl_rooted.tD e g fl p)∧impl_rooted.Ft w w' hc bo P∧Below w0.heap.size w0 w':=by
  have HCALL:=zA (HT p A c w hc P ms hrow hq HFX HO hP hh hs HR HB)
  have hcn:w.cell? ⟨bn,0,none⟩ = some (.int .i64 (n:Int)):=cell_of_row w bn 0 _ _ _ HPS.hn
  have hct:w.cell? ⟨bt,0,none⟩ = some (.func (.func 69) #[] #[.pointer (some ⟨bl,0,none⟩),.pointer (some ⟨bg,0,none⟩),.pointer (some ⟨bi,0,none⟩),.pointer (some ⟨bo,0,none⟩)]):=cell_of_row w bt 0 _ _ _ HPS.ht
  have hpi:((p.length:Int) == (n:Int)) = true:=beq_iff_eq.mpr (by omega)
  have hpn:(p.length == n) = true:=beq_iff_eq.mpr hp
  clear HT HFX HPS HO hP hh hs HR HB hrow hq hcx hp
  go_enter Try.func90,Try.ntmps90
  go_wp2_with (go_at_call 69;refine HCALL.out.mono ?_;rintro e' w' ⟨rfl,ho,hf,hb⟩;have HO1:=zA ho;have HF1:=zA hf;have HB1:=zA hb;clear ho hf hb)
  refine bodyPost_ret (v:=.tuple #[]) (by simp [results,Try.results90,go_sem]) rfl ?_
  exact ⟨rfl,HO1.out,HF1.out,HB1.out⟩

theorem impl_rooted.idx_some (l:List Int) (a:Int) (hl:l.length≤50):∀ (d k:Nat) (x:Nat),x+d = l.length→d < k → ∃ r,slices_Index_int_int.l0 k l a (l.length:Int) (x:Int) = some r:=by
  intro d
  induction d with
  | zero =>
    intro k x h1 h2
    obtain ⟨k,rfl⟩:∃ m,k = m+1:=⟨k - 1,by omega⟩
    exact ⟨-1,by simp only [slices_Index_int_int.l0];rw [if_neg (by omega)]⟩
  | succ d ih =>
    intro k x h1 h2
    obtain ⟨k,rfl⟩:∃ m,k = m+1:=⟨k - 1,by omega⟩
    simp only [slices_Index_int_int.l0]
    rw [if_pos (by omega),if_pos (by omega),if_pos (by omega)]
    by_cases c:a = rd l (x:Int)
    · exact ⟨_,if_pos c⟩
    · rw [if_neg c,show wrap64 ((x:Int)+1) = ((x+1:Nat):Int) by unfold wrap64;omega]
      exact ih k (x+1) (by omega) (by omega)
theorem impl_rooted.has_some (l:List Int) (a:Int) (hl:l.length≤50):∃ b,slices_Contains_int_int.f 60 l a = some b:=by
  obtain ⟨r,hr⟩:=impl_rooted.idx_some l a hl l.length 60 0 (by omega) (by omega)
  refine ⟨decide (r ≥ 0),?_⟩
  unfold slices_Contains_int_int.f slices_Index_int_int.f
  rw [show slices_Index_int_int.l0 60 l a (l.length:Int) 0 = some r from hr]
  rfl
set_option maxHeartbeats 16000000 in
set_option maxRecDepth 100000 in
theorem impl_rooted.ptry (bl bg bi bo be h0:Nat) (e g:Int) (fl:List (List Int)) (w0:World) (HT:impl_rooted.TELL bl bg bi bo be h0 e g fl w0) (bn bt bf n:Nat)
    (hcx:impl_rooted.Cx bl bg bi w0.heap.size h0 bo be) (hbx:(bn < h0∧bn≠bo∧bn≠be)∧(bt < h0∧bt≠bo∧bt≠be)∧(bf < h0∧bf≠bo∧bf≠be)) (hn:n≤20) :
    ∀ (f:Nat) (p:List Int) (A:Option Addr) (c:Nat) (w:World) (hc:Nat) (P:Nat→Prop) (ms:List S33),n < f+p.length→p.length≤n →
    (ms ++ impl_rooted.all e g fl (impl_rooted.pgen n f p)).length≤1000000→(∀ x ∈ impl_rooted.pgen n f p,impl_rooted.Qt e g fl x)→impl_rooted.Fix w bl bg bi w0.heap.size h0 bo be e g fl→impl_rooted.PS w bn bt bf n (impl_rooted.TW bl bg bi bo)→impl_rooted.Out w bo w0.heap.size P ms →
    (∀ k,P k→k < hc∧(k = be∨h0≤k))→h0≤hc→hc≤w.heap.size→Kd.R (Kd.int .i64) 3 w hc (fun _=>True) (.slice A p.length c) p→Below w0.heap.size w0 w →
    Calls Try.prog 90 #[.slice A p.length c,.pointer (some ⟨bn,0,none⟩),.pointer (some ⟨bt,0,none⟩),.pointer (some ⟨bf,0,none⟩)] w fun e' w' =>
      e' = .returned (.tuple #[])∧impl_rooted.Out w' bo w0.heap.size (fun k=>P k∨hc≤k) (ms ++ impl_rooted.all e g fl (impl_rooted.pgen n f p))∧impl_rooted.Ft w w' hc bo P∧Below w0.heap.size w0 w':=by
  intro f
  induction f with
  | zero=>intro p A c w hc P ms h1 h2;omega
  | succ f ih =>
    intro p A c w hc P ms h1 h2 h3 h4 HFX HPS HO hP hh hs HR HB
    by_cases hl:p.length = n
    · have e1:impl_rooted.pgen n (f+1) p = [p]:=by simp only [impl_rooted.pgen];rw [if_pos hl]
      have e2:impl_rooted.all e g fl [p] = impl_rooted.tD e g fl p:=by simp [impl_rooted.all]
      rw [e1,e2]
      rw [e1,e2] at h3
      rw [e1] at h4
      exact impl_rooted.pleaf bl bg bi bo be h0 e g fl w0 HT bn bt bf n hcx p A c w hc P ms hl h3 (h4 p (by simp)) HFX HPS HO hP hh hs HR HB
    · have HIH:=zA ih
      clear ih
      have hpi:((p.length:Int) == (n:Int)) = false:=beq_eq_false_iff_ne.mpr (by omega)
      have hpn:(p.length == n) = false:=beq_eq_false_iff_ne.mpr hl
      have HL:=zA (show n < (f+1)+p.length∧p.length < n∧n≤20 by omega)
      have HG:=zA h3
      have HQ:=zA h4
      have HFX0:=zA HFX
      have HPS0:=zA HPS
      have HO0:=zA HO
      have HP:=zA hP
      have HN:=zA (And.intro hh hs)
      have HCX:=zA hcx
      have HBX:=zA hbx
      have HR0:=zA HR
      have HB0:=zA HB
      have HTT:=zA HT
      have hcn:w.cell? ⟨bn,0,none⟩ = some (.int .i64 (n:Int)):=cell_of_row w bn 0 _ _ _ HPS.hn
      clear HT HFX HPS HO hP hh hs HR HB hcx hbx h1 h2 h3 h4 hn
      have HE0:=zA (show impl_rooted.pgen n (f+1) p = impl_rooted.ploop (impl_rooted.pgen n f) p n 0 by simp only [impl_rooted.pgen];rw [if_neg hl])
      clear hl
      go_enter Try.func90,Try.ntmps90
      go_wp2
      have HRB:=zA (zV (ok':=fun k=>hc≤k∧k < w.heap.size) (Kd.R_bound HR0.out) (fun k hk=>⟨hk.2.1,hk.2.2.1⟩))
      go_loopg [14] n (fun d v14 wr => ∃ (i:Nat) (ms1:List S33),v14 = .int .i64 (i:Int)∧Aside0 (i+d = n)∧Aside0 (impl_rooted.Out wr bo w0.heap.size (fun k=>P k∨w.heap.size≤k) ms1)∧Aside0 ((ms1 ++ impl_rooted.all e g fl (impl_rooted.ploop (impl_rooted.pgen n f) p d i) = ms ++ impl_rooted.all e g fl (impl_rooted.pgen n (f+1) p)) ∧ ∀ x ∈ impl_rooted.ploop (impl_rooted.pgen n f) p d i,impl_rooted.Qt e g fl x)∧Aside0 (Kd.R (Kd.int .i64) 3 wr hc (fun k=>hc≤k∧k < w.heap.size) (.slice A p.length c) p)∧Aside0 (impl_rooted.Fix wr bl bg bi w0.heap.size h0 bo be e g fl)∧Aside0 (impl_rooted.PS wr bn bt bf n (impl_rooted.TW bl bg bi bo))∧Aside0 (impl_rooted.Ft w wr hc bo P)∧Aside0 (Below w0.heap.size w0 wr))
      case atStart=>exact ⟨0,ms,rfl,⟨by omega⟩,⟨HO0.out.mono (fun k hk=>.inl hk)⟩,⟨by rw [HE0.out],by rw [← HE0.out];exact HQ.out⟩,HRB,HFX0,HPS0,⟨⟨Nat.le_refl _,fun _ _ _ _=>rfl⟩⟩,HB0⟩
      case round =>
        clear HFX0 HPS0 HO0 HR0 HB0 HRB hcn
        obtain ⟨i,ms1,rfl,HI,HO,HE,HR,HFX,HPS,HF,HB⟩:=hrel
        cases gk with
        | zero =>
          have hci:decide ((i:Int) < (n:Int)) = false:=zP (by have:=HI.out;omega)
          have hcn:decide (i < n) = false:=zP (by have:=HI.out;omega)
          have he:=HE.out.1
          simp only [impl_rooted.ploop] at he
          rw [show impl_rooted.all e g fl [] = [] from rfl,List.append_nil] at he
          have HE2:=zA he
          clear he
          go_wp2
          go_end0
          rw [← HE2.out]
          exact ⟨rfl,HO.out.mono (fun k hk=>hk.imp id (fun h=>Nat.le_trans HN.out.2 h)),HF.out,HB.out⟩
        | succ d =>
          have hci:decide ((i:Int) < (n:Int)) = true:=zO (by have:=HI.out;omega)
          have hcn:decide (i < n) = true:=zO (by have:=HI.out;omega)
          obtain ⟨b,hb⟩:=impl_rooted.has_some p (i:Int) (by have:=HL.out;omega)
          have HCT:=zA hb
          have HRr:=zA (zU HR.out).2.2
          have HRl:=zA (zU HR.out).2.1
          have hE:=HE.out
          simp only [impl_rooted.ploop,List.mem_append] at hE
          have HWI:=zA (show wrap64 ((i:Int)+1) = ((i+1:Nat):Int) by have:=HI.out;have:=HL.out;unfold wrap64;omega)
          by_cases hbb:b = true
          · subst hbb
            rw [if_pos hb,List.nil_append] at hE
            replace hE:=And.intro hE.1 (fun x hx=>hE.2 x (.inr hx))
            have HE':=zA hE
            clear hE HE hb
            go_wp2_with (go_at_call 91;refine (slices_Contains_int_int.calls 60 A c p (i:Int) true _ HRr.out HRl.out HCT.out).mono ?_;rintro e' w' ⟨rfl,⟨nd,rfl⟩⟩)
            go_roundg d
            case measure=>omega
            case rel=>exact ⟨i+1,ms1,by rw [HWI.out],⟨by have:=HI.out;omega⟩,⟨HO.out.step rfl (fun _ _ _=>rfl)⟩,HE',⟨Kd.R_drewN HR.out _⟩,⟨HFX.out.step HCX.out (fun _ _ _ _=>rfl)⟩,⟨HPS.out.step HBX.out (fun _ _ _ _=>rfl)⟩,⟨⟨HF.out.size,HF.out.keep⟩⟩,⟨zB HB.out nd⟩⟩
          · replace hbb:=Bool.eq_false_iff.mpr hbb
            subst hbb
            rw [if_neg (by rw [hb];simp)] at hE
            have HE':=zA hE
            clear hE HE hb
            go_upto_region 6 with (go_at_call 91;refine (slices_Contains_int_int.calls 60 A c p (i:Int) false _ HRr.out HRl.out HCT.out).mono ?_;rintro e' w' ⟨rfl,⟨nd,rfl⟩⟩)
            generalize hw9:wr.drewN nd = wc
            have HOc:=zA (show impl_rooted.Out wc bo w0.heap.size (fun k=>P k∨w.heap.size≤k) ms1 by rw [← hw9];exact HO.out.step rfl (fun _ _ _=>rfl))
            have HRc:=zA (show Kd.R (Kd.int .i64) 3 wc hc (fun k=>hc≤k∧k < w.heap.size) (.slice A p.length c) p by rw [← hw9];exact Kd.R_drewN HR.out _)
            have HFXc:=zA (show impl_rooted.Fix wc bl bg bi w0.heap.size h0 bo be e g fl by rw [← hw9];exact HFX.out.step HCX.out (fun _ _ _ _=>rfl))
            have HPSc:=zA (show impl_rooted.PS wc bn bt bf n (impl_rooted.TW bl bg bi bo) by rw [← hw9];exact HPS.out.step HBX.out (fun _ _ _ _=>rfl))
            have HFc:=zA (show impl_rooted.Ft w wc hc bo P by rw [← hw9];exact ⟨HF.out.size,HF.out.keep⟩)
            have HBc:=zA (show Below w0.heap.size w0 wc by rw [← hw9];exact zB HB.out nd)
            clear hw9 HO HR HFX HPS HF HB HRr HRl HCT
            have hcf:wc.cell? ⟨bf,0,none⟩ = some (.func (.func 90) #[] #[.pointer (some ⟨bn,0,none⟩),.pointer (some ⟨bt,0,none⟩),.pointer (some ⟨bf,0,none⟩)]):=cell_of_row wc bf 0 _ _ _ HPSc.out.hf
            have HRr:=zA (zU HRc.out).2.2
            have HRl:=zA (zU HRc.out).2.1
            have HSZ:=zA (show bf < wc.heap.size∧bo < wc.heap.size∧w0.heap.size≤wc.heap.size∧w.heap.size≤wc.heap.size∧h0≤wc.heap.size by have h1:=HCX.out.o;have h2:=HBX.out;have h3:=HN.out;have h4:=HFc.out.size;omega)
            have HLE:=zA (show (p ++ [(i:Int)]).length = p.length+1 by simp)
            have HCL:=zA (show slices_Clone_int_int.f p = some p by unfold slices_Clone_int_int.f;rw [if_pos (by have:=HL.out;omega)])
            have HEE:=zA (show (ms1 ++ impl_rooted.all e g fl (impl_rooted.pgen n f (p ++ [(i:Int)]))) ++ impl_rooted.all e g fl (impl_rooted.ploop (impl_rooted.pgen n f) p d (i+1)) = ms ++ impl_rooted.all e g fl (impl_rooted.pgen n (f+1) p) by rw [List.append_assoc, ← impl_rooted.all_app];exact HE'.out.1)
            have HGE:=zA (show (ms1 ++ impl_rooted.all e g fl (impl_rooted.pgen n f (p ++ [(i:Int)]))).length≤1000000 by
              have h1:=congrArg List.length HEE.out
              have h2:=HG.out
              rw [List.length_append] at h1
              omega)
            have HPP:=zA (show ∀ q,((P q∨w.heap.size≤q)∧q < wc.heap.size)→q < wc.heap.size∧(q = be∨h0≤q) from fun q hq=>⟨hq.2,hq.1.elim (fun h1=>(HP.out q h1).2) (fun h1=>.inr (by have:=HN.out;omega))⟩)
            have HOP:=zA (show impl_rooted.Out wc bo w0.heap.size (fun q=>(P q∨w.heap.size≤q)∧q < wc.heap.size) ms1 by
              obtain ⟨v,hv,hs,hn⟩:=HOc.out
              exact ⟨v,hv,Kd.S_mono (Kd.S_bound hs) (fun q hq=>⟨hq.1,hq.2.2.1⟩),hn⟩)
            have HLB:=zA (show ∀ k,k < h0→k < wc.heap.size from fun k hk=>Nat.lt_of_lt_of_le hk HSZ.out.2.2.2.2)
            have HNB:=zA (show ¬ ((P bf∨w.heap.size≤bf)∧bf < wc.heap.size)∧bf≠bo by
              have h2:=HBX.out;have h3:=HN.out
              refine ⟨fun h=>?_,by omega⟩
              rcases h.1 with h4|h4
              · rcases (HP.out bf h4).2 with h5|h5 <;> omega
              · omega)
            clear HOc
            go_region_held3 (fun w'=>w'.cell? ⟨bf,0,none⟩ = some (.func (.func 90) #[] #[.pointer (some ⟨bn,0,none⟩),.pointer (some ⟨bt,0,none⟩),.pointer (some ⟨bf,0,none⟩)])) (first|exact cell_of_row wz bf 0 _ _ _ ((HFR2.out.keep bf HSZ.out.1 HNB.out.1 HNB.out.2).trans ((HBY.out.block bf HSZ.out.1).trans HPSc.out.hf))|exact (HBY.out.cell (p:=⟨bf,0,none⟩) HSZ.out.1).trans hcf|exact (HBW.out.cell (p:=⟨bf,0,none⟩) HSZ.out.1).trans hcf|go_keep) (first|(go_at_call 50;refine (slices_Clone_int_int.calls A c p p wc.drew (Kd.C_drew HRr.out) HRl.out HCL.out).mono ?_;rintro e' wx ⟨vx,rfl,hox,hbx⟩;have HOX:=zA (ze (base':=wc.heap.size) hox (by simp));have HBW:=zA (show Below wc.heap.size wc wx from (Below.refl _ _).drew.trans (hbx.mono (by simp)));clear hox hbx)|(go_at_call 50;refine (slices_Clone_int_int.calls A c p p _ ?sd1 HRl.out HCL.out).mono ?_;(case sd1=>repeat (first|exact HRr.out|apply zC_));rintro e' wx ⟨vx,rfl,hox,hbx⟩;have HOX:=zA (ze (base':=wc.heap.size) hox (by simp));have HBW:=zA (show Below wc.heap.size wc wx from ((Below.refl _ _).alloc (Nat.le_refl _) _).drew.trans (hbx.mono (by simp)));have HC1:=zA (impl_rooted.pone ((hbx.cell (p:=⟨wc.heap.size,0,none⟩) (by simp)).trans (impl_rooted.pnew wc (i:Int))));clear hox hbx)|(refine Kd.R_append_step (Kd.int .i64) (w0:=wc) wc.heap.size (by rfl) (.tmp 23) (.tmp 25) 31 3 (.int .i64 0) 8 (by rfl) Try.underlying31 info3 rfl (by decide) (by omega) vx p (i:Int) [.int .i64 (i:Int)] (fun _=>True) (fun _=>False) (by rfl) (by rfl) ?aP (fun _ hk=>hk.elim) ?aF ?aO ?aB ?aS ?aL ?_;(case aP=>exact rfl);(case aF=>exact (fun _ _=>trivial));(case aO=>exact HOX.out);(case aB=>exact HBW.out);(case aS=>exact HBW.out.size);(case aL=>have:=HL.out;omega);intro vy wy hoy hby hgy haty;obtain ⟨A2,c2,rfl⟩:=zg hoy;have HOY:=zA hoy;have HBY:=zA hby;clear hoy hby hgy haty)|(refine Kd.R_append_rows_step (Kd.int .i64) (w0:=wc) wc.heap.size (by rfl) (.tmp 23) (.tmp 25) 31 3 (.int .i64 0) 8 (by rfl) Try.underlying31 info3 rfl (by decide) (by omega) vx p [(i:Int)] _ 1 1 (fun _=>True) (fun _=>False) (by rfl) (by rfl) ?bO HC1.out (fun _ _ h=>h) (fun _ hk=>hk.elim) ?bF ?bB ?bS ?bL ?_;(case bF=>exact (fun _ _=>trivial));(case bO=>exact HOX.out);(case bB=>exact HBW.out);(case bS=>exact HBW.out.size);(case bL=>have:=HL.out;omega);intro vy wy hoy hby hgy haty;obtain ⟨A2,c2,rfl⟩:=zg hoy;have HOY:=zA hoy;have HBY:=zA hby;clear hoy hby hgy haty)|(go_at_call 90;have hI:=HIH.out (p ++ [(i:Int)]) A2 c2 wy wc.heap.size (fun q=>(P q∨w.heap.size≤q)∧q < wc.heap.size) ms1 (by have:=HL.out;rw [HLE.out];omega) (by have:=HL.out;rw [HLE.out];omega) HGE.out (fun x hx=>HE'.out.2 x (.inl hx)) (HFXc.out.step HCX.out (fun k hk _ _=>HBY.out.block k (HLB.out k hk))) (HPSc.out.step HBX.out (fun k hk _ _=>HBY.out.block k (HLB.out k hk))) (HOP.out.step (HBY.out.block bo HSZ.out.2.1) (fun q _ hlt=>HBY.out.block q hlt)) HPP.out HSZ.out.2.2.2.2 HBY.out.size HOY.out (zR HBc.out HBY.out);rw [HLE.out] at hI;refine hI.mono ?_;rintro e' wz ⟨rfl,hst,hfr,hbz⟩;have HST2:=zA hst;have HFR2:=zA hfr;have HBZ:=zA hbz;clear hst hfr hbz hI))
            all_goals go_wp2
            all_goals go_roundg d
            all_goals first
              | omega
              | (refine ⟨i+1,ms1 ++ impl_rooted.all e g fl (impl_rooted.pgen n f (p ++ [(i:Int)])),by rw [HWI.out],⟨by have:=HI.out;omega⟩,⟨HST2.out.mono (fun q hq=>?_)⟩,⟨HEE.out,fun x hx=>HE'.out.2 x (.inr hx)⟩,⟨Kd.R_step HRc.out (fun q hq hq2=>?_)⟩,⟨HFXc.out.step HCX.out (fun k hk h1 h2=>?_)⟩,⟨HPSc.out.step HBX.out (fun k hk h1 h2=>?_)⟩,⟨⟨?_,fun q h1 h2 h3=>?_⟩⟩,HBZ⟩
                 · rcases hq with hq|hq
                   · exact hq.1
                   · exact .inr (Nat.le_trans HSZ.out.2.2.2.1 hq)
                 · refine (HFR2.out.keep q hq2 (fun h=>?_) (by have h5:=HCX.out.o;have h6:=HN.out;omega)).trans (HBY.out.block q hq2)
                   rcases h.1 with h4|h4
                   · have:=(HP.out q h4).1;omega
                   · omega
                 · refine (HFR2.out.keep k (HLB.out k hk) (fun h=>?_) h1).trans (HBY.out.block k (HLB.out k hk))
                   rcases h.1 with h4|h4
                   · rcases (HP.out k h4).2 with h5|h5 <;> omega
                   · have:=HN.out;omega
                 · refine (HFR2.out.keep k (HLB.out k hk) (fun h=>?_) h1).trans (HBY.out.block k (HLB.out k hk))
                   rcases h.1 with h4|h4
                   · rcases (HP.out k h4).2 with h5|h5 <;> omega
                   · have:=HN.out;omega
                 · exact Nat.le_trans HFc.out.size (Nat.le_trans HBY.out.size HFR2.out.size)
                 · have hqs:q < wc.heap.size:=by have:=HN.out;have:=HSZ.out;omega
                   refine ((HFR2.out.keep q hqs (fun h=>?_) h3).trans (HBY.out.block q hqs)).trans (HFc.out.keep q h1 h2 h3)
                   rcases h.1 with h4|h4
                   · exact h2 h4
                   · have:=HN.out;omega)
theorem impl_rooted.rowat {W:World} {A:Option Addr} {n:Nat} {xs:List (List Int)} (h:Kd.C (Kd.slice 3 (Kd.int .i64)) W A n xs) (i:Int) (h0:0≤i) (h1:i < n):∃ ad A0 c0,A = some ad∧W.cell? (ad.add i.toNat) = some (.slice A0 (xs.getD i.toNat []).length c0)∧(xs.getD i.toNat []).length≤c0∧(Kd.int .i64).C W A0 (xs.getD i.toNat []).length (xs.getD i.toNat []):=by
  obtain ⟨ad,c,e,_,hK,hc0⟩:=Kd.C_get h ([]:List Int) i h0 h1
  have hc:∀ j u,c[j]? = some u→W.cell? (ad.add (i.toNat * 1+j)) = some u:=hc0
  obtain ⟨A0,c0,rfl,l0,g0⟩:=hK
  exact ⟨ad,A0,c0,e,by have hq:=hc 0 _ rfl;rwa [Nat.mul_one,Nat.add_zero] at hq,l0,g0⟩
theorem impl_rooted.drop_at (fl:List (List Int)) (j:Int) (h0:0≤j) (h1:j < fl.length):fl.drop j.toNat = fl.getD j.toNat [] :: fl.drop (j.toNat+1):=by
  rw [List.drop_eq_getElem_cons (by omega),List.getD_eq_getElem?_getD,List.getElem?_eq_getElem (by omega),Option.getD_some]
/-- the variable m -/
structure impl_rooted.Mb (W:World) (gm bg bi:Nat) (e g:Int) (vx vy:Value):Prop where
  m:W.heap[gm]? = some (.cells #[vx,vy] 33 (0,0))
  g:W.heap[bg]? = some (.cells #[.int .i64 g] 3 (0,0))
  i:W.heap[bi]? = some (.cells #[.int .i64 e] 3 (0,0))
def impl_rooted.MS (W:World) (gm bg bi:Nat) (e g:Int) (vx vy:Value):Prop:=(W.cell? ⟨gm,0,none⟩ = some vx∧W.cell? ⟨gm,1,none⟩ = some vy)∧W.cell? ⟨bg,0,none⟩ = some (.int .i64 g)∧W.cell? ⟨bi,0,none⟩ = some (.int .i64 e)
theorem impl_rooted.Mb.cells {W:World} {gm bg bi:Nat} {e g:Int} {vx vy:Value} (h:impl_rooted.Mb W gm bg bi e g vx vy):impl_rooted.MS W gm bg bi e g vx vy :=
  ⟨⟨(zT h.m 0).trans rfl,(zT h.m 1).trans rfl⟩,(zT h.g 0).trans rfl,(zT h.i 0).trans rfl⟩
theorem impl_rooted.MS.below {W W':World} {gm bg bi:Nat} {e g:Int} {vx vy:Value} (h:impl_rooted.MS W gm bg bi e g vx vy) (hb:Below W.heap.size W W'):impl_rooted.MS W' gm bg bi e g vx vy :=
  ⟨⟨(hb.cell (zY W _ h.1.1)).trans h.1.1,(hb.cell (zY W _ h.1.2)).trans h.1.2⟩,(hb.cell (zY W _ h.2.1)).trans h.2.1,(hb.cell (zY W _ h.2.2)).trans h.2.2⟩
theorem impl_rooted.one_cases {e g:Int} {x y:List Int} {a:List S33} (h:impl_rooted.one e g x y = some a):(x.length≤40∧y.length≤40) ∧ ∃ vv bb,impl_MapValid.f 900 x y = some vv∧a = (if bb = true then [⟨x,y⟩] else []) ∧
    ((vv = false∧bb = false)∨(vv = true ∧ ∃ t,impl_genusOf.f 300 x y = some t∧(((t == g) = false∧bb = false)∨((t == g) = true ∧ ∃ nm st,impl_namesFrom.f 300 x y 0 = some nm∧impl_still.f 60 (wrap64 (2 * e)) = some st∧slices_Equal_int_int.f 60 nm st = some bb)))):=by
  unfold impl_rooted.one at h
  by_cases hlen:¬ (x.length≤40∧y.length≤40)
  · rw [if_neg hlen] at h;cases h
  replace hlen:=Classical.not_not.mp hlen
  rw [if_pos hlen] at h
  refine ⟨hlen,?_⟩
  obtain ⟨vv,hvv,h⟩:=zz0 h
  cases vv with
  | false =>
    rw [if_neg (by simp)] at h
    obtain rfl:=zS h
    exact ⟨false,false,hvv,rfl,.inl ⟨rfl,rfl⟩⟩
  | true =>
    rw [if_pos rfl] at h
    obtain ⟨t,ht,h⟩:=zz0 h
    by_cases c:t = g
    · rw [if_pos c] at h
      obtain ⟨nm,hnm,h⟩:=zz0 h
      obtain ⟨st,hst,h⟩:=zz0 h
      obtain ⟨b,hb,h⟩:=zz0 h
      refine ⟨true,b,hvv,?_,.inr ⟨rfl,t,ht,.inr ⟨beq_iff_eq.mpr c,nm,st,hnm,hst,hb⟩⟩⟩
      cases b with
      | true=>exact (zS h).symm
      | false=>exact (zS h).symm
    · rw [if_neg c] at h
      obtain rfl:=zS h
      exact ⟨true,false,hvv,rfl,.inr ⟨rfl,t,ht,.inl ⟨beq_eq_false_iff_ne.mpr c,rfl⟩⟩⟩
set_option maxHeartbeats 16000000 in
set_option maxRecDepth 100000 in
theorem impl_rooted.tell2 (bl bg bi bo be h0:Nat) (e g:Int) (fl:List (List Int)) (w0:World) (hcx:impl_rooted.Cx bl bg bi w0.heap.size h0 bo be) (hfl:fl.length≤1000):impl_rooted.TELL bl bg bi bo be h0 e g fl w0:=by
  intro x A c w hc P ms hrow hq HFX HO hP hh hs HR HB
  obtain ⟨b0,hb0⟩:=Option.isSome_iff_exists.1 hq
  have HD:=zA (show impl_rooted.tD e g fl x = b0 by unfold impl_rooted.tD;rw [hb0];rfl)
  have HT0:=zA hb0
  have HG:=zA hrow
  have HFX0:=zA HFX
  have HO0:=zA HO
  have HP:=zA hP
  have HN:=zA (And.intro hh hs)
  have HCX:=zA hcx
  have HFL:=zA hfl
  have HRB:=zA (zV (ok':=fun k=>hc≤k∧k < w.heap.size) (Kd.R_bound HR) (fun k hk=>⟨hk.2.1,hk.2.2.1⟩))
  have HB0:=zA HB
  obtain ⟨vl,hvl,hsl⟩:=HFX.hl
  obtain ⟨Al,cl,rfl⟩:=Kd.S_slice hsl
  have hcl:w.cell? ⟨bl,0,none⟩ = some (.slice Al fl.length cl):=cell_of_row w bl 0 _ _ _ hvl
  have HSL:=zA (Kd.S_R hsl)
  clear hb0 hrow HFX HO hP hh hs hcx hfl HR HB hq hvl hsl
  go_enter Try.func69,Try.ntmps69
  go_wp2
  go_loopg [11] fl.length (fun d v11 wr => ∃ (j:Int) (ms1 b1:List S33),v11 = .int .i64 j∧Aside0 (0≤j∧j.toNat+d = fl.length)∧Aside0 (impl_rooted.tl e g x (fl.drop j.toNat) = some b1∧ms1 ++ b1 = ms ++ impl_rooted.tD e g fl x)∧Aside0 (impl_rooted.Out wr bo w0.heap.size (fun k=>P k∨w.heap.size≤k) ms1)∧Aside0 (Kd.R (Kd.int .i64) 3 wr hc (fun k=>hc≤k∧k < w.heap.size) (.slice A x.length c) x)∧Aside0 (impl_rooted.Fix wr bl bg bi w0.heap.size h0 bo be e g fl)∧Aside0 (Kd.R (Kd.slice 3 (Kd.int .i64)) 31 wr w0.heap.size (fun k=>k < h0∧k≠bo∧k≠be) (.slice Al fl.length cl) fl)∧Aside0 (impl_rooted.Ft w wr hc bo P)∧Aside0 (Below w0.heap.size w0 wr))
  case atStart=>exact ⟨0,ms,b0,rfl,⟨by omega,by simp⟩,⟨by simpa using HT0.out,by rw [HD.out]⟩,⟨HO0.out.mono (fun k hk=>.inl hk)⟩,HRB,HFX0,HSL,⟨⟨Nat.le_refl _,fun _ _ _ _=>rfl⟩⟩,HB0⟩
  case round =>
    clear HFX0 HO0 HRB HB0 HSL hcl HT0
    obtain ⟨j,ms1,b1,rfl,HJ,HE,HO,HR,HFX,HSL,HF,HB⟩:=hrel
    cases gk with
    | zero =>
      have hci:decide (j < (fl.length:Int)) = false:=zP (by have:=HJ.out;omega)
      have he:=HE.out
      rw [List.drop_eq_nil_of_le (by have:=HJ.out;omega)] at he
      obtain rfl : [] = b1:=zS he.1
      have HE2:=zA ((List.append_nil _).symm.trans he.2)
      clear he HE
      go_wp2
      go_end0
      rw [← HE2.out]
      exact ⟨rfl,HO.out.mono (fun k hk=>hk.imp id (fun h=>Nat.le_trans HN.out.2 h)),HF.out,HB.out⟩
    | succ d =>
      have hci:decide (j < (fl.length:Int)) = true:=zO (by have:=HJ.out;omega)
      have i1:0≤j:=HJ.out.1
      have i2:j < (fl.length:Int):=by have:=HJ.out;omega
      obtain ⟨ad,Ay,cy,eAl,hcy,hly,hCy⟩:=impl_rooted.rowat (zU HSL.out).2.2 j i1 i2
      subst eAl
      have hE:=HE.out
      rw [impl_rooted.drop_at fl j i1 i2] at hE
      obtain ⟨y,hy⟩:∃ y,y = fl.getD j.toNat []:=⟨_,rfl⟩
      rw [← hy] at hE hcy hly hCy
      simp only [impl_rooted.tl] at hE
      obtain ⟨hE1,hE2⟩:=hE
      obtain ⟨a1,hone,hE1⟩:=zz0 hE1
      obtain ⟨b2,htl,hE1⟩:=zz0 hE1
      obtain rfl:=zS hE1
      have HY:=zA (And.intro hly hCy)
      have HTL:=zA htl
      have HE2:=zA hE2
      have HWJ:=zA (show wrap64 (j+1) = j+1 by have:=HJ.out;have:=HFL.out;unfold wrap64;omega)
      have HBI:=zA (And.intro i1 i2)
      replace i1:=eq_true i1
      replace i2:=eq_true i2
      obtain ⟨hlen,vv,bb,hvv,ha1,hcs⟩:=impl_rooted.one_cases hone
      have HLN:=zA hlen
      have HVV:=zA hvv
      have HA1:=zA ha1
      have HCS:=zA hcs
      clear hE1 hE2 htl hly hCy hy hlen hvv ha1 hcs hone HE
      go_upto_region 4 with (first|((with_reducible refine gate_dst (N:=8) rfl ?_);refine box_event ?hg (N:=8) ?hd (cs:=#[.slice none 0 0,.slice none 0 0]) (t:=33) ?hr ?_;(case hd=>rfl);(case hg=>rfl);(case hr=>first|(go_simp;done)|(go_simp;rfl));intro gm hg w13 hbox hb;have HBX:=zA hbox;have HGM:=zA hg;have HB1:=zA hb;clear hg hb;have hcz_0:w13.cell? ⟨gm,0,none⟩ = some (.slice none 0 0):=(zT HBX.out 0).trans rfl;have hcz_1:w13.cell? ⟨gm,1,none⟩ = some (.slice none 0 0):=(zT HBX.out 1).trans rfl;have hfz_0:=zZ HBX.out 0;have hfz_1:=zZ HBX.out 1;clear hbox))
      have HMm0:=zA (show ((w13.setCell ⟨gm,0,none⟩ (.slice A x.length c)).setCell ⟨gm,1,none⟩ (.slice Ay y.length cy)).heap[gm]? = some (.cells #[.slice A x.length c,.slice Ay y.length cy] 33 (0,0)) from heap_setCell_same _ gm 1 _ _ _ (heap_setCell_same w13 gm 0 _ _ _ HBX.out))
      have HBm:=zA (show Below wr.heap.size wr ((w13.setCell ⟨gm,0,none⟩ (.slice A x.length c)).setCell ⟨gm,1,none⟩ (.slice Ay y.length cy)) from zF (zF HB1.out (by rw [HGM.out];exact Nat.le_refl _)) (by rw [HGM.out];exact Nat.le_refl _))
      clear hcz_0 hcz_1 hfz_0 hfz_1 HBX HB1
      generalize hwm:(w13.setCell ⟨gm,0,none⟩ (.slice A x.length c)).setCell ⟨gm,1,none⟩ (.slice Ay y.length cy) = Wm
      rw [hwm] at HMm0 HBm
      clear hwm
      have HOm:=zA (show impl_rooted.Out Wm bo w0.heap.size (fun k=>(P k∨w.heap.size≤k)∧k < wr.heap.size) ms1 by
        obtain ⟨v,hv,hs,hn⟩:=HO.out
        exact ⟨v,(HBm.out.block bo (Array.getElem?_eq_some_iff.1 hv).1).trans hv,Kd.S_below (Kd.S_mono (Kd.S_bound hs) (fun q hq=>⟨hq.1,hq.2.2.1⟩)) HBm.out,hn⟩)
      have HRm:=zA (Kd.R_below HR.out HBm.out)
      have HFXm:=zA (show impl_rooted.Fix Wm bl bg bi w0.heap.size h0 bo be e g fl from HFX.out.step HCX.out (fun k hk _ _=>HBm.out.block k (by have:=HN.out;have:=HF.out.size;omega)))
      have HSLm:=zA (Kd.R_below HSL.out HBm.out)
      have HFm:=zA (show impl_rooted.Ft w Wm hc bo P from ⟨Nat.le_trans HF.out.size HBm.out.size,fun k h1 h2 h3=>(HBm.out.block k (by have:=HN.out;have:=HF.out.size;omega)).trans (HF.out.keep k h1 h2 h3)⟩)
      have HBBm:=zA (zR HB.out HBm.out)
      have HX:=zA (zU HRm.out).2.2
      have HY1:=zA (zW HY.out.2 HBm.out)
      have HXL:=zA (zU HRm.out).2.1
      have HYL:=zA HY.out.1
      clear HY
      have HY:=HY1
      clear HY1
      have HM:=zA (Below.refl Wm.heap.size Wm)
      have HMS0:=zA (show impl_rooted.MS Wm gm bg bi e g (.slice A x.length c) (.slice Ay y.length cy) from impl_rooted.Mb.cells ⟨HMm0.out,HFXm.out.hg,HFXm.out.hi⟩)
      have HSZ:=zA (show w.heap.size≤wr.heap.size∧wr.heap.size≤Wm.heap.size from ⟨HF.out.size,HBm.out.size⟩)
      have hc1:Wm.cell? ⟨gm,0,none⟩ = some (.slice A x.length c):=HMS0.out.1.1
      have hc2:Wm.cell? ⟨gm,1,none⟩ = some (.slice Ay y.length cy):=HMS0.out.1.2
      have hc3:Wm.cell? ⟨bg,0,none⟩ = some (.int .i64 g):=HMS0.out.2.1
      have hc4:Wm.cell? ⟨bi,0,none⟩ = some (.int .i64 e):=HMS0.out.2.2
      clear HO HR HFX HSL HF HB hcy i1 i2 hci HMm0 HGM
      go_cut [33] (fun v33 wc=>v33 = .bool bb∧Aside0 (Below Wm.heap.size Wm wc))
      case first =>
        rcases HCS.out with ⟨hv,hbb⟩|⟨hv,t,ht,⟨htg,hbb⟩|⟨htg,nm,st,hnm,hst,heq⟩⟩
        · subst hv
          subst hbb
          clear HCS HA1 HE2 HTL
          refine start_ (n:=16) (S:=fun w'=>w'.cell? ⟨gm,0,none⟩ = some (.slice A x.length c)∧w'.cell? ⟨gm,1,none⟩ = some (.slice Ay y.length cy)∧w'.cell? ⟨bg,0,none⟩ = some (.int .i64 g)∧w'.cell? ⟨bi,0,none⟩ = some (.int .i64 e)) (ds:=[]) #[zf,zf,zf,zf,zf,zf,zf,zf,zf,zf,zf,zf,zf,zf,zf,zf] (by kernel_rfl) rfl rfl ⟨HMS0.out.1.1,HMS0.out.1.2,HMS0.out.2.1,HMS0.out.2.2⟩ (fun hHeld=>?_)
          refine take_ (i:=0) (N:=some 18) (v:=?_) (a':=?_) #[zt,zf,zf,zf,zf,zf,zf,zf,zf,zf,zf,zf,zf,zf,zf,zf] rfl rfl (by kernel_rfl) (fun _ _ _ h=>h) (Or.inl ⟨by rfl,?_⟩) hHeld ?_ ?_
          rotate_left
          · rintro w' ⟨s0,s1,s2,s3⟩
            go_simp
            with_reducible rfl
          rotate_left
          · simp only [Act.put,zP_,i64_w]
            rfl
          refine one_ (i:=1) (N:=some 19) #[zt,zt,zf,zf,zf,zf,zf,zf,zf,zf,zf,zf,zf,zf,zf,zf] rfl rfl (by kernel_rfl) (by decide) (fun K hK=>?_)
          refine goes_ Try.func46 (by kernel_rfl) rfl #[.agg #[.slice A x.length c,.slice Ay y.length cy]] (by rfl) rfl rfl (by simp only [zJ,zM,zN];rfl) ?_
          with_reducible refine (impl_MapValid.calls 900 (fun _=>True) A c x (fun _=>True) Ay cy y false _ ?s1 ?s2 HVV.out).mono ?_
          (case s1=>refine Kd.V_mono (Kd.V_mk HXL.out (Kd.C_F (Kd.heap_int .i64) ?_)) (fun _ _=>trivial);exact (by repeat (first|(with_reducible exact HX.out)|apply zC_)))
          (case s2=>refine Kd.V_mono (Kd.V_mk HYL.out (Kd.C_F (Kd.heap_int .i64) ?_)) (fun _ _=>trivial);exact (by repeat (first|(with_reducible exact HY.out)|apply zC_)))
          rintro e' wv ⟨rfl,hb⟩
          refine ⟨_,rfl,?_⟩
          have HX2:Aside0 ((Kd.int .i64).C wv A x.length x):=⟨zW (by repeat (first|(with_reducible exact HX.out)|apply zC_)) hb⟩
          clear HX
          have HX:=HX2
          clear HX2
          have HY2:Aside0 ((Kd.int .i64).C wv Ay y.length y):=⟨zW (by repeat (first|(with_reducible exact HY.out)|apply zC_)) hb⟩
          clear HY
          have HY:=HY2
          clear HY2
          have HM2:Aside0 (Below Wm.heap.size Wm wv):=⟨zR (by repeat (first|(with_reducible exact HM.out)|(with_reducible apply zD)|(with_reducible apply zB)|(with_reducible apply zC))) hb⟩
          clear HM
          have HM:=HM2
          clear HM2 hb
          refine hK.out _ _ ⟨(impl_rooted.MS.below HMS0.out HM.out).1.1,(impl_rooted.MS.below HMS0.out HM.out).1.2,(impl_rooted.MS.below HMS0.out HM.out).2.1,(impl_rooted.MS.below HMS0.out HM.out).2.2⟩ (fun hHeld=>?_)
          clear hK K
          refine norm_ (a':=?_) ?_ ?_
          rotate_left
          · show Act.put _ (some 19) _ = _
            simp only [Act.put,zP_,i64_w]
            rfl
          refine pure_ (i:=2) (N:=some 20) (v:=?_) (a':=?_) #[zt,zt,zt,zf,zf,zf,zf,zf,zf,zf,zf,zf,zf,zf,zf,zf] rfl rfl (by kernel_rfl) (fun _ _ _ h=>h) (Or.inl ⟨by rfl,?_⟩) ?_ ?_
          rotate_left
          · intro w'
            go_simp
            with_reducible rfl
          rotate_left
          · simp only [Act.put,zP_,i64_w]
            rfl
          refine pure_ (i:=3) (N:=some 21) (v:=undef) (a':=?_) #[zt,zt,zt,zt,zf,zf,zf,zf,zf,zf,zf,zf,zf,zf,zf,zf] rfl rfl (by kernel_rfl) (fun _ _ _ h=>h) (Or.inr ⟨by rfl,rfl⟩) ?_ ?_
          rotate_left
          · simp only [Act.put,zP_,i64_w]
            rfl
          refine pure_ (i:=4) (N:=some 22) (v:=undef) (a':=?_) #[zt,zt,zt,zt,zt,zf,zf,zf,zf,zf,zf,zf,zf,zf,zf,zf] rfl rfl (by kernel_rfl) (fun _ _ _ h=>h) (Or.inr ⟨by rfl,rfl⟩) ?_ ?_
          rotate_left
          · simp only [Act.put,zP_,i64_w]
            rfl
          refine pure_ (i:=5) (N:=some 23) (v:=undef) (a':=?_) #[zt,zt,zt,zt,zt,zt,zf,zf,zf,zf,zf,zf,zf,zf,zf,zf] rfl rfl (by kernel_rfl) (fun _ _ _ h=>h) (Or.inr ⟨by rfl,rfl⟩) ?_ ?_
          rotate_left
          · simp only [Act.put,zP_,i64_w]
            rfl
          refine pure_ (i:=6) (N:=some 24) (v:=undef) (a':=?_) #[zt,zt,zt,zt,zt,zt,zt,zf,zf,zf,zf,zf,zf,zf,zf,zf] rfl rfl (by kernel_rfl) (fun _ _ _ h=>h) (Or.inr ⟨by rfl,rfl⟩) ?_ ?_
          rotate_left
          · simp only [Act.put,zP_,i64_w]
            rfl
          refine pure_ (i:=7) (N:=some 25) (v:=?_) (a':=?_) #[zt,zt,zt,zt,zt,zt,zt,zt,zf,zf,zf,zf,zf,zf,zf,zf] rfl rfl (by kernel_rfl) (fun _ _ _ h=>h) (Or.inl ⟨by rfl,?_⟩) ?_ ?_
          rotate_left
          · intro w'
            go_simp
            with_reducible rfl
          rotate_left
          · simp only [Act.put,zP_,i64_w]
            rfl
          refine pure_ (i:=8) (N:=some 26) (v:=?_) (a':=?_) #[zt,zt,zt,zt,zt,zt,zt,zt,zt,zf,zf,zf,zf,zf,zf,zf] rfl rfl (by kernel_rfl) (fun _ _ _ h=>h) (Or.inl ⟨by rfl,?_⟩) ?_ ?_
          rotate_left
          · intro w'
            go_simp
            with_reducible rfl
          rotate_left
          · simp only [Act.put,zP_,i64_w]
            rfl
          refine pure_ (i:=9) (N:=some 27) (v:=undef) (a':=?_) #[zt,zt,zt,zt,zt,zt,zt,zt,zt,zt,zf,zf,zf,zf,zf,zf] rfl rfl (by kernel_rfl) (fun _ _ _ h=>h) (Or.inr ⟨by rfl,rfl⟩) ?_ ?_
          rotate_left
          · simp only [Act.put,zP_,i64_w]
            rfl
          refine pure_ (i:=10) (N:=some 28) (v:=undef) (a':=?_) #[zt,zt,zt,zt,zt,zt,zt,zt,zt,zt,zt,zf,zf,zf,zf,zf] rfl rfl (by kernel_rfl) (fun _ _ _ h=>h) (Or.inr ⟨by rfl,rfl⟩) ?_ ?_
          rotate_left
          · simp only [Act.put,zP_,i64_w]
            rfl
          refine pure_ (i:=11) (N:=some 29) (v:=undef) (a':=?_) #[zt,zt,zt,zt,zt,zt,zt,zt,zt,zt,zt,zt,zf,zf,zf,zf] rfl rfl (by kernel_rfl) (fun _ _ _ h=>h) (Or.inr ⟨by rfl,rfl⟩) ?_ ?_
          rotate_left
          · simp only [Act.put,zP_,i64_w]
            rfl
          refine pure_ (i:=12) (N:=some 30) (v:=undef) (a':=?_) #[zt,zt,zt,zt,zt,zt,zt,zt,zt,zt,zt,zt,zt,zf,zf,zf] rfl rfl (by kernel_rfl) (fun _ _ _ h=>h) (Or.inr ⟨by rfl,rfl⟩) ?_ ?_
          rotate_left
          · simp only [Act.put,zP_,i64_w]
            rfl
          refine pure_ (i:=13) (N:=some 31) (v:=undef) (a':=?_) #[zt,zt,zt,zt,zt,zt,zt,zt,zt,zt,zt,zt,zt,zt,zf,zf] rfl rfl (by kernel_rfl) (fun _ _ _ h=>h) (Or.inr ⟨by rfl,rfl⟩) ?_ ?_
          rotate_left
          · simp only [Act.put,zP_,i64_w]
            rfl
          refine pure_ (i:=14) (N:=some 32) (v:=undef) (a':=?_) #[zt,zt,zt,zt,zt,zt,zt,zt,zt,zt,zt,zt,zt,zt,zt,zf] rfl rfl (by kernel_rfl) (fun _ _ _ h=>h) (Or.inr ⟨by rfl,rfl⟩) ?_ ?_
          rotate_left
          · simp only [Act.put,zP_,i64_w]
            rfl
          refine pure_ (i:=15) (N:=some 33) (v:=?_) (a':=?_) #[zt,zt,zt,zt,zt,zt,zt,zt,zt,zt,zt,zt,zt,zt,zt,zt] rfl rfl (by kernel_rfl) (fun _ _ _ h=>h) (Or.inl ⟨by rfl,?_⟩) ?_ ?_
          rotate_left
          · intro w'
            go_simp
            with_reducible rfl
          rotate_left
          · simp only [Act.put,zP_,i64_w]
            rfl
          refine done_ (by kernel_rfl) ?_
          go_wp2
          go_meet
          case rel=>exact ⟨rfl,⟨by repeat (first|(with_reducible exact HM.out)|(with_reducible apply zD)|(with_reducible apply zB)|(with_reducible apply zC))⟩⟩
        · subst hv
          subst hbb
          have HT:=zA ht
          clear HCS HA1 HE2 HTL ht
          refine start_ (n:=16) (S:=fun w'=>w'.cell? ⟨gm,0,none⟩ = some (.slice A x.length c)∧w'.cell? ⟨gm,1,none⟩ = some (.slice Ay y.length cy)∧w'.cell? ⟨bg,0,none⟩ = some (.int .i64 g)∧w'.cell? ⟨bi,0,none⟩ = some (.int .i64 e)) (ds:=[]) #[zf,zf,zf,zf,zf,zf,zf,zf,zf,zf,zf,zf,zf,zf,zf,zf] (by kernel_rfl) rfl rfl ⟨HMS0.out.1.1,HMS0.out.1.2,HMS0.out.2.1,HMS0.out.2.2⟩ (fun hHeld=>?_)
          refine take_ (i:=0) (N:=some 18) (v:=?_) (a':=?_) #[zt,zf,zf,zf,zf,zf,zf,zf,zf,zf,zf,zf,zf,zf,zf,zf] rfl rfl (by kernel_rfl) (fun _ _ _ h=>h) (Or.inl ⟨by rfl,?_⟩) hHeld ?_ ?_
          rotate_left
          · rintro w' ⟨s0,s1,s2,s3⟩
            go_simp
            with_reducible rfl
          rotate_left
          · simp only [Act.put,zP_,i64_w]
            rfl
          refine one_ (i:=1) (N:=some 19) #[zt,zt,zf,zf,zf,zf,zf,zf,zf,zf,zf,zf,zf,zf,zf,zf] rfl rfl (by kernel_rfl) (by decide) (fun K hK=>?_)
          refine goes_ Try.func46 (by kernel_rfl) rfl #[.agg #[.slice A x.length c,.slice Ay y.length cy]] (by rfl) rfl rfl (by simp only [zJ,zM,zN];rfl) ?_
          with_reducible refine (impl_MapValid.calls 900 (fun _=>True) A c x (fun _=>True) Ay cy y true _ ?s1 ?s2 HVV.out).mono ?_
          (case s1=>refine Kd.V_mono (Kd.V_mk HXL.out (Kd.C_F (Kd.heap_int .i64) ?_)) (fun _ _=>trivial);exact (by repeat (first|(with_reducible exact HX.out)|apply zC_)))
          (case s2=>refine Kd.V_mono (Kd.V_mk HYL.out (Kd.C_F (Kd.heap_int .i64) ?_)) (fun _ _=>trivial);exact (by repeat (first|(with_reducible exact HY.out)|apply zC_)))
          rintro e' wv ⟨rfl,hb⟩
          refine ⟨_,rfl,?_⟩
          have HX2:Aside0 ((Kd.int .i64).C wv A x.length x):=⟨zW (by repeat (first|(with_reducible exact HX.out)|apply zC_)) hb⟩
          clear HX
          have HX:=HX2
          clear HX2
          have HY2:Aside0 ((Kd.int .i64).C wv Ay y.length y):=⟨zW (by repeat (first|(with_reducible exact HY.out)|apply zC_)) hb⟩
          clear HY
          have HY:=HY2
          clear HY2
          have HM2:Aside0 (Below Wm.heap.size Wm wv):=⟨zR (by repeat (first|(with_reducible exact HM.out)|(with_reducible apply zD)|(with_reducible apply zB)|(with_reducible apply zC))) hb⟩
          clear HM
          have HM:=HM2
          clear HM2 hb
          refine hK.out _ _ ⟨(impl_rooted.MS.below HMS0.out HM.out).1.1,(impl_rooted.MS.below HMS0.out HM.out).1.2,(impl_rooted.MS.below HMS0.out HM.out).2.1,(impl_rooted.MS.below HMS0.out HM.out).2.2⟩ (fun hHeld=>?_)
          clear hK K
          refine norm_ (a':=?_) ?_ ?_
          rotate_left
          · show Act.put _ (some 19) _ = _
            simp only [Act.put,zP_,i64_w]
            rfl
          refine pure_ (i:=2) (N:=some 20) (v:=?_) (a':=?_) #[zt,zt,zt,zf,zf,zf,zf,zf,zf,zf,zf,zf,zf,zf,zf,zf] rfl rfl (by kernel_rfl) (fun _ _ _ h=>h) (Or.inl ⟨by rfl,?_⟩) ?_ ?_
          rotate_left
          · intro w'
            go_simp
            with_reducible rfl
          rotate_left
          · simp only [Act.put,zP_,i64_w]
            rfl
          refine take_ (i:=3) (N:=some 21) (v:=?_) (a':=?_) #[zt,zt,zt,zt,zf,zf,zf,zf,zf,zf,zf,zf,zf,zf,zf,zf] rfl rfl (by kernel_rfl) (fun _ _ _ h=>h) (Or.inl ⟨by rfl,?_⟩) hHeld ?_ ?_
          rotate_left
          · rintro w' ⟨s0,s1,s2,s3⟩
            go_simp
            with_reducible rfl
          rotate_left
          · simp only [Act.put,zP_,i64_w]
            rfl
          refine take_ (i:=5) (N:=some 23) (v:=?_) (a':=?_) #[zt,zt,zt,zt,zf,zt,zf,zf,zf,zf,zf,zf,zf,zf,zf,zf] rfl rfl (by kernel_rfl) (fun _ _ _ h=>h) (Or.inl ⟨by rfl,?_⟩) hHeld ?_ ?_
          rotate_left
          · rintro w' ⟨s0,s1,s2,s3⟩
            go_simp
            with_reducible rfl
          rotate_left
          · simp only [Act.put,zP_,i64_w]
            rfl
          refine one_ (i:=4) (N:=some 22) #[zt,zt,zt,zt,zt,zt,zf,zf,zf,zf,zf,zf,zf,zf,zf,zf] rfl rfl (by kernel_rfl) (by decide) (fun K hK=>?_)
          refine goes_ Try.func52 (by kernel_rfl) rfl #[.agg #[.slice A x.length c,.slice Ay y.length cy]] (by rfl) rfl rfl (by simp only [zJ,zM,zN];rfl) ?_
          with_reducible refine (impl_genusOf.calls 300 A c x Ay cy y t _ ?s1 HXL.out ?s2 HYL.out HT.out).mono ?_
          (case s1=>exact (by repeat (first|(with_reducible exact HX.out)|apply zC_)))
          (case s2=>exact (by repeat (first|(with_reducible exact HY.out)|apply zC_)))
          rintro e' wg ⟨rfl,hb⟩
          refine ⟨_,rfl,?_⟩
          have HX2:Aside0 ((Kd.int .i64).C wg A x.length x):=⟨zW (by repeat (first|(with_reducible exact HX.out)|apply zC_)) hb⟩
          clear HX
          have HX:=HX2
          clear HX2
          have HY2:Aside0 ((Kd.int .i64).C wg Ay y.length y):=⟨zW (by repeat (first|(with_reducible exact HY.out)|apply zC_)) hb⟩
          clear HY
          have HY:=HY2
          clear HY2
          have HM2:Aside0 (Below Wm.heap.size Wm wg):=⟨zR (by repeat (first|(with_reducible exact HM.out)|(with_reducible apply zD)|(with_reducible apply zB)|(with_reducible apply zC))) hb⟩
          clear HM
          have HM:=HM2
          clear HM2 hb
          refine hK.out _ _ ⟨(impl_rooted.MS.below HMS0.out HM.out).1.1,(impl_rooted.MS.below HMS0.out HM.out).1.2,(impl_rooted.MS.below HMS0.out HM.out).2.1,(impl_rooted.MS.below HMS0.out HM.out).2.2⟩ (fun hHeld=>?_)
          clear hK K
          refine norm_ (a':=?_) ?_ ?_
          rotate_left
          · show Act.put _ (some 22) _ = _
            simp only [Act.put,zP_,i64_w]
            rfl
          refine pure_ (i:=6) (N:=some 24) (v:=?_) (a':=?_) #[zt,zt,zt,zt,zt,zt,zt,zf,zf,zf,zf,zf,zf,zf,zf,zf] rfl rfl (by kernel_rfl) (fun _ _ _ h=>h) (Or.inl ⟨by rfl,?_⟩) ?_ ?_
          rotate_left
          · intro w'
            go_simp
            with_reducible rfl
          rotate_left
          · simp only [Act.put,zP_,i64_w]
            rfl
          refine pure_ (i:=7) (N:=some 25) (v:=?_) (a':=?_) #[zt,zt,zt,zt,zt,zt,zt,zt,zf,zf,zf,zf,zf,zf,zf,zf] rfl rfl (by kernel_rfl) (fun _ _ _ h=>h) (Or.inl ⟨by rfl,?_⟩) ?_ ?_
          rotate_left
          · intro w'
            go_simp
            with_reducible rfl
          rotate_left
          · simp only [Act.put,zP_,i64_w]
            rfl
          refine pure_ (i:=8) (N:=some 26) (v:=?_) (a':=?_) #[zt,zt,zt,zt,zt,zt,zt,zt,zt,zf,zf,zf,zf,zf,zf,zf] rfl rfl (by kernel_rfl) (fun _ _ _ h=>h) (Or.inl ⟨by rfl,?_⟩) ?_ ?_
          rotate_left
          · intro w'
            go_simp
            with_reducible rfl
          rotate_left
          · simp only [Act.put,zP_,i64_w]
            rfl
          refine pure_ (i:=9) (N:=some 27) (v:=undef) (a':=?_) #[zt,zt,zt,zt,zt,zt,zt,zt,zt,zt,zf,zf,zf,zf,zf,zf] rfl rfl (by kernel_rfl) (fun _ _ _ h=>h) (Or.inr ⟨by rfl,rfl⟩) ?_ ?_
          rotate_left
          · simp only [Act.put,zP_,i64_w]
            rfl
          refine pure_ (i:=10) (N:=some 28) (v:=undef) (a':=?_) #[zt,zt,zt,zt,zt,zt,zt,zt,zt,zt,zt,zf,zf,zf,zf,zf] rfl rfl (by kernel_rfl) (fun _ _ _ h=>h) (Or.inr ⟨by rfl,rfl⟩) ?_ ?_
          rotate_left
          · simp only [Act.put,zP_,i64_w]
            rfl
          refine pure_ (i:=11) (N:=some 29) (v:=undef) (a':=?_) #[zt,zt,zt,zt,zt,zt,zt,zt,zt,zt,zt,zt,zf,zf,zf,zf] rfl rfl (by kernel_rfl) (fun _ _ _ h=>h) (Or.inr ⟨by rfl,rfl⟩) ?_ ?_
          rotate_left
          · simp only [Act.put,zP_,i64_w]
            rfl
          refine pure_ (i:=12) (N:=some 30) (v:=undef) (a':=?_) #[zt,zt,zt,zt,zt,zt,zt,zt,zt,zt,zt,zt,zt,zf,zf,zf] rfl rfl (by kernel_rfl) (fun _ _ _ h=>h) (Or.inr ⟨by rfl,rfl⟩) ?_ ?_
          rotate_left
          · simp only [Act.put,zP_,i64_w]
            rfl
          refine pure_ (i:=13) (N:=some 31) (v:=undef) (a':=?_) #[zt,zt,zt,zt,zt,zt,zt,zt,zt,zt,zt,zt,zt,zt,zf,zf] rfl rfl (by kernel_rfl) (fun _ _ _ h=>h) (Or.inr ⟨by rfl,rfl⟩) ?_ ?_
          rotate_left
          · simp only [Act.put,zP_,i64_w]
            rfl
          refine pure_ (i:=14) (N:=some 32) (v:=undef) (a':=?_) #[zt,zt,zt,zt,zt,zt,zt,zt,zt,zt,zt,zt,zt,zt,zt,zf] rfl rfl (by kernel_rfl) (fun _ _ _ h=>h) (Or.inr ⟨by rfl,rfl⟩) ?_ ?_
          rotate_left
          · simp only [Act.put,zP_,i64_w]
            rfl
          refine pure_ (i:=15) (N:=some 33) (v:=?_) (a':=?_) #[zt,zt,zt,zt,zt,zt,zt,zt,zt,zt,zt,zt,zt,zt,zt,zt] rfl rfl (by kernel_rfl) (fun _ _ _ h=>h) (Or.inl ⟨by rfl,?_⟩) ?_ ?_
          rotate_left
          · intro w'
            go_simp
            with_reducible rfl
          rotate_left
          · simp only [Act.put,zP_,i64_w]
            rfl
          refine done_ (by kernel_rfl) ?_
          go_wp2
          go_meet
          case rel=>exact ⟨rfl,⟨by repeat (first|(with_reducible exact HM.out)|(with_reducible apply zD)|(with_reducible apply zB)|(with_reducible apply zC))⟩⟩
        · subst hv
          have HT:=zA ht
          have HNMF:=zA hnm
          have HSTF:=zA hst
          have HEQF:=zA heq
          clear HCS HA1 HE2 HTL ht hnm hst heq
          refine start_ (n:=16) (S:=fun w'=>w'.cell? ⟨gm,0,none⟩ = some (.slice A x.length c)∧w'.cell? ⟨gm,1,none⟩ = some (.slice Ay y.length cy)∧w'.cell? ⟨bg,0,none⟩ = some (.int .i64 g)∧w'.cell? ⟨bi,0,none⟩ = some (.int .i64 e)) (ds:=[]) #[zf,zf,zf,zf,zf,zf,zf,zf,zf,zf,zf,zf,zf,zf,zf,zf] (by kernel_rfl) rfl rfl ⟨HMS0.out.1.1,HMS0.out.1.2,HMS0.out.2.1,HMS0.out.2.2⟩ (fun hHeld=>?_)
          refine take_ (i:=0) (N:=some 18) (v:=?_) (a':=?_) #[zt,zf,zf,zf,zf,zf,zf,zf,zf,zf,zf,zf,zf,zf,zf,zf] rfl rfl (by kernel_rfl) (fun _ _ _ h=>h) (Or.inl ⟨by rfl,?_⟩) hHeld ?_ ?_
          rotate_left
          · rintro w' ⟨s0,s1,s2,s3⟩
            go_simp
            with_reducible rfl
          rotate_left
          · simp only [Act.put,zP_,i64_w]
            rfl
          refine one_ (i:=1) (N:=some 19) #[zt,zt,zf,zf,zf,zf,zf,zf,zf,zf,zf,zf,zf,zf,zf,zf] rfl rfl (by kernel_rfl) (by decide) (fun K hK=>?_)
          refine goes_ Try.func46 (by kernel_rfl) rfl #[.agg #[.slice A x.length c,.slice Ay y.length cy]] (by rfl) rfl rfl (by simp only [zJ,zM,zN];rfl) ?_
          with_reducible refine (impl_MapValid.calls 900 (fun _=>True) A c x (fun _=>True) Ay cy y true _ ?s1 ?s2 HVV.out).mono ?_
          (case s1=>refine Kd.V_mono (Kd.V_mk HXL.out (Kd.C_F (Kd.heap_int .i64) ?_)) (fun _ _=>trivial);exact (by repeat (first|(with_reducible exact HX.out)|apply zC_)))
          (case s2=>refine Kd.V_mono (Kd.V_mk HYL.out (Kd.C_F (Kd.heap_int .i64) ?_)) (fun _ _=>trivial);exact (by repeat (first|(with_reducible exact HY.out)|apply zC_)))
          rintro e' wv ⟨rfl,hb⟩
          refine ⟨_,rfl,?_⟩
          have HX2:Aside0 ((Kd.int .i64).C wv A x.length x):=⟨zW (by repeat (first|(with_reducible exact HX.out)|apply zC_)) hb⟩
          clear HX
          have HX:=HX2
          clear HX2
          have HY2:Aside0 ((Kd.int .i64).C wv Ay y.length y):=⟨zW (by repeat (first|(with_reducible exact HY.out)|apply zC_)) hb⟩
          clear HY
          have HY:=HY2
          clear HY2
          have HM2:Aside0 (Below Wm.heap.size Wm wv):=⟨zR (by repeat (first|(with_reducible exact HM.out)|(with_reducible apply zD)|(with_reducible apply zB)|(with_reducible apply zC))) hb⟩
          clear HM
          have HM:=HM2
          clear HM2 hb
          refine hK.out _ _ ⟨(impl_rooted.MS.below HMS0.out HM.out).1.1,(impl_rooted.MS.below HMS0.out HM.out).1.2,(impl_rooted.MS.below HMS0.out HM.out).2.1,(impl_rooted.MS.below HMS0.out HM.out).2.2⟩ (fun hHeld=>?_)
          clear hK K
          refine norm_ (a':=?_) ?_ ?_
          rotate_left
          · show Act.put _ (some 19) _ = _
            simp only [Act.put,zP_,i64_w]
            rfl
          refine pure_ (i:=2) (N:=some 20) (v:=?_) (a':=?_) #[zt,zt,zt,zf,zf,zf,zf,zf,zf,zf,zf,zf,zf,zf,zf,zf] rfl rfl (by kernel_rfl) (fun _ _ _ h=>h) (Or.inl ⟨by rfl,?_⟩) ?_ ?_
          rotate_left
          · intro w'
            go_simp
            with_reducible rfl
          rotate_left
          · simp only [Act.put,zP_,i64_w]
            rfl
          refine take_ (i:=3) (N:=some 21) (v:=?_) (a':=?_) #[zt,zt,zt,zt,zf,zf,zf,zf,zf,zf,zf,zf,zf,zf,zf,zf] rfl rfl (by kernel_rfl) (fun _ _ _ h=>h) (Or.inl ⟨by rfl,?_⟩) hHeld ?_ ?_
          rotate_left
          · rintro w' ⟨s0,s1,s2,s3⟩
            go_simp
            with_reducible rfl
          rotate_left
          · simp only [Act.put,zP_,i64_w]
            rfl
          refine take_ (i:=5) (N:=some 23) (v:=?_) (a':=?_) #[zt,zt,zt,zt,zf,zt,zf,zf,zf,zf,zf,zf,zf,zf,zf,zf] rfl rfl (by kernel_rfl) (fun _ _ _ h=>h) (Or.inl ⟨by rfl,?_⟩) hHeld ?_ ?_
          rotate_left
          · rintro w' ⟨s0,s1,s2,s3⟩
            go_simp
            with_reducible rfl
          rotate_left
          · simp only [Act.put,zP_,i64_w]
            rfl
          refine one_ (i:=4) (N:=some 22) #[zt,zt,zt,zt,zt,zt,zf,zf,zf,zf,zf,zf,zf,zf,zf,zf] rfl rfl (by kernel_rfl) (by decide) (fun K hK=>?_)
          refine goes_ Try.func52 (by kernel_rfl) rfl #[.agg #[.slice A x.length c,.slice Ay y.length cy]] (by rfl) rfl rfl (by simp only [zJ,zM,zN];rfl) ?_
          with_reducible refine (impl_genusOf.calls 300 A c x Ay cy y t _ ?s1 HXL.out ?s2 HYL.out HT.out).mono ?_
          (case s1=>exact (by repeat (first|(with_reducible exact HX.out)|apply zC_)))
          (case s2=>exact (by repeat (first|(with_reducible exact HY.out)|apply zC_)))
          rintro e' wg ⟨rfl,hb⟩
          refine ⟨_,rfl,?_⟩
          have HX2:Aside0 ((Kd.int .i64).C wg A x.length x):=⟨zW (by repeat (first|(with_reducible exact HX.out)|apply zC_)) hb⟩
          clear HX
          have HX:=HX2
          clear HX2
          have HY2:Aside0 ((Kd.int .i64).C wg Ay y.length y):=⟨zW (by repeat (first|(with_reducible exact HY.out)|apply zC_)) hb⟩
          clear HY
          have HY:=HY2
          clear HY2
          have HM2:Aside0 (Below Wm.heap.size Wm wg):=⟨zR (by repeat (first|(with_reducible exact HM.out)|(with_reducible apply zD)|(with_reducible apply zB)|(with_reducible apply zC))) hb⟩
          clear HM
          have HM:=HM2
          clear HM2 hb
          refine hK.out _ _ ⟨(impl_rooted.MS.below HMS0.out HM.out).1.1,(impl_rooted.MS.below HMS0.out HM.out).1.2,(impl_rooted.MS.below HMS0.out HM.out).2.1,(impl_rooted.MS.below HMS0.out HM.out).2.2⟩ (fun hHeld=>?_)
          clear hK K
          refine norm_ (a':=?_) ?_ ?_
          rotate_left
          · show Act.put _ (some 22) _ = _
            simp only [Act.put,zP_,i64_w]
            rfl
          refine pure_ (i:=6) (N:=some 24) (v:=?_) (a':=?_) #[zt,zt,zt,zt,zt,zt,zt,zf,zf,zf,zf,zf,zf,zf,zf,zf] rfl rfl (by kernel_rfl) (fun _ _ _ h=>h) (Or.inl ⟨by rfl,?_⟩) ?_ ?_
          rotate_left
          · intro w'
            go_simp
            with_reducible rfl
          rotate_left
          · simp only [Act.put,zP_,i64_w]
            rfl
          refine pure_ (i:=7) (N:=some 25) (v:=?_) (a':=?_) #[zt,zt,zt,zt,zt,zt,zt,zt,zf,zf,zf,zf,zf,zf,zf,zf] rfl rfl (by kernel_rfl) (fun _ _ _ h=>h) (Or.inl ⟨by rfl,?_⟩) ?_ ?_
          rotate_left
          · intro w'
            go_simp
            with_reducible rfl
          rotate_left
          · simp only [Act.put,zP_,i64_w]
            rfl
          refine pure_ (i:=8) (N:=some 26) (v:=?_) (a':=?_) #[zt,zt,zt,zt,zt,zt,zt,zt,zt,zf,zf,zf,zf,zf,zf,zf] rfl rfl (by kernel_rfl) (fun _ _ _ h=>h) (Or.inl ⟨by rfl,?_⟩) ?_ ?_
          rotate_left
          · intro w'
            go_simp
            with_reducible rfl
          rotate_left
          · simp only [Act.put,zP_,i64_w]
            rfl
          refine take_ (i:=9) (N:=some 27) (v:=?_) (a':=?_) #[zt,zt,zt,zt,zt,zt,zt,zt,zt,zt,zf,zf,zf,zf,zf,zf] rfl rfl (by kernel_rfl) (fun _ _ _ h=>h) (Or.inl ⟨by rfl,?_⟩) hHeld ?_ ?_
          rotate_left
          · rintro w' ⟨s0,s1,s2,s3⟩
            go_simp
            with_reducible rfl
          rotate_left
          · simp only [Act.put,zP_,i64_w]
            rfl
          refine take_ (i:=11) (N:=some 29) (v:=?_) (a':=?_) #[zt,zt,zt,zt,zt,zt,zt,zt,zt,zt,zf,zt,zf,zf,zf,zf] rfl rfl (by kernel_rfl) (fun _ _ _ h=>h) (Or.inl ⟨by rfl,?_⟩) hHeld ?_ ?_
          rotate_left
          · rintro w' ⟨s0,s1,s2,s3⟩
            go_simp
            with_reducible rfl
          rotate_left
          · simp only [Act.put,zP_,i64_w]
            rfl
          refine pure_ (i:=12) (N:=some 30) (v:=?_) (a':=?_) #[zt,zt,zt,zt,zt,zt,zt,zt,zt,zt,zf,zt,zt,zf,zf,zf] rfl rfl (by kernel_rfl) (fun _ _ _ h=>h) (Or.inl ⟨by rfl,?_⟩) ?_ ?_
          rotate_left
          · intro w'
            go_simp
            with_reducible rfl
          rotate_left
          · simp only [Act.put,zP_,i64_w]
            rfl
          refine one_ (i:=10) (N:=some 28) #[zt,zt,zt,zt,zt,zt,zt,zt,zt,zt,zt,zt,zt,zf,zf,zf] rfl rfl (by kernel_rfl) (by decide) (fun K hK=>?_)
          refine goes_ Try.func48 (by kernel_rfl) rfl #[.agg #[.slice A x.length c,.slice Ay y.length cy],.int .i64 0] (by rfl) rfl rfl (by simp only [zJ,zM,zN];rfl) ?_
          with_reducible refine (impl_namesFrom.calls 300 A c x Ay cy y 0 nm _ ?s1 HXL.out ?s2 HYL.out HNMF.out).mono ?_
          (case s1=>exact (by repeat (first|(with_reducible exact HX.out)|apply zC_)))
          (case s2=>exact (by repeat (first|(with_reducible exact HY.out)|apply zC_)))
          rintro e' wn ⟨vn,rfl,hr,hb⟩
          refine ⟨_,rfl,?_⟩
          have HX2:Aside0 ((Kd.int .i64).C wn A x.length x):=⟨zW (by repeat (first|(with_reducible exact HX.out)|apply zC_)) hb⟩
          clear HX
          have HX:=HX2
          clear HX2
          have HY2:Aside0 ((Kd.int .i64).C wn Ay y.length y):=⟨zW (by repeat (first|(with_reducible exact HY.out)|apply zC_)) hb⟩
          clear HY
          have HY:=HY2
          clear HY2
          have HM2:Aside0 (Below Wm.heap.size Wm wn):=⟨zR (by repeat (first|(with_reducible exact HM.out)|(with_reducible apply zD)|(with_reducible apply zB)|(with_reducible apply zC))) hb⟩
          clear HM
          have HM:=HM2
          clear HM2
          obtain ⟨An,cn,rfl⟩:=zg hr
          have HNR:=zA (zU hr).2
          clear hr hb
          refine hK.out _ _ ⟨(impl_rooted.MS.below HMS0.out HM.out).1.1,(impl_rooted.MS.below HMS0.out HM.out).1.2,(impl_rooted.MS.below HMS0.out HM.out).2.1,(impl_rooted.MS.below HMS0.out HM.out).2.2⟩ (fun hHeld=>?_)
          clear hK K
          refine norm_ (a':=?_) ?_ ?_
          rotate_left
          · show Act.put _ (some 28) _ = _
            simp only [Act.put,zP_,i64_w]
            rfl
          refine one_ (i:=13) (N:=some 31) #[zt,zt,zt,zt,zt,zt,zt,zt,zt,zt,zt,zt,zt,zt,zf,zf] rfl rfl (by kernel_rfl) (by decide) (fun K hK=>?_)
          refine goes_ Try.func71 (by kernel_rfl) rfl #[.int .i64 (wrap64 (2 * e))] (by rfl) rfl rfl (by simp only [zJ,zM,zN];rfl) ?_
          with_reducible refine (impl_still.calls 60 _ st _ HSTF.out).mono ?_
          rintro e' ws ⟨vs,rfl,hr,hb⟩
          refine ⟨_,rfl,?_⟩
          have HX2:Aside0 ((Kd.int .i64).C ws A x.length x):=⟨zW (by repeat (first|(with_reducible exact HX.out)|apply zC_)) hb⟩
          clear HX
          have HX:=HX2
          clear HX2
          have HY2:Aside0 ((Kd.int .i64).C ws Ay y.length y):=⟨zW (by repeat (first|(with_reducible exact HY.out)|apply zC_)) hb⟩
          clear HY
          have HY:=HY2
          clear HY2
          have HM2:Aside0 (Below Wm.heap.size Wm ws):=⟨zR (by repeat (first|(with_reducible exact HM.out)|(with_reducible apply zD)|(with_reducible apply zB)|(with_reducible apply zC))) hb⟩
          clear HM
          have HM:=HM2
          clear HM2
          have HNR2:Aside0 (nm.length≤cn∧(Kd.int .i64).C ws An nm.length nm):=⟨⟨HNR.out.1,zW (by repeat (first|(with_reducible exact HNR.out.2)|apply zC_)) hb⟩⟩
          clear HNR
          have HNR:=HNR2
          clear HNR2
          obtain ⟨As,cs,rfl⟩:=zg hr
          have HSR:=zA (zU hr).2
          clear hr hb
          refine hK.out _ _ ⟨(impl_rooted.MS.below HMS0.out HM.out).1.1,(impl_rooted.MS.below HMS0.out HM.out).1.2,(impl_rooted.MS.below HMS0.out HM.out).2.1,(impl_rooted.MS.below HMS0.out HM.out).2.2⟩ (fun hHeld=>?_)
          clear hK K
          refine norm_ (a':=?_) ?_ ?_
          rotate_left
          · show Act.put _ (some 31) _ = _
            simp only [Act.put,zP_,i64_w]
            rfl
          refine one_ (i:=14) (N:=some 32) #[zt,zt,zt,zt,zt,zt,zt,zt,zt,zt,zt,zt,zt,zt,zt,zf] rfl rfl (by kernel_rfl) (by decide) (fun K hK=>?_)
          refine goes_ Try.func70 (by kernel_rfl) rfl #[.slice An nm.length cn,.slice As st.length cs] (by rfl) rfl rfl (by simp only [zJ,zM,zN];rfl) ?_
          with_reducible refine (slices_Equal_int_int.calls 60 An cn nm As cs st bb _ ?s1 HNR.out.1 ?s2 HSR.out.1 HEQF.out).mono ?_
          (case s1=>exact (by repeat (first|(with_reducible exact HNR.out.2)|apply zC_)))
          (case s2=>exact (by repeat (first|(with_reducible exact HSR.out.2)|apply zC_)))
          rintro e' wq ⟨rfl,⟨nq_,rfl⟩⟩
          refine ⟨_,rfl,?_⟩
          refine hK.out _ _ ⟨(impl_rooted.MS.below HMS0.out HM.out).1.1,(impl_rooted.MS.below HMS0.out HM.out).1.2,(impl_rooted.MS.below HMS0.out HM.out).2.1,(impl_rooted.MS.below HMS0.out HM.out).2.2⟩ (fun hHeld=>?_)
          clear hK K
          refine norm_ (a':=?_) ?_ ?_
          rotate_left
          · show Act.put _ (some 32) _ = _
            simp only [Act.put,zP_,i64_w]
            rfl
          refine pure_ (i:=15) (N:=some 33) (v:=?_) (a':=?_) #[zt,zt,zt,zt,zt,zt,zt,zt,zt,zt,zt,zt,zt,zt,zt,zt] rfl rfl (by kernel_rfl) (fun _ _ _ h=>h) (Or.inl ⟨by rfl,?_⟩) ?_ ?_
          rotate_left
          · intro w'
            go_simp
            with_reducible rfl
          rotate_left
          · simp only [Act.put,zP_,i64_w]
            rfl
          refine done_ (by kernel_rfl) ?_
          go_wp2
          go_meet
          case rel=>exact ⟨rfl,⟨by repeat (first|(with_reducible exact HM.out)|(with_reducible apply zD)|(with_reducible apply zB)|(with_reducible apply zC))⟩⟩
      case rest =>
        clear HM HMS0 hc1 hc2 hc3 hc4 HCS
        obtain ⟨rfl,HBc⟩:=hcut
        have HXc:=zA (zW HX.out HBc.out)
        have HYc:=zA (zW HY.out HBc.out)
        clear HX HY
        have HX:=HXc
        have HY:=HYc
        clear HXc HYc
        have HSZ2:=zA HBc.out.size
        have HOc:=zA (show impl_rooted.Out wc bo w0.heap.size (fun k=>(P k∨w.heap.size≤k)∧k < wr.heap.size) ms1 from HOm.out.step (HBc.out.block bo (Array.getElem?_eq_some_iff.1 HOm.out.choose_spec.1).1) (fun k _ hk=>HBc.out.block k hk))
        have HRc:=zA (Kd.R_below HRm.out HBc.out)
        have HFXc:=zA (show impl_rooted.Fix wc bl bg bi w0.heap.size h0 bo be e g fl from HFXm.out.step HCX.out (fun k hk _ _=>HBc.out.block k (by have:=HN.out;have:=HSZ.out;omega)))
        have HSLc:=zA (Kd.R_below HSLm.out HBc.out)
        have HFc:=zA (show impl_rooted.Ft w wc hc bo P from ⟨Nat.le_trans HFm.out.size HBc.out.size,fun k h1 h2 h3=>(HBc.out.block k (by have:=HN.out;have:=HSZ.out;omega)).trans (HFm.out.keep k h1 h2 h3)⟩)
        have HBBc:=zA (zR HBBm.out HBc.out)
        clear HOm HRm HFXm HSLm HFm HBBm
        cases bb with
        | false =>
          have hE:=HE2.out
          rw [HA1.out,if_neg (by simp),List.nil_append] at hE
          have HE3:=zA hE
          clear hE HE2 HA1
          go_wp2
          go_roundg d
          case measure=>omega
          case rel=>exact ⟨j+1,ms1,b2,by rw [HWJ.out],⟨by have:=HJ.out;omega,by have:=HJ.out;omega⟩,⟨by rw [show (j+1).toNat = j.toNat+1 by have:=HJ.out;omega];exact HTL.out,HE3.out⟩,⟨HOc.out.mono (fun k hk=>hk.1)⟩,HRc,HFXc,HSLc,HFc,HBBc⟩
        | true =>
          have hE:=HE2.out
          rw [HA1.out,if_pos rfl, ← List.append_assoc] at hE
          have HE3:=zA hE
          have HLEN:=zA (show ms1.length≤1000000 by
            have h1:=congrArg List.length hE
            have h2:=HG.out
            rw [← h1,List.length_append,List.length_append] at h2
            omega)
          clear hE HE2 HA1
          obtain ⟨vo,hvo,hso,hno⟩:=HOc.out
          obtain ⟨Av,cv,rfl⟩:=Kd.S_slice hso
          have hcv:wc.cell? ⟨bo,0,none⟩ = some (.slice Av ms1.length cv):=cell_of_row wc bo 0 _ _ _ hvo
          have HBL:=zA (Array.getElem?_eq_some_iff.1 hvo).1
          have HVc:=zA hvo
          have HOV:=zA hso
          have HNO:=zA hno
          clear hno
          have HBO:=zA (show ¬ (P bo∨w.heap.size≤bo) from fun h=>by
            have h5:=HCX.out.o
            rcases h with h4|h4
            · rcases (HP.out bo h4).2 with h6|h6 <;> omega
            · have:=HN.out;omega)
          have HCX_:=zA (show slices_Clone_int_int.f x = some x by unfold slices_Clone_int_int.f;rw [if_pos (by have:=HLN.out;omega)])
          have HCY_:=zA (show slices_Clone_int_int.f y = some y by unfold slices_Clone_int_int.f;rw [if_pos (by have:=HLN.out;omega)])
          have HN5:=zA (Below.refl wc.heap.size wc)
          have HWW:=zA (show w.heap.size≤wc.heap.size by have:=HSZ.out;have:=HSZ2.out;omega)
          clear hvo hso HOc
          go_upto_region 5 with (fail)
          refine start_ (n:=9) (S:=fun w'=>w'.cell? ⟨bo,0,none⟩ = some (.slice Av ms1.length cv)) (ds:=[8]) #[zf,zf,zf,zf,zf,zf,zf,zf,zf] (by kernel_rfl) rfl rfl (hcv) (fun hHeld=>?_)
          refine pure_ (i:=1) (N:=some 35) (v:=?_) (a':=?_) #[zf,zt,zf,zf,zf,zf,zf,zf,zf] rfl rfl (by kernel_rfl) (fun _ _ _ h=>h) (Or.inl ⟨by rfl,?_⟩) ?_ ?_
          rotate_left
          · intro w'
            go_simp
            with_reducible rfl
          rotate_left
          · simp only [Act.put,zP_,i64_w]
            rfl
          refine pure_ (i:=3) (N:=some 37) (v:=?_) (a':=?_) #[zf,zt,zf,zt,zf,zf,zf,zf,zf] rfl rfl (by kernel_rfl) (fun _ _ _ h=>h) (Or.inl ⟨by rfl,?_⟩) ?_ ?_
          rotate_left
          · intro w'
            go_simp
            with_reducible rfl
          rotate_left
          · simp only [Act.put,zP_,i64_w]
            rfl
          refine take_ (i:=0) (N:=some 34) (v:=?_) (a':=?_) #[zt,zt,zf,zt,zf,zf,zf,zf,zf] rfl rfl (by kernel_rfl) (fun _ _ _ h=>h) (Or.inl ⟨by rfl,?_⟩) hHeld ?_ ?_
          rotate_left
          · intro w' s0
            go_simp
            with_reducible rfl
          rotate_left
          · simp only [Act.put,zP_,i64_w]
            rfl
          refine one_ (i:=2) (N:=some 36) #[zt,zt,zt,zt,zf,zf,zf,zf,zf] rfl rfl (by kernel_rfl) (by decide) (fun K hK=>?_)
          refine goes_ Try.func50 (by kernel_rfl) rfl #[.slice A x.length c] (by rfl) rfl rfl (by simp only [zJ,zM,zN];rfl) ?_
          with_reducible refine (slices_Clone_int_int.calls A c x x _ ?s1 HXL.out HCX_.out).mono ?_
          (case s1=>exact (by repeat (first|(with_reducible exact HX.out)|apply zC_)))
          rintro e' wx ⟨vx,rfl,hr,hb⟩
          obtain ⟨Ax,cx,rfl⟩:=zg hr
          refine ⟨_,rfl,?_⟩
          have HRX:Aside0 (Kd.R (Kd.int .i64) 3 wx wc.heap.size (fun _=>True) (.slice Ax x.length cx) x):=⟨ze hr (Nat.le_refl _)⟩
          have HY2:Aside0 ((Kd.int .i64).C wx Ay y.length y):=⟨zW (by repeat (first|(with_reducible exact HY.out)|apply zC_)) hb⟩
          clear HY
          have HY:=HY2
          clear HY2
          have HN52:Aside0 (Below wc.heap.size wc wx):=⟨zR (by repeat (first|(with_reducible exact HN5.out)|(with_reducible apply zD)|(with_reducible apply zB)|(with_reducible apply zC))) hb⟩
          clear HN5
          have HN5:=HN52
          clear HN52 hr hb
          refine hK.out _ _ ((HN5.out.cell (zY _ _ hcv)).trans hcv) (fun hHeld=>?_)
          clear hK K
          refine norm_ (a':=?_) ?_ ?_
          rotate_left
          · show Act.put _ (some 36) _ = _
            simp only [Act.put,zP_,i64_w]
            rfl
          refine one_ (i:=4) (N:=some 38) #[zt,zt,zt,zt,zt,zf,zf,zf,zf] rfl rfl (by kernel_rfl) (by decide) (fun K hK=>?_)
          refine goes_ Try.func50 (by kernel_rfl) rfl #[.slice Ay y.length cy] (by rfl) rfl rfl (by simp only [zJ,zM,zN];rfl) ?_
          with_reducible refine (slices_Clone_int_int.calls Ay cy y y _ ?s1 HYL.out HCY_.out).mono ?_
          (case s1=>exact (by repeat (first|(with_reducible exact HY.out)|apply zC_)))
          rintro e' wy ⟨vy,rfl,hr,hb⟩
          obtain ⟨Az,cz,rfl⟩:=zg hr
          refine ⟨_,rfl,?_⟩
          have HSEP:=zA (show ∀ k,some k = (.slice Ax x.length cx:Value).ownBlock→some k≠(.slice Az y.length cz:Value).ownBlock from fun k h1 h2=>by
            have h3:=Kd.R_lt HRX.out k h1.symm
            have h4:wx.heap.size≤k:=zd hr k h2.symm
            omega)
          have HRY:Aside0 (Kd.R (Kd.int .i64) 3 wy wc.heap.size (fun _=>True) (.slice Az y.length cz) y):=⟨ze hr HN5.out.size⟩
          have HRX2:Aside0 (Kd.R (Kd.int .i64) 3 wy wc.heap.size (fun _=>True) (.slice Ax x.length cx) x):=⟨Kd.R_below (by (with_reducible repeat (first|exact HRX.out|apply Kd.R_alloc|apply Kd.R_drewN|apply Kd.R_drew))) hb⟩
          clear HRX
          have HRX:=HRX2
          clear HRX2
          have HN52:Aside0 (Below wc.heap.size wc wy):=⟨zR (by repeat (first|(with_reducible exact HN5.out)|(with_reducible apply zD)|(with_reducible apply zB)|(with_reducible apply zC))) hb⟩
          clear HN5
          have HN5:=HN52
          clear HN52 hr hb
          have HRX5:Aside0 (Kd.R (Kd.int .i64) 3 wy w0.heap.size (fun k=>wc.heap.size≤k) (.slice Ax x.length cx) x):=⟨ze (zV (Kd.R_bound HRX.out) (fun k hk=>hk.2.1)) HBBc.out.size⟩
          have HRY5:Aside0 (Kd.R (Kd.int .i64) 3 wy w0.heap.size (fun k=>wc.heap.size≤k) (.slice Az y.length cz) y):=⟨ze (zV (Kd.R_bound HRY.out) (fun k hk=>hk.2.1)) HBBc.out.size⟩
          have HO5:Aside0 (Kd.S impl_rooted.kS 33 wy w0.heap.size (fun k=>(P k∨w.heap.size≤k) ∧ ¬ wc.heap.size≤k) (.slice Av ms1.length cv) ms1):=⟨Kd.S_mono (Kd.S_below HOV.out HN5.out) (fun k hk=>⟨hk.1,by have:=HSZ.out;have:=HBc.out.size;have:=hk.2;omega⟩)⟩
          refine hK.out _ _ ((HN5.out.cell (zY _ _ hcv)).trans hcv) (fun hHeld=>?_)
          clear hK K
          refine norm_ (a':=?_) ?_ ?_
          rotate_left
          · show Act.put _ (some 38) _ = _
            simp only [Act.put,zP_,i64_w]
            rfl
          refine pure_ (i:=5) (N:=some 39) (v:=?_) (a':=?_) #[zt,zt,zt,zt,zt,zt,zf,zf,zf] rfl rfl (by kernel_rfl) (fun _ _ _ h=>h) (Or.inl ⟨by rfl,?_⟩) ?_ ?_
          rotate_left
          · intro w'
            go_simp
            with_reducible rfl
          rotate_left
          · simp only [Act.put,zP_,i64_w]
            rfl
          refine one_ (i:=6) (N:=some 40) #[zt,zt,zt,zt,zt,zt,zt,zf,zf] rfl rfl (by kernel_rfl) (by decide) (fun K hK=>?_)
          refine value_ (w1:=?_) (v:=?_) (by rfl) rfl ?_ ?_
          rotate_left 2
          · go_simp
            constructor
            · rfl
            · rfl
          refine hK.out _ _ ((show World.cell? (World.alloc _ _) _ = _ from (((zD (by repeat (first|(with_reducible exact HN5.out)|(with_reducible apply zD)|(with_reducible apply zB)|(with_reducible apply zC))) _:Below wc.heap.size wc _)).cell (zY _ _ hcv)).trans hcv)) (fun hHeld=>?_)
          clear hK K
          refine norm_ (a':=?_) ?_ ?_
          rotate_left
          · show Act.put _ (some 40) _ = _
            simp only [Act.put,zP_,i64_w]
            rfl
          refine one_ (i:=7) (N:=some 41) #[zt,zt,zt,zt,zt,zt,zt,zt,zf] rfl rfl (by kernel_rfl) (by decide) (fun K hK=>?_)
          refine Kd.S_append_step impl_rooted.kS (w0:=w0) w0.heap.size (by rfl) (.tmp 34) (.tmp 40) 27 33 (.agg #[.slice none 0 0,.slice none 0 0]) 48 (by rfl) Try.underlying27 info33 rfl (by decide) (by omega) (.slice Av ms1.length cv) ms1 ⟨x,y⟩ [.slice Ax x.length cx,.slice Az y.length cz] (fun k=>P k∨w.heap.size≤k) (fun k=>wc.heap.size≤k) (by rfl) (by rfl) ?aP ?aK ?aF ?aO ?aB ?aS ?aL ?_
          (case aP=>exact ⟨_,_,rfl,zV (Kd.R_tight2 rfl (by (with_reducible repeat (first|exact HRX5.out|apply Kd.R_alloc|apply Kd.R_drewN|apply Kd.R_drew)))) (fun k hk=>⟨hk.2,HSEP.out k hk.1⟩),zV (Kd.R_tight2 rfl (by (with_reducible repeat (first|exact HRY5.out|apply Kd.R_alloc|apply Kd.R_drewN|apply Kd.R_drew)))) (fun k hk=>⟨hk.2,fun e_=>HSEP.out k e_ hk.1⟩)⟩)
          (case aK=>exact fun k hk=>⟨.inr (by have:=HSZ.out;have:=HBc.out.size;omega),fun e_=>by have h1:=(HOV.out.choose_spec.1 k e_.symm).2;have:=HSZ.out;have:=HBc.out.size;omega⟩)
          (case aF=>exact fun k hk=>.inr (Nat.le_trans HWW.out (Nat.le_trans HN5.out.size hk)))
          (case aO=>exact (by (with_reducible repeat (first|exact HO5.out|apply Kd.S_alloc|apply Kd.S_drewN|apply Kd.S_drew))))
          (case aB=>exact (zR HBBc.out (by repeat (first|(with_reducible exact HN5.out)|(with_reducible apply zD)|(with_reducible apply zB)|(with_reducible apply zC)))))
          (case aS=>exact Nat.le_trans HBBc.out.size HN5.out.size)
          (case aL=>have:=HLEN.out;omega)
          intro v1 w7 ho hb hg hat
          obtain ⟨A1,c1,rfl⟩:=Kd.S_slice ho
          have HNN:=zA (show (.slice A1 (ms1 ++ [(⟨x,y⟩:S33)]).length c1:Value).ownBlock≠none from by rcases hat with h|⟨b,h,_⟩ <;> rw [h] <;> first|exact HNO.out|simp)
          have hk7:w7.heap[bo]? = some (.cells #[.slice Av ms1.length cv] 27 (0,0)):=(hg.block bo (Nat.lt_of_lt_of_le HBL.out HN5.out.size) (fun e_=>by have h1:=(HOV.out.choose_spec.1 bo e_.symm).1;exact HBO.out h1)).trans ((HN5.out.block bo HBL.out).trans HVc.out)
          have hc7:w7.cell? ⟨bo,0,none⟩ = some (.slice Av ms1.length cv):=cell_of_row w7 bo 0 _ _ _ hk7
          have hf7:w7.frozen? ⟨bo,0,none⟩ = false:=frozen_of_row w7 bo 0 _ _ hk7
          have HK7:=zA hk7
          have HO7:=zA ho
          have HB7:=zA hb
          have HG7:=zA hg
          clear ho hb hg hat hk7
          refine hK.out _ _ (hc7) (fun hHeld=>?_)
          clear hK K
          refine norm_ (a':=?_) ?_ ?_
          rotate_left
          · show Act.put _ (some 41) _ = _
            simp only [Act.put,zP_,i64_w]
            rfl
          refine last_ (i:=8) (N:=none) #[zt,zt,zt,zt,zt,zt,zt,zt,zt] rfl rfl (by kernel_rfl) (by decide) (fun K hK=>?_)
          refine skip_ (w1:=?_) (by rfl) rfl ?_ ?_
          rotate_left
          · go_simp
            rfl
          refine hK.out _ _ ?_
          clear hK K
          refine done_ (by kernel_rfl) ?_
          go_wp2
          have ho7:=HO7.out
          rw [show (ms1 ++ [(⟨x,y⟩:S33)]).length = ms1.length+1 by simp] at ho7
          have HO8:=zA ho7
          clear ho7
          have HKEEP:=zA (show ∀ k,k < wc.heap.size→k≠bo→some k≠(.slice Av ms1.length cv:Value).ownBlock→(w7.setCell ⟨bo,0,none⟩ (.slice A1 (ms1.length+1) c1)).heap[k]? = wc.heap[k]? from fun k hk h1 h2=>(heap_setCell_other w7 _ k _ h1).trans ((HG7.out.block k (Nat.lt_of_lt_of_le hk HN5.out.size) h2).trans (HN5.out.block k hk)))
          have HOWN:=zA (show ∀ k,k < h0→k≠be→some k≠(.slice Av ms1.length cv:Value).ownBlock from fun k hk h2 e_=>by
            rcases (HOV.out.choose_spec.1 k e_.symm).1 with h4|h4
            · rcases (HP.out k h4).2 with h6|h6 <;> omega
            · have:=HN.out;omega)
          go_roundg d
          case measure=>omega
          case rel =>
            refine ⟨j+1,ms1 ++ [⟨x,y⟩],b2,by rw [HWJ.out],⟨by have:=HJ.out;omega,by have:=HJ.out;omega⟩,⟨by rw [show (j+1).toNat = j.toNat+1 by have:=HJ.out;omega];exact HTL.out,HE3.out⟩,⟨?_⟩,⟨?_⟩,⟨?_⟩,⟨?_⟩,⟨?_⟩,⟨?_⟩⟩
            · exact ⟨_,heap_setCell_same w7 bo 0 _ _ _ HK7.out,Kd.S_far HO8.out (fun k hk (e_:k = bo)=>HBO.out (by rw [← e_];exact hk)) _,fun e_=>HNN.out (by rw [show (ms1 ++ [(⟨x,y⟩:S33)]).length = ms1.length+1 by simp];exact e_)⟩
            · exact Kd.R_step HRc.out (fun k hk hlt=>HKEEP.out k hlt (fun e_=>by have h5:=HCX.out.o;have:=HN.out;omega) (fun e_=>by
                have h1:=(HOV.out.choose_spec.1 k e_.symm).1
                rcases h1 with h4|h4
                · have:=(HP.out k h4).1;omega
                · omega))
            · exact HFXc.out.step HCX.out (fun k hk h1 h2=>HKEEP.out k (by have:=HN.out;have:=HWW.out;omega) h1 (HOWN.out k hk h2))
            · exact Kd.R_step HSLc.out (fun k hk hlt=>HKEEP.out k hlt hk.2.1 (HOWN.out k hk.1 hk.2.2))
            · refine ⟨Nat.le_trans HFc.out.size (Nat.le_trans (Nat.le_trans HN5.out.size HG7.out.size) (by simp)),fun k h1 h2 h3=>(HKEEP.out k (by have:=HN.out;have:=HWW.out;omega) h3 (fun e_=>?_)).trans (HFc.out.keep k h1 h2 h3)⟩
              rcases (HOV.out.choose_spec.1 k e_.symm).1 with h4|h4
              · exact h2 h4
              · have:=HN.out;omega
            · exact zF HB7.out HCX.out.o.2.1
theorem impl_rooted.three (w:World) (A B C:Obj):(((w.alloc A).alloc B).alloc C).heap[w.heap.size]? = some A∧(((w.alloc A).alloc B).alloc C).heap[w.heap.size+1]? = some B∧(((w.alloc A).alloc B).alloc C).heap[w.heap.size+1+1]? = some C∧(((w.alloc A).alloc B).alloc C).heap.size = w.heap.size+3 ∧ ∀ k,k < w.heap.size→(((w.alloc A).alloc B).alloc C).heap[k]? = w.heap[k]? := by
  show (((w.heap.push A).push B).push C)[w.heap.size]? = some A∧(((w.heap.push A).push B).push C)[w.heap.size+1]? = some B∧(((w.heap.push A).push B).push C)[w.heap.size+1+1]? = some C∧(((w.heap.push A).push B).push C).size = w.heap.size+3 ∧ ∀ k,k < w.heap.size→(((w.heap.push A).push B).push C)[k]? = w.heap[k]?
  have e1:(w.heap.push A).size = w.heap.size+1:=Array.size_push _
  have e2:((w.heap.push A).push B).size = w.heap.size+2:=by rw [Array.size_push,e1]
  refine ⟨?_,?_,?_,?_,fun k hk=>?_⟩
  · rw [Array.getElem?_push,if_neg (by omega),Array.getElem?_push,if_neg (by omega),Array.getElem?_push,if_pos rfl]
  · rw [Array.getElem?_push,if_neg (by omega),Array.getElem?_push,if_pos (by omega)]
  · rw [Array.getElem?_push,if_pos (by omega)]
  · rw [Array.size_push,e2]
  · rw [Array.getElem?_push,if_neg (by omega),Array.getElem?_push,if_neg (by omega),Array.getElem?_push,if_neg (by omega)]
set_option maxHeartbeats 16000000 in
set_option maxRecDepth 100000 in
theorem impl_rooted.perms (nI:Nat) (e g:Int) (fl:List (List Int)) (w w0:World) (bl bg bi bo be:Nat) (hn:1≤nI∧nI≤20) (hfl:fl.length≤1000)
    (hq:∀ x ∈ impl_rooted.pgen nI (nI+1) [],impl_rooted.Qt e g fl x) (hrow:(impl_rooted.all e g fl (impl_rooted.pgen nI (nI+1) [])).length≤1000000)
    (HF:impl_rooted.Fix w bl bg bi w0.heap.size w.heap.size bo be e g fl) (HO:impl_rooted.Out w bo w0.heap.size (fun k=>k = be) []) (hb:impl_rooted.Cx bl bg bi w0.heap.size w.heap.size bo be) (HB:Below w0.heap.size w0 w) :
    Calls Try.prog 68 #[.int .i64 (nI:Int),impl_rooted.TW bl bg bi bo] w fun e' w'=>e' = .returned (.tuple #[])∧impl_rooted.Out w' bo w0.heap.size (fun k=>k = be∨w.heap.size≤k) (impl_rooted.all e g fl (impl_rooted.pgen nI (nI+1) []))∧Below w0.heap.size w0 w':=by
  have HTRY:=zA (show ∀ wf:World,wf.heap[w.heap.size]? = some (.cells #[.int .i64 (nI:Int)] 3 (0,0))→wf.heap[w.heap.size+1]? = some (.cells #[impl_rooted.TW bl bg bi bo] 64 (0,0))→wf.heap[w.heap.size+1+1]? = some (.cells #[impl_rooted.PV w.heap.size (w.heap.size+1) (w.heap.size+1+1)] 64 (0,0))→wf.heap.size = w.heap.size+3→(∀ k,k < w.heap.size→wf.heap[k]? = w.heap[k]?)→Below w0.heap.size w0 wf →
      Calls Try.prog 90 #[.slice none 0 0,.pointer (some ⟨w.heap.size,0,none⟩),.pointer (some ⟨w.heap.size+1,0,none⟩),.pointer (some ⟨w.heap.size+1+1,0,none⟩)] wf fun e' w'=>e' = .returned (.tuple #[])∧impl_rooted.Out w' bo w0.heap.size (fun k=>k = be∨w.heap.size≤k) (impl_rooted.all e g fl (impl_rooted.pgen nI (nI+1) []))∧Below w0.heap.size w0 w' by
    intro wf h1 h2 h3 h4 h5 h6
    have hcx:impl_rooted.Cx bl bg bi w0.heap.size (w.heap.size+3) bo be:=by
      have a1:=hb.l;have a2:=hb.g;have a3:=hb.i;have a4:=hb.o
      exact ⟨⟨by omega,by omega⟩,⟨by omega,by omega⟩,⟨by omega,by omega⟩,⟨by omega,by omega,by omega,by omega,by omega,by omega⟩⟩
    have hbo:=hb.o
    have hfx:impl_rooted.Fix wf bl bg bi w0.heap.size (w.heap.size+3) bo be e g fl:=by
      obtain ⟨⟨v,hv,hs⟩,hg,hi⟩:=HF
      exact ⟨⟨v,(h5 bl hb.l.1).trans hv,Kd.S_mono (Kd.S_step hs (fun k hk _=>h5 k hk.1)) (fun k hk=>⟨by have:=hk.1;omega,hk.2⟩)⟩,(h5 bg hb.g.1).trans hg,(h5 bi hb.i.1).trans hi⟩
    refine (impl_rooted.ptry bl bg bi bo be (w.heap.size+3) e g fl w0 (impl_rooted.tell2 bl bg bi bo be (w.heap.size+3) e g fl w0 hcx hfl) w.heap.size (w.heap.size+1) (w.heap.size+1+1) nI hcx ⟨⟨by omega,by omega,by omega⟩,⟨by omega,by omega,by omega⟩,⟨by omega,by omega,by omega⟩⟩ hn.2 (nI+1) [] none 0 wf (w.heap.size+3) (fun k=>k = be) [] (by simp) (Nat.zero_le _) (by simpa using hrow) hq hfx ⟨h1,h2,h3⟩ (HO.step (h5 bo hbo.1) (fun k hk _=>h5 k (by rw [hk];exact hbo.2.2.2.2.1))) (fun k hk=>⟨by omega,.inl hk⟩) (Nat.le_refl _) (by omega) (Kd.R_nil _ _ _ _ _) h6).mono ?_
    rintro e' w' ⟨he,ho,hf,hb'⟩
    exact ⟨he,(by simpa using ho:impl_rooted.Out w' bo w0.heap.size (fun k=>k = be∨w.heap.size+3≤k) _).mono (fun k hk=>hk.imp id (fun h=>by omega)),hb'⟩)
  have HB0:=zA HB
  clear hn hfl hq hrow HF HO hb HB
  unfold impl_rooted.PV impl_rooted.TW at HTRY
  unfold impl_rooted.TW
  go_enter Try.func68,Try.ntmps68
  go_wp2_with (go_at_call 90;  refine (HTRY.out _ ?h1 ?h2 ?h3 ?h4 ?h5 ?h6).mono ?_;(case h1=>exact (impl_rooted.three w _ _ _).1);(case h2=>exact (impl_rooted.three w _ _ _).2.1);(case h3=>exact (impl_rooted.three w _ _ _).2.2.1);(case h4=>exact (impl_rooted.three w _ _ _).2.2.2.1);(case h5=>exact (impl_rooted.three w _ _ _).2.2.2.2);(case h6=>exact zD (zD (zD HB0.out _) _) _);rintro e' w' ⟨rfl,ho,hb'⟩;have HO1:=zA ho;have HB1:=zA hb';clear ho hb')
  go_end0
  exact ⟨rfl,HO1.out,HB1.out⟩
/-! the comparison, and the sort -/
def impl_rooted.lex:List Int→List Int→Int
  | [],[]=>0
  | [],_ :: _ => -1
  | _ :: _,[]=>1
  | a :: us,b :: vs=>if a < b then -1 else if b < a then 1 else impl_rooted.lex us vs
theorem impl_rooted.lex_range:∀ a b:List Int,impl_rooted.lex a b = -1∨impl_rooted.lex a b = 0∨impl_rooted.lex a b = 1
  | [],[]=>by simp [impl_rooted.lex]
  | [],_ :: _=>by simp [impl_rooted.lex]
  | _ :: _,[]=>by simp [impl_rooted.lex]
  | a :: us,b :: vs=>by
    simp only [impl_rooted.lex]
    split
    · exact .inl rfl
    · split
      · exact .inr (.inr rfl)
      · exact impl_rooted.lex_range us vs
theorem impl_rooted.lex_swap:∀ a b:List Int,impl_rooted.lex b a = - impl_rooted.lex a b
  | [],[]=>rfl
  | [],_ :: _=>rfl
  | _ :: _,[]=>rfl
  | a :: us,b :: vs=>by
    simp only [impl_rooted.lex]
    by_cases h1:a < b
    · rw [if_pos h1,if_neg (by omega),if_pos h1];rfl
    · by_cases h2:b < a
      · rw [if_pos h2,if_neg h1,if_pos h2]
      · rw [if_neg h1,if_neg h2,if_neg h2,if_neg h1];exact impl_rooted.lex_swap us vs
theorem impl_rooted.lex_zero:∀ a b:List Int,impl_rooted.lex a b = 0→a = b
  | [],[],_=>rfl
  | [],_ :: _,h=>by simp [impl_rooted.lex] at h
  | _ :: _,[],h=>by simp [impl_rooted.lex] at h
  | a :: us,b :: vs,h=>by
    simp only [impl_rooted.lex] at h
    by_cases h1:a < b
    · rw [if_pos h1] at h;omega
    · by_cases h2:b < a
      · rw [if_neg h1,if_pos h2] at h;omega
      · rw [if_neg h1,if_neg h2] at h
        rw [show a = b by omega,impl_rooted.lex_zero us vs h]
theorem impl_rooted.lex_self (a:List Int):impl_rooted.lex a a = 0:=by
  have:=impl_rooted.lex_swap a a
  omega
theorem impl_rooted.lex_trans:∀ a b c:List Int,impl_rooted.lex a b = -1→impl_rooted.lex b c = -1→impl_rooted.lex a c = -1
  | [],[],c,h1,h2=>h2
  | [],_ :: _,[],h1,h2=>by simp [impl_rooted.lex] at h2
  | [],_ :: _,_ :: _,h1,h2=>rfl
  | _ :: _,[],c,h1,h2=>by simp [impl_rooted.lex] at h1
  | _ :: _,_ :: _,[],h1,h2=>by simp [impl_rooted.lex] at h2
  | a :: us,b :: vs,c :: ws,h1,h2=>by
    simp only [impl_rooted.lex] at h1 h2 ⊢
    by_cases c1:a < b
    · by_cases c2:b < c
      · rw [if_pos (by omega)]
      · by_cases c3:c < b
        · rw [if_neg c2,if_pos c3] at h2;omega
        · rw [if_pos (by omega)]
    · by_cases c4:b < a
      · rw [if_neg c1,if_pos c4] at h1;omega
      · rw [if_neg c1,if_neg c4] at h1
        by_cases c2:b < c
        · rw [if_pos (by omega)]
        · by_cases c3:c < b
          · rw [if_neg c2,if_pos c3] at h2;omega
          · rw [if_neg c2,if_neg c3] at h2
            rw [if_neg (by omega),if_neg (by omega)]
            exact impl_rooted.lex_trans us vs ws h1 h2
def impl_rooted.cm (m n:S33):Int:=if impl_rooted.lex m.f0 n.f0 = 0 then impl_rooted.lex m.f1 n.f1 else impl_rooted.lex m.f0 n.f0
theorem impl_rooted.cm_range (m n:S33):impl_rooted.cm m n = -1∨impl_rooted.cm m n = 0∨impl_rooted.cm m n = 1:=by
  unfold impl_rooted.cm
  split
  · exact impl_rooted.lex_range _ _
  · exact impl_rooted.lex_range _ _
theorem impl_rooted.cm_swap (m n:S33):impl_rooted.cm n m = - impl_rooted.cm m n:=by
  unfold impl_rooted.cm
  rw [impl_rooted.lex_swap m.f0 n.f0]
  by_cases h:impl_rooted.lex m.f0 n.f0 = 0
  · rw [if_pos (by omega),if_pos h];exact impl_rooted.lex_swap _ _
  · rw [if_neg (by omega),if_neg h]
theorem impl_rooted.cm_zero (m n:S33) (h:impl_rooted.cm m n = 0):m = n:=by
  unfold impl_rooted.cm at h
  by_cases h0:impl_rooted.lex m.f0 n.f0 = 0
  · rw [if_pos h0] at h
    have e0:=impl_rooted.lex_zero _ _ h0
    have e1:=impl_rooted.lex_zero _ _ h
    cases m;cases n;simp only at e0 e1;rw [e0,e1]
  · rw [if_neg h0] at h;exact absurd h h0
theorem impl_rooted.cm_trans (a b c:S33) (h1:impl_rooted.cm a b = -1) (h2:impl_rooted.cm b c = -1):impl_rooted.cm a c = -1:=by
  unfold impl_rooted.cm at *
  by_cases c1:impl_rooted.lex a.f0 b.f0 = 0
  · rw [if_pos c1] at h1
    have e:=impl_rooted.lex_zero _ _ c1
    by_cases c2:impl_rooted.lex b.f0 c.f0 = 0
    · rw [if_pos c2] at h2
      rw [e,if_pos c2];exact impl_rooted.lex_trans _ _ _ h1 h2
    · rw [if_neg c2] at h2
      rw [e,if_neg c2];exact h2
  · rw [if_neg c1] at h1
    by_cases c2:impl_rooted.lex b.f0 c.f0 = 0
    · have e:=impl_rooted.lex_zero _ _ c2
      rw [← e,if_neg c1];exact h1
    · rw [if_neg c2] at h2
      have h:=impl_rooted.lex_trans _ _ _ h1 h2
      rw [if_neg (by omega)];exact h
theorem impl_rooted.cmp_ev (a b:List Int) (ha:a.length≤50):∀ (d k i:Nat),i+d = a.length→d < k→slices_Compare_int_int.l0 k a b a (a.length:Int) (i:Int) = some (impl_rooted.lex (a.drop i) (b.drop i)):=by
  intro d
  induction d with
  | zero =>
    intro k i h1 h2
    obtain ⟨k,rfl⟩:∃ m,k = m+1:=⟨k - 1,by omega⟩
    simp only [slices_Compare_int_int.l0]
    rw [if_neg (by omega),List.drop_eq_nil_of_le (by omega)]
    by_cases c:(a.length:Int) < (b.length:Int)
    · rw [if_pos c,List.drop_eq_getElem_cons (by omega)];rfl
    · rw [if_neg c,List.drop_eq_nil_of_le (by omega)];rfl
  | succ d ih =>
    intro k i h1 h2
    obtain ⟨k,rfl⟩:∃ m,k = m+1:=⟨k - 1,by omega⟩
    simp only [slices_Compare_int_int.l0]
    rw [if_pos (by omega),if_pos (by omega),if_pos (by omega),List.drop_eq_getElem_cons (by omega:i < a.length)]
    by_cases c:(i:Int) ≥ (b.length:Int)
    · rw [if_pos c,List.drop_eq_nil_of_le (by omega:b.length≤i)];rfl
    · rw [if_neg c,if_pos (by omega),List.drop_eq_getElem_cons (by omega:i < b.length)]
      have e1:rd a (i:Int) = a[i]:=by unfold rd;rw [Int.toNat_natCast,List.getD_eq_getElem?_getD,List.getElem?_eq_getElem (by omega)];rfl
      have e2:rd b (i:Int) = b[i]:=by unfold rd;rw [Int.toNat_natCast,List.getD_eq_getElem?_getD,List.getElem?_eq_getElem (by omega)];rfl
      rw [e1,e2]
      have e3:cmp_Compare_int.f a[i] b[i] = some (if a[i] < b[i] then -1 else if a[i] > b[i] then 1 else 0):=by
        simp only [cmp_Compare_int.f,cmp_isNaN_int.f,Option.bind_some,bne_self_eq_false]
        rw [if_neg (by simp),if_neg (by simp)]
        split
        · rfl
        · split <;> rfl
      rw [e3,Option.bind_some]
      simp only [impl_rooted.lex]
      by_cases c1:a[i] < b[i]
      · rw [if_pos c1,if_pos c1,if_neg (by omega)]
      · by_cases c2:b[i] < a[i]
        · rw [if_neg c1,if_pos c2,if_neg c1,if_pos c2,if_neg (by omega)]
        · rw [if_neg c1,if_neg c2,if_neg c1,if_neg c2,if_pos rfl,show wrap64 ((i:Int)+1) = ((i+1:Nat):Int) by unfold wrap64;omega]
          exact ih k (i+1) (by omega) (by omega)
theorem impl_rooted.cmp_some (a b:List Int) (ha:a.length≤40):slices_Compare_int_int.f 60 a b = some (impl_rooted.lex a b):=by
  have:=impl_rooted.cmp_ev a b (by omega) a.length 60 0 (by omega) (by omega)
  simpa [slices_Compare_int_int.f] using this
open Go.Sort in
theorem impl_rooted.gr1 (W:World) (o1 o2:Obj) (a:Nat):((W.alloc o1).alloc o2).drewN a = grow (W.drewN a) #[o1,o2]:=by
  rw [Go.Sort.alloc_eq_grow,Go.Sort.alloc_eq_grow,Go.Sort.grow_grow];rfl
set_option maxHeartbeats 1000000 in
set_option maxRecDepth 100000 in
open Go.Sort in
theorem impl_rooted.cmpc (m n:S33) (A0:Option Addr) (c0:Nat) (A1:Option Addr) (c1:Nat) (B0:Option Addr) (d0:Nat) (B1:Option Addr) (d1:Nat) (W:World)
    (g0:Kd.C (Kd.int .i64) W A0 m.f0.length m.f0) (l0:m.f0.length≤c0) (g1:Kd.C (Kd.int .i64) W A1 m.f1.length m.f1) (l1:m.f1.length≤c1) (h0:Kd.C (Kd.int .i64) W B0 n.f0.length n.f0) (k0:n.f0.length≤d0) (h1:Kd.C (Kd.int .i64) W B1 n.f1.length n.f1) (k1:n.f1.length≤d1)
    (hm:m.f0.length≤40∧m.f1.length≤40) :
    Calls Try.prog 62 #[.agg #[.slice A0 m.f0.length c0,.slice A1 m.f1.length c1],.agg #[.slice B0 n.f0.length d0,.slice B1 n.f1.length d1]] W fun e' w'=>e' = .returned (.int .i64 (impl_rooted.cm m n)) ∧ ∃ q os',w' = grow (W.drewN q) os':=by
  have HC0:=zA (impl_rooted.cmp_some m.f0 n.f0 hm.1)
  have HC1:=zA (impl_rooted.cmp_some m.f1 n.f1 hm.2)
  have HG:=zA (And.intro g0 (And.intro g1 (And.intro h0 h1)))
  have HL:=zA (And.intro l0 (And.intro l1 (And.intro k0 k1)))
  obtain ⟨r0,hr0⟩:∃ r,r = impl_rooted.lex m.f0 n.f0:=⟨_,rfl⟩
  obtain ⟨r1,hr1⟩:∃ r,r = impl_rooted.lex m.f1 n.f1:=⟨_,rfl⟩
  rw [← hr0] at HC0
  rw [← hr1] at HC1
  have HR:=zA (show impl_rooted.cm m n = if r0 = 0 then r1 else r0 by unfold impl_rooted.cm;rw [hr0,hr1])
  clear hr0 hr1 g0 g1 h0 h1 l0 l1 k0 k1 hm
  by_cases hz:r0 = 0
  · subst hz
    have HRR:=zA (show impl_rooted.cm m n = r1 by rw [HR.out,if_pos rfl])
    clear HR
    go_enter Try.func62,Try.ntmps62
    go_wp2_with (first|(go_at_call 87;(with_reducible refine (slices_Compare_int_int.calls 60 A0 c0 m.f0 B0 d0 n.f0 0 _ ?s1 HL.out.1 ?s2 HL.out.2.2.1 HC0.out).mono ?_);(case s1=>exact Kd.C_alloc (Kd.C_alloc HG.out.1 _) _);(case s2=>exact Kd.C_alloc (Kd.C_alloc HG.out.2.2.1 _) _);rintro e' w' ⟨rfl,⟨nd,rfl⟩⟩)|(go_at_call 87;(with_reducible refine (slices_Compare_int_int.calls 60 A1 c1 m.f1 B1 d1 n.f1 r1 _ ?s1 HL.out.2.1 ?s2 HL.out.2.2.2 HC1.out).mono ?_);(case s1=>exact Kd.C_drewN (Kd.C_alloc (Kd.C_alloc HG.out.2.1 _) _) _);(case s2=>exact Kd.C_drewN (Kd.C_alloc (Kd.C_alloc HG.out.2.2.2 _) _) _);rintro e' w' ⟨rfl,⟨nd2,rfl⟩⟩))
    go_ret
    exact ⟨by rw [HRR.out];rfl,_,_,impl_rooted.gr1 _ _ _ _⟩
  · have hz1:(r0 != 0) = true:=bne_iff_ne.mpr hz
    have hz2:(r0 == 0) = false:=beq_eq_false_iff_ne.mpr hz
    have HRR:=zA (show impl_rooted.cm m n = r0 by rw [HR.out,if_neg hz])
    clear hz HR
    go_enter Try.func62,Try.ntmps62
    go_wp2_with (go_at_call 87;(with_reducible refine (slices_Compare_int_int.calls 60 A0 c0 m.f0 B0 d0 n.f0 r0 _ ?s1 HL.out.1 ?s2 HL.out.2.2.1 HC0.out).mono ?_);(case s1=>exact Kd.C_alloc (Kd.C_alloc HG.out.1 _) _);(case s2=>exact Kd.C_alloc (Kd.C_alloc HG.out.2.2.1 _) _);rintro e' w' ⟨rfl,⟨nd,rfl⟩⟩)
    go_ret
    exact ⟨by rw [HRR.out];rfl,_,_,impl_rooted.gr1 _ _ _ _⟩
/-- in order, none twice -/
def impl_rooted.asc:List S33→Bool
  | []=>true
  | [_]=>true
  | a :: b :: t=>(impl_rooted.cm a b == -1) && impl_rooted.asc (b :: t)
theorem impl_rooted.asc_pair:∀ l:List S33,impl_rooted.asc l = true→l.Pairwise (fun a b=>impl_rooted.cm a b = -1)
  | [],_=>List.Pairwise.nil
  | [a],_=>List.pairwise_singleton _ _
  | a :: b :: t,h=>by
    simp only [impl_rooted.asc,Bool.and_eq_true,beq_iff_eq] at h
    have ih:=impl_rooted.asc_pair (b :: t) h.2
    refine List.Pairwise.cons (fun x hx=>?_) ih
    rcases List.mem_cons.1 hx with e|hx
    · rw [e];exact h.1
    · exact impl_rooted.cm_trans a b x h.1 ((List.pairwise_cons.1 ih).1 x hx)
def impl_rooted.dat (ms:List S33) (i:Nat):S33:=ms.getD i ⟨[],[]⟩
theorem impl_rooted.dat_lt (ms:List S33) (i:Nat) (h:i < ms.length):impl_rooted.dat ms i = ms[i]:=by
  unfold impl_rooted.dat
  rw [List.getD_eq_getElem?_getD,List.getElem?_eq_getElem h,Option.getD_some]
open Go.Sort in
theorem impl_rooted.swo (ms:List S33):SWO (ltOf fun i j:Nat=>impl_rooted.cm (impl_rooted.dat ms i) (impl_rooted.dat ms j)) where
  irrefl x:=by
    have:=impl_rooted.cm_swap (impl_rooted.dat ms x) (impl_rooted.dat ms x)
    simp only [ltOf];exact zP (by omega)
  trans x y z h1 h2:=by
    simp only [ltOf,decide_eq_true_eq] at *
    have a1:=impl_rooted.cm_range (impl_rooted.dat ms x) (impl_rooted.dat ms y)
    have a2:=impl_rooted.cm_range (impl_rooted.dat ms y) (impl_rooted.dat ms z)
    have:=impl_rooted.cm_trans (impl_rooted.dat ms x) (impl_rooted.dat ms y) (impl_rooted.dat ms z) (by omega) (by omega)
    omega
  ntrans x y z h1 h2:=by
    simp only [ltOf,decide_eq_false_iff_not] at *
    have a1:=impl_rooted.cm_range (impl_rooted.dat ms x) (impl_rooted.dat ms y)
    have a2:=impl_rooted.cm_range (impl_rooted.dat ms y) (impl_rooted.dat ms z)
    have s1:=impl_rooted.cm_swap (impl_rooted.dat ms x) (impl_rooted.dat ms y)
    have s2:=impl_rooted.cm_swap (impl_rooted.dat ms y) (impl_rooted.dat ms z)
    have s3:=impl_rooted.cm_swap (impl_rooted.dat ms x) (impl_rooted.dat ms z)
    by_cases e1:impl_rooted.cm (impl_rooted.dat ms x) (impl_rooted.dat ms y) = 0
    · rw [impl_rooted.cm_zero _ _ e1];omega
    · by_cases e2:impl_rooted.cm (impl_rooted.dat ms y) (impl_rooted.dat ms z) = 0
      · rw [← impl_rooted.cm_zero _ _ e2];omega
      · have:=impl_rooted.cm_trans (impl_rooted.dat ms z) (impl_rooted.dat ms y) (impl_rooted.dat ms x) (by omega) (by omega)
        omega
open Go.Sort in
/-- what lay in order lies as it lay -/
theorem impl_rooted.sorted_same (ms:List S33) (h:impl_rooted.asc ms = true) (d':Array Nat) (hp:PermIn 0 (Array.range ms.length).size (Array.range ms.length) d') (hs:SortedIn (ltOf fun i j:Nat=>impl_rooted.cm (impl_rooted.dat ms i) (impl_rooted.dat ms j)) 0 (Array.range ms.length).size d'):d' = Array.range ms.length:=by
  have hn:(Array.range ms.length).size = ms.length:=Array.size_range
  rw [hn] at hp hs
  obtain ⟨h1,_,h3⟩:=hp
  rw [hn] at h1
  have e1:d'.extract 0 ms.length = d':=by rw [← h1];exact Array.extract_size
  have e2:(Array.range ms.length).extract 0 ms.length = Array.range ms.length:=by rw [← hn];simp
  rw [e1,e2] at h3
  have hpw:=List.pairwise_iff_getElem.1 (impl_rooted.asc_pair ms h)
  have hmem:∀ x ∈ d'.toList,x < ms.length:=fun x hx=>by
    have:=h3.mem_iff.1 hx
    rw [Array.toList_range] at this
    simpa using this
  have key:d'.toList = (Array.range ms.length).toList:=by
    refine List.Perm.eq_of_pairwise (le:=fun a b=>a≤b) (fun a b _ _ p q=>Nat.le_antisymm p q) ?_ ?_ h3
    · refine List.pairwise_iff_getElem.2 (fun i j hi hj hij=>?_)
      refine Nat.le_of_not_lt (fun hlt=>?_)
      have hsz:d'.toList.length = ms.length:=by simpa using h1
      have h5:=hs i j (Nat.zero_le _) hij (by omega)
      have b1:=hmem _ (List.getElem_mem hi)
      have b2:=hmem _ (List.getElem_mem hj)
      have g1:d'[i]! = d'.toList[i]:=by rw [getElem!_pos d' i (by simpa using hi)];simp
      have g2:d'[j]! = d'.toList[j]:=by rw [getElem!_pos d' j (by simpa using hj)];simp
      rw [g1,g2] at h5
      have h6:=hpw _ _ b2 b1 hlt
      have d1:=impl_rooted.dat_lt ms _ b2
      have d2:=impl_rooted.dat_lt ms _ b1
      simp only [ltOf,decide_eq_false_iff_not] at h5
      rw [d1,d2,h6] at h5
      omega
    · simp only [Array.toList_range]
      exact List.pairwise_le_range
  exact Array.toList_inj.1 key
open Go.Sort in
theorem impl_rooted.far (enc:Nat→List Value) (w:World) (blk m:Nat) (dk:Array Nat) (os:Array Obj) (k:Nat) (hk:k≠blk) (hlt:k < w.heap.size):(sortWorldK enc 2 w blk 0 m dk os).heap[k]? = w.heap[k]? := by
  show ((w.heap.modify blk _) ++ os)[k]? = _
  rw [Array.getElem?_append_left (by simpa using hlt),Array.getElem?_modify,if_neg (Ne.symm hk)]
set_option maxHeartbeats 1000000 in
set_option maxRecDepth 100000 in
open Go.Sort Go.Shelf Go.Lib in
theorem impl_rooted.sortc (ms:List S33) (hasc:impl_rooted.asc ms = true) (hlen:∀ i,i < ms.length→(impl_rooted.dat ms i).f0.length≤40∧(impl_rooted.dat ms i).f1.length≤40) (hn:ms.length≤1000000) (w:World) (base:Nat) (P:Nat→Prop) (ad:Addr) (c:Nat)
    (HS:Kd.S impl_rooted.kS 33 w base P (.slice (some ad) ms.length c) ms) :
    Calls Try.prog 72 #[.slice (some ad) ms.length c,.func (.func 62) #[] #[]] w fun e' w'=>e' = .returned (.tuple #[])∧Below w.heap.size w w':=by
  obtain ⟨blk,rfl⟩:=Kd.R_head (Kd.S_R HS)
  have hblk:blk < w.heap.size:=Kd.S_lt HS blk (by simp [Value.ownBlock])
  obtain ⟨cells,hcells⟩:=Kd.S_typed HS blk (by simp [Value.ownBlock])
  have hel:∀ i:Nat, ∃ vs:List Value,(∃ A0 c0 A1 c1,vs = [.slice A0 (impl_rooted.dat ms i).f0.length c0,.slice A1 (impl_rooted.dat ms i).f1.length c1]∧((impl_rooted.dat ms i).f0.length≤c0∧(impl_rooted.dat ms i).f1.length≤c1) ∧ ∀ W:World,(∀ k,k≠blk→k < w.heap.size→W.heap[k]? = w.heap[k]?)→Kd.C (Kd.int .i64) W A0 (impl_rooted.dat ms i).f0.length (impl_rooted.dat ms i).f0∧Kd.C (Kd.int .i64) W A1 (impl_rooted.dat ms i).f1.length (impl_rooted.dat ms i).f1)∧(i < ms.length → ∀ j u,vs[j]? = some u→w.cell? ⟨blk,i * 2+j,none⟩ = some u):=by
    intro i
    by_cases hi:i < ms.length
    · obtain ⟨cs_,hcl,hM,hcc⟩:=Kd.S_get HS ⟨[],[]⟩ (i:Int) (by omega) (by omega)
      rw [Int.toNat_natCast,show ms.getD i ⟨[],[]⟩ = impl_rooted.dat ms i from rfl] at hM
      obtain ⟨v0,v1,rfl,r0',r1'⟩:=hM
      have r0:=zV r0' (fun _ h=>h.1)
      have r1:=zV r1' (fun _ h=>h.1)
      obtain ⟨A0,c0,rfl⟩:=zg r0
      obtain ⟨A1,c1,rfl⟩:=zg r1
      refine ⟨_,⟨A0,c0,A1,c1,rfl,⟨(zU r0).2.1,(zU r1).2.1⟩,fun W hW=>⟨(zU (Kd.R_step r0 (fun k hk hlt=>hW k (fun e=>hk.2 (by rw [e];simp [Value.ownBlock])) hlt))).2.2,(zU (Kd.R_step r1 (fun k hk hlt=>hW k (fun e=>hk.2 (by rw [e];simp [Value.ownBlock])) hlt))).2.2⟩⟩,fun _ j u hu=>?_⟩
      have h:=hcc j u hu
      rw [Int.toNat_natCast] at h
      have e:(Addr.add ⟨blk,0,none⟩ (i * impl_rooted.kS.sz+j):Addr) = ⟨blk,i * 2+j,none⟩:=by
        rw [add_at,Nat.zero_add];rfl
      rw [e] at h
      exact h
    · have e:impl_rooted.dat ms i = ⟨[],[]⟩:=by unfold impl_rooted.dat;rw [List.getD_eq_getElem?_getD,List.getElem?_eq_none (by omega)];rfl
      rw [e]
      exact ⟨_,⟨none,0,none,0,rfl,⟨Nat.le_refl _,Nat.le_refl _⟩,fun W _=>⟨Kd.C_nil _ W,Kd.C_nil _ W⟩⟩,fun h=>absurd h hi⟩
  obtain ⟨enc,henc⟩:=Classical.axiomOfChoice hel
  have hk2:∀ x,(enc x).length = 2:=fun x=>by obtain ⟨⟨A0,c0,A1,c1,e,_⟩,_⟩:=henc x;rw [e];rfl
  have hone:∀ x, ∀ v ∈ enc x,v.oneCell' = true:=fun x v hv=>by
    obtain ⟨⟨A0,c0,A1,c1,e,_⟩,_⟩:=henc x
    rw [e] at hv
    rcases List.mem_cons.1 hv with rfl|hv
    · rfl
    · rcases List.mem_cons.1 hv with rfl|hv
      · rfl
      · cases hv
  have hsize:(Array.range ms.length).size = ms.length:=Array.size_range
  have hH:HoldsK enc 2 w blk 0 (Array.range ms.length):=by
    intro j hj
    have hj2:j < (Array.range ms.length).size * 2:=by simpa using hj
    rw [get_flatK _ _ _ _ hj2,Nat.zero_add]
    rw [hsize] at hj2
    have hd:j / 2 < ms.length:=by omega
    have e1:(Array.range ms.length)[j / 2]! = j / 2:=by rw [getElem!_pos _ _ (by rw [hsize];exact hd)];simp
    rw [e1]
    refine ⟨?_,frozen_of_row w blk j _ _ hcells⟩
    have h:=(henc (j / 2)).2 hd (j % 2) ((enc (j / 2))[j % 2]!) (by
      have hm:j % 2 < (enc (j / 2)).length:=by rw [hk2];omega
      rw [List.getElem?_eq_getElem hm,getElem!_pos (enc (j / 2)) (j % 2) hm])
    rw [show j / 2 * 2+j % 2 = j by omega] at h
    exact h
  have hcmp:CmpLays Try.prog 62 #[] enc 2 (fun i j:Nat=>impl_rooted.cm (impl_rooted.dat ms i) (impl_rooted.dat ms j)) blk 0 (Array.range ms.length).size w:=by
    intro m os dk _ x y
    obtain ⟨⟨A0,c0,A1,c1,ex,⟨lx0,lx1⟩,hx⟩,_⟩:=henc x
    obtain ⟨⟨B0,d0,B1,d1,ey,⟨ly0,ly1⟩,hy⟩,_⟩:=henc y
    rw [ex,ey]
    have hW:∀ k,k≠blk→k < w.heap.size→(sortWorldK enc 2 w blk 0 m dk os).heap[k]? = w.heap[k]? := fun k h1 h2=>impl_rooted.far enc w blk m dk os k h1 h2
    have hl:(impl_rooted.dat ms x).f0.length≤40∧(impl_rooted.dat ms x).f1.length≤40:=by
      by_cases h:x < ms.length
      · exact hlen x h
      · have e:impl_rooted.dat ms x = ⟨[],[]⟩:=by unfold impl_rooted.dat;rw [List.getD_eq_getElem?_getD,List.getElem?_eq_none (by omega)];rfl
        rw [e];exact ⟨Nat.zero_le _,Nat.zero_le _⟩
    exact impl_rooted.cmpc (impl_rooted.dat ms x) (impl_rooted.dat ms y) A0 c0 A1 c1 B0 d0 B1 d1 _ (hx _ hW).1 lx0 (hx _ hW).2 lx1 (hy _ hW).1 ly0 (hy _ hW).2 ly1 hl
  have eg:∀ args w,(callFunc 62 args).run Try.prog w = .ok (.enter 62 args) w:=enters_of Try.func62 (by kernel_rfl) rfl
  have hcon:=AnyQ.slices_SortFunc impl_rooted.lays 2 Try.isAgg33 Try.sizeOf33 enc hk2 hone (fun i j:Nat=>impl_rooted.cm (impl_rooted.dat ms i) (impl_rooted.dat ms j)) (impl_rooted.swo ms) 62 #[] blk 0 c (Array.range ms.length) w eg hcmp hH hblk (by rw [hsize];omega)
  change Calls Try.prog 72 _ _ _ at hcon
  have hcon2:Calls Try.prog 72 #[.slice (some ⟨blk,0,none⟩) (Array.range ms.length).size c,.func (.func 62) #[] #[]] w fun e' w'=>e' = .returned (.tuple #[])∧Below w.heap.size w w':=by
    refine hcon.mono ?_
    rintro e' w' ⟨he,d',m,os,hp,hs,rfl⟩
    have hd:=impl_rooted.sorted_same ms hasc d' hp hs
    rw [hd]
    refine ⟨he,?_⟩
    unfold sortWorldK
    rw [putRowK_self enc 2 _ blk 0 _ (holdsK_ahead enc 2 w m blk 0 _ hH)]
    exact ⟨rfl,rfl,rfl,by show w.heap.size≤(w.heap ++ os).size;simp,fun k hk=>by show (w.heap ++ os)[k]? = _;rw [Array.getElem?_append_left hk]⟩
  rw [hsize] at hcon2
  exact hcon2
/-! rooted -/
def impl_rooted.coll (e g:Int) (fl:List (List Int)):List (List Int)→Option (List S33)
  | []=>some []
  | x :: xs=>(impl_rooted.tl e g x fl).bind fun a=>(impl_rooted.coll e g fl xs).bind fun b=>some (a ++ b)
theorem impl_rooted.coll_all (e g:Int) (fl:List (List Int)):∀ (ps:List (List Int)) (ms:List S33),impl_rooted.coll e g fl ps = some ms→(∀ x ∈ ps,impl_rooted.Qt e g fl x)∧impl_rooted.all e g fl ps = ms
  | [],ms,h=>by
    obtain rfl:=zS h
    exact ⟨fun x hx=>(by cases hx),rfl⟩
  | x :: xs,ms,h=>by
    simp only [impl_rooted.coll] at h
    obtain ⟨a,ha,h⟩:=zz0 h
    obtain ⟨b,hb,h⟩:=zz0 h
    obtain rfl:=zS h
    obtain ⟨h1,h2⟩:=impl_rooted.coll_all e g fl xs b hb
    refine ⟨fun y hy=>?_,?_⟩
    · rcases List.mem_cons.1 hy with rfl|hy
      · unfold impl_rooted.Qt;rw [ha];rfl
      · exact h1 y hy
    · have e1:impl_rooted.all e g fl (x :: xs) = impl_rooted.tD e g fl x ++ impl_rooted.all e g fl xs:=List.flatMap_cons
      rw [e1,h2]
      unfold impl_rooted.tD
      rw [ha];rfl
def impl_rooted.short (m:S33):Bool:=decide (m.f0.length≤40) && decide (m.f1.length≤40)
def impl_rooted.f (a0:Int) (a1:Int):Option (List S33):=if a0 < 1 then none else if 3 < a0 then none else (impl_rooted.gen 12 (List.replicate (2 * a0).toNat (-1))).bind fun fl=>if fl.length≤1000 then ((impl_rooted.coll a0 a1 fl (impl_rooted.pgen (2 * a0).toNat ((2 * a0).toNat+1) [])).bind fun ms=>if ms.length≤1000000 then (if impl_rooted.asc ms = true then (if ms.all impl_rooted.short = true then some ms else none) else none) else none) else none
theorem impl_rooted.four (w:World) (A B C D:Obj):((((w.alloc A).alloc B).alloc C).alloc D).heap[w.heap.size]? = some A∧((((w.alloc A).alloc B).alloc C).alloc D).heap[w.heap.size+1]? = some B∧((((w.alloc A).alloc B).alloc C).alloc D).heap[w.heap.size+1+1]? = some C∧((((w.alloc A).alloc B).alloc C).alloc D).heap[w.heap.size+1+1+1]? = some D∧((((w.alloc A).alloc B).alloc C).alloc D).heap.size = w.heap.size+4:=by
  have h:=impl_rooted.three w A B C
  have hs:(((w.alloc A).alloc B).alloc C).heap.size = w.heap.size+3:=h.2.2.2.1
  have old:∀ k,k < w.heap.size+3→((((w.alloc A).alloc B).alloc C).alloc D).heap[k]? = (((w.alloc A).alloc B).alloc C).heap[k]? := fun k hk=>by
    show (((((w.alloc A).alloc B).alloc C).heap).push D)[k]? = _
    rw [Array.getElem?_push,if_neg (by omega)]
  refine ⟨(old _ (by omega)).trans h.1,(old _ (by omega)).trans h.2.1,(old _ (by omega)).trans h.2.2.1,?_,?_⟩
  · show (((((w.alloc A).alloc B).alloc C).heap).push D)[w.heap.size+1+1+1]? = some D
    rw [Array.getElem?_push,if_pos (by omega)]
  · show (((((w.alloc A).alloc B).alloc C).heap).push D).size = _
    rw [Array.size_push,hs]
theorem impl_rooted.none_ (W:World) (base gq:Nat) (P:Nat→Prop) (h:W.heap[gq]? = some (.cells #[] 31 (0,0))) (hb:base≤gq) (hp:P gq):Kd.S (Kd.slice 3 (Kd.int .i64)) 31 W base P (.slice (some ⟨gq,0,none⟩) 0 0) [] :=
  ⟨fun _=>0,fun k hk=>by (have e:gq = k:=by simpa [Value.ownBlock] using hk);exact e ▸ hp,[],⟨by simp,.inr ⟨gq,0,#[],rfl,hb,h,Nat.le_refl _,Nat.zero_le _,by simp,by simp⟩⟩,Reps.none _ _⟩
theorem impl_rooted.nonem (W:World) (base gq:Nat) (P:Nat→Prop) (h:W.heap[gq]? = some (.cells #[] 33 (0,0))) (hb:base≤gq) (hp:P gq):Kd.S impl_rooted.kS 33 W base P (.slice (some ⟨gq,0,none⟩) 0 0) [] :=
  ⟨fun _=>0,fun k hk=>by (have e:gq = k:=by simpa [Value.ownBlock] using hk);exact e ▸ hp,[],⟨by simp,.inr ⟨gq,0,#[],rfl,hb,h,Nat.le_refl _,Nat.zero_le _,by simp,by simp⟩⟩,Reps.none _ _⟩
set_option maxHeartbeats 16000000 in
set_option maxRecDepth 100000 in
set_option maxHeartbeats 16000000 in
set_option maxRecDepth 100000 in
theorem impl_rooted.callsS (a0:Int) (a1:Int) (r:List (S33)) (w:World) (h:impl_rooted.f a0 a1 = some r) :
    Calls Try.prog 42 #[.int .i64 a0,.int .i64 a1] w fun e w' => ∃ v0_:Value,e = .returned (v0_)∧Kd.S impl_rooted.kS 33 w' w.heap.size (fun _=>True) v0_ r∧Below w.heap.size w w':=by
  unfold impl_rooted.f at h
  by_cases c1:a0 < 1
  · rw [if_pos c1] at h;cases h
  rw [if_neg c1] at h
  by_cases c2:3 < a0
  · rw [if_pos c2] at h;cases h
  rw [if_neg c2] at h
  obtain ⟨fl,hfl,h⟩:=zz0 h
  by_cases c3:¬ (fl.length≤1000)
  · rw [if_neg c3] at h;cases h
  rw [if_pos (Classical.not_not.mp c3)] at h
  obtain ⟨ms,hms,h⟩:=zz0 h
  by_cases c4:¬ (ms.length≤1000000)
  · rw [if_neg c4] at h;cases h
  rw [if_pos (Classical.not_not.mp c4)] at h
  by_cases c5:¬ (impl_rooted.asc ms = true)
  · rw [if_neg c5] at h;cases h
  rw [if_pos (Classical.not_not.mp c5)] at h
  by_cases c6:¬ (ms.all impl_rooted.short = true)
  · rw [if_neg c6] at h;cases h
  rw [if_pos (Classical.not_not.mp c6)] at h
  obtain rfl:ms = r:=zS h
  have HA:=zA (show 1≤a0∧a0≤3 by omega)
  have HFL:=zA (show impl_rooted.gen 12 (List.replicate (2 * a0).toNat (-1)) = some fl∧fl.length≤1000 from ⟨hfl,Classical.not_not.mp c3⟩)
  have HMS:=zA (impl_rooted.coll_all a0 a1 fl _ ms hms)
  have HLN:=zA (Classical.not_not.mp c4)
  have HAS:=zA (Classical.not_not.mp c5)
  have HSH:=zA (show ∀ i,i < ms.length→(impl_rooted.dat ms i).f0.length≤40∧(impl_rooted.dat ms i).f1.length≤40 from fun i hi=>by
    have h1:=List.all_eq_true.1 (Classical.not_not.mp c6) (impl_rooted.dat ms i) (by rw [impl_rooted.dat_lt ms i hi];exact List.getElem_mem hi)
    simpa [impl_rooted.short] using h1)
  have HB:=zA (Below.refl w.heap.size w)
  have HW:=zA (show wrap64 (2 * a0) = (((2 * a0).toNat:Nat):Int) by have:=HA.out;unfold wrap64;omega)
  clear h c1 c2 c3 c4 c5 c6 hfl hms
  go_enter Try.func42,Try.ntmps42
  go_upto_region 2 with (fail)
  generalize hw4:World.alloc (World.alloc (World.alloc (World.alloc w _) _) _) _ = W4
  have F4:=zA (show W4.heap[w.heap.size]? = some (.cells #[.int .i64 a0] 3 (0,0))∧W4.heap[w.heap.size+1]? = some (.cells #[.int .i64 a1] 3 (0,0))∧W4.heap[w.heap.size+1+1]? = some (.cells #[] 31 (0,0))∧W4.heap[w.heap.size+1+1+1]? = some (.cells #[.slice (some ⟨w.heap.size+1+1,0,none⟩) 0 0] 55 (0,0))∧W4.heap.size = w.heap.size+4 by rw [← hw4];exact impl_rooted.four w _ _ _ _)
  have B4:=zA (show Below w.heap.size w W4 by rw [← hw4];exact zD (zD (zD (zD HB.out _) _) _) _)
  clear hw4 HB
  have hce:W4.cell? ⟨w.heap.size,0,none⟩ = some (.int .i64 a0):=cell_of_row W4 _ 0 _ _ _ F4.out.1
  go_upto_region 3 with (go_at_call 66;rw [HW.out];refine (impl_rooted.flips (2 * a0).toNat fl W4 w (w.heap.size+1+1+1) (w.heap.size+1+1+1) (w.heap.size+1+1) 0 (by have:=HA.out;omega) HFL.out.1 (by have:=HFL.out.2;omega) (fun _ _=>trivial) (fun h0 _=>⟨by omega,_,F4.out.2.2.2.1,impl_rooted.none_ _ _ _ _ F4.out.2.2.1 (by omega) (.inl rfl)⟩) (by rw [F4.out.2.2.2.2];omega) (by omega) B4.out).mono ?_;rintro e w1 ⟨rfl,h0,hh0,⟨hne,v1,hv1,hs1⟩,hk,hsz,hb1⟩;have HV1:=zA hv1;have HS1:=zA hs1;have HB1:=zA hb1;have HK1:=zA hk;have HZ1:=zA hsz;clear hh0 hne hs1 hb1 hk hsz hv1)
  go_upto_region 4 with (fail)
  generalize hw6:World.alloc (World.alloc w1 _) _ = W6
  have B6:=zA (show Below w1.heap.size w1 W6 by rw [← hw6];exact zD (zD (Below.refl _ _) _) _)
  have F6:=zA (show W6.heap[w1.heap.size]? = some (.cells #[] 33 (0,0))∧W6.heap[w1.heap.size+1]? = some (.cells #[.slice (some ⟨w1.heap.size,0,none⟩) 0 0] 27 (0,0))∧W6.heap.size = w1.heap.size+2 by rw [← hw6];exact impl_rooted.two w1 _ _)
  clear hw6
  have H1:=zA (show w.heap.size+4≤w1.heap.size by have h1:=F4.out.2.2.2.2;have h2:=HZ1.out;omega)
  have E6:=zA (show W6.heap[w.heap.size]? = some (.cells #[.int .i64 a0] 3 (0,0))∧W6.heap[w.heap.size+1]? = some (.cells #[.int .i64 a1] 3 (0,0))∧W6.heap[w.heap.size+1+1+1]? = some (.cells #[v1] 55 (0,0)) from
    ⟨(B6.out.block _ (by have:=H1.out;omega)).trans ((HK1.out _ (by rw [F4.out.2.2.2.2];omega) (by omega) (by omega)).trans F4.out.1),(B6.out.block _ (by have:=H1.out;omega)).trans ((HK1.out _ (by rw [F4.out.2.2.2.2];omega) (by omega) (by omega)).trans F4.out.2.1),(B6.out.block _ (by have:=H1.out;omega)).trans HV1.out⟩)
  have BB6:=zA (zR HB1.out B6.out)
  have CX:=zA (show impl_rooted.Cx (w.heap.size+1+1+1) (w.heap.size+1) w.heap.size w.heap.size W6.heap.size (w1.heap.size+1) w1.heap.size from by
    have h1:=H1.out;have h2:=F6.out.2.2
    exact ⟨⟨by omega,by omega,by omega⟩,⟨by omega,by omega,by omega⟩,⟨by omega,by omega,by omega⟩,⟨by omega,by omega,by omega,by omega,by omega,by omega⟩⟩)
  have FX:=zA (show impl_rooted.Fix W6 (w.heap.size+1+1+1) (w.heap.size+1) w.heap.size w.heap.size W6.heap.size (w1.heap.size+1) w1.heap.size a0 a1 fl from
    ⟨⟨v1,E6.out.2.2,Kd.S_below (Kd.S_mono (Kd.S_bound HS1.out) (fun k hk=>⟨by have:=hk.2.2.1;have:=F6.out.2.2;omega,by have:=hk.2.2.1;omega,by have:=hk.2.2.1;omega⟩)) B6.out⟩,E6.out.2.1,E6.out.1⟩)
  have OX:=zA (show impl_rooted.Out W6 (w1.heap.size+1) w.heap.size (fun k=>k = w1.heap.size) [] from
    ⟨_,F6.out.2.1,impl_rooted.nonem W6 w.heap.size w1.heap.size _ F6.out.1 (by have:=H1.out;omega) rfl,by simp [Value.ownBlock]⟩)
  have HPM:=zA (show Calls Try.prog 68 #[.int .i64 (((2 * a0).toNat:Nat):Int),impl_rooted.TW (w.heap.size+1+1+1) (w.heap.size+1) w.heap.size (w1.heap.size+1)] W6 fun e' w'=>e' = .returned (.tuple #[])∧impl_rooted.Out w' (w1.heap.size+1) w.heap.size (fun k=>k = w1.heap.size∨W6.heap.size≤k) ms∧Below w.heap.size w w' by
    have h1:=impl_rooted.perms (2 * a0).toNat a0 a1 fl W6 w (w.heap.size+1+1+1) (w.heap.size+1) w.heap.size (w1.heap.size+1) w1.heap.size (by have:=HA.out;omega) HFL.out.2 HMS.out.1 (by rw [HMS.out.2];exact HLN.out) FX.out OX.out CX.out BB6.out
    rw [HMS.out.2] at h1
    exact h1)
  unfold impl_rooted.TW at HPM
  have hce6:W6.cell? ⟨w.heap.size,0,none⟩ = some (.int .i64 a0):=cell_of_row W6 _ 0 _ _ _ E6.out.1
  clear HK1 HZ1 HV1 HS1 HB1 B6 F6 E6 BB6 CX FX OX F4 B4
  go_upto_region 5 with (go_at_call 68;rw [HW.out];refine HPM.out.mono ?_;rintro e w7 ⟨rfl,ho,hb⟩;have HO7:=zA ho;have HB7:=zA hb;clear ho hb)
  clear hce6 HPM
  obtain ⟨v7,hv7,hs7,hn7⟩:=HO7.out
  obtain ⟨A7,c7,rfl⟩:=Kd.S_slice hs7
  obtain ⟨ad7,rfl⟩:∃ ad,A7 = some ad:=by
    cases A7 with
    | none=>simp [Value.ownBlock] at hn7
    | some ad=>exact ⟨ad,rfl⟩
  have hc7:w7.cell? ⟨w1.heap.size+1,0,none⟩ = some (.slice (some ad7) ms.length c7):=cell_of_row w7 _ 0 _ _ _ hv7
  have HV7:=zA hv7
  have HS7:=zA hs7
  have HSRT:=zA (impl_rooted.sortc ms HAS.out HSH.out HLN.out w7 w.heap.size _ ad7 c7 hs7)
  clear hv7 hs7 hn7 HO7
  go_upto_region 6 with (go_at_call 72;refine HSRT.out.mono ?_;rintro e w8 ⟨rfl,hb⟩;have HB8:=zA hb;have hc8:w8.cell? ⟨w1.heap.size+1,0,none⟩ = some (.slice (some ad7) ms.length c7):=(hb.cell (zY _ _ hc7)).trans hc7;clear hb)
  clear HSRT hc7
  go_wp2
  go_ret
  exact ⟨_,rfl,Kd.S_mono (Kd.S_below HS7.out HB8.out) (fun _ _=>trivial),zR HB7.out HB8.out⟩
set_option maxHeartbeats 8000000 in
set_option maxRecDepth 100000 in
theorem impl_rooted.calls (a0:Int) (a1:Int) (r:List (S33)) (w:World) (h:impl_rooted.f a0 a1 = some r) :
    Calls Try.prog 42 #[.int .i64 a0,.int .i64 a1] w fun e w' => ∃ v0_:Value,e = .returned (v0_)∧Kd.S k33 33 w' w.heap.size (fun _=>True) v0_ r∧Below w.heap.size w w':=by
  exact (impl_rooted.callsS a0 a1 r w h).mono fun e w' ⟨v,he,hs,hb⟩=>⟨v,he,impl_rooted.kS_S hs,hb⟩

/-! ### impl_RootedCount: function 16 -/
def impl_RootedCount.f (a0:Int) (a1:Int):Option (Int):=if a0 < 1 then (some (-1)) else (if a0 > 3 then (some (-1)) else (if a1 < 0 then (some (-1)) else ((impl_rooted.f a0 a1).bind fun t205=>(some (t205.length:Int)))))
set_option maxHeartbeats 8000000 in
set_option maxRecDepth 100000 in
theorem impl_RootedCount.calls (a0:Int) (a1:Int) (r:Int) (w:World) (h:impl_RootedCount.f a0 a1 = some r) :
  Calls Try.prog 16 #[.int .i64 a0,.int .i64 a1] w fun e w'=>e = .returned (.int .i64 r)∧Below w.heap.size w w':=by
 have HB:=zA (Below.refl w.heap.size w)
 have H:(if a0 < 1 then (some (-1)) else (if a0 > 3 then (some (-1)) else (if a1 < 0 then (some (-1)) else ((impl_rooted.f a0 a1).bind fun t205=>(some (t205.length:Int)))))) = some r:=h
 clear h
 by_cases c3:a0 < 1
 ·rw [if_pos c3] at H
  have c3b0:decide (a0 < 1) = true:=zO c3
  clear c3
  obtain rfl:=zS H
  go_enter Try.func16,Try.ntmps16
  go_wp2
  go_ret
  exact ⟨by first|rfl|(simp [errW_none,errW_some] <;> rfl)|(simp [*,errW_none,errW_some] <;> rfl),by exact zB_ HB.out⟩
 ·rw [if_neg c3] at H
  have c3b0:decide (a0 < 1) = false:=zP c3
  clear c3
  by_cases c4:a0 > 3
  ·rw [if_pos c4] at H
   have c4b0:decide (3 < a0) = true:=zO c4
   clear c4
   obtain rfl:=zS H
   go_enter Try.func16,Try.ntmps16
   go_wp2
   go_ret
   exact ⟨by first|rfl|(simp [errW_none,errW_some] <;> rfl)|(simp [*,errW_none,errW_some] <;> rfl),by exact zB_ HB.out⟩
  ·rw [if_neg c4] at H
   have c4b0:decide (3 < a0) = false:=zP c4
   clear c4
   by_cases c5:a1 < 0
   ·rw [if_pos c5] at H
    have c5b0:decide (a1 < 0) = true:=zO c5
    clear c5
    obtain rfl:=zS H
    go_enter Try.func16,Try.ntmps16
    go_wp2
    go_ret
    exact ⟨by first|rfl|(simp [errW_none,errW_some] <;> rfl)|(simp [*,errW_none,errW_some] <;> rfl),by exact zB_ HB.out⟩
   ·rw [if_neg c5] at H
    have c5b0:decide (a1 < 0) = false:=zP c5
    clear c5
    replace H:=zz0 H
    obtain ⟨t205,A60,H⟩:=H
    try dsimp only at H
    have A6:=zA A60
    clear A60
    obtain rfl:=zS H
    go_enter Try.func16,Try.ntmps16
    go_wp2_with (first|((with_reducible refine gate_callee (f:=42) rfl ?_);refine goesL_ (some 17) rfl rfl Try.func42 (by kernel_rfl) rfl #[.int .i64 a0,.int .i64 a1] rfl (by (try simp only [zJ,zM,zN]);first|done|rfl|(simp only [zL,zK];rfl)) ?_;(with_reducible refine (impl_rooted.calls a0 a1 t205 _ A6.out).mono ?_);rintro e w7 ⟨v206,rfl,ho0,hb⟩;refine ⟨_,rfl,?_⟩;have n0_:=zA (Kd.S_lower ho0 (zQ (by exact zB_ HB.out)));have n1_:=zA (zR (by exact zB_ HB.out) hb);clear HB;have HO207:=n0_;have HB:=n1_;clear n0_ n1_;(try clear hb);(try clear hb2);(try clear hk);(try clear hi);(try clear ho0);obtain ⟨Ao8,co8,eo8⟩:=Kd.S_slice HO207.out;subst eo8))
    go_ret
    exact ⟨by first|rfl|(simp [errW_none,errW_some] <;> rfl)|(simp [*,errW_none,errW_some] <;> rfl),by exact zB_ HB.out⟩

end Go.Proofs.Ytdaiohcgdpclnaa.Q
