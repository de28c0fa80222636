import Derived.Test.YtdaiohcgdpclnaaWApart
import Derived.Test.YtdaiohcgdpclnaaWArr
import Derived.Test.YtdaiohcgdpclnaaWAt
import Derived.Test.YtdaiohcgdpclnaaWEqStruct
import Derived.Test.YtdaiohcgdpclnaaWFoot
import Derived.Test.YtdaiohcgdpclnaaWFootNe
import Derived.Test.YtdaiohcgdpclnaaWFour
import Derived.Test.YtdaiohcgdpclnaaWGuard
import Derived.Test.YtdaiohcgdpclnaaWInv
import Derived.Test.YtdaiohcgdpclnaaWInvWords
import Derived.Test.YtdaiohcgdpclnaaWKept
import Derived.Test.YtdaiohcgdpclnaaWLast
import Derived.Test.YtdaiohcgdpclnaaWMore
import Derived.Test.YtdaiohcgdpclnaaWN
import Derived.Test.YtdaiohcgdpclnaaWNEv
import Derived.Test.YtdaiohcgdpclnaaWQPut
import Derived.Test.YtdaiohcgdpclnaaWRepsOne
import Derived.Test.YtdaiohcgdpclnaaWShare
import Derived.Test.YtdaiohcgdpclnaaWSized
import Derived.Test.YtdaiohcgdpclnaaWTab
import Derived.Test.YtdaiohcgdpclnaaWWords
import Derived.Test.YtdaiohcgdpclnaaWZeros
/- Short names for lemmas that the printed walks name often. -/
set_option linter.defProp false
namespace Go.Proofs.YtdaiohcgdpclnaaW.PrintWords
open Go.RowKit Go.Proofs.YtdaiohcgdpclnaaW.PrintLast Go.Proofs.YtdaiohcgdpclnaaW.PrintMore
def zA := @Aside0.mk
def zB := @pw_below_drewN
def zC := @below_drew1
def zD := @below_alloc
def zE := @List.setIfInBounds_toArray
def zF := @of_decide_eq_true
def zG := @List.set_cons_zero
def zH := @List.set_cons_succ
def zI := @below_set
def zJ := @Kd.R_drewN
def zK := @Kd.R_alloc
def zL := @Kd.R_drew
def zM := @blk_drewN
def zN := @blk_alloc
def zO := @blk_drew
def zP := @List.map_toArray
def zQ := @List.length_take
def zR := @List.length_drop
def zS := @List.map_cons
def zT := @List.map_nil
def zU := @decide_eq_true
def zV := @decide_eq_false
def zW := @Kd.C_alloc
def zX := @Kd.C_drewN
def zY := @Kd.C_drew
def zZ := @below_size
def za := @below_step
def zb := @Option.some.inj
def zc := @blk_cell
def zd := @Kd.R_reads'
def ze := @Kd.R_mono
def zf := @Kd.C_below
def zg := @blk_below
def zh := @Kd.V_drew
def zi := @Kd.V_alloc
def zj := @Kd.V_drewN
def zk := @World.block_lt_of_cell?
def zl := @blk_frozen
def zm := @LeO.none
def zn := @LeO.bind
def zo := @LeO.ite
def zp := @Kd.R_base
def zq := @Kd.R_lower
def zr := @Kd.R_slice
def zs := @Kd.R_new'
def zt := @Kd.R_far
def zu := @Kd.R_below
def zv := @Kd.V_reads'
theorem zz0 {α β : Type} {x : Option α} {f : α → Option β} {b : β} (h : x.bind f = some b) : ∃ a, x = some a ∧ f a = some b := Option.bind_eq_some_iff.mp h
end Go.Proofs.YtdaiohcgdpclnaaW.PrintWords
