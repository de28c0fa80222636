import Derived.Test.YtdaiohcgdpclnaaWApart
import Derived.Test.YtdaiohcgdpclnaaWArr
import Derived.Test.YtdaiohcgdpclnaaWAt
import Derived.Test.YtdaiohcgdpclnaaWEqStruct
import Derived.Test.YtdaiohcgdpclnaaWFoot
import Derived.Test.YtdaiohcgdpclnaaWFootNe
import Derived.Test.YtdaiohcgdpclnaaWFour
import Derived.Test.YtdaiohcgdpclnaaWGuard
import Derived.Test.YtdaiohcgdpclnaaWInv
import Derived.Test.YtdaiohcgdpclnaaWInvWords
import Derived.Test.YtdaiohcgdpclnaaWKept
import Derived.Test.YtdaiohcgdpclnaaWLast
import Derived.Test.YtdaiohcgdpclnaaWMore
import Derived.Test.YtdaiohcgdpclnaaWN
import Derived.Test.YtdaiohcgdpclnaaWNEv
import Derived.Test.YtdaiohcgdpclnaaWQPut
import Derived.Test.YtdaiohcgdpclnaaWRepsOne
import Derived.Test.YtdaiohcgdpclnaaWShare
import Derived.Test.YtdaiohcgdpclnaaWSized
import Derived.Test.YtdaiohcgdpclnaaWTab
import Derived.Test.YtdaiohcgdpclnaaWWords
import Derived.Test.YtdaiohcgdpclnaaWZeros
/- Short names for lemmas that the printed walks name often. -/
set_option linter.defProp false
namespace Go.Proofs.YtdaiohcgdpclnaaW.PrintWords
open Go.RowKit Go.Proofs.YtdaiohcgdpclnaaW.PrintLast Go.Proofs.YtdaiohcgdpclnaaW.PrintMore
def zA := @Aside0.mk
def zB := @pw_below_drewN
def zC := @below_drew1
def zD := @below_alloc
def zE := @of_decide_eq_true
def zF := @below_set
def zG := @blk_drewN
def zH := @blk_alloc
def zI := @blk_drew
def zJ := @List.map_toArray
def zK := @List.length_take
def zL := @List.length_drop
def zM := @List.map_cons
def zN := @List.map_nil
def zO := @decide_eq_true
def zP := @decide_eq_false
def zQ := @below_size
def zR := @below_step
def zS := @Option.some.inj
def zT := @blk_cell
def zU := @Kd.R_reads'
def zV := @Kd.R_mono
def zW := @Kd.C_below
def zX := @blk_below
def zY := @World.block_lt_of_cell?
def zZ := @blk_frozen
def za := @LeO.none
def zb := @LeO.bind
def zc := @LeO.ite
def zd := @Kd.R_base
def ze := @Kd.R_lower
def zg := @Kd.R_slice
theorem zz0 {α β : Type} {x : Option α} {f : α → Option β} {b : β} (h : x.bind f = some b) : ∃ a, x = some a ∧ f a = some b := Option.bind_eq_some_iff.mp h
theorem zS_ {α β : Type} {x : α} {f : α → Option β} {b : Option β} (h : (some x).bind f = b) : f x = b := h
abbrev zt : Bool := true
abbrev zf : Bool := false
/-- a world, and one in which something has been made or drawn since -/
class zkW (W : outParam World) (W' : World) : Prop where
  out : Below W.heap.size W W'
instance (priority := low) zkW0 (W : World) : zkW W W := ⟨Below.refl _ _⟩
instance zkW1 (W W' : World) (o : Obj) [c : zkW W W'] : zkW W (W'.alloc o) := ⟨c.out.alloc c.out.size o⟩
instance zkW2 (W W' : World) (n : Nat) [c : zkW W W'] : zkW W (W'.drewN n) := ⟨pw_below_drewN c.out n⟩
instance zkW3 (W W' : World) [c : zkW W W'] : zkW W W'.drew := ⟨below_drew1 c.out⟩
/-- something has been -/
class zkX (W : outParam World) (W' : World) : Prop where
  out : Below W.heap.size W W'
instance zkX1 (W W' : World) (o : Obj) [c : zkW W W'] : zkX W (W'.alloc o) := ⟨c.out.alloc c.out.size o⟩
instance zkX2 (W W' : World) (n : Nat) [c : zkW W W'] : zkX W (W'.drewN n) := ⟨pw_below_drewN c.out n⟩
instance zkX3 (W W' : World) [c : zkW W W'] : zkX W W'.drew := ⟨below_drew1 c.out⟩
theorem zB_ {w W W' : World} [c : zkW W W'] (h : Below w.heap.size w W) : Below w.heap.size w W' := below_step h c.out
theorem zC_ {α : Type} {d : Kd α} {W W' : World} {A : Option Addr} {n : Nat} {xs : List α} [c : zkX W W'] (h : d.C W A n xs) : d.C W' A n xs := Kd.C_below h c.out
theorem zR_ {α : Type} {d : Kd α} {W W' : World} {e base : Nat} {ok : Nat → Prop} {v : Value} {xs : List α} [c : zkW W W'] (h : d.R e W base ok v xs) : d.R e W' base ok v xs := Kd.R_below h c.out
theorem zV_ {α : Type} {d : Kd α} {W W' : World} {e base : Nat} {ok : Nat → Prop} {v : Value} {xs : List α} [c : zkW W W'] (h : Kd.V d e W base ok v xs) : Kd.V d e W' base ok v xs := Kd.V_below h c.out
theorem zN_ {α : Type} {d : Kd α} {W W' : World} {e base : Nat} {ok : Nat → Prop} {v : Value} {xs : List α} [c : zkW W W'] (h : Kd.N d e W base ok v xs) : Kd.N d e W' base ok v xs := Kd.N_below h c.out
theorem zP_ : (∀ {α : Type} (l : List α) (i : Nat) (a : α), l.toArray.setIfInBounds i a = (l.set i a).toArray) ∧ (∀ {α : Type} (a b : α) (l : List α), (a :: l).set 0 b = b :: l) ∧ ∀ {α : Type} (a b : α) (l : List α) (i : Nat), (a :: l).set (i + 1) b = a :: l.set i b := ⟨fun l i a => by simp, fun _ _ _ => rfl, fun _ _ _ _ => rfl⟩
end Go.Proofs.YtdaiohcgdpclnaaW.PrintWords
