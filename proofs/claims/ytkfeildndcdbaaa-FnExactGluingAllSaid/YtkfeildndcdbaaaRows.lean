/-
  No cell of these rows narrows 'for every input' (looked for: loops, veiled, ifaces, maps, wideKeys, modest, calm, conditions, laid).
  DERIVED. THE GIVEN ROWS OF THIS SEAT. 12 by the template 'for every input the law returns true; each argument reads behind the call as it read before'; 0 by the template 'total and deterministic' (their statements: YtkfeildndcdbaaaTotals.lean).
  GIVEN WITH THE SEED: the statements are not yours to turn. If you find one false, say at which input.
  Laid BY PROGRAM, IN A SANDBOX (cutbox-rows.mjs): the forced cells as the released guide's own fill.sh prints them over the translation 1d8b892012eabcc0… (all of the seat's roots in one cut). By AI agents, Wed Nov 11 2026. No macro, syntax, notation, axiom, sorry.
-/
import Derived.Test.YtkfeildndcdbaaaChecked
import GoSem.Claim
import GoSem.ClaimJoined
import GoSem.ClaimMapViews
import Derived.JoinedTies
import Derived.KernelRfl
namespace Go.Proofs.Ytkfeildndcdbaaa
/- THE CELL 'sum', in the pinned program and in every row, IS THE sha256 OF THE DUMP (.gsa) THAT YtkfeildndcdbaaaProg.lean LOADS. Nothing in Lean hashes anything: it is a label: what it is worth is what the hold of that sum in a sandbox is worth. -/
noncomputable def Try.pinned : Pinned := { name := "ytkfeildndcdbaaa", sum := "1d8b892012eabcc0c6fb40cf91c98f7e40bf8c3d07df5b3b27141808115331ca", checked := Try.checked }
namespace Rows
def none {H : Type} : Left H := { results := [], args := [] }

/-- 'laws.FnExactPartsAll': WHATEVER THE INPUT: true; the input reads as it did. -/
def fnExactPartsAllSpec : ChangeSpec := { name := "fnExactPartsAll", fn := fun _ => fun
  | [d] => { results := [.lit (.bool true)], args := [d] }
  | _ => none }
def fnExactPartsAllRow : OpenClaim := { program := "ytkfeildndcdbaaa", sum := "1d8b892012eabcc0c6fb40cf91c98f7e40bf8c3d07df5b3b27141808115331ca", func := "loop.example/surfacemaps/laws.FnExactPartsAll", spec := "fnExactPartsAll", unfollowed := true, recurses := true, apart := false }
def FnExactPartsAllSaid : Prop := fnExactPartsAllRow.holds Try.pinned (OpenSpec.ofChange fnExactPartsAllSpec)

/-- ITS FALSE NEIGHBOUR: 'it returns false'. Refute it at one input. -/
def fnExactPartsAllWrong : ChangeSpec := { name := "fnExactPartsAll", fn := fun _ => fun
  | [d] => { results := [.lit (.bool false)], args := [d] }
  | _ => none }
def FnExactPartsAllWrongFalsely : Prop := fnExactPartsAllRow.holds Try.pinned (OpenSpec.ofChange fnExactPartsAllWrong)

/-- 'laws.FnExactGluingAll': WHATEVER THE INPUT: true; the input reads as it did. -/
def fnExactGluingAllSpec : ChangeSpec := { name := "fnExactGluingAll", fn := fun _ => fun
  | [d] => { results := [.lit (.bool true)], args := [d] }
  | _ => none }
def fnExactGluingAllRow : OpenClaim := { program := "ytkfeildndcdbaaa", sum := "1d8b892012eabcc0c6fb40cf91c98f7e40bf8c3d07df5b3b27141808115331ca", func := "loop.example/surfacemaps/laws.FnExactGluingAll", spec := "fnExactGluingAll", unfollowed := true, recurses := true, apart := false }
def FnExactGluingAllSaid : Prop := fnExactGluingAllRow.holds Try.pinned (OpenSpec.ofChange fnExactGluingAllSpec)

/-- ITS FALSE NEIGHBOUR: 'it returns false'. Refute it at one input. -/
def fnExactGluingAllWrong : ChangeSpec := { name := "fnExactGluingAll", fn := fun _ => fun
  | [d] => { results := [.lit (.bool false)], args := [d] }
  | _ => none }
def FnExactGluingAllWrongFalsely : Prop := fnExactGluingAllRow.holds Try.pinned (OpenSpec.ofChange fnExactGluingAllWrong)

/-- 'laws.FnExactGluingCount': WHATEVER THE INPUT: true; the input reads as it did. -/
def fnExactGluingCountSpec : ChangeSpec := { name := "fnExactGluingCount", fn := fun _ => fun
  | [d1, d2] => { results := [.lit (.bool true)], args := [d1, d2] }
  | _ => none }
def fnExactGluingCountRow : OpenClaim := { program := "ytkfeildndcdbaaa", sum := "1d8b892012eabcc0c6fb40cf91c98f7e40bf8c3d07df5b3b27141808115331ca", func := "loop.example/surfacemaps/laws.FnExactGluingCount", spec := "fnExactGluingCount", unfollowed := true, recurses := true, apart := false }
def FnExactGluingCountSaid : Prop := fnExactGluingCountRow.holds Try.pinned (OpenSpec.ofChange fnExactGluingCountSpec)

/-- ITS FALSE NEIGHBOUR: 'it returns false'. Refute it at one input. -/
def fnExactGluingCountWrong : ChangeSpec := { name := "fnExactGluingCount", fn := fun _ => fun
  | [d1, d2] => { results := [.lit (.bool false)], args := [d1, d2] }
  | _ => none }
def FnExactGluingCountWrongFalsely : Prop := fnExactGluingCountRow.holds Try.pinned (OpenSpec.ofChange fnExactGluingCountWrong)

/-- 'laws.FnGluingAll': WHATEVER THE INPUT: true; the input reads as it did. -/
def fnGluingAllSpec : ChangeSpec := { name := "fnGluingAll", fn := fun _ => fun
  | [d] => { results := [.lit (.bool true)], args := [d] }
  | _ => none }
def fnGluingAllRow : OpenClaim := { program := "ytkfeildndcdbaaa", sum := "1d8b892012eabcc0c6fb40cf91c98f7e40bf8c3d07df5b3b27141808115331ca", func := "loop.example/surfacemaps/laws.FnGluingAll", spec := "fnGluingAll", unfollowed := true, recurses := true, apart := false }
def FnGluingAllSaid : Prop := fnGluingAllRow.holds Try.pinned (OpenSpec.ofChange fnGluingAllSpec)

/-- ITS FALSE NEIGHBOUR: 'it returns false'. Refute it at one input. -/
def fnGluingAllWrong : ChangeSpec := { name := "fnGluingAll", fn := fun _ => fun
  | [d] => { results := [.lit (.bool false)], args := [d] }
  | _ => none }
def FnGluingAllWrongFalsely : Prop := fnGluingAllRow.holds Try.pinned (OpenSpec.ofChange fnGluingAllWrong)

/-- 'laws.FnPartsAll': WHATEVER THE INPUT: true; the input reads as it did. -/
def fnPartsAllSpec : ChangeSpec := { name := "fnPartsAll", fn := fun _ => fun
  | [d] => { results := [.lit (.bool true)], args := [d] }
  | _ => none }
def fnPartsAllRow : OpenClaim := { program := "ytkfeildndcdbaaa", sum := "1d8b892012eabcc0c6fb40cf91c98f7e40bf8c3d07df5b3b27141808115331ca", func := "loop.example/surfacemaps/laws.FnPartsAll", spec := "fnPartsAll", unfollowed := true, recurses := true, apart := false }
def FnPartsAllSaid : Prop := fnPartsAllRow.holds Try.pinned (OpenSpec.ofChange fnPartsAllSpec)

/-- ITS FALSE NEIGHBOUR: 'it returns false'. Refute it at one input. -/
def fnPartsAllWrong : ChangeSpec := { name := "fnPartsAll", fn := fun _ => fun
  | [d] => { results := [.lit (.bool false)], args := [d] }
  | _ => none }
def FnPartsAllWrongFalsely : Prop := fnPartsAllRow.holds Try.pinned (OpenSpec.ofChange fnPartsAllWrong)

/-- 'laws.FnGluingCount': WHATEVER THE INPUT: true; the input reads as it did. -/
def fnGluingCountSpec : ChangeSpec := { name := "fnGluingCount", fn := fun _ => fun
  | [d] => { results := [.lit (.bool true)], args := [d] }
  | _ => none }
def fnGluingCountRow : OpenClaim := { program := "ytkfeildndcdbaaa", sum := "1d8b892012eabcc0c6fb40cf91c98f7e40bf8c3d07df5b3b27141808115331ca", func := "loop.example/surfacemaps/laws.FnGluingCount", spec := "fnGluingCount", unfollowed := true, recurses := true, apart := false }
def FnGluingCountSaid : Prop := fnGluingCountRow.holds Try.pinned (OpenSpec.ofChange fnGluingCountSpec)

/-- ITS FALSE NEIGHBOUR: 'it returns false'. Refute it at one input. -/
def fnGluingCountWrong : ChangeSpec := { name := "fnGluingCount", fn := fun _ => fun
  | [d] => { results := [.lit (.bool false)], args := [d] }
  | _ => none }
def FnGluingCountWrongFalsely : Prop := fnGluingCountRow.holds Try.pinned (OpenSpec.ofChange fnGluingCountWrong)

/-- 'laws.FnTreesOfSwaps': WHATEVER THE INPUT: true; the input reads as it did. -/
def fnTreesOfSwapsSpec : ChangeSpec := { name := "fnTreesOfSwaps", fn := fun _ => fun
  | [d] => { results := [.lit (.bool true)], args := [d] }
  | _ => none }
def fnTreesOfSwapsRow : OpenClaim := { program := "ytkfeildndcdbaaa", sum := "1d8b892012eabcc0c6fb40cf91c98f7e40bf8c3d07df5b3b27141808115331ca", func := "loop.example/surfacemaps/laws.FnTreesOfSwaps", spec := "fnTreesOfSwaps", unfollowed := true, recurses := true, apart := false }
def FnTreesOfSwapsSaid : Prop := fnTreesOfSwapsRow.holds Try.pinned (OpenSpec.ofChange fnTreesOfSwapsSpec)

/-- ITS FALSE NEIGHBOUR: 'it returns false'. Refute it at one input. -/
def fnTreesOfSwapsWrong : ChangeSpec := { name := "fnTreesOfSwaps", fn := fun _ => fun
  | [d] => { results := [.lit (.bool false)], args := [d] }
  | _ => none }
def FnTreesOfSwapsWrongFalsely : Prop := fnTreesOfSwapsRow.holds Try.pinned (OpenSpec.ofChange fnTreesOfSwapsWrong)

/-- 'laws.FnColumns': WHATEVER THE INPUT: true; the input reads as it did. -/
def fnColumnsSpec : ChangeSpec := { name := "fnColumns", fn := fun _ => fun
  | [d1, d2] => { results := [.lit (.bool true)], args := [d1, d2] }
  | _ => none }
def fnColumnsRow : OpenClaim := { program := "ytkfeildndcdbaaa", sum := "1d8b892012eabcc0c6fb40cf91c98f7e40bf8c3d07df5b3b27141808115331ca", func := "loop.example/surfacemaps/laws.FnColumns", spec := "fnColumns", unfollowed := true, recurses := true, apart := false }
def FnColumnsSaid : Prop := fnColumnsRow.holds Try.pinned (OpenSpec.ofChange fnColumnsSpec)

/-- ITS FALSE NEIGHBOUR: 'it returns false'. Refute it at one input. -/
def fnColumnsWrong : ChangeSpec := { name := "fnColumns", fn := fun _ => fun
  | [d1, d2] => { results := [.lit (.bool false)], args := [d1, d2] }
  | _ => none }
def FnColumnsWrongFalsely : Prop := fnColumnsRow.holds Try.pinned (OpenSpec.ofChange fnColumnsWrong)

/-- 'laws.FnRows': WHATEVER THE INPUT: true; the input reads as it did. -/
def fnRowsSpec : ChangeSpec := { name := "fnRows", fn := fun _ => fun
  | [d1, d2] => { results := [.lit (.bool true)], args := [d1, d2] }
  | _ => none }
def fnRowsRow : OpenClaim := { program := "ytkfeildndcdbaaa", sum := "1d8b892012eabcc0c6fb40cf91c98f7e40bf8c3d07df5b3b27141808115331ca", func := "loop.example/surfacemaps/laws.FnRows", spec := "fnRows", unfollowed := true, recurses := true, apart := false }
def FnRowsSaid : Prop := fnRowsRow.holds Try.pinned (OpenSpec.ofChange fnRowsSpec)

/-- ITS FALSE NEIGHBOUR: 'it returns false'. Refute it at one input. -/
def fnRowsWrong : ChangeSpec := { name := "fnRows", fn := fun _ => fun
  | [d1, d2] => { results := [.lit (.bool false)], args := [d1, d2] }
  | _ => none }
def FnRowsWrongFalsely : Prop := fnRowsRow.holds Try.pinned (OpenSpec.ofChange fnRowsWrong)

/-- 'laws.FnExactFactorCount': WHATEVER THE INPUT: true; the input reads as it did. -/
def fnExactFactorCountSpec : ChangeSpec := { name := "fnExactFactorCount", fn := fun _ => fun
  | [d] => { results := [.lit (.bool true)], args := [d] }
  | _ => none }
def fnExactFactorCountRow : OpenClaim := { program := "ytkfeildndcdbaaa", sum := "1d8b892012eabcc0c6fb40cf91c98f7e40bf8c3d07df5b3b27141808115331ca", func := "loop.example/surfacemaps/laws.FnExactFactorCount", spec := "fnExactFactorCount", unfollowed := true, recurses := true, apart := false }
def FnExactFactorCountSaid : Prop := fnExactFactorCountRow.holds Try.pinned (OpenSpec.ofChange fnExactFactorCountSpec)

/-- ITS FALSE NEIGHBOUR: 'it returns false'. Refute it at one input. -/
def fnExactFactorCountWrong : ChangeSpec := { name := "fnExactFactorCount", fn := fun _ => fun
  | [d] => { results := [.lit (.bool false)], args := [d] }
  | _ => none }
def FnExactFactorCountWrongFalsely : Prop := fnExactFactorCountRow.holds Try.pinned (OpenSpec.ofChange fnExactFactorCountWrong)

/-- 'laws.FnFactor': WHATEVER THE INPUT: true; the input reads as it did. -/
def fnFactorSpec : ChangeSpec := { name := "fnFactor", fn := fun _ => fun
  | [d] => { results := [.lit (.bool true)], args := [d] }
  | _ => none }
def fnFactorRow : OpenClaim := { program := "ytkfeildndcdbaaa", sum := "1d8b892012eabcc0c6fb40cf91c98f7e40bf8c3d07df5b3b27141808115331ca", func := "loop.example/surfacemaps/laws.FnFactor", spec := "fnFactor", unfollowed := true, recurses := true, apart := false }
def FnFactorSaid : Prop := fnFactorRow.holds Try.pinned (OpenSpec.ofChange fnFactorSpec)

/-- ITS FALSE NEIGHBOUR: 'it returns false'. Refute it at one input. -/
def fnFactorWrong : ChangeSpec := { name := "fnFactor", fn := fun _ => fun
  | [d] => { results := [.lit (.bool false)], args := [d] }
  | _ => none }
def FnFactorWrongFalsely : Prop := fnFactorRow.holds Try.pinned (OpenSpec.ofChange fnFactorWrong)

/-- 'laws.FnExactCutJoin': WHATEVER THE INPUT: true; the input reads as it did. -/
def fnExactCutJoinSpec : ChangeSpec := { name := "fnExactCutJoin", fn := fun _ => fun
  | [d1, d2] => { results := [.lit (.bool true)], args := [d1, d2] }
  | _ => none }
def fnExactCutJoinRow : OpenClaim := { program := "ytkfeildndcdbaaa", sum := "1d8b892012eabcc0c6fb40cf91c98f7e40bf8c3d07df5b3b27141808115331ca", func := "loop.example/surfacemaps/laws.FnExactCutJoin", spec := "fnExactCutJoin", recurses := true, apart := false }
def FnExactCutJoinSaid : Prop := fnExactCutJoinRow.holds Try.pinned (OpenSpec.ofChange fnExactCutJoinSpec)

/-- ITS FALSE NEIGHBOUR: 'it returns false'. Refute it at one input. -/
def fnExactCutJoinWrong : ChangeSpec := { name := "fnExactCutJoin", fn := fun _ => fun
  | [d1, d2] => { results := [.lit (.bool false)], args := [d1, d2] }
  | _ => none }
def FnExactCutJoinWrongFalsely : Prop := fnExactCutJoinRow.holds Try.pinned (OpenSpec.ofChange fnExactCutJoinWrong)

/- THE SECOND FORM. 'bulk': how many values and letters a reading holds, each counted each time it is reached (what is shared counts as often as it is met; a slice's spare places count too). A statement '..UptoSaid' is the law's where the arguments, and the package variables that the reading takes, are together of bulk at most 1048576: NARROWER than '..Said'. Prove '..Said' where nothing that the law and all that it calls make is longer than what came in: it says more and counts as full. Else prove '..UptoSaid'. A law counts once. -/
mutual
def uptoBulk {H : Type} : DataW H → Nat
  | .lit (.string bytes) => bytes.length + 1
  | .lit _ => 1
  | .nil => 1
  | .ptr d => uptoBulk d + 1
  | .slice elems spare => uptoBulkAll elems + uptoBulkAll spare + 1
  | .agg parts => uptoBulkAll parts + 1
  | .iface _ d => uptoBulk d + 1
  | .map entries => uptoBulkEntries entries + 1
  | .held _ => 1
def uptoBulkAll {H : Type} : List (DataW H) → Nat
  | [] => 0
  | d :: r => uptoBulk d + uptoBulkAll r
def uptoBulkEntries {H : Type} : List (Lit × DataW H) → Nat
  | [] => 0
  | x :: r => uptoBulkEntry x + uptoBulkEntries r
def uptoBulkEntry {H : Type} : Lit × DataW H → Nat
  | (.string bytes, d) => bytes.length + uptoBulk d + 1
  | (_, d) => uptoBulk d + 1
 end
def uptoSmall : (H : Type) → List (DataW H) → Bool := fun _ ds => decide (uptoBulkAll ds ≤ 1048576)
def OpenSpec.upto (s : _root_.Go.ChangeSpec) : _root_.Go.OpenSpec := { _root_.Go.OpenSpec.ofChange s with cond := some uptoSmall }

/-- 'laws.FnExactPartsAll', WHERE WHAT IT READS IS OF BULK AT MOST 1048576: true; the input reads as it did. -/
def fnExactPartsAllUptoRow : OpenClaim := { program := "ytkfeildndcdbaaa", sum := "1d8b892012eabcc0c6fb40cf91c98f7e40bf8c3d07df5b3b27141808115331ca", func := "loop.example/surfacemaps/laws.FnExactPartsAll", spec := "fnExactPartsAll", unfollowed := true, recurses := true, apart := false, narrowed := true }
def FnExactPartsAllUptoSaid : Prop := fnExactPartsAllUptoRow.holds Try.pinned (OpenSpec.upto fnExactPartsAllSpec)

/-- 'laws.FnExactGluingAll', WHERE WHAT IT READS IS OF BULK AT MOST 1048576: true; the input reads as it did. -/
def fnExactGluingAllUptoRow : OpenClaim := { program := "ytkfeildndcdbaaa", sum := "1d8b892012eabcc0c6fb40cf91c98f7e40bf8c3d07df5b3b27141808115331ca", func := "loop.example/surfacemaps/laws.FnExactGluingAll", spec := "fnExactGluingAll", unfollowed := true, recurses := true, apart := false, narrowed := true }
def FnExactGluingAllUptoSaid : Prop := fnExactGluingAllUptoRow.holds Try.pinned (OpenSpec.upto fnExactGluingAllSpec)

/-- 'laws.FnExactGluingCount', WHERE WHAT IT READS IS OF BULK AT MOST 1048576: true; the input reads as it did. -/
def fnExactGluingCountUptoRow : OpenClaim := { program := "ytkfeildndcdbaaa", sum := "1d8b892012eabcc0c6fb40cf91c98f7e40bf8c3d07df5b3b27141808115331ca", func := "loop.example/surfacemaps/laws.FnExactGluingCount", spec := "fnExactGluingCount", unfollowed := true, recurses := true, apart := false, narrowed := true }
def FnExactGluingCountUptoSaid : Prop := fnExactGluingCountUptoRow.holds Try.pinned (OpenSpec.upto fnExactGluingCountSpec)

/-- 'laws.FnGluingAll', WHERE WHAT IT READS IS OF BULK AT MOST 1048576: true; the input reads as it did. -/
def fnGluingAllUptoRow : OpenClaim := { program := "ytkfeildndcdbaaa", sum := "1d8b892012eabcc0c6fb40cf91c98f7e40bf8c3d07df5b3b27141808115331ca", func := "loop.example/surfacemaps/laws.FnGluingAll", spec := "fnGluingAll", unfollowed := true, recurses := true, apart := false, narrowed := true }
def FnGluingAllUptoSaid : Prop := fnGluingAllUptoRow.holds Try.pinned (OpenSpec.upto fnGluingAllSpec)

/-- 'laws.FnPartsAll', WHERE WHAT IT READS IS OF BULK AT MOST 1048576: true; the input reads as it did. -/
def fnPartsAllUptoRow : OpenClaim := { program := "ytkfeildndcdbaaa", sum := "1d8b892012eabcc0c6fb40cf91c98f7e40bf8c3d07df5b3b27141808115331ca", func := "loop.example/surfacemaps/laws.FnPartsAll", spec := "fnPartsAll", unfollowed := true, recurses := true, apart := false, narrowed := true }
def FnPartsAllUptoSaid : Prop := fnPartsAllUptoRow.holds Try.pinned (OpenSpec.upto fnPartsAllSpec)

/-- 'laws.FnGluingCount', WHERE WHAT IT READS IS OF BULK AT MOST 1048576: true; the input reads as it did. -/
def fnGluingCountUptoRow : OpenClaim := { program := "ytkfeildndcdbaaa", sum := "1d8b892012eabcc0c6fb40cf91c98f7e40bf8c3d07df5b3b27141808115331ca", func := "loop.example/surfacemaps/laws.FnGluingCount", spec := "fnGluingCount", unfollowed := true, recurses := true, apart := false, narrowed := true }
def FnGluingCountUptoSaid : Prop := fnGluingCountUptoRow.holds Try.pinned (OpenSpec.upto fnGluingCountSpec)

/-- 'laws.FnTreesOfSwaps', WHERE WHAT IT READS IS OF BULK AT MOST 1048576: true; the input reads as it did. -/
def fnTreesOfSwapsUptoRow : OpenClaim := { program := "ytkfeildndcdbaaa", sum := "1d8b892012eabcc0c6fb40cf91c98f7e40bf8c3d07df5b3b27141808115331ca", func := "loop.example/surfacemaps/laws.FnTreesOfSwaps", spec := "fnTreesOfSwaps", unfollowed := true, recurses := true, apart := false, narrowed := true }
def FnTreesOfSwapsUptoSaid : Prop := fnTreesOfSwapsUptoRow.holds Try.pinned (OpenSpec.upto fnTreesOfSwapsSpec)

/-- 'laws.FnColumns', WHERE WHAT IT READS IS OF BULK AT MOST 1048576: true; the input reads as it did. -/
def fnColumnsUptoRow : OpenClaim := { program := "ytkfeildndcdbaaa", sum := "1d8b892012eabcc0c6fb40cf91c98f7e40bf8c3d07df5b3b27141808115331ca", func := "loop.example/surfacemaps/laws.FnColumns", spec := "fnColumns", unfollowed := true, recurses := true, apart := false, narrowed := true }
def FnColumnsUptoSaid : Prop := fnColumnsUptoRow.holds Try.pinned (OpenSpec.upto fnColumnsSpec)

/-- 'laws.FnRows', WHERE WHAT IT READS IS OF BULK AT MOST 1048576: true; the input reads as it did. -/
def fnRowsUptoRow : OpenClaim := { program := "ytkfeildndcdbaaa", sum := "1d8b892012eabcc0c6fb40cf91c98f7e40bf8c3d07df5b3b27141808115331ca", func := "loop.example/surfacemaps/laws.FnRows", spec := "fnRows", unfollowed := true, recurses := true, apart := false, narrowed := true }
def FnRowsUptoSaid : Prop := fnRowsUptoRow.holds Try.pinned (OpenSpec.upto fnRowsSpec)

/-- 'laws.FnExactFactorCount', WHERE WHAT IT READS IS OF BULK AT MOST 1048576: true; the input reads as it did. -/
def fnExactFactorCountUptoRow : OpenClaim := { program := "ytkfeildndcdbaaa", sum := "1d8b892012eabcc0c6fb40cf91c98f7e40bf8c3d07df5b3b27141808115331ca", func := "loop.example/surfacemaps/laws.FnExactFactorCount", spec := "fnExactFactorCount", unfollowed := true, recurses := true, apart := false, narrowed := true }
def FnExactFactorCountUptoSaid : Prop := fnExactFactorCountUptoRow.holds Try.pinned (OpenSpec.upto fnExactFactorCountSpec)

/-- 'laws.FnFactor', WHERE WHAT IT READS IS OF BULK AT MOST 1048576: true; the input reads as it did. -/
def fnFactorUptoRow : OpenClaim := { program := "ytkfeildndcdbaaa", sum := "1d8b892012eabcc0c6fb40cf91c98f7e40bf8c3d07df5b3b27141808115331ca", func := "loop.example/surfacemaps/laws.FnFactor", spec := "fnFactor", unfollowed := true, recurses := true, apart := false, narrowed := true }
def FnFactorUptoSaid : Prop := fnFactorUptoRow.holds Try.pinned (OpenSpec.upto fnFactorSpec)

/-- 'laws.FnExactCutJoin', WHERE WHAT IT READS IS OF BULK AT MOST 1048576: true; the input reads as it did. -/
def fnExactCutJoinUptoRow : OpenClaim := { program := "ytkfeildndcdbaaa", sum := "1d8b892012eabcc0c6fb40cf91c98f7e40bf8c3d07df5b3b27141808115331ca", func := "loop.example/surfacemaps/laws.FnExactCutJoin", spec := "fnExactCutJoin", recurses := true, apart := false, narrowed := true }
def FnExactCutJoinUptoSaid : Prop := fnExactCutJoinUptoRow.holds Try.pinned (OpenSpec.upto fnExactCutJoinSpec)

end Rows
end Go.Proofs.Ytkfeildndcdbaaa
