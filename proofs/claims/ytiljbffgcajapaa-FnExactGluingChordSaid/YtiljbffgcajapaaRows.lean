/-
  No cell of these rows narrows 'for every input' (looked for: loops, veiled, ifaces, maps, wideKeys, modest, calm, conditions, laid).
  DERIVED. THE GIVEN ROWS OF THIS SEAT. 12 by the template 'for every input the law returns true; each argument reads behind the call as it read before'; 0 by the template 'total and deterministic' (their statements: YtiljbffgcajapaaTotals.lean).
  GIVEN WITH THE SEED: the statements are not yours to turn. If you find one false, say at which input.
  Laid BY PROGRAM, IN A SANDBOX (cutbox-rows.mjs): the forced cells as the released guide's own fill.sh prints them over the translation acd63647059b24a2… (all of the seat's roots in one cut). By AI agents, Wed Nov 11 2026. No macro, syntax, notation, axiom, sorry.
-/
import Derived.Test.YtiljbffgcajapaaChecked
import GoSem.Claim
import GoSem.ClaimJoined
import GoSem.ClaimMapViews
import Derived.JoinedTies
import Derived.KernelRfl
namespace Go.Proofs.Ytiljbffgcajapaa
/- THE CELL 'sum', in the pinned program and in every row, IS THE sha256 OF THE DUMP (.gsa) THAT YtiljbffgcajapaaProg.lean LOADS. Nothing in Lean hashes anything: it is a label: what it is worth is what the hold of that sum in a sandbox is worth. -/
noncomputable def Try.pinned : Pinned := { name := "ytiljbffgcajapaa", sum := "acd63647059b24a2d25fd30dbe59b2bd1c8da7cc658234bb6d145f7fe8cc31e6", checked := Try.checked }
namespace Rows
def none {H : Type} : Left H := { results := [], args := [] }

/-- 'laws.FnExactGluingRun': WHATEVER THE INPUT: true; the input reads as it did. -/
def fnExactGluingRunSpec : ChangeSpec := { name := "fnExactGluingRun", fn := fun _ => fun
  | [d1, d2] => { results := [.lit (.bool true)], args := [d1, d2] }
  | _ => none }
def fnExactGluingRunRow : OpenClaim := { program := "ytiljbffgcajapaa", sum := "acd63647059b24a2d25fd30dbe59b2bd1c8da7cc658234bb6d145f7fe8cc31e6", func := "loop.example/surfacemaps/laws.FnExactGluingRun", spec := "fnExactGluingRun", recurses := true, apart := false }
def FnExactGluingRunSaid : Prop := fnExactGluingRunRow.holds Try.pinned (OpenSpec.ofChange fnExactGluingRunSpec)

/-- ITS FALSE NEIGHBOUR: 'it returns false'. Refute it at one input. -/
def fnExactGluingRunWrong : ChangeSpec := { name := "fnExactGluingRun", fn := fun _ => fun
  | [d1, d2] => { results := [.lit (.bool false)], args := [d1, d2] }
  | _ => none }
def FnExactGluingRunWrongFalsely : Prop := fnExactGluingRunRow.holds Try.pinned (OpenSpec.ofChange fnExactGluingRunWrong)

/-- 'laws.FnExactGluingValid': WHATEVER THE INPUT: true; the input reads as it did. -/
def fnExactGluingValidSpec : ChangeSpec := { name := "fnExactGluingValid", fn := fun _ => fun
  | [d] => { results := [.lit (.bool true)], args := [d] }
  | _ => none }
def fnExactGluingValidRow : OpenClaim := { program := "ytiljbffgcajapaa", sum := "acd63647059b24a2d25fd30dbe59b2bd1c8da7cc658234bb6d145f7fe8cc31e6", func := "loop.example/surfacemaps/laws.FnExactGluingValid", spec := "fnExactGluingValid", apart := false }
def FnExactGluingValidSaid : Prop := fnExactGluingValidRow.holds Try.pinned (OpenSpec.ofChange fnExactGluingValidSpec)

/-- ITS FALSE NEIGHBOUR: 'it returns false'. Refute it at one input. -/
def fnExactGluingValidWrong : ChangeSpec := { name := "fnExactGluingValid", fn := fun _ => fun
  | [d] => { results := [.lit (.bool false)], args := [d] }
  | _ => none }
def FnExactGluingValidWrongFalsely : Prop := fnExactGluingValidRow.holds Try.pinned (OpenSpec.ofChange fnExactGluingValidWrong)

/-- 'laws.FnExactPartsValid': WHATEVER THE INPUT: true; the input reads as it did. -/
def fnExactPartsValidSpec : ChangeSpec := { name := "fnExactPartsValid", fn := fun _ => fun
  | [d] => { results := [.lit (.bool true)], args := [d] }
  | _ => none }
def fnExactPartsValidRow : OpenClaim := { program := "ytiljbffgcajapaa", sum := "acd63647059b24a2d25fd30dbe59b2bd1c8da7cc658234bb6d145f7fe8cc31e6", func := "loop.example/surfacemaps/laws.FnExactPartsValid", spec := "fnExactPartsValid", apart := false }
def FnExactPartsValidSaid : Prop := fnExactPartsValidRow.holds Try.pinned (OpenSpec.ofChange fnExactPartsValidSpec)

/-- ITS FALSE NEIGHBOUR: 'it returns false'. Refute it at one input. -/
def fnExactPartsValidWrong : ChangeSpec := { name := "fnExactPartsValid", fn := fun _ => fun
  | [d] => { results := [.lit (.bool false)], args := [d] }
  | _ => none }
def FnExactPartsValidWrongFalsely : Prop := fnExactPartsValidRow.holds Try.pinned (OpenSpec.ofChange fnExactPartsValidWrong)

/-- 'laws.FnExactGluingColors': WHATEVER THE INPUT: true; the input reads as it did. -/
def fnExactGluingColorsSpec : ChangeSpec := { name := "fnExactGluingColors", fn := fun _ => fun
  | [d1, d2] => { results := [.lit (.bool true)], args := [d1, d2] }
  | _ => none }
def fnExactGluingColorsRow : OpenClaim := { program := "ytiljbffgcajapaa", sum := "acd63647059b24a2d25fd30dbe59b2bd1c8da7cc658234bb6d145f7fe8cc31e6", func := "loop.example/surfacemaps/laws.FnExactGluingColors", spec := "fnExactGluingColors", apart := false }
def FnExactGluingColorsSaid : Prop := fnExactGluingColorsRow.holds Try.pinned (OpenSpec.ofChange fnExactGluingColorsSpec)

/-- ITS FALSE NEIGHBOUR: 'it returns false'. Refute it at one input. -/
def fnExactGluingColorsWrong : ChangeSpec := { name := "fnExactGluingColors", fn := fun _ => fun
  | [d1, d2] => { results := [.lit (.bool false)], args := [d1, d2] }
  | _ => none }
def FnExactGluingColorsWrongFalsely : Prop := fnExactGluingColorsRow.holds Try.pinned (OpenSpec.ofChange fnExactGluingColorsWrong)

/-- 'laws.FnGluingRun': WHATEVER THE INPUT: true; the input reads as it did. -/
def fnGluingRunSpec : ChangeSpec := { name := "fnGluingRun", fn := fun _ => fun
  | [d] => { results := [.lit (.bool true)], args := [d] }
  | _ => none }
def fnGluingRunRow : OpenClaim := { program := "ytiljbffgcajapaa", sum := "acd63647059b24a2d25fd30dbe59b2bd1c8da7cc658234bb6d145f7fe8cc31e6", func := "loop.example/surfacemaps/laws.FnGluingRun", spec := "fnGluingRun", recurses := true, apart := false }
def FnGluingRunSaid : Prop := fnGluingRunRow.holds Try.pinned (OpenSpec.ofChange fnGluingRunSpec)

/-- ITS FALSE NEIGHBOUR: 'it returns false'. Refute it at one input. -/
def fnGluingRunWrong : ChangeSpec := { name := "fnGluingRun", fn := fun _ => fun
  | [d] => { results := [.lit (.bool false)], args := [d] }
  | _ => none }
def FnGluingRunWrongFalsely : Prop := fnGluingRunRow.holds Try.pinned (OpenSpec.ofChange fnGluingRunWrong)

/-- 'laws.FnExactGluingChord': WHATEVER THE INPUT: true; the input reads as it did. -/
def fnExactGluingChordSpec : ChangeSpec := { name := "fnExactGluingChord", fn := fun _ => fun
  | [d] => { results := [.lit (.bool true)], args := [d] }
  | _ => none }
def fnExactGluingChordRow : OpenClaim := { program := "ytiljbffgcajapaa", sum := "acd63647059b24a2d25fd30dbe59b2bd1c8da7cc658234bb6d145f7fe8cc31e6", func := "loop.example/surfacemaps/laws.FnExactGluingChord", spec := "fnExactGluingChord", apart := false }
def FnExactGluingChordSaid : Prop := fnExactGluingChordRow.holds Try.pinned (OpenSpec.ofChange fnExactGluingChordSpec)

/-- ITS FALSE NEIGHBOUR: 'it returns false'. Refute it at one input. -/
def fnExactGluingChordWrong : ChangeSpec := { name := "fnExactGluingChord", fn := fun _ => fun
  | [d] => { results := [.lit (.bool false)], args := [d] }
  | _ => none }
def FnExactGluingChordWrongFalsely : Prop := fnExactGluingChordRow.holds Try.pinned (OpenSpec.ofChange fnExactGluingChordWrong)

/-- 'laws.FnExactGluingTurn': WHATEVER THE INPUT: true; the input reads as it did. -/
def fnExactGluingTurnSpec : ChangeSpec := { name := "fnExactGluingTurn", fn := fun _ => fun
  | [d] => { results := [.lit (.bool true)], args := [d] }
  | _ => none }
def fnExactGluingTurnRow : OpenClaim := { program := "ytiljbffgcajapaa", sum := "acd63647059b24a2d25fd30dbe59b2bd1c8da7cc658234bb6d145f7fe8cc31e6", func := "loop.example/surfacemaps/laws.FnExactGluingTurn", spec := "fnExactGluingTurn", apart := false }
def FnExactGluingTurnSaid : Prop := fnExactGluingTurnRow.holds Try.pinned (OpenSpec.ofChange fnExactGluingTurnSpec)

/-- ITS FALSE NEIGHBOUR: 'it returns false'. Refute it at one input. -/
def fnExactGluingTurnWrong : ChangeSpec := { name := "fnExactGluingTurn", fn := fun _ => fun
  | [d] => { results := [.lit (.bool false)], args := [d] }
  | _ => none }
def FnExactGluingTurnWrongFalsely : Prop := fnExactGluingTurnRow.holds Try.pinned (OpenSpec.ofChange fnExactGluingTurnWrong)

/-- 'laws.FnExactGluingPlanar': WHATEVER THE INPUT: true; the input reads as it did. -/
def fnExactGluingPlanarSpec : ChangeSpec := { name := "fnExactGluingPlanar", fn := fun _ => fun
  | [d] => { results := [.lit (.bool true)], args := [d] }
  | _ => none }
def fnExactGluingPlanarRow : OpenClaim := { program := "ytiljbffgcajapaa", sum := "acd63647059b24a2d25fd30dbe59b2bd1c8da7cc658234bb6d145f7fe8cc31e6", func := "loop.example/surfacemaps/laws.FnExactGluingPlanar", spec := "fnExactGluingPlanar", apart := false }
def FnExactGluingPlanarSaid : Prop := fnExactGluingPlanarRow.holds Try.pinned (OpenSpec.ofChange fnExactGluingPlanarSpec)

/-- ITS FALSE NEIGHBOUR: 'it returns false'. Refute it at one input. -/
def fnExactGluingPlanarWrong : ChangeSpec := { name := "fnExactGluingPlanar", fn := fun _ => fun
  | [d] => { results := [.lit (.bool false)], args := [d] }
  | _ => none }
def FnExactGluingPlanarWrongFalsely : Prop := fnExactGluingPlanarRow.holds Try.pinned (OpenSpec.ofChange fnExactGluingPlanarWrong)

/-- 'laws.FnExactClassFirst': WHATEVER THE INPUT: true; the input reads as it did. -/
def fnExactClassFirstSpec : ChangeSpec := { name := "fnExactClassFirst", fn := fun _ => fun
  | [d] => { results := [.lit (.bool true)], args := [d] }
  | _ => none }
def fnExactClassFirstRow : OpenClaim := { program := "ytiljbffgcajapaa", sum := "acd63647059b24a2d25fd30dbe59b2bd1c8da7cc658234bb6d145f7fe8cc31e6", func := "loop.example/surfacemaps/laws.FnExactClassFirst", spec := "fnExactClassFirst", apart := false }
def FnExactClassFirstSaid : Prop := fnExactClassFirstRow.holds Try.pinned (OpenSpec.ofChange fnExactClassFirstSpec)

/-- ITS FALSE NEIGHBOUR: 'it returns false'. Refute it at one input. -/
def fnExactClassFirstWrong : ChangeSpec := { name := "fnExactClassFirst", fn := fun _ => fun
  | [d] => { results := [.lit (.bool false)], args := [d] }
  | _ => none }
def FnExactClassFirstWrongFalsely : Prop := fnExactClassFirstRow.holds Try.pinned (OpenSpec.ofChange fnExactClassFirstWrong)

/-- 'laws.FnColors': WHATEVER THE INPUT: true; the input reads as it did. -/
def fnColorsSpec : ChangeSpec := { name := "fnColors", fn := fun _ => fun
  | [d] => { results := [.lit (.bool true)], args := [d] }
  | _ => none }
def fnColorsRow : OpenClaim := { program := "ytiljbffgcajapaa", sum := "acd63647059b24a2d25fd30dbe59b2bd1c8da7cc658234bb6d145f7fe8cc31e6", func := "loop.example/surfacemaps/laws.FnColors", spec := "fnColors", apart := false }
def FnColorsSaid : Prop := fnColorsRow.holds Try.pinned (OpenSpec.ofChange fnColorsSpec)

/-- ITS FALSE NEIGHBOUR: 'it returns false'. Refute it at one input. -/
def fnColorsWrong : ChangeSpec := { name := "fnColors", fn := fun _ => fun
  | [d] => { results := [.lit (.bool false)], args := [d] }
  | _ => none }
def FnColorsWrongFalsely : Prop := fnColorsRow.holds Try.pinned (OpenSpec.ofChange fnColorsWrong)

/-- 'laws.FnExactPartsConj': WHATEVER THE INPUT: true; the input reads as it did. -/
def fnExactPartsConjSpec : ChangeSpec := { name := "fnExactPartsConj", fn := fun _ => fun
  | [d] => { results := [.lit (.bool true)], args := [d] }
  | _ => none }
def fnExactPartsConjRow : OpenClaim := { program := "ytiljbffgcajapaa", sum := "acd63647059b24a2d25fd30dbe59b2bd1c8da7cc658234bb6d145f7fe8cc31e6", func := "loop.example/surfacemaps/laws.FnExactPartsConj", spec := "fnExactPartsConj", apart := false }
def FnExactPartsConjSaid : Prop := fnExactPartsConjRow.holds Try.pinned (OpenSpec.ofChange fnExactPartsConjSpec)

/-- ITS FALSE NEIGHBOUR: 'it returns false'. Refute it at one input. -/
def fnExactPartsConjWrong : ChangeSpec := { name := "fnExactPartsConj", fn := fun _ => fun
  | [d] => { results := [.lit (.bool false)], args := [d] }
  | _ => none }
def FnExactPartsConjWrongFalsely : Prop := fnExactPartsConjRow.holds Try.pinned (OpenSpec.ofChange fnExactPartsConjWrong)

/-- 'laws.FnExactGluingCorners': WHATEVER THE INPUT: true; the input reads as it did. -/
def fnExactGluingCornersSpec : ChangeSpec := { name := "fnExactGluingCorners", fn := fun _ => fun
  | [d] => { results := [.lit (.bool true)], args := [d] }
  | _ => none }
def fnExactGluingCornersRow : OpenClaim := { program := "ytiljbffgcajapaa", sum := "acd63647059b24a2d25fd30dbe59b2bd1c8da7cc658234bb6d145f7fe8cc31e6", func := "loop.example/surfacemaps/laws.FnExactGluingCorners", spec := "fnExactGluingCorners", apart := false }
def FnExactGluingCornersSaid : Prop := fnExactGluingCornersRow.holds Try.pinned (OpenSpec.ofChange fnExactGluingCornersSpec)

/-- ITS FALSE NEIGHBOUR: 'it returns false'. Refute it at one input. -/
def fnExactGluingCornersWrong : ChangeSpec := { name := "fnExactGluingCorners", fn := fun _ => fun
  | [d] => { results := [.lit (.bool false)], args := [d] }
  | _ => none }
def FnExactGluingCornersWrongFalsely : Prop := fnExactGluingCornersRow.holds Try.pinned (OpenSpec.ofChange fnExactGluingCornersWrong)

/- THE SECOND FORM. 'bulk': how many values and letters a reading holds, each counted each time it is reached (what is shared counts as often as it is met; a slice's spare places count too). A statement '..UptoSaid' is the law's where the arguments, and the package variables that the reading takes, are together of bulk at most 1048576: NARROWER than '..Said'. Prove '..Said' where nothing that the law and all that it calls make is longer than what came in: it says more and counts as full. Else prove '..UptoSaid'. A law counts once. -/
mutual
def uptoBulk {H : Type} : DataW H → Nat
  | .lit (.string bytes) => bytes.length + 1
  | .lit _ => 1
  | .nil => 1
  | .ptr d => uptoBulk d + 1
  | .slice elems spare => uptoBulkAll elems + uptoBulkAll spare + 1
  | .agg parts => uptoBulkAll parts + 1
  | .iface _ d => uptoBulk d + 1
  | .map entries => uptoBulkEntries entries + 1
  | .held _ => 1
def uptoBulkAll {H : Type} : List (DataW H) → Nat
  | [] => 0
  | d :: r => uptoBulk d + uptoBulkAll r
def uptoBulkEntries {H : Type} : List (Lit × DataW H) → Nat
  | [] => 0
  | x :: r => uptoBulkEntry x + uptoBulkEntries r
def uptoBulkEntry {H : Type} : Lit × DataW H → Nat
  | (.string bytes, d) => bytes.length + uptoBulk d + 1
  | (_, d) => uptoBulk d + 1
 end
def uptoSmall : (H : Type) → List (DataW H) → Bool := fun _ ds => decide (uptoBulkAll ds ≤ 1048576)
def OpenSpec.upto (s : _root_.Go.ChangeSpec) : _root_.Go.OpenSpec := { _root_.Go.OpenSpec.ofChange s with cond := some uptoSmall }

/-- 'laws.FnExactGluingRun', WHERE WHAT IT READS IS OF BULK AT MOST 1048576: true; the input reads as it did. -/
def fnExactGluingRunUptoRow : OpenClaim := { program := "ytiljbffgcajapaa", sum := "acd63647059b24a2d25fd30dbe59b2bd1c8da7cc658234bb6d145f7fe8cc31e6", func := "loop.example/surfacemaps/laws.FnExactGluingRun", spec := "fnExactGluingRun", recurses := true, apart := false, narrowed := true }
def FnExactGluingRunUptoSaid : Prop := fnExactGluingRunUptoRow.holds Try.pinned (OpenSpec.upto fnExactGluingRunSpec)

/-- 'laws.FnExactGluingValid', WHERE WHAT IT READS IS OF BULK AT MOST 1048576: true; the input reads as it did. -/
def fnExactGluingValidUptoRow : OpenClaim := { program := "ytiljbffgcajapaa", sum := "acd63647059b24a2d25fd30dbe59b2bd1c8da7cc658234bb6d145f7fe8cc31e6", func := "loop.example/surfacemaps/laws.FnExactGluingValid", spec := "fnExactGluingValid", apart := false, narrowed := true }
def FnExactGluingValidUptoSaid : Prop := fnExactGluingValidUptoRow.holds Try.pinned (OpenSpec.upto fnExactGluingValidSpec)

/-- 'laws.FnExactPartsValid', WHERE WHAT IT READS IS OF BULK AT MOST 1048576: true; the input reads as it did. -/
def fnExactPartsValidUptoRow : OpenClaim := { program := "ytiljbffgcajapaa", sum := "acd63647059b24a2d25fd30dbe59b2bd1c8da7cc658234bb6d145f7fe8cc31e6", func := "loop.example/surfacemaps/laws.FnExactPartsValid", spec := "fnExactPartsValid", apart := false, narrowed := true }
def FnExactPartsValidUptoSaid : Prop := fnExactPartsValidUptoRow.holds Try.pinned (OpenSpec.upto fnExactPartsValidSpec)

/-- 'laws.FnExactGluingColors', WHERE WHAT IT READS IS OF BULK AT MOST 1048576: true; the input reads as it did. -/
def fnExactGluingColorsUptoRow : OpenClaim := { program := "ytiljbffgcajapaa", sum := "acd63647059b24a2d25fd30dbe59b2bd1c8da7cc658234bb6d145f7fe8cc31e6", func := "loop.example/surfacemaps/laws.FnExactGluingColors", spec := "fnExactGluingColors", apart := false, narrowed := true }
def FnExactGluingColorsUptoSaid : Prop := fnExactGluingColorsUptoRow.holds Try.pinned (OpenSpec.upto fnExactGluingColorsSpec)

/-- 'laws.FnGluingRun', WHERE WHAT IT READS IS OF BULK AT MOST 1048576: true; the input reads as it did. -/
def fnGluingRunUptoRow : OpenClaim := { program := "ytiljbffgcajapaa", sum := "acd63647059b24a2d25fd30dbe59b2bd1c8da7cc658234bb6d145f7fe8cc31e6", func := "loop.example/surfacemaps/laws.FnGluingRun", spec := "fnGluingRun", recurses := true, apart := false, narrowed := true }
def FnGluingRunUptoSaid : Prop := fnGluingRunUptoRow.holds Try.pinned (OpenSpec.upto fnGluingRunSpec)

/-- 'laws.FnExactGluingChord', WHERE WHAT IT READS IS OF BULK AT MOST 1048576: true; the input reads as it did. -/
def fnExactGluingChordUptoRow : OpenClaim := { program := "ytiljbffgcajapaa", sum := "acd63647059b24a2d25fd30dbe59b2bd1c8da7cc658234bb6d145f7fe8cc31e6", func := "loop.example/surfacemaps/laws.FnExactGluingChord", spec := "fnExactGluingChord", apart := false, narrowed := true }
def FnExactGluingChordUptoSaid : Prop := fnExactGluingChordUptoRow.holds Try.pinned (OpenSpec.upto fnExactGluingChordSpec)

/-- 'laws.FnExactGluingTurn', WHERE WHAT IT READS IS OF BULK AT MOST 1048576: true; the input reads as it did. -/
def fnExactGluingTurnUptoRow : OpenClaim := { program := "ytiljbffgcajapaa", sum := "acd63647059b24a2d25fd30dbe59b2bd1c8da7cc658234bb6d145f7fe8cc31e6", func := "loop.example/surfacemaps/laws.FnExactGluingTurn", spec := "fnExactGluingTurn", apart := false, narrowed := true }
def FnExactGluingTurnUptoSaid : Prop := fnExactGluingTurnUptoRow.holds Try.pinned (OpenSpec.upto fnExactGluingTurnSpec)

/-- 'laws.FnExactGluingPlanar', WHERE WHAT IT READS IS OF BULK AT MOST 1048576: true; the input reads as it did. -/
def fnExactGluingPlanarUptoRow : OpenClaim := { program := "ytiljbffgcajapaa", sum := "acd63647059b24a2d25fd30dbe59b2bd1c8da7cc658234bb6d145f7fe8cc31e6", func := "loop.example/surfacemaps/laws.FnExactGluingPlanar", spec := "fnExactGluingPlanar", apart := false, narrowed := true }
def FnExactGluingPlanarUptoSaid : Prop := fnExactGluingPlanarUptoRow.holds Try.pinned (OpenSpec.upto fnExactGluingPlanarSpec)

/-- 'laws.FnExactClassFirst', WHERE WHAT IT READS IS OF BULK AT MOST 1048576: true; the input reads as it did. -/
def fnExactClassFirstUptoRow : OpenClaim := { program := "ytiljbffgcajapaa", sum := "acd63647059b24a2d25fd30dbe59b2bd1c8da7cc658234bb6d145f7fe8cc31e6", func := "loop.example/surfacemaps/laws.FnExactClassFirst", spec := "fnExactClassFirst", apart := false, narrowed := true }
def FnExactClassFirstUptoSaid : Prop := fnExactClassFirstUptoRow.holds Try.pinned (OpenSpec.upto fnExactClassFirstSpec)

/-- 'laws.FnColors', WHERE WHAT IT READS IS OF BULK AT MOST 1048576: true; the input reads as it did. -/
def fnColorsUptoRow : OpenClaim := { program := "ytiljbffgcajapaa", sum := "acd63647059b24a2d25fd30dbe59b2bd1c8da7cc658234bb6d145f7fe8cc31e6", func := "loop.example/surfacemaps/laws.FnColors", spec := "fnColors", apart := false, narrowed := true }
def FnColorsUptoSaid : Prop := fnColorsUptoRow.holds Try.pinned (OpenSpec.upto fnColorsSpec)

/-- 'laws.FnExactPartsConj', WHERE WHAT IT READS IS OF BULK AT MOST 1048576: true; the input reads as it did. -/
def fnExactPartsConjUptoRow : OpenClaim := { program := "ytiljbffgcajapaa", sum := "acd63647059b24a2d25fd30dbe59b2bd1c8da7cc658234bb6d145f7fe8cc31e6", func := "loop.example/surfacemaps/laws.FnExactPartsConj", spec := "fnExactPartsConj", apart := false, narrowed := true }
def FnExactPartsConjUptoSaid : Prop := fnExactPartsConjUptoRow.holds Try.pinned (OpenSpec.upto fnExactPartsConjSpec)

/-- 'laws.FnExactGluingCorners', WHERE WHAT IT READS IS OF BULK AT MOST 1048576: true; the input reads as it did. -/
def fnExactGluingCornersUptoRow : OpenClaim := { program := "ytiljbffgcajapaa", sum := "acd63647059b24a2d25fd30dbe59b2bd1c8da7cc658234bb6d145f7fe8cc31e6", func := "loop.example/surfacemaps/laws.FnExactGluingCorners", spec := "fnExactGluingCorners", apart := false, narrowed := true }
def FnExactGluingCornersUptoSaid : Prop := fnExactGluingCornersUptoRow.holds Try.pinned (OpenSpec.upto fnExactGluingCornersSpec)

end Rows
end Go.Proofs.Ytiljbffgcajapaa
