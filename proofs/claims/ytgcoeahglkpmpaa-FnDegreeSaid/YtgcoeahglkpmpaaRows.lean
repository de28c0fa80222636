/-
  No cell of these rows narrows 'for every input' (looked for: loops, veiled, ifaces, maps, wideKeys, modest, calm, conditions, laid).
  DERIVED. THE GIVEN ROWS OF THIS SEAT. 11 by the template 'for every input the law returns true; each argument reads behind the call as it read before'; 0 by the template 'total and deterministic' (their statements: YtgcoeahglkpmpaaTotals.lean).
  GIVEN WITH THE SEED: the statements are not yours to turn. If you find one false, say at which input.
  Laid BY PROGRAM, IN A SANDBOX (cutbox-rows.mjs): the forced cells as the released guide's own fill.sh prints them over the translation a9278bce9d6deb42… (all of the seat's roots in one cut). By AI agents, Wed Nov 11 2026. No macro, syntax, notation, axiom, sorry.
-/
import Derived.Test.YtgcoeahglkpmpaaChecked
import GoSem.Claim
import GoSem.ClaimJoined
import GoSem.ClaimMapViews
import Derived.JoinedTies
import Derived.KernelRfl
namespace Go.Proofs.Ytgcoeahglkpmpaa
/- THE CELL 'sum', in the pinned program and in every row, IS THE sha256 OF THE DUMP (.gsa) THAT YtgcoeahglkpmpaaProg.lean LOADS. Nothing in Lean hashes anything: it is a label: what it is worth is what the hold of that sum in a sandbox is worth. -/
noncomputable def Try.pinned : Pinned := { name := "ytgcoeahglkpmpaa", sum := "a9278bce9d6deb42fd043ea500c10ddd222a29a589af969f45a397a2b981867a", checked := Try.checked }
namespace Rows
def none {H : Type} : Left H := { results := [], args := [] }

/-- 'laws.FnExactClassSize': WHATEVER THE INPUT: true; the input reads as it did. -/
def fnExactClassSizeSpec : ChangeSpec := { name := "fnExactClassSize", fn := fun _ => fun
  | [d] => { results := [.lit (.bool true)], args := [d] }
  | _ => none }
def fnExactClassSizeRow : OpenClaim := { program := "ytgcoeahglkpmpaa", sum := "a9278bce9d6deb42fd043ea500c10ddd222a29a589af969f45a397a2b981867a", func := "loop.example/surfacemaps/laws.FnExactClassSize", spec := "fnExactClassSize", apart := false }
def FnExactClassSizeSaid : Prop := fnExactClassSizeRow.holds Try.pinned (OpenSpec.ofChange fnExactClassSizeSpec)

/-- ITS FALSE NEIGHBOUR: 'it returns false'. Refute it at one input. -/
def fnExactClassSizeWrong : ChangeSpec := { name := "fnExactClassSize", fn := fun _ => fun
  | [d] => { results := [.lit (.bool false)], args := [d] }
  | _ => none }
def FnExactClassSizeWrongFalsely : Prop := fnExactClassSizeRow.holds Try.pinned (OpenSpec.ofChange fnExactClassSizeWrong)

/-- 'laws.FnExactGluingGenus': WHATEVER THE INPUT: true; the input reads as it did. -/
def fnExactGluingGenusSpec : ChangeSpec := { name := "fnExactGluingGenus", fn := fun _ => fun
  | [d] => { results := [.lit (.bool true)], args := [d] }
  | _ => none }
def fnExactGluingGenusRow : OpenClaim := { program := "ytgcoeahglkpmpaa", sum := "a9278bce9d6deb42fd043ea500c10ddd222a29a589af969f45a397a2b981867a", func := "loop.example/surfacemaps/laws.FnExactGluingGenus", spec := "fnExactGluingGenus", apart := false }
def FnExactGluingGenusSaid : Prop := fnExactGluingGenusRow.holds Try.pinned (OpenSpec.ofChange fnExactGluingGenusSpec)

/-- ITS FALSE NEIGHBOUR: 'it returns false'. Refute it at one input. -/
def fnExactGluingGenusWrong : ChangeSpec := { name := "fnExactGluingGenus", fn := fun _ => fun
  | [d] => { results := [.lit (.bool false)], args := [d] }
  | _ => none }
def FnExactGluingGenusWrongFalsely : Prop := fnExactGluingGenusRow.holds Try.pinned (OpenSpec.ofChange fnExactGluingGenusWrong)

/-- 'laws.FnChord': WHATEVER THE INPUT: true; the input reads as it did. -/
def fnChordSpec : ChangeSpec := { name := "fnChord", fn := fun _ => fun
  | [d] => { results := [.lit (.bool true)], args := [d] }
  | _ => none }
def fnChordRow : OpenClaim := { program := "ytgcoeahglkpmpaa", sum := "a9278bce9d6deb42fd043ea500c10ddd222a29a589af969f45a397a2b981867a", func := "loop.example/surfacemaps/laws.FnChord", spec := "fnChord", apart := false }
def FnChordSaid : Prop := fnChordRow.holds Try.pinned (OpenSpec.ofChange fnChordSpec)

/-- ITS FALSE NEIGHBOUR: 'it returns false'. Refute it at one input. -/
def fnChordWrong : ChangeSpec := { name := "fnChord", fn := fun _ => fun
  | [d] => { results := [.lit (.bool false)], args := [d] }
  | _ => none }
def FnChordWrongFalsely : Prop := fnChordRow.holds Try.pinned (OpenSpec.ofChange fnChordWrong)

/-- 'laws.FnExactGluingMap': WHATEVER THE INPUT: true; the input reads as it did. -/
def fnExactGluingMapSpec : ChangeSpec := { name := "fnExactGluingMap", fn := fun _ => fun
  | [d] => { results := [.lit (.bool true)], args := [d] }
  | _ => none }
def fnExactGluingMapRow : OpenClaim := { program := "ytgcoeahglkpmpaa", sum := "a9278bce9d6deb42fd043ea500c10ddd222a29a589af969f45a397a2b981867a", func := "loop.example/surfacemaps/laws.FnExactGluingMap", spec := "fnExactGluingMap", apart := false }
def FnExactGluingMapSaid : Prop := fnExactGluingMapRow.holds Try.pinned (OpenSpec.ofChange fnExactGluingMapSpec)

/-- ITS FALSE NEIGHBOUR: 'it returns false'. Refute it at one input. -/
def fnExactGluingMapWrong : ChangeSpec := { name := "fnExactGluingMap", fn := fun _ => fun
  | [d] => { results := [.lit (.bool false)], args := [d] }
  | _ => none }
def FnExactGluingMapWrongFalsely : Prop := fnExactGluingMapRow.holds Try.pinned (OpenSpec.ofChange fnExactGluingMapWrong)

/-- 'laws.FnExactCharDegree': WHATEVER THE INPUT: true; the input reads as it did. -/
def fnExactCharDegreeSpec : ChangeSpec := { name := "fnExactCharDegree", fn := fun _ => fun
  | [d] => { results := [.lit (.bool true)], args := [d] }
  | _ => none }
def fnExactCharDegreeRow : OpenClaim := { program := "ytgcoeahglkpmpaa", sum := "a9278bce9d6deb42fd043ea500c10ddd222a29a589af969f45a397a2b981867a", func := "loop.example/surfacemaps/laws.FnExactCharDegree", spec := "fnExactCharDegree", apart := false }
def FnExactCharDegreeSaid : Prop := fnExactCharDegreeRow.holds Try.pinned (OpenSpec.ofChange fnExactCharDegreeSpec)

/-- ITS FALSE NEIGHBOUR: 'it returns false'. Refute it at one input. -/
def fnExactCharDegreeWrong : ChangeSpec := { name := "fnExactCharDegree", fn := fun _ => fun
  | [d] => { results := [.lit (.bool false)], args := [d] }
  | _ => none }
def FnExactCharDegreeWrongFalsely : Prop := fnExactCharDegreeRow.holds Try.pinned (OpenSpec.ofChange fnExactCharDegreeWrong)

/-- 'laws.FnExactFactorGenus': WHATEVER THE INPUT: true; the input reads as it did. -/
def fnExactFactorGenusSpec : ChangeSpec := { name := "fnExactFactorGenus", fn := fun _ => fun
  | [d] => { results := [.lit (.bool true)], args := [d] }
  | _ => none }
def fnExactFactorGenusRow : OpenClaim := { program := "ytgcoeahglkpmpaa", sum := "a9278bce9d6deb42fd043ea500c10ddd222a29a589af969f45a397a2b981867a", func := "loop.example/surfacemaps/laws.FnExactFactorGenus", spec := "fnExactFactorGenus", apart := false }
def FnExactFactorGenusSaid : Prop := fnExactFactorGenusRow.holds Try.pinned (OpenSpec.ofChange fnExactFactorGenusSpec)

/-- ITS FALSE NEIGHBOUR: 'it returns false'. Refute it at one input. -/
def fnExactFactorGenusWrong : ChangeSpec := { name := "fnExactFactorGenus", fn := fun _ => fun
  | [d] => { results := [.lit (.bool false)], args := [d] }
  | _ => none }
def FnExactFactorGenusWrongFalsely : Prop := fnExactFactorGenusRow.holds Try.pinned (OpenSpec.ofChange fnExactFactorGenusWrong)

/-- 'laws.FnGluingPlanar': WHATEVER THE INPUT: true; the input reads as it did. -/
def fnGluingPlanarSpec : ChangeSpec := { name := "fnGluingPlanar", fn := fun _ => fun
  | [d] => { results := [.lit (.bool true)], args := [d] }
  | _ => none }
def fnGluingPlanarRow : OpenClaim := { program := "ytgcoeahglkpmpaa", sum := "a9278bce9d6deb42fd043ea500c10ddd222a29a589af969f45a397a2b981867a", func := "loop.example/surfacemaps/laws.FnGluingPlanar", spec := "fnGluingPlanar", apart := false }
def FnGluingPlanarSaid : Prop := fnGluingPlanarRow.holds Try.pinned (OpenSpec.ofChange fnGluingPlanarSpec)

/-- ITS FALSE NEIGHBOUR: 'it returns false'. Refute it at one input. -/
def fnGluingPlanarWrong : ChangeSpec := { name := "fnGluingPlanar", fn := fun _ => fun
  | [d] => { results := [.lit (.bool false)], args := [d] }
  | _ => none }
def FnGluingPlanarWrongFalsely : Prop := fnGluingPlanarRow.holds Try.pinned (OpenSpec.ofChange fnGluingPlanarWrong)

/-- 'laws.FnExactCharValue': WHATEVER THE INPUT: true; the input reads as it did. -/
def fnExactCharValueSpec : ChangeSpec := { name := "fnExactCharValue", fn := fun _ => fun
  | [d1, d2] => { results := [.lit (.bool true)], args := [d1, d2] }
  | _ => none }
def fnExactCharValueRow : OpenClaim := { program := "ytgcoeahglkpmpaa", sum := "a9278bce9d6deb42fd043ea500c10ddd222a29a589af969f45a397a2b981867a", func := "loop.example/surfacemaps/laws.FnExactCharValue", spec := "fnExactCharValue", recurses := true, apart := false }
def FnExactCharValueSaid : Prop := fnExactCharValueRow.holds Try.pinned (OpenSpec.ofChange fnExactCharValueSpec)

/-- ITS FALSE NEIGHBOUR: 'it returns false'. Refute it at one input. -/
def fnExactCharValueWrong : ChangeSpec := { name := "fnExactCharValue", fn := fun _ => fun
  | [d1, d2] => { results := [.lit (.bool false)], args := [d1, d2] }
  | _ => none }
def FnExactCharValueWrongFalsely : Prop := fnExactCharValueRow.holds Try.pinned (OpenSpec.ofChange fnExactCharValueWrong)

/-- 'laws.FnPartsConj': WHATEVER THE INPUT: true; the input reads as it did. -/
def fnPartsConjSpec : ChangeSpec := { name := "fnPartsConj", fn := fun _ => fun
  | [d] => { results := [.lit (.bool true)], args := [d] }
  | _ => none }
def fnPartsConjRow : OpenClaim := { program := "ytgcoeahglkpmpaa", sum := "a9278bce9d6deb42fd043ea500c10ddd222a29a589af969f45a397a2b981867a", func := "loop.example/surfacemaps/laws.FnPartsConj", spec := "fnPartsConj", recurses := true, apart := false }
def FnPartsConjSaid : Prop := fnPartsConjRow.holds Try.pinned (OpenSpec.ofChange fnPartsConjSpec)

/-- ITS FALSE NEIGHBOUR: 'it returns false'. Refute it at one input. -/
def fnPartsConjWrong : ChangeSpec := { name := "fnPartsConj", fn := fun _ => fun
  | [d] => { results := [.lit (.bool false)], args := [d] }
  | _ => none }
def FnPartsConjWrongFalsely : Prop := fnPartsConjRow.holds Try.pinned (OpenSpec.ofChange fnPartsConjWrong)

/-- 'laws.FnFactorGenus': WHATEVER THE INPUT: true; the input reads as it did. -/
def fnFactorGenusSpec : ChangeSpec := { name := "fnFactorGenus", fn := fun _ => fun
  | [d] => { results := [.lit (.bool true)], args := [d] }
  | _ => none }
def fnFactorGenusRow : OpenClaim := { program := "ytgcoeahglkpmpaa", sum := "a9278bce9d6deb42fd043ea500c10ddd222a29a589af969f45a397a2b981867a", func := "loop.example/surfacemaps/laws.FnFactorGenus", spec := "fnFactorGenus", unfollowed := true, recurses := true, apart := false }
def FnFactorGenusSaid : Prop := fnFactorGenusRow.holds Try.pinned (OpenSpec.ofChange fnFactorGenusSpec)

/-- ITS FALSE NEIGHBOUR: 'it returns false'. Refute it at one input. -/
def fnFactorGenusWrong : ChangeSpec := { name := "fnFactorGenus", fn := fun _ => fun
  | [d] => { results := [.lit (.bool false)], args := [d] }
  | _ => none }
def FnFactorGenusWrongFalsely : Prop := fnFactorGenusRow.holds Try.pinned (OpenSpec.ofChange fnFactorGenusWrong)

/-- 'laws.FnDegree': WHATEVER THE INPUT: true; the input reads as it did. -/
def fnDegreeSpec : ChangeSpec := { name := "fnDegree", fn := fun _ => fun
  | [d] => { results := [.lit (.bool true)], args := [d] }
  | _ => none }
def fnDegreeRow : OpenClaim := { program := "ytgcoeahglkpmpaa", sum := "a9278bce9d6deb42fd043ea500c10ddd222a29a589af969f45a397a2b981867a", func := "loop.example/surfacemaps/laws.FnDegree", spec := "fnDegree", recurses := true, apart := false }
def FnDegreeSaid : Prop := fnDegreeRow.holds Try.pinned (OpenSpec.ofChange fnDegreeSpec)

/-- ITS FALSE NEIGHBOUR: 'it returns false'. Refute it at one input. -/
def fnDegreeWrong : ChangeSpec := { name := "fnDegree", fn := fun _ => fun
  | [d] => { results := [.lit (.bool false)], args := [d] }
  | _ => none }
def FnDegreeWrongFalsely : Prop := fnDegreeRow.holds Try.pinned (OpenSpec.ofChange fnDegreeWrong)

/- THE SECOND FORM. 'bulk': how many values and letters a reading holds, each counted each time it is reached (what is shared counts as often as it is met; a slice's spare places count too). A statement '..UptoSaid' is the law's where the arguments, and the package variables that the reading takes, are together of bulk at most 1048576: NARROWER than '..Said'. Prove '..Said' where nothing that the law and all that it calls make is longer than what came in: it says more and counts as full. Else prove '..UptoSaid'. A law counts once. -/
mutual
def uptoBulk {H : Type} : DataW H → Nat
  | .lit (.string bytes) => bytes.length + 1
  | .lit _ => 1
  | .nil => 1
  | .ptr d => uptoBulk d + 1
  | .slice elems spare => uptoBulkAll elems + uptoBulkAll spare + 1
  | .agg parts => uptoBulkAll parts + 1
  | .iface _ d => uptoBulk d + 1
  | .map entries => uptoBulkEntries entries + 1
  | .held _ => 1
def uptoBulkAll {H : Type} : List (DataW H) → Nat
  | [] => 0
  | d :: r => uptoBulk d + uptoBulkAll r
def uptoBulkEntries {H : Type} : List (Lit × DataW H) → Nat
  | [] => 0
  | x :: r => uptoBulkEntry x + uptoBulkEntries r
def uptoBulkEntry {H : Type} : Lit × DataW H → Nat
  | (.string bytes, d) => bytes.length + uptoBulk d + 1
  | (_, d) => uptoBulk d + 1
 end
def uptoSmall : (H : Type) → List (DataW H) → Bool := fun _ ds => decide (uptoBulkAll ds ≤ 1048576)
def OpenSpec.upto (s : _root_.Go.ChangeSpec) : _root_.Go.OpenSpec := { _root_.Go.OpenSpec.ofChange s with cond := some uptoSmall }

/-- 'laws.FnExactClassSize', WHERE WHAT IT READS IS OF BULK AT MOST 1048576: true; the input reads as it did. -/
def fnExactClassSizeUptoRow : OpenClaim := { program := "ytgcoeahglkpmpaa", sum := "a9278bce9d6deb42fd043ea500c10ddd222a29a589af969f45a397a2b981867a", func := "loop.example/surfacemaps/laws.FnExactClassSize", spec := "fnExactClassSize", apart := false, narrowed := true }
def FnExactClassSizeUptoSaid : Prop := fnExactClassSizeUptoRow.holds Try.pinned (OpenSpec.upto fnExactClassSizeSpec)

/-- 'laws.FnExactGluingGenus', WHERE WHAT IT READS IS OF BULK AT MOST 1048576: true; the input reads as it did. -/
def fnExactGluingGenusUptoRow : OpenClaim := { program := "ytgcoeahglkpmpaa", sum := "a9278bce9d6deb42fd043ea500c10ddd222a29a589af969f45a397a2b981867a", func := "loop.example/surfacemaps/laws.FnExactGluingGenus", spec := "fnExactGluingGenus", apart := false, narrowed := true }
def FnExactGluingGenusUptoSaid : Prop := fnExactGluingGenusUptoRow.holds Try.pinned (OpenSpec.upto fnExactGluingGenusSpec)

/-- 'laws.FnChord', WHERE WHAT IT READS IS OF BULK AT MOST 1048576: true; the input reads as it did. -/
def fnChordUptoRow : OpenClaim := { program := "ytgcoeahglkpmpaa", sum := "a9278bce9d6deb42fd043ea500c10ddd222a29a589af969f45a397a2b981867a", func := "loop.example/surfacemaps/laws.FnChord", spec := "fnChord", apart := false, narrowed := true }
def FnChordUptoSaid : Prop := fnChordUptoRow.holds Try.pinned (OpenSpec.upto fnChordSpec)

/-- 'laws.FnExactGluingMap', WHERE WHAT IT READS IS OF BULK AT MOST 1048576: true; the input reads as it did. -/
def fnExactGluingMapUptoRow : OpenClaim := { program := "ytgcoeahglkpmpaa", sum := "a9278bce9d6deb42fd043ea500c10ddd222a29a589af969f45a397a2b981867a", func := "loop.example/surfacemaps/laws.FnExactGluingMap", spec := "fnExactGluingMap", apart := false, narrowed := true }
def FnExactGluingMapUptoSaid : Prop := fnExactGluingMapUptoRow.holds Try.pinned (OpenSpec.upto fnExactGluingMapSpec)

/-- 'laws.FnExactCharDegree', WHERE WHAT IT READS IS OF BULK AT MOST 1048576: true; the input reads as it did. -/
def fnExactCharDegreeUptoRow : OpenClaim := { program := "ytgcoeahglkpmpaa", sum := "a9278bce9d6deb42fd043ea500c10ddd222a29a589af969f45a397a2b981867a", func := "loop.example/surfacemaps/laws.FnExactCharDegree", spec := "fnExactCharDegree", apart := false, narrowed := true }
def FnExactCharDegreeUptoSaid : Prop := fnExactCharDegreeUptoRow.holds Try.pinned (OpenSpec.upto fnExactCharDegreeSpec)

/-- 'laws.FnExactFactorGenus', WHERE WHAT IT READS IS OF BULK AT MOST 1048576: true; the input reads as it did. -/
def fnExactFactorGenusUptoRow : OpenClaim := { program := "ytgcoeahglkpmpaa", sum := "a9278bce9d6deb42fd043ea500c10ddd222a29a589af969f45a397a2b981867a", func := "loop.example/surfacemaps/laws.FnExactFactorGenus", spec := "fnExactFactorGenus", apart := false, narrowed := true }
def FnExactFactorGenusUptoSaid : Prop := fnExactFactorGenusUptoRow.holds Try.pinned (OpenSpec.upto fnExactFactorGenusSpec)

/-- 'laws.FnGluingPlanar', WHERE WHAT IT READS IS OF BULK AT MOST 1048576: true; the input reads as it did. -/
def fnGluingPlanarUptoRow : OpenClaim := { program := "ytgcoeahglkpmpaa", sum := "a9278bce9d6deb42fd043ea500c10ddd222a29a589af969f45a397a2b981867a", func := "loop.example/surfacemaps/laws.FnGluingPlanar", spec := "fnGluingPlanar", apart := false, narrowed := true }
def FnGluingPlanarUptoSaid : Prop := fnGluingPlanarUptoRow.holds Try.pinned (OpenSpec.upto fnGluingPlanarSpec)

/-- 'laws.FnExactCharValue', WHERE WHAT IT READS IS OF BULK AT MOST 1048576: true; the input reads as it did. -/
def fnExactCharValueUptoRow : OpenClaim := { program := "ytgcoeahglkpmpaa", sum := "a9278bce9d6deb42fd043ea500c10ddd222a29a589af969f45a397a2b981867a", func := "loop.example/surfacemaps/laws.FnExactCharValue", spec := "fnExactCharValue", recurses := true, apart := false, narrowed := true }
def FnExactCharValueUptoSaid : Prop := fnExactCharValueUptoRow.holds Try.pinned (OpenSpec.upto fnExactCharValueSpec)

/-- 'laws.FnPartsConj', WHERE WHAT IT READS IS OF BULK AT MOST 1048576: true; the input reads as it did. -/
def fnPartsConjUptoRow : OpenClaim := { program := "ytgcoeahglkpmpaa", sum := "a9278bce9d6deb42fd043ea500c10ddd222a29a589af969f45a397a2b981867a", func := "loop.example/surfacemaps/laws.FnPartsConj", spec := "fnPartsConj", recurses := true, apart := false, narrowed := true }
def FnPartsConjUptoSaid : Prop := fnPartsConjUptoRow.holds Try.pinned (OpenSpec.upto fnPartsConjSpec)

/-- 'laws.FnFactorGenus', WHERE WHAT IT READS IS OF BULK AT MOST 1048576: true; the input reads as it did. -/
def fnFactorGenusUptoRow : OpenClaim := { program := "ytgcoeahglkpmpaa", sum := "a9278bce9d6deb42fd043ea500c10ddd222a29a589af969f45a397a2b981867a", func := "loop.example/surfacemaps/laws.FnFactorGenus", spec := "fnFactorGenus", unfollowed := true, recurses := true, apart := false, narrowed := true }
def FnFactorGenusUptoSaid : Prop := fnFactorGenusUptoRow.holds Try.pinned (OpenSpec.upto fnFactorGenusSpec)

/-- 'laws.FnDegree', WHERE WHAT IT READS IS OF BULK AT MOST 1048576: true; the input reads as it did. -/
def fnDegreeUptoRow : OpenClaim := { program := "ytgcoeahglkpmpaa", sum := "a9278bce9d6deb42fd043ea500c10ddd222a29a589af969f45a397a2b981867a", func := "loop.example/surfacemaps/laws.FnDegree", spec := "fnDegree", recurses := true, apart := false, narrowed := true }
def FnDegreeUptoSaid : Prop := fnDegreeUptoRow.holds Try.pinned (OpenSpec.upto fnDegreeSpec)

end Rows
end Go.Proofs.Ytgcoeahglkpmpaa
