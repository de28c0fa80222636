/-
  No cell of these rows narrows 'for every input' (looked for: loops, veiled, ifaces, maps, wideKeys, modest, calm, conditions, laid).
  DERIVED. THE GIVEN ROWS OF THIS SEAT. 12 by the template 'for every input the law returns true; each argument reads behind the call as it read before'; 0 by the template 'total and deterministic' (their statements: YtonlecigglbohaaTotals.lean).
  GIVEN WITH THE SEED: the statements are not yours to turn. If you find one false, say at which input.
  Laid BY PROGRAM, IN A SANDBOX (cutbox-rows.mjs): the forced cells as the released guide's own fill.sh prints them over the translation 0e8c5d3106652d26… (all of the seat's roots in one cut). By AI agents, Wed Nov 11 2026. No macro, syntax, notation, axiom, sorry.
-/
import Derived.Test.YtonlecigglbohaaChecked
import GoSem.Claim
import GoSem.ClaimJoined
import GoSem.ClaimMapViews
import Derived.JoinedTies
import Derived.KernelRfl
namespace Go.Proofs.Ytonlecigglbohaa
/- THE CELL 'sum', in the pinned program and in every row, IS THE sha256 OF THE DUMP (.gsa) THAT YtonlecigglbohaaProg.lean LOADS. Nothing in Lean hashes anything: it is a label: what it is worth is what the hold of that sum in a sandbox is worth. -/
noncomputable def Try.pinned : Pinned := { name := "ytonlecigglbohaa", sum := "0e8c5d3106652d26993bdf056da61fd6b3f0a6431f819130ed1bcf1f49fc64bf", checked := Try.checked }
namespace Rows
def none {H : Type} : Left H := { results := [], args := [] }

/-- 'laws.FnCorners': WHATEVER THE INPUT: true; the input reads as it did. -/
def fnCornersSpec : ChangeSpec := { name := "fnCorners", fn := fun _ => fun
  | [d] => { results := [.lit (.bool true)], args := [d] }
  | _ => none }
def fnCornersRow : OpenClaim := { program := "ytonlecigglbohaa", sum := "0e8c5d3106652d26993bdf056da61fd6b3f0a6431f819130ed1bcf1f49fc64bf", func := "loop.example/surfacemaps/laws.FnCorners", spec := "fnCorners", apart := false }
def FnCornersSaid : Prop := fnCornersRow.holds Try.pinned (OpenSpec.ofChange fnCornersSpec)

/-- ITS FALSE NEIGHBOUR: 'it returns false'. Refute it at one input. -/
def fnCornersWrong : ChangeSpec := { name := "fnCorners", fn := fun _ => fun
  | [d] => { results := [.lit (.bool false)], args := [d] }
  | _ => none }
def FnCornersWrongFalsely : Prop := fnCornersRow.holds Try.pinned (OpenSpec.ofChange fnCornersWrong)

/-- 'laws.FnGluingMap': WHATEVER THE INPUT: true; the input reads as it did. -/
def fnGluingMapSpec : ChangeSpec := { name := "fnGluingMap", fn := fun _ => fun
  | [d] => { results := [.lit (.bool true)], args := [d] }
  | _ => none }
def fnGluingMapRow : OpenClaim := { program := "ytonlecigglbohaa", sum := "0e8c5d3106652d26993bdf056da61fd6b3f0a6431f819130ed1bcf1f49fc64bf", func := "loop.example/surfacemaps/laws.FnGluingMap", spec := "fnGluingMap", apart := false }
def FnGluingMapSaid : Prop := fnGluingMapRow.holds Try.pinned (OpenSpec.ofChange fnGluingMapSpec)

/-- ITS FALSE NEIGHBOUR: 'it returns false'. Refute it at one input. -/
def fnGluingMapWrong : ChangeSpec := { name := "fnGluingMap", fn := fun _ => fun
  | [d] => { results := [.lit (.bool false)], args := [d] }
  | _ => none }
def FnGluingMapWrongFalsely : Prop := fnGluingMapRow.holds Try.pinned (OpenSpec.ofChange fnGluingMapWrong)

/-- 'laws.FnGluingGenus': WHATEVER THE INPUT: true; the input reads as it did. -/
def fnGluingGenusSpec : ChangeSpec := { name := "fnGluingGenus", fn := fun _ => fun
  | [d] => { results := [.lit (.bool true)], args := [d] }
  | _ => none }
def fnGluingGenusRow : OpenClaim := { program := "ytonlecigglbohaa", sum := "0e8c5d3106652d26993bdf056da61fd6b3f0a6431f819130ed1bcf1f49fc64bf", func := "loop.example/surfacemaps/laws.FnGluingGenus", spec := "fnGluingGenus", apart := false }
def FnGluingGenusSaid : Prop := fnGluingGenusRow.holds Try.pinned (OpenSpec.ofChange fnGluingGenusSpec)

/-- ITS FALSE NEIGHBOUR: 'it returns false'. Refute it at one input. -/
def fnGluingGenusWrong : ChangeSpec := { name := "fnGluingGenus", fn := fun _ => fun
  | [d] => { results := [.lit (.bool false)], args := [d] }
  | _ => none }
def FnGluingGenusWrongFalsely : Prop := fnGluingGenusRow.holds Try.pinned (OpenSpec.ofChange fnGluingGenusWrong)

/-- 'laws.FnMap': WHATEVER THE INPUT: true; the input reads as it did. -/
def fnMapSpec : ChangeSpec := { name := "fnMap", fn := fun _ => fun
  | [d] => { results := [.lit (.bool true)], args := [d] }
  | _ => none }
def fnMapRow : OpenClaim := { program := "ytonlecigglbohaa", sum := "0e8c5d3106652d26993bdf056da61fd6b3f0a6431f819130ed1bcf1f49fc64bf", func := "loop.example/surfacemaps/laws.FnMap", spec := "fnMap", apart := false }
def FnMapSaid : Prop := fnMapRow.holds Try.pinned (OpenSpec.ofChange fnMapSpec)

/-- ITS FALSE NEIGHBOUR: 'it returns false'. Refute it at one input. -/
def fnMapWrong : ChangeSpec := { name := "fnMap", fn := fun _ => fun
  | [d] => { results := [.lit (.bool false)], args := [d] }
  | _ => none }
def FnMapWrongFalsely : Prop := fnMapRow.holds Try.pinned (OpenSpec.ofChange fnMapWrong)

/-- 'laws.FnCharValue': WHATEVER THE INPUT: true; the input reads as it did. -/
def fnCharValueSpec : ChangeSpec := { name := "fnCharValue", fn := fun _ => fun
  | [d] => { results := [.lit (.bool true)], args := [d] }
  | _ => none }
def fnCharValueRow : OpenClaim := { program := "ytonlecigglbohaa", sum := "0e8c5d3106652d26993bdf056da61fd6b3f0a6431f819130ed1bcf1f49fc64bf", func := "loop.example/surfacemaps/laws.FnCharValue", spec := "fnCharValue", recurses := true, apart := false }
def FnCharValueSaid : Prop := fnCharValueRow.holds Try.pinned (OpenSpec.ofChange fnCharValueSpec)

/-- ITS FALSE NEIGHBOUR: 'it returns false'. Refute it at one input. -/
def fnCharValueWrong : ChangeSpec := { name := "fnCharValue", fn := fun _ => fun
  | [d] => { results := [.lit (.bool false)], args := [d] }
  | _ => none }
def FnCharValueWrongFalsely : Prop := fnCharValueRow.holds Try.pinned (OpenSpec.ofChange fnCharValueWrong)

/-- 'laws.FnExactGluingOf': WHATEVER THE INPUT: true; the input reads as it did. -/
def fnExactGluingOfSpec : ChangeSpec := { name := "fnExactGluingOf", fn := fun _ => fun
  | [d1, d2] => { results := [.lit (.bool true)], args := [d1, d2] }
  | _ => none }
def fnExactGluingOfRow : OpenClaim := { program := "ytonlecigglbohaa", sum := "0e8c5d3106652d26993bdf056da61fd6b3f0a6431f819130ed1bcf1f49fc64bf", func := "loop.example/surfacemaps/laws.FnExactGluingOf", spec := "fnExactGluingOf", apart := false }
def FnExactGluingOfSaid : Prop := fnExactGluingOfRow.holds Try.pinned (OpenSpec.ofChange fnExactGluingOfSpec)

/-- ITS FALSE NEIGHBOUR: 'it returns false'. Refute it at one input. -/
def fnExactGluingOfWrong : ChangeSpec := { name := "fnExactGluingOf", fn := fun _ => fun
  | [d1, d2] => { results := [.lit (.bool false)], args := [d1, d2] }
  | _ => none }
def FnExactGluingOfWrongFalsely : Prop := fnExactGluingOfRow.holds Try.pinned (OpenSpec.ofChange fnExactGluingOfWrong)

/-- 'laws.FnGluingTurn': WHATEVER THE INPUT: true; the input reads as it did. -/
def fnGluingTurnSpec : ChangeSpec := { name := "fnGluingTurn", fn := fun _ => fun
  | [d] => { results := [.lit (.bool true)], args := [d] }
  | _ => none }
def fnGluingTurnRow : OpenClaim := { program := "ytonlecigglbohaa", sum := "0e8c5d3106652d26993bdf056da61fd6b3f0a6431f819130ed1bcf1f49fc64bf", func := "loop.example/surfacemaps/laws.FnGluingTurn", spec := "fnGluingTurn", apart := false }
def FnGluingTurnSaid : Prop := fnGluingTurnRow.holds Try.pinned (OpenSpec.ofChange fnGluingTurnSpec)

/-- ITS FALSE NEIGHBOUR: 'it returns false'. Refute it at one input. -/
def fnGluingTurnWrong : ChangeSpec := { name := "fnGluingTurn", fn := fun _ => fun
  | [d] => { results := [.lit (.bool false)], args := [d] }
  | _ => none }
def FnGluingTurnWrongFalsely : Prop := fnGluingTurnRow.holds Try.pinned (OpenSpec.ofChange fnGluingTurnWrong)

/-- 'laws.FnGluingOf': WHATEVER THE INPUT: true; the input reads as it did. -/
def fnGluingOfSpec : ChangeSpec := { name := "fnGluingOf", fn := fun _ => fun
  | [d] => { results := [.lit (.bool true)], args := [d] }
  | _ => none }
def fnGluingOfRow : OpenClaim := { program := "ytonlecigglbohaa", sum := "0e8c5d3106652d26993bdf056da61fd6b3f0a6431f819130ed1bcf1f49fc64bf", func := "loop.example/surfacemaps/laws.FnGluingOf", spec := "fnGluingOf", apart := false }
def FnGluingOfSaid : Prop := fnGluingOfRow.holds Try.pinned (OpenSpec.ofChange fnGluingOfSpec)

/-- ITS FALSE NEIGHBOUR: 'it returns false'. Refute it at one input. -/
def fnGluingOfWrong : ChangeSpec := { name := "fnGluingOf", fn := fun _ => fun
  | [d] => { results := [.lit (.bool false)], args := [d] }
  | _ => none }
def FnGluingOfWrongFalsely : Prop := fnGluingOfRow.holds Try.pinned (OpenSpec.ofChange fnGluingOfWrong)

/-- 'laws.FnType': WHATEVER THE INPUT: true; the input reads as it did. -/
def fnTypeSpec : ChangeSpec := { name := "fnType", fn := fun _ => fun
  | [d1, d2] => { results := [.lit (.bool true)], args := [d1, d2] }
  | _ => none }
def fnTypeRow : OpenClaim := { program := "ytonlecigglbohaa", sum := "0e8c5d3106652d26993bdf056da61fd6b3f0a6431f819130ed1bcf1f49fc64bf", func := "loop.example/surfacemaps/laws.FnType", spec := "fnType", recurses := true, apart := false }
def FnTypeSaid : Prop := fnTypeRow.holds Try.pinned (OpenSpec.ofChange fnTypeSpec)

/-- ITS FALSE NEIGHBOUR: 'it returns false'. Refute it at one input. -/
def fnTypeWrong : ChangeSpec := { name := "fnType", fn := fun _ => fun
  | [d1, d2] => { results := [.lit (.bool false)], args := [d1, d2] }
  | _ => none }
def FnTypeWrongFalsely : Prop := fnTypeRow.holds Try.pinned (OpenSpec.ofChange fnTypeWrong)

/-- 'laws.FnParts': WHATEVER THE INPUT: true; the input reads as it did. -/
def fnPartsSpec : ChangeSpec := { name := "fnParts", fn := fun _ => fun
  | [d] => { results := [.lit (.bool true)], args := [d] }
  | _ => none }
def fnPartsRow : OpenClaim := { program := "ytonlecigglbohaa", sum := "0e8c5d3106652d26993bdf056da61fd6b3f0a6431f819130ed1bcf1f49fc64bf", func := "loop.example/surfacemaps/laws.FnParts", spec := "fnParts", unfollowed := true, recurses := true, apart := false }
def FnPartsSaid : Prop := fnPartsRow.holds Try.pinned (OpenSpec.ofChange fnPartsSpec)

/-- ITS FALSE NEIGHBOUR: 'it returns false'. Refute it at one input. -/
def fnPartsWrong : ChangeSpec := { name := "fnParts", fn := fun _ => fun
  | [d] => { results := [.lit (.bool false)], args := [d] }
  | _ => none }
def FnPartsWrongFalsely : Prop := fnPartsRow.holds Try.pinned (OpenSpec.ofChange fnPartsWrong)

/-- 'laws.FnClassSize': WHATEVER THE INPUT: true; the input reads as it did. -/
def fnClassSizeSpec : ChangeSpec := { name := "fnClassSize", fn := fun _ => fun
  | [d] => { results := [.lit (.bool true)], args := [d] }
  | _ => none }
def fnClassSizeRow : OpenClaim := { program := "ytonlecigglbohaa", sum := "0e8c5d3106652d26993bdf056da61fd6b3f0a6431f819130ed1bcf1f49fc64bf", func := "loop.example/surfacemaps/laws.FnClassSize", spec := "fnClassSize", recurses := true, apart := false }
def FnClassSizeSaid : Prop := fnClassSizeRow.holds Try.pinned (OpenSpec.ofChange fnClassSizeSpec)

/-- ITS FALSE NEIGHBOUR: 'it returns false'. Refute it at one input. -/
def fnClassSizeWrong : ChangeSpec := { name := "fnClassSize", fn := fun _ => fun
  | [d] => { results := [.lit (.bool false)], args := [d] }
  | _ => none }
def FnClassSizeWrongFalsely : Prop := fnClassSizeRow.holds Try.pinned (OpenSpec.ofChange fnClassSizeWrong)

/-- 'laws.FnClassFirst': WHATEVER THE INPUT: true; the input reads as it did. -/
def fnClassFirstSpec : ChangeSpec := { name := "fnClassFirst", fn := fun _ => fun
  | [d] => { results := [.lit (.bool true)], args := [d] }
  | _ => none }
def fnClassFirstRow : OpenClaim := { program := "ytonlecigglbohaa", sum := "0e8c5d3106652d26993bdf056da61fd6b3f0a6431f819130ed1bcf1f49fc64bf", func := "loop.example/surfacemaps/laws.FnClassFirst", spec := "fnClassFirst", recurses := true, apart := false }
def FnClassFirstSaid : Prop := fnClassFirstRow.holds Try.pinned (OpenSpec.ofChange fnClassFirstSpec)

/-- ITS FALSE NEIGHBOUR: 'it returns false'. Refute it at one input. -/
def fnClassFirstWrong : ChangeSpec := { name := "fnClassFirst", fn := fun _ => fun
  | [d] => { results := [.lit (.bool false)], args := [d] }
  | _ => none }
def FnClassFirstWrongFalsely : Prop := fnClassFirstRow.holds Try.pinned (OpenSpec.ofChange fnClassFirstWrong)

/- THE SECOND FORM. 'bulk': how many values and letters a reading holds, each counted each time it is reached (what is shared counts as often as it is met; a slice's spare places count too). A statement '..UptoSaid' is the law's where the arguments, and the package variables that the reading takes, are together of bulk at most 1048576: NARROWER than '..Said'. Prove '..Said' where nothing that the law and all that it calls make is longer than what came in: it says more and counts as full. Else prove '..UptoSaid'. A law counts once. -/
mutual
def uptoBulk {H : Type} : DataW H → Nat
  | .lit (.string bytes) => bytes.length + 1
  | .lit _ => 1
  | .nil => 1
  | .ptr d => uptoBulk d + 1
  | .slice elems spare => uptoBulkAll elems + uptoBulkAll spare + 1
  | .agg parts => uptoBulkAll parts + 1
  | .iface _ d => uptoBulk d + 1
  | .map entries => uptoBulkEntries entries + 1
  | .held _ => 1
def uptoBulkAll {H : Type} : List (DataW H) → Nat
  | [] => 0
  | d :: r => uptoBulk d + uptoBulkAll r
def uptoBulkEntries {H : Type} : List (Lit × DataW H) → Nat
  | [] => 0
  | x :: r => uptoBulkEntry x + uptoBulkEntries r
def uptoBulkEntry {H : Type} : Lit × DataW H → Nat
  | (.string bytes, d) => bytes.length + uptoBulk d + 1
  | (_, d) => uptoBulk d + 1
 end
def uptoSmall : (H : Type) → List (DataW H) → Bool := fun _ ds => decide (uptoBulkAll ds ≤ 1048576)
def OpenSpec.upto (s : _root_.Go.ChangeSpec) : _root_.Go.OpenSpec := { _root_.Go.OpenSpec.ofChange s with cond := some uptoSmall }

/-- 'laws.FnCorners', WHERE WHAT IT READS IS OF BULK AT MOST 1048576: true; the input reads as it did. -/
def fnCornersUptoRow : OpenClaim := { program := "ytonlecigglbohaa", sum := "0e8c5d3106652d26993bdf056da61fd6b3f0a6431f819130ed1bcf1f49fc64bf", func := "loop.example/surfacemaps/laws.FnCorners", spec := "fnCorners", apart := false, narrowed := true }
def FnCornersUptoSaid : Prop := fnCornersUptoRow.holds Try.pinned (OpenSpec.upto fnCornersSpec)

/-- 'laws.FnGluingMap', WHERE WHAT IT READS IS OF BULK AT MOST 1048576: true; the input reads as it did. -/
def fnGluingMapUptoRow : OpenClaim := { program := "ytonlecigglbohaa", sum := "0e8c5d3106652d26993bdf056da61fd6b3f0a6431f819130ed1bcf1f49fc64bf", func := "loop.example/surfacemaps/laws.FnGluingMap", spec := "fnGluingMap", apart := false, narrowed := true }
def FnGluingMapUptoSaid : Prop := fnGluingMapUptoRow.holds Try.pinned (OpenSpec.upto fnGluingMapSpec)

/-- 'laws.FnGluingGenus', WHERE WHAT IT READS IS OF BULK AT MOST 1048576: true; the input reads as it did. -/
def fnGluingGenusUptoRow : OpenClaim := { program := "ytonlecigglbohaa", sum := "0e8c5d3106652d26993bdf056da61fd6b3f0a6431f819130ed1bcf1f49fc64bf", func := "loop.example/surfacemaps/laws.FnGluingGenus", spec := "fnGluingGenus", apart := false, narrowed := true }
def FnGluingGenusUptoSaid : Prop := fnGluingGenusUptoRow.holds Try.pinned (OpenSpec.upto fnGluingGenusSpec)

/-- 'laws.FnMap', WHERE WHAT IT READS IS OF BULK AT MOST 1048576: true; the input reads as it did. -/
def fnMapUptoRow : OpenClaim := { program := "ytonlecigglbohaa", sum := "0e8c5d3106652d26993bdf056da61fd6b3f0a6431f819130ed1bcf1f49fc64bf", func := "loop.example/surfacemaps/laws.FnMap", spec := "fnMap", apart := false, narrowed := true }
def FnMapUptoSaid : Prop := fnMapUptoRow.holds Try.pinned (OpenSpec.upto fnMapSpec)

/-- 'laws.FnCharValue', WHERE WHAT IT READS IS OF BULK AT MOST 1048576: true; the input reads as it did. -/
def fnCharValueUptoRow : OpenClaim := { program := "ytonlecigglbohaa", sum := "0e8c5d3106652d26993bdf056da61fd6b3f0a6431f819130ed1bcf1f49fc64bf", func := "loop.example/surfacemaps/laws.FnCharValue", spec := "fnCharValue", recurses := true, apart := false, narrowed := true }
def FnCharValueUptoSaid : Prop := fnCharValueUptoRow.holds Try.pinned (OpenSpec.upto fnCharValueSpec)

/-- 'laws.FnExactGluingOf', WHERE WHAT IT READS IS OF BULK AT MOST 1048576: true; the input reads as it did. -/
def fnExactGluingOfUptoRow : OpenClaim := { program := "ytonlecigglbohaa", sum := "0e8c5d3106652d26993bdf056da61fd6b3f0a6431f819130ed1bcf1f49fc64bf", func := "loop.example/surfacemaps/laws.FnExactGluingOf", spec := "fnExactGluingOf", apart := false, narrowed := true }
def FnExactGluingOfUptoSaid : Prop := fnExactGluingOfUptoRow.holds Try.pinned (OpenSpec.upto fnExactGluingOfSpec)

/-- 'laws.FnGluingTurn', WHERE WHAT IT READS IS OF BULK AT MOST 1048576: true; the input reads as it did. -/
def fnGluingTurnUptoRow : OpenClaim := { program := "ytonlecigglbohaa", sum := "0e8c5d3106652d26993bdf056da61fd6b3f0a6431f819130ed1bcf1f49fc64bf", func := "loop.example/surfacemaps/laws.FnGluingTurn", spec := "fnGluingTurn", apart := false, narrowed := true }
def FnGluingTurnUptoSaid : Prop := fnGluingTurnUptoRow.holds Try.pinned (OpenSpec.upto fnGluingTurnSpec)

/-- 'laws.FnGluingOf', WHERE WHAT IT READS IS OF BULK AT MOST 1048576: true; the input reads as it did. -/
def fnGluingOfUptoRow : OpenClaim := { program := "ytonlecigglbohaa", sum := "0e8c5d3106652d26993bdf056da61fd6b3f0a6431f819130ed1bcf1f49fc64bf", func := "loop.example/surfacemaps/laws.FnGluingOf", spec := "fnGluingOf", apart := false, narrowed := true }
def FnGluingOfUptoSaid : Prop := fnGluingOfUptoRow.holds Try.pinned (OpenSpec.upto fnGluingOfSpec)

/-- 'laws.FnType', WHERE WHAT IT READS IS OF BULK AT MOST 1048576: true; the input reads as it did. -/
def fnTypeUptoRow : OpenClaim := { program := "ytonlecigglbohaa", sum := "0e8c5d3106652d26993bdf056da61fd6b3f0a6431f819130ed1bcf1f49fc64bf", func := "loop.example/surfacemaps/laws.FnType", spec := "fnType", recurses := true, apart := false, narrowed := true }
def FnTypeUptoSaid : Prop := fnTypeUptoRow.holds Try.pinned (OpenSpec.upto fnTypeSpec)

/-- 'laws.FnParts', WHERE WHAT IT READS IS OF BULK AT MOST 1048576: true; the input reads as it did. -/
def fnPartsUptoRow : OpenClaim := { program := "ytonlecigglbohaa", sum := "0e8c5d3106652d26993bdf056da61fd6b3f0a6431f819130ed1bcf1f49fc64bf", func := "loop.example/surfacemaps/laws.FnParts", spec := "fnParts", unfollowed := true, recurses := true, apart := false, narrowed := true }
def FnPartsUptoSaid : Prop := fnPartsUptoRow.holds Try.pinned (OpenSpec.upto fnPartsSpec)

/-- 'laws.FnClassSize', WHERE WHAT IT READS IS OF BULK AT MOST 1048576: true; the input reads as it did. -/
def fnClassSizeUptoRow : OpenClaim := { program := "ytonlecigglbohaa", sum := "0e8c5d3106652d26993bdf056da61fd6b3f0a6431f819130ed1bcf1f49fc64bf", func := "loop.example/surfacemaps/laws.FnClassSize", spec := "fnClassSize", recurses := true, apart := false, narrowed := true }
def FnClassSizeUptoSaid : Prop := fnClassSizeUptoRow.holds Try.pinned (OpenSpec.upto fnClassSizeSpec)

/-- 'laws.FnClassFirst', WHERE WHAT IT READS IS OF BULK AT MOST 1048576: true; the input reads as it did. -/
def fnClassFirstUptoRow : OpenClaim := { program := "ytonlecigglbohaa", sum := "0e8c5d3106652d26993bdf056da61fd6b3f0a6431f819130ed1bcf1f49fc64bf", func := "loop.example/surfacemaps/laws.FnClassFirst", spec := "fnClassFirst", recurses := true, apart := false, narrowed := true }
def FnClassFirstUptoSaid : Prop := fnClassFirstUptoRow.holds Try.pinned (OpenSpec.upto fnClassFirstSpec)

end Rows
end Go.Proofs.Ytonlecigglbohaa
