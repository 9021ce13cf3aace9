/-
  No cell of these rows narrows 'for every input' (looked for: loops, veiled, ifaces, maps, wideKeys, modest, calm, conditions, laid).
  DERIVED. THE GIVEN ROWS OF THIS SEAT. 16 by the template 'for every input the law returns true; each argument reads behind the call as it read before'; 0 by the template 'total and deterministic' (their statements: YtamdpfnmclkljaaTotals.lean).
  GIVEN WITH THE SEED: the statements are not yours to turn. If you find one false, say at which input.
  Laid BY PROGRAM, IN A SANDBOX (cutbox-rows.mjs): the forced cells as the released guide's own fill.sh prints them over the translation 300e6a7f4050c460… (all of the seat's roots in one cut). By AI agents, Wed Nov 11 2026. No macro, syntax, notation, axiom, sorry.
-/
import Derived.Test.YtamdpfnmclkljaaChecked
import GoSem.Claim
import GoSem.ClaimJoined
import GoSem.ClaimMapViews
import Derived.JoinedTies
import Derived.KernelRfl
namespace Go.Proofs.Ytamdpfnmclkljaa
/- THE CELL 'sum', in the pinned program and in every row, IS THE sha256 OF THE DUMP (.gsa) THAT YtamdpfnmclkljaaProg.lean LOADS. Nothing in Lean hashes anything: it is a label: what it is worth is what the hold of that sum in a sandbox is worth. -/
noncomputable def Try.pinned : Pinned := { name := "ytamdpfnmclkljaa", sum := "300e6a7f4050c460d679b6333d6d8c1ff5ed5ad4d20f2b946be8f92a2af52d70", checked := Try.checked }
namespace Rows
def none {H : Type} : Left H := { results := [], args := [] }

/-- 'laws.FnExactMultipleOf': WHATEVER THE INPUT: true; the input reads as it did. -/
def fnExactMultipleOfSpec : ChangeSpec := { name := "fnExactMultipleOf", fn := fun _ => fun
  | [d1, d2] => { results := [.lit (.bool true)], args := [d1, d2] }
  | _ => none }
def fnExactMultipleOfRow : OpenClaim := { program := "ytamdpfnmclkljaa", sum := "300e6a7f4050c460d679b6333d6d8c1ff5ed5ad4d20f2b946be8f92a2af52d70", func := "loop.example/g01152/laws.FnExactMultipleOf", spec := "fnExactMultipleOf", unfollowed := true, recurses := true, named := ["math/bits.divideError", "math/bits.overflowError"], apart := false }
def FnExactMultipleOfSaid : Prop := fnExactMultipleOfRow.holds Try.pinned (OpenSpec.ofChange fnExactMultipleOfSpec)

/-- ITS FALSE NEIGHBOUR: 'it returns false'. Refute it at one input. -/
def fnExactMultipleOfWrong : ChangeSpec := { name := "fnExactMultipleOf", fn := fun _ => fun
  | [d1, d2] => { results := [.lit (.bool false)], args := [d1, d2] }
  | _ => none }
def FnExactMultipleOfWrongFalsely : Prop := fnExactMultipleOfRow.holds Try.pinned (OpenSpec.ofChange fnExactMultipleOfWrong)

/-- 'laws.FnExactMultipleUnder': WHATEVER THE INPUT: true; the input reads as it did. -/
def fnExactMultipleUnderSpec : ChangeSpec := { name := "fnExactMultipleUnder", fn := fun _ => fun
  | [d1, d2, d3] => { results := [.lit (.bool true)], args := [d1, d2, d3] }
  | _ => none }
def fnExactMultipleUnderRow : OpenClaim := { program := "ytamdpfnmclkljaa", sum := "300e6a7f4050c460d679b6333d6d8c1ff5ed5ad4d20f2b946be8f92a2af52d70", func := "loop.example/g01152/laws.FnExactMultipleUnder", spec := "fnExactMultipleUnder", unfollowed := true, recurses := true, named := ["math/bits.divideError", "math/bits.overflowError"], apart := false }
def FnExactMultipleUnderSaid : Prop := fnExactMultipleUnderRow.holds Try.pinned (OpenSpec.ofChange fnExactMultipleUnderSpec)

/-- ITS FALSE NEIGHBOUR: 'it returns false'. Refute it at one input. -/
def fnExactMultipleUnderWrong : ChangeSpec := { name := "fnExactMultipleUnder", fn := fun _ => fun
  | [d1, d2, d3] => { results := [.lit (.bool false)], args := [d1, d2, d3] }
  | _ => none }
def FnExactMultipleUnderWrongFalsely : Prop := fnExactMultipleUnderRow.holds Try.pinned (OpenSpec.ofChange fnExactMultipleUnderWrong)

/-- 'laws.FnExactOrderOfMultiple': WHATEVER THE INPUT: true; the input reads as it did. -/
def fnExactOrderOfMultipleSpec : ChangeSpec := { name := "fnExactOrderOfMultiple", fn := fun _ => fun
  | [d1, d2] => { results := [.lit (.bool true)], args := [d1, d2] }
  | _ => none }
def fnExactOrderOfMultipleRow : OpenClaim := { program := "ytamdpfnmclkljaa", sum := "300e6a7f4050c460d679b6333d6d8c1ff5ed5ad4d20f2b946be8f92a2af52d70", func := "loop.example/g01152/laws.FnExactOrderOfMultiple", spec := "fnExactOrderOfMultiple", unfollowed := true, recurses := true, named := ["math/bits.divideError", "math/bits.overflowError"], apart := false }
def FnExactOrderOfMultipleSaid : Prop := fnExactOrderOfMultipleRow.holds Try.pinned (OpenSpec.ofChange fnExactOrderOfMultipleSpec)

/-- ITS FALSE NEIGHBOUR: 'it returns false'. Refute it at one input. -/
def fnExactOrderOfMultipleWrong : ChangeSpec := { name := "fnExactOrderOfMultiple", fn := fun _ => fun
  | [d1, d2] => { results := [.lit (.bool false)], args := [d1, d2] }
  | _ => none }
def FnExactOrderOfMultipleWrongFalsely : Prop := fnExactOrderOfMultipleRow.holds Try.pinned (OpenSpec.ofChange fnExactOrderOfMultipleWrong)

/-- 'laws.FnExactHasseOfLaw': WHATEVER THE INPUT: true; the input reads as it did. -/
def fnExactHasseOfLawSpec : ChangeSpec := { name := "fnExactHasseOfLaw", fn := fun _ => fun
  | [d] => { results := [.lit (.bool true)], args := [d] }
  | _ => none }
def fnExactHasseOfLawRow : OpenClaim := { program := "ytamdpfnmclkljaa", sum := "300e6a7f4050c460d679b6333d6d8c1ff5ed5ad4d20f2b946be8f92a2af52d70", func := "loop.example/g01152/laws.FnExactHasseOfLaw", spec := "fnExactHasseOfLaw", unfollowed := true, recurses := true, named := ["math/bits.divideError", "math/bits.overflowError"], apart := false }
def FnExactHasseOfLawSaid : Prop := fnExactHasseOfLawRow.holds Try.pinned (OpenSpec.ofChange fnExactHasseOfLawSpec)

/-- ITS FALSE NEIGHBOUR: 'it returns false'. Refute it at one input. -/
def fnExactHasseOfLawWrong : ChangeSpec := { name := "fnExactHasseOfLaw", fn := fun _ => fun
  | [d] => { results := [.lit (.bool false)], args := [d] }
  | _ => none }
def FnExactHasseOfLawWrongFalsely : Prop := fnExactHasseOfLawRow.holds Try.pinned (OpenSpec.ofChange fnExactHasseOfLawWrong)

/-- 'laws.FnExactHeightOf': WHATEVER THE INPUT: true; the input reads as it did. -/
def fnExactHeightOfSpec : ChangeSpec := { name := "fnExactHeightOf", fn := fun _ => fun
  | [d] => { results := [.lit (.bool true)], args := [d] }
  | _ => none }
def fnExactHeightOfRow : OpenClaim := { program := "ytamdpfnmclkljaa", sum := "300e6a7f4050c460d679b6333d6d8c1ff5ed5ad4d20f2b946be8f92a2af52d70", func := "loop.example/g01152/laws.FnExactHeightOf", spec := "fnExactHeightOf", unfollowed := true, recurses := true, named := ["math/bits.divideError", "math/bits.overflowError"], apart := false }
def FnExactHeightOfSaid : Prop := fnExactHeightOfRow.holds Try.pinned (OpenSpec.ofChange fnExactHeightOfSpec)

/-- ITS FALSE NEIGHBOUR: 'it returns false'. Refute it at one input. -/
def fnExactHeightOfWrong : ChangeSpec := { name := "fnExactHeightOf", fn := fun _ => fun
  | [d] => { results := [.lit (.bool false)], args := [d] }
  | _ => none }
def FnExactHeightOfWrongFalsely : Prop := fnExactHeightOfRow.holds Try.pinned (OpenSpec.ofChange fnExactHeightOfWrong)

/-- 'laws.FnExactUnitOfHeight': WHATEVER THE INPUT: true; the input reads as it did. -/
def fnExactUnitOfHeightSpec : ChangeSpec := { name := "fnExactUnitOfHeight", fn := fun _ => fun
  | [d] => { results := [.lit (.bool true)], args := [d] }
  | _ => none }
def fnExactUnitOfHeightRow : OpenClaim := { program := "ytamdpfnmclkljaa", sum := "300e6a7f4050c460d679b6333d6d8c1ff5ed5ad4d20f2b946be8f92a2af52d70", func := "loop.example/g01152/laws.FnExactUnitOfHeight", spec := "fnExactUnitOfHeight", unfollowed := true, recurses := true, named := ["math/bits.divideError", "math/bits.overflowError"], apart := false }
def FnExactUnitOfHeightSaid : Prop := fnExactUnitOfHeightRow.holds Try.pinned (OpenSpec.ofChange fnExactUnitOfHeightSpec)

/-- ITS FALSE NEIGHBOUR: 'it returns false'. Refute it at one input. -/
def fnExactUnitOfHeightWrong : ChangeSpec := { name := "fnExactUnitOfHeight", fn := fun _ => fun
  | [d] => { results := [.lit (.bool false)], args := [d] }
  | _ => none }
def FnExactUnitOfHeightWrongFalsely : Prop := fnExactUnitOfHeightRow.holds Try.pinned (OpenSpec.ofChange fnExactUnitOfHeightWrong)

/-- 'laws.FnExactSeriesOfHeight': WHATEVER THE INPUT: true; the input reads as it did. -/
def fnExactSeriesOfHeightSpec : ChangeSpec := { name := "fnExactSeriesOfHeight", fn := fun _ => fun
  | [d] => { results := [.lit (.bool true)], args := [d] }
  | _ => none }
def fnExactSeriesOfHeightRow : OpenClaim := { program := "ytamdpfnmclkljaa", sum := "300e6a7f4050c460d679b6333d6d8c1ff5ed5ad4d20f2b946be8f92a2af52d70", func := "loop.example/g01152/laws.FnExactSeriesOfHeight", spec := "fnExactSeriesOfHeight", unfollowed := true, recurses := true, named := ["math/bits.divideError", "math/bits.overflowError"], apart := false }
def FnExactSeriesOfHeightSaid : Prop := fnExactSeriesOfHeightRow.holds Try.pinned (OpenSpec.ofChange fnExactSeriesOfHeightSpec)

/-- ITS FALSE NEIGHBOUR: 'it returns false'. Refute it at one input. -/
def fnExactSeriesOfHeightWrong : ChangeSpec := { name := "fnExactSeriesOfHeight", fn := fun _ => fun
  | [d] => { results := [.lit (.bool false)], args := [d] }
  | _ => none }
def FnExactSeriesOfHeightWrongFalsely : Prop := fnExactSeriesOfHeightRow.holds Try.pinned (OpenSpec.ofChange fnExactSeriesOfHeightWrong)

/-- 'laws.FnExactAreSameHeight': WHATEVER THE INPUT: true; the input reads as it did. -/
def fnExactAreSameHeightSpec : ChangeSpec := { name := "fnExactAreSameHeight", fn := fun _ => fun
  | [d1, d2] => { results := [.lit (.bool true)], args := [d1, d2] }
  | _ => none }
def fnExactAreSameHeightRow : OpenClaim := { program := "ytamdpfnmclkljaa", sum := "300e6a7f4050c460d679b6333d6d8c1ff5ed5ad4d20f2b946be8f92a2af52d70", func := "loop.example/g01152/laws.FnExactAreSameHeight", spec := "fnExactAreSameHeight", unfollowed := true, recurses := true, named := ["math/bits.divideError", "math/bits.overflowError"], apart := false }
def FnExactAreSameHeightSaid : Prop := fnExactAreSameHeightRow.holds Try.pinned (OpenSpec.ofChange fnExactAreSameHeightSpec)

/-- ITS FALSE NEIGHBOUR: 'it returns false'. Refute it at one input. -/
def fnExactAreSameHeightWrong : ChangeSpec := { name := "fnExactAreSameHeight", fn := fun _ => fun
  | [d1, d2] => { results := [.lit (.bool false)], args := [d1, d2] }
  | _ => none }
def FnExactAreSameHeightWrongFalsely : Prop := fnExactAreSameHeightRow.holds Try.pinned (OpenSpec.ofChange fnExactAreSameHeightWrong)

/-- 'laws.FnExactRankOfKernel': WHATEVER THE INPUT: true; the input reads as it did. -/
def fnExactRankOfKernelSpec : ChangeSpec := { name := "fnExactRankOfKernel", fn := fun _ => fun
  | [d] => { results := [.lit (.bool true)], args := [d] }
  | _ => none }
def fnExactRankOfKernelRow : OpenClaim := { program := "ytamdpfnmclkljaa", sum := "300e6a7f4050c460d679b6333d6d8c1ff5ed5ad4d20f2b946be8f92a2af52d70", func := "loop.example/g01152/laws.FnExactRankOfKernel", spec := "fnExactRankOfKernel", unfollowed := true, recurses := true, named := ["math/bits.divideError", "math/bits.overflowError"], apart := false }
def FnExactRankOfKernelSaid : Prop := fnExactRankOfKernelRow.holds Try.pinned (OpenSpec.ofChange fnExactRankOfKernelSpec)

/-- ITS FALSE NEIGHBOUR: 'it returns false'. Refute it at one input. -/
def fnExactRankOfKernelWrong : ChangeSpec := { name := "fnExactRankOfKernel", fn := fun _ => fun
  | [d] => { results := [.lit (.bool false)], args := [d] }
  | _ => none }
def FnExactRankOfKernelWrongFalsely : Prop := fnExactRankOfKernelRow.holds Try.pinned (OpenSpec.ofChange fnExactRankOfKernelWrong)

/-- 'laws.FnExactSumOfPoints': WHATEVER THE INPUT: true; the input reads as it did. -/
def fnExactSumOfPointsSpec : ChangeSpec := { name := "fnExactSumOfPoints", fn := fun _ => fun
  | [d1, d2, d3] => { results := [.lit (.bool true)], args := [d1, d2, d3] }
  | _ => none }
def fnExactSumOfPointsRow : OpenClaim := { program := "ytamdpfnmclkljaa", sum := "300e6a7f4050c460d679b6333d6d8c1ff5ed5ad4d20f2b946be8f92a2af52d70", func := "loop.example/g01152/laws.FnExactSumOfPoints", spec := "fnExactSumOfPoints", unfollowed := true, recurses := true, named := ["math/bits.divideError", "math/bits.overflowError"], apart := false }
def FnExactSumOfPointsSaid : Prop := fnExactSumOfPointsRow.holds Try.pinned (OpenSpec.ofChange fnExactSumOfPointsSpec)

/-- ITS FALSE NEIGHBOUR: 'it returns false'. Refute it at one input. -/
def fnExactSumOfPointsWrong : ChangeSpec := { name := "fnExactSumOfPoints", fn := fun _ => fun
  | [d1, d2, d3] => { results := [.lit (.bool false)], args := [d1, d2, d3] }
  | _ => none }
def FnExactSumOfPointsWrongFalsely : Prop := fnExactSumOfPointsRow.holds Try.pinned (OpenSpec.ofChange fnExactSumOfPointsWrong)

/-- 'laws.FnExactOppositePoint': WHATEVER THE INPUT: true; the input reads as it did. -/
def fnExactOppositePointSpec : ChangeSpec := { name := "fnExactOppositePoint", fn := fun _ => fun
  | [d1, d2] => { results := [.lit (.bool true)], args := [d1, d2] }
  | _ => none }
def fnExactOppositePointRow : OpenClaim := { program := "ytamdpfnmclkljaa", sum := "300e6a7f4050c460d679b6333d6d8c1ff5ed5ad4d20f2b946be8f92a2af52d70", func := "loop.example/g01152/laws.FnExactOppositePoint", spec := "fnExactOppositePoint", unfollowed := true, recurses := true, named := ["math/bits.divideError", "math/bits.overflowError"], apart := false }
def FnExactOppositePointSaid : Prop := fnExactOppositePointRow.holds Try.pinned (OpenSpec.ofChange fnExactOppositePointSpec)

/-- ITS FALSE NEIGHBOUR: 'it returns false'. Refute it at one input. -/
def fnExactOppositePointWrong : ChangeSpec := { name := "fnExactOppositePoint", fn := fun _ => fun
  | [d1, d2] => { results := [.lit (.bool false)], args := [d1, d2] }
  | _ => none }
def FnExactOppositePointWrongFalsely : Prop := fnExactOppositePointRow.holds Try.pinned (OpenSpec.ofChange fnExactOppositePointWrong)

/-- 'laws.FnExactMultipleOfPoint': WHATEVER THE INPUT: true; the input reads as it did. -/
def fnExactMultipleOfPointSpec : ChangeSpec := { name := "fnExactMultipleOfPoint", fn := fun _ => fun
  | [d1, d2, d3] => { results := [.lit (.bool true)], args := [d1, d2, d3] }
  | _ => none }
def fnExactMultipleOfPointRow : OpenClaim := { program := "ytamdpfnmclkljaa", sum := "300e6a7f4050c460d679b6333d6d8c1ff5ed5ad4d20f2b946be8f92a2af52d70", func := "loop.example/g01152/laws.FnExactMultipleOfPoint", spec := "fnExactMultipleOfPoint", unfollowed := true, recurses := true, named := ["math/bits.divideError", "math/bits.overflowError"], apart := false }
def FnExactMultipleOfPointSaid : Prop := fnExactMultipleOfPointRow.holds Try.pinned (OpenSpec.ofChange fnExactMultipleOfPointSpec)

/-- ITS FALSE NEIGHBOUR: 'it returns false'. Refute it at one input. -/
def fnExactMultipleOfPointWrong : ChangeSpec := { name := "fnExactMultipleOfPoint", fn := fun _ => fun
  | [d1, d2, d3] => { results := [.lit (.bool false)], args := [d1, d2, d3] }
  | _ => none }
def FnExactMultipleOfPointWrongFalsely : Prop := fnExactMultipleOfPointRow.holds Try.pinned (OpenSpec.ofChange fnExactMultipleOfPointWrong)

/-- 'laws.FnExactOrderOfPointUnder': WHATEVER THE INPUT: true; the input reads as it did. -/
def fnExactOrderOfPointUnderSpec : ChangeSpec := { name := "fnExactOrderOfPointUnder", fn := fun _ => fun
  | [d1, d2] => { results := [.lit (.bool true)], args := [d1, d2] }
  | _ => none }
def fnExactOrderOfPointUnderRow : OpenClaim := { program := "ytamdpfnmclkljaa", sum := "300e6a7f4050c460d679b6333d6d8c1ff5ed5ad4d20f2b946be8f92a2af52d70", func := "loop.example/g01152/laws.FnExactOrderOfPointUnder", spec := "fnExactOrderOfPointUnder", unfollowed := true, recurses := true, named := ["math/bits.divideError", "math/bits.overflowError"], apart := false }
def FnExactOrderOfPointUnderSaid : Prop := fnExactOrderOfPointUnderRow.holds Try.pinned (OpenSpec.ofChange fnExactOrderOfPointUnderSpec)

/-- ITS FALSE NEIGHBOUR: 'it returns false'. Refute it at one input. -/
def fnExactOrderOfPointUnderWrong : ChangeSpec := { name := "fnExactOrderOfPointUnder", fn := fun _ => fun
  | [d1, d2] => { results := [.lit (.bool false)], args := [d1, d2] }
  | _ => none }
def FnExactOrderOfPointUnderWrongFalsely : Prop := fnExactOrderOfPointUnderRow.holds Try.pinned (OpenSpec.ofChange fnExactOrderOfPointUnderWrong)

/-- 'laws.FnExactAntipodeOf': WHATEVER THE INPUT: true; the input reads as it did. -/
def fnExactAntipodeOfSpec : ChangeSpec := { name := "fnExactAntipodeOf", fn := fun _ => fun
  | [d] => { results := [.lit (.bool true)], args := [d] }
  | _ => none }
def fnExactAntipodeOfRow : OpenClaim := { program := "ytamdpfnmclkljaa", sum := "300e6a7f4050c460d679b6333d6d8c1ff5ed5ad4d20f2b946be8f92a2af52d70", func := "loop.example/g01152/laws.FnExactAntipodeOf", spec := "fnExactAntipodeOf", unfollowed := true, recurses := true, named := ["math/bits.divideError", "math/bits.overflowError"], apart := false }
def FnExactAntipodeOfSaid : Prop := fnExactAntipodeOfRow.holds Try.pinned (OpenSpec.ofChange fnExactAntipodeOfSpec)

/-- ITS FALSE NEIGHBOUR: 'it returns false'. Refute it at one input. -/
def fnExactAntipodeOfWrong : ChangeSpec := { name := "fnExactAntipodeOf", fn := fun _ => fun
  | [d] => { results := [.lit (.bool false)], args := [d] }
  | _ => none }
def FnExactAntipodeOfWrongFalsely : Prop := fnExactAntipodeOfRow.holds Try.pinned (OpenSpec.ofChange fnExactAntipodeOfWrong)

/-- 'laws.FnExactCountKilled': WHATEVER THE INPUT: true; the input reads as it did. -/
def fnExactCountKilledSpec : ChangeSpec := { name := "fnExactCountKilled", fn := fun _ => fun
  | [d1, d2, d3] => { results := [.lit (.bool true)], args := [d1, d2, d3] }
  | _ => none }
def fnExactCountKilledRow : OpenClaim := { program := "ytamdpfnmclkljaa", sum := "300e6a7f4050c460d679b6333d6d8c1ff5ed5ad4d20f2b946be8f92a2af52d70", func := "loop.example/g01152/laws.FnExactCountKilled", spec := "fnExactCountKilled", unfollowed := true, recurses := true, named := ["math/bits.divideError", "math/bits.overflowError"], apart := false }
def FnExactCountKilledSaid : Prop := fnExactCountKilledRow.holds Try.pinned (OpenSpec.ofChange fnExactCountKilledSpec)

/-- ITS FALSE NEIGHBOUR: 'it returns false'. Refute it at one input. -/
def fnExactCountKilledWrong : ChangeSpec := { name := "fnExactCountKilled", fn := fun _ => fun
  | [d1, d2, d3] => { results := [.lit (.bool false)], args := [d1, d2, d3] }
  | _ => none }
def FnExactCountKilledWrongFalsely : Prop := fnExactCountKilledRow.holds Try.pinned (OpenSpec.ofChange fnExactCountKilledWrong)

/-- 'laws.FnExactIsomorphismOf': WHATEVER THE INPUT: true; the input reads as it did. -/
def fnExactIsomorphismOfSpec : ChangeSpec := { name := "fnExactIsomorphismOf", fn := fun _ => fun
  | [d1, d2] => { results := [.lit (.bool true)], args := [d1, d2] }
  | _ => none }
def fnExactIsomorphismOfRow : OpenClaim := { program := "ytamdpfnmclkljaa", sum := "300e6a7f4050c460d679b6333d6d8c1ff5ed5ad4d20f2b946be8f92a2af52d70", func := "loop.example/g01152/laws.FnExactIsomorphismOf", spec := "fnExactIsomorphismOf", unfollowed := true, recurses := true, named := ["math/bits.divideError", "math/bits.overflowError"], apart := false }
def FnExactIsomorphismOfSaid : Prop := fnExactIsomorphismOfRow.holds Try.pinned (OpenSpec.ofChange fnExactIsomorphismOfSpec)

/-- ITS FALSE NEIGHBOUR: 'it returns false'. Refute it at one input. -/
def fnExactIsomorphismOfWrong : ChangeSpec := { name := "fnExactIsomorphismOf", fn := fun _ => fun
  | [d1, d2] => { results := [.lit (.bool false)], args := [d1, d2] }
  | _ => none }
def FnExactIsomorphismOfWrongFalsely : Prop := fnExactIsomorphismOfRow.holds Try.pinned (OpenSpec.ofChange fnExactIsomorphismOfWrong)

/- THE SECOND FORM. 'bulk': how many values and letters a reading holds, each counted each time it is reached (what is shared counts as often as it is met; a slice's spare places count too). A statement '..UptoSaid' is the law's where the arguments, and the package variables that the reading takes, are together of bulk at most 1048576: NARROWER than '..Said'. Prove '..Said' where nothing that the law and all that it calls make is longer than what came in: it says more and counts as full. Else prove '..UptoSaid'. A law counts once. -/
mutual
def uptoBulk {H : Type} : DataW H → Nat
  | .lit (.string bytes) => bytes.length + 1
  | .lit _ => 1
  | .nil => 1
  | .ptr d => uptoBulk d + 1
  | .slice elems spare => uptoBulkAll elems + uptoBulkAll spare + 1
  | .agg parts => uptoBulkAll parts + 1
  | .iface _ d => uptoBulk d + 1
  | .map entries => uptoBulkEntries entries + 1
  | .held _ => 1
def uptoBulkAll {H : Type} : List (DataW H) → Nat
  | [] => 0
  | d :: r => uptoBulk d + uptoBulkAll r
def uptoBulkEntries {H : Type} : List (Lit × DataW H) → Nat
  | [] => 0
  | x :: r => uptoBulkEntry x + uptoBulkEntries r
def uptoBulkEntry {H : Type} : Lit × DataW H → Nat
  | (.string bytes, d) => bytes.length + uptoBulk d + 1
  | (_, d) => uptoBulk d + 1
 end
def uptoSmall : (H : Type) → List (DataW H) → Bool := fun _ ds => decide (uptoBulkAll ds ≤ 1048576)
def OpenSpec.upto (s : _root_.Go.ChangeSpec) : _root_.Go.OpenSpec := { _root_.Go.OpenSpec.ofChange s with cond := some uptoSmall }

/-- 'laws.FnExactMultipleOf', WHERE WHAT IT READS IS OF BULK AT MOST 1048576: true; the input reads as it did. -/
def fnExactMultipleOfUptoRow : OpenClaim := { program := "ytamdpfnmclkljaa", sum := "300e6a7f4050c460d679b6333d6d8c1ff5ed5ad4d20f2b946be8f92a2af52d70", func := "loop.example/g01152/laws.FnExactMultipleOf", spec := "fnExactMultipleOf", unfollowed := true, recurses := true, named := ["math/bits.divideError", "math/bits.overflowError"], apart := false, narrowed := true }
def FnExactMultipleOfUptoSaid : Prop := fnExactMultipleOfUptoRow.holds Try.pinned (OpenSpec.upto fnExactMultipleOfSpec)

/-- 'laws.FnExactMultipleUnder', WHERE WHAT IT READS IS OF BULK AT MOST 1048576: true; the input reads as it did. -/
def fnExactMultipleUnderUptoRow : OpenClaim := { program := "ytamdpfnmclkljaa", sum := "300e6a7f4050c460d679b6333d6d8c1ff5ed5ad4d20f2b946be8f92a2af52d70", func := "loop.example/g01152/laws.FnExactMultipleUnder", spec := "fnExactMultipleUnder", unfollowed := true, recurses := true, named := ["math/bits.divideError", "math/bits.overflowError"], apart := false, narrowed := true }
def FnExactMultipleUnderUptoSaid : Prop := fnExactMultipleUnderUptoRow.holds Try.pinned (OpenSpec.upto fnExactMultipleUnderSpec)

/-- 'laws.FnExactOrderOfMultiple', WHERE WHAT IT READS IS OF BULK AT MOST 1048576: true; the input reads as it did. -/
def fnExactOrderOfMultipleUptoRow : OpenClaim := { program := "ytamdpfnmclkljaa", sum := "300e6a7f4050c460d679b6333d6d8c1ff5ed5ad4d20f2b946be8f92a2af52d70", func := "loop.example/g01152/laws.FnExactOrderOfMultiple", spec := "fnExactOrderOfMultiple", unfollowed := true, recurses := true, named := ["math/bits.divideError", "math/bits.overflowError"], apart := false, narrowed := true }
def FnExactOrderOfMultipleUptoSaid : Prop := fnExactOrderOfMultipleUptoRow.holds Try.pinned (OpenSpec.upto fnExactOrderOfMultipleSpec)

/-- 'laws.FnExactHasseOfLaw', WHERE WHAT IT READS IS OF BULK AT MOST 1048576: true; the input reads as it did. -/
def fnExactHasseOfLawUptoRow : OpenClaim := { program := "ytamdpfnmclkljaa", sum := "300e6a7f4050c460d679b6333d6d8c1ff5ed5ad4d20f2b946be8f92a2af52d70", func := "loop.example/g01152/laws.FnExactHasseOfLaw", spec := "fnExactHasseOfLaw", unfollowed := true, recurses := true, named := ["math/bits.divideError", "math/bits.overflowError"], apart := false, narrowed := true }
def FnExactHasseOfLawUptoSaid : Prop := fnExactHasseOfLawUptoRow.holds Try.pinned (OpenSpec.upto fnExactHasseOfLawSpec)

/-- 'laws.FnExactHeightOf', WHERE WHAT IT READS IS OF BULK AT MOST 1048576: true; the input reads as it did. -/
def fnExactHeightOfUptoRow : OpenClaim := { program := "ytamdpfnmclkljaa", sum := "300e6a7f4050c460d679b6333d6d8c1ff5ed5ad4d20f2b946be8f92a2af52d70", func := "loop.example/g01152/laws.FnExactHeightOf", spec := "fnExactHeightOf", unfollowed := true, recurses := true, named := ["math/bits.divideError", "math/bits.overflowError"], apart := false, narrowed := true }
def FnExactHeightOfUptoSaid : Prop := fnExactHeightOfUptoRow.holds Try.pinned (OpenSpec.upto fnExactHeightOfSpec)

/-- 'laws.FnExactUnitOfHeight', WHERE WHAT IT READS IS OF BULK AT MOST 1048576: true; the input reads as it did. -/
def fnExactUnitOfHeightUptoRow : OpenClaim := { program := "ytamdpfnmclkljaa", sum := "300e6a7f4050c460d679b6333d6d8c1ff5ed5ad4d20f2b946be8f92a2af52d70", func := "loop.example/g01152/laws.FnExactUnitOfHeight", spec := "fnExactUnitOfHeight", unfollowed := true, recurses := true, named := ["math/bits.divideError", "math/bits.overflowError"], apart := false, narrowed := true }
def FnExactUnitOfHeightUptoSaid : Prop := fnExactUnitOfHeightUptoRow.holds Try.pinned (OpenSpec.upto fnExactUnitOfHeightSpec)

/-- 'laws.FnExactSeriesOfHeight', WHERE WHAT IT READS IS OF BULK AT MOST 1048576: true; the input reads as it did. -/
def fnExactSeriesOfHeightUptoRow : OpenClaim := { program := "ytamdpfnmclkljaa", sum := "300e6a7f4050c460d679b6333d6d8c1ff5ed5ad4d20f2b946be8f92a2af52d70", func := "loop.example/g01152/laws.FnExactSeriesOfHeight", spec := "fnExactSeriesOfHeight", unfollowed := true, recurses := true, named := ["math/bits.divideError", "math/bits.overflowError"], apart := false, narrowed := true }
def FnExactSeriesOfHeightUptoSaid : Prop := fnExactSeriesOfHeightUptoRow.holds Try.pinned (OpenSpec.upto fnExactSeriesOfHeightSpec)

/-- 'laws.FnExactAreSameHeight', WHERE WHAT IT READS IS OF BULK AT MOST 1048576: true; the input reads as it did. -/
def fnExactAreSameHeightUptoRow : OpenClaim := { program := "ytamdpfnmclkljaa", sum := "300e6a7f4050c460d679b6333d6d8c1ff5ed5ad4d20f2b946be8f92a2af52d70", func := "loop.example/g01152/laws.FnExactAreSameHeight", spec := "fnExactAreSameHeight", unfollowed := true, recurses := true, named := ["math/bits.divideError", "math/bits.overflowError"], apart := false, narrowed := true }
def FnExactAreSameHeightUptoSaid : Prop := fnExactAreSameHeightUptoRow.holds Try.pinned (OpenSpec.upto fnExactAreSameHeightSpec)

/-- 'laws.FnExactRankOfKernel', WHERE WHAT IT READS IS OF BULK AT MOST 1048576: true; the input reads as it did. -/
def fnExactRankOfKernelUptoRow : OpenClaim := { program := "ytamdpfnmclkljaa", sum := "300e6a7f4050c460d679b6333d6d8c1ff5ed5ad4d20f2b946be8f92a2af52d70", func := "loop.example/g01152/laws.FnExactRankOfKernel", spec := "fnExactRankOfKernel", unfollowed := true, recurses := true, named := ["math/bits.divideError", "math/bits.overflowError"], apart := false, narrowed := true }
def FnExactRankOfKernelUptoSaid : Prop := fnExactRankOfKernelUptoRow.holds Try.pinned (OpenSpec.upto fnExactRankOfKernelSpec)

/-- 'laws.FnExactSumOfPoints', WHERE WHAT IT READS IS OF BULK AT MOST 1048576: true; the input reads as it did. -/
def fnExactSumOfPointsUptoRow : OpenClaim := { program := "ytamdpfnmclkljaa", sum := "300e6a7f4050c460d679b6333d6d8c1ff5ed5ad4d20f2b946be8f92a2af52d70", func := "loop.example/g01152/laws.FnExactSumOfPoints", spec := "fnExactSumOfPoints", unfollowed := true, recurses := true, named := ["math/bits.divideError", "math/bits.overflowError"], apart := false, narrowed := true }
def FnExactSumOfPointsUptoSaid : Prop := fnExactSumOfPointsUptoRow.holds Try.pinned (OpenSpec.upto fnExactSumOfPointsSpec)

/-- 'laws.FnExactOppositePoint', WHERE WHAT IT READS IS OF BULK AT MOST 1048576: true; the input reads as it did. -/
def fnExactOppositePointUptoRow : OpenClaim := { program := "ytamdpfnmclkljaa", sum := "300e6a7f4050c460d679b6333d6d8c1ff5ed5ad4d20f2b946be8f92a2af52d70", func := "loop.example/g01152/laws.FnExactOppositePoint", spec := "fnExactOppositePoint", unfollowed := true, recurses := true, named := ["math/bits.divideError", "math/bits.overflowError"], apart := false, narrowed := true }
def FnExactOppositePointUptoSaid : Prop := fnExactOppositePointUptoRow.holds Try.pinned (OpenSpec.upto fnExactOppositePointSpec)

/-- 'laws.FnExactMultipleOfPoint', WHERE WHAT IT READS IS OF BULK AT MOST 1048576: true; the input reads as it did. -/
def fnExactMultipleOfPointUptoRow : OpenClaim := { program := "ytamdpfnmclkljaa", sum := "300e6a7f4050c460d679b6333d6d8c1ff5ed5ad4d20f2b946be8f92a2af52d70", func := "loop.example/g01152/laws.FnExactMultipleOfPoint", spec := "fnExactMultipleOfPoint", unfollowed := true, recurses := true, named := ["math/bits.divideError", "math/bits.overflowError"], apart := false, narrowed := true }
def FnExactMultipleOfPointUptoSaid : Prop := fnExactMultipleOfPointUptoRow.holds Try.pinned (OpenSpec.upto fnExactMultipleOfPointSpec)

/-- 'laws.FnExactOrderOfPointUnder', WHERE WHAT IT READS IS OF BULK AT MOST 1048576: true; the input reads as it did. -/
def fnExactOrderOfPointUnderUptoRow : OpenClaim := { program := "ytamdpfnmclkljaa", sum := "300e6a7f4050c460d679b6333d6d8c1ff5ed5ad4d20f2b946be8f92a2af52d70", func := "loop.example/g01152/laws.FnExactOrderOfPointUnder", spec := "fnExactOrderOfPointUnder", unfollowed := true, recurses := true, named := ["math/bits.divideError", "math/bits.overflowError"], apart := false, narrowed := true }
def FnExactOrderOfPointUnderUptoSaid : Prop := fnExactOrderOfPointUnderUptoRow.holds Try.pinned (OpenSpec.upto fnExactOrderOfPointUnderSpec)

/-- 'laws.FnExactAntipodeOf', WHERE WHAT IT READS IS OF BULK AT MOST 1048576: true; the input reads as it did. -/
def fnExactAntipodeOfUptoRow : OpenClaim := { program := "ytamdpfnmclkljaa", sum := "300e6a7f4050c460d679b6333d6d8c1ff5ed5ad4d20f2b946be8f92a2af52d70", func := "loop.example/g01152/laws.FnExactAntipodeOf", spec := "fnExactAntipodeOf", unfollowed := true, recurses := true, named := ["math/bits.divideError", "math/bits.overflowError"], apart := false, narrowed := true }
def FnExactAntipodeOfUptoSaid : Prop := fnExactAntipodeOfUptoRow.holds Try.pinned (OpenSpec.upto fnExactAntipodeOfSpec)

/-- 'laws.FnExactCountKilled', WHERE WHAT IT READS IS OF BULK AT MOST 1048576: true; the input reads as it did. -/
def fnExactCountKilledUptoRow : OpenClaim := { program := "ytamdpfnmclkljaa", sum := "300e6a7f4050c460d679b6333d6d8c1ff5ed5ad4d20f2b946be8f92a2af52d70", func := "loop.example/g01152/laws.FnExactCountKilled", spec := "fnExactCountKilled", unfollowed := true, recurses := true, named := ["math/bits.divideError", "math/bits.overflowError"], apart := false, narrowed := true }
def FnExactCountKilledUptoSaid : Prop := fnExactCountKilledUptoRow.holds Try.pinned (OpenSpec.upto fnExactCountKilledSpec)

/-- 'laws.FnExactIsomorphismOf', WHERE WHAT IT READS IS OF BULK AT MOST 1048576: true; the input reads as it did. -/
def fnExactIsomorphismOfUptoRow : OpenClaim := { program := "ytamdpfnmclkljaa", sum := "300e6a7f4050c460d679b6333d6d8c1ff5ed5ad4d20f2b946be8f92a2af52d70", func := "loop.example/g01152/laws.FnExactIsomorphismOf", spec := "fnExactIsomorphismOf", unfollowed := true, recurses := true, named := ["math/bits.divideError", "math/bits.overflowError"], apart := false, narrowed := true }
def FnExactIsomorphismOfUptoSaid : Prop := fnExactIsomorphismOfUptoRow.holds Try.pinned (OpenSpec.upto fnExactIsomorphismOfSpec)

end Rows
end Go.Proofs.Ytamdpfnmclkljaa
