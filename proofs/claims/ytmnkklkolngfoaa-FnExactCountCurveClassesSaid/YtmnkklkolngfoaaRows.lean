/-
  No cell of these rows narrows 'for every input' (looked for: loops, veiled, ifaces, maps, wideKeys, modest, calm, conditions, laid).
  DERIVED. THE GIVEN ROWS OF THIS SEAT. 14 by the template 'for every input the law returns true; each argument reads behind the call as it read before'; 0 by the template 'total and deterministic' (their statements: YtmnkklkolngfoaaTotals.lean).
  GIVEN WITH THE SEED: the statements are not yours to turn. If you find one false, say at which input.
  Laid BY PROGRAM, IN A SANDBOX (cutbox-rows.mjs): the forced cells as the released guide's own fill.sh prints them over the translation ff9a2ce5198e10f1… (all of the seat's roots in one cut). By AI agents, Wed Nov 11 2026. No macro, syntax, notation, axiom, sorry.
-/
import Derived.Test.YtmnkklkolngfoaaChecked
import GoSem.Claim
import GoSem.ClaimJoined
import GoSem.ClaimMapViews
import Derived.JoinedTies
import Derived.KernelRfl
namespace Go.Proofs.Ytmnkklkolngfoaa
/- THE CELL 'sum', in the pinned program and in every row, IS THE sha256 OF THE DUMP (.gsa) THAT YtmnkklkolngfoaaProg.lean LOADS. Nothing in Lean hashes anything: it is a label: what it is worth is what the hold of that sum in a sandbox is worth. -/
noncomputable def Try.pinned : Pinned := { name := "ytmnkklkolngfoaa", sum := "ff9a2ce5198e10f1c056a5b2b9d1247f522e9ddafb75cf407115e5f68c5682ce", checked := Try.checked }
namespace Rows
def none {H : Type} : Left H := { results := [], args := [] }

/-- 'laws.FnExactCountCurveClasses': WHATEVER THE INPUT: true; the input reads as it did. -/
def fnExactCountCurveClassesSpec : ChangeSpec := { name := "fnExactCountCurveClasses", fn := fun _ => fun
  | [d] => { results := [.lit (.bool true)], args := [d] }
  | _ => none }
def fnExactCountCurveClassesRow : OpenClaim := { program := "ytmnkklkolngfoaa", sum := "ff9a2ce5198e10f1c056a5b2b9d1247f522e9ddafb75cf407115e5f68c5682ce", func := "loop.example/g01152/laws.FnExactCountCurveClasses", spec := "fnExactCountCurveClasses", apart := false }
def FnExactCountCurveClassesSaid : Prop := fnExactCountCurveClassesRow.holds Try.pinned (OpenSpec.ofChange fnExactCountCurveClassesSpec)

/-- ITS FALSE NEIGHBOUR: 'it returns false'. Refute it at one input. -/
def fnExactCountCurveClassesWrong : ChangeSpec := { name := "fnExactCountCurveClasses", fn := fun _ => fun
  | [d] => { results := [.lit (.bool false)], args := [d] }
  | _ => none }
def FnExactCountCurveClassesWrongFalsely : Prop := fnExactCountCurveClassesRow.holds Try.pinned (OpenSpec.ofChange fnExactCountCurveClassesWrong)

/-- 'laws.FnExactIsEllipticCurve': WHATEVER THE INPUT: true; the input reads as it did. -/
def fnExactIsEllipticCurveSpec : ChangeSpec := { name := "fnExactIsEllipticCurve", fn := fun _ => fun
  | [d1, d2, d3] => { results := [.lit (.bool true)], args := [d1, d2, d3] }
  | _ => none }
def fnExactIsEllipticCurveRow : OpenClaim := { program := "ytmnkklkolngfoaa", sum := "ff9a2ce5198e10f1c056a5b2b9d1247f522e9ddafb75cf407115e5f68c5682ce", func := "loop.example/g01152/laws.FnExactIsEllipticCurve", spec := "fnExactIsEllipticCurve", unfollowed := true, recurses := true, named := ["math/bits.divideError", "math/bits.overflowError"], apart := false }
def FnExactIsEllipticCurveSaid : Prop := fnExactIsEllipticCurveRow.holds Try.pinned (OpenSpec.ofChange fnExactIsEllipticCurveSpec)

/-- ITS FALSE NEIGHBOUR: 'it returns false'. Refute it at one input. -/
def fnExactIsEllipticCurveWrong : ChangeSpec := { name := "fnExactIsEllipticCurve", fn := fun _ => fun
  | [d1, d2, d3] => { results := [.lit (.bool false)], args := [d1, d2, d3] }
  | _ => none }
def FnExactIsEllipticCurveWrongFalsely : Prop := fnExactIsEllipticCurveRow.holds Try.pinned (OpenSpec.ofChange fnExactIsEllipticCurveWrong)

/-- 'laws.FnExactTwistOfCurve': WHATEVER THE INPUT: true; the input reads as it did. -/
def fnExactTwistOfCurveSpec : ChangeSpec := { name := "fnExactTwistOfCurve", fn := fun _ => fun
  | [d1, d2, d3] => { results := [.lit (.bool true)], args := [d1, d2, d3] }
  | _ => none }
def fnExactTwistOfCurveRow : OpenClaim := { program := "ytmnkklkolngfoaa", sum := "ff9a2ce5198e10f1c056a5b2b9d1247f522e9ddafb75cf407115e5f68c5682ce", func := "loop.example/g01152/laws.FnExactTwistOfCurve", spec := "fnExactTwistOfCurve", unfollowed := true, recurses := true, named := ["math/bits.divideError", "math/bits.overflowError"], apart := false }
def FnExactTwistOfCurveSaid : Prop := fnExactTwistOfCurveRow.holds Try.pinned (OpenSpec.ofChange fnExactTwistOfCurveSpec)

/-- ITS FALSE NEIGHBOUR: 'it returns false'. Refute it at one input. -/
def fnExactTwistOfCurveWrong : ChangeSpec := { name := "fnExactTwistOfCurve", fn := fun _ => fun
  | [d1, d2, d3] => { results := [.lit (.bool false)], args := [d1, d2, d3] }
  | _ => none }
def FnExactTwistOfCurveWrongFalsely : Prop := fnExactTwistOfCurveRow.holds Try.pinned (OpenSpec.ofChange fnExactTwistOfCurveWrong)

/-- 'laws.FnExactCountPoints': WHATEVER THE INPUT: true; the input reads as it did. -/
def fnExactCountPointsSpec : ChangeSpec := { name := "fnExactCountPoints", fn := fun _ => fun
  | [d1, d2, d3] => { results := [.lit (.bool true)], args := [d1, d2, d3] }
  | _ => none }
def fnExactCountPointsRow : OpenClaim := { program := "ytmnkklkolngfoaa", sum := "ff9a2ce5198e10f1c056a5b2b9d1247f522e9ddafb75cf407115e5f68c5682ce", func := "loop.example/g01152/laws.FnExactCountPoints", spec := "fnExactCountPoints", unfollowed := true, recurses := true, named := ["math/bits.divideError", "math/bits.overflowError"], apart := false }
def FnExactCountPointsSaid : Prop := fnExactCountPointsRow.holds Try.pinned (OpenSpec.ofChange fnExactCountPointsSpec)

/-- ITS FALSE NEIGHBOUR: 'it returns false'. Refute it at one input. -/
def fnExactCountPointsWrong : ChangeSpec := { name := "fnExactCountPoints", fn := fun _ => fun
  | [d1, d2, d3] => { results := [.lit (.bool false)], args := [d1, d2, d3] }
  | _ => none }
def FnExactCountPointsWrongFalsely : Prop := fnExactCountPointsRow.holds Try.pinned (OpenSpec.ofChange fnExactCountPointsWrong)

/-- 'laws.FnExactTraceOf': WHATEVER THE INPUT: true; the input reads as it did. -/
def fnExactTraceOfSpec : ChangeSpec := { name := "fnExactTraceOf", fn := fun _ => fun
  | [d1, d2, d3] => { results := [.lit (.bool true)], args := [d1, d2, d3] }
  | _ => none }
def fnExactTraceOfRow : OpenClaim := { program := "ytmnkklkolngfoaa", sum := "ff9a2ce5198e10f1c056a5b2b9d1247f522e9ddafb75cf407115e5f68c5682ce", func := "loop.example/g01152/laws.FnExactTraceOf", spec := "fnExactTraceOf", unfollowed := true, recurses := true, named := ["math/bits.divideError", "math/bits.overflowError"], apart := false }
def FnExactTraceOfSaid : Prop := fnExactTraceOfRow.holds Try.pinned (OpenSpec.ofChange fnExactTraceOfSpec)

/-- ITS FALSE NEIGHBOUR: 'it returns false'. Refute it at one input. -/
def fnExactTraceOfWrong : ChangeSpec := { name := "fnExactTraceOf", fn := fun _ => fun
  | [d1, d2, d3] => { results := [.lit (.bool false)], args := [d1, d2, d3] }
  | _ => none }
def FnExactTraceOfWrongFalsely : Prop := fnExactTraceOfRow.holds Try.pinned (OpenSpec.ofChange fnExactTraceOfWrong)

/-- 'laws.FnExactIsSupersingular': WHATEVER THE INPUT: true; the input reads as it did. -/
def fnExactIsSupersingularSpec : ChangeSpec := { name := "fnExactIsSupersingular", fn := fun _ => fun
  | [d1, d2, d3] => { results := [.lit (.bool true)], args := [d1, d2, d3] }
  | _ => none }
def fnExactIsSupersingularRow : OpenClaim := { program := "ytmnkklkolngfoaa", sum := "ff9a2ce5198e10f1c056a5b2b9d1247f522e9ddafb75cf407115e5f68c5682ce", func := "loop.example/g01152/laws.FnExactIsSupersingular", spec := "fnExactIsSupersingular", unfollowed := true, recurses := true, named := ["math/bits.divideError", "math/bits.overflowError"], apart := false }
def FnExactIsSupersingularSaid : Prop := fnExactIsSupersingularRow.holds Try.pinned (OpenSpec.ofChange fnExactIsSupersingularSpec)

/-- ITS FALSE NEIGHBOUR: 'it returns false'. Refute it at one input. -/
def fnExactIsSupersingularWrong : ChangeSpec := { name := "fnExactIsSupersingular", fn := fun _ => fun
  | [d1, d2, d3] => { results := [.lit (.bool false)], args := [d1, d2, d3] }
  | _ => none }
def FnExactIsSupersingularWrongFalsely : Prop := fnExactIsSupersingularRow.holds Try.pinned (OpenSpec.ofChange fnExactIsSupersingularWrong)

/-- 'laws.FnExactAreIsomorphicCurves': WHATEVER THE INPUT: true; the input reads as it did. -/
def fnExactAreIsomorphicCurvesSpec : ChangeSpec := { name := "fnExactAreIsomorphicCurves", fn := fun _ => fun
  | [d1, d2, d3, d4, d5] => { results := [.lit (.bool true)], args := [d1, d2, d3, d4, d5] }
  | _ => none }
def fnExactAreIsomorphicCurvesRow : OpenClaim := { program := "ytmnkklkolngfoaa", sum := "ff9a2ce5198e10f1c056a5b2b9d1247f522e9ddafb75cf407115e5f68c5682ce", func := "loop.example/g01152/laws.FnExactAreIsomorphicCurves", spec := "fnExactAreIsomorphicCurves", unfollowed := true, recurses := true, named := ["math/bits.divideError", "math/bits.overflowError"], apart := false }
def FnExactAreIsomorphicCurvesSaid : Prop := fnExactAreIsomorphicCurvesRow.holds Try.pinned (OpenSpec.ofChange fnExactAreIsomorphicCurvesSpec)

/-- ITS FALSE NEIGHBOUR: 'it returns false'. Refute it at one input. -/
def fnExactAreIsomorphicCurvesWrong : ChangeSpec := { name := "fnExactAreIsomorphicCurves", fn := fun _ => fun
  | [d1, d2, d3, d4, d5] => { results := [.lit (.bool false)], args := [d1, d2, d3, d4, d5] }
  | _ => none }
def FnExactAreIsomorphicCurvesWrongFalsely : Prop := fnExactAreIsomorphicCurvesRow.holds Try.pinned (OpenSpec.ofChange fnExactAreIsomorphicCurvesWrong)

/-- 'laws.FnExactHasseCoefficient': WHATEVER THE INPUT: true; the input reads as it did. -/
def fnExactHasseCoefficientSpec : ChangeSpec := { name := "fnExactHasseCoefficient", fn := fun _ => fun
  | [d1, d2, d3] => { results := [.lit (.bool true)], args := [d1, d2, d3] }
  | _ => none }
def fnExactHasseCoefficientRow : OpenClaim := { program := "ytmnkklkolngfoaa", sum := "ff9a2ce5198e10f1c056a5b2b9d1247f522e9ddafb75cf407115e5f68c5682ce", func := "loop.example/g01152/laws.FnExactHasseCoefficient", spec := "fnExactHasseCoefficient", unfollowed := true, recurses := true, named := ["math/bits.divideError", "math/bits.overflowError"], apart := false }
def FnExactHasseCoefficientSaid : Prop := fnExactHasseCoefficientRow.holds Try.pinned (OpenSpec.ofChange fnExactHasseCoefficientSpec)

/-- ITS FALSE NEIGHBOUR: 'it returns false'. Refute it at one input. -/
def fnExactHasseCoefficientWrong : ChangeSpec := { name := "fnExactHasseCoefficient", fn := fun _ => fun
  | [d1, d2, d3] => { results := [.lit (.bool false)], args := [d1, d2, d3] }
  | _ => none }
def FnExactHasseCoefficientWrongFalsely : Prop := fnExactHasseCoefficientRow.holds Try.pinned (OpenSpec.ofChange fnExactHasseCoefficientWrong)

/-- 'laws.FnExactInvariantOfCurve': WHATEVER THE INPUT: true; the input reads as it did. -/
def fnExactInvariantOfCurveSpec : ChangeSpec := { name := "fnExactInvariantOfCurve", fn := fun _ => fun
  | [d1, d2, d3] => { results := [.lit (.bool true)], args := [d1, d2, d3] }
  | _ => none }
def fnExactInvariantOfCurveRow : OpenClaim := { program := "ytmnkklkolngfoaa", sum := "ff9a2ce5198e10f1c056a5b2b9d1247f522e9ddafb75cf407115e5f68c5682ce", func := "loop.example/g01152/laws.FnExactInvariantOfCurve", spec := "fnExactInvariantOfCurve", unfollowed := true, recurses := true, named := ["math/bits.divideError", "math/bits.overflowError"], apart := false }
def FnExactInvariantOfCurveSaid : Prop := fnExactInvariantOfCurveRow.holds Try.pinned (OpenSpec.ofChange fnExactInvariantOfCurveSpec)

/-- ITS FALSE NEIGHBOUR: 'it returns false'. Refute it at one input. -/
def fnExactInvariantOfCurveWrong : ChangeSpec := { name := "fnExactInvariantOfCurve", fn := fun _ => fun
  | [d1, d2, d3] => { results := [.lit (.bool false)], args := [d1, d2, d3] }
  | _ => none }
def FnExactInvariantOfCurveWrongFalsely : Prop := fnExactInvariantOfCurveRow.holds Try.pinned (OpenSpec.ofChange fnExactInvariantOfCurveWrong)

/-- 'laws.FnExactPointsOfCurve': WHATEVER THE INPUT: true; the input reads as it did. -/
def fnExactPointsOfCurveSpec : ChangeSpec := { name := "fnExactPointsOfCurve", fn := fun _ => fun
  | [d1, d2, d3] => { results := [.lit (.bool true)], args := [d1, d2, d3] }
  | _ => none }
def fnExactPointsOfCurveRow : OpenClaim := { program := "ytmnkklkolngfoaa", sum := "ff9a2ce5198e10f1c056a5b2b9d1247f522e9ddafb75cf407115e5f68c5682ce", func := "loop.example/g01152/laws.FnExactPointsOfCurve", spec := "fnExactPointsOfCurve", unfollowed := true, recurses := true, named := ["math/bits.divideError", "math/bits.overflowError"], apart := false }
def FnExactPointsOfCurveSaid : Prop := fnExactPointsOfCurveRow.holds Try.pinned (OpenSpec.ofChange fnExactPointsOfCurveSpec)

/-- ITS FALSE NEIGHBOUR: 'it returns false'. Refute it at one input. -/
def fnExactPointsOfCurveWrong : ChangeSpec := { name := "fnExactPointsOfCurve", fn := fun _ => fun
  | [d1, d2, d3] => { results := [.lit (.bool false)], args := [d1, d2, d3] }
  | _ => none }
def FnExactPointsOfCurveWrongFalsely : Prop := fnExactPointsOfCurveRow.holds Try.pinned (OpenSpec.ofChange fnExactPointsOfCurveWrong)

/-- 'laws.FnExactStructureOfCurve': WHATEVER THE INPUT: true; the input reads as it did. -/
def fnExactStructureOfCurveSpec : ChangeSpec := { name := "fnExactStructureOfCurve", fn := fun _ => fun
  | [d1, d2, d3] => { results := [.lit (.bool true)], args := [d1, d2, d3] }
  | _ => none }
def fnExactStructureOfCurveRow : OpenClaim := { program := "ytmnkklkolngfoaa", sum := "ff9a2ce5198e10f1c056a5b2b9d1247f522e9ddafb75cf407115e5f68c5682ce", func := "loop.example/g01152/laws.FnExactStructureOfCurve", spec := "fnExactStructureOfCurve", unfollowed := true, recurses := true, named := ["math/bits.divideError", "math/bits.overflowError"], apart := false }
def FnExactStructureOfCurveSaid : Prop := fnExactStructureOfCurveRow.holds Try.pinned (OpenSpec.ofChange fnExactStructureOfCurveSpec)

/-- ITS FALSE NEIGHBOUR: 'it returns false'. Refute it at one input. -/
def fnExactStructureOfCurveWrong : ChangeSpec := { name := "fnExactStructureOfCurve", fn := fun _ => fun
  | [d1, d2, d3] => { results := [.lit (.bool false)], args := [d1, d2, d3] }
  | _ => none }
def FnExactStructureOfCurveWrongFalsely : Prop := fnExactStructureOfCurveRow.holds Try.pinned (OpenSpec.ofChange fnExactStructureOfCurveWrong)

/-- 'laws.FnExactOrderOfPoint': WHATEVER THE INPUT: true; the input reads as it did. -/
def fnExactOrderOfPointSpec : ChangeSpec := { name := "fnExactOrderOfPoint", fn := fun _ => fun
  | [d1, d2, d3, d4] => { results := [.lit (.bool true)], args := [d1, d2, d3, d4] }
  | _ => none }
def fnExactOrderOfPointRow : OpenClaim := { program := "ytmnkklkolngfoaa", sum := "ff9a2ce5198e10f1c056a5b2b9d1247f522e9ddafb75cf407115e5f68c5682ce", func := "loop.example/g01152/laws.FnExactOrderOfPoint", spec := "fnExactOrderOfPoint", unfollowed := true, recurses := true, named := ["math/bits.divideError", "math/bits.overflowError"], apart := false }
def FnExactOrderOfPointSaid : Prop := fnExactOrderOfPointRow.holds Try.pinned (OpenSpec.ofChange fnExactOrderOfPointSpec)

/-- ITS FALSE NEIGHBOUR: 'it returns false'. Refute it at one input. -/
def fnExactOrderOfPointWrong : ChangeSpec := { name := "fnExactOrderOfPoint", fn := fun _ => fun
  | [d1, d2, d3, d4] => { results := [.lit (.bool false)], args := [d1, d2, d3, d4] }
  | _ => none }
def FnExactOrderOfPointWrongFalsely : Prop := fnExactOrderOfPointRow.holds Try.pinned (OpenSpec.ofChange fnExactOrderOfPointWrong)

/-- 'laws.FnExactAddPoints': WHATEVER THE INPUT: true; the input reads as it did. -/
def fnExactAddPointsSpec : ChangeSpec := { name := "fnExactAddPoints", fn := fun _ => fun
  | [d1, d2, d3, d4, d5] => { results := [.lit (.bool true)], args := [d1, d2, d3, d4, d5] }
  | _ => none }
def fnExactAddPointsRow : OpenClaim := { program := "ytmnkklkolngfoaa", sum := "ff9a2ce5198e10f1c056a5b2b9d1247f522e9ddafb75cf407115e5f68c5682ce", func := "loop.example/g01152/laws.FnExactAddPoints", spec := "fnExactAddPoints", unfollowed := true, recurses := true, named := ["math/bits.divideError", "math/bits.overflowError"], apart := false }
def FnExactAddPointsSaid : Prop := fnExactAddPointsRow.holds Try.pinned (OpenSpec.ofChange fnExactAddPointsSpec)

/-- ITS FALSE NEIGHBOUR: 'it returns false'. Refute it at one input. -/
def fnExactAddPointsWrong : ChangeSpec := { name := "fnExactAddPoints", fn := fun _ => fun
  | [d1, d2, d3, d4, d5] => { results := [.lit (.bool false)], args := [d1, d2, d3, d4, d5] }
  | _ => none }
def FnExactAddPointsWrongFalsely : Prop := fnExactAddPointsRow.holds Try.pinned (OpenSpec.ofChange fnExactAddPointsWrong)

/-- 'laws.FnExactMultiplyPoint': WHATEVER THE INPUT: true; the input reads as it did. -/
def fnExactMultiplyPointSpec : ChangeSpec := { name := "fnExactMultiplyPoint", fn := fun _ => fun
  | [d1, d2, d3, d4, d5] => { results := [.lit (.bool true)], args := [d1, d2, d3, d4, d5] }
  | _ => none }
def fnExactMultiplyPointRow : OpenClaim := { program := "ytmnkklkolngfoaa", sum := "ff9a2ce5198e10f1c056a5b2b9d1247f522e9ddafb75cf407115e5f68c5682ce", func := "loop.example/g01152/laws.FnExactMultiplyPoint", spec := "fnExactMultiplyPoint", unfollowed := true, recurses := true, named := ["math/bits.divideError", "math/bits.overflowError"], apart := false }
def FnExactMultiplyPointSaid : Prop := fnExactMultiplyPointRow.holds Try.pinned (OpenSpec.ofChange fnExactMultiplyPointSpec)

/-- ITS FALSE NEIGHBOUR: 'it returns false'. Refute it at one input. -/
def fnExactMultiplyPointWrong : ChangeSpec := { name := "fnExactMultiplyPoint", fn := fun _ => fun
  | [d1, d2, d3, d4, d5] => { results := [.lit (.bool false)], args := [d1, d2, d3, d4, d5] }
  | _ => none }
def FnExactMultiplyPointWrongFalsely : Prop := fnExactMultiplyPointRow.holds Try.pinned (OpenSpec.ofChange fnExactMultiplyPointWrong)

/- THE SECOND FORM. 'bulk': how many values and letters a reading holds, each counted each time it is reached (what is shared counts as often as it is met; a slice's spare places count too). A statement '..UptoSaid' is the law's where the arguments, and the package variables that the reading takes, are together of bulk at most 1048576: NARROWER than '..Said'. Prove '..Said' where nothing that the law and all that it calls make is longer than what came in: it says more and counts as full. Else prove '..UptoSaid'. A law counts once. -/
mutual
def uptoBulk {H : Type} : DataW H → Nat
  | .lit (.string bytes) => bytes.length + 1
  | .lit _ => 1
  | .nil => 1
  | .ptr d => uptoBulk d + 1
  | .slice elems spare => uptoBulkAll elems + uptoBulkAll spare + 1
  | .agg parts => uptoBulkAll parts + 1
  | .iface _ d => uptoBulk d + 1
  | .map entries => uptoBulkEntries entries + 1
  | .held _ => 1
def uptoBulkAll {H : Type} : List (DataW H) → Nat
  | [] => 0
  | d :: r => uptoBulk d + uptoBulkAll r
def uptoBulkEntries {H : Type} : List (Lit × DataW H) → Nat
  | [] => 0
  | x :: r => uptoBulkEntry x + uptoBulkEntries r
def uptoBulkEntry {H : Type} : Lit × DataW H → Nat
  | (.string bytes, d) => bytes.length + uptoBulk d + 1
  | (_, d) => uptoBulk d + 1
 end
def uptoSmall : (H : Type) → List (DataW H) → Bool := fun _ ds => decide (uptoBulkAll ds ≤ 1048576)
def OpenSpec.upto (s : _root_.Go.ChangeSpec) : _root_.Go.OpenSpec := { _root_.Go.OpenSpec.ofChange s with cond := some uptoSmall }

/-- 'laws.FnExactCountCurveClasses', WHERE WHAT IT READS IS OF BULK AT MOST 1048576: true; the input reads as it did. -/
def fnExactCountCurveClassesUptoRow : OpenClaim := { program := "ytmnkklkolngfoaa", sum := "ff9a2ce5198e10f1c056a5b2b9d1247f522e9ddafb75cf407115e5f68c5682ce", func := "loop.example/g01152/laws.FnExactCountCurveClasses", spec := "fnExactCountCurveClasses", apart := false, narrowed := true }
def FnExactCountCurveClassesUptoSaid : Prop := fnExactCountCurveClassesUptoRow.holds Try.pinned (OpenSpec.upto fnExactCountCurveClassesSpec)

/-- 'laws.FnExactIsEllipticCurve', WHERE WHAT IT READS IS OF BULK AT MOST 1048576: true; the input reads as it did. -/
def fnExactIsEllipticCurveUptoRow : OpenClaim := { program := "ytmnkklkolngfoaa", sum := "ff9a2ce5198e10f1c056a5b2b9d1247f522e9ddafb75cf407115e5f68c5682ce", func := "loop.example/g01152/laws.FnExactIsEllipticCurve", spec := "fnExactIsEllipticCurve", unfollowed := true, recurses := true, named := ["math/bits.divideError", "math/bits.overflowError"], apart := false, narrowed := true }
def FnExactIsEllipticCurveUptoSaid : Prop := fnExactIsEllipticCurveUptoRow.holds Try.pinned (OpenSpec.upto fnExactIsEllipticCurveSpec)

/-- 'laws.FnExactTwistOfCurve', WHERE WHAT IT READS IS OF BULK AT MOST 1048576: true; the input reads as it did. -/
def fnExactTwistOfCurveUptoRow : OpenClaim := { program := "ytmnkklkolngfoaa", sum := "ff9a2ce5198e10f1c056a5b2b9d1247f522e9ddafb75cf407115e5f68c5682ce", func := "loop.example/g01152/laws.FnExactTwistOfCurve", spec := "fnExactTwistOfCurve", unfollowed := true, recurses := true, named := ["math/bits.divideError", "math/bits.overflowError"], apart := false, narrowed := true }
def FnExactTwistOfCurveUptoSaid : Prop := fnExactTwistOfCurveUptoRow.holds Try.pinned (OpenSpec.upto fnExactTwistOfCurveSpec)

/-- 'laws.FnExactCountPoints', WHERE WHAT IT READS IS OF BULK AT MOST 1048576: true; the input reads as it did. -/
def fnExactCountPointsUptoRow : OpenClaim := { program := "ytmnkklkolngfoaa", sum := "ff9a2ce5198e10f1c056a5b2b9d1247f522e9ddafb75cf407115e5f68c5682ce", func := "loop.example/g01152/laws.FnExactCountPoints", spec := "fnExactCountPoints", unfollowed := true, recurses := true, named := ["math/bits.divideError", "math/bits.overflowError"], apart := false, narrowed := true }
def FnExactCountPointsUptoSaid : Prop := fnExactCountPointsUptoRow.holds Try.pinned (OpenSpec.upto fnExactCountPointsSpec)

/-- 'laws.FnExactTraceOf', WHERE WHAT IT READS IS OF BULK AT MOST 1048576: true; the input reads as it did. -/
def fnExactTraceOfUptoRow : OpenClaim := { program := "ytmnkklkolngfoaa", sum := "ff9a2ce5198e10f1c056a5b2b9d1247f522e9ddafb75cf407115e5f68c5682ce", func := "loop.example/g01152/laws.FnExactTraceOf", spec := "fnExactTraceOf", unfollowed := true, recurses := true, named := ["math/bits.divideError", "math/bits.overflowError"], apart := false, narrowed := true }
def FnExactTraceOfUptoSaid : Prop := fnExactTraceOfUptoRow.holds Try.pinned (OpenSpec.upto fnExactTraceOfSpec)

/-- 'laws.FnExactIsSupersingular', WHERE WHAT IT READS IS OF BULK AT MOST 1048576: true; the input reads as it did. -/
def fnExactIsSupersingularUptoRow : OpenClaim := { program := "ytmnkklkolngfoaa", sum := "ff9a2ce5198e10f1c056a5b2b9d1247f522e9ddafb75cf407115e5f68c5682ce", func := "loop.example/g01152/laws.FnExactIsSupersingular", spec := "fnExactIsSupersingular", unfollowed := true, recurses := true, named := ["math/bits.divideError", "math/bits.overflowError"], apart := false, narrowed := true }
def FnExactIsSupersingularUptoSaid : Prop := fnExactIsSupersingularUptoRow.holds Try.pinned (OpenSpec.upto fnExactIsSupersingularSpec)

/-- 'laws.FnExactAreIsomorphicCurves', WHERE WHAT IT READS IS OF BULK AT MOST 1048576: true; the input reads as it did. -/
def fnExactAreIsomorphicCurvesUptoRow : OpenClaim := { program := "ytmnkklkolngfoaa", sum := "ff9a2ce5198e10f1c056a5b2b9d1247f522e9ddafb75cf407115e5f68c5682ce", func := "loop.example/g01152/laws.FnExactAreIsomorphicCurves", spec := "fnExactAreIsomorphicCurves", unfollowed := true, recurses := true, named := ["math/bits.divideError", "math/bits.overflowError"], apart := false, narrowed := true }
def FnExactAreIsomorphicCurvesUptoSaid : Prop := fnExactAreIsomorphicCurvesUptoRow.holds Try.pinned (OpenSpec.upto fnExactAreIsomorphicCurvesSpec)

/-- 'laws.FnExactHasseCoefficient', WHERE WHAT IT READS IS OF BULK AT MOST 1048576: true; the input reads as it did. -/
def fnExactHasseCoefficientUptoRow : OpenClaim := { program := "ytmnkklkolngfoaa", sum := "ff9a2ce5198e10f1c056a5b2b9d1247f522e9ddafb75cf407115e5f68c5682ce", func := "loop.example/g01152/laws.FnExactHasseCoefficient", spec := "fnExactHasseCoefficient", unfollowed := true, recurses := true, named := ["math/bits.divideError", "math/bits.overflowError"], apart := false, narrowed := true }
def FnExactHasseCoefficientUptoSaid : Prop := fnExactHasseCoefficientUptoRow.holds Try.pinned (OpenSpec.upto fnExactHasseCoefficientSpec)

/-- 'laws.FnExactInvariantOfCurve', WHERE WHAT IT READS IS OF BULK AT MOST 1048576: true; the input reads as it did. -/
def fnExactInvariantOfCurveUptoRow : OpenClaim := { program := "ytmnkklkolngfoaa", sum := "ff9a2ce5198e10f1c056a5b2b9d1247f522e9ddafb75cf407115e5f68c5682ce", func := "loop.example/g01152/laws.FnExactInvariantOfCurve", spec := "fnExactInvariantOfCurve", unfollowed := true, recurses := true, named := ["math/bits.divideError", "math/bits.overflowError"], apart := false, narrowed := true }
def FnExactInvariantOfCurveUptoSaid : Prop := fnExactInvariantOfCurveUptoRow.holds Try.pinned (OpenSpec.upto fnExactInvariantOfCurveSpec)

/-- 'laws.FnExactPointsOfCurve', WHERE WHAT IT READS IS OF BULK AT MOST 1048576: true; the input reads as it did. -/
def fnExactPointsOfCurveUptoRow : OpenClaim := { program := "ytmnkklkolngfoaa", sum := "ff9a2ce5198e10f1c056a5b2b9d1247f522e9ddafb75cf407115e5f68c5682ce", func := "loop.example/g01152/laws.FnExactPointsOfCurve", spec := "fnExactPointsOfCurve", unfollowed := true, recurses := true, named := ["math/bits.divideError", "math/bits.overflowError"], apart := false, narrowed := true }
def FnExactPointsOfCurveUptoSaid : Prop := fnExactPointsOfCurveUptoRow.holds Try.pinned (OpenSpec.upto fnExactPointsOfCurveSpec)

/-- 'laws.FnExactStructureOfCurve', WHERE WHAT IT READS IS OF BULK AT MOST 1048576: true; the input reads as it did. -/
def fnExactStructureOfCurveUptoRow : OpenClaim := { program := "ytmnkklkolngfoaa", sum := "ff9a2ce5198e10f1c056a5b2b9d1247f522e9ddafb75cf407115e5f68c5682ce", func := "loop.example/g01152/laws.FnExactStructureOfCurve", spec := "fnExactStructureOfCurve", unfollowed := true, recurses := true, named := ["math/bits.divideError", "math/bits.overflowError"], apart := false, narrowed := true }
def FnExactStructureOfCurveUptoSaid : Prop := fnExactStructureOfCurveUptoRow.holds Try.pinned (OpenSpec.upto fnExactStructureOfCurveSpec)

/-- 'laws.FnExactOrderOfPoint', WHERE WHAT IT READS IS OF BULK AT MOST 1048576: true; the input reads as it did. -/
def fnExactOrderOfPointUptoRow : OpenClaim := { program := "ytmnkklkolngfoaa", sum := "ff9a2ce5198e10f1c056a5b2b9d1247f522e9ddafb75cf407115e5f68c5682ce", func := "loop.example/g01152/laws.FnExactOrderOfPoint", spec := "fnExactOrderOfPoint", unfollowed := true, recurses := true, named := ["math/bits.divideError", "math/bits.overflowError"], apart := false, narrowed := true }
def FnExactOrderOfPointUptoSaid : Prop := fnExactOrderOfPointUptoRow.holds Try.pinned (OpenSpec.upto fnExactOrderOfPointSpec)

/-- 'laws.FnExactAddPoints', WHERE WHAT IT READS IS OF BULK AT MOST 1048576: true; the input reads as it did. -/
def fnExactAddPointsUptoRow : OpenClaim := { program := "ytmnkklkolngfoaa", sum := "ff9a2ce5198e10f1c056a5b2b9d1247f522e9ddafb75cf407115e5f68c5682ce", func := "loop.example/g01152/laws.FnExactAddPoints", spec := "fnExactAddPoints", unfollowed := true, recurses := true, named := ["math/bits.divideError", "math/bits.overflowError"], apart := false, narrowed := true }
def FnExactAddPointsUptoSaid : Prop := fnExactAddPointsUptoRow.holds Try.pinned (OpenSpec.upto fnExactAddPointsSpec)

/-- 'laws.FnExactMultiplyPoint', WHERE WHAT IT READS IS OF BULK AT MOST 1048576: true; the input reads as it did. -/
def fnExactMultiplyPointUptoRow : OpenClaim := { program := "ytmnkklkolngfoaa", sum := "ff9a2ce5198e10f1c056a5b2b9d1247f522e9ddafb75cf407115e5f68c5682ce", func := "loop.example/g01152/laws.FnExactMultiplyPoint", spec := "fnExactMultiplyPoint", unfollowed := true, recurses := true, named := ["math/bits.divideError", "math/bits.overflowError"], apart := false, narrowed := true }
def FnExactMultiplyPointUptoSaid : Prop := fnExactMultiplyPointUptoRow.holds Try.pinned (OpenSpec.upto fnExactMultiplyPointSpec)

end Rows
end Go.Proofs.Ytmnkklkolngfoaa
