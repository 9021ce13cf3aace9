/-
  No cell of these rows narrows 'for every input' (looked for: loops, veiled, ifaces, maps, wideKeys, modest, calm, conditions, laid).
  DERIVED. THE GIVEN ROWS OF THIS SEAT. 4 by the template 'for every input the law returns true; each argument reads behind the call as it read before'; 0 by the template 'total and deterministic' (their statements: YtfnfdjomkohfjaaTotals.lean).
  GIVEN WITH THE SEED: the statements are not yours to turn. If you find one false, say at which input.
  Laid BY PROGRAM, IN A SANDBOX (cutbox-rows.mjs): the forced cells as the released guide's own fill.sh prints them over the translation be4c17289420699c… (all of the seat's roots in one cut). By AI agents, Wed Nov 11 2026. No macro, syntax, notation, axiom, sorry.
-/
import Derived.Test.YtfnfdjomkohfjaaChecked
import GoSem.Claim
import GoSem.ClaimJoined
import GoSem.ClaimMapViews
import Derived.JoinedTies
import Derived.KernelRfl
namespace Go.Proofs.Ytfnfdjomkohfjaa
/- THE CELL 'sum', in the pinned program and in every row, IS THE sha256 OF THE DUMP (.gsa) THAT YtfnfdjomkohfjaaProg.lean LOADS. Nothing in Lean hashes anything: it is a label: what it is worth is what the hold of that sum in a sandbox is worth. -/
noncomputable def Try.pinned : Pinned := { name := "ytfnfdjomkohfjaa", sum := "be4c17289420699c7276513026df75eb804976f0aba1450abb4d1555400aa9dc", checked := Try.checked }
namespace Rows
def none {H : Type} : Left H := { results := [], args := [] }

/-- 'laws.FnExactSumOfPoints': WHATEVER THE INPUT: true; the input reads as it did. -/
def fnExactSumOfPointsSpec : ChangeSpec := { name := "fnExactSumOfPoints", fn := fun _ => fun
  | [d1, d2, d3] => { results := [.lit (.bool true)], args := [d1, d2, d3] }
  | _ => none }
def fnExactSumOfPointsRow : OpenClaim := { program := "ytfnfdjomkohfjaa", sum := "be4c17289420699c7276513026df75eb804976f0aba1450abb4d1555400aa9dc", func := "loop.example/g01152/laws.FnExactSumOfPoints", spec := "fnExactSumOfPoints", unfollowed := true, recurses := true, named := ["math/bits.divideError", "math/bits.overflowError"], apart := false }
def FnExactSumOfPointsSaid : Prop := fnExactSumOfPointsRow.holds Try.pinned (OpenSpec.ofChange fnExactSumOfPointsSpec)

/-- ITS FALSE NEIGHBOUR: 'it returns false'. Refute it at one input. -/
def fnExactSumOfPointsWrong : ChangeSpec := { name := "fnExactSumOfPoints", fn := fun _ => fun
  | [d1, d2, d3] => { results := [.lit (.bool false)], args := [d1, d2, d3] }
  | _ => none }
def FnExactSumOfPointsWrongFalsely : Prop := fnExactSumOfPointsRow.holds Try.pinned (OpenSpec.ofChange fnExactSumOfPointsWrong)

/-- 'laws.FnExactAntipodeOf': WHATEVER THE INPUT: true; the input reads as it did. -/
def fnExactAntipodeOfSpec : ChangeSpec := { name := "fnExactAntipodeOf", fn := fun _ => fun
  | [d] => { results := [.lit (.bool true)], args := [d] }
  | _ => none }
def fnExactAntipodeOfRow : OpenClaim := { program := "ytfnfdjomkohfjaa", sum := "be4c17289420699c7276513026df75eb804976f0aba1450abb4d1555400aa9dc", func := "loop.example/g01152/laws.FnExactAntipodeOf", spec := "fnExactAntipodeOf", unfollowed := true, recurses := true, named := ["math/bits.divideError", "math/bits.overflowError"], apart := false }
def FnExactAntipodeOfSaid : Prop := fnExactAntipodeOfRow.holds Try.pinned (OpenSpec.ofChange fnExactAntipodeOfSpec)

/-- ITS FALSE NEIGHBOUR: 'it returns false'. Refute it at one input. -/
def fnExactAntipodeOfWrong : ChangeSpec := { name := "fnExactAntipodeOf", fn := fun _ => fun
  | [d] => { results := [.lit (.bool false)], args := [d] }
  | _ => none }
def FnExactAntipodeOfWrongFalsely : Prop := fnExactAntipodeOfRow.holds Try.pinned (OpenSpec.ofChange fnExactAntipodeOfWrong)

/-- 'laws.FnExactCountKilled': WHATEVER THE INPUT: true; the input reads as it did. -/
def fnExactCountKilledSpec : ChangeSpec := { name := "fnExactCountKilled", fn := fun _ => fun
  | [d1, d2, d3] => { results := [.lit (.bool true)], args := [d1, d2, d3] }
  | _ => none }
def fnExactCountKilledRow : OpenClaim := { program := "ytfnfdjomkohfjaa", sum := "be4c17289420699c7276513026df75eb804976f0aba1450abb4d1555400aa9dc", func := "loop.example/g01152/laws.FnExactCountKilled", spec := "fnExactCountKilled", unfollowed := true, recurses := true, named := ["math/bits.divideError", "math/bits.overflowError"], apart := false }
def FnExactCountKilledSaid : Prop := fnExactCountKilledRow.holds Try.pinned (OpenSpec.ofChange fnExactCountKilledSpec)

/-- ITS FALSE NEIGHBOUR: 'it returns false'. Refute it at one input. -/
def fnExactCountKilledWrong : ChangeSpec := { name := "fnExactCountKilled", fn := fun _ => fun
  | [d1, d2, d3] => { results := [.lit (.bool false)], args := [d1, d2, d3] }
  | _ => none }
def FnExactCountKilledWrongFalsely : Prop := fnExactCountKilledRow.holds Try.pinned (OpenSpec.ofChange fnExactCountKilledWrong)

/-- 'laws.FnExactIsomorphismOf': WHATEVER THE INPUT: true; the input reads as it did. -/
def fnExactIsomorphismOfSpec : ChangeSpec := { name := "fnExactIsomorphismOf", fn := fun _ => fun
  | [d1, d2] => { results := [.lit (.bool true)], args := [d1, d2] }
  | _ => none }
def fnExactIsomorphismOfRow : OpenClaim := { program := "ytfnfdjomkohfjaa", sum := "be4c17289420699c7276513026df75eb804976f0aba1450abb4d1555400aa9dc", func := "loop.example/g01152/laws.FnExactIsomorphismOf", spec := "fnExactIsomorphismOf", unfollowed := true, recurses := true, named := ["math/bits.divideError", "math/bits.overflowError"], apart := false }
def FnExactIsomorphismOfSaid : Prop := fnExactIsomorphismOfRow.holds Try.pinned (OpenSpec.ofChange fnExactIsomorphismOfSpec)

/-- ITS FALSE NEIGHBOUR: 'it returns false'. Refute it at one input. -/
def fnExactIsomorphismOfWrong : ChangeSpec := { name := "fnExactIsomorphismOf", fn := fun _ => fun
  | [d1, d2] => { results := [.lit (.bool false)], args := [d1, d2] }
  | _ => none }
def FnExactIsomorphismOfWrongFalsely : Prop := fnExactIsomorphismOfRow.holds Try.pinned (OpenSpec.ofChange fnExactIsomorphismOfWrong)

/- THE SECOND FORM. 'bulk': how many values and letters a reading holds, each counted each time it is reached (what is shared counts as often as it is met; a slice's spare places count too). A statement '..UptoSaid' is the law's where the arguments, and the package variables that the reading takes, are together of bulk at most 1048576: NARROWER than '..Said'. Prove '..Said' where nothing that the law and all that it calls make is longer than what came in: it says more and counts as full. Else prove '..UptoSaid'. A law counts once. -/
mutual
def uptoBulk {H : Type} : DataW H → Nat
  | .lit (.string bytes) => bytes.length + 1
  | .lit _ => 1
  | .nil => 1
  | .ptr d => uptoBulk d + 1
  | .slice elems spare => uptoBulkAll elems + uptoBulkAll spare + 1
  | .agg parts => uptoBulkAll parts + 1
  | .iface _ d => uptoBulk d + 1
  | .map entries => uptoBulkEntries entries + 1
  | .held _ => 1
def uptoBulkAll {H : Type} : List (DataW H) → Nat
  | [] => 0
  | d :: r => uptoBulk d + uptoBulkAll r
def uptoBulkEntries {H : Type} : List (Lit × DataW H) → Nat
  | [] => 0
  | x :: r => uptoBulkEntry x + uptoBulkEntries r
def uptoBulkEntry {H : Type} : Lit × DataW H → Nat
  | (.string bytes, d) => bytes.length + uptoBulk d + 1
  | (_, d) => uptoBulk d + 1
 end
def uptoSmall : (H : Type) → List (DataW H) → Bool := fun _ ds => decide (uptoBulkAll ds ≤ 1048576)
def OpenSpec.upto (s : _root_.Go.ChangeSpec) : _root_.Go.OpenSpec := { _root_.Go.OpenSpec.ofChange s with cond := some uptoSmall }

/-- 'laws.FnExactSumOfPoints', WHERE WHAT IT READS IS OF BULK AT MOST 1048576: true; the input reads as it did. -/
def fnExactSumOfPointsUptoRow : OpenClaim := { program := "ytfnfdjomkohfjaa", sum := "be4c17289420699c7276513026df75eb804976f0aba1450abb4d1555400aa9dc", func := "loop.example/g01152/laws.FnExactSumOfPoints", spec := "fnExactSumOfPoints", unfollowed := true, recurses := true, named := ["math/bits.divideError", "math/bits.overflowError"], apart := false, narrowed := true }
def FnExactSumOfPointsUptoSaid : Prop := fnExactSumOfPointsUptoRow.holds Try.pinned (OpenSpec.upto fnExactSumOfPointsSpec)

/-- 'laws.FnExactAntipodeOf', WHERE WHAT IT READS IS OF BULK AT MOST 1048576: true; the input reads as it did. -/
def fnExactAntipodeOfUptoRow : OpenClaim := { program := "ytfnfdjomkohfjaa", sum := "be4c17289420699c7276513026df75eb804976f0aba1450abb4d1555400aa9dc", func := "loop.example/g01152/laws.FnExactAntipodeOf", spec := "fnExactAntipodeOf", unfollowed := true, recurses := true, named := ["math/bits.divideError", "math/bits.overflowError"], apart := false, narrowed := true }
def FnExactAntipodeOfUptoSaid : Prop := fnExactAntipodeOfUptoRow.holds Try.pinned (OpenSpec.upto fnExactAntipodeOfSpec)

/-- 'laws.FnExactCountKilled', WHERE WHAT IT READS IS OF BULK AT MOST 1048576: true; the input reads as it did. -/
def fnExactCountKilledUptoRow : OpenClaim := { program := "ytfnfdjomkohfjaa", sum := "be4c17289420699c7276513026df75eb804976f0aba1450abb4d1555400aa9dc", func := "loop.example/g01152/laws.FnExactCountKilled", spec := "fnExactCountKilled", unfollowed := true, recurses := true, named := ["math/bits.divideError", "math/bits.overflowError"], apart := false, narrowed := true }
def FnExactCountKilledUptoSaid : Prop := fnExactCountKilledUptoRow.holds Try.pinned (OpenSpec.upto fnExactCountKilledSpec)

/-- 'laws.FnExactIsomorphismOf', WHERE WHAT IT READS IS OF BULK AT MOST 1048576: true; the input reads as it did. -/
def fnExactIsomorphismOfUptoRow : OpenClaim := { program := "ytfnfdjomkohfjaa", sum := "be4c17289420699c7276513026df75eb804976f0aba1450abb4d1555400aa9dc", func := "loop.example/g01152/laws.FnExactIsomorphismOf", spec := "fnExactIsomorphismOf", unfollowed := true, recurses := true, named := ["math/bits.divideError", "math/bits.overflowError"], apart := false, narrowed := true }
def FnExactIsomorphismOfUptoSaid : Prop := fnExactIsomorphismOfUptoRow.holds Try.pinned (OpenSpec.upto fnExactIsomorphismOfSpec)

end Rows
end Go.Proofs.Ytfnfdjomkohfjaa
