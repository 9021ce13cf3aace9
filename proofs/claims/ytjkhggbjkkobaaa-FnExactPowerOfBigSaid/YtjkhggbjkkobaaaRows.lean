/-
  No cell of these rows narrows 'for every input' (looked for: loops, veiled, ifaces, maps, wideKeys, modest, calm, conditions, laid).
  DERIVED. THE GIVEN ROWS OF THIS SEAT. 12 by the template 'for every input the law returns true; each argument reads behind the call as it read before'; 0 by the template 'total and deterministic' (their statements: YtjkhggbjkkobaaaTotals.lean).
  GIVEN WITH THE SEED: the statements are not yours to turn. If you find one false, say at which input.
  Laid BY PROGRAM, IN A SANDBOX (cutbox-rows.mjs): the forced cells as the released guide's own fill.sh prints them over the translation c9fad72d349c8a15… (all of the seat's roots in one cut). By AI agents, Wed Nov 11 2026. No macro, syntax, notation, axiom, sorry.
-/
import Derived.Test.YtjkhggbjkkobaaaChecked
import GoSem.Claim
import GoSem.ClaimJoined
import GoSem.ClaimMapViews
import Derived.JoinedTies
import Derived.KernelRfl
namespace Go.Proofs.Ytjkhggbjkkobaaa
/- THE CELL 'sum', in the pinned program and in every row, IS THE sha256 OF THE DUMP (.gsa) THAT YtjkhggbjkkobaaaProg.lean LOADS. Nothing in Lean hashes anything: it is a label: what it is worth is what the hold of that sum in a sandbox is worth. -/
noncomputable def Try.pinned : Pinned := { name := "ytjkhggbjkkobaaa", sum := "c9fad72d349c8a15cd9aa5cac9730e0b8da3e57d25501e465d0054fffce2f11d", checked := Try.checked }
namespace Rows
def none {H : Type} : Left H := { results := [], args := [] }

/-- 'laws.FnExactIsBigVector': WHATEVER THE INPUT: true; the input reads as it did. -/
def fnExactIsBigVectorSpec : ChangeSpec := { name := "fnExactIsBigVector", fn := fun _ => fun
  | [d] => { results := [.lit (.bool true)], args := [d] }
  | _ => none }
def fnExactIsBigVectorRow : OpenClaim := { program := "ytjkhggbjkkobaaa", sum := "c9fad72d349c8a15cd9aa5cac9730e0b8da3e57d25501e465d0054fffce2f11d", func := "loop.example/g01152/laws.FnExactIsBigVector", spec := "fnExactIsBigVector", unfollowed := true, recurses := true, apart := false }
def FnExactIsBigVectorSaid : Prop := fnExactIsBigVectorRow.holds Try.pinned (OpenSpec.ofChange fnExactIsBigVectorSpec)

/-- ITS FALSE NEIGHBOUR: 'it returns false'. Refute it at one input. -/
def fnExactIsBigVectorWrong : ChangeSpec := { name := "fnExactIsBigVector", fn := fun _ => fun
  | [d] => { results := [.lit (.bool false)], args := [d] }
  | _ => none }
def FnExactIsBigVectorWrongFalsely : Prop := fnExactIsBigVectorRow.holds Try.pinned (OpenSpec.ofChange fnExactIsBigVectorWrong)

/-- 'laws.FnExactRepresentativeBig': WHATEVER THE INPUT: true; the input reads as it did. -/
def fnExactRepresentativeBigSpec : ChangeSpec := { name := "fnExactRepresentativeBig", fn := fun _ => fun
  | [d1, d2, d3] => { results := [.lit (.bool true)], args := [d1, d2, d3] }
  | _ => none }
def fnExactRepresentativeBigRow : OpenClaim := { program := "ytjkhggbjkkobaaa", sum := "c9fad72d349c8a15cd9aa5cac9730e0b8da3e57d25501e465d0054fffce2f11d", func := "loop.example/g01152/laws.FnExactRepresentativeBig", spec := "fnExactRepresentativeBig", unfollowed := true, recurses := true, apart := false }
def FnExactRepresentativeBigSaid : Prop := fnExactRepresentativeBigRow.holds Try.pinned (OpenSpec.ofChange fnExactRepresentativeBigSpec)

/-- ITS FALSE NEIGHBOUR: 'it returns false'. Refute it at one input. -/
def fnExactRepresentativeBigWrong : ChangeSpec := { name := "fnExactRepresentativeBig", fn := fun _ => fun
  | [d1, d2, d3] => { results := [.lit (.bool false)], args := [d1, d2, d3] }
  | _ => none }
def FnExactRepresentativeBigWrongFalsely : Prop := fnExactRepresentativeBigRow.holds Try.pinned (OpenSpec.ofChange fnExactRepresentativeBigWrong)

/-- 'laws.FnExactVerschiebungOfBig': WHATEVER THE INPUT: true; the input reads as it did. -/
def fnExactVerschiebungOfBigSpec : ChangeSpec := { name := "fnExactVerschiebungOfBig", fn := fun _ => fun
  | [d1, d2] => { results := [.lit (.bool true)], args := [d1, d2] }
  | _ => none }
def fnExactVerschiebungOfBigRow : OpenClaim := { program := "ytjkhggbjkkobaaa", sum := "c9fad72d349c8a15cd9aa5cac9730e0b8da3e57d25501e465d0054fffce2f11d", func := "loop.example/g01152/laws.FnExactVerschiebungOfBig", spec := "fnExactVerschiebungOfBig", unfollowed := true, recurses := true, apart := false }
def FnExactVerschiebungOfBigSaid : Prop := fnExactVerschiebungOfBigRow.holds Try.pinned (OpenSpec.ofChange fnExactVerschiebungOfBigSpec)

/-- ITS FALSE NEIGHBOUR: 'it returns false'. Refute it at one input. -/
def fnExactVerschiebungOfBigWrong : ChangeSpec := { name := "fnExactVerschiebungOfBig", fn := fun _ => fun
  | [d1, d2] => { results := [.lit (.bool false)], args := [d1, d2] }
  | _ => none }
def FnExactVerschiebungOfBigWrongFalsely : Prop := fnExactVerschiebungOfBigRow.holds Try.pinned (OpenSpec.ofChange fnExactVerschiebungOfBigWrong)

/-- 'laws.FnExactAddBig': WHATEVER THE INPUT: true; the input reads as it did. -/
def fnExactAddBigSpec : ChangeSpec := { name := "fnExactAddBig", fn := fun _ => fun
  | [d1, d2] => { results := [.lit (.bool true)], args := [d1, d2] }
  | _ => none }
def fnExactAddBigRow : OpenClaim := { program := "ytjkhggbjkkobaaa", sum := "c9fad72d349c8a15cd9aa5cac9730e0b8da3e57d25501e465d0054fffce2f11d", func := "loop.example/g01152/laws.FnExactAddBig", spec := "fnExactAddBig", unfollowed := true, recurses := true, named := ["math/bits.divideError", "math/bits.overflowError"], apart := false }
def FnExactAddBigSaid : Prop := fnExactAddBigRow.holds Try.pinned (OpenSpec.ofChange fnExactAddBigSpec)

/-- ITS FALSE NEIGHBOUR: 'it returns false'. Refute it at one input. -/
def fnExactAddBigWrong : ChangeSpec := { name := "fnExactAddBig", fn := fun _ => fun
  | [d1, d2] => { results := [.lit (.bool false)], args := [d1, d2] }
  | _ => none }
def FnExactAddBigWrongFalsely : Prop := fnExactAddBigRow.holds Try.pinned (OpenSpec.ofChange fnExactAddBigWrong)

/-- 'laws.FnExactMultipleOfBig': WHATEVER THE INPUT: true; the input reads as it did. -/
def fnExactMultipleOfBigSpec : ChangeSpec := { name := "fnExactMultipleOfBig", fn := fun _ => fun
  | [d1, d2] => { results := [.lit (.bool true)], args := [d1, d2] }
  | _ => none }
def fnExactMultipleOfBigRow : OpenClaim := { program := "ytjkhggbjkkobaaa", sum := "c9fad72d349c8a15cd9aa5cac9730e0b8da3e57d25501e465d0054fffce2f11d", func := "loop.example/g01152/laws.FnExactMultipleOfBig", spec := "fnExactMultipleOfBig", unfollowed := true, recurses := true, named := ["math/bits.divideError", "math/bits.overflowError"], apart := false }
def FnExactMultipleOfBigSaid : Prop := fnExactMultipleOfBigRow.holds Try.pinned (OpenSpec.ofChange fnExactMultipleOfBigSpec)

/-- ITS FALSE NEIGHBOUR: 'it returns false'. Refute it at one input. -/
def fnExactMultipleOfBigWrong : ChangeSpec := { name := "fnExactMultipleOfBig", fn := fun _ => fun
  | [d1, d2] => { results := [.lit (.bool false)], args := [d1, d2] }
  | _ => none }
def FnExactMultipleOfBigWrongFalsely : Prop := fnExactMultipleOfBigRow.holds Try.pinned (OpenSpec.ofChange fnExactMultipleOfBigWrong)

/-- 'laws.FnExactNegateBig': WHATEVER THE INPUT: true; the input reads as it did. -/
def fnExactNegateBigSpec : ChangeSpec := { name := "fnExactNegateBig", fn := fun _ => fun
  | [d] => { results := [.lit (.bool true)], args := [d] }
  | _ => none }
def fnExactNegateBigRow : OpenClaim := { program := "ytjkhggbjkkobaaa", sum := "c9fad72d349c8a15cd9aa5cac9730e0b8da3e57d25501e465d0054fffce2f11d", func := "loop.example/g01152/laws.FnExactNegateBig", spec := "fnExactNegateBig", unfollowed := true, recurses := true, named := ["math/bits.divideError", "math/bits.overflowError"], apart := false }
def FnExactNegateBigSaid : Prop := fnExactNegateBigRow.holds Try.pinned (OpenSpec.ofChange fnExactNegateBigSpec)

/-- ITS FALSE NEIGHBOUR: 'it returns false'. Refute it at one input. -/
def fnExactNegateBigWrong : ChangeSpec := { name := "fnExactNegateBig", fn := fun _ => fun
  | [d] => { results := [.lit (.bool false)], args := [d] }
  | _ => none }
def FnExactNegateBigWrongFalsely : Prop := fnExactNegateBigRow.holds Try.pinned (OpenSpec.ofChange fnExactNegateBigWrong)

/-- 'laws.FnExactBigOfCoordinates': WHATEVER THE INPUT: true; the input reads as it did. -/
def fnExactBigOfCoordinatesSpec : ChangeSpec := { name := "fnExactBigOfCoordinates", fn := fun _ => fun
  | [d1, d2] => { results := [.lit (.bool true)], args := [d1, d2] }
  | _ => none }
def fnExactBigOfCoordinatesRow : OpenClaim := { program := "ytjkhggbjkkobaaa", sum := "c9fad72d349c8a15cd9aa5cac9730e0b8da3e57d25501e465d0054fffce2f11d", func := "loop.example/g01152/laws.FnExactBigOfCoordinates", spec := "fnExactBigOfCoordinates", unfollowed := true, recurses := true, named := ["math/bits.divideError", "math/bits.overflowError"], apart := false }
def FnExactBigOfCoordinatesSaid : Prop := fnExactBigOfCoordinatesRow.holds Try.pinned (OpenSpec.ofChange fnExactBigOfCoordinatesSpec)

/-- ITS FALSE NEIGHBOUR: 'it returns false'. Refute it at one input. -/
def fnExactBigOfCoordinatesWrong : ChangeSpec := { name := "fnExactBigOfCoordinates", fn := fun _ => fun
  | [d1, d2] => { results := [.lit (.bool false)], args := [d1, d2] }
  | _ => none }
def FnExactBigOfCoordinatesWrongFalsely : Prop := fnExactBigOfCoordinatesRow.holds Try.pinned (OpenSpec.ofChange fnExactBigOfCoordinatesWrong)

/-- 'laws.FnExactCoordinatesOfBig': WHATEVER THE INPUT: true; the input reads as it did. -/
def fnExactCoordinatesOfBigSpec : ChangeSpec := { name := "fnExactCoordinatesOfBig", fn := fun _ => fun
  | [d] => { results := [.lit (.bool true)], args := [d] }
  | _ => none }
def fnExactCoordinatesOfBigRow : OpenClaim := { program := "ytjkhggbjkkobaaa", sum := "c9fad72d349c8a15cd9aa5cac9730e0b8da3e57d25501e465d0054fffce2f11d", func := "loop.example/g01152/laws.FnExactCoordinatesOfBig", spec := "fnExactCoordinatesOfBig", unfollowed := true, recurses := true, named := ["math/bits.divideError", "math/bits.overflowError"], apart := false }
def FnExactCoordinatesOfBigSaid : Prop := fnExactCoordinatesOfBigRow.holds Try.pinned (OpenSpec.ofChange fnExactCoordinatesOfBigSpec)

/-- ITS FALSE NEIGHBOUR: 'it returns false'. Refute it at one input. -/
def fnExactCoordinatesOfBigWrong : ChangeSpec := { name := "fnExactCoordinatesOfBig", fn := fun _ => fun
  | [d] => { results := [.lit (.bool false)], args := [d] }
  | _ => none }
def FnExactCoordinatesOfBigWrongFalsely : Prop := fnExactCoordinatesOfBigRow.holds Try.pinned (OpenSpec.ofChange fnExactCoordinatesOfBigWrong)

/-- 'laws.FnExactGhostsOfBig': WHATEVER THE INPUT: true; the input reads as it did. -/
def fnExactGhostsOfBigSpec : ChangeSpec := { name := "fnExactGhostsOfBig", fn := fun _ => fun
  | [d] => { results := [.lit (.bool true)], args := [d] }
  | _ => none }
def fnExactGhostsOfBigRow : OpenClaim := { program := "ytjkhggbjkkobaaa", sum := "c9fad72d349c8a15cd9aa5cac9730e0b8da3e57d25501e465d0054fffce2f11d", func := "loop.example/g01152/laws.FnExactGhostsOfBig", spec := "fnExactGhostsOfBig", unfollowed := true, recurses := true, named := ["math/bits.divideError", "math/bits.overflowError"], apart := false }
def FnExactGhostsOfBigSaid : Prop := fnExactGhostsOfBigRow.holds Try.pinned (OpenSpec.ofChange fnExactGhostsOfBigSpec)

/-- ITS FALSE NEIGHBOUR: 'it returns false'. Refute it at one input. -/
def fnExactGhostsOfBigWrong : ChangeSpec := { name := "fnExactGhostsOfBig", fn := fun _ => fun
  | [d] => { results := [.lit (.bool false)], args := [d] }
  | _ => none }
def FnExactGhostsOfBigWrongFalsely : Prop := fnExactGhostsOfBigRow.holds Try.pinned (OpenSpec.ofChange fnExactGhostsOfBigWrong)

/-- 'laws.FnExactFrobeniusOfBig': WHATEVER THE INPUT: true; the input reads as it did. -/
def fnExactFrobeniusOfBigSpec : ChangeSpec := { name := "fnExactFrobeniusOfBig", fn := fun _ => fun
  | [d1, d2] => { results := [.lit (.bool true)], args := [d1, d2] }
  | _ => none }
def fnExactFrobeniusOfBigRow : OpenClaim := { program := "ytjkhggbjkkobaaa", sum := "c9fad72d349c8a15cd9aa5cac9730e0b8da3e57d25501e465d0054fffce2f11d", func := "loop.example/g01152/laws.FnExactFrobeniusOfBig", spec := "fnExactFrobeniusOfBig", unfollowed := true, recurses := true, named := ["math/bits.divideError", "math/bits.overflowError"], apart := false }
def FnExactFrobeniusOfBigSaid : Prop := fnExactFrobeniusOfBigRow.holds Try.pinned (OpenSpec.ofChange fnExactFrobeniusOfBigSpec)

/-- ITS FALSE NEIGHBOUR: 'it returns false'. Refute it at one input. -/
def fnExactFrobeniusOfBigWrong : ChangeSpec := { name := "fnExactFrobeniusOfBig", fn := fun _ => fun
  | [d1, d2] => { results := [.lit (.bool false)], args := [d1, d2] }
  | _ => none }
def FnExactFrobeniusOfBigWrongFalsely : Prop := fnExactFrobeniusOfBigRow.holds Try.pinned (OpenSpec.ofChange fnExactFrobeniusOfBigWrong)

/-- 'laws.FnExactPowerOfBig': WHATEVER THE INPUT: true; the input reads as it did. -/
def fnExactPowerOfBigSpec : ChangeSpec := { name := "fnExactPowerOfBig", fn := fun _ => fun
  | [d1, d2] => { results := [.lit (.bool true)], args := [d1, d2] }
  | _ => none }
def fnExactPowerOfBigRow : OpenClaim := { program := "ytjkhggbjkkobaaa", sum := "c9fad72d349c8a15cd9aa5cac9730e0b8da3e57d25501e465d0054fffce2f11d", func := "loop.example/g01152/laws.FnExactPowerOfBig", spec := "fnExactPowerOfBig", unfollowed := true, recurses := true, named := ["math/bits.divideError", "math/bits.overflowError"], apart := false }
def FnExactPowerOfBigSaid : Prop := fnExactPowerOfBigRow.holds Try.pinned (OpenSpec.ofChange fnExactPowerOfBigSpec)

/-- ITS FALSE NEIGHBOUR: 'it returns false'. Refute it at one input. -/
def fnExactPowerOfBigWrong : ChangeSpec := { name := "fnExactPowerOfBig", fn := fun _ => fun
  | [d1, d2] => { results := [.lit (.bool false)], args := [d1, d2] }
  | _ => none }
def FnExactPowerOfBigWrongFalsely : Prop := fnExactPowerOfBigRow.holds Try.pinned (OpenSpec.ofChange fnExactPowerOfBigWrong)

/-- 'laws.FnExactMultiplyBig': WHATEVER THE INPUT: true; the input reads as it did. -/
def fnExactMultiplyBigSpec : ChangeSpec := { name := "fnExactMultiplyBig", fn := fun _ => fun
  | [d1, d2] => { results := [.lit (.bool true)], args := [d1, d2] }
  | _ => none }
def fnExactMultiplyBigRow : OpenClaim := { program := "ytjkhggbjkkobaaa", sum := "c9fad72d349c8a15cd9aa5cac9730e0b8da3e57d25501e465d0054fffce2f11d", func := "loop.example/g01152/laws.FnExactMultiplyBig", spec := "fnExactMultiplyBig", unfollowed := true, recurses := true, named := ["math/bits.divideError", "math/bits.overflowError"], apart := false }
def FnExactMultiplyBigSaid : Prop := fnExactMultiplyBigRow.holds Try.pinned (OpenSpec.ofChange fnExactMultiplyBigSpec)

/-- ITS FALSE NEIGHBOUR: 'it returns false'. Refute it at one input. -/
def fnExactMultiplyBigWrong : ChangeSpec := { name := "fnExactMultiplyBig", fn := fun _ => fun
  | [d1, d2] => { results := [.lit (.bool false)], args := [d1, d2] }
  | _ => none }
def FnExactMultiplyBigWrongFalsely : Prop := fnExactMultiplyBigRow.holds Try.pinned (OpenSpec.ofChange fnExactMultiplyBigWrong)

/- THE SECOND FORM. 'bulk': how many values and letters a reading holds, each counted each time it is reached (what is shared counts as often as it is met; a slice's spare places count too). A statement '..UptoSaid' is the law's where the arguments, and the package variables that the reading takes, are together of bulk at most 1048576: NARROWER than '..Said'. Prove '..Said' where nothing that the law and all that it calls make is longer than what came in: it says more and counts as full. Else prove '..UptoSaid'. A law counts once. -/
mutual
def uptoBulk {H : Type} : DataW H → Nat
  | .lit (.string bytes) => bytes.length + 1
  | .lit _ => 1
  | .nil => 1
  | .ptr d => uptoBulk d + 1
  | .slice elems spare => uptoBulkAll elems + uptoBulkAll spare + 1
  | .agg parts => uptoBulkAll parts + 1
  | .iface _ d => uptoBulk d + 1
  | .map entries => uptoBulkEntries entries + 1
  | .held _ => 1
def uptoBulkAll {H : Type} : List (DataW H) → Nat
  | [] => 0
  | d :: r => uptoBulk d + uptoBulkAll r
def uptoBulkEntries {H : Type} : List (Lit × DataW H) → Nat
  | [] => 0
  | x :: r => uptoBulkEntry x + uptoBulkEntries r
def uptoBulkEntry {H : Type} : Lit × DataW H → Nat
  | (.string bytes, d) => bytes.length + uptoBulk d + 1
  | (_, d) => uptoBulk d + 1
 end
def uptoSmall : (H : Type) → List (DataW H) → Bool := fun _ ds => decide (uptoBulkAll ds ≤ 1048576)
def OpenSpec.upto (s : _root_.Go.ChangeSpec) : _root_.Go.OpenSpec := { _root_.Go.OpenSpec.ofChange s with cond := some uptoSmall }

/-- 'laws.FnExactIsBigVector', WHERE WHAT IT READS IS OF BULK AT MOST 1048576: true; the input reads as it did. -/
def fnExactIsBigVectorUptoRow : OpenClaim := { program := "ytjkhggbjkkobaaa", sum := "c9fad72d349c8a15cd9aa5cac9730e0b8da3e57d25501e465d0054fffce2f11d", func := "loop.example/g01152/laws.FnExactIsBigVector", spec := "fnExactIsBigVector", unfollowed := true, recurses := true, apart := false, narrowed := true }
def FnExactIsBigVectorUptoSaid : Prop := fnExactIsBigVectorUptoRow.holds Try.pinned (OpenSpec.upto fnExactIsBigVectorSpec)

/-- 'laws.FnExactRepresentativeBig', WHERE WHAT IT READS IS OF BULK AT MOST 1048576: true; the input reads as it did. -/
def fnExactRepresentativeBigUptoRow : OpenClaim := { program := "ytjkhggbjkkobaaa", sum := "c9fad72d349c8a15cd9aa5cac9730e0b8da3e57d25501e465d0054fffce2f11d", func := "loop.example/g01152/laws.FnExactRepresentativeBig", spec := "fnExactRepresentativeBig", unfollowed := true, recurses := true, apart := false, narrowed := true }
def FnExactRepresentativeBigUptoSaid : Prop := fnExactRepresentativeBigUptoRow.holds Try.pinned (OpenSpec.upto fnExactRepresentativeBigSpec)

/-- 'laws.FnExactVerschiebungOfBig', WHERE WHAT IT READS IS OF BULK AT MOST 1048576: true; the input reads as it did. -/
def fnExactVerschiebungOfBigUptoRow : OpenClaim := { program := "ytjkhggbjkkobaaa", sum := "c9fad72d349c8a15cd9aa5cac9730e0b8da3e57d25501e465d0054fffce2f11d", func := "loop.example/g01152/laws.FnExactVerschiebungOfBig", spec := "fnExactVerschiebungOfBig", unfollowed := true, recurses := true, apart := false, narrowed := true }
def FnExactVerschiebungOfBigUptoSaid : Prop := fnExactVerschiebungOfBigUptoRow.holds Try.pinned (OpenSpec.upto fnExactVerschiebungOfBigSpec)

/-- 'laws.FnExactAddBig', WHERE WHAT IT READS IS OF BULK AT MOST 1048576: true; the input reads as it did. -/
def fnExactAddBigUptoRow : OpenClaim := { program := "ytjkhggbjkkobaaa", sum := "c9fad72d349c8a15cd9aa5cac9730e0b8da3e57d25501e465d0054fffce2f11d", func := "loop.example/g01152/laws.FnExactAddBig", spec := "fnExactAddBig", unfollowed := true, recurses := true, named := ["math/bits.divideError", "math/bits.overflowError"], apart := false, narrowed := true }
def FnExactAddBigUptoSaid : Prop := fnExactAddBigUptoRow.holds Try.pinned (OpenSpec.upto fnExactAddBigSpec)

/-- 'laws.FnExactMultipleOfBig', WHERE WHAT IT READS IS OF BULK AT MOST 1048576: true; the input reads as it did. -/
def fnExactMultipleOfBigUptoRow : OpenClaim := { program := "ytjkhggbjkkobaaa", sum := "c9fad72d349c8a15cd9aa5cac9730e0b8da3e57d25501e465d0054fffce2f11d", func := "loop.example/g01152/laws.FnExactMultipleOfBig", spec := "fnExactMultipleOfBig", unfollowed := true, recurses := true, named := ["math/bits.divideError", "math/bits.overflowError"], apart := false, narrowed := true }
def FnExactMultipleOfBigUptoSaid : Prop := fnExactMultipleOfBigUptoRow.holds Try.pinned (OpenSpec.upto fnExactMultipleOfBigSpec)

/-- 'laws.FnExactNegateBig', WHERE WHAT IT READS IS OF BULK AT MOST 1048576: true; the input reads as it did. -/
def fnExactNegateBigUptoRow : OpenClaim := { program := "ytjkhggbjkkobaaa", sum := "c9fad72d349c8a15cd9aa5cac9730e0b8da3e57d25501e465d0054fffce2f11d", func := "loop.example/g01152/laws.FnExactNegateBig", spec := "fnExactNegateBig", unfollowed := true, recurses := true, named := ["math/bits.divideError", "math/bits.overflowError"], apart := false, narrowed := true }
def FnExactNegateBigUptoSaid : Prop := fnExactNegateBigUptoRow.holds Try.pinned (OpenSpec.upto fnExactNegateBigSpec)

/-- 'laws.FnExactBigOfCoordinates', WHERE WHAT IT READS IS OF BULK AT MOST 1048576: true; the input reads as it did. -/
def fnExactBigOfCoordinatesUptoRow : OpenClaim := { program := "ytjkhggbjkkobaaa", sum := "c9fad72d349c8a15cd9aa5cac9730e0b8da3e57d25501e465d0054fffce2f11d", func := "loop.example/g01152/laws.FnExactBigOfCoordinates", spec := "fnExactBigOfCoordinates", unfollowed := true, recurses := true, named := ["math/bits.divideError", "math/bits.overflowError"], apart := false, narrowed := true }
def FnExactBigOfCoordinatesUptoSaid : Prop := fnExactBigOfCoordinatesUptoRow.holds Try.pinned (OpenSpec.upto fnExactBigOfCoordinatesSpec)

/-- 'laws.FnExactCoordinatesOfBig', WHERE WHAT IT READS IS OF BULK AT MOST 1048576: true; the input reads as it did. -/
def fnExactCoordinatesOfBigUptoRow : OpenClaim := { program := "ytjkhggbjkkobaaa", sum := "c9fad72d349c8a15cd9aa5cac9730e0b8da3e57d25501e465d0054fffce2f11d", func := "loop.example/g01152/laws.FnExactCoordinatesOfBig", spec := "fnExactCoordinatesOfBig", unfollowed := true, recurses := true, named := ["math/bits.divideError", "math/bits.overflowError"], apart := false, narrowed := true }
def FnExactCoordinatesOfBigUptoSaid : Prop := fnExactCoordinatesOfBigUptoRow.holds Try.pinned (OpenSpec.upto fnExactCoordinatesOfBigSpec)

/-- 'laws.FnExactGhostsOfBig', WHERE WHAT IT READS IS OF BULK AT MOST 1048576: true; the input reads as it did. -/
def fnExactGhostsOfBigUptoRow : OpenClaim := { program := "ytjkhggbjkkobaaa", sum := "c9fad72d349c8a15cd9aa5cac9730e0b8da3e57d25501e465d0054fffce2f11d", func := "loop.example/g01152/laws.FnExactGhostsOfBig", spec := "fnExactGhostsOfBig", unfollowed := true, recurses := true, named := ["math/bits.divideError", "math/bits.overflowError"], apart := false, narrowed := true }
def FnExactGhostsOfBigUptoSaid : Prop := fnExactGhostsOfBigUptoRow.holds Try.pinned (OpenSpec.upto fnExactGhostsOfBigSpec)

/-- 'laws.FnExactFrobeniusOfBig', WHERE WHAT IT READS IS OF BULK AT MOST 1048576: true; the input reads as it did. -/
def fnExactFrobeniusOfBigUptoRow : OpenClaim := { program := "ytjkhggbjkkobaaa", sum := "c9fad72d349c8a15cd9aa5cac9730e0b8da3e57d25501e465d0054fffce2f11d", func := "loop.example/g01152/laws.FnExactFrobeniusOfBig", spec := "fnExactFrobeniusOfBig", unfollowed := true, recurses := true, named := ["math/bits.divideError", "math/bits.overflowError"], apart := false, narrowed := true }
def FnExactFrobeniusOfBigUptoSaid : Prop := fnExactFrobeniusOfBigUptoRow.holds Try.pinned (OpenSpec.upto fnExactFrobeniusOfBigSpec)

/-- 'laws.FnExactPowerOfBig', WHERE WHAT IT READS IS OF BULK AT MOST 1048576: true; the input reads as it did. -/
def fnExactPowerOfBigUptoRow : OpenClaim := { program := "ytjkhggbjkkobaaa", sum := "c9fad72d349c8a15cd9aa5cac9730e0b8da3e57d25501e465d0054fffce2f11d", func := "loop.example/g01152/laws.FnExactPowerOfBig", spec := "fnExactPowerOfBig", unfollowed := true, recurses := true, named := ["math/bits.divideError", "math/bits.overflowError"], apart := false, narrowed := true }
def FnExactPowerOfBigUptoSaid : Prop := fnExactPowerOfBigUptoRow.holds Try.pinned (OpenSpec.upto fnExactPowerOfBigSpec)

/-- 'laws.FnExactMultiplyBig', WHERE WHAT IT READS IS OF BULK AT MOST 1048576: true; the input reads as it did. -/
def fnExactMultiplyBigUptoRow : OpenClaim := { program := "ytjkhggbjkkobaaa", sum := "c9fad72d349c8a15cd9aa5cac9730e0b8da3e57d25501e465d0054fffce2f11d", func := "loop.example/g01152/laws.FnExactMultiplyBig", spec := "fnExactMultiplyBig", unfollowed := true, recurses := true, named := ["math/bits.divideError", "math/bits.overflowError"], apart := false, narrowed := true }
def FnExactMultiplyBigUptoSaid : Prop := fnExactMultiplyBigUptoRow.holds Try.pinned (OpenSpec.upto fnExactMultiplyBigSpec)

end Rows
end Go.Proofs.Ytjkhggbjkkobaaa
