/-
  No cell of these rows narrows 'for every input' (looked for: loops, veiled, ifaces, maps, wideKeys, modest, calm, conditions, laid).
  DERIVED. THE GIVEN ROWS OF THIS SEAT. 6 by the template 'for every input the law returns true; each argument reads behind the call as it read before'; 0 by the template 'total and deterministic' (their statements: YtbnjoiiplldccaaTotals.lean).
  GIVEN WITH THE SEED: the statements are not yours to turn. If you find one false, say at which input.
  Laid BY PROGRAM, IN A SANDBOX (cutbox-rows.mjs): the forced cells as the released guide's own fill.sh prints them over the translation 40d750f69abf702a… (all of the seat's roots in one cut). By AI agents, Wed Nov 11 2026. No macro, syntax, notation, axiom, sorry.
-/
import Derived.Test.YtbnjoiiplldccaaChecked
import GoSem.Claim
import GoSem.ClaimJoined
import GoSem.ClaimMapViews
import Derived.JoinedTies
import Derived.KernelRfl
namespace Go.Proofs.Ytbnjoiiplldccaa
/- THE CELL 'sum', in the pinned program and in every row, IS THE sha256 OF THE DUMP (.gsa) THAT YtbnjoiiplldccaaProg.lean LOADS. Nothing in Lean hashes anything: it is a label: what it is worth is what the hold of that sum in a sandbox is worth. -/
noncomputable def Try.pinned : Pinned := { name := "ytbnjoiiplldccaa", sum := "40d750f69abf702a2a454a0042f51436d6f96c12f5081308b6fa74f7afa20fbf", checked := Try.checked }
namespace Rows
def none {H : Type} : Left H := { results := [], args := [] }

/-- 'laws.FnExactArtinHasseCoefficient': WHATEVER THE INPUT: true; the input reads as it did. -/
def fnExactArtinHasseCoefficientSpec : ChangeSpec := { name := "fnExactArtinHasseCoefficient", fn := fun _ => fun
  | [d1, d2] => { results := [.lit (.bool true)], args := [d1, d2] }
  | _ => none }
def fnExactArtinHasseCoefficientRow : OpenClaim := { program := "ytbnjoiiplldccaa", sum := "40d750f69abf702a2a454a0042f51436d6f96c12f5081308b6fa74f7afa20fbf", func := "loop.example/g01152/laws.FnExactArtinHasseCoefficient", spec := "fnExactArtinHasseCoefficient", apart := false }
def FnExactArtinHasseCoefficientSaid : Prop := fnExactArtinHasseCoefficientRow.holds Try.pinned (OpenSpec.ofChange fnExactArtinHasseCoefficientSpec)

/-- ITS FALSE NEIGHBOUR: 'it returns false'. Refute it at one input. -/
def fnExactArtinHasseCoefficientWrong : ChangeSpec := { name := "fnExactArtinHasseCoefficient", fn := fun _ => fun
  | [d1, d2] => { results := [.lit (.bool false)], args := [d1, d2] }
  | _ => none }
def FnExactArtinHasseCoefficientWrongFalsely : Prop := fnExactArtinHasseCoefficientRow.holds Try.pinned (OpenSpec.ofChange fnExactArtinHasseCoefficientWrong)

/-- 'laws.FnExactArtinHasse': WHATEVER THE INPUT: true; the input reads as it did. -/
def fnExactArtinHasseSpec : ChangeSpec := { name := "fnExactArtinHasse", fn := fun _ => fun
  | [d1, d2, d3] => { results := [.lit (.bool true)], args := [d1, d2, d3] }
  | _ => none }
def fnExactArtinHasseRow : OpenClaim := { program := "ytbnjoiiplldccaa", sum := "40d750f69abf702a2a454a0042f51436d6f96c12f5081308b6fa74f7afa20fbf", func := "loop.example/g01152/laws.FnExactArtinHasse", spec := "fnExactArtinHasse", apart := false }
def FnExactArtinHasseSaid : Prop := fnExactArtinHasseRow.holds Try.pinned (OpenSpec.ofChange fnExactArtinHasseSpec)

/-- ITS FALSE NEIGHBOUR: 'it returns false'. Refute it at one input. -/
def fnExactArtinHasseWrong : ChangeSpec := { name := "fnExactArtinHasse", fn := fun _ => fun
  | [d1, d2, d3] => { results := [.lit (.bool false)], args := [d1, d2, d3] }
  | _ => none }
def FnExactArtinHasseWrongFalsely : Prop := fnExactArtinHasseRow.holds Try.pinned (OpenSpec.ofChange fnExactArtinHasseWrong)

/-- 'laws.FnExactBigOfBlocks': WHATEVER THE INPUT: true; the input reads as it did. -/
def fnExactBigOfBlocksSpec : ChangeSpec := { name := "fnExactBigOfBlocks", fn := fun _ => fun
  | [d1, d2, d3] => { results := [.lit (.bool true)], args := [d1, d2, d3] }
  | _ => none }
def fnExactBigOfBlocksRow : OpenClaim := { program := "ytbnjoiiplldccaa", sum := "40d750f69abf702a2a454a0042f51436d6f96c12f5081308b6fa74f7afa20fbf", func := "loop.example/g01152/laws.FnExactBigOfBlocks", spec := "fnExactBigOfBlocks", unfollowed := true, recurses := true, named := ["math/bits.divideError", "math/bits.overflowError"], apart := false }
def FnExactBigOfBlocksSaid : Prop := fnExactBigOfBlocksRow.holds Try.pinned (OpenSpec.ofChange fnExactBigOfBlocksSpec)

/-- ITS FALSE NEIGHBOUR: 'it returns false'. Refute it at one input. -/
def fnExactBigOfBlocksWrong : ChangeSpec := { name := "fnExactBigOfBlocks", fn := fun _ => fun
  | [d1, d2, d3] => { results := [.lit (.bool false)], args := [d1, d2, d3] }
  | _ => none }
def FnExactBigOfBlocksWrongFalsely : Prop := fnExactBigOfBlocksRow.holds Try.pinned (OpenSpec.ofChange fnExactBigOfBlocksWrong)

/-- 'laws.FnExactExponentialOfWitt': WHATEVER THE INPUT: true; the input reads as it did. -/
def fnExactExponentialOfWittSpec : ChangeSpec := { name := "fnExactExponentialOfWitt", fn := fun _ => fun
  | [d1, d2] => { results := [.lit (.bool true)], args := [d1, d2] }
  | _ => none }
def fnExactExponentialOfWittRow : OpenClaim := { program := "ytbnjoiiplldccaa", sum := "40d750f69abf702a2a454a0042f51436d6f96c12f5081308b6fa74f7afa20fbf", func := "loop.example/g01152/laws.FnExactExponentialOfWitt", spec := "fnExactExponentialOfWitt", unfollowed := true, recurses := true, named := ["math/bits.divideError", "math/bits.overflowError"], apart := false }
def FnExactExponentialOfWittSaid : Prop := fnExactExponentialOfWittRow.holds Try.pinned (OpenSpec.ofChange fnExactExponentialOfWittSpec)

/-- ITS FALSE NEIGHBOUR: 'it returns false'. Refute it at one input. -/
def fnExactExponentialOfWittWrong : ChangeSpec := { name := "fnExactExponentialOfWitt", fn := fun _ => fun
  | [d1, d2] => { results := [.lit (.bool false)], args := [d1, d2] }
  | _ => none }
def FnExactExponentialOfWittWrongFalsely : Prop := fnExactExponentialOfWittRow.holds Try.pinned (OpenSpec.ofChange fnExactExponentialOfWittWrong)

/-- 'laws.FnExactBlocksOf': WHATEVER THE INPUT: true; the input reads as it did. -/
def fnExactBlocksOfSpec : ChangeSpec := { name := "fnExactBlocksOf", fn := fun _ => fun
  | [d1, d2] => { results := [.lit (.bool true)], args := [d1, d2] }
  | _ => none }
def fnExactBlocksOfRow : OpenClaim := { program := "ytbnjoiiplldccaa", sum := "40d750f69abf702a2a454a0042f51436d6f96c12f5081308b6fa74f7afa20fbf", func := "loop.example/g01152/laws.FnExactBlocksOf", spec := "fnExactBlocksOf", unfollowed := true, recurses := true, named := ["math/bits.divideError", "math/bits.overflowError"], apart := false }
def FnExactBlocksOfSaid : Prop := fnExactBlocksOfRow.holds Try.pinned (OpenSpec.ofChange fnExactBlocksOfSpec)

/-- ITS FALSE NEIGHBOUR: 'it returns false'. Refute it at one input. -/
def fnExactBlocksOfWrong : ChangeSpec := { name := "fnExactBlocksOf", fn := fun _ => fun
  | [d1, d2] => { results := [.lit (.bool false)], args := [d1, d2] }
  | _ => none }
def FnExactBlocksOfWrongFalsely : Prop := fnExactBlocksOfRow.holds Try.pinned (OpenSpec.ofChange fnExactBlocksOfWrong)

/-- 'laws.FnExactWittOfBig': WHATEVER THE INPUT: true; the input reads as it did. -/
def fnExactWittOfBigSpec : ChangeSpec := { name := "fnExactWittOfBig", fn := fun _ => fun
  | [d1, d2, d3] => { results := [.lit (.bool true)], args := [d1, d2, d3] }
  | _ => none }
def fnExactWittOfBigRow : OpenClaim := { program := "ytbnjoiiplldccaa", sum := "40d750f69abf702a2a454a0042f51436d6f96c12f5081308b6fa74f7afa20fbf", func := "loop.example/g01152/laws.FnExactWittOfBig", spec := "fnExactWittOfBig", unfollowed := true, recurses := true, named := ["math/bits.divideError", "math/bits.overflowError"], apart := false }
def FnExactWittOfBigSaid : Prop := fnExactWittOfBigRow.holds Try.pinned (OpenSpec.ofChange fnExactWittOfBigSpec)

/-- ITS FALSE NEIGHBOUR: 'it returns false'. Refute it at one input. -/
def fnExactWittOfBigWrong : ChangeSpec := { name := "fnExactWittOfBig", fn := fun _ => fun
  | [d1, d2, d3] => { results := [.lit (.bool false)], args := [d1, d2, d3] }
  | _ => none }
def FnExactWittOfBigWrongFalsely : Prop := fnExactWittOfBigRow.holds Try.pinned (OpenSpec.ofChange fnExactWittOfBigWrong)

/- THE SECOND FORM. 'bulk': how many values and letters a reading holds, each counted each time it is reached (what is shared counts as often as it is met; a slice's spare places count too). A statement '..UptoSaid' is the law's where the arguments, and the package variables that the reading takes, are together of bulk at most 1048576: NARROWER than '..Said'. Prove '..Said' where nothing that the law and all that it calls make is longer than what came in: it says more and counts as full. Else prove '..UptoSaid'. A law counts once. -/
mutual
def uptoBulk {H : Type} : DataW H → Nat
  | .lit (.string bytes) => bytes.length + 1
  | .lit _ => 1
  | .nil => 1
  | .ptr d => uptoBulk d + 1
  | .slice elems spare => uptoBulkAll elems + uptoBulkAll spare + 1
  | .agg parts => uptoBulkAll parts + 1
  | .iface _ d => uptoBulk d + 1
  | .map entries => uptoBulkEntries entries + 1
  | .held _ => 1
def uptoBulkAll {H : Type} : List (DataW H) → Nat
  | [] => 0
  | d :: r => uptoBulk d + uptoBulkAll r
def uptoBulkEntries {H : Type} : List (Lit × DataW H) → Nat
  | [] => 0
  | x :: r => uptoBulkEntry x + uptoBulkEntries r
def uptoBulkEntry {H : Type} : Lit × DataW H → Nat
  | (.string bytes, d) => bytes.length + uptoBulk d + 1
  | (_, d) => uptoBulk d + 1
 end
def uptoSmall : (H : Type) → List (DataW H) → Bool := fun _ ds => decide (uptoBulkAll ds ≤ 1048576)
def OpenSpec.upto (s : _root_.Go.ChangeSpec) : _root_.Go.OpenSpec := { _root_.Go.OpenSpec.ofChange s with cond := some uptoSmall }

/-- 'laws.FnExactArtinHasseCoefficient', WHERE WHAT IT READS IS OF BULK AT MOST 1048576: true; the input reads as it did. -/
def fnExactArtinHasseCoefficientUptoRow : OpenClaim := { program := "ytbnjoiiplldccaa", sum := "40d750f69abf702a2a454a0042f51436d6f96c12f5081308b6fa74f7afa20fbf", func := "loop.example/g01152/laws.FnExactArtinHasseCoefficient", spec := "fnExactArtinHasseCoefficient", apart := false, narrowed := true }
def FnExactArtinHasseCoefficientUptoSaid : Prop := fnExactArtinHasseCoefficientUptoRow.holds Try.pinned (OpenSpec.upto fnExactArtinHasseCoefficientSpec)

/-- 'laws.FnExactArtinHasse', WHERE WHAT IT READS IS OF BULK AT MOST 1048576: true; the input reads as it did. -/
def fnExactArtinHasseUptoRow : OpenClaim := { program := "ytbnjoiiplldccaa", sum := "40d750f69abf702a2a454a0042f51436d6f96c12f5081308b6fa74f7afa20fbf", func := "loop.example/g01152/laws.FnExactArtinHasse", spec := "fnExactArtinHasse", apart := false, narrowed := true }
def FnExactArtinHasseUptoSaid : Prop := fnExactArtinHasseUptoRow.holds Try.pinned (OpenSpec.upto fnExactArtinHasseSpec)

/-- 'laws.FnExactBigOfBlocks', WHERE WHAT IT READS IS OF BULK AT MOST 1048576: true; the input reads as it did. -/
def fnExactBigOfBlocksUptoRow : OpenClaim := { program := "ytbnjoiiplldccaa", sum := "40d750f69abf702a2a454a0042f51436d6f96c12f5081308b6fa74f7afa20fbf", func := "loop.example/g01152/laws.FnExactBigOfBlocks", spec := "fnExactBigOfBlocks", unfollowed := true, recurses := true, named := ["math/bits.divideError", "math/bits.overflowError"], apart := false, narrowed := true }
def FnExactBigOfBlocksUptoSaid : Prop := fnExactBigOfBlocksUptoRow.holds Try.pinned (OpenSpec.upto fnExactBigOfBlocksSpec)

/-- 'laws.FnExactExponentialOfWitt', WHERE WHAT IT READS IS OF BULK AT MOST 1048576: true; the input reads as it did. -/
def fnExactExponentialOfWittUptoRow : OpenClaim := { program := "ytbnjoiiplldccaa", sum := "40d750f69abf702a2a454a0042f51436d6f96c12f5081308b6fa74f7afa20fbf", func := "loop.example/g01152/laws.FnExactExponentialOfWitt", spec := "fnExactExponentialOfWitt", unfollowed := true, recurses := true, named := ["math/bits.divideError", "math/bits.overflowError"], apart := false, narrowed := true }
def FnExactExponentialOfWittUptoSaid : Prop := fnExactExponentialOfWittUptoRow.holds Try.pinned (OpenSpec.upto fnExactExponentialOfWittSpec)

/-- 'laws.FnExactBlocksOf', WHERE WHAT IT READS IS OF BULK AT MOST 1048576: true; the input reads as it did. -/
def fnExactBlocksOfUptoRow : OpenClaim := { program := "ytbnjoiiplldccaa", sum := "40d750f69abf702a2a454a0042f51436d6f96c12f5081308b6fa74f7afa20fbf", func := "loop.example/g01152/laws.FnExactBlocksOf", spec := "fnExactBlocksOf", unfollowed := true, recurses := true, named := ["math/bits.divideError", "math/bits.overflowError"], apart := false, narrowed := true }
def FnExactBlocksOfUptoSaid : Prop := fnExactBlocksOfUptoRow.holds Try.pinned (OpenSpec.upto fnExactBlocksOfSpec)

/-- 'laws.FnExactWittOfBig', WHERE WHAT IT READS IS OF BULK AT MOST 1048576: true; the input reads as it did. -/
def fnExactWittOfBigUptoRow : OpenClaim := { program := "ytbnjoiiplldccaa", sum := "40d750f69abf702a2a454a0042f51436d6f96c12f5081308b6fa74f7afa20fbf", func := "loop.example/g01152/laws.FnExactWittOfBig", spec := "fnExactWittOfBig", unfollowed := true, recurses := true, named := ["math/bits.divideError", "math/bits.overflowError"], apart := false, narrowed := true }
def FnExactWittOfBigUptoSaid : Prop := fnExactWittOfBigUptoRow.holds Try.pinned (OpenSpec.upto fnExactWittOfBigSpec)

end Rows
end Go.Proofs.Ytbnjoiiplldccaa
