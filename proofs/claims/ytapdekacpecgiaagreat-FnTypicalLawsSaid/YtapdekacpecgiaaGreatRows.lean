/-
  No cell of these rows narrows 'for every input' (looked for: loops, veiled, ifaces, maps, wideKeys, modest, calm, conditions, laid).
  DERIVED. THE GIVEN ROWS OF THIS SEAT. 4 by the template 'for every input the law returns true; each argument reads behind the call as it read before'; 0 by the template 'total and deterministic' (their statements: YtapdekacpecgiaaGreatTotals.lean).
  GIVEN WITH THE SEED: the statements are not yours to turn. If you find one false, say at which input.
  Laid BY PROGRAM, IN A SANDBOX (cutbox-rows.mjs): the forced cells as the released guide's own fill.sh prints them over the translation a3cb30392647ce6b… (all of the seat's roots in one cut). By AI agents, Wed Nov 11 2026. No macro, syntax, notation, axiom, sorry.
-/
import Derived.Test.YtapdekacpecgiaaGreatChecked
import GoSem.Claim
import GoSem.ClaimJoined
import GoSem.ClaimMapViews
import Derived.JoinedTies
import Derived.KernelRfl
namespace Go.Proofs.YtapdekacpecgiaaGreat
/- THE CELL 'sum', in the pinned program and in every row, IS THE sha256 OF THE DUMP (.gsa) THAT YtapdekacpecgiaaGreatProg.lean LOADS. Nothing in Lean hashes anything: it is a label: what it is worth is what the hold of that sum in a sandbox is worth. -/
noncomputable def Tryz.pinned : Pinned := { name := "ytapdekacpecgiaagreat", sum := "a3cb30392647ce6bbf8c74881d0d1034f2083d39d67982689cb9c2c64eda773f", checked := Tryz.checked }
namespace Rows
def none {H : Type} : Left H := { results := [], args := [] }

/-- 'laws.FnSubstitutions': WHATEVER THE INPUT: true; the input reads as it did. -/
def fnSubstitutionsSpec : ChangeSpec := { name := "fnSubstitutions", fn := fun _ => fun
  | [d] => { results := [.lit (.bool true)], args := [d] }
  | _ => none }
def fnSubstitutionsRow : OpenClaim := { program := "ytapdekacpecgiaagreat", sum := "a3cb30392647ce6bbf8c74881d0d1034f2083d39d67982689cb9c2c64eda773f", func := "loop.example/g01152/laws.FnSubstitutions", spec := "fnSubstitutions", unfollowed := true, recurses := true, named := ["math/bits.divideError", "math/bits.overflowError"], apart := false }
def FnSubstitutionsSaid : Prop := fnSubstitutionsRow.holds Tryz.pinned (OpenSpec.ofChange fnSubstitutionsSpec)

/-- ITS FALSE NEIGHBOUR: 'it returns false'. Refute it at one input. -/
def fnSubstitutionsWrong : ChangeSpec := { name := "fnSubstitutions", fn := fun _ => fun
  | [d] => { results := [.lit (.bool false)], args := [d] }
  | _ => none }
def FnSubstitutionsWrongFalsely : Prop := fnSubstitutionsRow.holds Tryz.pinned (OpenSpec.ofChange fnSubstitutionsWrong)

/-- 'laws.FnTypicalLaws': WHATEVER THE INPUT: true; the input reads as it did. -/
def fnTypicalLawsSpec : ChangeSpec := { name := "fnTypicalLaws", fn := fun _ => fun
  | [d] => { results := [.lit (.bool true)], args := [d] }
  | _ => none }
def fnTypicalLawsRow : OpenClaim := { program := "ytapdekacpecgiaagreat", sum := "a3cb30392647ce6bbf8c74881d0d1034f2083d39d67982689cb9c2c64eda773f", func := "loop.example/g01152/laws.FnTypicalLaws", spec := "fnTypicalLaws", unfollowed := true, recurses := true, named := ["math/bits.divideError", "math/bits.overflowError"], apart := false }
def FnTypicalLawsSaid : Prop := fnTypicalLawsRow.holds Tryz.pinned (OpenSpec.ofChange fnTypicalLawsSpec)

/-- ITS FALSE NEIGHBOUR: 'it returns false'. Refute it at one input. -/
def fnTypicalLawsWrong : ChangeSpec := { name := "fnTypicalLaws", fn := fun _ => fun
  | [d] => { results := [.lit (.bool false)], args := [d] }
  | _ => none }
def FnTypicalLawsWrongFalsely : Prop := fnTypicalLawsRow.holds Tryz.pinned (OpenSpec.ofChange fnTypicalLawsWrong)

/-- 'laws.FnLawsOfCurves': WHATEVER THE INPUT: true; the input reads as it did. -/
def fnLawsOfCurvesSpec : ChangeSpec := { name := "fnLawsOfCurves", fn := fun _ => fun
  | [d] => { results := [.lit (.bool true)], args := [d] }
  | _ => none }
def fnLawsOfCurvesRow : OpenClaim := { program := "ytapdekacpecgiaagreat", sum := "a3cb30392647ce6bbf8c74881d0d1034f2083d39d67982689cb9c2c64eda773f", func := "loop.example/g01152/laws.FnLawsOfCurves", spec := "fnLawsOfCurves", unfollowed := true, recurses := true, named := ["math/bits.divideError", "math/bits.overflowError"], apart := false }
def FnLawsOfCurvesSaid : Prop := fnLawsOfCurvesRow.holds Tryz.pinned (OpenSpec.ofChange fnLawsOfCurvesSpec)

/-- ITS FALSE NEIGHBOUR: 'it returns false'. Refute it at one input. -/
def fnLawsOfCurvesWrong : ChangeSpec := { name := "fnLawsOfCurves", fn := fun _ => fun
  | [d] => { results := [.lit (.bool false)], args := [d] }
  | _ => none }
def FnLawsOfCurvesWrongFalsely : Prop := fnLawsOfCurvesRow.holds Tryz.pinned (OpenSpec.ofChange fnLawsOfCurvesWrong)

/-- 'laws.FnIsomorphisms': WHATEVER THE INPUT: true; the input reads as it did. -/
def fnIsomorphismsSpec : ChangeSpec := { name := "fnIsomorphisms", fn := fun _ => fun
  | [d] => { results := [.lit (.bool true)], args := [d] }
  | _ => none }
def fnIsomorphismsRow : OpenClaim := { program := "ytapdekacpecgiaagreat", sum := "a3cb30392647ce6bbf8c74881d0d1034f2083d39d67982689cb9c2c64eda773f", func := "loop.example/g01152/laws.FnIsomorphisms", spec := "fnIsomorphisms", unfollowed := true, recurses := true, named := ["math/bits.divideError", "math/bits.overflowError"], apart := false }
def FnIsomorphismsSaid : Prop := fnIsomorphismsRow.holds Tryz.pinned (OpenSpec.ofChange fnIsomorphismsSpec)

/-- ITS FALSE NEIGHBOUR: 'it returns false'. Refute it at one input. -/
def fnIsomorphismsWrong : ChangeSpec := { name := "fnIsomorphisms", fn := fun _ => fun
  | [d] => { results := [.lit (.bool false)], args := [d] }
  | _ => none }
def FnIsomorphismsWrongFalsely : Prop := fnIsomorphismsRow.holds Tryz.pinned (OpenSpec.ofChange fnIsomorphismsWrong)

/- THE SECOND FORM. 'bulk': how many values and letters a reading holds, each counted each time it is reached (what is shared counts as often as it is met; a slice's spare places count too). A statement '..UptoSaid' is the law's where the arguments, and the package variables that the reading takes, are together of bulk at most 1048576: NARROWER than '..Said'. Prove '..Said' where nothing that the law and all that it calls make is longer than what came in: it says more and counts as full. Else prove '..UptoSaid'. A law counts once. -/
mutual
def uptoBulk {H : Type} : DataW H → Nat
  | .lit (.string bytes) => bytes.length + 1
  | .lit _ => 1
  | .nil => 1
  | .ptr d => uptoBulk d + 1
  | .slice elems spare => uptoBulkAll elems + uptoBulkAll spare + 1
  | .agg parts => uptoBulkAll parts + 1
  | .iface _ d => uptoBulk d + 1
  | .map entries => uptoBulkEntries entries + 1
  | .held _ => 1
def uptoBulkAll {H : Type} : List (DataW H) → Nat
  | [] => 0
  | d :: r => uptoBulk d + uptoBulkAll r
def uptoBulkEntries {H : Type} : List (Lit × DataW H) → Nat
  | [] => 0
  | x :: r => uptoBulkEntry x + uptoBulkEntries r
def uptoBulkEntry {H : Type} : Lit × DataW H → Nat
  | (.string bytes, d) => bytes.length + uptoBulk d + 1
  | (_, d) => uptoBulk d + 1
 end
def uptoSmall : (H : Type) → List (DataW H) → Bool := fun _ ds => decide (uptoBulkAll ds ≤ 1048576)
def OpenSpec.upto (s : _root_.Go.ChangeSpec) : _root_.Go.OpenSpec := { _root_.Go.OpenSpec.ofChange s with cond := some uptoSmall }

/-- 'laws.FnSubstitutions', WHERE WHAT IT READS IS OF BULK AT MOST 1048576: true; the input reads as it did. -/
def fnSubstitutionsUptoRow : OpenClaim := { program := "ytapdekacpecgiaagreat", sum := "a3cb30392647ce6bbf8c74881d0d1034f2083d39d67982689cb9c2c64eda773f", func := "loop.example/g01152/laws.FnSubstitutions", spec := "fnSubstitutions", unfollowed := true, recurses := true, named := ["math/bits.divideError", "math/bits.overflowError"], apart := false, narrowed := true }
def FnSubstitutionsUptoSaid : Prop := fnSubstitutionsUptoRow.holds Tryz.pinned (OpenSpec.upto fnSubstitutionsSpec)

/-- 'laws.FnTypicalLaws', WHERE WHAT IT READS IS OF BULK AT MOST 1048576: true; the input reads as it did. -/
def fnTypicalLawsUptoRow : OpenClaim := { program := "ytapdekacpecgiaagreat", sum := "a3cb30392647ce6bbf8c74881d0d1034f2083d39d67982689cb9c2c64eda773f", func := "loop.example/g01152/laws.FnTypicalLaws", spec := "fnTypicalLaws", unfollowed := true, recurses := true, named := ["math/bits.divideError", "math/bits.overflowError"], apart := false, narrowed := true }
def FnTypicalLawsUptoSaid : Prop := fnTypicalLawsUptoRow.holds Tryz.pinned (OpenSpec.upto fnTypicalLawsSpec)

/-- 'laws.FnLawsOfCurves', WHERE WHAT IT READS IS OF BULK AT MOST 1048576: true; the input reads as it did. -/
def fnLawsOfCurvesUptoRow : OpenClaim := { program := "ytapdekacpecgiaagreat", sum := "a3cb30392647ce6bbf8c74881d0d1034f2083d39d67982689cb9c2c64eda773f", func := "loop.example/g01152/laws.FnLawsOfCurves", spec := "fnLawsOfCurves", unfollowed := true, recurses := true, named := ["math/bits.divideError", "math/bits.overflowError"], apart := false, narrowed := true }
def FnLawsOfCurvesUptoSaid : Prop := fnLawsOfCurvesUptoRow.holds Tryz.pinned (OpenSpec.upto fnLawsOfCurvesSpec)

/-- 'laws.FnIsomorphisms', WHERE WHAT IT READS IS OF BULK AT MOST 1048576: true; the input reads as it did. -/
def fnIsomorphismsUptoRow : OpenClaim := { program := "ytapdekacpecgiaagreat", sum := "a3cb30392647ce6bbf8c74881d0d1034f2083d39d67982689cb9c2c64eda773f", func := "loop.example/g01152/laws.FnIsomorphisms", spec := "fnIsomorphisms", unfollowed := true, recurses := true, named := ["math/bits.divideError", "math/bits.overflowError"], apart := false, narrowed := true }
def FnIsomorphismsUptoSaid : Prop := fnIsomorphismsUptoRow.holds Tryz.pinned (OpenSpec.upto fnIsomorphismsSpec)

end Rows
end Go.Proofs.YtapdekacpecgiaaGreat
