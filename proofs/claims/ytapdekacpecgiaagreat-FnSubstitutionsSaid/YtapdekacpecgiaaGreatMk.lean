/-
  The laws' marks: a list is written over in place.
-/
import Derived.Test.YtapdekacpecgiaaGreatFin
import Derived.Sort.Row
import Derived.Lib.RowBridge
import Derived.WalkKit
import Derived.ProofKit
import Derived.Lib.Hide
namespace Go.Proofs.YtapdekacpecgiaaGreat
open Go.RowKit
set_option linter.unusedSimpArgs false
set_option linter.unusedVariables false
set_option linter.unusedSectionVars false
set_option maxRecDepth 20000
-- The laws' marks: a list is written over in place.
open Go.Sort
end Go.Proofs.YtapdekacpecgiaaGreat
