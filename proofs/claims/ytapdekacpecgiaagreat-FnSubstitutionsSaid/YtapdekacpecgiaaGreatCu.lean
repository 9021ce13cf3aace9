/-
  Lists that run through all tuples. No program.
-/
import Derived.Test.YtapdekacpecgiaaGreatRn
namespace Go.Proofs.YtapdekacpecgiaaGreat
open Go.RowKit
set_option linter.unusedSimpArgs false
set_option linter.unusedVariables false
set_option linter.unusedSectionVars false
set_option maxRecDepth 20000
-- Lists that run through all tuples. No program.
end Go.Proofs.YtapdekacpecgiaaGreat
