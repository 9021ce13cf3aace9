/-
  The program's first fault of a plane.
-/
import Derived.Test.YtapdekacpecgiaaGreatKi
import Derived.Test.YtapdekacpecgiaaGreatKh
namespace Go.Proofs.YtapdekacpecgiaaGreat
open Go.RowKit
set_option linter.unusedSimpArgs false
set_option linter.unusedVariables false
set_option linter.unusedSectionVars false
set_option maxRecDepth 20000
-- The program's first fault of a plane.
end Go.Proofs.YtapdekacpecgiaaGreat
