/-
  The laws' helpers, more: nothing; what is held.
-/
import Derived.Test.YtapdekacpecgiaaGreatLc
import Derived.Test.YtapdekacpecgiaaGreatMk
namespace Go.Proofs.YtapdekacpecgiaaGreat
open Go.RowKit
set_option linter.unusedSimpArgs false
set_option linter.unusedVariables false
set_option linter.unusedSectionVars false
set_option maxRecDepth 20000
-- The laws' helpers, more: nothing; what is held.
end Go.Proofs.YtapdekacpecgiaaGreat
