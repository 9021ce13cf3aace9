/-
  The reference's products of tables.
-/
import Derived.Test.YtahnnangdepkbaaKb
namespace Go.Proofs.Ytahnnangdepkbaa
open Go.RowKit
set_option linter.unusedSimpArgs false
set_option linter.unusedVariables false
set_option linter.unusedSectionVars false
set_option maxRecDepth 20000
-- The reference's products of tables.
end Go.Proofs.Ytahnnangdepkbaa
