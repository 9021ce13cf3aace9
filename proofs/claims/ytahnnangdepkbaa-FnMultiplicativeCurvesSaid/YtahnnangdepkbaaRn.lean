/-
  Copies, cut tables, equal lists, powers up to a bound.
-/
import Derived.Test.YtahnnangdepkbaaKb
namespace Go.Proofs.Ytahnnangdepkbaa
open Go.RowKit
set_option linter.unusedSimpArgs false
set_option linter.unusedVariables false
set_option linter.unusedSectionVars false
set_option maxRecDepth 20000
-- Copies, cut tables, equal lists, powers up to a bound.
end Go.Proofs.Ytahnnangdepkbaa
