/-
  A series of a plane by Horner's rule; columns.
-/
import Derived.Test.YtahnnangdepkbaaKc
namespace Go.Proofs.Ytahnnangdepkbaa
open Go.RowKit
set_option linter.unusedSimpArgs false
set_option linter.unusedVariables false
set_option linter.unusedSectionVars false
set_option maxRecDepth 20000
-- A series of a plane by Horner's rule; columns.
end Go.Proofs.Ytahnnangdepkbaa
