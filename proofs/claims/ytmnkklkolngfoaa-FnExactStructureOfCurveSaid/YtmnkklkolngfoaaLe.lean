/-
  Series of powers.
-/
import Derived.Test.YtmnkklkolngfoaaLd
namespace Go.Proofs.Ytmnkklkolngfoaa
open Go.RowKit
set_option linter.unusedSimpArgs false
set_option linter.unusedVariables false
set_option linter.unusedSectionVars false
set_option maxRecDepth 20000
-- Series of powers.
end Go.Proofs.Ytmnkklkolngfoaa
