/-
  Products of series: the program's.
-/
import Derived.Test.YtmnkklkolngfoaaLg
import Derived.Test.YtmnkklkolngfoaaLe
namespace Go.Proofs.Ytmnkklkolngfoaa
open Go.RowKit
set_option linter.unusedSimpArgs false
set_option linter.unusedVariables false
set_option linter.unusedSectionVars false
set_option maxRecDepth 20000
-- Products of series: the program's.
end Go.Proofs.Ytmnkklkolngfoaa
