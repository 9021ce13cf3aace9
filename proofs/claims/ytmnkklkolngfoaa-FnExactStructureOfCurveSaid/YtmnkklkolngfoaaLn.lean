/-
  Inverses of series.
-/
import Derived.Test.YtmnkklkolngfoaaLh
import Derived.Test.YtmnkklkolngfoaaLj
import Derived.Test.YtmnkklkolngfoaaLc
import Derived.Test.YtmnkklkolngfoaaPe
namespace Go.Proofs.Ytmnkklkolngfoaa
open Go.RowKit
set_option linter.unusedSimpArgs false
set_option linter.unusedVariables false
set_option linter.unusedSectionVars false
set_option maxRecDepth 20000
-- Inverses of series.
end Go.Proofs.Ytmnkklkolngfoaa
