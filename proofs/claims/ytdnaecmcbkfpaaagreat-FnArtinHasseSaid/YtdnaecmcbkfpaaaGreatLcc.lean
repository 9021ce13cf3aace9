/-
  The laws' helpers, more: nothing; what is held.
-/
import Derived.Test.YtdnaecmcbkfpaaaGreatLc
import Derived.Test.YtdnaecmcbkfpaaaGreatMk
namespace Go.Proofs.YtdnaecmcbkfpaaaGreat
open Go.RowKit
set_option linter.unusedSimpArgs false
set_option linter.unusedVariables false
set_option linter.unusedSectionVars false
set_option maxRecDepth 20000
-- The laws' helpers, more: nothing; what is held.
end Go.Proofs.YtdnaecmcbkfpaaaGreat
