/-
  The laws' helpers, more: nothing; what is held.
-/
import Derived.Test.YtfnfdjomkohfjaaLc
import Derived.Test.YtfnfdjomkohfjaaMk
namespace Go.Proofs.Ytfnfdjomkohfjaa
open Go.RowKit
set_option linter.unusedSimpArgs false
set_option linter.unusedVariables false
set_option linter.unusedSectionVars false
set_option maxRecDepth 20000
-- The laws' helpers, more: nothing; what is held.
end Go.Proofs.Ytfnfdjomkohfjaa
