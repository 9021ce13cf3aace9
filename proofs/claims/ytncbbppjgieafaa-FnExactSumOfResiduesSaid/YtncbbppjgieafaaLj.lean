/-
  Inverses modulo a number; greatest common divisors.
-/
import Derived.Test.YtncbbppjgieafaaLd
import Derived.Test.YtncbbppjgieafaaPc
namespace Go.Proofs.Ytncbbppjgieafaa
open Go.RowKit
set_option linter.unusedSimpArgs false
set_option linter.unusedVariables false
set_option linter.unusedSectionVars false
set_option maxRecDepth 20000
-- Inverses modulo a number; greatest common divisors.
end Go.Proofs.Ytncbbppjgieafaa
