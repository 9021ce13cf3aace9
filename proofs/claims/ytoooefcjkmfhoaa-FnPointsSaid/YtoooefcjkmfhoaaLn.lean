/-
  Inverses of series.
-/
import Derived.Test.YtoooefcjkmfhoaaLd
import Derived.Test.YtoooefcjkmfhoaaLd
import Derived.Test.YtoooefcjkmfhoaaLc
import Derived.Test.YtoooefcjkmfhoaaPa
namespace Go.Proofs.Ytoooefcjkmfhoaa
open Go.RowKit
set_option linter.unusedSimpArgs false
set_option linter.unusedVariables false
set_option linter.unusedSectionVars false
set_option maxRecDepth 20000
-- Inverses of series.
end Go.Proofs.Ytoooefcjkmfhoaa
