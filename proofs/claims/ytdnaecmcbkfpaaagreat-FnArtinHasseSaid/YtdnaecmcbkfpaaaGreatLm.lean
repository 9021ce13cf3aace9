/-
  Powers of series: the program's; multiples of big vectors.
-/
import Derived.Test.YtdnaecmcbkfpaaaGreatLi
import Derived.Test.YtdnaecmcbkfpaaaGreatLd
namespace Go.Proofs.YtdnaecmcbkfpaaaGreat
open Go.RowKit
set_option linter.unusedSimpArgs false
set_option linter.unusedVariables false
set_option linter.unusedSectionVars false
set_option maxRecDepth 20000
-- Powers of series: the program's; multiples of big vectors.
end Go.Proofs.YtdnaecmcbkfpaaaGreat
