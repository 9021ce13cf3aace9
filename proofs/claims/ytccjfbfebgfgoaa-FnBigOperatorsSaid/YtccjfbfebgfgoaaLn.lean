/-
  Inverses of series.
-/
import Derived.Test.YtccjfbfebgfgoaaLh
import Derived.Test.YtccjfbfebgfgoaaLj
import Derived.Test.YtccjfbfebgfgoaaLc
import Derived.Test.YtccjfbfebgfgoaaPe
namespace Go.Proofs.Ytccjfbfebgfgoaa
open Go.RowKit
set_option linter.unusedSimpArgs false
set_option linter.unusedVariables false
set_option linter.unusedSectionVars false
set_option maxRecDepth 20000
-- Inverses of series.
end Go.Proofs.Ytccjfbfebgfgoaa
