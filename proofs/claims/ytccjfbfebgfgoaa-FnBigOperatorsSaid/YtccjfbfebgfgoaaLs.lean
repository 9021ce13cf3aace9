/-
  Ghost components.
-/
import Derived.Test.YtccjfbfebgfgoaaLr
import Derived.Test.YtccjfbfebgfgoaaLk
import Derived.Test.YtccjfbfebgfgoaaPh
namespace Go.Proofs.Ytccjfbfebgfgoaa
open Go.RowKit
set_option linter.unusedSimpArgs false
set_option linter.unusedVariables false
set_option linter.unusedSectionVars false
set_option maxRecDepth 20000
-- Ghost components.
end Go.Proofs.Ytccjfbfebgfgoaa
