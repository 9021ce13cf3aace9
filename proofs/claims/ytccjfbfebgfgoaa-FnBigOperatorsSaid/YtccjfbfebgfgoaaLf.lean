/-
  RepresentativeBig.
-/
import Derived.Test.YtccjfbfebgfgoaaLe
import Derived.Test.YtccjfbfebgfgoaaLcc
namespace Go.Proofs.Ytccjfbfebgfgoaa
open Go.RowKit
set_option linter.unusedSimpArgs false
set_option linter.unusedVariables false
set_option linter.unusedSectionVars false
set_option maxRecDepth 20000
-- RepresentativeBig.
end Go.Proofs.Ytccjfbfebgfgoaa
