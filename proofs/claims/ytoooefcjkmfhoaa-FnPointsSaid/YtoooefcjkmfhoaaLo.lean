/-
  Inverses of series: the program's; negatives of big vectors.
-/
import Derived.Test.YtoooefcjkmfhoaaLn
import Derived.Test.YtoooefcjkmfhoaaLm
namespace Go.Proofs.Ytoooefcjkmfhoaa
open Go.RowKit
set_option linter.unusedSimpArgs false
set_option linter.unusedVariables false
set_option linter.unusedSectionVars false
set_option maxRecDepth 20000
-- Inverses of series: the program's; negatives of big vectors.
def oneC (m : Int) (l : List Int) : Int := if isBig m l = true then 0 else 1
theorem oneC_zero {m : Int} {l : List Int} (h : oneC m l = 0) : isBig m l = true := by
  unfold oneC at h
  split at h
  · assumption
  · cases h
end Go.Proofs.Ytoooefcjkmfhoaa
