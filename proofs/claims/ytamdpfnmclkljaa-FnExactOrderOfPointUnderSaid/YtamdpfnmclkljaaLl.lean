/-
  Powers of series.
-/
import Derived.Test.YtamdpfnmclkljaaLh
import Derived.Test.YtamdpfnmclkljaaPd
namespace Go.Proofs.Ytamdpfnmclkljaa
open Go.RowKit
set_option linter.unusedSimpArgs false
set_option linter.unusedVariables false
set_option linter.unusedSectionVars false
set_option maxRecDepth 20000
-- Powers of series.
theorem oneL_of (d : Nat) : tab (d + 1) (fun j => if j = 0 then 1 else 0) = oneL d := rfl
end Go.Proofs.Ytamdpfnmclkljaa
