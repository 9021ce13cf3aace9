import Derived.Test.YtapdekacpecgiaaGreatFin
import Derived.Sort.Row
import Derived.Lib.RowBridge
import Derived.WalkKit
import Derived.ProofKit
import Derived.Lib.Hide
namespace Go.Proofs.YtapdekacpecgiaaGreat
open Go.RowKit
set_option linter.unusedSimpArgs false
set_option linter.unusedVariables false
set_option linter.unusedSectionVars false
set_option maxRecDepth 20000
set_option maxHeartbeats 1000000
open Go.Sort
end Go.Proofs.YtapdekacpecgiaaGreat
