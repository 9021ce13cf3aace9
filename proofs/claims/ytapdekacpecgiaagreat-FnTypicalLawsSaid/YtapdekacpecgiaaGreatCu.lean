import Derived.Test.YtapdekacpecgiaaGreatRn
namespace Go.Proofs.YtapdekacpecgiaaGreat
open Go.RowKit
set_option linter.unusedSimpArgs false
set_option linter.unusedVariables false
set_option linter.unusedSectionVars false
set_option maxRecDepth 20000
set_option maxHeartbeats 1000000
end Go.Proofs.YtapdekacpecgiaaGreat
