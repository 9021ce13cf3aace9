import Derived.Test.YtapdekacpecgiaaGreatQa
namespace Go.Proofs.YtapdekacpecgiaaGreat
open Go.RowKit
set_option linter.unusedSimpArgs false
set_option linter.unusedVariables false
set_option linter.unusedSectionVars false
set_option maxRecDepth 20000
set_option maxHeartbeats 1000000
def muL (m:Int) (t:Nat→Nat→Int) (d:Nat) (o b:List Int) (k:Nat):List Int:=
 if h:k=0 then o else muL m t d (if k%2=1 then putL m t o b d else o) (putL m t b b d) (k/2)
 termination_by k
 decreasing_by omega
end Go.Proofs.YtapdekacpecgiaaGreat
