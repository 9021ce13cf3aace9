import Derived.Test.YtapdekacpecgiaaGreatQb
namespace Go.Proofs.YtapdekacpecgiaaGreat
open Go.RowKit
set_option linter.unusedSimpArgs false
set_option linter.unusedVariables false
set_option linter.unusedSectionVars false
set_option maxRecDepth 20000
set_option maxHeartbeats 1000000
def putR (m : Int) (t : Nat → Nat → Int) (P Q : Nat → List Int) (d i : Nat) (acc : List Int) : Nat → List Int
 | 0 => acc
 | j + 1 => if t i j = 0 then putR m t P Q d i acc j else addL m (putR m t P Q d i acc j) (scL m (t i j) (timesL m (P i) (Q j) d) d) d
def putO (m : Int) (t : Nat → Nat → Int) (P Q : Nat → List Int) (d : Nat) : Nat → List Int
 | 0 => tab (d + 1) (fun _ => 0)
 | i + 1 => putR m t P Q d i (putO m t P Q d i) (d + 1 - i)
def putL (m : Int) (t : Nat → Nat → Int) (a b : List Int) (d : Nat) : List Int := putO m t (pwS m a d) (pwS m b d) d (d + 1)
end Go.Proofs.YtapdekacpecgiaaGreat
