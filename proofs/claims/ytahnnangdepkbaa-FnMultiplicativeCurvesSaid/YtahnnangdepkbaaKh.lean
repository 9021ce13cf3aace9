/-
  The reference's first fault of a plane.
-/
import Derived.Test.YtahnnangdepkbaaKg
namespace Go.Proofs.Ytahnnangdepkbaa
open Go.RowKit
set_option linter.unusedSimpArgs false
set_option linter.unusedVariables false
set_option linter.unusedSectionVars false
set_option maxRecDepth 20000
-- The reference's first fault of a plane.
theorem ok2_le {n : Nat} {t : Nat → Nat → Int} {i j : Nat} (h : j ≤ i) : ok2 n t i j := fun h1 => by omega
theorem ok2_ge {n : Nat} {t : Nat → Nat → Int} {i j : Nat} (h : n ≤ i + j) : ok2 n t i j := fun _ h1 => by omega
theorem ok3_ge {m : Int} {n : Nat} {t : Nat → Nat → Int} {a b c : Nat} (h : n ≤ a + b + c) : ok3 m n t a b c := fun h1 => by omega
end Go.Proofs.Ytahnnangdepkbaa
