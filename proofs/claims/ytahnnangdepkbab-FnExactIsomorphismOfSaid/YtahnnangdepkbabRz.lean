/-
  Rows of rows: their elements.
-/
import Derived.Test.YtahnnangdepkbabTr
namespace Go.Proofs.Ytahnnangdepkbab
open Go.RowKit
set_option linter.unusedSimpArgs false
set_option linter.unusedVariables false
set_option linter.unusedSectionVars false
set_option maxRecDepth 20000
-- Rows of rows: their elements.
theorem rowsO_get (ll : List (List Int)) (i : Nat) (h : i < ll.length) : (rowsO ll)[i]? = some (.sl true 2 (intL (ll.getD i []))) := by
  simp [rowsO, List.getD_eq_getElem?_getD, h]
theorem rowsO_size (ll : List (List Int)) : ∀ t ∈ rowsO ll, t.size = 1 := by
  intro t ht
  simp only [rowsO, List.mem_map] at ht
  obtain ⟨x, _, rfl⟩ := ht
  rfl
theorem rowsO_sizeL (ll : List (List Int)) : T.sizeL (rowsO ll) = ll.length := by
  rw [sizeL_of_all (rowsO_size ll), rowsO_length, Nat.mul_one]
end Go.Proofs.Ytahnnangdepkbab
