/-
  Plain laws: the Frobenius of a big vector. No program.
-/
import Derived.Test.YtccjfbfebgfgoaaPg
namespace Go.Proofs.Ytccjfbfebgfgoaa
open Go.RowKit
set_option linter.unusedSimpArgs false
set_option linter.unusedVariables false
set_option linter.unusedSectionVars false
set_option maxRecDepth 20000
-- Plain laws: the Frobenius of a big vector. No program.
def fL (m : Int) (N d2 : Nat) (x : List Int) : Nat → List Int
  | 0 => oneL d2
  | c + 1 => if (c + 1) / Nat.gcd N (c + 1) ≤ d2 then timesL m (fL m N d2 x c) (powL m (geo m (at' x c ^ (N / Nat.gcd N (c + 1)) % m) ((c + 1) / Nat.gcd N (c + 1)) d2) (Nat.gcd N (c + 1)) d2) d2 else fL m N d2 x c
theorem fL_facts {m : Int} (hm : 1 < m) (N d2 : Nat) (x : List Int) (c : Nat) : (fL m N d2 x c).length = d2 + 1 ∧ ∀ y ∈ fL m N d2 x c, 0 ≤ y ∧ y < m := by
  induction c with
  | zero => exact ⟨oneL_length _, oneL_num _ hm⟩
  | succ c ih =>
    unfold fL
    split
    · exact ⟨timesL_length _ _ _ _, timesL_num _ _ _ _ (by omega)⟩
    · exact ih
end Go.Proofs.Ytccjfbfebgfgoaa
