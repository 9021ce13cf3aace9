/-
  Plain laws: ghost components. No program.
-/
import Derived.Test.YtccjfbfebgfgoaaPg
namespace Go.Proofs.Ytccjfbfebgfgoaa
open Go.RowKit
set_option linter.unusedSimpArgs false
set_option linter.unusedVariables false
set_option linter.unusedSectionVars false
set_option maxRecDepth 20000
-- Plain laws: ghost components. No program.
def ghF (x : List Int) (n e : Nat) : Int := if n % (e + 1) = 0 then ((e + 1 : Nat) : Int) * at' x e ^ (n / (e + 1)) else 0
def ghL (m : Int) (x : List Int) (d : Nat) : List Int := tab d (fun i => sm (i + 1) (ghF x (i + 1)) % m)
theorem ghL_length (m : Int) (x : List Int) (d : Nat) : (ghL m x d).length = d := tab_length _ _
theorem gh_step (A k p m : Int) : (A % m + k * (p % m)) % m = (A + k * p) % m := by
  rw [Int.emod_add_emod, Int.add_emod, mul_emod_r, ← Int.add_emod]
theorem gh_step2 (A k p m : Int) : (A % m + k % m * (p % m)) % m = (A + k * p) % m := by
  rw [Int.emod_add_emod, Int.add_emod, mul_emod_r, mul_emod_l, ← Int.add_emod]
theorem gh_succ {x : List Int} {n c : Nat} (h : n % (c + 1) = 0) : sm (c + 1) (ghF x n) = sm c (ghF x n) + ((c + 1 : Nat) : Int) * at' x c ^ (n / (c + 1)) := by
  rw [sm, ghF, if_pos h]
theorem gh_skip {x : List Int} {n c : Nat} (h : ¬ n % (c + 1) = 0) : sm (c + 1) (ghF x n) = sm c (ghF x n) := by
  rw [sm, ghF, if_neg h, Int.add_zero]
theorem nat_tmod (a b : Nat) : (a : Int).tmod b = ((a % b : Nat) : Int) := by rw [tm _ _ (by omega)]; simp
theorem nat_tdiv (a b : Nat) : (a : Int).tdiv b = ((a / b : Nat) : Int) := by rw [Int.tdiv_eq_ediv_of_nonneg (by omega)]; simp
end Go.Proofs.Ytccjfbfebgfgoaa
