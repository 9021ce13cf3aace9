/-
  Plain laws: the product of big vectors. No program.
-/
import Derived.Test.YtccjfbfebgfgoaaPi
namespace Go.Proofs.Ytccjfbfebgfgoaa
open Go.RowKit
set_option linter.unusedSimpArgs false
set_option linter.unusedVariables false
set_option linter.unusedSectionVars false
set_option maxRecDepth 20000
-- Plain laws: the product of big vectors. No program.
def prS (m : Int) (d : Nat) (x y : List Int) (i j : Nat) (out : List Int) : List Int :=
  if (i + 1) / Nat.gcd (i + 1) (j + 1) * (j + 1) ≤ d then
    timesL m out (powL m (geo m ((at' x i ^ ((i + 1) / Nat.gcd (i + 1) (j + 1) * (j + 1) / (i + 1)) % m) * (at' y j ^ ((i + 1) / Nat.gcd (i + 1) (j + 1) * (j + 1) / (j + 1)) % m) % m) ((i + 1) / Nat.gcd (i + 1) (j + 1) * (j + 1)) d) (Nat.gcd (i + 1) (j + 1)) d) d
  else out
def prI (m : Int) (d : Nat) (x y : List Int) (i : Nat) (out : List Int) : Nat → List Int
  | 0 => out
  | j + 1 => prS m d x y i j (prI m d x y i out j)
def prO (m : Int) (d : Nat) (x y : List Int) : Nat → List Int
  | 0 => oneL d
  | i + 1 => prI m d x y i (prO m d x y i) d
def prodL (m : Int) (a b : List Int) (d : Nat) : List Int := prO m d (cL m a d) (cL m b d) d
def numL (m : Int) (d : Nat) (l : List Int) : Prop := l.length = d + 1 ∧ ∀ z ∈ l, 0 ≤ z ∧ z < m
theorem prS_facts {m : Int} {d : Nat} (hm : 1 < m) {x y : List Int} {i j : Nat} {out : List Int} (h : numL m d out) : numL m d (prS m d x y i j out) := by
  unfold prS
  split
  · exact ⟨timesL_length _ _ _ _, timesL_num _ _ _ _ (by omega)⟩
  · exact h
theorem prI_facts {m : Int} {d : Nat} (hm : 1 < m) {x y : List Int} {i : Nat} {out : List Int} (h : numL m d out) (j : Nat) : numL m d (prI m d x y i out j) := by
  induction j with
  | zero => exact h
  | succ j ih => exact prS_facts hm ih
theorem prO_facts {m : Int} {d : Nat} (hm : 1 < m) {x y : List Int} (i : Nat) : numL m d (prO m d x y i) := by
  induction i with
  | zero => exact ⟨oneL_length _, oneL_num _ hm⟩
  | succ i ih => exact prI_facts hm ih d
theorem prodL_facts {m : Int} (hm : 1 < m) (a b : List Int) (d : Nat) : (prodL m a b d).length = d + 1 ∧ ∀ z ∈ prodL m a b d, 0 ≤ z ∧ z < m := prO_facts hm d
end Go.Proofs.Ytccjfbfebgfgoaa
