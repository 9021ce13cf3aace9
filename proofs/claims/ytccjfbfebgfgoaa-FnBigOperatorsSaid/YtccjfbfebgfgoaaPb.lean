/-
  Plain laws: products of lists of coefficients. No program.
-/
import Derived.Test.YtccjfbfebgfgoaaPa
namespace Go.Proofs.Ytccjfbfebgfgoaa
open Go.RowKit
set_option linter.unusedSimpArgs false
set_option linter.unusedVariables false
set_option linter.unusedSectionVars false
set_option maxRecDepth 20000
-- Plain laws: products of lists of coefficients. No program.
theorem at_bound {l : List Int} {m : Int} (h : ∀ x ∈ l, 0 ≤ x ∧ x < m) (hm : 0 < m) (i : Nat) : 0 ≤ at' l i ∧ at' l i < m := by
  unfold at'
  rcases Nat.lt_or_ge i l.length with h1 | h1
  · rw [List.getD_eq_getElem?_getD]; simp only [h1, List.getElem?_eq_getElem, Option.getD_some]; exact h _ (List.getElem_mem h1)
  · rw [List.getD_eq_getElem?_getD]; simp [h1, hm]
theorem at_out {l : List Int} {i : Nat} (h : l.length ≤ i) : at' l i = 0 := by
  simp [at', List.getD_eq_getElem?_getD, h]
theorem at_tab {n i : Nat} {f : Nat → Int} (h : i < n) : at' (tab n f) i = f i := tab_getD h
/-- A product's coefficient, from its first rows. -/
def pr (a b : Nat → Int) (m : Int) (i n : Nat) : Int := sm i (fun j => if j ≤ n then a j * b (n - j) else 0) % m
def row (a b : Nat → Int) (m : Int) (i k n : Nat) : Int := if i ≤ n ∧ n < i + k then pr a b m (i + 1) n else pr a b m i n
theorem pr_zero (a b : Nat → Int) (m : Int) (n : Nat) : pr a b m 0 n = 0 := by simp [pr, sm]
theorem row_zero (a b : Nat → Int) (m : Int) (i n : Nat) : row a b m i 0 n = pr a b m i n := by
  unfold row; rw [if_neg (by omega)]
theorem pr_succ (a b : Nat → Int) (m : Int) (i k : Nat) : (pr a b m i (i + k) + a i * b k) % m = pr a b m (i + 1) (i + k) := by
  unfold pr
  rw [Int.emod_add_emod, sm, if_pos (Nat.le_add_right i k), Nat.add_sub_cancel_left]
theorem row_at (a b : Nat → Int) (m : Int) (i k : Nat) : row a b m i k (i + k) = pr a b m i (i + k) := by
  unfold row; rw [if_neg (by omega)]
theorem row_set (a b : Nat → Int) (m : Int) (i k n : Nat) : (if n = i + k then pr a b m (i + 1) (i + k) else row a b m i k n) = row a b m i (k + 1) n := by
  unfold row
  by_cases e : n = i + k
  · subst e; rw [if_pos rfl, if_pos (by omega)]
  · rw [if_neg e]
    by_cases h : i ≤ n ∧ n < i + k
    · rw [if_pos h, if_pos (by omega)]
    · rw [if_neg h, if_neg (by omega)]
theorem pr_same {a b : Nat → Int} {m : Int} {i n : Nat} (h : i ≤ n → a i * b (n - i) = 0) : pr a b m (i + 1) n = pr a b m i n := by
  unfold pr
  rw [sm]
  by_cases g : i ≤ n
  · rw [if_pos g, h g, Int.add_zero]
  · rw [if_neg g, Int.add_zero]
theorem row_end {a b : Nat → Int} {m : Int} {i k n : Nat} (h : i + k ≤ n → a i * b (n - i) = 0) : row a b m i k n = pr a b m (i + 1) n := by
  unfold row
  by_cases g : i ≤ n ∧ n < i + k
  · rw [if_pos g]
  · rw [if_neg g, pr_same (fun h1 => h (by omega))]
theorem pr_end {a b : Nat → Int} {m : Int} {i n : Nat} (h : ∀ j, i ≤ j → j ≤ n → a j = 0) : pr a b m i n = cv a b n % m := by
  unfold pr cv
  rcases Nat.lt_or_ge n i with h1 | h1
  · obtain ⟨k, rfl⟩ := Nat.exists_eq_add_of_lt h1
    congr 1
    clear h
    induction k with
    | zero => exact sm_congr (fun j hj => if_pos (by omega))
    | succ k ih =>
      rw [show n + (k + 1) + 1 = (n + k + 1) + 1 by omega, sm, if_neg (by omega), Int.add_zero]
      exact ih (by omega)
  · obtain ⟨k, hk⟩ : ∃ k, n + 1 = i + k := ⟨n + 1 - i, by omega⟩
    rw [hk]
    congr 1
    have : ∀ k, i + k ≤ n + 1 → sm (i + k) (fun i => a i * b (n - i)) = sm i (fun j => if j ≤ n then a j * b (n - j) else 0) := by
      intro k
      induction k with
      | zero => intro _; exact sm_congr (fun j hj => (if_pos (by omega)).symm)
      | succ k ih =>
        intro hk2
        rw [show i + (k + 1) = (i + k) + 1 by omega, sm, ih (by omega), h (i + k) (by omega) (by omega), Int.zero_mul, Int.add_zero]
    exact (this k (by omega)).symm
theorem pr_bound (a b : Nat → Int) {m : Int} (hm : 0 < m) (i n : Nat) : 0 ≤ pr a b m i n ∧ pr a b m i n < m := emod_b _ m hm
theorem row_bound (a b : Nat → Int) {m : Int} (hm : 0 < m) (i k n : Nat) : 0 ≤ row a b m i k n ∧ row a b m i k n < m := by
  unfold row; split <;> exact pr_bound a b hm _ _
/-- The product of two lists of coefficients up to a degree. -/
def timesL (m : Int) (a b : List Int) (d : Nat) : List Int := tab (d + 1) (fun n => cv (at' a) (at' b) n % m)
theorem timesL_length (m : Int) (a b : List Int) (d : Nat) : (timesL m a b d).length = d + 1 := tab_length _ _
theorem timesL_num (m : Int) (a b : List Int) (d : Nat) (hm : 0 < m) : ∀ x ∈ timesL m a b d, 0 ≤ x ∧ x < m := by
  intro x hx
  obtain ⟨i, _, rfl⟩ := mem_tab.1 hx
  exact emod_b _ m hm
end Go.Proofs.Ytccjfbfebgfgoaa
