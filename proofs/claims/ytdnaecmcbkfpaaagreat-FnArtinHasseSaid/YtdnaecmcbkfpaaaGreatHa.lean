/-
  The numbers of Artin and Hasse, and powers of a prime.
-/
import Derived.Test.YtdnaecmcbkfpaaaGreatPa
namespace Go.Proofs.YtdnaecmcbkfpaaaGreat
open Go.RowKit
set_option linter.unusedSimpArgs false
set_option linter.unusedVariables false
set_option linter.unusedSectionVars false
set_option maxRecDepth 20000
-- The numbers of Artin and Hasse, and powers of a prime.
def nL (l : List Nat) : List Int := l.map (fun x : Nat => (x : Int))
theorem nL_length (l : List Nat) : (nL l).length = l.length := by simp [nL]
theorem nL_at (l : List Nat) (i : Nat) : at' (nL l) i = ((l.getD i 0 : Nat) : Int) := by
  simp only [at', nL, List.getD_eq_getElem?_getD, List.getElem?_map]
  cases l[i]? <;> rfl
theorem nL_snoc (l : List Nat) (x : Nat) : nL l ++ [(x : Int)] = nL (l ++ [x]) := by simp [nL]
def ahSt (ts bs : List Nat) (n q : Nat) (x : Nat × Nat) : Nat × Nat :=
  ((x.1 * bs.getD (n - q) 0 + ts.getD (n - q) 0 * x.2) / Nat.gcd (x.1 * bs.getD (n - q) 0 + ts.getD (n - q) 0 * x.2) (x.2 * bs.getD (n - q) 0), x.2 * bs.getD (n - q) 0 / Nat.gcd (x.1 * bs.getD (n - q) 0 + ts.getD (n - q) 0 * x.2) (x.2 * bs.getD (n - q) 0))
def ahIn (ts bs : List Nat) (p n : Nat) : Nat → Nat × Nat
  | 0 => (0, 1)
  | j + 1 => ahSt ts bs n (p ^ j) (ahIn ts bs p n j)
def ahR (p n : Nat) : Nat := ((List.range 5).find? (fun j => n < p ^ j)).getD 0
/-- Tops and bottoms up to the place k. -/
def ahTB (p : Nat) : Nat → List Nat × List Nat
  | 0 => ([1], [1])
  | k + 1 =>
    ((ahTB p k).1 ++ [(ahIn (ahTB p k).1 (ahTB p k).2 p (k + 1) (ahR p (k + 1))).1 / Nat.gcd (ahIn (ahTB p k).1 (ahTB p k).2 p (k + 1) (ahR p (k + 1))).1 ((ahIn (ahTB p k).1 (ahTB p k).2 p (k + 1) (ahR p (k + 1))).2 * (k + 1))],
     (ahTB p k).2 ++ [(ahIn (ahTB p k).1 (ahTB p k).2 p (k + 1) (ahR p (k + 1))).2 * (k + 1) / Nat.gcd (ahIn (ahTB p k).1 (ahTB p k).2 p (k + 1) (ahR p (k + 1))).1 ((ahIn (ahTB p k).1 (ahTB p k).2 p (k + 1) (ahR p (k + 1))).2 * (k + 1))])
theorem ahTB_length (p : Nat) : ∀ k, (ahTB p k).1.length = k + 1 ∧ (ahTB p k).2.length = k + 1
  | 0 => by simp [ahTB]
  | k + 1 => by have := ahTB_length p k; simp only [ahTB, List.length_append, List.length_singleton]; omega
def IsP (p : Nat) : Prop := p = 2 ∨ p = 3 ∨ p = 5 ∨ p = 7
theorem ah_b {p k j : Nat} (hp : IsP p) (hk : k < 10) (hj : j < 5) :
    (ahIn (ahTB p k).1 (ahTB p k).2 p (k + 1) j).1 * (ahTB p k).2.getD (k + 1 - p ^ j) 0 ≤ 100000000000000 ∧
    (ahTB p k).1.getD (k + 1 - p ^ j) 0 * (ahIn (ahTB p k).1 (ahTB p k).2 p (k + 1) j).2 ≤ 100000000000000 ∧
    0 < (ahIn (ahTB p k).1 (ahTB p k).2 p (k + 1) j).2 * (ahTB p k).2.getD (k + 1 - p ^ j) 0 ∧
    (ahIn (ahTB p k).1 (ahTB p k).2 p (k + 1) j).2 * (ahTB p k).2.getD (k + 1 - p ^ j) 0 ≤ 100000000000000 ∧
    0 < (ahIn (ahTB p k).1 (ahTB p k).2 p (k + 1) j).2 ∧ (ahIn (ahTB p k).1 (ahTB p k).2 p (k + 1) j).2 ≤ 10000000 ∧ (ahIn (ahTB p k).1 (ahTB p k).2 p (k + 1) j).1 ≤ 10000000 := by
  rcases hp with rfl | rfl | rfl | rfl <;> revert j <;> revert k <;> decide +kernel
theorem ah_tb {p k i : Nat} (hp : IsP p) (hk : k < 11) (hi : i < 11) : (ahTB p k).1.getD i 0 ≤ 10000000 ∧ (ahTB p k).2.getD i 0 ≤ 10000000 := by
  rcases hp with rfl | rfl | rfl | rfl <;> revert i <;> revert k <;> decide +kernel
theorem ahTB_pre (p : Nat) {i : Nat} : ∀ k, i ≤ k → (ahTB p k).1.getD i 0 = (ahTB p i).1.getD i 0 ∧ (ahTB p k).2.getD i 0 = (ahTB p i).2.getD i 0
  | 0, h => by rw [show i = 0 by omega]; exact ⟨rfl, rfl⟩
  | k + 1, h => by
    by_cases e : i = k + 1
    · rw [e]; exact ⟨rfl, rfl⟩
    · have ih := ahTB_pre p (i := i) k (by omega)
      have hl := ahTB_length p k
      rw [← ih.1, ← ih.2]
      simp only [ahTB, List.getD_eq_getElem?_getD]
      rw [List.getElem?_append_left (by omega), List.getElem?_append_left (by omega)]
      exact ⟨rfl, rfl⟩
/-- The rounds end just there. -/
theorem ahR_eq {p n j : Nat} (hp : IsP p) (hn : n < 11) (hj : j < 5) (h1 : n < p ^ j) (h2 : j = 0 ∨ p ^ (j - 1) ≤ n) : j = ahR p n := by
  rcases hp with rfl | rfl | rfl | rfl <;> revert h1 h2 <;> revert j <;> revert n <;> decide +kernel
theorem ahR_lt {p n j : Nat} (hp : IsP p) (hn : n < 11) (hj : j < 5) (h : p ^ j ≤ n) : j < 4 := by
  rcases hp with rfl | rfl | rfl | rfl <;> revert h <;> revert j <;> revert n <;> decide +kernel
theorem pow_b {p j : Nat} (hp : IsP p) (hj : j < 5) : 0 < p ^ j ∧ p ^ j ≤ 2401 ∧ p ^ (j + 1) ≤ 16807 := by
  rcases hp with rfl | rfl | rfl | rfl <;> revert j <;> decide +kernel
theorem IsP.b {p : Nat} (h : IsP p) : 2 ≤ p ∧ p ≤ 7 := by unfold IsP at h; omega
def strip (p m : Nat) : Nat := if h : 1 < p ∧ 0 < m ∧ m % p = 0 then strip p (m / p) else m
termination_by m
decreasing_by exact Nat.div_lt_self h.2.1 h.1
theorem strip_step {p m : Nat} (h1 : 1 < p) (h2 : 0 < m) (h3 : m % p = 0) : strip p m = strip p (m / p) := by rw [strip, dif_pos ⟨h1, h2, h3⟩]
theorem strip_end {p m : Nat} (h3 : m % p ≠ 0) : strip p m = m := by rw [strip, dif_neg (fun h => h3 h.2.2)]
/-- m is a power of p (of 1 and more where p divides it). -/
def powB (p m : Nat) : Bool := decide (strip p m = 1)
/-- The coefficients of the Artin-Hasse series modulo m. -/
def ahL (p : Nat) (m : Int) (d : Nat) : List Int := tab (d + 1) (fun n => ((ahTB p n).1.getD n 0 : Nat) % m * invL m (((ahTB p n).2.getD n 0 : Nat) % m) % m)
theorem ahL_length (p : Nat) (m : Int) (d : Nat) : (ahL p m d).length = d + 1 := tab_length _ _
theorem ahL_num {m : Int} (hm : 0 < m) (p d : Nat) : ∀ x ∈ ahL p m d, 0 ≤ x ∧ x < m := by
  intro x hx
  obtain ⟨i, _, rfl⟩ := mem_tab.1 hx
  exact emod_b _ m hm
def typB (p : Int) : Bool := p == 2 || (p == 3 || (p == 5 || p == 7))
theorem typB_of {p : Int} (h : typB p = true) : IsP p.toNat ∧ ((p.toNat : Nat) : Int) = p := by
  simp only [typB, Bool.or_eq_true, beq_iff_eq] at h
  unfold IsP
  omega
end Go.Proofs.YtdnaecmcbkfpaaaGreat
