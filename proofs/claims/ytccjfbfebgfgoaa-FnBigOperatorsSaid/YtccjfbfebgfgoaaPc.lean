/-
  Plain laws: Euclid's algorithm, powers. No program.
-/
import Derived.Test.YtccjfbfebgfgoaaPa
namespace Go.Proofs.Ytccjfbfebgfgoaa
open Go.RowKit
set_option linter.unusedSimpArgs false
set_option linter.unusedVariables false
set_option linter.unusedSectionVars false
set_option maxRecDepth 20000
-- Plain laws: Euclid's algorithm, powers. No program.
/-- The coefficient that Euclid's algorithm leaves. -/
def eu (r s x y : Int) : Int := if h : 0 < s then eu s (r % s) y (x - r / s * y) else x
  termination_by s.toNat
  decreasing_by
    have h1 := Int.emod_lt_of_pos r h
    have h2 := Int.emod_nonneg r (show s ≠ 0 by omega)
    omega
theorem eu_step {r s x y : Int} (h : 0 < s) : eu r s x y = eu s (r % s) y (x - r / s * y) := by rw [eu, dif_pos h]
theorem eu_end {r s x y : Int} (h : ¬ 0 < s) : eu r s x y = x := by rw [eu, dif_neg h]
def invL (m a : Int) : Int := eu m (a % m) 0 1 % m
/-- The bounds under which nothing wraps. -/
def EuB (m r s x y : Int) : Prop := 0 < r ∧ r ≤ m ∧ 0 ≤ s ∧ s ≤ m ∧ ((x ≤ 0 ∧ 0 ≤ y ∧ y * r - x * s = m) ∨ (0 ≤ x ∧ y ≤ 0 ∧ x * s - y * r = m))
theorem EuB_start {m a : Int} (h : 0 < m) : EuB m m (a % m) 0 1 := by
  have h1 := emod_b a m h
  exact ⟨h, by omega, h1.1, by omega, .inl ⟨by omega, by omega, by omega⟩⟩
theorem EuB_facts {m r s x y : Int} (h : EuB m r s x y) (hs : 0 < s) : 0 ≤ r / s ∧ r / s ≤ m ∧ 0 ≤ r / s * s ∧ r / s * s ≤ m ∧ r - r / s * s = r % s ∧ -m ≤ r / s * y ∧ r / s * y ≤ m ∧ -m ≤ x - r / s * y ∧ x - r / s * y ≤ m := by
  obtain ⟨h1, h2, h3, h4, h5⟩ := h
  have q0 : 0 ≤ r / s := Int.ediv_nonneg (by omega) (by omega)
  have e : r - r / s * s = r % s := by have := Int.emod_add_mul_ediv r s; grind
  have e1 := Int.emod_nonneg r (show s ≠ 0 by omega)
  have e2 : r / s * s ≤ r := by omega
  have q1 : r / s ≤ r / s * s := by
    have := Int.mul_le_mul_of_nonneg_left (show 1 ≤ s by omega) q0
    omega
  have q2 : 0 ≤ r / s * s := Int.mul_nonneg q0 (by omega)
  have hq : r / s ≤ r := by omega
  rcases h5 with ⟨hx, hy, h6⟩ | ⟨hx, hy, h6⟩
  · have a1 : 0 ≤ r / s * y := Int.mul_nonneg q0 hy
    have a2 : r / s * y ≤ y * r := by
      have := Int.mul_le_mul_of_nonneg_right hq hy
      grind
    have a3 : x * s ≤ x := by
      have := Int.mul_le_mul_of_nonneg_left (show 1 ≤ s by omega) (show 0 ≤ -x by omega)
      grind
    refine ⟨q0, by omega, q2, by omega, e, by omega, by omega, by omega, by omega⟩
  · have a1 : 0 ≤ r / s * (-y) := Int.mul_nonneg q0 (by omega)
    have a2 : r / s * (-y) ≤ (-y) * r := by
      have := Int.mul_le_mul_of_nonneg_right hq (show 0 ≤ -y by omega)
      grind
    have a3 : x ≤ x * s := by
      have := Int.mul_le_mul_of_nonneg_left (show 1 ≤ s by omega) hx
      omega
    rw [Int.mul_neg] at a1 a2
    rw [Int.neg_mul] at a2
    refine ⟨q0, by omega, q2, by omega, e, by omega, by omega, by omega, by omega⟩
theorem EuB_step {m r s x y : Int} (h : EuB m r s x y) (hs : 0 < s) : EuB m s (r % s) y (x - r / s * y) := by
  obtain ⟨g1, g2, g3, g4, e, g5, g6, g7, g8⟩ := EuB_facts h hs
  obtain ⟨h1, h2, h3, h4, h5⟩ := h
  have e1 := emod_b r s hs
  refine ⟨hs, h4, e1.1, by omega, ?_⟩
  have hq : 0 ≤ r / s := g1
  rcases h5 with ⟨hx, hy, h6⟩ | ⟨hx, hy, h6⟩
  · refine .inr ⟨hy, ?_, ?_⟩
    · have := Int.mul_nonneg hq hy; omega
    · rw [← e]; grind
  · refine .inl ⟨hy, ?_, ?_⟩
    · have := Int.mul_nonneg hq (show 0 ≤ -y by omega); grind
    · rw [← e]; grind
theorem invL_bound (m a : Int) (h : 0 < m) : 0 ≤ invL m a ∧ invL m a < m := emod_b _ m h
theorem gcd_step (a b : Nat) : Nat.gcd b (a % b) = Nat.gcd a b := by rw [Nat.gcd_comm a b, Nat.gcd_rec b a, Nat.gcd_comm]
theorem pow_emod_l (a m : Int) (j : Nat) : (a % m) ^ j % m = a ^ j % m := by
  induction j with
  | zero => simp
  | succ j ih => rw [Int.pow_succ, Int.pow_succ, Int.mul_emod, ih, Int.emod_emod, ← Int.mul_emod]
theorem sq_pow (a : Int) (j : Nat) : (a * a) ^ j = a ^ (2 * j) := by
  rw [Int.pow_mul]; congr 1; rw [Int.pow_succ, Int.pow_succ, Int.pow_zero, Int.one_mul]
theorem pw_even (out a m : Int) (k : Nat) (h : k % 2 = 0) : out * (a * a % m) ^ (k / 2) % m = out * a ^ k % m := by
  rw [← mul_emod_r, pow_emod_l, mul_emod_r, sq_pow, show 2 * (k / 2) = k by omega]
theorem pw_odd (out a m : Int) (k : Nat) (h : k % 2 = 1) : (out * a % m) * (a * a % m) ^ (k / 2) % m = out * a ^ k % m := by
  rw [mul_emod_l, ← mul_emod_r, pow_emod_l, mul_emod_r, sq_pow, Int.mul_assoc, ← Int.pow_succ', show 2 * (k / 2) + 1 = k by omega]
theorem nat_tmod2 (k : Nat) : (k : Int).tmod 2 = ((k % 2 : Nat) : Int) := by rw [tm _ _ (by omega)]; omega
theorem nat_tdiv2 (k : Nat) : (k : Int).tdiv 2 = ((k / 2 : Nat) : Int) := by rw [Int.tdiv_eq_ediv_of_nonneg (by omega)]; omega
end Go.Proofs.Ytccjfbfebgfgoaa
