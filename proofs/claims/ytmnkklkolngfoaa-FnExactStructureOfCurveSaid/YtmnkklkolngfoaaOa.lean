/-
  Plain laws: the curve modulo a prime number. No program.
-/
import Derived.Test.YtmnkklkolngfoaaEj
namespace Go.Proofs.Ytmnkklkolngfoaa
open Go.RowKit
set_option linter.unusedSimpArgs false
set_option linter.unusedVariables false
set_option linter.unusedSectionVars false
set_option maxRecDepth 20000
-- Plain laws: the curve modulo a prime number. No program.
/-- Equal modulo p. -/
def eqp (p a b : Int) : Prop := p ∣ a - b
theorem eqp_iff {p a b : Int} : eqp p a b ↔ a % p = b % p :=
  ⟨fun h => Int.emod_eq_emod_iff_emod_sub_eq_zero.2 (Int.emod_eq_zero_of_dvd h), fun h => Int.dvd_of_emod_eq_zero (Int.emod_eq_emod_iff_emod_sub_eq_zero.1 h)⟩
theorem eqp_eq {p a b : Int} (ha : 0 ≤ a) (ha2 : a < p) (hb : 0 ≤ b) (hb2 : b < p) (h : eqp p a b) : a = b := by
  have := eqp_iff.1 h
  rwa [Int.emod_eq_of_lt ha ha2, Int.emod_eq_of_lt hb hb2] at this
theorem eqp_mod (p x : Int) : eqp p (x % p) x := eqp_iff.2 (Int.emod_emod _ _)
theorem eqp_symm {p a b : Int} (h : eqp p a b) : eqp p b a := eqp_iff.2 (eqp_iff.1 h).symm
/-- Euclid's coefficient, times the number, is the greatest common divisor. -/
theorem eu_spec (m a : Int) : ∀ (n : Nat) (r s x y : Int), s.toNat = n → 0 ≤ r → 0 ≤ s → eqp m r (x * a) → eqp m s (y * a) → eqp m ((Nat.gcd r.toNat s.toNat : Nat) : Int) (eu r s x y * a) := by
  intro n
  induction n using Nat.strongRecOn with
  | _ n ih =>
    intro r s x y hn hr hs h1 h2
    by_cases h : 0 < s
    · rw [eu_step h]
      have e1 := emod_b r s h
      have hq : r % s = r - r / s * s := by have := Int.emod_add_mul_ediv r s; grind
      have h3 : eqp m (r % s) ((x - r / s * y) * a) := by
        obtain ⟨k1, g1⟩ := h1
        obtain ⟨k2, g2⟩ := h2
        exact ⟨k1 - r / s * k2, by rw [hq]; grind⟩
      have := ih (r % s).toNat (by omega) s (r % s) y (x - r / s * y) rfl hs e1.1 h2 h3
      have hg : Nat.gcd s.toNat (r % s).toNat = Nat.gcd r.toNat s.toNat := by
        rw [show (r % s).toNat = r.toNat % s.toNat by rw [Int.toNat_emod hr hs], Nat.gcd_comm s.toNat, ← Nat.gcd_rec, Nat.gcd_comm]
      rwa [hg] at this
    · have hs0 : s = 0 := by omega
      subst hs0
      rw [eu_end (by omega)]
      simp only [Int.toNat_zero, Nat.gcd_zero_right]
      rwa [Int.toNat_of_nonneg hr]
theorem gcd_all : ((List.range 98).all fun p => !(fieldB (p : Int)) || (List.range p).all fun x => decide (x = 0) || decide (Nat.gcd p x = 1)) = true := by decide +kernel
theorem field_gcd {p x : Nat} (h : fieldB (p : Int) = true) (h0 : 0 < x) (h1 : x < p) : Nat.gcd p x = 1 := by
  have hp := fieldB_facts h
  have h2 := List.all_eq_true.1 gcd_all p (List.mem_range.2 (by omega))
  rw [h] at h2
  simp only [Bool.not_true, Bool.false_or, List.all_eq_true, Bool.or_eq_true, decide_eq_true_eq, List.mem_range] at h2
  rcases h2 x h1 with h3 | h3
  · omega
  · exact h3
theorem inv_mul {p x : Int} (h : fieldB p = true) (hx : x % p ≠ 0) : eqp p (invL p x * x) 1 := by
  have hp := fieldB_facts h
  have e := emod_b x p (by omega)
  have h1 := eu_spec p x _ p (x % p) 0 1 rfl (by omega) e.1 ⟨1, by omega⟩ (by rw [Int.one_mul]; exact eqp_mod p x)
  have h2 : Nat.gcd p.toNat (x % p).toNat = 1 := field_gcd (by rw [Int.toNat_of_nonneg (by omega)]; exact h) (by omega) (by omega)
  rw [h2] at h1
  unfold invL
  refine eqp_iff.2 ?_
  rw [mul_emod_l]
  exact (eqp_iff.1 h1).symm
theorem no_zero {p x y : Int} (h : fieldB p = true) (hx : ¬ eqp p x 0) (hxy : eqp p (x * y) 0) : eqp p y 0 := by
  have h0 : x % p ≠ 0 := fun e => hx (eqp_iff.2 (by rw [e]; simp))
  obtain ⟨k1, g1⟩ := inv_mul h h0
  obtain ⟨k2, g2⟩ := hxy
  exact ⟨invL p x * k2 - k1 * y, by grind⟩
/-- On the curve. -/
def OnE (p a b x y : Int) : Prop := eqp p (y * y) (x * x * x + a * x + b)
theorem dvd1 {p A : Int} (c : Int) (h : p ∣ A) : p ∣ c * A := Int.dvd_mul_of_dvd_right h
theorem dvd2 {p A B : Int} (c d : Int) (h : p ∣ A) (g : p ∣ B) : p ∣ c * A + d * B := Int.dvd_add (dvd1 c h) (dvd1 d g)
theorem dvd3 {p A B D : Int} (c d e : Int) (h : p ∣ A) (g : p ∣ B) (k : p ∣ D) : p ∣ c * A + d * B + e * D := Int.dvd_add (dvd2 c d h g) (dvd1 e k)
theorem id_slope (a b x y u v s : Int) : (x - u) * (s * (v + y) - (u * u + u * x + x * x + a)) - 0 = (v + y) * (s * (x - u) - (y - v)) + 1 * (y * y - (x * x * x + a * x + b)) + -1 * (v * v - (u * u * u + a * u + b)) := by grind
theorem id_z (x y u v s w z : Int) : z - (s * (x - w) - y) = 1 * (z - (s * (u - w) - v)) + -1 * (s * (x - u) - (y - v)) := by grind
/-- The third point of a chord. -/
theorem chord_slope {p a b x y u v s : Int} (h : fieldB p = true) (hP : OnE p a b x y) (hX : OnE p a b u v) (hne : ¬ eqp p (x - u) 0) (hs : eqp p (s * (x - u)) (y - v)) : eqp p (s * (v + y)) (u * u + u * x + x * x + a) := by
  have : eqp p ((x - u) * (s * (v + y) - (u * u + u * x + x * x + a))) 0 := by
    unfold eqp
    rw [id_slope a b x y u v s]
    exact dvd3 _ _ _ hs hP hX
  have := no_zero h hne this
  unfold eqp at *
  rwa [Int.sub_zero] at this
theorem chord_z {p x y u v s w z : Int} (hs : eqp p (s * (x - u)) (y - v)) (hz : eqp p z (s * (u - w) - v)) : eqp p z (s * (x - w) - y) := by
  unfold eqp
  rw [id_z x y u v s w z]
  exact dvd2 _ _ hz hs
theorem eqp_trans {p a b c : Int} (h : eqp p a b) (g : eqp p b c) : eqp p a c := eqp_iff.2 ((eqp_iff.1 h).trans (eqp_iff.1 g))
theorem eqp_rfl (p a : Int) : eqp p a a := eqp_iff.2 rfl
theorem id_close (a b u v x s w z : Int) : z * z - (w * w * w + a * w + b) =
    (z - (s * (u - w) - v) + 2 * (s * (u - w) - v)) * (z - (s * (u - w) - v)) + 1 * (v * v - (u * u * u + a * u + b)) + (w - u) * ((s * (2 * v + s * (x - u))) - (u * u + u * x + x * x + a)) + (w - u) * -(w - x) * (w - (s * s - u - x)) := by grind
theorem id_tang (a b u v s w z : Int) : z * z - (w * w * w + a * w + b) =
    (z - (s * (u - w) - v) + 2 * (s * (u - w) - v)) * (z - (s * (u - w) - v)) + 1 * (v * v - (u * u * u + a * u + b)) + (w - u) * ((s * (2 * v)) - (3 * u * u + a)) + (w - u) * -(w - u) * (w - (s * s - u - u)) := by grind
theorem id_disc (a b x : Int) : 4 * a ^ 3 + 27 * b ^ 2 = (4 * a * a + 15 * x * x * a + 9 * x * x * x * x) * (3 * x * x + a) + 27 * (b - x * x * x - a * x) * (x * x * x + a * x + b) := by grind
theorem id_2ys (a u x y v s : Int) : s * (2 * y) - (3 * x * x + a) = 1 * (s * (v + y) - (u * u + u * x + x * x + a)) + -s * (s * (x - u) - (y - v)) + -(x - u) * (x - (s * s - u - x)) := by grind
end Go.Proofs.Ytmnkklkolngfoaa
