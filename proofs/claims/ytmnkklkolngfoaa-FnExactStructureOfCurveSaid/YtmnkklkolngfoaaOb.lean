/-
  Plain laws: chords and tangents stay on the curve. No program.
-/
import Derived.Test.YtmnkklkolngfoaaOa
namespace Go.Proofs.Ytmnkklkolngfoaa
open Go.RowKit
set_option linter.unusedSimpArgs false
set_option linter.unusedVariables false
set_option linter.unusedSectionVars false
set_option maxRecDepth 20000
-- Plain laws: chords and tangents stay on the curve. No program.
theorem id_sl (t m i x u y v : Int) : t * (x - u) - (y - v) = (x - u) * (t - m * i) + (i * (x - u)) * (m - (v - y)) + -(v - y) * (i * (u - x) - 1) := by grind
theorem id_tl (t m i x y a : Int) : t * (2 * y) - (3 * x * x + a) = (2 * y) * (t - m * i) + (i * (2 * y)) * (m - (3 * x * x + a)) + (3 * x * x + a) * (i * (2 * y) - 1) := by grind
theorem sub_ne {p x u : Int} (hx : 0 ≤ x) (hx2 : x < p) (hu : 0 ≤ u) (hu2 : u < p) (h : x ≠ u) : ¬ eqp p (x - u) 0 := by
  intro g
  apply h
  apply eqp_eq hx hx2 hu hu2
  unfold eqp at *
  rwa [Int.sub_zero] at g
theorem ne_emod {p x : Int} (h : ¬ eqp p x 0) : x % p ≠ 0 := fun e => h (eqp_iff.2 (by rw [e]; simp))
theorem slope_chord {p a x y u v : Int} (h : fieldB p = true) (hx : 0 ≤ x) (hx2 : x < p) (hu : 0 ≤ u) (hu2 : u < p) (hne : x ≠ u) :
    eqp p (slopeE p a x y u v * (x - u)) (y - v) := by
  have h1 := inv_mul h (ne_emod (sub_ne hu hu2 hx hx2 (Ne.symm hne)))
  unfold slopeE
  rw [if_neg hne]
  have h2 := eqp_mod p ((v - y) % p * invL p (u - x))
  have h3 := eqp_mod p (v - y)
  generalize (v - y) % p * invL p (u - x) % p = t at h2 ⊢
  generalize (v - y) % p = m at h2 h3
  generalize invL p (u - x) = i at h1 h2
  unfold eqp
  rw [id_sl t m i x u y v]
  exact dvd3 _ _ _ h2 h3 h1
theorem slope_tang {p a x y v : Int} (h : fieldB p = true) (hne : ¬ eqp p (2 * y) 0) :
    eqp p (slopeE p a x y x v * (2 * y)) (3 * x * x + a) := by
  have h1 := inv_mul h (ne_emod hne)
  unfold slopeE
  rw [if_pos rfl]
  have h2 := eqp_mod p ((3 * x * x + a) % p * invL p (2 * y))
  have h3 := eqp_mod p (3 * x * x + a)
  generalize (3 * x * x + a) % p * invL p (2 * y) % p = t at h2 ⊢
  generalize (3 * x * x + a) % p = m at h2 h3
  generalize invL p (2 * y) = i at h1 h2
  unfold eqp
  rw [id_tl t m i x y a]
  exact dvd3 _ _ _ h2 h3 h1
theorem id_sum (a u v x y s : Int) : s * (2 * v + s * (x - u)) - (u * u + u * x + x * x + a) = 1 * (s * (v + y) - (u * u + u * x + x * x + a)) + s * (s * (x - u) - (y - v)) := by grind
theorem eqp_sub {p a b : Int} : eqp p a b ↔ p ∣ a - b := Iff.rfl
/-- The third point of a chord lies on the curve. -/
theorem chord_on {p a b x y u v s w z : Int} (h : fieldB p = true) (gP : OnE p a b x y) (gX : OnE p a b u v) (hne : ¬ eqp p (x - u) 0) (hs : eqp p (s * (x - u)) (y - v))
    (hw : eqp p w (s * s - u - x)) (hz : eqp p z (s * (u - w) - v)) : OnE p a b w z := by
  have h1 := chord_slope h gP gX hne hs
  have h2 : eqp p (s * (2 * v + s * (x - u))) (u * u + u * x + x * x + a) := by
    unfold eqp
    rw [id_sum a u v x y s]
    exact dvd2 _ _ h1 hs
  unfold OnE eqp
  rw [id_close a b u v x s w z]
  exact Int.dvd_add (dvd3 _ _ _ hz gX h2) (dvd1 _ hw)
/-- The third point of a tangent lies on the curve. -/
theorem tang_on {p a b u v s w z : Int} (gX : OnE p a b u v) (hs : eqp p (s * (2 * v)) (3 * u * u + a))
    (hw : eqp p w (s * s - u - u)) (hz : eqp p z (s * (u - w) - v)) : OnE p a b w z := by
  unfold OnE eqp
  rw [id_tang a b u v s w z]
  exact Int.dvd_add (dvd3 _ _ _ hz gX hs) (dvd1 _ hw)
theorem id_dbl (a b x y v : Int) : (y - v) * (y + v) - 0 = 1 * (y * y - (x * x * x + a * x + b)) + -1 * (v * v - (x * x * x + a * x + b)) := by grind
/-- Two points of the curve over one number are equal or opposite. -/
theorem same_x {p a b x y v : Int} (h : fieldB p = true) (gP : OnE p a b x y) (gX : OnE p a b x v) (hy : 0 ≤ y) (hy2 : y < p) (hv : 0 ≤ v) (hv2 : v < p) (hne : (y + v) % p ≠ 0) : y = v := by
  by_cases e : y = v
  · exact e
  · exfalso
    apply hne
    have : eqp p (y + v) 0 := by
      apply no_zero h (sub_ne hy hy2 hv hv2 e)
      unfold eqp
      rw [id_dbl a b x y v]
      exact dvd2 _ _ gP gX
    have := eqp_iff.1 this
    simpa using this
end Go.Proofs.Ytmnkklkolngfoaa
