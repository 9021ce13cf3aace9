/-
  Plain laws: the curve modulo a prime number. No program.
-/
import Derived.Test.YtoooefcjkmfhoaaEj
namespace Go.Proofs.Ytoooefcjkmfhoaa
open Go.RowKit
set_option linter.unusedSimpArgs false
set_option linter.unusedVariables false
set_option linter.unusedSectionVars false
set_option maxRecDepth 20000
-- Plain laws: the curve modulo a prime number. No program.
/-- Equal modulo p. -/
def eqp (p a b : Int) : Prop := p ∣ a - b
theorem eqp_iff {p a b : Int} : eqp p a b ↔ a % p = b % p :=
  ⟨fun h => Int.emod_eq_emod_iff_emod_sub_eq_zero.2 (Int.emod_eq_zero_of_dvd h), fun h => Int.dvd_of_emod_eq_zero (Int.emod_eq_emod_iff_emod_sub_eq_zero.1 h)⟩
theorem eqp_eq {p a b : Int} (ha : 0 ≤ a) (ha2 : a < p) (hb : 0 ≤ b) (hb2 : b < p) (h : eqp p a b) : a = b := by
  have := eqp_iff.1 h
  rwa [Int.emod_eq_of_lt ha ha2, Int.emod_eq_of_lt hb hb2] at this
theorem eqp_mod (p x : Int) : eqp p (x % p) x := eqp_iff.2 (Int.emod_emod _ _)
theorem eqp_symm {p a b : Int} (h : eqp p a b) : eqp p b a := eqp_iff.2 (eqp_iff.1 h).symm
/-- Euclid's coefficient, times the number, is the greatest common divisor. -/
theorem eu_spec (m a : Int) : ∀ (n : Nat) (r s x y : Int), s.toNat = n → 0 ≤ r → 0 ≤ s → eqp m r (x * a) → eqp m s (y * a) → eqp m ((Nat.gcd r.toNat s.toNat : Nat) : Int) (eu r s x y * a) := by
  intro n
  induction n using Nat.strongRecOn with
  | _ n ih =>
    intro r s x y hn hr hs h1 h2
    by_cases h : 0 < s
    · rw [eu_step h]
      have e1 := emod_b r s h
      have hq : r % s = r - r / s * s := by have := Int.emod_add_mul_ediv r s; grind
      have h3 : eqp m (r % s) ((x - r / s * y) * a) := by
        obtain ⟨k1, g1⟩ := h1
        obtain ⟨k2, g2⟩ := h2
        exact ⟨k1 - r / s * k2, by rw [hq]; grind⟩
      have := ih (r % s).toNat (by omega) s (r % s) y (x - r / s * y) rfl hs e1.1 h2 h3
      have hg : Nat.gcd s.toNat (r % s).toNat = Nat.gcd r.toNat s.toNat := by
        rw [show (r % s).toNat = r.toNat % s.toNat by rw [Int.toNat_emod hr hs], Nat.gcd_comm s.toNat, ← Nat.gcd_rec, Nat.gcd_comm]
      rwa [hg] at this
    · have hs0 : s = 0 := by omega
      subst hs0
      rw [eu_end (by omega)]
      simp only [Int.toNat_zero, Nat.gcd_zero_right]
      rwa [Int.toNat_of_nonneg hr]
theorem gcd_all : ((List.range 98).all fun p => !(fieldB (p : Int)) || (List.range p).all fun x => decide (x = 0) || decide (Nat.gcd p x = 1)) = true := by decide +kernel
theorem field_gcd {p x : Nat} (h : fieldB (p : Int) = true) (h0 : 0 < x) (h1 : x < p) : Nat.gcd p x = 1 := by
  have hp := fieldB_facts h
  have h2 := List.all_eq_true.1 gcd_all p (List.mem_range.2 (by omega))
  rw [h] at h2
  simp only [Bool.not_true, Bool.false_or, List.all_eq_true, Bool.or_eq_true, decide_eq_true_eq, List.mem_range] at h2
  rcases h2 x h1 with h3 | h3
  · omega
  · exact h3
theorem inv_mul {p x : Int} (h : fieldB p = true) (hx : x % p ≠ 0) : eqp p (invL p x * x) 1 := by
  have hp := fieldB_facts h
  have e := emod_b x p (by omega)
  have h1 := eu_spec p x _ p (x % p) 0 1 rfl (by omega) e.1 ⟨1, by omega⟩ (by rw [Int.one_mul]; exact eqp_mod p x)
  have h2 : Nat.gcd p.toNat (x % p).toNat = 1 := field_gcd (by rw [Int.toNat_of_nonneg (by omega)]; exact h) (by omega) (by omega)
  rw [h2] at h1
  unfold invL
  refine eqp_iff.2 ?_
  rw [mul_emod_l]
  exact (eqp_iff.1 h1).symm
theorem no_zero {p x y : Int} (h : fieldB p = true) (hx : ¬ eqp p x 0) (hxy : eqp p (x * y) 0) : eqp p y 0 := by
  have h0 : x % p ≠ 0 := fun e => hx (eqp_iff.2 (by rw [e]; simp))
  obtain ⟨k1, g1⟩ := inv_mul h h0
  obtain ⟨k2, g2⟩ := hxy
  exact ⟨invL p x * k2 - k1 * y, by grind⟩
/-- On the curve. -/
def OnE (p a b x y : Int) : Prop := eqp p (y * y) (x * x * x + a * x + b)
theorem dvd1 {p A : Int} (c : Int) (h : p ∣ A) : p ∣ c * A := Int.dvd_mul_of_dvd_right h
theorem dvd2 {p A B : Int} (c d : Int) (h : p ∣ A) (g : p ∣ B) : p ∣ c * A + d * B := Int.dvd_add (dvd1 c h) (dvd1 d g)
theorem dvd3 {p A B D : Int} (c d e : Int) (h : p ∣ A) (g : p ∣ B) (k : p ∣ D) : p ∣ c * A + d * B + e * D := Int.dvd_add (dvd2 c d h g) (dvd1 e k)
theorem id_slope (a b x y u v s : Int) : (x - u) * (s * (v + y) - (u * u + u * x + x * x + a)) - 0 = (v + y) * (s * (x - u) - (y - v)) + 1 * (y * y - (x * x * x + a * x + b)) + -1 * (v * v - (u * u * u + a * u + b)) := by grind
theorem id_z (x y u v s w z : Int) : z - (s * (x - w) - y) = 1 * (z - (s * (u - w) - v)) + -1 * (s * (x - u) - (y - v)) := by grind
/-- The third point of a chord. -/
theorem chord_slope {p a b x y u v s : Int} (h : fieldB p = true) (hP : OnE p a b x y) (hX : OnE p a b u v) (hne : ¬ eqp p (x - u) 0) (hs : eqp p (s * (x - u)) (y - v)) : eqp p (s * (v + y)) (u * u + u * x + x * x + a) := by
  have : eqp p ((x - u) * (s * (v + y) - (u * u + u * x + x * x + a))) 0 := by
    unfold eqp
    rw [id_slope a b x y u v s]
    exact dvd3 _ _ _ hs hP hX
  have := no_zero h hne this
  unfold eqp at *
  rwa [Int.sub_zero] at this
theorem chord_z {p x y u v s w z : Int} (hs : eqp p (s * (x - u)) (y - v)) (hz : eqp p z (s * (u - w) - v)) : eqp p z (s * (x - w) - y) := by
  unfold eqp
  rw [id_z x y u v s w z]
  exact dvd2 _ _ hz hs
theorem eqp_trans {p a b c : Int} (h : eqp p a b) (g : eqp p b c) : eqp p a c := eqp_iff.2 ((eqp_iff.1 h).trans (eqp_iff.1 g))
theorem eqp_rfl (p a : Int) : eqp p a a := eqp_iff.2 rfl
theorem id_close (a b u v x s w z : Int) : z * z - (w * w * w + a * w + b) =
    (z - (s * (u - w) - v) + 2 * (s * (u - w) - v)) * (z - (s * (u - w) - v)) + 1 * (v * v - (u * u * u + a * u + b)) + (w - u) * ((s * (2 * v + s * (x - u))) - (u * u + u * x + x * x + a)) + (w - u) * -(w - x) * (w - (s * s - u - x)) := by grind
theorem id_tang (a b u v s w z : Int) : z * z - (w * w * w + a * w + b) =
    (z - (s * (u - w) - v) + 2 * (s * (u - w) - v)) * (z - (s * (u - w) - v)) + 1 * (v * v - (u * u * u + a * u + b)) + (w - u) * ((s * (2 * v)) - (3 * u * u + a)) + (w - u) * -(w - u) * (w - (s * s - u - u)) := by grind
theorem id_disc (a b x : Int) : 4 * a ^ 3 + 27 * b ^ 2 = (4 * a * a + 15 * x * x * a + 9 * x * x * x * x) * (3 * x * x + a) + 27 * (b - x * x * x - a * x) * (x * x * x + a * x + b) := by grind
theorem id_2ys (a u x y v s : Int) : s * (2 * y) - (3 * x * x + a) = 1 * (s * (v + y) - (u * u + u * x + x * x + a)) + -s * (s * (x - u) - (y - v)) + -(x - u) * (x - (s * s - u - x)) := by grind
-- Plain laws: chords and tangents stay on the curve. No program.
theorem id_sl (t m i x u y v : Int) : t * (x - u) - (y - v) = (x - u) * (t - m * i) + (i * (x - u)) * (m - (v - y)) + -(v - y) * (i * (u - x) - 1) := by grind
theorem id_tl (t m i x y a : Int) : t * (2 * y) - (3 * x * x + a) = (2 * y) * (t - m * i) + (i * (2 * y)) * (m - (3 * x * x + a)) + (3 * x * x + a) * (i * (2 * y) - 1) := by grind
theorem sub_ne {p x u : Int} (hx : 0 ≤ x) (hx2 : x < p) (hu : 0 ≤ u) (hu2 : u < p) (h : x ≠ u) : ¬ eqp p (x - u) 0 := by
  intro g
  apply h
  apply eqp_eq hx hx2 hu hu2
  unfold eqp at *
  rwa [Int.sub_zero] at g
theorem ne_emod {p x : Int} (h : ¬ eqp p x 0) : x % p ≠ 0 := fun e => h (eqp_iff.2 (by rw [e]; simp))
theorem slope_chord {p a x y u v : Int} (h : fieldB p = true) (hx : 0 ≤ x) (hx2 : x < p) (hu : 0 ≤ u) (hu2 : u < p) (hne : x ≠ u) :
    eqp p (slopeE p a x y u v * (x - u)) (y - v) := by
  have h1 := inv_mul h (ne_emod (sub_ne hu hu2 hx hx2 (Ne.symm hne)))
  unfold slopeE
  rw [if_neg hne]
  have h2 := eqp_mod p ((v - y) % p * invL p (u - x))
  have h3 := eqp_mod p (v - y)
  generalize (v - y) % p * invL p (u - x) % p = t at h2 ⊢
  generalize (v - y) % p = m at h2 h3
  generalize invL p (u - x) = i at h1 h2
  unfold eqp
  rw [id_sl t m i x u y v]
  exact dvd3 _ _ _ h2 h3 h1
theorem slope_tang {p a x y v : Int} (h : fieldB p = true) (hne : ¬ eqp p (2 * y) 0) :
    eqp p (slopeE p a x y x v * (2 * y)) (3 * x * x + a) := by
  have h1 := inv_mul h (ne_emod hne)
  unfold slopeE
  rw [if_pos rfl]
  have h2 := eqp_mod p ((3 * x * x + a) % p * invL p (2 * y))
  have h3 := eqp_mod p (3 * x * x + a)
  generalize (3 * x * x + a) % p * invL p (2 * y) % p = t at h2 ⊢
  generalize (3 * x * x + a) % p = m at h2 h3
  generalize invL p (2 * y) = i at h1 h2
  unfold eqp
  rw [id_tl t m i x y a]
  exact dvd3 _ _ _ h2 h3 h1
theorem id_sum (a u v x y s : Int) : s * (2 * v + s * (x - u)) - (u * u + u * x + x * x + a) = 1 * (s * (v + y) - (u * u + u * x + x * x + a)) + s * (s * (x - u) - (y - v)) := by grind
theorem eqp_sub {p a b : Int} : eqp p a b ↔ p ∣ a - b := Iff.rfl
/-- The third point of a chord lies on the curve. -/
theorem chord_on {p a b x y u v s w z : Int} (h : fieldB p = true) (gP : OnE p a b x y) (gX : OnE p a b u v) (hne : ¬ eqp p (x - u) 0) (hs : eqp p (s * (x - u)) (y - v))
    (hw : eqp p w (s * s - u - x)) (hz : eqp p z (s * (u - w) - v)) : OnE p a b w z := by
  have h1 := chord_slope h gP gX hne hs
  have h2 : eqp p (s * (2 * v + s * (x - u))) (u * u + u * x + x * x + a) := by
    unfold eqp
    rw [id_sum a u v x y s]
    exact dvd2 _ _ h1 hs
  unfold OnE eqp
  rw [id_close a b u v x s w z]
  exact Int.dvd_add (dvd3 _ _ _ hz gX h2) (dvd1 _ hw)
/-- The third point of a tangent lies on the curve. -/
theorem tang_on {p a b u v s w z : Int} (gX : OnE p a b u v) (hs : eqp p (s * (2 * v)) (3 * u * u + a))
    (hw : eqp p w (s * s - u - u)) (hz : eqp p z (s * (u - w) - v)) : OnE p a b w z := by
  unfold OnE eqp
  rw [id_tang a b u v s w z]
  exact Int.dvd_add (dvd3 _ _ _ hz gX hs) (dvd1 _ hw)
theorem id_dbl (a b x y v : Int) : (y - v) * (y + v) - 0 = 1 * (y * y - (x * x * x + a * x + b)) + -1 * (v * v - (x * x * x + a * x + b)) := by grind
/-- Two points of the curve over one number are equal or opposite. -/
theorem same_x {p a b x y v : Int} (h : fieldB p = true) (gP : OnE p a b x y) (gX : OnE p a b x v) (hy : 0 ≤ y) (hy2 : y < p) (hv : 0 ≤ v) (hv2 : v < p) (hne : (y + v) % p ≠ 0) : y = v := by
  by_cases e : y = v
  · exact e
  · exfalso
    apply hne
    have : eqp p (y + v) 0 := by
      apply no_zero h (sub_ne hy hy2 hv hv2 e)
      unfold eqp
      rw [id_dbl a b x y v]
      exact dvd2 _ _ gP gX
    have := eqp_iff.1 this
    simpa using this
-- Plain laws: sums of points are on the curve. No program.
/-- A point in the program's form: a list, and its two numbers. -/
theorem hasB_two {p a b x y : Int} (hp : 0 < p) : hasB p a b [x, y] = true ↔ (0 ≤ x ∧ x < p) ∧ (0 ≤ y ∧ y < p) ∧ OnE p a b x y := by
  have e : (x ^ 3 + a * x + b) = x * x * x + a * x + b := by grind
  simp only [hasB, rightE, e, at', List.getD_cons_zero, List.getD_cons_succ, List.length_cons, List.length_nil, Nat.zero_add, Nat.reduceAdd, Bool.or_eq_true, Bool.and_eq_true, beq_iff_eq, isNum_iff, OnE, eqp_iff]
  constructor
  · rintro (h | ⟨⟨⟨_, h1⟩, h2⟩, h3⟩)
    · omega
    · exact ⟨h1, h2, h3⟩
  · rintro ⟨h1, h2, h3⟩
    exact .inr ⟨⟨⟨trivial, h1⟩, h2⟩, h3⟩
theorem hasB_cases {p a b : Int} {l : List Int} (h : hasB p a b l = true) : l = [] ∨ ∃ x y, l = [x, y] := by
  rcases hasB_ok h with h1 | h1
  · exact .inl (List.eq_nil_of_length_eq_zero h1)
  · match l, h1.1 with
    | [x, y], _ => exact .inr ⟨x, y, rfl⟩
/-- The third point, as two numbers. -/
theorem addE_two {p a x y u v : Int} (h : ¬(x = u ∧ (y + v) % p = 0)) : ∃ w z, addE p a [x, y] [u, v] = [w % p, z % p] ∧
    w = slopeE p a x y u v * slopeE p a x y u v - x - u ∧ z = slopeE p a x y u v * (x - w % p) - y := by
  refine ⟨_, _, ?_, rfl, rfl⟩
  unfold addE
  simp only [at', List.getD_cons_zero, List.getD_cons_succ, List.length_cons, List.length_nil]
  rw [if_neg (by omega), if_neg (by omega), if_neg h]
theorem y_two {p y : Int} (h : fieldB p = true) (hy : ¬ eqp p (y + y) 0) : ¬ eqp p (2 * y) 0 := by
  rwa [show 2 * y = y + y by omega]
/-- A sum of points of the curve is on the curve. -/
theorem hasB_add {p a b : Int} {f s : List Int} (h : fieldB p = true) (hf : hasB p a b f = true) (hs : hasB p a b s = true) : hasB p a b (addE p a f s) = true := by
  have hp := fieldB_facts h
  have hp0 : 0 < p := by omega
  rcases hasB_cases hf with rfl | ⟨x, y, rfl⟩
  · simpa [addE] using hs
  rcases hasB_cases hs with rfl | ⟨u, v, rfl⟩
  · simpa [addE] using hf
  by_cases hc : x = u ∧ (y + v) % p = 0
  · have : addE p a [x, y] [u, v] = [] := by
      unfold addE
      simp only [at', List.getD_cons_zero, List.getD_cons_succ, List.length_cons, List.length_nil]
      rw [if_neg (by omega), if_neg (by omega), if_pos hc]
    rw [this]
    rfl
  · obtain ⟨w, z, he, hw, hz⟩ := addE_two (p := p) (a := a) hc
    rw [he]
    obtain ⟨gx, gy, gP⟩ := (hasB_two hp0).1 hf
    obtain ⟨gu, gv, gX⟩ := (hasB_two hp0).1 hs
    refine (hasB_two hp0).2 ⟨emod_b w p hp0, emod_b z p hp0, ?_⟩
    by_cases hx : x = u
    · subst hx
      have hne : (y + v) % p ≠ 0 := fun e => hc ⟨rfl, e⟩
      have hyv := same_x h gP gX gy.1 gy.2 gv.1 gv.2 hne
      subst hyv
      have h2 : ¬ eqp p (2 * y) 0 := y_two h (fun e => hne (by have := eqp_iff.1 e; simpa using this))
      exact tang_on gP (slope_tang h h2) (by rw [hw]; exact eqp_mod p _) (by rw [hz]; exact eqp_mod p _)
    · have hs := slope_chord (a := a) (y := y) (v := v) h gx.1 gx.2 gu.1 gu.2 hx
      have hs' : eqp p (slopeE p a x y u v * (u - x)) (v - y) := by
        have e : ∀ t : Int, t * (u - x) - (v - y) = -1 * (t * (x - u) - (y - v)) := fun t => by grind
        unfold eqp
        rw [e]
        exact dvd1 _ hs
      exact chord_on h gX gP (sub_ne gu.1 gu.2 gx.1 gx.2 (Ne.symm hx)) hs' (by rw [hw]; exact eqp_mod p _) (by rw [hz]; exact eqp_mod p _)
-- Plain laws: adding a point and its opposite. No program.
theorem id_b1 (s t w x u : Int) : (t * t - w - u) - x = (t - s) * (t - -s) + -1 * (w - (s * s - x - u)) := by grind
theorem id_b2 (s t w w2 x y z : Int) : (t * (w - w2) - z) - y = (w - w2) * (t - -s) + s * (w2 - x) + -1 * (z - (s * (x - w) - y)) := by grind
theorem back1 {p s t w x u : Int} (ht : eqp p t (-s)) (hw : eqp p w (s * s - x - u)) : eqp p (t * t - w - u) x := by
  unfold eqp at *
  rw [id_b1 s t w x u]
  exact dvd2 _ _ ht hw
theorem back2 {p s t w w2 x y z : Int} (ht : eqp p t (-s)) (hw2 : eqp p w2 x) (hz : eqp p z (s * (x - w) - y)) : eqp p (t * (w - w2) - z) y := by
  unfold eqp at *
  rw [id_b2 s t w w2 x y z]
  exact dvd3 _ _ _ ht hw2 hz
theorem cancel {p d s t : Int} (h : fieldB p = true) (hd : ¬ eqp p d 0) (g : eqp p (t * d) (-(s * d))) : eqp p t (-s) := by
  have : eqp p (t - -s) 0 := by
    apply no_zero h hd
    have e : d * (t - -s) - 0 = t * d - -(s * d) := by grind
    unfold eqp at *
    rwa [e]
  unfold eqp at *
  rwa [Int.sub_zero] at this
/-- The opposite of a point. -/
def negE (p : Int) (l : List Int) : List Int := if l.length = 0 then [] else [at' l 0, -at' l 1 % p]
theorem neg_sum (p v : Int) : (v + -v % p) % p = 0 := by
  rw [Int.add_emod, Int.emod_emod, ← Int.add_emod, Int.add_right_neg, Int.zero_emod]
theorem id_n1 (s z v v' w u t : Int) : t * (w - u) - -(s * (w - u)) = 1 * (t * (w - u) - (z - v')) + 1 * (z - (s * (u - w) - v)) + -1 * (v' - -v) := by grind
theorem id_n2 (s z v u t a : Int) : t * (2 * v) - -(s * (2 * v)) = -1 * (t * (2 * z) - (3 * u * u + a)) + (2 * t) * (z - -v) + 1 * (s * (2 * v) - (3 * u * u + a)) := by grind
theorem addE_opp {p a x y u v : Int} (h : x = u ∧ (y + v) % p = 0) : addE p a [x, y] [u, v] = [] := by
  unfold addE
  simp only [at', List.getD_cons_zero, List.getD_cons_succ, List.length_cons, List.length_nil]
  rw [if_neg (by omega), if_neg (by omega), if_pos h]
theorem id_neg (y v : Int) : y - -v = 1 * (y + v - 0) := by grind
theorem disc_zero {p a b u v : Int} (hv : eqp p v 0) (gP : OnE p a b u v) (h3 : eqp p (3 * u * u + a) 0) : disc p a b = 0 := by
  have h1 : eqp p (u * u * u + a * u + b) 0 := by
    have e : (u * u * u + a * u + b) - 0 = -1 * (v * v - (u * u * u + a * u + b)) + v * (v - 0) := by grind
    unfold OnE eqp at *
    rw [e]
    exact dvd2 _ _ gP hv
  unfold disc
  apply Int.emod_eq_zero_of_dvd
  rw [id_disc a b u]
  unfold eqp at h1 h3
  rw [Int.sub_zero] at h1 h3
  exact dvd2 _ _ h3 h1
/-- Adding a point and then its opposite changes nothing. -/
theorem add_back {p a b : Int} {f s : List Int} (h : fieldB p = true) (hd : disc p a b ≠ 0) (hf : hasB p a b f = true) (hs : hasB p a b s = true) :
    addE p a (addE p a f s) (negE p s) = f := by
  have hp := fieldB_facts h
  have hp0 : 0 < p := by omega
  rcases hasB_cases hs with rfl | ⟨u, v, rfl⟩
  · rcases hasB_cases hf with rfl | ⟨x, y, rfl⟩
    · simp [addE, negE]
    · simp [addE, negE]
  have hn : negE p [u, v] = [u, -v % p] := by simp [negE, at']
  rw [hn]
  have hv' := emod_b (-v) p hp0
  have hm := eqp_mod p (-v)
  rcases hasB_cases hf with rfl | ⟨x, y, rfl⟩
  · have : addE p a [] [u, v] = [u, v] := by simp [addE]
    rw [this]
    exact addE_opp ⟨rfl, neg_sum p v⟩
  obtain ⟨gx, gy, gX⟩ := (hasB_two hp0).1 hf
  obtain ⟨gu, gv, gP⟩ := (hasB_two hp0).1 hs
  by_cases hc : x = u ∧ (y + v) % p = 0
  · rw [addE_opp hc]
    have : addE p a [] [u, -v % p] = [u, -v % p] := by simp [addE]
    rw [this, hc.1]
    congr 2
    apply eqp_eq hv'.1 hv'.2 gy.1 gy.2
    have h1 : eqp p (y + v) 0 := eqp_iff.2 (by rw [hc.2]; simp)
    refine eqp_trans hm (eqp_symm ?_)
    unfold eqp at *
    rw [id_neg y v]
    exact dvd1 _ h1
  obtain ⟨w0, z0, he, hw0, hz0⟩ := addE_two (p := p) (a := a) hc
  have hon := hasB_add h hf hs
  rw [he] at hon ⊢
  obtain ⟨gw, gz, gR⟩ := (hasB_two hp0).1 hon
  have hw : eqp p (w0 % p) (slopeE p a x y u v * slopeE p a x y u v - x - u) := by rw [hw0]; exact eqp_mod p _
  have hz : eqp p (z0 % p) (slopeE p a x y u v * (x - w0 % p) - y) := by
    have := eqp_mod p z0
    rwa [hz0] at this ⊢
  -- the same third point, seen from the second point; and its slope there
  have hz2 : eqp p (z0 % p) (slopeE p a x y u v * (u - w0 % p) - v) ∧ (w0 % p = u → eqp p (slopeE p a x y u v * (2 * v)) (3 * u * u + a) ∧ ¬ eqp p v 0) := by
    by_cases hx : x = u
    · subst hx
      have hne : (y + v) % p ≠ 0 := fun e => hc ⟨rfl, e⟩
      have hyv := same_x h gX gP gy.1 gy.2 gv.1 gv.2 hne
      subst hyv
      have h2 : ¬ eqp p (2 * y) 0 := y_two h (fun e => hne (by have := eqp_iff.1 e; simpa using this))
      refine ⟨hz, fun _ => ⟨slope_tang h h2, fun e => h2 ?_⟩⟩
      have e2 : 2 * y - 0 = 2 * (y - 0) := by omega
      unfold eqp at *
      rw [e2]
      exact dvd1 _ e
    · have hsl := slope_chord (a := a) (y := y) (v := v) h gx.1 gx.2 gu.1 gu.2 hx
      generalize slopeE p a x y u v = t at hsl hw hz
      have hsl' : eqp p (t * (u - x)) (v - y) := by
        have e : t * (u - x) - (v - y) = -1 * (t * (x - u) - (y - v)) := by grind
        unfold eqp at *
        rw [e]
        exact dvd1 _ hsl
      refine ⟨chord_z hsl' hz, fun hwu => ?_⟩
      have h1 := chord_slope h gP gX (sub_ne gu.1 gu.2 gx.1 gx.2 (Ne.symm hx)) hsl'
      have h2 : eqp p (t * (2 * v)) (3 * u * u + a) := by
        have hw' : eqp p u (t * t - x - u) := by rw [hwu] at hw; exact hw
        unfold eqp at *
        rw [id_2ys a x u v y t]
        exact dvd3 _ _ _ h1 hsl' hw'
      refine ⟨h2, fun e => hd (disc_zero e gP ?_)⟩
      refine eqp_trans (eqp_symm h2) ?_
      have e2 : t * (2 * v) - 0 = (2 * t) * (v - 0) := by grind
      unfold eqp at *
      rw [e2]
      exact dvd1 _ e
  generalize slopeE p a x y u v = t at hw hz hz2
  generalize w0 % p = w at *
  generalize z0 % p = z at *
  obtain ⟨hz2, hk⟩ := hz2
  have fin : ¬(w = u ∧ (z + -v % p) % p = 0) ∧ eqp p (slopeE p a w z u (-v % p)) (-t) := by
    by_cases hwu : w = u
    · obtain ⟨h1, h2⟩ := hk hwu
      subst hwu
      have hzv : eqp p z (-v) := by
        have e : t * (w - w) - v = -v := by grind
        rwa [e] at hz2
      have h3 : ¬ eqp p (2 * v) 0 := by
        intro g
        refine h2 (no_zero h (x := 2) ?_ g)
        intro g2
        have := eqp_iff.1 g2
        rw [Int.emod_eq_of_lt (by omega) (by omega)] at this
        simp at this
      have h4 : ¬ eqp p (2 * z) 0 := by
        intro g
        apply h3
        have e : 2 * v - 0 = -1 * (2 * z - 0) + 2 * (z - -v) := by grind
        unfold eqp at *
        rw [e]
        exact dvd2 _ _ g hzv
      refine ⟨fun g => h4 ?_, cancel h h3 ?_⟩
      · have h5 : eqp p (z + -v % p) 0 := eqp_iff.2 (by rw [g.2]; simp)
        have e : 2 * z - 0 = 1 * (z + -v % p - 0) + 1 * (z - -v) + -1 * (-v % p - -v) := by grind
        unfold eqp at *
        rw [e]
        exact dvd3 _ _ _ h5 hzv hm
      · have h5 := slope_tang (a := a) (x := w) (v := -v % p) h h4
        unfold eqp at *
        rw [id_n2 t z v w _ a]
        exact dvd3 _ _ _ h5 hzv h1
    · refine ⟨fun g => hwu g.1, cancel h (sub_ne gw.1 gw.2 gu.1 gu.2 hwu) ?_⟩
      have h5 := slope_chord (a := a) (y := z) (v := -v % p) h gw.1 gw.2 gu.1 gu.2 hwu
      unfold eqp at *
      rw [id_n1 t z v (-v % p) w u _]
      exact dvd3 _ _ _ h5 hz2 hm
  obtain ⟨hno, hsl⟩ := fin
  obtain ⟨w1, z1, he1, hw1, hz1⟩ := addE_two (p := p) (a := a) hno
  rw [he1]
  have a1 := back1 hsl hw
  have b1 : eqp p (w1 % p) x := eqp_trans (eqp_mod p w1) (by rw [hw1]; exact a1)
  have c1 := emod_b w1 p hp0
  have d1 : w1 % p = x := eqp_eq c1.1 c1.2 gx.1 gx.2 b1
  have b2 : eqp p (z1 % p) y := eqp_trans (eqp_mod p z1) (by rw [hz1]; exact back2 hsl b1 hz)
  have c2 := emod_b z1 p hp0
  have d2 : z1 % p = y := eqp_eq c2.1 c2.2 gy.1 gy.2 b2
  rw [d1, d2]
-- Plain laws: the multiples of a point come to nothing. No program.
theorem addE_inj {p a b : Int} {f g s : List Int} (h : fieldB p = true) (hd : disc p a b ≠ 0) (hf : hasB p a b f = true) (hg : hasB p a b g = true) (hs : hasB p a b s = true)
    (e : addE p a f s = addE p a g s) : f = g := by rw [← add_back h hd hf hs, e, add_back h hd hg hs]
/-- The multiples of a point, one after the other: 1, 2, .. times. -/
def itE (p a : Int) (pt : List Int) : Nat → List Int
  | 0 => pt
  | k + 1 => addE p a (itE p a pt k) pt
theorem itE_has {p a b : Int} {pt : List Int} (h : fieldB p = true) (hs : hasB p a b pt = true) : ∀ k, hasB p a b (itE p a pt k) = true
  | 0 => hs
  | k + 1 => hasB_add h (itE_has h hs k) hs
/-- Among M + 1 values below M two are equal. -/
theorem pigeon : ∀ (M : Nat) (f : Nat → Nat), (∀ i, i ≤ M → f i < M) → ∃ i j, i < j ∧ j ≤ M ∧ f i = f j
  | 0, f, hb => absurd (hb 0 (Nat.le_refl _)) (by omega)
  | M + 1, f, hb => by
    by_cases hc : ∃ i, i < M + 1 ∧ f i = f (M + 1)
    · obtain ⟨i, h1, h2⟩ := hc
      exact ⟨i, M + 1, h1, Nat.le_refl _, h2⟩
    · -- values other than that of the last; swap it with the greatest
      have hl := hb (M + 1) (Nat.le_refl _)
      obtain ⟨i, j, h1, h2, h3⟩ := pigeon M (fun i => if f i = M then f (M + 1) else f i) (fun i hi => by
        have h1 := hb i (by omega)
        have h2 : f i ≠ f (M + 1) := fun e => hc ⟨i, by omega, e⟩
        split <;> omega)
      refine ⟨i, j, h1, by omega, ?_⟩
      have g1 : f i ≠ f (M + 1) := fun e => hc ⟨i, by omega, e⟩
      have g2 : f j ≠ f (M + 1) := fun e => hc ⟨j, by omega, e⟩
      split at h3 <;> split at h3 <;> omega
/-- The number of a point. -/
def ptNum (p : Int) (l : List Int) : Nat := if l.length = 0 then 0 else 1 + (at' l 0).toNat * p.toNat + (at' l 1).toNat
theorem ptNum_lt {p a b : Int} {l : List Int} (h : fieldB p = true) (hl : hasB p a b l = true) : ptNum p l < 9410 := by
  have hp := fieldB_facts h
  rcases hasB_cases hl with rfl | ⟨x, y, rfl⟩
  · simp [ptNum]
  · obtain ⟨gx, gy, _⟩ := (hasB_two (by omega)).1 hl
    have e : ptNum p [x, y] = 1 + x.toNat * p.toNat + y.toNat := by simp [ptNum, at']
    rw [e]
    have h1 : x.toNat * p.toNat ≤ 96 * 97 := Nat.mul_le_mul (by omega) (by omega)
    omega
theorem ptNum_inj {p a b : Int} {l m : List Int} (h : fieldB p = true) (hl : hasB p a b l = true) (hm : hasB p a b m = true) (e : ptNum p l = ptNum p m) : l = m := by
  have hp := fieldB_facts h
  rcases hasB_cases hl with rfl | ⟨x, y, rfl⟩ <;> rcases hasB_cases hm with rfl | ⟨u, v, rfl⟩
  · rfl
  · simp [ptNum, at'] at e <;> omega
  · simp [ptNum, at'] at e <;> omega
  · obtain ⟨gx, gy, _⟩ := (hasB_two (by omega)).1 hl
    obtain ⟨gu, gv, _⟩ := (hasB_two (by omega)).1 hm
    have e1 : ptNum p [x, y] = 1 + x.toNat * p.toNat + y.toNat := by simp [ptNum, at']
    have e2 : ptNum p [u, v] = 1 + u.toNat * p.toNat + v.toNat := by simp [ptNum, at']
    rw [e1, e2] at e
    have e3 : y.toNat + p.toNat * x.toNat = v.toNat + p.toNat * u.toNat := by rw [Nat.mul_comm p.toNat, Nat.mul_comm p.toNat]; omega
    have e4 : y.toNat = v.toNat := by
      have := congrArg (· % p.toNat) e3
      simp only [Nat.add_mul_mod_self_left] at this
      rwa [Nat.mod_eq_of_lt (by omega), Nat.mod_eq_of_lt (by omega)] at this
    have e5 : x.toNat = u.toNat := by
      have : p.toNat * x.toNat = p.toNat * u.toNat := by omega
      exact Nat.eq_of_mul_eq_mul_left (by omega) this
    rw [show x = u by omega, show y = v by omega]
/-- The multiples of a point come to nothing. -/
theorem itE_zero {p a b : Int} {pt : List Int} (h : fieldB p = true) (hd : disc p a b ≠ 0) (hs : hasB p a b pt = true) : ∃ N, N ≤ 9410 ∧ itE p a pt N = [] := by
  obtain ⟨i, j, h1, h2, h3⟩ := pigeon 9410 (fun k => ptNum p (itE p a pt k)) (fun k _ => ptNum_lt h (itE_has h hs k))
  have h4 := ptNum_inj h (itE_has h hs i) (itE_has h hs j) h3
  -- go back to the first multiple
  have h5 : ∀ k, k ≤ i → itE p a pt (i - k) = itE p a pt (j - k) := by
    intro k
    induction k with
    | zero => intro _; exact h4
    | succ k ih =>
      intro hk
      have e := ih (by omega)
      rw [show i - k = (i - (k + 1)) + 1 by omega, show j - k = (j - (k + 1)) + 1 by omega] at e
      exact addE_inj h hd (itE_has h hs _) (itE_has h hs _) hs e
  have h6 := h5 i (Nat.le_refl _)
  rw [Nat.sub_self, show j - i = (j - i - 1) + 1 by omega] at h6
  -- pt = (j-i) more times pt: nothing
  refine ⟨j - i - 1, by omega, ?_⟩
  have h7 : addE p a [] pt = addE p a (itE p a pt (j - i - 1)) pt := by
    rw [show addE p a [] pt = pt by simp [addE]]
    exact h6
  exact (addE_inj h hd rfl (itE_has h hs _) hs h7).symm
end Go.Proofs.Ytoooefcjkmfhoaa
