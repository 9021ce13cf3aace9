/-
  Plain laws: blocks by a series with integer coefficients, and their ghost components. No program.
-/
import Derived.Test.YtdnaecmcbkfpaaaGreatWs
import Derived.Test.YtdnaecmcbkfpaaaGreatHn
import Derived.Test.YtdnaecmcbkfpaaaGreatHl
import Derived.Test.YtdnaecmcbkfpaaaGreatHj
namespace Go.Proofs.YtdnaecmcbkfpaaaGreat
open Go.RowKit
set_option linter.unusedSimpArgs false
set_option linter.unusedVariables false
set_option linter.unusedSectionVars false
set_option maxRecDepth 20000
-- Plain laws: blocks by a series with integer coefficients, and their ghost components. No program.
/-- e(x t^n). -/
def bE (e : Nat → Int) (x : Int) (n k : Nat) : Int := if k % n = 0 then e (k / n) * x ^ (k / n) else 0
theorem bE_zero {e : Nat → Int} (h0 : e 0 = 1) (x : Int) (n : Nat) : bE e x n 0 = 1 := by simp [bE, h0]
theorem bE_low (e : Nat → Int) (x : Int) {n k : Nat} (h0 : 0 < k) (h : k < n) : bE e x n k = 0 := by
  rw [bE, Nat.mod_eq_of_lt h, if_neg (by omega)]
theorem bE_self {e : Nat → Int} (h1 : e 1 = 1) (x : Int) {n : Nat} (hn : 0 < n) : bE e x n n = x := by
  rw [bE, Nat.mod_self, if_pos rfl, Nat.div_self hn, h1, Int.pow_one, Int.one_mul]
theorem bE_congr {m x y : Int} {e f : Nat → Int} {d n : Nat} (he : eqm m d e f) (h : x % m = y % m) : eqm m d (bE e x n) (bE f y n) := fun k hk => by
  unfold bE
  split
  · exact emod_mul_congr (he _ (Nat.le_trans (Nat.div_le_self k n) hk)) (pow_emod_congr h _)
  · rfl
theorem bE_null {e : Nat → Int} (h0 : e 0 = 1) {n : Nat} (hn : 0 < n) : bE e 0 n = oneF := by
  funext k
  unfold bE oneF
  by_cases hk : k = 0
  · subst hk; simp [h0]
  · rw [if_neg hk]
    split
    · rename_i h
      have : k / n ≠ 0 := by
        intro h2
        have := Nat.div_add_mod k n
        rw [h, h2] at this
        omega
      rw [Int.zero_pow this, Int.mul_zero]
    · rfl
/-- The product of the first c blocks. -/
def oE (e : Nat → Int) (x : Nat → Int) : Nat → Nat → Int
  | 0 => oneF
  | c + 1 => cv (oE e x c) (bE e (x c) (c + 1))
theorem oE_zero {e : Nat → Int} (h0 : e 0 = 1) (x : Nat → Int) : ∀ c, oE e x c 0 = 1
  | 0 => rfl
  | c + 1 => by rw [oE, cv, sm, sm, oE_zero h0 x c, bE_zero h0]; rfl
theorem oE_low {e : Nat → Int} (h0 : e 0 = 1) (x : Nat → Int) {c k : Nat} (h : k ≤ c) : oE e x (c + 1) k = oE e x c k := by
  rw [oE, cv, sm, show k - k = 0 by omega, bE_zero h0, Int.mul_one, sm_zero, Int.zero_add]
  intro i hi
  rw [bE_low _ _ (by omega) (by omega), Int.mul_zero]
theorem oE_next {e : Nat → Int} (h0 : e 0 = 1) (h1 : e 1 = 1) (x : Nat → Int) (c : Nat) : oE e x (c + 1) (c + 1) = oE e x c (c + 1) + x c := by
  rw [oE, cv, sm, Nat.sub_self, bE_zero h0, Int.mul_one, Int.add_comm, sm_one (p := 0) (by omega)]
  · rw [oE_zero h0, Int.one_mul, Nat.sub_zero, bE_self h1 _ (by omega)]
  · intro i h2 h3
    rw [bE_low _ _ (by omega) (by omega), Int.mul_zero]
theorem oE_stay {e : Nat → Int} (h0 : e 0 = 1) (x : Nat → Int) {c : Nat} : ∀ {b k : Nat}, k ≤ c → oE e x (c + b) k = oE e x c k
  | 0, k, _ => rfl
  | b + 1, k, h => by rw [← Nat.add_assoc, oE_low h0 x (by omega), oE_stay h0 x h]
theorem oE_upto {e : Nat → Int} {x y : Nat → Int} : ∀ {c : Nat}, (∀ i, i < c → x i = y i) → oE e x c = oE e y c
  | 0, _ => rfl
  | c + 1, h => by rw [oE, oE, oE_upto (fun i hi => h i (by omega)), h c (by omega)]
/-- Every series with 1 in front has blocks. -/
theorem oE_of {e : Nat → Int} (e0 : e 0 = 1) (e1 : e 1 = 1) (f : Nat → Int) (h0 : f 0 = 1) : ∀ c, ∃ x, ∀ k, k ≤ c → oE e x c k = f k
  | 0 => ⟨fun _ => 0, fun k hk => by obtain rfl : k = 0 := by omega
                                     rw [h0]; rfl⟩
  | c + 1 => by
    obtain ⟨x, hx⟩ := oE_of e0 e1 f h0 c
    refine ⟨fun i => if i = c then f (c + 1) - oE e x c (c + 1) else x i, fun k hk => ?_⟩
    have g : oE e (fun i => if i = c then f (c + 1) - oE e x c (c + 1) else x i) c = oE e x c := oE_upto fun i hi => if_neg (by omega)
    rcases Nat.lt_or_ge c k with h | h
    · obtain rfl : k = c + 1 := by omega
      rw [oE_next e0 e1, g, if_pos rfl]; omega
    · rw [oE_low e0 _ h, g]; exact hx k h
theorem oE_congr {m : Int} {d : Nat} {e f : Nat → Int} {x y : Nat → Int} (he : eqm m d e f) : ∀ {c : Nat}, (∀ i, i < c → x i % m = y i % m) → eqm m d (oE e x c) (oE f y c)
  | 0, _ => eqm.rfl'
  | c + 1, h => (oE_congr he (fun i hi => h i (by omega))).cv (bE_congr he (h c (by omega)))
/-- The blocks modulo m follow from the series modulo m. -/
theorem oE_inj {m : Int} {d : Nat} {e x y : Nat → Int} (e0 : e 0 = 1) (e1 : e 1 = 1) (h : eqm m d (oE e x d) (oE e y d)) : ∀ i, i < d → x i % m = y i % m := by
  intro i
  induction i using Nat.strongRecOn with
  | _ i ih =>
    intro hi
    have h1 := h (i + 1) (by omega)
    obtain ⟨b, rfl⟩ : ∃ b, d = i + 1 + b := ⟨d - (i + 1), by omega⟩
    rw [oE_stay e0 x (Nat.le_refl _), oE_stay e0 y (Nat.le_refl _), oE_next e0 e1, oE_next e0 e1] at h1
    have h2 := oE_congr (d := i + 1 + b) (e := e) (f := e) eqm.rfl' (c := i) (fun j hj => ih j hj (by omega)) (i + 1) (by omega)
    have := emod_sub_congr h1 h2
    rwa [show oE e x i (i + 1) + x i - oE e x i (i + 1) = x i by omega, show oE e y i (i + 1) + y i - oE e y i (i + 1) = y i by omega] at this
/-- One block more, among the others. -/
theorem oE_ins {e : Nat → Int} (e0 : e 0 = 1) {x y : Nat → Int} {j : Nat} {v : Int} (hx : x j = 0) (hy : y j = v) (hxy : ∀ i, i ≠ j → y i = x i) : ∀ c, j < c → oE e y c = cv (oE e x c) (bE e v (j + 1))
  | 0, h => by omega
  | c + 1, h => by
    by_cases g : j = c
    · subst g
      rw [oE, oE, hx, bE_null e0 (by omega), cv_one_right, hy, oE_upto (fun i hi => hxy i (by omega))]
    · rw [oE, oE, oE_ins e0 hx hy hxy c (by omega), hxy c (fun h => g h.symm), cv_assoc, cv_comm (bE e v (j + 1)), ← cv_assoc]
theorem Gh.some {d : Nat} {f : Nat → Int} (h0 : f 0 = 1) : ∃ G, Gh d f G := by
  obtain ⟨x, hx⟩ := oZ_of f h0 d
  exact ⟨gZ x d, (Gh.oZ d x d).congr hx (fun _ _ _ => rfl)⟩
theorem Gh.twist {d : Nat} {f G : Nat → Int} (x : Int) (h : Gh d f G) : Gh d (fun k => f k * x ^ k) (fun k => G k * x ^ k) := fun k hk => by
  show (k : Int) * (f k * x ^ k) = sm k (fun i => G (i + 1) * x ^ (i + 1) * (f (k - 1 - i) * x ^ (k - 1 - i)))
  rw [← Int.mul_assoc, h k hk, ← sm_mul_right]
  refine sm_congr fun i hi => ?_
  have : x ^ k = x ^ (i + 1) * x ^ (k - 1 - i) := by rw [← Int.pow_add, show i + 1 + (k - 1 - i) = k by omega]
  rw [this]
  grind
def gB (E : Nat → Int) (x : Int) (n k : Nat) : Int := if k % n = 0 then (n : Int) * (E (k / n) * x ^ (k / n)) else 0
theorem Gh.bE {d : Nat} {e E : Nat → Int} (h : Gh d e E) (x : Int) {n : Nat} (hn : 0 < n) : Gh d (bE e x n) (gB E x n) := (h.twist x).spread hn
def gE (E x : Nat → Int) (c k : Nat) : Int := sm c (fun i => gB E (x i) (i + 1) k)
theorem Gh.oE {d : Nat} {e E : Nat → Int} (h : Gh d e E) (x : Nat → Int) : ∀ c, Gh d (oE e x c) (gE E x c)
  | 0 => Gh.one d
  | c + 1 => (Gh.oE h x c).mul (Gh.bE h (x c) (by omega))
/-- Blocks of a product: their ghost components are sums. -/
theorem gE_mul {d : Nat} {e E x y z : Nat → Int} (e0 : e 0 = 1) (h : Gh d e E) (hz : ∀ k, k ≤ d → oE e z d k = cv (oE e x d) (oE e y d) k) : ∀ k, 1 ≤ k → k ≤ d → gE E z d k = gE E x d k + gE E y d k := by
  have h1 := (Gh.oE h z d).congr hz (fun _ _ _ => rfl)
  have h2 := (Gh.oE h x d).mul (Gh.oE h y d)
  exact Gh.ghosts (by rw [cv, sm, sm, oE_zero e0, oE_zero e0]; rfl) h1 h2
-- powers of a prime
theorem dvd_iff {m a b : Int} : m ∣ a - b ↔ a % m = b % m :=
  ⟨fun h => Int.emod_eq_emod_iff_emod_sub_eq_zero.2 (Int.emod_eq_zero_of_dvd h), fun h => Int.dvd_of_emod_eq_zero (Int.emod_eq_emod_iff_emod_sub_eq_zero.1 h)⟩
theorem eu_dvd (m a : Int) : ∀ (n : Nat) (r s x y : Int), s.toNat = n → 0 ≤ r → 0 ≤ s → m ∣ r - x * a → m ∣ s - y * a → m ∣ ((Nat.gcd r.toNat s.toNat : Nat) : Int) - eu r s x y * a := by
  intro n
  induction n using Nat.strongRecOn with
  | _ n ih =>
    intro r s x y hn hr hs h1 h2
    by_cases h : 0 < s
    · rw [eu_step h]
      have e1 := emod_b r s h
      have hq : r % s = r - r / s * s := by have := Int.emod_add_mul_ediv r s; grind
      have h3 : m ∣ r % s - (x - r / s * y) * a := by
        obtain ⟨k1, g1⟩ := h1
        obtain ⟨k2, g2⟩ := h2
        exact ⟨k1 - r / s * k2, by rw [hq]; grind⟩
      have := ih (r % s).toNat (by omega) s (r % s) y (x - r / s * y) rfl hs e1.1 h2 h3
      have hg : Nat.gcd s.toNat (r % s).toNat = Nat.gcd r.toNat s.toNat := by
        rw [show (r % s).toNat = r.toNat % s.toNat by rw [Int.toNat_emod hr hs], Nat.gcd_comm s.toNat, ← Nat.gcd_rec, Nat.gcd_comm]
      rwa [hg] at this
    · have hs0 : s = 0 := by omega
      subst hs0
      rw [eu_end (by omega)]
      simp only [Int.toNat_zero, Nat.gcd_zero_right]
      rwa [Int.toNat_of_nonneg hr]
theorem invL_unit {m a : Int} (hm : 0 < m) (h : Nat.gcd m.toNat (a % m).toNat = 1) : (invL m a * a) % m = 1 % m := by
  have e := emod_b a m hm
  have h1 := eu_dvd m a _ m (a % m) 0 1 rfl (by omega) e.1 ⟨1, by omega⟩ ⟨-(a / m), by have := Int.emod_add_mul_ediv a m; grind⟩
  rw [h] at h1
  unfold invL
  rw [mul_emod_l]
  exact (dvd_iff.1 h1).symm
theorem coprime_pow {p b N : Nat} (h : Nat.gcd p b = 1) : Nat.gcd (p ^ N) (b % p ^ N) = 1 := by
  have h1 : Nat.Coprime (p ^ N) b := Nat.Coprime.pow_left N h
  rw [Nat.gcd_comm, ← Nat.gcd_rec]
  exact h1
/-- The inverse of a number modulo a power of p. -/
theorem inv_pw {p b : Nat} (hp : 0 < p) (h : Nat.gcd p b = 1) (N : Nat) : (invL ((p : Int) ^ N) b * b) % (p : Int) ^ N = 1 % (p : Int) ^ N := by
  have e : ((p : Int) ^ N) = ((p ^ N : Nat) : Int) := by simp
  rw [e]
  refine invL_unit (by have := Nat.pow_pos (n := N) hp; omega) ?_
  rw [Int.toNat_natCast, show (((b : Int) % ((p ^ N : Nat) : Int))).toNat = b % p ^ N by rw [← Int.natCast_emod, Int.toNat_natCast]]
  exact coprime_pow h
theorem unit_cancel {q u v x : Int} (h : (v * u) % q = 1 % q) (hx : q ∣ u * x) : q ∣ x := by
  have h1 := dvd_iff.2 h
  obtain ⟨a, ha⟩ := h1
  obtain ⟨b, hb⟩ := hx
  exact ⟨v * b - a * x, by grind⟩
theorem unit_cancel2 {q u v x y : Int} (h : (v * u) % q = 1 % q) (hx : (u * x) % q = (u * y) % q) : x % q = y % q :=
  dvd_iff.1 (unit_cancel h (by rw [Int.mul_sub]; exact dvd_iff.2 hx))
theorem emod_of_dvd {a b m n : Int} (h : a % m = b % m) (hd : n ∣ m) : a % n = b % n := dvd_iff.1 (Int.dvd_trans hd (dvd_iff.2 h))
theorem pw_dvd {p : Int} {a b : Nat} (h : a ≤ b) : p ^ a ∣ p ^ b := ⟨p ^ (b - a), by rw [← Int.pow_add, show a + (b - a) = b by omega]⟩
-- the numbers of Artin and Hasse
def tN (p n : Nat) : Nat := (ahTB p n).1.getD n 0
def bN (p n : Nat) : Nat := (ahTB p n).2.getD n 0
def dN (p : Nat) : Nat := (List.range 11).foldl (fun a n => a * bN p n) 1
/-- A power of p, up to its third. -/
def pwQ (p k : Nat) : Bool := (List.range 4).any (fun t => k == p ^ t)
theorem ah_gcd {p k : Nat} (hp : IsP p) (hk : k < 11) : Nat.gcd p (bN p k) = 1 ∧ bN p k * (dN p / bN p k) = dN p ∧ Nat.gcd p (dN p) = 1 := by
  rcases hp with rfl | rfl | rfl | rfl <;> revert k <;> decide +kernel
theorem ah_one {p : Nat} (hp : IsP p) : tN p 0 = 1 ∧ bN p 0 = 1 ∧ tN p 1 = 1 ∧ bN p 1 = 1 := by
  rcases hp with rfl | rfl | rfl | rfl <;> decide +kernel
theorem ah_rec {p k : Nat} (hp : IsP p) (hk : k < 11) : (k : Int) * ((tN p k : Int) * ((dN p / bN p k : Nat) : Int)) = sm k (fun i => if pwQ p (i + 1) = true then (tN p (k - 1 - i) : Int) * ((dN p / bN p (k - 1 - i) : Nat) : Int) else 0) := by
  rcases hp with rfl | rfl | rfl | rfl <;> revert k <;> decide +kernel
/-- A series with integer coefficients behind that of Artin and Hasse, and its ghost components. -/
structure AH (p N : Nat) (e E : Nat → Int) : Prop where
  e0 : e 0 = 1
  e1 : e 1 = 1
  gh : Gh 10 e E
  one : ∀ k, 1 ≤ k → k ≤ 10 → E k % (p : Int) ^ N = (if pwQ p k = true then 1 else 0) % (p : Int) ^ N
  tab : ∀ k, k ≤ 10 → (e k * (bN p k : Int)) % (p : Int) ^ N = (tN p k : Int) % (p : Int) ^ N
theorem AH.some {p : Nat} (hp : IsP p) (N : Nat) : ∃ e E, AH p N e E := by
  have hb := hp.b
  let e : Nat → Int := fun n => if n ≤ 1 then 1 else (tN p n : Int) * invL ((p : Int) ^ N) (bN p n)
  have h1 := ah_one hp
  have ht : ∀ k, k ≤ 10 → (e k * (bN p k : Int)) % (p : Int) ^ N = (tN p k : Int) % (p : Int) ^ N := by
    intro k hk
    simp only [e]
    split
    · rcases Nat.eq_zero_or_pos k with g | g
      · subst g; rw [h1.1, h1.2.1]; rfl
      · obtain rfl : k = 1 := by omega
        rw [h1.2.2.1, h1.2.2.2]; rfl
    · rw [Int.mul_assoc, ← mul_emod_r, inv_pw (by omega) (ah_gcd hp (by omega)).1 N, mul_emod_r, Int.mul_one]
  obtain ⟨E, hE⟩ := Gh.some (d := 10) (f := e) (by simp [e])
  have hD := (ah_gcd (k := 0) hp (by omega)).2.2
  have hrec : ∀ k : Nat, k ≤ 10 → ((k : Int) * e k) % (p : Int) ^ N = sm k (fun i => if pwQ p (i + 1) = true then e (k - 1 - i) else 0) % (p : Int) ^ N := by
    intro k hk
    refine unit_cancel2 (u := (dN p : Int)) (inv_pw (by omega) hD N) ?_
    have hde : ∀ j, j ≤ 10 → ((dN p : Int) * e j) % (p : Int) ^ N = ((tN p j : Int) * ((dN p / bN p j : Nat) : Int)) % (p : Int) ^ N := by
      intro j hj
      have g := (ah_gcd (k := j) hp (by omega)).2.1
      have e2 : (dN p : Int) * e j = (e j * (bN p j : Int)) * ((dN p / bN p j : Nat) : Int) := by
        rw [show (dN p : Int) = (bN p j : Int) * ((dN p / bN p j : Nat) : Int) by rw [← Int.natCast_mul, g]]; grind
      rw [e2]
      exact emod_mul_congr (ht j hj) rfl
    rw [Int.mul_left_comm, ← mul_emod_r, hde k hk, mul_emod_r, ah_rec hp (by omega), ← sm_mul]
    refine sm_emod fun i hi => ?_
    split
    · exact (hde _ (by omega)).symm
    · rw [Int.mul_zero]
  refine ⟨e, E, by simp [e], by simp [e], hE, ?_, ht⟩
  intro k
  induction k using Nat.strongRecOn with
  | _ k ih =>
    intro hk1 hk
    obtain ⟨n, rfl⟩ : ∃ n, k = n + 1 := ⟨k - 1, by omega⟩
    have e1 := hE (n + 1) hk
    have e2 := hrec (n + 1) hk
    rw [e1, sm, sm, show n + 1 - 1 - n = 0 by omega, show e 0 = 1 by simp [e]] at e2
    have e3 : sm n (fun i => E (i + 1) * e (n + 1 - 1 - i)) % (p : Int) ^ N = sm n (fun i => if pwQ p (i + 1) = true then e (n + 1 - 1 - i) else 0) % (p : Int) ^ N := by
      refine sm_emod fun i hi => ?_
      rw [← mul_emod_l, ih (i + 1) (by omega) (by omega) (by omega), mul_emod_l]
      split
      · rw [Int.one_mul]
      · rw [Int.zero_mul]
    have e4 := emod_sub_congr e2 e3
    rw [show ∀ a b : Int, a + b * 1 - a = b from fun a b => by omega, show ∀ a b : Int, a + b - a = b from fun a b => by omega] at e4
    exact e4
theorem small_v {p k : Nat} (hp : IsP p) (h1 : 1 ≤ k) (h2 : k < 11) : ∃ v u : Nat, v ≤ 3 ∧ k = p ^ v * u ∧ Nat.gcd p u = 1 := by
  have key : ∀ k, k < 11 → 1 ≤ k → ∃ v, v < 4 ∧ ∃ u, u < 11 ∧ k = p ^ v * u ∧ Nat.gcd p u = 1 := by
    rcases hp with rfl | rfl | rfl | rfl <;> decide +kernel
  obtain ⟨v, h3, u, _, h4⟩ := key k h2 h1
  exact ⟨v, u, by omega, h4⟩
/-- A factor of at most 10 costs three powers of p. -/
theorem small_cancel {p n k : Nat} {x : Int} (hp : IsP p) (h1 : 1 ≤ k) (h2 : k ≤ 10) (h : (p : Int) ^ (n + 3) ∣ (k : Int) * x) : (p : Int) ^ n ∣ x := by
  have hb := hp.b
  obtain ⟨v, u, h3, h4, h5⟩ := small_v hp h1 (by omega)
  refine unit_cancel (inv_pw (by omega) h5 n) ?_
  obtain ⟨c, hc⟩ := h
  refine ⟨(p : Int) ^ (3 - v) * c, ?_⟩
  have h6 : (p : Int) ^ v ≠ 0 := by
    have : 0 < p ^ v := Nat.pow_pos (by omega)
    have e : ((p : Int) ^ v) = ((p ^ v : Nat) : Int) := by simp
    rw [e]; omega
  refine Int.eq_of_mul_eq_mul_left h6 ?_
  have e1 : (k : Int) = (p : Int) ^ v * (u : Int) := by rw [h4]; simp
  have e2 : (p : Int) ^ (n + 3) = (p : Int) ^ v * ((p : Int) ^ n * (p : Int) ^ (3 - v)) := by rw [← Int.pow_add, ← Int.pow_add]; congr 1; omega
  rw [e1, e2] at hc
  rw [← Int.mul_assoc, hc]
  grind
/-- The ghost components of blocks, modulo a power of p. -/
theorem gE_mod {p N : Nat} {e E : Nat → Int} (hA : AH p N e E) (z : Nat → Int) (d : Nat) {k : Nat} (h1 : 1 ≤ k) (h2 : k ≤ 10) :
    gE E z d k % (p : Int) ^ N = sm d (fun i => if k % (i + 1) = 0 ∧ pwQ p (k / (i + 1)) = true then ((i + 1 : Nat) : Int) * z i ^ (k / (i + 1)) else 0) % (p : Int) ^ N := by
  refine sm_emod fun i hi => ?_
  unfold gB
  by_cases h : k % (i + 1) = 0
  · have h3 : 1 ≤ k / (i + 1) := by
      rcases Nat.eq_zero_or_pos (k / (i + 1)) with g | g
      · have := Nat.div_add_mod k (i + 1)
        rw [h, g] at this; omega
      · exact g
    have h4 : k / (i + 1) ≤ 10 := Nat.le_trans (Nat.div_le_self _ _) h2
    rw [if_pos h, ← mul_emod_r, ← mul_emod_l (E _), hA.one _ h3 h4, mul_emod_l, mul_emod_r]
    by_cases g : pwQ p (k / (i + 1)) = true
    · rw [if_pos g, if_pos ⟨h, g⟩, Int.one_mul]
    · rw [if_neg g, if_neg (fun c => g c.2), Int.zero_mul, Int.mul_zero]
  · rw [if_neg h, if_neg (fun c => h c.1)]
/-- A sum over few places. -/
theorem sm_sparse {f : Nat → Int} (a : Nat → Nat) (ha : ∀ t, a t < a (t + 1)) : ∀ (j K : Nat), a j < K → (∀ i, i < K → (∀ t, t ≤ j → i ≠ a t) → f i = 0) → sm K f = sm (j + 1) (fun t => f (a t))
  | 0, K, h, hz => by
    rw [sm_one h (fun i hi hne => hz i hi (fun t ht => by obtain rfl : t = 0 := by omega
                                                          exact hne))]
    simp [sm]
  | j + 1, K, h, hz => by
    have hmono : ∀ t, t ≤ j + 1 → a t ≤ a (j + 1) := by
      intro t ht
      obtain ⟨c, hc⟩ : ∃ c, j + 1 = t + c := ⟨j + 1 - t, by omega⟩
      rw [hc]
      clear hc
      induction c with
      | zero => exact Nat.le_refl _
      | succ c ih => exact Nat.le_trans ih (Nat.le_of_lt (ha (t + c)))
    rw [sm_tail (c := a (j + 1) + 1) (by omega) (fun i h1 h2 => hz i h2 (fun t ht => by have := hmono t ht; omega)), sm,
      sm_sparse a ha j (a (j + 1)) (ha j) (fun i hi hne => hz i (by omega) (fun t ht => by
        by_cases g : t = j + 1
        · subst g; omega
        · exact hne t (by omega)))]
    rfl
def ghI (p : Nat) (z : Nat → Int) (j : Nat) : Int := sm (j + 1) (fun t => (p : Int) ^ t * z t ^ (p ^ (j - t)))
theorem pwQ_iff {p k : Nat} : pwQ p k = true ↔ ∃ s, s < 4 ∧ k = p ^ s := by
  unfold pwQ
  simp only [List.any_eq_true, List.mem_range, beq_iff_eq]
theorem pw_small {p n j : Nat} (hp : IsP p) (hn : 1 ≤ n) (h : n * p ^ j ≤ 10) : j < 4 := by
  have hb := hp.b
  apply Nat.lt_of_not_le
  intro h4
  have h1 : 2 ^ 4 ≤ p ^ j := Nat.le_trans (Nat.pow_le_pow_left hb.1 4) (Nat.pow_le_pow_right (by omega) h4)
  have h2 : 1 * p ^ j ≤ n * p ^ j := Nat.mul_le_mul_right _ hn
  omega
/-- The ghost component at n p^j tells those of the numbers at n, n p, .. -/
theorem gE_gh {p N n j d : Nat} {e E : Nat → Int} (hA : AH p N e E) (hp : IsP p) (z : Nat → Int) (hn : 1 ≤ n) (hnp : n % p ≠ 0) (h : n * p ^ j ≤ d) (hd : d ≤ 10) :
    gE E z d (n * p ^ j) % (p : Int) ^ N = ((n : Int) * ghI p (fun t => z (n * p ^ t - 1)) j) % (p : Int) ^ N := by
  have hb := hp.b
  have hj := pw_small hp hn (Nat.le_trans h hd)
  have hpos : ∀ t, 0 < p ^ t := fun t => Nat.pow_pos (by omega)
  have hnt : ∀ t, 0 < n * p ^ t := fun t => Nat.mul_pos hn (hpos t)
  rw [gE_mod hA z d (hnt j) (by omega)]
  congr 1
  rw [sm_sparse (fun t => n * p ^ t - 1) (fun t => by
      have h1 := hnt t
      have h2 : n * p ^ t * 2 ≤ n * p ^ (t + 1) := by rw [Nat.pow_succ, ← Nat.mul_assoc]; exact Nat.mul_le_mul_left _ hb.1
      show n * p ^ t - 1 < n * p ^ (t + 1) - 1
      omega) j d (by have := hnt j; show n * p ^ j - 1 < d; omega) (fun i hi hne => ?_)]
  · rw [ghI, ← sm_mul]
    refine sm_congr fun t ht => ?_
    have h1 : n * p ^ t - 1 + 1 = n * p ^ t := by have := hnt t; omega
    have h2 : n * p ^ j = (n * p ^ t) * p ^ (j - t) := by rw [Nat.mul_assoc, ← Nat.pow_add, show t + (j - t) = j by omega]
    show (if n * p ^ j % (n * p ^ t - 1 + 1) = 0 ∧ pwQ p (n * p ^ j / (n * p ^ t - 1 + 1)) = true then ((n * p ^ t - 1 + 1 : Nat) : Int) * z (n * p ^ t - 1) ^ (n * p ^ j / (n * p ^ t - 1 + 1)) else 0) = _
    rw [h1, h2, Nat.mul_mod_right, Nat.mul_div_cancel_left _ (hnt t), if_pos ⟨rfl, pwQ_iff.2 ⟨j - t, by omega, rfl⟩⟩]
    simp only [Int.natCast_mul, Int.natCast_pow]
    rw [Int.mul_assoc]
  · split
    · rename_i hc
      exfalso
      obtain ⟨s, hs4, hs⟩ := pwQ_iff.1 hc.2
      have h3 := Nat.div_add_mod (n * p ^ j) (i + 1)
      rw [hc.1, hs, Nat.add_zero] at h3
      by_cases hsj : s ≤ j
      · have h4 : (i + 1) * p ^ s = (n * p ^ (j - s)) * p ^ s := by rw [h3, Nat.mul_assoc, ← Nat.pow_add, show j - s + s = j by omega]
        have h5 := Nat.eq_of_mul_eq_mul_right (hpos s) h4
        exact hne (j - s) (by omega) (by show i = n * p ^ (j - s) - 1; omega)
      · have h4 : ((i + 1) * p ^ (s - j)) * p ^ j = n * p ^ j := by rw [← h3, Nat.mul_assoc, ← Nat.pow_add, show s - j + j = s by omega]
        have h5 := Nat.eq_of_mul_eq_mul_right (hpos j) h4
        apply hnp
        rw [← h5, show s - j = (s - j - 1) + 1 by omega, Nat.pow_succ, ← Nat.mul_assoc, Nat.mul_mod_left]
    · rfl
-- sums of Witt vectors by their ghost components
theorem geom (a b : Int) : ∀ n, a ^ n - b ^ n = (a - b) * sm n (fun i => a ^ i * b ^ (n - 1 - i))
  | 0 => by simp [sm]
  | n + 1 => by
    have h := geom a b n
    have e : sm n (fun i => a ^ i * b ^ (n + 1 - 1 - i)) = b * sm n (fun i => a ^ i * b ^ (n - 1 - i)) := by
      rw [← sm_mul]
      refine sm_congr fun i hi => ?_
      rw [show n + 1 - 1 - i = (n - 1 - i) + 1 by omega, Int.pow_succ]
      grind
    rw [sm, e, show n + 1 - 1 - n = 0 by omega, Int.pow_zero, Int.mul_one, Int.pow_succ, Int.pow_succ, Int.mul_add, Int.mul_left_comm, ← h]
    grind
theorem sm_const (c : Int) : ∀ n : Nat, sm n (fun _ => c) = (n : Int) * c
  | 0 => by simp [sm]
  | n + 1 => by rw [sm, sm_const c n]; rw [show ((n + 1 : Nat) : Int) = (n : Int) + 1 by omega, Int.add_mul, Int.one_mul]
theorem lift1 {p u : Nat} {a b : Int} (hp : 1 ≤ p) (hu : 1 ≤ u) (h : (p : Int) ^ u ∣ a - b) : (p : Int) ^ (u + 1) ∣ a ^ p - b ^ p := by
  have hab : b % (p : Int) = a % (p : Int) := by
    have h1 : (p : Int) ∣ a - b := Int.dvd_trans ⟨(p : Int) ^ (u - 1), by rw [← Int.pow_succ', show u - 1 + 1 = u by omega]⟩ h
    exact (dvd_iff.1 h1).symm
  have hS : (p : Int) ∣ sm p (fun i => a ^ i * b ^ (p - 1 - i)) := by
    refine Int.dvd_of_emod_eq_zero ?_
    have e : sm p (fun i => a ^ i * b ^ (p - 1 - i)) % (p : Int) = sm p (fun _ => a ^ (p - 1)) % (p : Int) := by
      refine sm_emod fun i hi => ?_
      rw [← mul_emod_r, pow_emod_congr hab, mul_emod_r, ← Int.pow_add, show i + (p - 1 - i) = p - 1 by omega]
    rw [e, sm_const, Int.mul_emod_right]
  rw [geom, Int.pow_succ]
  obtain ⟨c, hc⟩ := h
  obtain ⟨f, hf⟩ := hS
  exact ⟨c * f, by rw [hc, hf]; grind⟩
theorem lift {p u : Nat} {a b : Int} (hp : 1 ≤ p) (hu : 1 ≤ u) (h : (p : Int) ^ u ∣ a - b) : ∀ s, (p : Int) ^ (u + s) ∣ a ^ (p ^ s) - b ^ (p ^ s)
  | 0 => by rw [Nat.pow_zero, Int.pow_one, Int.pow_one]; exact h
  | s + 1 => by
    have := lift1 hp (by omega) (lift hp hu h s)
    rwa [← Int.pow_mul, ← Int.pow_mul, ← Nat.pow_succ] at this
/-- What is left of a ghost component behind the first k numbers. -/
def wgR (w : Int) (p : Nat) (l : List Int) (g : Int) (k : Nat) : Int := g - sm k (fun i => ((p : Int) ^ i % w) * (at' l i ^ (p ^ (k - i)) % w) % w)
/-- The numbers with some ghost components. -/
def wgL (w : Int) (p : Nat) (g : Nat → Int) : Nat → List Int
  | 0 => []
  | k + 1 => wgL w p g k ++ [wgR w p (wgL w p g k) (g k) k % w / (p : Int) ^ k]
theorem wgL_length (w : Int) (p : Nat) (g : Nat → Int) : ∀ k, (wgL w p g k).length = k
  | 0 => rfl
  | k + 1 => by rw [wgL, List.length_append, wgL_length w p g k]; rfl
theorem wgL_last (w : Int) (p : Nat) (g : Nat → Int) (k : Nat) : at' (wgL w p g (k + 1)) k = wgR w p (wgL w p g k) (g k) k % w / (p : Int) ^ k := by
  rw [wgL, at', List.getD_eq_getElem?_getD, List.getElem?_append_right (by rw [wgL_length]; omega), wgL_length, Nat.sub_self]; rfl
theorem wgL_pre (w : Int) (p : Nat) (g : Nat → Int) {i : Nat} : ∀ {k}, i < k → at' (wgL w p g k) i = at' (wgL w p g (i + 1)) i
  | 0, h => by omega
  | k + 1, h => by
    by_cases e : i = k
    · rw [e]
    · rw [← wgL_pre w p g (k := k) (by omega), wgL, at', List.getD_eq_getElem?_getD, List.getElem?_append_left (by rw [wgL_length]; omega), ← List.getD_eq_getElem?_getD]; rfl
theorem wgL_b {w : Int} (hw : 0 < w) {p : Nat} (hp : 0 < p) (g : Nat → Int) {i k : Nat} (h : i < k) : 0 ≤ at' (wgL w p g k) i ∧ at' (wgL w p g k) i < w := by
  rw [wgL_pre w p g h, wgL_last]
  have h1 := emod_b (wgR w p (wgL w p g i) (g i) i) w hw
  have hpp : 0 < (p : Int) ^ i := by
    have : 0 < p ^ i := Nat.pow_pos hp
    have e : ((p : Int) ^ i) = ((p ^ i : Nat) : Int) := by simp
    rw [e]; omega
  exact ⟨Int.ediv_nonneg h1.1 (by omega), Int.lt_of_le_of_lt (Int.ediv_le_self _ h1.1) h1.2⟩
/-- The program's numbers are those with the ghost components, modulo fewer powers of p each time. -/
theorem wgL_ok {p a : Nat} (hp : 2 ≤ p) (ha : 1 ≤ a) {g z : Nat → Int} : ∀ {k : Nat}, k < 4 → (∀ j, j ≤ k → g j % (p : Int) ^ (a + 4) = ghI p z j % (p : Int) ^ (a + 4)) → (p : Int) ^ (a + 4 - k) ∣ at' (wgL ((p : Int) ^ (a + 4)) p g (k + 1)) k - z k := by
  intro k
  induction k using Nat.strongRecOn with
  | _ k ih =>
    intro hk hg
    have hpp : ∀ j, 0 < (p : Int) ^ j := fun j => by
      have : 0 < p ^ j := Nat.pow_pos (by omega)
      have e : ((p : Int) ^ j) = ((p ^ j : Nat) : Int) := by simp
      rw [e]; omega
    have hR : wgR ((p : Int) ^ (a + 4)) p (wgL ((p : Int) ^ (a + 4)) p g k) (g k) k % (p : Int) ^ (a + 4) = ((p : Int) ^ k * z k) % (p : Int) ^ (a + 4) := by
      have e1 : sm k (fun i => ((p : Int) ^ i % (p : Int) ^ (a + 4)) * (at' (wgL ((p : Int) ^ (a + 4)) p g k) i ^ (p ^ (k - i)) % (p : Int) ^ (a + 4)) % (p : Int) ^ (a + 4)) % (p : Int) ^ (a + 4) = sm k (fun i => (p : Int) ^ i * z i ^ (p ^ (k - i))) % (p : Int) ^ (a + 4) := by
        refine sm_emod fun i hi => ?_
        rw [Int.emod_emod, mul_emod_l, mul_emod_r, wgL_pre _ _ _ hi]
        have h1 := ih i hi (by omega) (fun j hj => hg j (by omega))
        have h2 := lift (by omega : 1 ≤ p) (by omega) h1 (k - i)
        refine dvd_iff.1 ?_
        rw [← Int.mul_sub]
        refine Int.dvd_trans (pw_dvd (b := i + (a + 4 - i + (k - i))) (by omega)) ?_
        rw [Int.pow_add]
        exact Int.mul_dvd_mul (Int.dvd_refl _) h2
      have e2 := emod_sub_congr (hg k (Nat.le_refl k)) e1
      rw [ghI, sm, Nat.sub_self, Nat.pow_zero, Int.pow_one, show ∀ x y : Int, x + y - x = y from fun x y => by omega] at e2
      exact e2
    rw [wgL_last, hR]
    obtain ⟨c, hc⟩ : ∃ c, ((p : Int) ^ k * z k) % (p : Int) ^ (a + 4) = (p : Int) ^ k * (z k - (p : Int) ^ (a + 4 - k) * c) := by
      refine ⟨(p : Int) ^ k * z k / (p : Int) ^ (a + 4), ?_⟩
      have h1 := Int.emod_add_mul_ediv ((p : Int) ^ k * z k) ((p : Int) ^ (a + 4))
      have h2 : (p : Int) ^ (a + 4) = (p : Int) ^ k * (p : Int) ^ (a + 4 - k) := by rw [← Int.pow_add]; congr 1; omega
      generalize (p : Int) ^ k * z k / (p : Int) ^ (a + 4) = c at *
      rw [h2] at h1 ⊢
      grind
    rw [hc, Int.mul_ediv_cancel_left _ (by have := hpp k; omega)]
    exact ⟨-c, by grind⟩
-- the program's blocks
theorem strip_pow {p : Nat} (hp : 2 ≤ p) : ∀ {m : Nat}, 0 < m → strip p m = 1 → ∃ a, m = p ^ a := by
  intro m
  induction m using Nat.strongRecOn with
  | _ m ih =>
    intro hm h
    by_cases h0 : m % p = 0
    · rw [strip_step (by omega) hm h0] at h
      have h1 : m / p < m := Nat.div_lt_self hm (by omega)
      have h2 : p * (m / p) = m := Nat.mul_div_cancel' (Nat.dvd_of_mod_eq_zero h0)
      have h3 : 0 < m / p := Nat.pos_of_ne_zero (fun e => by rw [e] at h2; omega)
      obtain ⟨a, ha⟩ := ih (m / p) h1 h3 h
      exact ⟨a + 1, by rw [Nat.pow_succ, ← ha, Nat.mul_comm, h2]⟩
    · rw [strip_end h0] at h
      exact ⟨0, h⟩
theorem powB_pow {p m : Nat} (hp : 2 ≤ p) (hm : 2 ≤ m) (h : powB p m = true) : ∃ a, 1 ≤ a ∧ (m : Int) = (p : Int) ^ a := by
  obtain ⟨a, ha⟩ := strip_pow hp (by omega) (of_decide_eq_true h)
  refine ⟨a, ?_, by rw [ha]; simp⟩
  rcases Nat.eq_zero_or_pos a with e | e
  · rw [e, Nat.pow_zero] at ha; omega
  · exact e
theorem pw_inj {p a b : Nat} (hp : 2 ≤ p) (h : p ^ a = p ^ b) : a = b := by
  rcases Nat.lt_trichotomy a b with g | g | g
  · have := Nat.pow_lt_pow_right (a := p) (by omega) g; omega
  · exact g
  · have := Nat.pow_lt_pow_right (a := p) (by omega) g; omega
theorem eqm_ahL {p N a d : Nat} {m : Int} {e E : Nat → Int} (hA : AH p N e E) (hp : IsP p) (hm : m = (p : Int) ^ a) (haN : a ≤ N) (hd : d ≤ 10) : eqm m d (at' (ahL p m d)) e := fun k hk => by
  have hb := hp.b
  rw [ahL, at_tab (by omega), Int.emod_emod, mul_emod_l]
  have hpre := ahTB_pre p (i := k) k (Nat.le_refl k)
  show ((tN p k : Int) * invL m ((bN p k : Int) % m)) % m = e k % m
  have h1 : invL m ((bN p k : Int) % m) = invL m (bN p k) := by unfold invL; rw [Int.emod_emod]
  have h2 : (invL m (bN p k) * (bN p k : Int)) % m = 1 % m := by rw [hm]; exact inv_pw (by omega) (ah_gcd hp (by omega)).1 a
  have h3 : (e k * (bN p k : Int)) % m = (tN p k : Int) % m := emod_of_dvd (hA.tab k (by omega)) (by rw [hm]; exact pw_dvd haN)
  rw [h1, ← mul_emod_l, ← h3, mul_emod_l, Int.mul_assoc, Int.mul_comm (bN p k : Int), ← mul_emod_r, h2, mul_emod_r, Int.mul_one]
theorem eqm_blL {m c : Int} {n d : Nat} {el : List Int} {e : Nat → Int} (he : eqm m d (at' el) e) : eqm m d (at' (blL m el c n d)) (bE e c n) := fun k hk => by
  rw [blL, at_tab (by omega), bE]
  split
  · rw [Int.emod_emod]
    exact emod_mul_congr (he _ (Nat.le_trans (Nat.div_le_self k n) hk)) rfl
  · rfl
theorem eqm_bobL {m : Int} {d : Nat} {el l : List Int} {e : Nat → Int} (he : eqm m d (at' el) e) : ∀ k, eqm m d (at' (bobL m el l d k)) (oE e (at' l) k)
  | 0 => eqm_one m d
  | k + 1 => (eqm_times _ _ _ _).trans ((eqm_bobL he k).cv (eqm_blL he))
theorem bkL_at {m : Int} {el l : List Int} {d c : Nat} (h : c < d) : at' (bkL m el l d) c = at' (bkR m el l d c) (c + 1) := by rw [bkL, at_tab h]; rfl
/-- A big vector comes back from its blocks. -/
theorem bkL_back {m : Int} {d : Nat} {el l : List Int} {e : Nat → Int} (he : eqm m d (at' el) e) (e0 : e 0 = 1) (e1 : e 1 = 1) (hm : 1 < m) (h0 : at' l 0 = 1) : eqm m d (at' l) (oE e (at' (bkL m el l d)) d) := by
  have key : ∀ c, c ≤ d → eqm m d (cv (at' (bkR m el l d c)) (oE e (at' (bkL m el l d)) c)) (at' l) ∧ ∀ k, k ≤ c → at' (bkR m el l d c) k % m = oneF k % m := by
    intro c
    induction c with
    | zero => exact fun _ => ⟨eqm.of_eq (cv_one_right _), fun k hk => by obtain rfl : k = 0 := by omega
                                                                         rw [bkR, h0]; rfl⟩
    | succ c ih =>
      intro hc
      obtain ⟨h1, h2⟩ := ih (by omega)
      have hx : at' (bkL m el l d) c = at' (bkR m el l d c) (c + 1) := bkL_at (by omega)
      have hB : eqm m d (at' (blL m el (at' (bkL m el l d) c) (c + 1) d)) (bE e (at' (bkL m el l d) c) (c + 1)) := eqm_blL he
      have hB0 : at' (blL m el (at' (bkL m el l d) c) (c + 1) d) 0 = 1 := by
        have g1 := hB 0 (by omega)
        have g2 := at_bound (blL_num (m := m) (by omega) el (at' (bkL m el l d) c) (c + 1) d) (by omega) 0
        rw [bE_zero e0, Int.emod_eq_of_lt g2.1 g2.2, Int.emod_eq_of_lt (by omega) hm] at g1
        exact g1
      have hJ : eqm m d (cv (at' (blL m el (at' (bkL m el l d) c) (c + 1) d)) (at' (invS m (blL m el (at' (bkL m el l d) c) (c + 1) d) d))) oneF := by
        have g := eqm_times m (blL m el (at' (bkL m el l d) c) (c + 1) d) (invS m (blL m el (at' (bkL m el l d) c) (c + 1) d) d) d
        rw [inv_times hm hB0] at g
        exact g.symm.trans (eqm_one m d)
      have hst : eqm m d (at' (bkR m el l d (c + 1))) (cv (at' (bkR m el l d c)) (at' (invS m (blL m el (at' (bkL m el l d) c) (c + 1) d) d))) := by
        rw [bkR, ← hx]; exact eqm_times _ _ _ _
      have hY : eqm m d (cv (at' (bkR m el l d (c + 1))) (bE e (at' (bkL m el l d) c) (c + 1))) (at' (bkR m el l d c)) := by
        refine (hst.cv hB.symm).trans ?_
        rw [cv_assoc, cv_comm (at' (invS _ _ _))]
        exact ((eqm.rfl' (f := at' (bkR m el l d c))).cv hJ).trans (eqm.of_eq (cv_one_right _))
      refine ⟨?_, ?_⟩
      · rw [oE, cv_comm (oE e _ c), ← cv_assoc]
        exact (hY.cv eqm.rfl').trans h1
      · have hlow : ∀ k, k ≤ c → at' (bkR m el l d (c + 1)) k % m = oneF k % m := fun k hk => by
          have g := hY k (by omega)
          rw [cv, sm_one (p := k) (by omega) (fun i h3 h4 => by rw [bE_low _ _ (by omega) (by omega), Int.mul_zero]), Nat.sub_self, bE_zero e0, Int.mul_one] at g
          rw [g, h2 k hk]
        intro k hk
        rcases Nat.lt_or_ge c k with h | h
        · obtain rfl : k = c + 1 := by omega
          have g := hY (c + 1) (by omega)
          rw [cv, sm_two (p := 0) (q := c + 1) (by omega) (by omega) (fun i h3 h4 h5 => by rw [bE_low _ _ (by omega) (by omega), Int.mul_zero]), Nat.sub_self, Nat.sub_zero, bE_zero e0, Int.mul_one, bE_self e1 _ (by omega), ← hx] at g
          have g0 : (at' (bkR m el l d (c + 1)) 0 * at' (bkL m el l d) c) % m = (1 * at' (bkL m el l d) c) % m := emod_mul_congr (hlow 0 (by omega)) rfl
          have g3 := emod_sub_congr g g0
          rw [show ∀ a b : Int, a + b - a = b from fun a b => by omega, show ∀ a : Int, a - 1 * a = 0 from fun a => by omega] at g3
          rw [g3, oneF, if_neg (by omega)]
        · exact hlow k h
  obtain ⟨h1, h2⟩ := key d (Nat.le_refl d)
  refine h1.symm.trans (eqm.trans (eqm.cv (f' := oneF) (fun k hk => h2 k hk) eqm.rfl') (eqm.of_eq (cv_one_left _)))
theorem bkF_b {m : Int} (hm : 1 < m) (el : List Int) {l : List Int} {d : Nat} (hl : l.length = d + 1) (ha : ∀ x ∈ l, 0 ≤ x ∧ x < m) : ∀ x ∈ bkL m el l d, 0 ≤ x ∧ x < m := fun x hx => by
  obtain ⟨i, _, rfl⟩ := mem_tab.1 hx
  exact at_bound (bkR_facts hm el hl ha i).2 (by omega) _
theorem list_of_mod {m : Int} {n : Nat} {a b : List Int} (hla : a.length = n) (hlb : b.length = n) (ha : ∀ x ∈ a, 0 ≤ x ∧ x < m) (hb : ∀ x ∈ b, 0 ≤ x ∧ x < m) (hm : 0 < m) (h : ∀ i, i < n → at' a i % m = at' b i % m) : a = b := by
  rw [← tab_self a, ← tab_self b, hla, hlb]
  refine tab_congr fun i hi => ?_
  have h1 := h i hi
  have h2 := at_bound ha hm i
  have h3 := at_bound hb hm i
  rwa [Int.emod_eq_of_lt h2.1 h2.2, Int.emod_eq_of_lt h3.1 h3.2] at h1
/-- Big vectors are made of their blocks. -/
theorem bob_back {p : Nat} {m : Int} {l : List Int} (hp : IsP p) (hm : 1 < m) (hpw : powB p m.toNat = true) (hl : l.length ≤ 10) (ha : ∀ x ∈ l, 0 ≤ x ∧ x < m) : bkL m (ahL p m l.length) (bobL m (ahL p m l.length) l l.length l.length) l.length = l := by
  obtain ⟨a, ha1, hma⟩ := powB_pow hp.b.1 (by omega) hpw
  rw [Int.toNat_of_nonneg (by omega)] at hma
  obtain ⟨e, E, hA⟩ := AH.some hp a
  have he := eqm_ahL hA hp hma (Nat.le_refl a) hl
  have hf := bobL_facts hm (ahL p m l.length) l l.length l.length
  have h1 := eqm_bobL (l := l) he l.length
  have h0 : at' (bobL m (ahL p m l.length) l l.length l.length) 0 = 1 := by
    have g1 := h1 0 (by omega)
    have g2 := at_bound hf.2 (by omega) 0
    rw [oE_zero hA.e0, Int.emod_eq_of_lt g2.1 g2.2, Int.emod_eq_of_lt (by omega) hm] at g1
    exact g1
  have h2 := bkL_back he hA.e0 hA.e1 hm h0
  exact list_of_mod (bkL_length _ _ _ _) rfl (bkF_b hm _ hf.1 hf.2) ha (by omega) (oE_inj hA.e0 hA.e1 (h2.symm.trans h1))
-- exponentials of Witt vectors
def xW (p : Nat) (l : List Int) (r j : Nat) : Int := sm r (fun t => if p ^ t = j + 1 then at' l t else 0)
theorem xW_at {p r t : Nat} (hp : 2 ≤ p) (l : List Int) (h : t < r) : xW p l r (p ^ t - 1) = at' l t := by
  have hpos : ∀ t, 0 < p ^ t := fun t => Nat.pow_pos (by omega)
  have h1 : p ^ t - 1 + 1 = p ^ t := by have := hpos t; omega
  rw [xW, h1, sm_one h, if_pos rfl]
  intro i hi hne
  rw [if_neg]
  intro e
  exact hne (pw_inj hp e)
theorem xW_off {p r j : Nat} (l : List Int) (h : ∀ t, t < r → p ^ t ≠ j + 1) : xW p l r j = 0 := sm_zero fun i hi => if_neg (h i hi)
theorem eqm_expL {m : Int} {p d : Nat} (hp : 2 ≤ p) {el l : List Int} {e : Nat → Int} (he : eqm m d (at' el) e) (e0 : e 0 = 1) : ∀ k, eqm m d (at' (expL m el l p d k)) (oE e (xW p l k) d)
  | 0 => by
    have h : oE e (xW p l 0) d = oneF := by
      clear he
      induction d with
      | zero => rfl
      | succ d ih => rw [oE, ih, show xW p l 0 d = 0 from rfl, bE_null e0 (by omega), cv_one_left]
    rw [h]; exact eqm_one m d
  | k + 1 => by
    have ih := eqm_expL hp (l := l) he e0 k
    have hpos : 0 < p ^ k := Nat.pow_pos (by omega)
    unfold expL
    split
    · rename_i hk
      have hins := oE_ins (e := e) e0 (x := xW p l k) (y := xW p l (k + 1)) (j := p ^ k - 1) (v := at' l k)
        (xW_off l fun t ht h => by
          rw [show p ^ k - 1 + 1 = p ^ k by omega] at h
          have := pw_inj hp h
          omega)
        (xW_at hp l (by omega))
        (fun i hi => by
          show sm (k + 1) _ = sm k _
          rw [sm, if_neg (by omega), Int.add_zero]) d (by omega)
      rw [hins, show p ^ k - 1 + 1 = p ^ k by omega]
      exact (eqm_times _ _ _ _).trans (ih.cv (eqm_blL he))
    · rename_i hk
      rw [oE_upto (y := xW p l k) (fun i hi => by
        show sm (k + 1) _ = sm k _
        rw [sm, if_neg (by omega), Int.add_zero])]
      exact ih
/-- The components of a sum of Witt vectors. -/
def awG (w : Int) (p : Nat) (x y : List Int) (j : Nat) : Int := (ghI p (at' x) j % w + ghI p (at' y) j % w) % w
def awL (m : Int) (p : Nat) (x y : List Int) (r : Nat) : List Int := (wgL (m * (p : Int) ^ 4) p (awG (m * (p : Int) ^ 4) p x y) r).map (fun s => s % m)
theorem awL_length (m : Int) (p : Nat) (x y : List Int) (r : Nat) : (awL m p x y r).length = r := by rw [awL, List.length_map, wgL_length]
theorem awL_at (m : Int) (p : Nat) (x y : List Int) {r i : Nat} (h : i < r) : at' (awL m p x y r) i = at' (wgL (m * (p : Int) ^ 4) p (awG (m * (p : Int) ^ 4) p x y) (i + 1)) i % m := by
  rw [← wgL_pre _ _ _ h, awL, at', at', List.getD_eq_getElem?_getD, List.getD_eq_getElem?_getD, List.getElem?_map]
  rw [List.getElem?_eq_getElem (by rw [wgL_length]; exact h)]
  rfl
theorem ghI_congr {p j : Nat} {m : Int} {x y : Nat → Int} (h : ∀ t, t ≤ j → x t % m = y t % m) : ghI p x j % m = ghI p y j % m := sm_emod fun t ht => emod_mul_congr rfl (pow_emod_congr (h t (by omega)) _)
theorem ghI_eq {p j : Nat} {x y : Nat → Int} (h : ∀ t, t ≤ j → x t = y t) : ghI p x j = ghI p y j := sm_congr fun t ht => by rw [h t (by omega)]
/-- Numbers whose ghost components are sums are the sum's components. -/
theorem awL_ok {p a r k : Nat} {m : Int} {x y : List Int} {z : Nat → Int} (hp : IsP p) (hm : m = (p : Int) ^ a) (ha : 1 ≤ a) (hr : k < r) (hr4 : r ≤ 4) (hz : ∀ j, j ≤ k → ghI p z j % (p : Int) ^ (a + 4) = (ghI p (at' x) j + ghI p (at' y) j) % (p : Int) ^ (a + 4)) : at' (awL m p x y r) k % m = z k % m := by
  have hw : m * (p : Int) ^ 4 = (p : Int) ^ (a + 4) := by rw [hm, ← Int.pow_add]
  rw [awL_at _ _ _ _ hr, Int.emod_emod, hw]
  have h := wgL_ok (g := awG ((p : Int) ^ (a + 4)) p x y) (z := z) hp.b.1 ha (k := k) (by omega) (fun j hj => by
    rw [awG, Int.emod_emod, ← Int.add_emod, ← hz j hj])
  exact dvd_iff.1 (Int.dvd_trans (by rw [hm]; exact pw_dvd (by omega)) h)
theorem Gh.mono {d b : Nat} {f G : Nat → Int} (h : Gh d f G) (hb : b ≤ d) : Gh b f G := fun k hk => h k (by omega)
theorem pwQ_one (p : Nat) : pwQ p 1 = true := pwQ_iff.2 ⟨0, by omega, rfl⟩
/-- Away from the powers of p: blocks without such numbers have no ghost component there. -/
theorem gE_zero {p N d r k : Nat} {e E : Nat → Int} (hA : AH p N e E) (l : List Int) (h1 : 1 ≤ k) (h2 : k ≤ 10) (hk : ∀ t, p ^ t ≠ k) : gE E (xW p l r) d k % (p : Int) ^ N = 0 := by
  rw [gE_mod hA _ d h1 h2, sm_zero, Int.zero_emod]
  intro i hi
  split
  · rename_i hc
    obtain ⟨s, hs4, hs⟩ := pwQ_iff.1 hc.2
    have h3 := Nat.div_add_mod k (i + 1)
    rw [hc.1, hs, Nat.add_zero] at h3
    have h0 : xW p l r i = 0 := xW_off l fun t ht e => hk (t + s) (by rw [Nat.pow_add, e, h3])
    rw [h0, Int.zero_pow, Int.mul_zero]
    intro e0
    have := Nat.div_add_mod k (i + 1)
    rw [hc.1, e0] at this
    omega
  · rfl
/-- .. and then the numbers away from the powers of p vanish modulo many powers. -/
theorem off_zero {p N d : Nat} {e E z : Nat → Int} (hA : AH p N e E) (hp : IsP p) (hd : d ≤ 10) (hN : 30 ≤ N) (hg : ∀ k, 1 ≤ k → k ≤ d → (∀ t, p ^ t ≠ k) → gE E z d k % (p : Int) ^ N = 0) :
    ∀ j, j < d → (∀ t, p ^ t ≠ j + 1) → (p : Int) ^ (N - 3 * (j + 1)) ∣ z j := by
  intro j
  induction j using Nat.strongRecOn with
  | _ j ih =>
    intro hj hne
    have h1 := hg (j + 1) (by omega) (by omega) hne
    rw [gE_mod hA z d (by omega) (by omega)] at h1
    have h2 := Int.dvd_trans (pw_dvd (p := (p : Int)) (a := N - 3 * j) (b := N) (by omega)) (Int.dvd_of_emod_eq_zero h1)
    rw [sm_tail (c := j + 1) (by omega) (fun i h3 h4 => if_neg (fun hc => by
      have := Nat.mod_eq_of_lt (a := j + 1) (b := i + 1) (by omega)
      omega)), sm, Nat.mod_self, Nat.div_self (by omega), if_pos ⟨rfl, pwQ_one p⟩, Int.pow_one] at h2
    have h3 : (p : Int) ^ (N - 3 * j) ∣ sm j (fun i => if (j + 1) % (i + 1) = 0 ∧ pwQ p ((j + 1) / (i + 1)) = true then ((i + 1 : Nat) : Int) * z i ^ ((j + 1) / (i + 1)) else 0) := by
      refine Int.dvd_of_emod_eq_zero ?_
      rw [sm_emod (g := fun _ => 0) (fun i hi => ?_), sm_zero (fun _ _ => rfl), Int.zero_emod]
      rw [Int.zero_emod]
      split
      · rename_i hc
        obtain ⟨s, hs4, hs⟩ := pwQ_iff.1 hc.2
        have h4 := Nat.div_add_mod (j + 1) (i + 1)
        rw [hc.1, hs, Nat.add_zero] at h4
        have h5 := ih i hi (by omega) (fun t et => hne (t + s) (by rw [Nat.pow_add, et, h4]))
        refine Int.emod_eq_zero_of_dvd (Int.dvd_trans (pw_dvd (b := N - 3 * (i + 1)) (by omega)) ?_)
        refine Int.dvd_mul_of_dvd_right ?_
        rw [show (j + 1) / (i + 1) = (j + 1) / (i + 1) - 1 + 1 by
          have : (j + 1) / (i + 1) ≠ 0 := fun e0 => by rw [e0] at hs; have := Nat.pow_pos (n := s) (show 0 < p by have := hp.b; omega); omega
          omega, Int.pow_succ]
        exact Int.dvd_mul_of_dvd_right h5
      · exact Int.zero_emod _
    have h4 : (p : Int) ^ (N - 3 * (j + 1) + 3) ∣ ((j + 1 : Nat) : Int) * z j := by
      rw [show N - 3 * (j + 1) + 3 = N - 3 * j by omega]
      have := Int.dvd_sub h2 h3
      rwa [show ∀ x y : Int, x + y - x = y from fun x y => by omega] at this
    exact small_cancel hp (by omega) (by omega) h4
/-- Exponentials of sums of Witt vectors are products in low degrees. -/
theorem exp_add {p d r k : Nat} {m : Int} {x y : List Int} (hp : IsP p) (hm : 1 < m) (hpw : powB p m.toNat = true) (hd : d ≤ 10) (hr : r ≤ 4) (hk : k ≤ d) (hkr : k < p ^ r) :
    at' (timesL m (expL m (ahL p m d) x p d r) (expL m (ahL p m d) y p d r) d) k = at' (expL m (ahL p m d) (awL m p x y r) p d r) k := by
  have hb := hp.b
  obtain ⟨a, ha1, hma⟩ := powB_pow hb.1 (by omega) hpw
  rw [Int.toNat_of_nonneg (by omega)] at hma
  obtain ⟨e, E, hA⟩ := AH.some hp (a + 40)
  have he := eqm_ahL hA hp hma (by omega) hd
  have f1 := eqm_expL hb.1 (l := x) he hA.e0 r
  have f2 := eqm_expL hb.1 (l := y) he hA.e0 r
  have f3 := eqm_expL hb.1 (l := awL m p x y r) he hA.e0 r
  obtain ⟨z, hz⟩ := oE_of hA.e0 hA.e1 (cv (oE e (xW p x r) d) (oE e (xW p y r) d)) (by rw [cv, sm, sm, oE_zero hA.e0, oE_zero hA.e0]; rfl) d
  have hg := gE_mul hA.e0 (hA.gh.mono hd) hz
  have hoff := off_zero hA hp hd (by omega) (fun k h1 h2 h3 => by
    rw [hg k h1 h2, Int.add_emod, gE_zero hA x h1 (by omega) h3, gE_zero hA y h1 (by omega) h3]; rfl)
  have hon : ∀ j, j < r → p ^ j ≤ d → at' (awL m p x y r) j % m = z (p ^ j - 1) % m := by
    intro j hj hjd
    refine awL_ok (z := fun t => z (p ^ t - 1)) hp hma ha1 hj hr fun i hi => ?_
    have hpi : p ^ i ≤ d := Nat.le_trans (Nat.pow_le_pow_right (by omega) hi) hjd
    have hn1 : (1 : Nat) % p ≠ 0 := by rw [Nat.mod_eq_of_lt (by omega)]; omega
    have g0 := gE_gh hA hp z (n := 1) (j := i) (Nat.le_refl 1) hn1 (by omega) hd
    have g1 := gE_gh hA hp (xW p x r) (n := 1) (j := i) (d := d) (Nat.le_refl 1) hn1 (by omega) hd
    have g2 := gE_gh hA hp (xW p y r) (n := 1) (j := i) (d := d) (Nat.le_refl 1) hn1 (by omega) hd
    simp only [Nat.one_mul, Int.natCast_one, Int.one_mul] at g0 g1 g2
    rw [ghI_eq (y := at' x) (fun t ht => xW_at hb.1 x (by omega))] at g1
    rw [ghI_eq (y := at' y) (fun t ht => xW_at hb.1 y (by omega))] at g2
    have h3 := hg (p ^ i) (Nat.pow_pos (by omega)) hpi
    refine emod_of_dvd (m := (p : Int) ^ (a + 40)) ?_ (pw_dvd (by omega))
    rw [← g0, h3]
    exact emod_add_congr g1 g2
  have hR : at' (expL m (ahL p m d) (awL m p x y r) p d r) k % m = oE e z d k % m := by
    rw [f3 k hk]
    obtain ⟨b, rfl⟩ : ∃ b, d = k + b := ⟨d - k, by omega⟩
    rw [oE_stay hA.e0 _ (Nat.le_refl k), oE_stay hA.e0 _ (Nat.le_refl k)]
    refine oE_congr (d := k) (e := e) (f := e) eqm.rfl' (c := k) (fun j hj => ?_) k (Nat.le_refl k)
    by_cases g : ∃ t, p ^ t = j + 1
    · obtain ⟨t, ht⟩ := g
      have htr : t < r := by
        apply Nat.lt_of_not_le
        intro h
        have := Nat.pow_le_pow_right (n := p) (by omega) h
        omega
      rw [show j = p ^ t - 1 by omega, xW_at hb.1 _ htr]
      exact hon t htr (by omega)
    · rw [xW_off _ (fun t _ ht => g ⟨t, ht⟩), Int.zero_emod]
      refine (Int.emod_eq_zero_of_dvd (Int.dvd_trans ?_ (hoff j (by omega) (fun t ht => g ⟨t, ht⟩)))).symm
      rw [hma]; exact pw_dvd (by omega)
  have hL : at' (timesL m (expL m (ahL p m d) x p d r) (expL m (ahL p m d) y p d r) d) k % m = oE e z d k % m := by
    rw [eqm_times _ _ _ _ k hk, hz k hk]
    exact (f1.cv f2) k hk
  have b1 := at_bound (timesL_num m (expL m (ahL p m d) x p d r) (expL m (ahL p m d) y p d r) d (by omega)) (by omega) k
  have b2 := at_bound (expL_facts hm (ahL p m d) (awL m p x y r) p d r).2 (by omega) k
  rw [Int.emod_eq_of_lt b1.1 b1.2] at hL
  rw [Int.emod_eq_of_lt b2.1 b2.2] at hR
  rw [hL, hR]
-- Witt vectors of big vectors
theorem wbL_at {p d : Nat} (b : List Int) : ∀ (f k i : Nat), i < (wbL b p d f k).length → at' (wbL b p d f k) i = at' b (k * p ^ i - 1) ∧ k * p ^ i ≤ d ∧ i < f
  | 0, k, i, h => by simp [wbL] at h
  | f + 1, k, i, h => by
    unfold wbL at h ⊢
    split at h
    · rename_i hk
      rw [if_pos hk]
      cases i with
      | zero => exact ⟨by rw [Nat.pow_zero, Nat.mul_one]; rfl, by rw [Nat.pow_zero, Nat.mul_one]; exact hk, by omega⟩
      | succ i =>
        have h1 := wbL_at b f (k * p) i (by simpa using h)
        have e : k * p * p ^ i = k * p ^ (i + 1) := by rw [Nat.pow_succ, Nat.mul_assoc, Nat.mul_comm p]
        rw [e] at h1
        exact ⟨h1.1, h1.2.1, by omega⟩
    · simp at h
theorem wbL_same {p d : Nat} (b c : List Int) : ∀ f k, (wbL b p d f k).length = (wbL c p d f k).length
  | 0, _ => rfl
  | f + 1, k => by
    unfold wbL
    split
    · rw [List.length_cons, List.length_cons, wbL_same b c f]
    · rfl
theorem wbL_b {p d : Nat} {m : Int} {b : List Int} (hm : 0 < m) (hb : ∀ x ∈ b, 0 ≤ x ∧ x < m) (f k : Nat) : ∀ x ∈ wbL b p d f k, 0 ≤ x ∧ x < m := fun x hx => by
  obtain ⟨i, hi, rfl⟩ := List.mem_iff_getElem.1 hx
  have h := (wbL_at b f k i hi).1
  rw [at', List.getD_eq_getElem?_getD, List.getElem?_eq_getElem hi, Option.getD_some] at h
  rw [h]
  exact at_bound hb hm _
theorem awL_b {m : Int} (hm : 0 < m) (p : Nat) (x y : List Int) (r : Nat) : ∀ z ∈ awL m p x y r, 0 ≤ z ∧ z < m := fun z hz => by
  unfold awL at hz
  obtain ⟨s, _, rfl⟩ := List.mem_map.1 hz
  exact emod_b _ m hm
theorem gcd_np {p n : Nat} (hp : IsP p) (hn : n < 11) (h : n % p ≠ 0) : Nat.gcd p n = 1 := by
  revert h
  rcases hp with rfl | rfl | rfl | rfl <;> revert n <;> decide +kernel
/-- Witt vectors of sums of big vectors are sums of theirs. -/
theorem wob_add {p d n : Nat} {m : Int} {a b : List Int} (hp : IsP p) (hm : 1 < m) (hpw : powB p m.toNat = true) (hd : d ≤ 10) (ha : numL m d a) (hb : numL m d b) (ha0 : at' a 0 = 1) (hb0 : at' b 0 = 1) (hn : 1 ≤ n) (hnd : n ≤ d) (hnp : n % p ≠ 0) :
    wbL (bkL m (ahL p m d) (timesL m a b d) d) p d 4 n = awL m p (wbL (bkL m (ahL p m d) a d) p d 4 n) (wbL (bkL m (ahL p m d) b d) p d 4 n) (wbL (bkL m (ahL p m d) a d) p d 4 n).length := by
  have hpb := hp.b
  obtain ⟨c, hc1, hmc⟩ := powB_pow hpb.1 (by omega) hpw
  rw [Int.toNat_of_nonneg (by omega)] at hmc
  obtain ⟨e, E, hA⟩ := AH.some hp (c + 40)
  have he := eqm_ahL hA hp hmc (by omega) hd
  have f1 := bkL_back he hA.e0 hA.e1 hm ha0
  have f2 := bkL_back he hA.e0 hA.e1 hm hb0
  have hs0 : at' (timesL m a b d) 0 = 1 := by
    have g1 := eqm_times m a b d 0 (by omega)
    have g2 := at_bound (timesL_num m a b d (by omega)) (by omega) 0
    rw [cv, sm, sm, ha0, hb0, Int.emod_eq_of_lt g2.1 g2.2] at g1
    rw [g1]
    simp only [Int.mul_one, Int.zero_add]
    exact Int.emod_eq_of_lt (by omega) hm
  have f3 := bkL_back he hA.e0 hA.e1 hm hs0
  obtain ⟨z, hz⟩ := oE_of hA.e0 hA.e1 (cv (oE e (at' (bkL m (ahL p m d) a d)) d) (oE e (at' (bkL m (ahL p m d) b d)) d)) (by rw [cv, sm, sm, oE_zero hA.e0, oE_zero hA.e0]; rfl) d
  have hg := gE_mul hA.e0 (hA.gh.mono hd) hz
  have hzs : ∀ i, i < d → at' (bkL m (ahL p m d) (timesL m a b d) d) i % m = z i % m := oE_inj hA.e0 hA.e1 (f3.symm.trans ((eqm_times m a b d).trans ((f1.cv f2).trans fun k hk => by rw [hz k hk])))
  have hX := fun i (hi : i < (wbL (bkL m (ahL p m d) a d) p d 4 n).length) => wbL_at (bkL m (ahL p m d) a d) 4 n i hi
  have hlen := wbL_same (p := p) (d := d) (bkL m (ahL p m d) a d) (bkL m (ahL p m d) b d) 4 n
  have hlen2 := wbL_same (p := p) (d := d) (bkL m (ahL p m d) (timesL m a b d) d) (bkL m (ahL p m d) a d) 4 n
  refine list_of_mod hlen2 (awL_length _ _ _ _ _) (wbL_b (by omega) (bkF_b hm _ (timesL_length _ _ _ _) (timesL_num _ _ _ _ (by omega))) _ _) (awL_b (by omega) _ _ _ _) (by omega) (fun i hi => ?_)
  have h1 := wbL_at (p := p) (d := d) (bkL m (ahL p m d) (timesL m a b d) d) 4 n i (by rw [hlen2]; exact hi)
  have hpos : ∀ t, 0 < p ^ t := fun t => Nat.pow_pos (by omega)
  have hnt : ∀ t, 0 < n * p ^ t := fun t => Nat.mul_pos hn (hpos t)
  have h5 := hnt i
  rw [h1.1, hzs _ (by omega)]
  refine (awL_ok (z := fun t => z (n * p ^ t - 1)) hp hmc hc1 hi (wbL_len _ _ _ _ _) fun j hj => ?_).symm
  have hji : n * p ^ j ≤ d := Nat.le_trans (Nat.mul_le_mul_left n (Nat.pow_le_pow_right (by omega) hj)) h1.2.1
  have g0 := gE_gh hA hp z hn hnp hji hd
  have g1 := gE_gh hA hp (at' (bkL m (ahL p m d) a d)) hn hnp hji hd
  have g2 := gE_gh hA hp (at' (bkL m (ahL p m d) b d)) hn hnp hji hd
  rw [ghI_eq (y := at' (wbL (bkL m (ahL p m d) a d) p d 4 n)) (fun t ht => (wbL_at (p := p) (d := d) (bkL m (ahL p m d) a d) 4 n t (by omega)).1.symm)] at g1
  rw [ghI_eq (y := at' (wbL (bkL m (ahL p m d) b d) p d 4 n)) (fun t ht => (wbL_at (p := p) (d := d) (bkL m (ahL p m d) b d) 4 n t (by omega)).1.symm)] at g2
  have h3 := hg (n * p ^ j) (hnt j) hji
  refine emod_of_dvd (m := (p : Int) ^ (c + 40)) ?_ (pw_dvd (by omega))
  refine unit_cancel2 (u := (n : Int)) (inv_pw (by omega) (gcd_np hp (by omega) hnp) (c + 40)) ?_
  rw [← g0, h3, Int.mul_add]
  exact emod_add_congr g1 g2
end Go.Proofs.YtdnaecmcbkfpaaaGreat
