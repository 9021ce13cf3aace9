/-
  Plain laws: structure, Hasse's coefficient, twists and invariants of curves. No program.
-/
import Derived.Test.YtoooefcjkmfhoaaXg
import Derived.Test.YtoooefcjkmfhoaaEk
import Derived.Test.YtoooefcjkmfhoaaEf
import Derived.Test.YtoooefcjkmfhoaaEf
import Derived.Test.YtoooefcjkmfhoaaEh
namespace Go.Proofs.Ytoooefcjkmfhoaa
open Go.RowKit
set_option linter.unusedSimpArgs false
set_option linter.unusedVariables false
set_option linter.unusedSectionVars false
set_option maxRecDepth 20000
-- Plain laws: structure, Hasse's coefficient, twists and invariants of curves. No program.
theorem okN_facts {p n e : Nat} (hp : p ≤ 97) (h : okN p n e = true) : ((p : Int) + 1 - n) * ((p : Int) + 1 - n) ≤ 4 * p ∧ 1 ≤ e ∧ e ∣ n ∧ n / e ∣ e ∧ n ≤ 120 := by
  simp only [okN, Bool.and_eq_true, Bool.not_eq_true'] at h
  obtain ⟨⟨⟨h1, h2⟩, h3⟩, h4⟩ := h
  have h1 := Nat.le_of_ble_eq_true h1
  have h2 : e ≠ 0 := fun g => by subst g; simp at h2
  have h3 := Nat.dvd_of_mod_eq_zero (Nat.eq_of_beq_eq_true h3)
  have h4 := Nat.dvd_of_mod_eq_zero (Nat.eq_of_beq_eq_true h4)
  have hsq : ((p : Int) + 1 - n) * ((p : Int) + 1 - n) ≤ 4 * p := by
    rcases Nat.le_total n (p + 1) with g | g
    · obtain ⟨k, hk⟩ : ∃ k, p + 1 = n + k := ⟨p + 1 - n, by omega⟩
      rw [show p + 1 - n = k by omega, show n - (p + 1) = 0 by omega] at h1
      have : (p : Int) + 1 - n = k := by omega
      rw [this, ← Int.natCast_mul]
      omega
    · obtain ⟨k, hk⟩ : ∃ k, n = p + 1 + k := ⟨n - (p + 1), by omega⟩
      rw [show p + 1 - n = 0 by omega, show n - (p + 1) = k by omega] at h1
      have : (p : Int) + 1 - n = -k := by omega
      rw [this, Int.neg_mul_neg, ← Int.natCast_mul]
      omega
  refine ⟨hsq, by omega, h3, h4, ?_⟩
  refine Classical.byContradiction fun g => ?_
  have h5 : n - (p + 1) ≥ 21 := by omega
  have : 21 * 21 ≤ (n - (p + 1)) * (n - (p + 1)) := Nat.mul_le_mul h5 h5
  omega
theorem good_of {p a b : Int} (hc : codeE p a b = 0) : ∃ (h : fieldB p = true) (hd : disc p a b ≠ 0) (e : Nat) (P : Ept p a b), (abE h hd).Ord P e ∧ okN p.toNat (ptsL p a b).length e = true := by
  obtain ⟨h, _, _, h1, h1', h2, h2', hd⟩ := codeE_zero hc
  have hp := fieldB_facts h
  obtain ⟨q, rfl⟩ := Int.eq_ofNat_of_zero_le (show 0 ≤ p by omega)
  obtain ⟨a', rfl⟩ := Int.eq_ofNat_of_zero_le h1
  obtain ⟨b', rfl⟩ := Int.eq_ofNat_of_zero_le h2
  obtain ⟨e, P, g1, g2⟩ := good_all h (show a' < q by omega) (show b' < q by omega) h hd
  exact ⟨h, hd, e, P, g1, g2⟩
theorem most_facts {p a b : Int} (h : fieldB p = true) (hd : disc p a b ≠ 0) (L : List (List Int)) (hL : ∀ l ∈ L, hasB p a b l = true) : ∀ k, k ≤ L.length →
    (∃ P : Ept p a b, (abE h hd).Ord P (mostN p a L k)) ∧ ∀ i, i < k → ordN p a (L.getD i []) + 1 ≤ mostN p a L k
  | 0, _ => ⟨⟨(abE h hd).zero, ⟨Nat.le_refl 1, rfl, fun k h1 h2 => absurd (show k < 1 from h2) (by omega)⟩⟩, fun i hi => by omega⟩
  | k + 1, hk => by
    obtain ⟨⟨P, h1⟩, h2⟩ := most_facts h hd L hL k (by omega)
    have hm : L.getD k [] ∈ L := by
      rw [List.getD_eq_getElem?_getD, List.getElem?_eq_getElem (by omega), Option.getD_some]
      exact List.getElem_mem _
    simp only [mostN]
    refine ⟨?_, fun i hi => ?_⟩
    · rcases Nat.le_total (mostN p a L k) (ordN p a (L.getD k []) + 1) with g | g
      · rw [Nat.max_eq_right g]
        exact ⟨⟨L.getD k [], hL _ hm⟩, ord_E h hd ⟨L.getD k [], hL _ hm⟩⟩
      · rw [Nat.max_eq_left g]
        exact ⟨P, h1⟩
    · by_cases g : i = k
      · subst g; exact Nat.le_max_right ..
      · exact Nat.le_trans (h2 i (by omega)) (Nat.le_max_left ..)
/-- The structure of a curve, and the bound of its trace. -/
theorem struct_facts {p a b : Int} (hc : codeE p a b = 0) : ∀ n M, (ptsL p a b).length = n → mostN p a (ptsL p a b) n = M →
    (p + 1 - (n : Int)) * (p + 1 - (n : Int)) ≤ 4 * p ∧ n / M * M = n ∧ 1 ≤ n / M ∧ M % (n / M) = 0 ∧ n ≤ 120 ∧ 1 ≤ M := by
  intro n M hn hMn
  obtain ⟨h, hd, e, P, h1, h2⟩ := good_of hc
  have hp := fieldB_facts h
  obtain ⟨f1, f2, f3, f4, f5⟩ := okN_facts (by omega) h2
  rw [Int.toNat_of_nonneg (by omega)] at f1
  obtain ⟨⟨Q, g1⟩, g2⟩ := most_facts h hd (ptsL p a b) (ptsL_has (by omega)) (ptsL p a b).length (Nat.le_refl _)
  have hn0 : 1 ≤ (ptsL p a b).length := List.length_pos_of_mem (ptsL_mem (a := a) (b := b) h (l := []) rfl)
  have hM := ord_count h hd Q g1
  have hall : ∀ z k, (abE h hd).Ord z k → k ≤ mostN p a (ptsL p a b) (ptsL p a b).length := by
    intro z k hz
    have hu := hz.unique (ord_E h hd z)
    obtain ⟨i, hi, hi2⟩ := List.getElem_of_mem (ptsL_mem h z.2)
    have := g2 i hi
    rw [List.getD_eq_getElem?_getD, List.getElem?_eq_getElem hi, Option.getD_some, hi2] at this
    omega
  have hMle := Nat.le_of_dvd hn0 hM
  have hele := Nat.le_of_dvd hn0 f3
  have heM := g1.most h1 (by omega) (by omega) hall
  have hM1 := g1.pos
  rw [hn, hMn] at hM hMle hall heM hM1
  rw [hn] at f1 f3 f4 f5 hele hn0
  obtain ⟨x, hx⟩ := hM
  obtain ⟨k, hk⟩ := heM
  obtain ⟨y, hy⟩ := f3
  have e1 : n / M = x := by rw [hx, Nat.mul_div_cancel_left _ (by omega)]
  have e2 : n / e = y := by rw [hy, Nat.mul_div_cancel_left _ (by omega)]
  have hx1 : 1 ≤ x := Nat.pos_of_ne_zero fun g => by subst g; omega
  rw [e2] at f4
  have hyk : y = k * x := by
    have : e * y = e * (k * x) := by rw [← hy, hx, hk, Nat.mul_assoc]
    exact Nat.eq_of_mul_eq_mul_left (by omega) this
  refine ⟨f1, by rw [e1, hx, Nat.mul_comm], by omega, ?_, f5, hM1⟩
  rw [e1]
  refine Nat.mod_eq_zero_of_dvd ?_
  exact Nat.dvd_trans (Nat.dvd_trans ⟨k, by rw [hyk, Nat.mul_comm]⟩ f4) ⟨k, hk⟩
/-- The value of a power series that ends. -/
def evF (F : Nat → Int) (N : Nat) (x : Int) : Int := sm (N + 1) (fun k => F k * x ^ k)
theorem ev_tail {F : Nat → Int} {A N : Nat} (x : Int) (h : A ≤ N) (hF : ∀ n, A < n → F n = 0) : evF F N x = evF F A x :=
  sm_tail (by omega) (fun i h1 _ => by rw [hF i (by omega), Int.zero_mul])
theorem ev_cv {F G : Nat → Int} {A B : Nat} (x : Int) (hF : ∀ n, A < n → F n = 0) (hG : ∀ n, B < n → G n = 0) : evF (cv F G) (A + B) x = evF F A x * evF G B x := by
  have h1 : evF (cv F G) (A + B) x = sm (A + B + 1) (fun i => sm (i + 1) (fun j => F j * G (i - j) * x ^ i)) :=
    sm_congr fun i _ => (sm_mul_right _ _ _).symm
  rw [h1, sm_tri (A + B) (fun i j => F j * G (i - j) * x ^ i)]
  have h2 : sm (A + B + 1) (fun j => sm (A + B - j + 1) (fun k => F j * G (j + k - j) * x ^ (j + k))) = sm (A + B + 1) (fun j => F j * x ^ j * evF G B x) := by
    refine sm_congr fun j hj => ?_
    by_cases g : A < j
    · rw [hF j g]
      rw [sm_zero (fun i _ => by simp)]
      simp
    · have h3 : sm (A + B - j + 1) (fun k => F j * G (j + k - j) * x ^ (j + k)) = sm (A + B - j + 1) (fun k => F j * x ^ j * (G k * x ^ k)) := by
        refine sm_congr fun k _ => ?_
        rw [show j + k - j = k by omega, Int.pow_add]
        grind
      rw [h3, sm_mul]
      congr 1
      exact ev_tail x (by omega) hG
  rw [h2, sm_mul_right]
  congr 1
  exact ev_tail x (by omega) hF
theorem ev_cub (a b x : Int) : evF (at' (cubL a b)) 3 x = x * x * x + a * x + b := by
  simp only [evF, sm, cub0, cub1, cub2, cub3]
  grind
theorem ev_pow (a b x : Int) : ∀ m, evF (pwF (at' (cubL a b)) m) (3 * m) x = (x * x * x + a * x + b) ^ m
  | 0 => by simp [evF, sm, pwF, oneF]
  | m + 1 => by
    rw [pwF, show 3 * (m + 1) = 3 * m + 3 by omega, ev_cv x (cub_deg a b m) (fun n hn => cub4 a b (by omega)), ev_pow a b x m, ev_cub, Int.pow_succ]
/-- Sums of powers modulo a prime number. -/
def pwS (k : Nat) : Nat → Nat
  | 0 => 0
  | x + 1 => pwS k x + x ^ k
theorem pwS_all : ((List.range 98).all fun p => !(fieldB (p : Int)) || (List.range (3 * ((p - 1) / 2) + 1)).all fun k => Nat.beq (pwS k p % p) (bif Nat.beq k (p - 1) then p - 1 else 0)) = true := by decide +kernel
theorem sqn_all : ((List.range 98).all fun p => !(fieldB (p : Int)) || (List.range p).all fun v => Nat.beq (sqn p v % p) ((1 + v ^ ((p - 1) / 2)) % p)) = true := by decide +kernel
theorem field_of {p : Nat} {q : Nat → Bool} (hq : ((List.range 98).all fun p => !(fieldB (p : Int)) || q p) = true) (h : fieldB (p : Int) = true) : q p = true := by
  have hp := fieldB_facts h
  have h1 := List.all_eq_true.1 hq p (List.mem_range.2 (by omega))
  rw [h] at h1
  simpa using h1
theorem pwS_sm (k : Nat) : ∀ n, (pwS k n : Int) = sm n (fun x => (x : Int) ^ k)
  | 0 => rfl
  | n + 1 => by
    simp only [pwS, sm]
    rw [Int.natCast_add, pwS_sm k n, Int.natCast_pow]
theorem cS_sm {p a b : Nat} : ∀ n, (cS p a b n : Int) = 1 + sm n (fun x => (sqn p ((x * x * x + a * x + b) % p) : Int))
  | 0 => rfl
  | n + 1 => by
    simp only [cS, sm]
    rw [Int.natCast_add, cS_sm n]
    omega
/-- The trace is Hasse's coefficient modulo the prime number. -/
theorem hasse_trace {p a b : Int} (hc : codeE p a b = 0) : (p + 1 - ((ptsL p a b).length : Int) - hasseR p a b) % p = 0 := by
  obtain ⟨h, _, _, h1, h1', h2, h2', hd⟩ := codeE_zero hc
  have hp := fieldB_facts h
  obtain ⟨q, rfl⟩ := Int.eq_ofNat_of_zero_le (show 0 ≤ p by omega)
  obtain ⟨a', rfl⟩ := Int.eq_ofNat_of_zero_le h1
  obtain ⟨b', rfl⟩ := Int.eq_ofNat_of_zero_le h2
  have hm : 3 * ((q - 1) / 2) ≥ q - 1 := by omega
  rw [hasseR, if_pos hc, Int.toNat_natCast, pts_cS h, cS_sm]
  generalize hM : (q - 1) / 2 = m at *
  -- the sum of the tests is the sum of powers
  have e1 : sm q (fun x => (sqn q ((x * x * x + a' * x + b') % q) : Int)) % (q : Int) = sm q (fun x => 1 + ((x : Int) * x * x + a' * x + b') ^ m) % (q : Int) := by
    refine sm_emod fun x hx => ?_
    have hs := Nat.eq_of_beq_eq_true (List.all_eq_true.1 (field_of sqn_all h) ((x * x * x + a' * x + b') % q) (List.mem_range.2 (Nat.mod_lt _ (by omega))))
    rw [hM] at hs
    rw [← Int.natCast_emod, hs, Nat.add_mod, ← Nat.pow_mod, ← Nat.add_mod, Int.natCast_emod]
    congr 1
  have e2 : sm q (fun x => 1 + ((x : Int) * x * x + a' * x + b') ^ m) = q + sm q (fun x => sm (3 * m + 1) (fun k => pwF (at' (cubL (a' : Int) b')) m k * (x : Int) ^ k)) := by
    rw [sm_add]
    congr 1
    · have : ∀ n : Nat, sm n (fun _ => (1 : Int)) = n := by
        intro n
        induction n with
        | zero => rfl
        | succ n ih => simp only [sm, ih]; omega
      exact this q
    · exact sm_congr fun x _ => (ev_pow (a' : Int) b' x m).symm
  have e3 : sm q (fun x => sm (3 * m + 1) (fun k => pwF (at' (cubL (a' : Int) b')) m k * (x : Int) ^ k)) = sm (3 * m + 1) (fun k => pwF (at' (cubL (a' : Int) b')) m k * (pwS k q : Int)) := by
    rw [sm_swap]
    refine sm_congr fun k _ => ?_
    rw [sm_mul, pwS_sm]
  have e4 : sm (3 * m + 1) (fun k => pwF (at' (cubL (a' : Int) b')) m k * (pwS k q : Int)) % (q : Int) = sm (3 * m + 1) (fun k => if k = q - 1 then pwF (at' (cubL (a' : Int) b')) m k * (q - 1) else 0) % (q : Int) := by
    refine sm_emod fun k hk => ?_
    have hs := Nat.eq_of_beq_eq_true (List.all_eq_true.1 (field_of pwS_all h) k (List.mem_range.2 (by rw [hM]; exact hk)))
    by_cases g : k = q - 1
    · subst g
      rw [Nat.beq_refl, cond_true] at hs
      rw [if_pos rfl]
      refine eqp_iff.1 (eqp_mul_left _ (eqp_iff.2 ?_))
      rw [← Int.natCast_emod, hs, Int.emod_eq_of_lt (by omega) (by omega)]
      omega
    · rw [beq_f g, cond_false] at hs
      rw [if_neg g, Int.mul_emod, ← Int.natCast_emod, hs]
      simp
  have e5 : sm (3 * m + 1) (fun k => if k = q - 1 then pwF (at' (cubL (a' : Int) b')) m k * ((q : Int) - 1) else 0) = pwF (at' (cubL (a' : Int) b')) m (q - 1) * ((q : Int) - 1) := by
    rw [sm_one (p := q - 1) (by omega) (fun i _ hi => by rw [if_neg hi]), if_pos rfl]
  rw [e2, e3, Int.add_emod, e4, e5, ← Int.add_emod] at e1
  generalize pwF (at' (cubL (a' : Int) b')) m (q - 1) = c at *
  generalize sm q (fun x => (sqn q ((x * x * x + a' * x + b') % q) : Int)) = S at *
  have e6 : (q : Int) ∣ S - (q + c * (q - 1)) := by
    have := eqp_iff.2 e1
    exact this
  refine Int.emod_eq_zero_of_dvd ?_
  have e7 := eqp_mod (q : Int) c
  have e : (q : Int) + 1 - (1 + S) - c % q = -1 * (S - (q + c * (q - 1))) + -1 * (c % q - c) + -c * (q : Int) := by grind
  rw [e]
  exact dvd3 _ _ _ e6 e7 (Int.dvd_refl _)
/-- A curve whose numbers are multiplied by the square and the cube of one number. -/
theorem disc_tw {p a b a' b' w : Int} (ha : eqp p a' (a * (w * w))) (hb : eqp p b' (b * (w * w * w))) : eqp p (4 * a' ^ 3 + 27 * b' ^ 2) ((w * w * w * w * w * w) * (4 * a ^ 3 + 27 * b ^ 2)) := by
  have e : 4 * a' ^ 3 + 27 * b' ^ 2 - (w * w * w * w * w * w) * (4 * a ^ 3 + 27 * b ^ 2) = (4 * (a' * a' + a' * (a * (w * w)) + (a * (w * w)) * (a * (w * w)))) * (a' - a * (w * w)) + (27 * (b' + b * (w * w * w))) * (b' - b * (w * w * w)) := by grind
  unfold eqp at *; rw [e]
  exact dvd2 _ _ ha hb
theorem disc_e (p a b : Int) : eqp p (disc p a b) (4 * a ^ 3 + 27 * b ^ 2) := eqp_mod p _
theorem disc_tw2 {p a b a' b' w : Int} (ha : eqp p a' (a * (w * w))) (hb : eqp p b' (b * (w * w * w))) : eqp p (disc p a' b') ((w * w * w * w * w * w) * disc p a b) :=
  eqp_trans (disc_e p a' b') (eqp_trans (disc_tw ha hb) (eqp_mul_left _ (eqp_symm (disc_e p a b))))
theorem disc_ne {p a b : Int} (hd : disc p a b ≠ 0) : ¬ eqp p (disc p a b) 0 := fun g => hd (disc_0.2 (eqp_trans (eqp_symm (disc_e p a b)) g))
theorem disc_tw_ne {p a b a' b' w : Int} (h : fieldB p = true) (hw : ¬ eqp p w 0) (ha : eqp p a' (a * (w * w))) (hb : eqp p b' (b * (w * w * w))) (hd : disc p a b ≠ 0) : disc p a' b' ≠ 0 := by
  intro g
  have h1 := eqp_symm (disc_tw2 ha hb)
  rw [g] at h1
  exact disc_ne hd (no_zero h (mul_ne h (mul_ne h (mul_ne h (mul_ne h (mul_ne h hw hw) hw) hw) hw) hw) h1)
theorem inv_tw {p a b a' b' w : Int} (ha : eqp p a' (a * (w * w))) (hb : eqp p b' (b * (w * w * w))) (hc : codeE p a b = 0) (hc' : codeE p a' b' = 0) : invR p a' b' = invR p a b := by
  obtain ⟨h, _, _, _, _, _, _, hd⟩ := codeE_zero hc
  obtain ⟨_, _, _, _, _, _, _, hd'⟩ := codeE_zero hc'
  rw [invR, invR, if_pos hc, if_pos hc']
  refine eqp_iff.1 (eqp_cancel h (disc_ne hd') ?_)
  have i1 := inv_mul h (ne_emod (disc_ne hd))
  have i2 := inv_mul h (ne_emod (disc_ne hd'))
  have h1 := disc_tw2 ha hb
  generalize invL p (disc p a b) = i at *
  generalize invL p (disc p a' b') = j at *
  generalize disc p a b = D at *
  generalize disc p a' b' = E at *
  have e : E * (6912 * a' ^ 3 * j) - E * (6912 * a ^ 3 * i) = (6912 * a' ^ 3) * (j * E - 1) + (6912 * (a' * a' + a' * (a * (w * w)) + (a * (w * w)) * (a * (w * w)))) * (a' - a * (w * w)) + (-6912 * a ^ 3 * i) * (E - (w * w * w * w * w * w) * D) + (-6912 * a ^ 3 * (w * w * w * w * w * w)) * (i * D - 1) := by grind
  unfold eqp at *; rw [e]
  exact Int.dvd_add (dvd3 _ _ _ i2 ha h1) (dvd1 _ i1)
theorem codeE_of {p a b : Int} (h : fieldB p = true) (ha : 0 ≤ a) (ha2 : a < p) (hb : 0 ≤ b) (hb2 : b < p) (hd : disc p a b ≠ 0) : codeE p a b = 0 := by
  have h1 : (isNum p a && isNum p b) = true := by rw [isNum_iff.2 ⟨ha, ha2⟩, isNum_iff.2 ⟨hb, hb2⟩]; rfl
  rw [codeE, if_pos h, if_pos h1, if_neg hd]
def smN (n : Nat) (F : Nat → Nat) : Nat := ((List.range n).map F).sum
theorem smN_succ (n : Nat) (F : Nat → Nat) : smN (n + 1) F = smN n F + F n := by simp [smN, List.range_succ]
theorem smN_add (F G : Nat → Nat) : ∀ n, smN n F + smN n G = smN n (fun x => F x + G x)
  | 0 => rfl
  | n + 1 => by rw [smN_succ, smN_succ, smN_succ, ← smN_add F G n]; omega
theorem smN_two : ∀ (n : Nat) (F : Nat → Nat), (∀ x, x < n → F x = 2) → smN n F = 2 * n
  | 0, _, _ => rfl
  | n + 1, F, h => by rw [smN_succ, smN_two n F (fun x hx => h x (by omega)), h n (by omega)]; omega
theorem smN_congr : ∀ (n : Nat) {F G : Nat → Nat}, (∀ x, x < n → F x = G x) → smN n F = smN n G
  | 0, _, _, _ => rfl
  | n + 1, F, G, h => by rw [smN_succ, smN_succ, smN_congr n (fun x hx => h x (by omega)), h n (by omega)]
theorem cS_smN (p a b : Nat) : ∀ n, cS p a b n = 1 + smN n (fun x => sqn p ((x * x * x + a * x + b) % p))
  | 0 => rfl
  | n + 1 => by rw [smN_succ, cS, cS_smN p a b n]; omega
theorem perm_all : ((List.range 98).all fun p => !(fieldB (p : Int)) || ((fun g => ((List.range p).map (fun x => g * x % p)).isPerm (List.range p)) (nsq p))) = true := by decide +kernel
theorem sqtw_all : ((List.range 98).all fun p => !(fieldB (p : Int)) || (fun g => (List.range p).all fun v => Nat.beq (sqn p (g * g * g * v % p) + sqn p v) 2) (nsq p)) = true := by decide +kernel
theorem tw_sum {p a b a' b' : Nat} (h : fieldB (p : Int) = true) (ha : eqp (p : Int) (a' : Int) ((a : Int) * ((nsq p : Int) * nsq p))) (hb : eqp (p : Int) (b' : Int) ((b : Int) * ((nsq p : Int) * nsq p * nsq p))) : cS p a b p + cS p a' b' p = 2 * p + 2 := by
  have hp := fieldB_facts h
  have h1 := List.isPerm_iff.1 (field_of perm_all h)
  have h2 := field_of sqtw_all h
  simp only at h1 h2
  generalize nsq p = g at *
  rw [cS_smN, cS_smN]
  have e1 : smN p (fun x => sqn p ((x * x * x + a' * x + b') % p)) = smN p (fun x => sqn p (g * g * g * ((x * x * x + a * x + b) % p) % p)) := by
    have e2 : smN p (fun x => sqn p ((x * x * x + a' * x + b') % p)) = (((List.range p).map (fun x => g * x % p)).map (fun x => sqn p ((x * x * x + a' * x + b') % p))).sum := ((h1.map _).sum_nat).symm
    rw [e2, List.map_map]
    refine smN_congr p fun x _ => ?_
    show sqn p _ = sqn p _
    congr 1
    apply Int.ofNat_inj.1
    simp only [Int.natCast_emod, Int.natCast_add, Int.natCast_mul]
    refine eqp_iff.1 ?_
    have m1 := eqp_mod (p : Int) ((g : Int) * x)
    have m2 := eqp_mod (p : Int) ((x : Int) * x * x + a * x + b)
    generalize ((g : Int) * x) % (p : Int) = X at *
    generalize ((x : Int) * x * x + a * x + b) % (p : Int) = V at *
    have e : X * X * X + (a' : Int) * X + b' - (g : Int) * g * g * V = (X * X + X * (g * x) + (g * x) * (g * x) + a') * (X - g * x) + ((g : Int) * x) * (a' - a * (g * g)) + 1 * (b' - b * (g * g * g)) + -((g : Int) * g * g) * (V - (x * x * x + a * x + b)) := by grind
    unfold eqp at *; rw [e]
    exact Int.dvd_add (dvd3 _ _ _ m1 ha hb) (dvd1 _ m2)
  rw [e1]
  have e3 := smN_add (fun x => sqn p ((x * x * x + a * x + b) % p)) (fun x => sqn p (g * g * g * ((x * x * x + a * x + b) % p) % p)) p
  have e4 := smN_two p (fun x => sqn p ((x * x * x + a * x + b) % p) + sqn p (g * g * g * ((x * x * x + a * x + b) % p) % p)) (fun x _ => by
    have := Nat.eq_of_beq_eq_true (List.all_eq_true.1 h2 ((x * x * x + a * x + b) % p) (List.mem_range.2 (Nat.mod_lt _ (by omega))))
    omega)
  omega
/-- The twist of a curve. -/
theorem tw_facts {p a b : Int} (hc : codeE p a b = 0) : codeE p (twA p a b) (twB p a b) = 0 ∧ (ptsL p a b).length + (ptsL p (twA p a b) (twB p a b)).length = 2 * p.toNat + 2 ∧ invR p (twA p a b) (twB p a b) = invR p a b := by
  obtain ⟨h, _, _, h1, h1', h2, h2', hd⟩ := codeE_zero hc
  have hp := fieldB_facts h
  obtain ⟨q, rfl⟩ := Int.eq_ofNat_of_zero_le (show 0 ≤ p by omega)
  obtain ⟨a', rfl⟩ := Int.eq_ofNat_of_zero_le h1
  obtain ⟨b', rfl⟩ := Int.eq_ofNat_of_zero_le h2
  have hn := nsq_facts h
  have eA : eqp (q : Int) (twA (q : Int) a' b') ((a' : Int) * ((nsq q : Int) * nsq q)) := by
    rw [twA, if_pos hc, twD, Int.toNat_natCast]
    refine eqp_iff.2 ?_
    rw [Int.emod_emod, Int.mul_emod, Int.emod_emod, ← Int.mul_emod]
    congr 1
    grind
  have eB : eqp (q : Int) (twB (q : Int) a' b') ((b' : Int) * ((nsq q : Int) * nsq q * nsq q)) := by
    rw [twB, if_pos hc, twD, Int.toNat_natCast]
    refine eqp_iff.2 ?_
    rw [Int.emod_emod, Int.mul_emod, Int.emod_emod, ← Int.mul_emod]
    congr 1
    grind
  have bA : 0 ≤ twA (q : Int) a' b' ∧ twA (q : Int) a' b' < q := by rw [twA, if_pos hc, twD]; exact emod_b _ _ (by omega)
  have bB : 0 ≤ twB (q : Int) a' b' ∧ twB (q : Int) a' b' < q := by rw [twB, if_pos hc, twD]; exact emod_b _ _ (by omega)
  have hw := nat_ne (p := q) (u := nsq q) hn.2.1 (by omega)
  have hc' := codeE_of h bA.1 bA.2 bB.1 bB.2 (disc_tw_ne h hw eA eB hd)
  refine ⟨hc', ?_, inv_tw eA eB hc hc'⟩
  generalize twA (q : Int) a' b' = A at *
  generalize twB (q : Int) a' b' = B at *
  obtain ⟨A, rfl⟩ := Int.eq_ofNat_of_zero_le bA.1
  obtain ⟨B, rfl⟩ := Int.eq_ofNat_of_zero_le bB.1
  rw [pts_cS h, pts_cS h, tw_sum h eA eB, Int.toNat_natCast]
/-- Isomorphic curves have one invariant and one trace. -/
theorem iso_facts {p a b c d : Int} (hc : codeE p a b = 0) (hc' : codeE p c d = 0) (hi : isoR p a b c d = true) : invR p a b = invR p c d ∧ (ptsL p a b).length = (ptsL p c d).length := by
  obtain ⟨h, _, _, h1, h1', h2, h2', hd⟩ := codeE_zero hc
  have hp := fieldB_facts h
  obtain ⟨u, hu, g⟩ := List.any_eq_true.1 hi
  have hu := List.mem_range.1 hu
  simp only [isoS, Bool.and_eq_true, decide_eq_true_eq, beq_iff_eq] at g
  obtain ⟨g1, g2, g3⟩ := g
  have hw : ¬ eqp p (u : Int) 0 := by
    have := nat_ne (p := p.toNat) (u := u) hu (by omega)
    rwa [Int.toNat_of_nonneg (by omega)] at this
  have eA : eqp p c (a * ((u : Int) * u * u * u)) := by
    rw [← g2]
    refine eqp_iff.2 ?_
    rw [Int.emod_emod, Int.mul_emod, Int.emod_emod, ← Int.mul_emod]
    congr 1
    grind
  have eB : eqp p d (b * ((u : Int) * u * u * u * u * u)) := by
    rw [← g3]
    refine eqp_iff.2 ?_
    rw [Int.emod_emod, Int.mul_emod, Int.emod_emod, ← Int.mul_emod]
    congr 1
    grind
  refine ⟨(inv_tw (w := (u : Int) * u) ?_ ?_ hc hc').symm, iso_len h hw eA eB⟩
  · rwa [show (u : Int) * u * (u * u) = u * u * u * u by grind]
  · rwa [show (u : Int) * u * (u * u) * (u * u) = u * u * u * u * u * u by grind]

end Go.Proofs.Ytoooefcjkmfhoaa
