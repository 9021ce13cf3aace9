/-
  Plain laws: Frobenius and Verschiebung operators of big vectors, coordinates that come back. No program.
-/
import Derived.Test.YtdnaecmcbkfpaaaGreatWr
namespace Go.Proofs.YtdnaecmcbkfpaaaGreat
open Go.RowKit
set_option linter.unusedSimpArgs false
set_option linter.unusedVariables false
set_option linter.unusedSectionVars false
set_option maxRecDepth 20000
-- Plain laws: Frobenius and Verschiebung operators of big vectors, coordinates that come back. No program.
def fZ (N d2 : Nat) (x : Nat → Int) : Nat → Nat → Int
  | 0 => oneF
  | c + 1 => if (c + 1) / Nat.gcd N (c + 1) ≤ d2 then cv (fZ N d2 x c) (pwF (gS (x c ^ (N / Nat.gcd N (c + 1))) ((c + 1) / Nat.gcd N (c + 1))) (Nat.gcd N (c + 1))) else fZ N d2 x c
theorem gcd_split (N c : Nat) (hN : 0 < N) (hc : 0 < c) : 0 < Nat.gcd N c ∧ 0 < c / Nat.gcd N c ∧ c / Nat.gcd N c * Nat.gcd N c = c ∧ N / Nat.gcd N c * Nat.gcd N c = N ∧ Nat.Coprime (c / Nat.gcd N c) (N / Nat.gcd N c) := by
  have hg : 0 < Nat.gcd N c := Nat.gcd_pos_of_pos_left _ hN
  refine ⟨hg, Nat.div_pos (Nat.le_of_dvd hc (Nat.gcd_dvd_right N c)) hg, Nat.div_mul_cancel (Nat.gcd_dvd_right N c), Nat.div_mul_cancel (Nat.gcd_dvd_left N c), ?_⟩
  have := Nat.coprime_div_gcd_div_gcd hg
  exact this.symm
/-- The ghost component of one factor. -/
theorem ghost_fro (x : Int) {N c k d2 : Nat} (hN : 0 < N) (hc : 0 < c) (h1 : 1 ≤ k) (hk : k ≤ d2) :
    (if c / Nat.gcd N c ≤ d2 then (Nat.gcd N c : Int) * gH (x ^ (N / Nat.gcd N c)) (c / Nat.gcd N c) k else 0) = gH x c (N * k) := by
  obtain ⟨g1, g2, g3, g4, g5⟩ := gcd_split N c hN hc
  generalize hg : Nat.gcd N c = g at *
  generalize hcg : c / g = q at *
  generalize hng : N / g = p at *
  by_cases h : q ∣ k
  · have hle : q ≤ d2 := Nat.le_trans (Nat.le_of_dvd (by omega) h) hk
    obtain ⟨e, rfl⟩ := h
    have e1 : N * (q * e) = c * (p * e) := by
      rw [← g3, ← g4]
      simp only [Nat.mul_assoc, Nat.mul_left_comm, Nat.mul_comm]
    rw [if_pos hle, gH, gH, e1, Nat.mul_mod_right, if_pos rfl, Nat.mul_mod_right, if_pos rfl, Nat.mul_div_cancel_left _ g2, Nat.mul_div_cancel_left _ hc, ← Int.pow_mul, ← Int.mul_assoc, ← Int.natCast_mul, Nat.mul_comm g q, g3]
  · have hn : ¬ N * k % c = 0 := by
      intro h0
      apply h
      have h2 : q * g ∣ p * g * k := by rw [g3, g4]; exact Nat.dvd_of_mod_eq_zero h0
      have h3 : q ∣ p * k := by
        rw [Nat.mul_assoc, Nat.mul_comm g k, ← Nat.mul_assoc] at h2
        exact Nat.dvd_of_mul_dvd_mul_right g1 h2
      exact g5.dvd_of_dvd_mul_left h3
    rw [gH, gH, if_neg hn, if_neg (fun e => h (Nat.dvd_of_mod_eq_zero e)), Int.mul_zero]
    split <;> rfl
theorem Gh.fZ {N d2 : Nat} (hN : 0 < N) (x : Nat → Int) : ∀ c, Gh d2 (fZ N d2 x c) (fun k => gZ x c (N * k))
  | 0 => Gh.one d2
  | c + 1 => by
    have ih := Gh.fZ (d2 := d2) hN x c
    obtain ⟨g1, g2, _⟩ := gcd_split N (c + 1) hN (by omega)
    have one := fun k h1 h2 => ghost_fro (x c) (N := N) (c := c + 1) (k := k) (d2 := d2) hN (by omega) h1 h2
    rw [Go.Proofs.YtdnaecmcbkfpaaaGreat.fZ]
    split
    · rename_i hle
      refine (ih.mul ((Gh.geo d2 _ g2).pw _)).congr (fun _ _ => rfl) (fun k h1 h2 => ?_)
      have := one k h1 h2
      rw [if_pos hle] at this
      rw [this]; rfl
    · rename_i hle
      refine ih.congr (fun _ _ => rfl) (fun k h1 h2 => ?_)
      have := one k h1 h2
      rw [if_neg hle] at this
      show gZ x c (N * k) = gZ x c (N * k) + gH (x c) (c + 1) (N * k)
      rw [← this, Int.add_zero]
/-- f at t^n. -/
def spS (f : Nat → Int) (n k : Nat) : Int := if k % n = 0 then f (k / n) else 0
theorem sm_mult {n : Nat} (hn : 0 < n) (F : Nat → Int) (q : Nat) : sm (n * q) (fun i => if (i + 1) % n = 0 then F ((i + 1) / n) else 0) = sm q (fun j => F (j + 1)) := by
  induction q with
  | zero => rfl
  | succ q ih =>
    obtain ⟨p, hp⟩ : ∃ p, n = p + 1 := ⟨n - 1, by omega⟩
    have e1 : n * (q + 1) = n * q + p + 1 := by rw [Nat.mul_succ]; omega
    rw [e1, sm, sm_tail (c := n * q) (by omega), ih, sm]
    · have e2 : n * q + p + 1 = n * (q + 1) := e1.symm
      rw [e2, Nat.mul_mod_right, if_pos rfl, Nat.mul_div_cancel_left _ hn]
    · intro i h3 h4
      have : ¬ (i + 1) % n = 0 := by
        intro h0
        obtain ⟨c, hc⟩ := Nat.dvd_of_mod_eq_zero h0
        have h5 : n * q < n * c := by omega
        have h6 : n * c < n * (q + 1) := by rw [Nat.mul_succ]; omega
        have := Nat.lt_of_mul_lt_mul_left h5
        have := Nat.lt_of_mul_lt_mul_left h6
        omega
      rw [if_neg this]
theorem Gh.spread {d n : Nat} (hn : 0 < n) {f G : Nat → Int} (h : Gh d f G) : Gh d (spS f n) (fun k => if k % n = 0 then (n : Int) * G (k / n) else 0) := by
  intro k hk
  by_cases hkn : k % n = 0
  · obtain ⟨q, rfl⟩ := Nat.dvd_of_mod_eq_zero hkn
    have hq : q ≤ d := Nat.le_trans (Nat.le_mul_of_pos_left q hn) hk
    have e0 : sm (n * q) (fun i => (if (i + 1) % n = 0 then (n : Int) * G ((i + 1) / n) else 0) * spS f n (n * q - 1 - i)) = sm (n * q) (fun i => if (i + 1) % n = 0 then (fun j => (n : Int) * G j * f (q - j)) ((i + 1) / n) else 0) := by
      refine sm_congr fun i hi => ?_
      split
      · rename_i h0
        obtain ⟨j, hj⟩ := Nat.dvd_of_mod_eq_zero h0
        have e1 : n * q - 1 - i = n * (q - j) := by rw [Nat.mul_sub]; omega
        rw [e1, spS, Nat.mul_mod_right, if_pos rfl, Nat.mul_div_cancel_left _ hn, hj, Nat.mul_div_cancel_left _ hn]
      · rw [Int.zero_mul]
    show ((n * q : Nat) : Int) * spS f n (n * q) = sm (n * q) (fun i => (if (i + 1) % n = 0 then (n : Int) * G ((i + 1) / n) else 0) * spS f n (n * q - 1 - i))
    rw [e0, sm_mult hn (fun j => (n : Int) * G j * f (q - j)), spS, Nat.mul_mod_right, if_pos rfl, Nat.mul_div_cancel_left _ hn, Int.natCast_mul, Int.mul_assoc, h q hq, ← sm_mul]
    exact sm_congr fun i hi => by rw [Int.mul_assoc, show q - 1 - i = q - (i + 1) by omega]
  · rw [spS, if_neg hkn, Int.mul_zero, sm_zero]
    intro i hi
    show (if (i + 1) % n = 0 then (n : Int) * G ((i + 1) / n) else 0) * spS f n (k - 1 - i) = 0
    split
    · rename_i h0
      have : ¬ (k - 1 - i) % n = 0 := by
        intro h2
        apply hkn
        have : k = (i + 1) + (k - 1 - i) := by omega
        rw [this, Nat.add_mod, h0, h2]
        simp
      rw [spS, if_neg this, Int.mul_zero]
    · rw [Int.zero_mul]
theorem Rep.ver {m : Int} {d : Nat} {a : List Int} {G : Nat → Int} (hm : 1 < m) (h : Rep m d a G) {n : Nat} (hn : 0 < n) : Rep m d (spreadL a n d) (fun k => if k % n = 0 then (n : Int) * G (k / n) else 0) := by
  obtain ⟨ha, f, f0, f1, f2⟩ := h
  refine ⟨⟨spreadL_length _ _ _, fun x hx => ?_⟩, spS f n, by simp [spS, f0], fun k hk => ?_, f2.spread hn⟩
  · obtain ⟨i, _, rfl⟩ := mem_tab.1 hx
    split
    · exact at_bound ha.2 (by omega) _
    · omega
  · rw [spreadL, at_tab (by omega), spS]
    split
    · exact f1 (k / n) (Nat.le_trans (Nat.div_le_self k n) hk)
    · rfl
theorem at_take {l : List Int} {n i : Nat} (h : i < n) : at' (l.take n) i = at' l i := by
  rw [at', at', List.getD_eq_getElem?_getD, List.getD_eq_getElem?_getD, List.getElem?_take_of_lt h]
theorem Rep.cut {m : Int} {d e : Nat} {a : List Int} {G : Nat → Int} (h : Rep m d a G) (he : e ≤ d) : Rep m e (a.take (e + 1)) G := by
  obtain ⟨ha, f, f0, f1, f2⟩ := h
  refine ⟨⟨by rw [List.length_take, ha.1]; omega, fun x hx => ha.2 x (List.mem_of_mem_take hx)⟩, f, f0, fun k hk => ?_, fun k hk => f2 k (by omega)⟩
  rw [at_take (by omega)]
  exact f1 k (by omega)
end Go.Proofs.YtdnaecmcbkfpaaaGreat
