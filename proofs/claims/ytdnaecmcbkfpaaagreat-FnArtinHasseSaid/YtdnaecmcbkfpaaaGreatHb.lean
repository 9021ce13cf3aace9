/-
  Composition by Horner's rule, and with a power of the variable.
-/
import Derived.Test.YtdnaecmcbkfpaaaGreatPa
import Derived.Test.YtdnaecmcbkfpaaaGreatPa
namespace Go.Proofs.YtdnaecmcbkfpaaaGreat
open Go.RowKit
set_option linter.unusedSimpArgs false
set_option linter.unusedVariables false
set_option linter.unusedSectionVars false
set_option maxRecDepth 20000
-- Composition by Horner's rule, and with a power of the variable.
/-- k steps of Horner's rule, from the top. -/
def cmpL (m : Int) (a f : List Int) (d : Nat) : Nat → List Int
  | 0 => tab (d + 1) (fun _ => 0)
  | k + 1 => tab (d + 1) (fun j => (cv (at' (cmpL m a f d k)) (at' f) j % m + (if j = 0 then at' a (d - k) % m else 0)) % m)
theorem cmpL_length (m : Int) (a f : List Int) (d k : Nat) : (cmpL m a f d k).length = d + 1 := by
  cases k <;> exact tab_length _ _
theorem cmpL_num {m : Int} (hm : 0 < m) (a f : List Int) (d k : Nat) : ∀ x ∈ cmpL m a f d k, 0 ≤ x ∧ x < m := by
  intro x hx
  cases k with
  | zero => obtain ⟨i, _, rfl⟩ := mem_tab.1 hx; omega
  | succ k => obtain ⟨i, _, rfl⟩ := mem_tab.1 hx; exact emod_b _ m hm
def mono (d n : Nat) (c : Int) : List Int := tab (d + 1) (fun j => if j = n then c else 0)
def blF (m : Int) (a : List Int) (c : Int) (n d k j : Nat) : Int := if j % n = 0 ∧ j / n < k then at' a (d + 1 - k + j / n) * c ^ (j / n) % m else 0
theorem cv_mono {g : Nat → Int} {c : Int} {n d j : Nat} (hn : 0 < n) (hnd : n ≤ d) (hj : j ≤ d) : cv g (at' (mono d n c)) j = if n ≤ j then g (j - n) * c else 0 := by
  unfold cv
  split
  · rename_i h
    rw [sm_one (p := j - n) (by omega) (fun i hi hne => by
      rw [show at' (mono d n c) (j - i) = 0 from ?_, Int.mul_zero]
      rw [mono, at_tab (by omega), if_neg (by omega)])]
    rw [mono, at_tab (by omega), if_pos (by omega)]
  · rename_i h
    refine sm_zero fun i hi => ?_
    rw [show at' (mono d n c) (j - i) = 0 from ?_, Int.mul_zero]
    rw [mono, at_tab (by omega), if_neg (by omega)]
theorem cmpL_block {m : Int} {a : List Int} {c : Int} {n d : Nat} (hn : 0 < n) (hnd : n ≤ d) : ∀ k, k ≤ d + 1 → cmpL m a (mono d n c) d k = tab (d + 1) (blF m a c n d k)
  | 0, _ => tab_congr fun j _ => by simp [blF]
  | k + 1, hk => by
    rw [cmpL, cmpL_block hn hnd k (by omega)]
    refine tab_congr fun j hj => ?_
    rw [cv_mono hn hnd (by omega)]
    unfold blF
    by_cases h0 : j = 0
    · subst h0
      rw [if_neg (by omega), if_pos rfl, if_pos (by simp)]
      simp [show d + 1 - (k + 1) = d - k by omega]
    · rw [if_neg h0, Int.add_zero, Int.emod_emod]
      by_cases hle : n ≤ j
      · rw [if_pos hle, at_tab (by omega)]
        have e1 : (j - n) % n = j % n := by rw [← Nat.mod_eq_sub_mod hle]
        have e2 : (j - n) / n = j / n - 1 := by
          obtain ⟨t, rfl⟩ := Nat.exists_eq_add_of_le hle
          rw [Nat.add_sub_cancel_left, Nat.add_div_left _ hn]; rfl
        have e3 : 0 < j / n := Nat.div_pos hle hn
        rw [e1, e2]
        by_cases h1 : j % n = 0 ∧ j / n < k + 1
        · rw [if_pos h1, if_pos ⟨h1.1, by omega⟩, mul_emod_l, Int.mul_assoc, ← Int.pow_succ, show (j / n - 1).succ = j / n by omega, show d + 1 - k + (j / n - 1) = d + 1 - (k + 1) + j / n by omega]
        · rw [if_neg h1, if_neg (by omega)]; simp
      · rw [if_neg hle, if_neg, Int.zero_emod]
        rintro ⟨h1, _⟩
        rw [Nat.mod_eq_of_lt (by omega)] at h1; omega
def blL (m : Int) (a : List Int) (c : Int) (n d : Nat) : List Int := tab (d + 1) (fun j => if j % n = 0 then at' a (j / n) * c ^ (j / n) % m else 0)
theorem cmpL_blL {m : Int} {a : List Int} {c : Int} {n d : Nat} (hn : 0 < n) (hnd : n ≤ d) : cmpL m a (mono d n c) d (d + 1) = blL m a c n d := by
  rw [cmpL_block hn hnd _ (Nat.le_refl _)]
  refine tab_congr fun j hj => ?_
  unfold blF
  have : j / n ≤ j := Nat.div_le_self j n
  by_cases h : j % n = 0
  · rw [if_pos ⟨h, by omega⟩, if_pos h, Nat.sub_self, Nat.zero_add]
  · rw [if_neg (by omega), if_neg h]
theorem blL_length (m : Int) (a : List Int) (c : Int) (n d : Nat) : (blL m a c n d).length = d + 1 := tab_length _ _
theorem blL_num {m : Int} (hm : 0 < m) (a : List Int) (c : Int) (n d : Nat) : ∀ x ∈ blL m a c n d, 0 ≤ x ∧ x < m := by
  intro x hx
  obtain ⟨i, _, rfl⟩ := mem_tab.1 hx
  split
  · exact emod_b _ m hm
  · omega
/-- The reference's block: the first q places are filled. -/
def blG (m : Int) (a : List Int) (c : Int) (n q j : Nat) : Int := if j % n = 0 ∧ j / n < q then at' a (j / n) * c ^ (j / n) % m else 0
theorem blG_set {m : Int} {a : List Int} {c : Int} {n q : Nat} (hn : 0 < n) (j : Nat) : (if j = q * n then at' a q * c ^ q % m else blG m a c n q j) = blG m a c n (q + 1) j := by
  unfold blG
  by_cases e : j = q * n
  · subst e
    simp [Nat.mul_mod_left, Nat.mul_div_cancel _ hn]
  · rw [if_neg e]
    by_cases h : j % n = 0
    · have := Nat.div_add_mod j n
      rw [h, Nat.add_zero] at this
      have hne : j / n ≠ q := fun h2 => e (by rw [← this, h2, Nat.mul_comm])
      by_cases h3 : j / n < q
      · rw [if_pos ⟨h, h3⟩, if_pos ⟨h, by omega⟩]
      · rw [if_neg (by omega), if_neg (by omega)]
    · rw [if_neg (by omega), if_neg (by omega)]
theorem blG_end {m : Int} {a : List Int} {c : Int} {n q d : Nat} (hn : 0 < n) (h : d < q * n) : tab (d + 1) (blG m a c n q) = blL m a c n d := tab_congr fun j hj => by
  unfold blG
  have : j / n < q := (Nat.div_lt_iff_lt_mul hn).2 (by omega)
  simp [this]
end Go.Proofs.YtdnaecmcbkfpaaaGreat
