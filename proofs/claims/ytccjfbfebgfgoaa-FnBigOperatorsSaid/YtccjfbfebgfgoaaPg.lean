/-
  Plain laws: coordinates of big vectors. No program.
-/
import Derived.Test.YtccjfbfebgfgoaaPe
import Derived.Test.YtccjfbfebgfgoaaPf
namespace Go.Proofs.Ytccjfbfebgfgoaa
open Go.RowKit
set_option linter.unusedSimpArgs false
set_option linter.unusedVariables false
set_option linter.unusedSectionVars false
set_option maxRecDepth 20000
-- Plain laws: coordinates of big vectors. No program.
theorem geo_num {m z : Int} {n d : Nat} (hm : 0 < m) : ∀ x ∈ geo m z n d, 0 ≤ x ∧ x < m := by
  intro x hx
  obtain ⟨i, _, rfl⟩ := mem_tab.1 hx
  split
  · exact emod_b _ m hm
  · omega
/-- Products of the first rows 1 / (1 - x t^n). -/
def oL (m : Int) (l : List Int) (d : Nat) : Nat → List Int
  | 0 => oneL d
  | c + 1 => timesL m (oL m l d c) (geo m (at' l c) (c + 1) d) d
theorem oL_facts {m : Int} (l : List Int) (d c : Nat) (hm : 1 < m) : (oL m l d c).length = d + 1 ∧ ∀ x ∈ oL m l d c, 0 ≤ x ∧ x < m := by
  cases c with
  | zero => exact ⟨oneL_length d, oneL_num d hm⟩
  | succ c => exact ⟨timesL_length _ _ _ _, timesL_num _ _ _ _ (by omega)⟩
theorem sm_one {k p : Nat} {f : Nat → Int} (hp : p < k) (h : ∀ i, i < k → i ≠ p → f i = 0) : sm k f = f p := by
  have h1 : sm k f = sm (p + 1) f := sm_tail (by omega) (fun i h1 h2 => h i h2 (by omega))
  rw [h1, sm, sm_zero (fun i hi => h i (by omega) (by omega)), Int.zero_add]
theorem sm_two {k p q : Nat} {f : Nat → Int} (hp : p < q) (hq : q < k) (h : ∀ i, i < k → i ≠ p → i ≠ q → f i = 0) : sm k f = f p + f q := by
  have h1 : sm k f = sm (q + 1) f := sm_tail (by omega) (fun i h1 h2 => h i h2 (by omega) (by omega))
  rw [h1, sm, sm_one hp (fun i hi hne => h i (by omega) hne (by omega))]
def omF (m x : Int) (n j : Nat) : Int := if j = 0 then 1 else if j = n then (m - x) % m else 0
/-- 1 - x t^n. -/
def omL (m x : Int) (n d : Nat) : List Int := tab (d + 1) (omF m x n)
theorem omL_length (m x : Int) (n d : Nat) : (omL m x n d).length = d + 1 := tab_length _ _
theorem omL_num {m x : Int} {n d : Nat} (hm : 1 < m) : ∀ y ∈ omL m x n d, 0 ≤ y ∧ y < m := by
  intro y hy
  obtain ⟨i, _, rfl⟩ := mem_tab.1 hy
  unfold omF
  split
  · omega
  · split
    · exact emod_b _ m (by omega)
    · omega
theorem invL_one {m : Int} (hm : 1 < m) : invL m 1 = 1 := by
  unfold invL
  have e : (1 : Int) % m = 1 := Int.emod_eq_of_lt (by omega) hm
  rw [e, eu_step (by omega), eu_end (by rw [Int.emod_one]; omega), e]
theorem om_next {m x : Int} {n d k : Nat} (hm : 1 < m) (hx : 0 ≤ x ∧ x < m) (hn : 0 < n) (h0 : 0 < k) (hk : k ≤ d) : iC m 1 (at' (geo m x n d)) k (tab k (omF m x n)) = omF m x n k := by
  unfold iC
  rw [if_neg (by omega), Int.mul_one]
  have hg : ∀ i, i < k → at' (geo m x n d) (i + 1) = if (i + 1) % n = 0 then x ^ ((i + 1) / n) % m else 0 := fun i hi => at_tab (by omega)
  have ho : ∀ i, i < k → at' (tab k (omF m x n)) (k - 1 - i) = omF m x n (k - 1 - i) := fun i hi => at_tab (by omega)
  rw [sm_congr (g := fun i => (if (i + 1) % n = 0 then x ^ ((i + 1) / n) % m else 0) * omF m x n (k - 1 - i)) (fun i hi => by rw [hg i hi, ho i hi])]
  have hom : ∀ i, i < k → i ≠ k - 1 → k - 1 - i ≠ n → omF m x n (k - 1 - i) = 0 := fun i h1 h2 h3 => by
    unfold omF; rw [if_neg (by omega), if_neg h3]
  rcases Nat.lt_trichotomy k n with h1 | h1 | h1
  · rw [sm_zero]
    · unfold omF; rw [if_neg (by omega), if_neg (by omega)]; simp
    · intro i hi
      rw [if_neg (by rw [Nat.mod_eq_of_lt (by omega)]; omega), Int.zero_mul]
  · rw [sm_one (p := k - 1) (by omega) (fun i hi hne => by rw [hom i hi hne (by omega), Int.mul_zero])]
    subst h1
    rw [Nat.sub_self, show k - 1 + 1 = k by omega, Nat.mod_self, if_pos rfl, Nat.div_self h0, Int.pow_succ, Int.pow_zero, Int.one_mul, Int.emod_eq_of_lt hx.1 hx.2]
    unfold omF
    rw [if_pos rfl, if_neg (by omega), if_pos rfl, Int.mul_one, show m - x = -x + m by omega, Int.add_emod_right]
  · have e0 : omF m x n k = 0 := by unfold omF; rw [if_neg (by omega), if_neg (by omega)]
    rw [e0, sm_two (p := k - 1 - n) (q := k - 1) (by omega) (by omega) (fun i hi h2 h3 => by rw [hom i hi h3 (by omega), Int.mul_zero])]
    rw [show k - 1 - (k - 1 - n) = n by omega, Nat.sub_self, show k - 1 - n + 1 = k - n by omega, show k - 1 + 1 = k by omega]
    have f0 : omF m x n 0 = 1 := rfl
    have f1 : omF m x n n = (m - x) % m := by unfold omF; rw [if_neg (by omega), if_pos rfl]
    rw [f0, f1]
    have em : (k - n) % n = k % n := by
      have := Nat.sub_mul_mod (x := k) (k := 1) (n := n) (by omega)
      rwa [Nat.mul_one] at this
    by_cases hd : k % n = 0
    · rw [em, if_pos hd, if_pos hd, Int.mul_one]
      have ed : k / n = (k - n) / n + 1 := by rw [Nat.div_eq_sub_div hn (by omega)]
      rw [ed, Int.pow_succ]
      generalize x ^ ((k - n) / n) = y
      apply Int.emod_eq_zero_of_dvd
      have h1 := Int.emod_add_mul_ediv y m
      have h2 := Int.emod_add_mul_ediv (m - x) m
      have h3 := Int.emod_add_mul_ediv (y * x) m
      exact ⟨-((y % m) - (y % m) * ((m - x) / m) + (y / m) * x - (y * x) / m), by grind⟩
    · rw [em, if_neg hd, if_neg hd]; simp
theorem inv_geo {m x : Int} {n d : Nat} (hm : 1 < m) (hx : 0 ≤ x ∧ x < m) (hn : 0 < n) : invS m (geo m x n d) d = omL m x n d := by
  have e1 : at' (geo m x n d) 0 = 1 := by
    rw [geo, at_tab (by omega), Nat.zero_mod, if_pos rfl, Nat.zero_div, Int.pow_zero, Int.emod_eq_of_lt (by omega) hm]
  unfold invS omL
  rw [e1, invL_one hm]
  have : ∀ k, k ≤ d + 1 → iL m 1 (at' (geo m x n d)) k = tab k (omF m x n) := by
    intro k
    induction k with
    | zero => intro _; rfl
    | succ k ih =>
      intro hk
      rw [iL, ih (by omega)]
      refine tab_succ' ?_
      rcases Nat.eq_zero_or_pos k with e | e
      · subst e; rfl
      · exact om_next hm hx hn e (by omega)
  exact this (d + 1) (Nat.le_refl _)
/-- What is left behind the first coordinates. -/
def cR (m : Int) (d : Nat) (a : List Int) : Nat → List Int
  | 0 => a
  | c + 1 => timesL m (cR m d a c) (omL m (at' (cR m d a c) (c + 1)) (c + 1) d) d
theorem cR_facts {m : Int} {d : Nat} {a : List Int} (hm : 1 < m) (ha : a.length = d + 1) (ha2 : ∀ x ∈ a, 0 ≤ x ∧ x < m) (c : Nat) : (cR m d a c).length = d + 1 ∧ ∀ x ∈ cR m d a c, 0 ≤ x ∧ x < m := by
  cases c with
  | zero => exact ⟨ha, ha2⟩
  | succ c => exact ⟨timesL_length _ _ _ _, timesL_num _ _ _ _ (by omega)⟩
/-- The coordinates of a big vector. -/
def cL (m : Int) (a : List Int) (d : Nat) : List Int := tab d (fun c => at' (cR m d a c) (c + 1))
theorem cL_length (m : Int) (a : List Int) (d : Nat) : (cL m a d).length = d := tab_length _ _
theorem cL_num {m : Int} {d : Nat} {a : List Int} (hm : 1 < m) (ha : a.length = d + 1) (ha2 : ∀ x ∈ a, 0 ≤ x ∧ x < m) : ∀ x ∈ cL m a d, 0 ≤ x ∧ x < m := by
  intro x hx
  obtain ⟨i, _, rfl⟩ := mem_tab.1 hx
  exact at_bound (cR_facts hm ha ha2 i).2 (by omega) _
end Go.Proofs.Ytccjfbfebgfgoaa
