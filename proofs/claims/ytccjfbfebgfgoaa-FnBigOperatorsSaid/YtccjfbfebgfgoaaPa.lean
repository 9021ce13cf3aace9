/-
  Plain laws: tables, sums, remainders. No program.
-/
import Derived.Test.YtccjfbfebgfgoaaTac
namespace Go.Proofs.Ytccjfbfebgfgoaa
open Go.RowKit
set_option linter.unusedSimpArgs false
set_option linter.unusedVariables false
set_option linter.unusedSectionVars false
set_option maxRecDepth 20000
-- Plain laws: tables, sums, remainders. No program.
/-- A table. -/
def tab (n : Nat) (f : Nat → Int) : List Int := (List.range n).map f
theorem tab_length (n : Nat) (f : Nat → Int) : (tab n f).length = n := by simp [tab]
theorem tab_getD {n i : Nat} {f : Nat → Int} (h : i < n) : (tab n f).getD i 0 = f i := by simp [tab, List.getD_eq_getElem?_getD, h]
theorem tab_getD_out {n i : Nat} {f : Nat → Int} (h : n ≤ i) : (tab n f).getD i 0 = 0 := by
  simp [tab, List.getD_eq_getElem?_getD, Nat.not_lt.2 h]
theorem tab_congr {n : Nat} {f g : Nat → Int} (h : ∀ i, i < n → f i = g i) : tab n f = tab n g := by
  apply List.ext_getElem
  · simp [tab]
  · intro i h1 h2; simp [tab] at h1 ⊢; exact h i h1
theorem tab_set {n i : Nat} {f : Nat → Int} {v : Int} : (tab n f).set i v = tab n (fun j => if j = i then v else f j) := by
  apply List.ext_getElem
  · simp [tab]
  · intro j h1 h2
    simp only [tab, List.getElem_set, List.getElem_map, List.getElem_range]
    by_cases e : i = j
    · simp [e]
    · rw [if_neg e, if_neg (fun h => e h.symm)]
theorem tab_set' {n i : Nat} {f g : Nat → Int} {v : Int} (h : ∀ j, j < n → (if j = i then v else f j) = g j) : (tab n f).set i v = tab n g := by
  rw [tab_set]; exact tab_congr h
theorem tab_zero (n : Nat) : List.replicate n 0 = tab n (fun _ => 0) := by
  apply List.ext_getElem <;> simp [tab]
theorem tab_nil (f : Nat → Int) : tab 0 f = [] := rfl
theorem tab_succ (n : Nat) (f : Nat → Int) : tab n f ++ [f n] = tab (n + 1) f := by simp [tab, List.range_succ]
theorem tab_succ' {n : Nat} {f : Nat → Int} {v : Int} (h : v = f n) : tab n f ++ [v] = tab (n + 1) f := by rw [h, tab_succ]
theorem tab_self (l : List Int) : tab l.length (fun i => l.getD i 0) = l := by
  apply List.ext_getElem
  · simp [tab]
  · intro i h1 h2; simp [tab, List.getD_eq_getElem?_getD, h2]
theorem tab_all {n : Nat} {f : Nat → Int} {p : Int → Bool} : (tab n f).all p = true ↔ ∀ i, i < n → p (f i) = true := by simp [tab]
theorem eq_tab {l : List Int} {n : Nat} {f : Nat → Int} (hl : l.length = n) (h : ∀ i, i < n → l.getD i 0 = f i) : l = tab n f := by
  rw [← tab_self l, hl]; exact tab_congr h
theorem mem_tab {n : Nat} {f : Nat → Int} {x : Int} : x ∈ tab n f ↔ ∃ i, i < n ∧ f i = x := by simp [tab]
/-- A sum. -/
def sm : Nat → (Nat → Int) → Int
  | 0, _ => 0
  | n + 1, f => sm n f + f n
theorem sm_congr {n : Nat} {f g : Nat → Int} (h : ∀ i, i < n → f i = g i) : sm n f = sm n g := by
  induction n with
  | zero => rfl
  | succ n ih => simp only [sm]; rw [ih (fun i hi => h i (by omega)), h n (by omega)]
theorem sm_zero {n : Nat} {f : Nat → Int} (h : ∀ i, i < n → f i = 0) : sm n f = 0 := by
  induction n with
  | zero => rfl
  | succ n ih => simp only [sm]; rw [ih (fun i hi => h i (by omega)), h n (by omega)]; rfl
theorem sm_add (n : Nat) (f g : Nat → Int) : sm n (fun i => f i + g i) = sm n f + sm n g := by
  induction n with
  | zero => rfl
  | succ n ih => simp only [sm, ih]; omega
theorem sm_mul (n : Nat) (c : Int) (f : Nat → Int) : sm n (fun i => c * f i) = c * sm n f := by
  induction n with
  | zero => simp [sm]
  | succ n ih => simp only [sm, ih, Int.mul_add]
theorem sm_mul_right (n : Nat) (c : Int) (f : Nat → Int) : sm n (fun i => f i * c) = sm n f * c := by
  induction n with
  | zero => simp [sm]
  | succ n ih => simp only [sm, ih, Int.add_mul]
theorem sm_emod {n : Nat} {f g : Nat → Int} {m : Int} (h : ∀ i, i < n → f i % m = g i % m) : sm n f % m = sm n g % m := by
  induction n with
  | zero => rfl
  | succ n ih => simp only [sm]; rw [Int.add_emod, ih (fun i hi => h i (by omega)), h n (by omega), ← Int.add_emod]
/-- The sum of the first terms, with one split off at the front. -/
theorem sm_succ_left (n : Nat) (f : Nat → Int) : sm (n + 1) f = f 0 + sm n (fun i => f (i + 1)) := by
  induction n with
  | zero => simp [sm]
  | succ n ih => rw [sm, ih, sm]; omega
theorem sm_rev (n : Nat) (f : Nat → Int) : sm n f = sm n (fun i => f (n - 1 - i)) := by
  induction n with
  | zero => rfl
  | succ n ih =>
    rw [sm_succ_left n (fun i => f (n + 1 - 1 - i)), sm, ih]
    have : sm n (fun i => f (n - 1 - i)) = sm n (fun i => f (n + 1 - 1 - (i + 1))) := sm_congr (fun i hi => by congr 1; omega)
    rw [this]; simp; omega
theorem sm_swap (n k : Nat) (f : Nat → Nat → Int) : sm n (fun i => sm k (f i)) = sm k (fun j => sm n (fun i => f i j)) := by
  induction n with
  | zero => exact (sm_zero (fun _ _ => rfl)).symm
  | succ n ih => simp only [sm, ih, sm_add]
/-- Go's remainders. -/
theorem tm (x m : Int) (h : 0 ≤ x) : x.tmod m = x % m := Int.tmod_eq_emod_of_nonneg h
theorem Int.neg_lt_tmod_of_pos' (n : Int) {m : Int} (h : 0 < m) : -m < n.tmod m ∧ n.tmod m < m := by
  have h1 := Int.emod_nonneg n (show m ≠ 0 by omega)
  have h2 := Int.emod_lt_of_pos n h
  rw [Int.tmod_eq_emod]
  split
  · omega
  · rename_i hx
    have : n % m ≠ 0 := fun e => hx (.inr (Int.dvd_of_emod_eq_zero e))
    omega
theorem go_mod (n m : Int) (h : 0 < m) : (n.tmod m + m).tmod m = n % m := by
  have h1 := Int.emod_nonneg n (show m ≠ 0 by omega)
  have h2 := Int.emod_lt_of_pos n h
  have h3 : n.tmod m = n % m ∨ n.tmod m = n % m - m := by
    rw [Int.tmod_eq_emod]
    split
    · left; omega
    · right; omega
  rw [Int.tmod_eq_emod_of_nonneg (by omega)]
  rcases h3 with e | e <;> rw [e]
  · rw [Int.add_emod_right, Int.emod_emod]
  · rw [Int.sub_add_cancel, Int.emod_emod]
theorem mul_bound {x y m : Int} (hx : 0 ≤ x) (hx2 : x < m) (hy : 0 ≤ y) (hy2 : y < m) (hm : m ≤ 3000000000) : 0 ≤ x * y ∧ x * y < 9000000000000000001 := by
  have h1 := Int.mul_nonneg hx hy
  have h2 : x * y ≤ 3000000000 * 3000000000 := Int.mul_le_mul (by omega) (by omega) hy (by omega)
  omega
theorem mul_bound4 {x y m : Int} (hx : 0 ≤ x) (hx2 : x < m) (hy : 0 ≤ y) (hy2 : y < m) (hm : m ≤ 10000) : 0 ≤ x * y ∧ x * y ≤ 100000000 := by
  have h1 := Int.mul_nonneg hx hy
  have h2 : x * y ≤ 10000 * 10000 := Int.mul_le_mul (by omega) (by omega) hy (by omega)
  omega
theorem emod_b (x m : Int) (h : 0 < m) : 0 ≤ x % m ∧ x % m < m := ⟨Int.emod_nonneg x (by omega), Int.emod_lt_of_pos x h⟩
theorem mul_emod_l (a b m : Int) : (a % m) * b % m = a * b % m := by rw [Int.mul_emod, Int.emod_emod, ← Int.mul_emod]
theorem mul_emod_r (a b m : Int) : a * (b % m) % m = a * b % m := by rw [Int.mul_emod, Int.emod_emod, ← Int.mul_emod]
/-- The coefficient of a product. -/
def cv (a b : Nat → Int) (n : Nat) : Int := sm (n + 1) (fun i => a i * b (n - i))
def at' (l : List Int) (i : Nat) : Int := l.getD i 0
/-- The powers of z, at the multiples of n. -/
def geoF (m z : Int) (n : Nat) (c : Nat) (j : Nat) : Int := if j % n = 0 ∧ j / n < c then z ^ (j / n) % m else 0
theorem geoF_set {m z : Int} {n c : Nat} (hn : 0 < n) (j : Nat) : (if j = c * n then z ^ c % m else geoF m z n c j) = geoF m z n (c + 1) j := by
  unfold geoF
  by_cases e : j = c * n
  · subst e
    rw [if_pos rfl, if_pos ⟨Nat.mul_mod_left _ _, by rw [Nat.mul_div_cancel _ hn]; omega⟩, Nat.mul_div_cancel _ hn]
  · rw [if_neg e]
    by_cases h : j % n = 0 ∧ j / n < c
    · rw [if_pos h, if_pos ⟨h.1, by omega⟩]
    · rw [if_neg h, if_neg]
      rintro ⟨h1, h2⟩
      refine h ⟨h1, ?_⟩
      rcases Nat.lt_or_ge (j / n) c with h3 | h3
      · exact h3
      · have h4 : j / n = c := by omega
        exact absurd (by have := Nat.div_add_mod j n; rw [h1, h4, Nat.add_zero] at this; rw [← this, Nat.mul_comm]) e
/-- 1 + z t^n + z^2 t^2n + .. -/
def geo (m z : Int) (n d : Nat) : List Int := tab (d + 1) (fun j => if j % n = 0 then z ^ (j / n) % m else 0)
theorem geo_of {m z : Int} {n c d : Nat} (hn : 0 < n) (h : d < c * n) : tab (d + 1) (geoF m z n c) = geo m z n d := by
  refine tab_congr fun j hj => ?_
  unfold geoF
  have : j / n < c := by rw [Nat.div_lt_iff_lt_mul hn]; omega
  by_cases h1 : j % n = 0
  · rw [if_pos ⟨h1, this⟩, if_pos h1]
  · rw [if_neg (fun h => h1 h.1), if_neg h1]
theorem geo_length (m z : Int) (n d : Nat) : (geo m z n d).length = d + 1 := tab_length _ _
end Go.Proofs.Ytccjfbfebgfgoaa
