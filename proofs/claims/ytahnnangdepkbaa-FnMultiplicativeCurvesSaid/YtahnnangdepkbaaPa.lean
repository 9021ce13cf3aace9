/-
  Plain laws: tables, sums, remainders. No program.
-/
import Derived.Test.YtahnnangdepkbaaTac
namespace Go.Proofs.Ytahnnangdepkbaa
open Go.RowKit
set_option linter.unusedSimpArgs false
set_option linter.unusedVariables false
set_option linter.unusedSectionVars false
set_option maxRecDepth 20000
-- Plain laws: tables, sums, remainders. No program.
/-- A table. -/
def tab (n : Nat) (f : Nat → Int) : List Int := (List.range n).map f
theorem tab_length (n : Nat) (f : Nat → Int) : (tab n f).length = n := by simp [tab]
theorem tab_getD {n i : Nat} {f : Nat → Int} (h : i < n) : (tab n f).getD i 0 = f i := by simp [tab, List.getD_eq_getElem?_getD, h]
theorem tab_getD_out {n i : Nat} {f : Nat → Int} (h : n ≤ i) : (tab n f).getD i 0 = 0 := by
  simp [tab, List.getD_eq_getElem?_getD, Nat.not_lt.2 h]
theorem tab_congr {n : Nat} {f g : Nat → Int} (h : ∀ i, i < n → f i = g i) : tab n f = tab n g := by
  apply List.ext_getElem
  · simp [tab]
  · intro i h1 h2; simp [tab] at h1 ⊢; exact h i h1
theorem tab_set {n i : Nat} {f : Nat → Int} {v : Int} : (tab n f).set i v = tab n (fun j => if j = i then v else f j) := by
  apply List.ext_getElem
  · simp [tab]
  · intro j h1 h2
    simp only [tab, List.getElem_set, List.getElem_map, List.getElem_range]
    by_cases e : i = j
    · simp [e]
    · rw [if_neg e, if_neg (fun h => e h.symm)]
theorem tab_set' {n i : Nat} {f g : Nat → Int} {v : Int} (h : ∀ j, j < n → (if j = i then v else f j) = g j) : (tab n f).set i v = tab n g := by
  rw [tab_set]; exact tab_congr h
theorem tab_zero (n : Nat) : List.replicate n 0 = tab n (fun _ => 0) := by
  apply List.ext_getElem <;> simp [tab]
theorem tab_nil (f : Nat → Int) : tab 0 f = [] := rfl
theorem tab_succ (n : Nat) (f : Nat → Int) : tab n f ++ [f n] = tab (n + 1) f := by simp [tab, List.range_succ]
theorem tab_succ' {n : Nat} {f : Nat → Int} {v : Int} (h : v = f n) : tab n f ++ [v] = tab (n + 1) f := by rw [h, tab_succ]
theorem tab_self (l : List Int) : tab l.length (fun i => l.getD i 0) = l := by
  apply List.ext_getElem
  · simp [tab]
  · intro i h1 h2; simp [tab, List.getD_eq_getElem?_getD, h2]
theorem mem_tab {n : Nat} {f : Nat → Int} {x : Int} : x ∈ tab n f ↔ ∃ i, i < n ∧ f i = x := by simp [tab]
/-- A sum. -/
def sm : Nat → (Nat → Int) → Int
  | 0, _ => 0
  | n + 1, f => sm n f + f n
theorem sm_congr {n : Nat} {f g : Nat → Int} (h : ∀ i, i < n → f i = g i) : sm n f = sm n g := by
  induction n with
  | zero => rfl
  | succ n ih => simp only [sm]; rw [ih (fun i hi => h i (by omega)), h n (by omega)]
theorem sm_zero {n : Nat} {f : Nat → Int} (h : ∀ i, i < n → f i = 0) : sm n f = 0 := by
  induction n with
  | zero => rfl
  | succ n ih => simp only [sm]; rw [ih (fun i hi => h i (by omega)), h n (by omega)]; rfl
theorem sm_add (n : Nat) (f g : Nat → Int) : sm n (fun i => f i + g i) = sm n f + sm n g := by
  induction n with
  | zero => rfl
  | succ n ih => simp only [sm, ih]; omega
theorem sm_mul (n : Nat) (c : Int) (f : Nat → Int) : sm n (fun i => c * f i) = c * sm n f := by
  induction n with
  | zero => simp [sm]
  | succ n ih => simp only [sm, ih, Int.mul_add]
theorem sm_mul_right (n : Nat) (c : Int) (f : Nat → Int) : sm n (fun i => f i * c) = sm n f * c := by
  induction n with
  | zero => simp [sm]
  | succ n ih => simp only [sm, ih, Int.add_mul]
theorem sm_emod {n : Nat} {f g : Nat → Int} {m : Int} (h : ∀ i, i < n → f i % m = g i % m) : sm n f % m = sm n g % m := by
  induction n with
  | zero => rfl
  | succ n ih => simp only [sm]; rw [Int.add_emod, ih (fun i hi => h i (by omega)), h n (by omega), ← Int.add_emod]
/-- The sum of the first terms, with one split off at the front. -/
theorem sm_succ_left (n : Nat) (f : Nat → Int) : sm (n + 1) f = f 0 + sm n (fun i => f (i + 1)) := by
  induction n with
  | zero => simp [sm]
  | succ n ih => rw [sm, ih, sm]; omega
theorem sm_rev (n : Nat) (f : Nat → Int) : sm n f = sm n (fun i => f (n - 1 - i)) := by
  induction n with
  | zero => rfl
  | succ n ih =>
    rw [sm_succ_left n (fun i => f (n + 1 - 1 - i)), sm, ih]
    have : sm n (fun i => f (n - 1 - i)) = sm n (fun i => f (n + 1 - 1 - (i + 1))) := sm_congr (fun i hi => by congr 1; omega)
    rw [this]; simp; omega
/-- Go's remainders. -/
theorem tm (x m : Int) (h : 0 ≤ x) : x.tmod m = x % m := Int.tmod_eq_emod_of_nonneg h
theorem Int.neg_lt_tmod_of_pos' (n : Int) {m : Int} (h : 0 < m) : -m < n.tmod m ∧ n.tmod m < m := by
  have h1 := Int.emod_nonneg n (show m ≠ 0 by omega)
  have h2 := Int.emod_lt_of_pos n h
  rw [Int.tmod_eq_emod]
  split
  · omega
  · rename_i hx
    have : n % m ≠ 0 := fun e => hx (.inr (Int.dvd_of_emod_eq_zero e))
    omega
theorem go_mod (n m : Int) (h : 0 < m) : (n.tmod m + m).tmod m = n % m := by
  have h1 := Int.emod_nonneg n (show m ≠ 0 by omega)
  have h2 := Int.emod_lt_of_pos n h
  have h3 : n.tmod m = n % m ∨ n.tmod m = n % m - m := by
    rw [Int.tmod_eq_emod]
    split
    · left; omega
    · right; omega
  rw [Int.tmod_eq_emod_of_nonneg (by omega)]
  rcases h3 with e | e <;> rw [e]
  · rw [Int.add_emod_right, Int.emod_emod]
  · rw [Int.sub_add_cancel, Int.emod_emod]
theorem mul_bound {x y m : Int} (hx : 0 ≤ x) (hx2 : x < m) (hy : 0 ≤ y) (hy2 : y < m) (hm : m ≤ 3000000000) : 0 ≤ x * y ∧ x * y < 9000000000000000001 := by
  have h1 := Int.mul_nonneg hx hy
  have h2 : x * y ≤ 3000000000 * 3000000000 := Int.mul_le_mul (by omega) (by omega) hy (by omega)
  omega
theorem mul_bound4 {x y m : Int} (hx : 0 ≤ x) (hx2 : x < m) (hy : 0 ≤ y) (hy2 : y < m) (hm : m ≤ 10000) : 0 ≤ x * y ∧ x * y ≤ 100000000 := by
  have h1 := Int.mul_nonneg hx hy
  have h2 : x * y ≤ 10000 * 10000 := Int.mul_le_mul (by omega) (by omega) hy (by omega)
  omega
theorem emod_b (x m : Int) (h : 0 < m) : 0 ≤ x % m ∧ x % m < m := ⟨Int.emod_nonneg x (by omega), Int.emod_lt_of_pos x h⟩
theorem mul_emod_l (a b m : Int) : (a % m) * b % m = a * b % m := by rw [Int.mul_emod, Int.emod_emod, ← Int.mul_emod]
theorem mul_emod_r (a b m : Int) : a * (b % m) % m = a * b % m := by rw [Int.mul_emod, Int.emod_emod, ← Int.mul_emod]
/-- The coefficient of a product. -/
def cv (a b : Nat → Int) (n : Nat) : Int := sm (n + 1) (fun i => a i * b (n - i))
def at' (l : List Int) (i : Nat) : Int := l.getD i 0
/-- The powers of z, at the multiples of n. -/
def geoF (m z : Int) (n : Nat) (c : Nat) (j : Nat) : Int := if j % n = 0 ∧ j / n < c then z ^ (j / n) % m else 0
theorem geoF_set {m z : Int} {n c : Nat} (hn : 0 < n) (j : Nat) : (if j = c * n then z ^ c % m else geoF m z n c j) = geoF m z n (c + 1) j := by
  unfold geoF
  by_cases e : j = c * n
  · subst e
    rw [if_pos rfl, if_pos ⟨Nat.mul_mod_left _ _, by rw [Nat.mul_div_cancel _ hn]; omega⟩, Nat.mul_div_cancel _ hn]
  · rw [if_neg e]
    by_cases h : j % n = 0 ∧ j / n < c
    · rw [if_pos h, if_pos ⟨h.1, by omega⟩]
    · rw [if_neg h, if_neg]
      rintro ⟨h1, h2⟩
      refine h ⟨h1, ?_⟩
      rcases Nat.lt_or_ge (j / n) c with h3 | h3
      · exact h3
      · have h4 : j / n = c := by omega
        exact absurd (by have := Nat.div_add_mod j n; rw [h1, h4, Nat.add_zero] at this; rw [← this, Nat.mul_comm]) e
/-- 1 + z t^n + z^2 t^2n + .. -/
def geo (m z : Int) (n d : Nat) : List Int := tab (d + 1) (fun j => if j % n = 0 then z ^ (j / n) % m else 0)
theorem geo_of {m z : Int} {n c d : Nat} (hn : 0 < n) (h : d < c * n) : tab (d + 1) (geoF m z n c) = geo m z n d := by
  refine tab_congr fun j hj => ?_
  unfold geoF
  have : j / n < c := by rw [Nat.div_lt_iff_lt_mul hn]; omega
  by_cases h1 : j % n = 0
  · rw [if_pos ⟨h1, this⟩, if_pos h1]
  · rw [if_neg (fun h => h1 h.1), if_neg h1]
theorem geo_length (m z : Int) (n d : Nat) : (geo m z n d).length = d + 1 := tab_length _ _
-- Plain laws: products of lists of coefficients. No program.
theorem at_bound {l : List Int} {m : Int} (h : ∀ x ∈ l, 0 ≤ x ∧ x < m) (hm : 0 < m) (i : Nat) : 0 ≤ at' l i ∧ at' l i < m := by
  unfold at'
  rcases Nat.lt_or_ge i l.length with h1 | h1
  · rw [List.getD_eq_getElem?_getD]; simp only [h1, List.getElem?_eq_getElem, Option.getD_some]; exact h _ (List.getElem_mem h1)
  · rw [List.getD_eq_getElem?_getD]; simp [h1, hm]
theorem at_out {l : List Int} {i : Nat} (h : l.length ≤ i) : at' l i = 0 := by
  simp [at', List.getD_eq_getElem?_getD, h]
theorem at_tab {n i : Nat} {f : Nat → Int} (h : i < n) : at' (tab n f) i = f i := tab_getD h
/-- A product's coefficient, from its first rows. -/
def pr (a b : Nat → Int) (m : Int) (i n : Nat) : Int := sm i (fun j => if j ≤ n then a j * b (n - j) else 0) % m
def row (a b : Nat → Int) (m : Int) (i k n : Nat) : Int := if i ≤ n ∧ n < i + k then pr a b m (i + 1) n else pr a b m i n
theorem pr_zero (a b : Nat → Int) (m : Int) (n : Nat) : pr a b m 0 n = 0 := by simp [pr, sm]
theorem row_zero (a b : Nat → Int) (m : Int) (i n : Nat) : row a b m i 0 n = pr a b m i n := by
  unfold row; rw [if_neg (by omega)]
theorem pr_succ (a b : Nat → Int) (m : Int) (i k : Nat) : (pr a b m i (i + k) + a i * b k) % m = pr a b m (i + 1) (i + k) := by
  unfold pr
  rw [Int.emod_add_emod, sm, if_pos (Nat.le_add_right i k), Nat.add_sub_cancel_left]
theorem row_at (a b : Nat → Int) (m : Int) (i k : Nat) : row a b m i k (i + k) = pr a b m i (i + k) := by
  unfold row; rw [if_neg (by omega)]
theorem row_set (a b : Nat → Int) (m : Int) (i k n : Nat) : (if n = i + k then pr a b m (i + 1) (i + k) else row a b m i k n) = row a b m i (k + 1) n := by
  unfold row
  by_cases e : n = i + k
  · subst e; rw [if_pos rfl, if_pos (by omega)]
  · rw [if_neg e]
    by_cases h : i ≤ n ∧ n < i + k
    · rw [if_pos h, if_pos (by omega)]
    · rw [if_neg h, if_neg (by omega)]
theorem pr_same {a b : Nat → Int} {m : Int} {i n : Nat} (h : i ≤ n → a i * b (n - i) = 0) : pr a b m (i + 1) n = pr a b m i n := by
  unfold pr
  rw [sm]
  by_cases g : i ≤ n
  · rw [if_pos g, h g, Int.add_zero]
  · rw [if_neg g, Int.add_zero]
theorem row_end {a b : Nat → Int} {m : Int} {i k n : Nat} (h : i + k ≤ n → a i * b (n - i) = 0) : row a b m i k n = pr a b m (i + 1) n := by
  unfold row
  by_cases g : i ≤ n ∧ n < i + k
  · rw [if_pos g]
  · rw [if_neg g, pr_same (fun h1 => h (by omega))]
theorem pr_end {a b : Nat → Int} {m : Int} {i n : Nat} (h : ∀ j, i ≤ j → j ≤ n → a j = 0) : pr a b m i n = cv a b n % m := by
  unfold pr cv
  rcases Nat.lt_or_ge n i with h1 | h1
  · obtain ⟨k, rfl⟩ := Nat.exists_eq_add_of_lt h1
    congr 1
    clear h
    induction k with
    | zero => exact sm_congr (fun j hj => if_pos (by omega))
    | succ k ih =>
      rw [show n + (k + 1) + 1 = (n + k + 1) + 1 by omega, sm, if_neg (by omega), Int.add_zero]
      exact ih (by omega)
  · obtain ⟨k, hk⟩ : ∃ k, n + 1 = i + k := ⟨n + 1 - i, by omega⟩
    rw [hk]
    congr 1
    have : ∀ k, i + k ≤ n + 1 → sm (i + k) (fun i => a i * b (n - i)) = sm i (fun j => if j ≤ n then a j * b (n - j) else 0) := by
      intro k
      induction k with
      | zero => intro _; exact sm_congr (fun j hj => (if_pos (by omega)).symm)
      | succ k ih =>
        intro hk2
        rw [show i + (k + 1) = (i + k) + 1 by omega, sm, ih (by omega), h (i + k) (by omega) (by omega), Int.zero_mul, Int.add_zero]
    exact (this k (by omega)).symm
theorem pr_bound (a b : Nat → Int) {m : Int} (hm : 0 < m) (i n : Nat) : 0 ≤ pr a b m i n ∧ pr a b m i n < m := emod_b _ m hm
/-- The product of two lists of coefficients up to a degree. -/
def timesL (m : Int) (a b : List Int) (d : Nat) : List Int := tab (d + 1) (fun n => cv (at' a) (at' b) n % m)
theorem timesL_length (m : Int) (a b : List Int) (d : Nat) : (timesL m a b d).length = d + 1 := tab_length _ _
theorem timesL_num (m : Int) (a b : List Int) (d : Nat) (hm : 0 < m) : ∀ x ∈ timesL m a b d, 0 ≤ x ∧ x < m := by
  intro x hx
  obtain ⟨i, _, rfl⟩ := mem_tab.1 hx
  exact emod_b _ m hm
-- Plain laws: Euclid's algorithm, powers. No program.
/-- The coefficient that Euclid's algorithm leaves. -/
def eu (r s x y : Int) : Int := if h : 0 < s then eu s (r % s) y (x - r / s * y) else x
  termination_by s.toNat
  decreasing_by
    have h1 := Int.emod_lt_of_pos r h
    have h2 := Int.emod_nonneg r (show s ≠ 0 by omega)
    omega
theorem eu_step {r s x y : Int} (h : 0 < s) : eu r s x y = eu s (r % s) y (x - r / s * y) := by rw [eu, dif_pos h]
theorem eu_end {r s x y : Int} (h : ¬ 0 < s) : eu r s x y = x := by rw [eu, dif_neg h]
def invL (m a : Int) : Int := eu m (a % m) 0 1 % m
/-- The bounds under which nothing wraps. -/
def EuB (m r s x y : Int) : Prop := 0 < r ∧ r ≤ m ∧ 0 ≤ s ∧ s ≤ m ∧ ((x ≤ 0 ∧ 0 ≤ y ∧ y * r - x * s = m) ∨ (0 ≤ x ∧ y ≤ 0 ∧ x * s - y * r = m))
theorem EuB_start {m a : Int} (h : 0 < m) : EuB m m (a % m) 0 1 := by
  have h1 := emod_b a m h
  exact ⟨h, by omega, h1.1, by omega, .inl ⟨by omega, by omega, by omega⟩⟩
theorem EuB_facts {m r s x y : Int} (h : EuB m r s x y) (hs : 0 < s) : 0 ≤ r / s ∧ r / s ≤ m ∧ 0 ≤ r / s * s ∧ r / s * s ≤ m ∧ r - r / s * s = r % s ∧ -m ≤ r / s * y ∧ r / s * y ≤ m ∧ -m ≤ x - r / s * y ∧ x - r / s * y ≤ m := by
  obtain ⟨h1, h2, h3, h4, h5⟩ := h
  have q0 : 0 ≤ r / s := Int.ediv_nonneg (by omega) (by omega)
  have e : r - r / s * s = r % s := by have := Int.emod_add_mul_ediv r s; grind
  have e1 := Int.emod_nonneg r (show s ≠ 0 by omega)
  have e2 : r / s * s ≤ r := by omega
  have q1 : r / s ≤ r / s * s := by
    have := Int.mul_le_mul_of_nonneg_left (show 1 ≤ s by omega) q0
    omega
  have q2 : 0 ≤ r / s * s := Int.mul_nonneg q0 (by omega)
  have hq : r / s ≤ r := by omega
  rcases h5 with ⟨hx, hy, h6⟩ | ⟨hx, hy, h6⟩
  · have a1 : 0 ≤ r / s * y := Int.mul_nonneg q0 hy
    have a2 : r / s * y ≤ y * r := by
      have := Int.mul_le_mul_of_nonneg_right hq hy
      grind
    have a3 : x * s ≤ x := by
      have := Int.mul_le_mul_of_nonneg_left (show 1 ≤ s by omega) (show 0 ≤ -x by omega)
      grind
    refine ⟨q0, by omega, q2, by omega, e, by omega, by omega, by omega, by omega⟩
  · have a1 : 0 ≤ r / s * (-y) := Int.mul_nonneg q0 (by omega)
    have a2 : r / s * (-y) ≤ (-y) * r := by
      have := Int.mul_le_mul_of_nonneg_right hq (show 0 ≤ -y by omega)
      grind
    have a3 : x ≤ x * s := by
      have := Int.mul_le_mul_of_nonneg_left (show 1 ≤ s by omega) hx
      omega
    rw [Int.mul_neg] at a1 a2
    rw [Int.neg_mul] at a2
    refine ⟨q0, by omega, q2, by omega, e, by omega, by omega, by omega, by omega⟩
theorem EuB_step {m r s x y : Int} (h : EuB m r s x y) (hs : 0 < s) : EuB m s (r % s) y (x - r / s * y) := by
  obtain ⟨g1, g2, g3, g4, e, g5, g6, g7, g8⟩ := EuB_facts h hs
  obtain ⟨h1, h2, h3, h4, h5⟩ := h
  have e1 := emod_b r s hs
  refine ⟨hs, h4, e1.1, by omega, ?_⟩
  have hq : 0 ≤ r / s := g1
  rcases h5 with ⟨hx, hy, h6⟩ | ⟨hx, hy, h6⟩
  · refine .inr ⟨hy, ?_, ?_⟩
    · have := Int.mul_nonneg hq hy; omega
    · rw [← e]; grind
  · refine .inl ⟨hy, ?_, ?_⟩
    · have := Int.mul_nonneg hq (show 0 ≤ -y by omega); grind
    · rw [← e]; grind
theorem invL_bound (m a : Int) (h : 0 < m) : 0 ≤ invL m a ∧ invL m a < m := emod_b _ m h
theorem gcd_step (a b : Nat) : Nat.gcd b (a % b) = Nat.gcd a b := by rw [Nat.gcd_comm a b, Nat.gcd_rec b a, Nat.gcd_comm]
theorem pow_emod_l (a m : Int) (j : Nat) : (a % m) ^ j % m = a ^ j % m := by
  induction j with
  | zero => simp
  | succ j ih => rw [Int.pow_succ, Int.pow_succ, Int.mul_emod, ih, Int.emod_emod, ← Int.mul_emod]
theorem sq_pow (a : Int) (j : Nat) : (a * a) ^ j = a ^ (2 * j) := by
  rw [Int.pow_mul]; congr 1; rw [Int.pow_succ, Int.pow_succ, Int.pow_zero, Int.one_mul]
theorem pw_even (out a m : Int) (k : Nat) (h : k % 2 = 0) : out * (a * a % m) ^ (k / 2) % m = out * a ^ k % m := by
  rw [← mul_emod_r, pow_emod_l, mul_emod_r, sq_pow, show 2 * (k / 2) = k by omega]
theorem pw_odd (out a m : Int) (k : Nat) (h : k % 2 = 1) : (out * a % m) * (a * a % m) ^ (k / 2) % m = out * a ^ k % m := by
  rw [mul_emod_l, ← mul_emod_r, pow_emod_l, mul_emod_r, sq_pow, Int.mul_assoc, ← Int.pow_succ', show 2 * (k / 2) + 1 = k by omega]
theorem nat_tmod2 (k : Nat) : (k : Int).tmod 2 = ((k % 2 : Nat) : Int) := by rw [tm _ _ (by omega)]; omega
theorem nat_tdiv2 (k : Nat) : (k : Int).tdiv 2 = ((k / 2 : Nat) : Int) := by rw [Int.tdiv_eq_ediv_of_nonneg (by omega)]; omega
-- Plain laws: powers of series. No program.
def oneL (d : Nat) : List Int := tab (d + 1) (fun j => if j = 0 then 1 else 0)
theorem oneL_length (d : Nat) : (oneL d).length = d + 1 := tab_length _ _
theorem oneL_num {m : Int} (d : Nat) (hm : 1 < m) : ∀ x ∈ oneL d, 0 ≤ x ∧ x < m := by
  intro x hx
  obtain ⟨i, _, rfl⟩ := mem_tab.1 hx
  split <;> omega
def pwL (m : Int) (d : Nat) (out a : List Int) (k : Nat) : List Int :=
  if h : k = 0 then out else pwL m d (if k % 2 = 1 then timesL m out a d else out) (timesL m a a d) (k / 2)
  termination_by k
  decreasing_by omega
theorem pwL_zero {m : Int} {d : Nat} {out a : List Int} : pwL m d out a 0 = out := by rw [pwL, dif_pos rfl]
theorem pwL_odd {m : Int} {d : Nat} {out a : List Int} {k : Nat} (h : k % 2 = 1) : pwL m d out a k = pwL m d (timesL m out a d) (timesL m a a d) (k / 2) := by
  rw [pwL, dif_neg (by omega), if_pos h]
theorem pwL_even {m : Int} {d : Nat} {out a : List Int} {k : Nat} (h0 : 0 < k) (h : k % 2 = 0) : pwL m d out a k = pwL m d out (timesL m a a d) (k / 2) := by
  rw [pwL, dif_neg (by omega), if_neg (by omega)]
def powL (m : Int) (a : List Int) (k d : Nat) : List Int := pwL m d (oneL d) a k
theorem pwL_facts {m : Int} {d : Nat} (hm : 0 < m) (k : Nat) : ∀ {out a : List Int}, out.length = d + 1 → (∀ x ∈ out, 0 ≤ x ∧ x < m) → (pwL m d out a k).length = d + 1 ∧ ∀ x ∈ pwL m d out a k, 0 ≤ x ∧ x < m := by
  induction k using Nat.strongRecOn with
  | _ k ih =>
    intro out a h1 h2
    rcases Nat.eq_zero_or_pos k with e | e
    · subst e; rw [pwL_zero]; exact ⟨h1, h2⟩
    · by_cases h : k % 2 = 1
      · rw [pwL_odd h]; exact ih _ (by omega) (timesL_length _ _ _ _) (timesL_num _ _ _ _ hm)
      · rw [pwL_even e (by omega)]; exact ih _ (by omega) h1 h2
theorem powL_length {m : Int} (hm : 1 < m) (a : List Int) (k d : Nat) : (powL m a k d).length = d + 1 := (pwL_facts (by omega) k (oneL_length d) (oneL_num d hm)).1
theorem powL_num {m : Int} (hm : 1 < m) (a : List Int) (k d : Nat) : ∀ x ∈ powL m a k d, 0 ≤ x ∧ x < m := (pwL_facts (by omega) k (oneL_length d) (oneL_num d hm)).2
-- Plain laws: inverses of series. No program.
def iC (m u : Int) (a : Nat → Int) (n : Nat) (o : List Int) : Int := if n = 0 then u else (-(sm n (fun i => a (i + 1) * at' o (n - 1 - i))) * u) % m
/-- The first coefficients of the inverse. -/
def iL (m u : Int) (a : Nat → Int) : Nat → List Int
  | 0 => []
  | n + 1 => iL m u a n ++ [iC m u a n (iL m u a n)]
theorem iL_length (m u : Int) (a : Nat → Int) (n : Nat) : (iL m u a n).length = n := by
  induction n with
  | zero => rfl
  | succ n ih => simp [iL, ih]
theorem iL_num {m u : Int} (a : Nat → Int) (n : Nat) (hm : 0 < m) (hu : 0 ≤ u ∧ u < m) : ∀ x ∈ iL m u a n, 0 ≤ x ∧ x < m := by
  induction n with
  | zero => intro x hx; simp [iL] at hx
  | succ n ih =>
    intro x hx
    simp only [iL, List.mem_append, List.mem_singleton] at hx
    rcases hx with h | h
    · exact ih x h
    · subst h
      unfold iC
      split
      · exact hu
      · exact emod_b _ m hm
theorem iL_one (m u : Int) (a : Nat → Int) : iL m u a 1 = [u] := rfl
theorem at_snoc {l : List Int} {x : Int} {i : Nat} : at' (l ++ [x]) i = if i < l.length then at' l i else if i = l.length then x else 0 := by
  unfold at'
  rw [List.getD_eq_getElem?_getD, List.getD_eq_getElem?_getD, List.getElem?_append]
  split
  · rfl
  · rename_i h
    by_cases e : i = l.length
    · subst e; simp
    · rw [if_neg e, List.getElem?_eq_none (by simp; omega)]; rfl
theorem iL_pad (m u : Int) (a : Nat → Int) (n d j : Nat) (hn : n < d + 1) : (if j = n then iC m u a n (iL m u a n) else at' (iL m u a n) j) = at' (iL m u a (n + 1)) j := by
  simp only [iL]
  rw [at_snoc, iL_length]
  by_cases e : j = n
  · subst e; rw [if_pos rfl, if_neg (by omega), if_pos rfl]
  · rw [if_neg e]
    split
    · rfl
    · exact at_out (by rw [iL_length]; omega)
/-- What a product with the padded coefficients has at the next place. -/
theorem cv_pad {m u : Int} {a : Nat → Int} {n d : Nat} (h0 : 0 < n) (hn : n ≤ d) : cv a (at' (tab (d + 1) (at' (iL m u a n)))) n = sm n (fun i => a (i + 1) * at' (iL m u a n) (n - 1 - i)) := by
  unfold cv
  rw [sm_succ_left]
  have e0 : at' (tab (d + 1) (at' (iL m u a n))) n = 0 := by rw [at_tab (by omega), at_out (by rw [iL_length]; omega)]
  rw [Nat.sub_zero, e0, Int.mul_zero, Int.zero_add]
  exact sm_congr fun i hi => by rw [at_tab (by omega), show n - (i + 1) = n - 1 - i by omega]
theorem neg_mod1 (S u m : Int) : (0 - S % m * u % m) % m = (-S * u) % m := by
  have h1 := Int.emod_add_mul_ediv S m
  have h2 := Int.emod_add_mul_ediv (S % m * u) m
  refine Int.emod_eq_emod_iff_emod_sub_eq_zero.2 (Int.emod_eq_zero_of_dvd ⟨(S / m) * u + (S % m * u) / m, ?_⟩)
  grind
theorem iC_eq {m u : Int} {a : Nat → Int} {n : Nat} {o : List Int} (h0 : 0 < n) {s : Int} (hs : s = sm n (fun i => a (i + 1) * at' o (n - 1 - i)) % m) : (0 - s * u % m) % m = iC m u a n o := by
  unfold iC
  rw [if_neg (by omega), hs, neg_mod1]
theorem sm_tail {n c : Nat} {f : Nat → Int} (hc : c ≤ n) (h : ∀ i, c ≤ i → i < n → f i = 0) : sm n f = sm c f := by
  obtain ⟨k, rfl⟩ : ∃ k, n = c + k := ⟨n - c, by omega⟩
  clear hc
  induction k with
  | zero => rfl
  | succ k ih => rw [show c + (k + 1) = (c + k) + 1 by omega, sm, ih (fun i h1 h2 => h i h1 (by omega)), h (c + k) (by omega) (by omega), Int.add_zero]
theorem tab_iL (m u : Int) (a : Nat → Int) (n : Nat) : tab n (at' (iL m u a n)) = iL m u a n := by
  have := tab_self (iL m u a n)
  rw [iL_length] at this
  exact this
theorem intL_snoc (l : List Int) (x : Int) : intL l ++ [T.int .i64 x] = intL (l ++ [x]) := by simp [intL]
/-- The inverse of a list of coefficients. -/
def invS (m : Int) (a : List Int) (d : Nat) : List Int := iL m (invL m (at' a 0)) (at' a) (d + 1)
-- Plain laws: a list spread out. No program.
def spF (a : Nat → Int) (n c j : Nat) : Int := if j % n = 0 ∧ j / n < c then a (j / n) else 0
theorem spF_set {a : Nat → Int} {n c : Nat} (hn : 0 < n) (j : Nat) : (if j = c * n then a c else spF a n c j) = spF a n (c + 1) j := by
  unfold spF
  by_cases e : j = c * n
  · subst e
    rw [if_pos rfl, if_pos ⟨Nat.mul_mod_left _ _, by rw [Nat.mul_div_cancel _ hn]; omega⟩, Nat.mul_div_cancel _ hn]
  · rw [if_neg e]
    by_cases h : j % n = 0 ∧ j / n < c
    · rw [if_pos h, if_pos ⟨h.1, by omega⟩]
    · rw [if_neg h, if_neg]
      rintro ⟨h1, h2⟩
      refine h ⟨h1, ?_⟩
      rcases Nat.lt_or_ge (j / n) c with h3 | h3
      · exact h3
      · have h4 : j / n = c := by omega
        exact absurd (by have := Nat.div_add_mod j n; rw [h1, h4, Nat.add_zero] at this; rw [← this, Nat.mul_comm]) e
theorem spF_over {a : Nat → Int} {n c d j : Nat} (hn : 0 < n) (hd : d < c * n) (hj : j ≤ d) : spF a n (c + 1) j = spF a n c j := by
  rw [← spF_set hn, if_neg (by omega)]
def spreadL (l : List Int) (n d : Nat) : List Int := tab (d + 1) (fun j => if j % n = 0 then at' l (j / n) else 0)
theorem spreadL_length (l : List Int) (n d : Nat) : (spreadL l n d).length = d + 1 := tab_length _ _
theorem spread_of {l : List Int} {n c d : Nat} (hn : 0 < n) (h : l.length ≤ c ∨ d < c * n) : tab (d + 1) (spF (at' l) n c) = spreadL l n d := by
  refine tab_congr fun j hj => ?_
  unfold spF
  by_cases h1 : j % n = 0
  · rw [if_pos h1]
    rcases Nat.lt_or_ge (j / n) c with h2 | h2
    · rw [if_pos ⟨h1, h2⟩]
    · rw [if_neg (fun h3 => by omega)]
      rcases h with h | h
      · rw [at_out (by omega)]
      · have : c * n ≤ j := by
          have := Nat.mul_le_of_le_div n c j h2
          exact this
        omega
  · rw [if_neg h1, if_neg (fun h => h1 h.1)]
-- Plain laws: coordinates of big vectors. No program.
theorem geo_num {m z : Int} {n d : Nat} (hm : 0 < m) : ∀ x ∈ geo m z n d, 0 ≤ x ∧ x < m := by
  intro x hx
  obtain ⟨i, _, rfl⟩ := mem_tab.1 hx
  split
  · exact emod_b _ m hm
  · omega
theorem sm_one {k p : Nat} {f : Nat → Int} (hp : p < k) (h : ∀ i, i < k → i ≠ p → f i = 0) : sm k f = f p := by
  have h1 : sm k f = sm (p + 1) f := sm_tail (by omega) (fun i h1 h2 => h i h2 (by omega))
  rw [h1, sm, sm_zero (fun i hi => h i (by omega) (by omega)), Int.zero_add]
theorem sm_two {k p q : Nat} {f : Nat → Int} (hp : p < q) (hq : q < k) (h : ∀ i, i < k → i ≠ p → i ≠ q → f i = 0) : sm k f = f p + f q := by
  have h1 : sm k f = sm (q + 1) f := sm_tail (by omega) (fun i h1 h2 => h i h2 (by omega) (by omega))
  rw [h1, sm, sm_one hp (fun i hi hne => h i (by omega) hne (by omega))]
def omF (m x : Int) (n j : Nat) : Int := if j = 0 then 1 else if j = n then (m - x) % m else 0
/-- 1 - x t^n. -/
def omL (m x : Int) (n d : Nat) : List Int := tab (d + 1) (omF m x n)
theorem omL_length (m x : Int) (n d : Nat) : (omL m x n d).length = d + 1 := tab_length _ _
theorem omL_num {m x : Int} {n d : Nat} (hm : 1 < m) : ∀ y ∈ omL m x n d, 0 ≤ y ∧ y < m := by
  intro y hy
  obtain ⟨i, _, rfl⟩ := mem_tab.1 hy
  unfold omF
  split
  · omega
  · split
    · exact emod_b _ m (by omega)
    · omega
theorem invL_one {m : Int} (hm : 1 < m) : invL m 1 = 1 := by
  unfold invL
  have e : (1 : Int) % m = 1 := Int.emod_eq_of_lt (by omega) hm
  rw [e, eu_step (by omega), eu_end (by rw [Int.emod_one]; omega), e]
theorem om_next {m x : Int} {n d k : Nat} (hm : 1 < m) (hx : 0 ≤ x ∧ x < m) (hn : 0 < n) (h0 : 0 < k) (hk : k ≤ d) : iC m 1 (at' (geo m x n d)) k (tab k (omF m x n)) = omF m x n k := by
  unfold iC
  rw [if_neg (by omega), Int.mul_one]
  have hg : ∀ i, i < k → at' (geo m x n d) (i + 1) = if (i + 1) % n = 0 then x ^ ((i + 1) / n) % m else 0 := fun i hi => at_tab (by omega)
  have ho : ∀ i, i < k → at' (tab k (omF m x n)) (k - 1 - i) = omF m x n (k - 1 - i) := fun i hi => at_tab (by omega)
  rw [sm_congr (g := fun i => (if (i + 1) % n = 0 then x ^ ((i + 1) / n) % m else 0) * omF m x n (k - 1 - i)) (fun i hi => by rw [hg i hi, ho i hi])]
  have hom : ∀ i, i < k → i ≠ k - 1 → k - 1 - i ≠ n → omF m x n (k - 1 - i) = 0 := fun i h1 h2 h3 => by
    unfold omF; rw [if_neg (by omega), if_neg h3]
  rcases Nat.lt_trichotomy k n with h1 | h1 | h1
  · rw [sm_zero]
    · unfold omF; rw [if_neg (by omega), if_neg (by omega)]; simp
    · intro i hi
      rw [if_neg (by rw [Nat.mod_eq_of_lt (by omega)]; omega), Int.zero_mul]
  · rw [sm_one (p := k - 1) (by omega) (fun i hi hne => by rw [hom i hi hne (by omega), Int.mul_zero])]
    subst h1
    rw [Nat.sub_self, show k - 1 + 1 = k by omega, Nat.mod_self, if_pos rfl, Nat.div_self h0, Int.pow_succ, Int.pow_zero, Int.one_mul, Int.emod_eq_of_lt hx.1 hx.2]
    unfold omF
    rw [if_pos rfl, if_neg (by omega), if_pos rfl, Int.mul_one, show m - x = -x + m by omega, Int.add_emod_right]
  · have e0 : omF m x n k = 0 := by unfold omF; rw [if_neg (by omega), if_neg (by omega)]
    rw [e0, sm_two (p := k - 1 - n) (q := k - 1) (by omega) (by omega) (fun i hi h2 h3 => by rw [hom i hi h3 (by omega), Int.mul_zero])]
    rw [show k - 1 - (k - 1 - n) = n by omega, Nat.sub_self, show k - 1 - n + 1 = k - n by omega, show k - 1 + 1 = k by omega]
    have f0 : omF m x n 0 = 1 := rfl
    have f1 : omF m x n n = (m - x) % m := by unfold omF; rw [if_neg (by omega), if_pos rfl]
    rw [f0, f1]
    have em : (k - n) % n = k % n := by
      have := Nat.sub_mul_mod (x := k) (k := 1) (n := n) (by omega)
      rwa [Nat.mul_one] at this
    by_cases hd : k % n = 0
    · rw [em, if_pos hd, if_pos hd, Int.mul_one]
      have ed : k / n = (k - n) / n + 1 := by rw [Nat.div_eq_sub_div hn (by omega)]
      rw [ed, Int.pow_succ]
      generalize x ^ ((k - n) / n) = y
      apply Int.emod_eq_zero_of_dvd
      have h1 := Int.emod_add_mul_ediv y m
      have h2 := Int.emod_add_mul_ediv (m - x) m
      have h3 := Int.emod_add_mul_ediv (y * x) m
      exact ⟨-((y % m) - (y % m) * ((m - x) / m) + (y / m) * x - (y * x) / m), by grind⟩
    · rw [em, if_neg hd, if_neg hd]; simp
theorem inv_geo {m x : Int} {n d : Nat} (hm : 1 < m) (hx : 0 ≤ x ∧ x < m) (hn : 0 < n) : invS m (geo m x n d) d = omL m x n d := by
  have e1 : at' (geo m x n d) 0 = 1 := by
    rw [geo, at_tab (by omega), Nat.zero_mod, if_pos rfl, Nat.zero_div, Int.pow_zero, Int.emod_eq_of_lt (by omega) hm]
  unfold invS omL
  rw [e1, invL_one hm]
  have : ∀ k, k ≤ d + 1 → iL m 1 (at' (geo m x n d)) k = tab k (omF m x n) := by
    intro k
    induction k with
    | zero => intro _; rfl
    | succ k ih =>
      intro hk
      rw [iL, ih (by omega)]
      refine tab_succ' ?_
      rcases Nat.eq_zero_or_pos k with e | e
      · subst e; rfl
      · exact om_next hm hx hn e (by omega)
  exact this (d + 1) (Nat.le_refl _)
/-- What is left behind the first coordinates. -/
def cR (m : Int) (d : Nat) (a : List Int) : Nat → List Int
  | 0 => a
  | c + 1 => timesL m (cR m d a c) (omL m (at' (cR m d a c) (c + 1)) (c + 1) d) d
theorem cR_facts {m : Int} {d : Nat} {a : List Int} (hm : 1 < m) (ha : a.length = d + 1) (ha2 : ∀ x ∈ a, 0 ≤ x ∧ x < m) (c : Nat) : (cR m d a c).length = d + 1 ∧ ∀ x ∈ cR m d a c, 0 ≤ x ∧ x < m := by
  cases c with
  | zero => exact ⟨ha, ha2⟩
  | succ c => exact ⟨timesL_length _ _ _ _, timesL_num _ _ _ _ (by omega)⟩
/-- The coordinates of a big vector. -/
def cL (m : Int) (a : List Int) (d : Nat) : List Int := tab d (fun c => at' (cR m d a c) (c + 1))
theorem cL_length (m : Int) (a : List Int) (d : Nat) : (cL m a d).length = d := tab_length _ _
theorem cL_num {m : Int} {d : Nat} {a : List Int} (hm : 1 < m) (ha : a.length = d + 1) (ha2 : ∀ x ∈ a, 0 ≤ x ∧ x < m) : ∀ x ∈ cL m a d, 0 ≤ x ∧ x < m := by
  intro x hx
  obtain ⟨i, _, rfl⟩ := mem_tab.1 hx
  exact at_bound (cR_facts hm ha ha2 i).2 (by omega) _
-- Plain laws: ghost components. No program.
def ghF (x : List Int) (n e : Nat) : Int := if n % (e + 1) = 0 then ((e + 1 : Nat) : Int) * at' x e ^ (n / (e + 1)) else 0
def ghL (m : Int) (x : List Int) (d : Nat) : List Int := tab d (fun i => sm (i + 1) (ghF x (i + 1)) % m)
theorem nat_tdiv (a b : Nat) : (a : Int).tdiv b = ((a / b : Nat) : Int) := by rw [Int.tdiv_eq_ediv_of_nonneg (by omega)]; simp
-- Plain laws: the Frobenius of a big vector. No program.
def fL (m : Int) (N d2 : Nat) (x : List Int) : Nat → List Int
  | 0 => oneL d2
  | c + 1 => if (c + 1) / Nat.gcd N (c + 1) ≤ d2 then timesL m (fL m N d2 x c) (powL m (geo m (at' x c ^ (N / Nat.gcd N (c + 1)) % m) ((c + 1) / Nat.gcd N (c + 1)) d2) (Nat.gcd N (c + 1)) d2) d2 else fL m N d2 x c
theorem fL_facts {m : Int} (hm : 1 < m) (N d2 : Nat) (x : List Int) (c : Nat) : (fL m N d2 x c).length = d2 + 1 ∧ ∀ y ∈ fL m N d2 x c, 0 ≤ y ∧ y < m := by
  induction c with
  | zero => exact ⟨oneL_length _, oneL_num _ hm⟩
  | succ c ih =>
    unfold fL
    split
    · exact ⟨timesL_length _ _ _ _, timesL_num _ _ _ _ (by omega)⟩
    · exact ih
-- Plain laws: the product of big vectors. No program.
def numL (m : Int) (d : Nat) (l : List Int) : Prop := l.length = d + 1 ∧ ∀ z ∈ l, 0 ≤ z ∧ z < m
-- Plain laws: power series. No program.
/-- A triangle of numbers, added by rows or by the other side. -/
theorem sm_tri (n : Nat) (F : Nat → Nat → Int) : sm (n + 1) (fun i => sm (i + 1) (fun j => F i j)) = sm (n + 1) (fun j => sm (n - j + 1) (fun k => F (j + k) j)) := by
  induction n with
  | zero => simp [sm]
  | succ n ih =>
    have hL : sm (n + 1 + 1) (fun i => sm (i + 1) (fun j => F i j)) = sm (n + 1) (fun i => sm (i + 1) (fun j => F i j)) + sm (n + 1 + 1) (fun j => F (n + 1) j) := rfl
    have hR : sm (n + 1 + 1) (fun j => sm (n + 1 - j + 1) (fun k => F (j + k) j)) = sm (n + 1) (fun j => sm (n + 1 - j + 1) (fun k => F (j + k) j)) + sm (n + 1 - (n + 1) + 1) (fun k => F (n + 1 + k) (n + 1)) := rfl
    rw [hL, hR, ih]
    have h1 : sm (n + 1) (fun j => sm (n + 1 - j + 1) (fun k => F (j + k) j)) = sm (n + 1) (fun j => sm (n - j + 1) (fun k => F (j + k) j) + F (n + 1) j) := by
      refine sm_congr fun j hj => ?_
      rw [show n + 1 - j + 1 = (n - j + 1) + 1 by omega, sm]
      congr 1
      rw [show j + (n - j + 1) = n + 1 by omega]
    rw [h1, sm_add, Nat.sub_self]
    have h2 : sm (n + 1 + 1) (fun j => F (n + 1) j) = sm (n + 1) (fun j => F (n + 1) j) + F (n + 1) (n + 1) := rfl
    rw [h2]
    have h3 : sm (0 + 1) (fun k => F (n + 1 + k) (n + 1)) = F (n + 1) (n + 1) := by simp [sm]
    rw [h3]
    have h4 : sm (n + 1) (fun j => F (n + 1) j) = sm (n + 1) (F (n + 1)) := rfl
    omega
theorem cv_comm (f g : Nat → Int) : cv f g = cv g f := by
  funext n
  unfold cv
  rw [sm_rev]
  refine sm_congr fun i hi => ?_
  rw [show n + 1 - 1 - i = n - i by omega, show n - (n - i) = i by omega, Int.mul_comm]
theorem cv_assoc (f g h : Nat → Int) : cv (cv f g) h = cv f (cv g h) := by
  funext n
  unfold cv
  have h1 : sm (n + 1) (fun i => sm (i + 1) (fun i_1 => f i_1 * g (i - i_1)) * h (n - i)) = sm (n + 1) (fun i => sm (i + 1) (fun j => f j * g (i - j) * h (n - i))) :=
    sm_congr fun i _ => (sm_mul_right _ _ _).symm
  rw [h1, sm_tri n (fun i j => f j * g (i - j) * h (n - i))]
  refine sm_congr fun j hj => ?_
  rw [← sm_mul]
  refine sm_congr fun k hk => ?_
  rw [show j + k - j = k by omega, show n - (j + k) = n - j - k by omega, Int.mul_assoc]
theorem cv_add_left (f g h : Nat → Int) : cv (fun i => f i + g i) h = fun n => cv f h n + cv g h n := by
  funext n
  unfold cv
  rw [← sm_add]
  exact sm_congr fun i _ => Int.add_mul _ _ _
def oneF (n : Nat) : Int := if n = 0 then 1 else 0
theorem cv_one_left (f : Nat → Int) : cv oneF f = f := by
  funext n
  unfold cv
  rw [sm_succ_left, sm_zero (fun i _ => by simp [oneF])]
  simp [oneF]
theorem cv_one_right (f : Nat → Int) : cv f oneF = f := by rw [cv_comm, cv_one_left]
/-- Powers of a power series. -/
def pwF (f : Nat → Int) : Nat → Nat → Int
  | 0 => oneF
  | k + 1 => cv (pwF f k) f
theorem pwF_add (f : Nat → Int) (j k : Nat) : pwF f (j + k) = cv (pwF f j) (pwF f k) := by
  induction k with
  | zero => exact (cv_one_right _).symm
  | succ k ih => rw [← Nat.add_assoc, pwF, ih, pwF, cv_assoc]
theorem pwF_one (f : Nat → Int) : pwF f 1 = f := cv_one_left f
theorem pwF_mul (f : Nat → Int) (j k : Nat) : pwF f (j * k) = pwF (pwF f j) k := by
  induction k with
  | zero => rfl
  | succ k ih => rw [Nat.mul_succ, pwF_add, ih, pwF]
theorem pwF_sq (f : Nat → Int) (k : Nat) : pwF (cv f f) k = pwF f (2 * k) := by
  have : cv f f = pwF f 2 := by rw [pwF, pwF_one]
  rw [this, pwF_mul]
/-- Equal modulo m up to degree d. -/
def eqm (m : Int) (d : Nat) (f g : Nat → Int) : Prop := ∀ n, n ≤ d → f n % m = g n % m
theorem eqm.rfl' {m : Int} {d : Nat} {f : Nat → Int} : eqm m d f f := fun _ _ => rfl
theorem eqm.symm {m : Int} {d : Nat} {f g : Nat → Int} (h : eqm m d f g) : eqm m d g f := fun n hn => (h n hn).symm
theorem eqm.trans {m : Int} {d : Nat} {f g h : Nat → Int} (h1 : eqm m d f g) (h2 : eqm m d g h) : eqm m d f h := fun n hn => (h1 n hn).trans (h2 n hn)
theorem eqm.of_eq {m : Int} {d : Nat} {f g : Nat → Int} (h : f = g) : eqm m d f g := h ▸ eqm.rfl'
theorem eqm.mono {m : Int} {d e : Nat} {f g : Nat → Int} (h : eqm m d f g) (he : e ≤ d) : eqm m e f g := fun n hn => h n (by omega)
theorem emod_mul_congr {a a' b b' m : Int} (h1 : a % m = a' % m) (h2 : b % m = b' % m) : a * b % m = a' * b' % m := by
  rw [Int.mul_emod, h1, h2, ← Int.mul_emod]
theorem emod_add_congr {a a' b b' m : Int} (h1 : a % m = a' % m) (h2 : b % m = b' % m) : (a + b) % m = (a' + b') % m := by
  rw [Int.add_emod, h1, h2, ← Int.add_emod]
theorem emod_sub_congr {a a' b b' m : Int} (h1 : a % m = a' % m) (h2 : b % m = b' % m) : (a - b) % m = (a' - b') % m := by
  rw [Int.sub_emod, h1, h2, ← Int.sub_emod]
theorem eqm.cv {m : Int} {d : Nat} {f f' g g' : Nat → Int} (h1 : eqm m d f f') (h2 : eqm m d g g') : eqm m d (cv f g) (cv f' g') := fun n hn =>
  sm_emod fun i hi => emod_mul_congr (h1 i (by omega)) (h2 (n - i) (by omega))
theorem eqm.pw {m : Int} {d : Nat} {f f' : Nat → Int} (h : eqm m d f f') (k : Nat) : eqm m d (pwF f k) (pwF f' k) := by
  induction k with
  | zero => exact eqm.rfl'
  | succ k ih => exact ih.cv h
theorem eqm.add {m : Int} {d : Nat} {f f' g g' : Nat → Int} (h1 : eqm m d f f') (h2 : eqm m d g g') : eqm m d (fun n => f n + g n) (fun n => f' n + g' n) := fun n hn => emod_add_congr (h1 n hn) (h2 n hn)
theorem eqm_times (m : Int) (a b : List Int) (d : Nat) : eqm m d (at' (timesL m a b d)) (cv (at' a) (at' b)) := fun n hn => by
  rw [timesL, at_tab (by omega), Int.emod_emod]
theorem at_oneL (d n : Nat) (h : n ≤ d) : at' (oneL d) n = oneF n := by rw [oneL, at_tab (by omega)]; rfl
theorem eqm_one (m : Int) (d : Nat) : eqm m d (at' (oneL d)) oneF := fun n hn => by rw [at_oneL d n hn]
theorem eqm_pw (m : Int) (d : Nat) (k : Nat) : ∀ (out a : List Int), eqm m d (at' (pwL m d out a k)) (cv (at' out) (pwF (at' a) k)) := by
  induction k using Nat.strongRecOn with
  | _ k ih =>
    intro out a
    rcases Nat.eq_zero_or_pos k with e | e
    · subst e; rw [pwL_zero]; exact eqm.of_eq (cv_one_right _).symm
    · have h2 : eqm m d (pwF (at' (timesL m a a d)) (k / 2)) (pwF (at' a) (2 * (k / 2))) := by
        rw [← pwF_sq]; exact (eqm_times m a a d).pw _
      by_cases h : k % 2 = 1
      · rw [pwL_odd h]
        refine (ih _ (by omega) _ _).trans (((eqm_times m out a d).cv h2).trans (eqm.of_eq ?_))
        rw [cv_assoc, cv_comm (at' a), ← pwF, show (2 * (k / 2)).succ = k by omega]
      · rw [pwL_even e (by omega)]
        refine (ih _ (by omega) _ _).trans ((eqm.rfl'.cv h2).trans (eqm.of_eq ?_))
        rw [show 2 * (k / 2) = k by omega]
theorem eqm_pow (m : Int) (a : List Int) (k d : Nat) : eqm m d (at' (powL m a k d)) (pwF (at' a) k) :=
  (eqm_pw m d k _ _).trans (((eqm_one m d).cv eqm.rfl').trans (eqm.of_eq (cv_one_left _)))

end Go.Proofs.Ytahnnangdepkbaa
