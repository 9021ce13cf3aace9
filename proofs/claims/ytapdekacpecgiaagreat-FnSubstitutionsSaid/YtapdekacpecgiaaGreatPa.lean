/-
  Plain laws: tables, sums, remainders. No program.
-/
import Derived.Test.YtapdekacpecgiaaGreatTac
namespace Go.Proofs.YtapdekacpecgiaaGreat
open Go.RowKit
set_option linter.unusedSimpArgs false
set_option linter.unusedVariables false
set_option linter.unusedSectionVars false
set_option maxRecDepth 20000
-- Plain laws: tables, sums, remainders. No program.
def tab (n : Nat) (f : Nat → Int) : List Int := (List.range n).map f
theorem tab_length (n : Nat) (f : Nat → Int) : (tab n f).length = n := by simp [tab]
theorem tab_getD {n i : Nat} {f : Nat → Int} (h : i < n) : (tab n f).getD i 0 = f i := by simp [tab, List.getD_eq_getElem?_getD, h]
theorem tab_getD_out {n i : Nat} {f : Nat → Int} (h : n ≤ i) : (tab n f).getD i 0 = 0 := by
  simp [tab, List.getD_eq_getElem?_getD, Nat.not_lt.2 h]
theorem tab_congr {n : Nat} {f g : Nat → Int} (h : ∀ i, i < n → f i = g i) : tab n f = tab n g := by
  apply List.ext_getElem
  · simp [tab]
  · intro i h1 h2; simp [tab] at h1 ⊢; exact h i h1
theorem tab_set {n i : Nat} {f : Nat → Int} {v : Int} : (tab n f).set i v = tab n (fun j => if j = i then v else f j) := by
  apply List.ext_getElem
  · simp [tab]
  · intro j h1 h2
    simp only [tab, List.getElem_set, List.getElem_map, List.getElem_range]
    by_cases e : i = j
    · simp [e]
    · rw [if_neg e, if_neg (fun h => e h.symm)]
theorem tab_set' {n i : Nat} {f g : Nat → Int} {v : Int} (h : ∀ j, j < n → (if j = i then v else f j) = g j) : (tab n f).set i v = tab n g := by
  rw [tab_set]; exact tab_congr h
theorem tab_zero (n : Nat) : List.replicate n 0 = tab n (fun _ => 0) := by
  apply List.ext_getElem <;> simp [tab]
theorem tab_nil (f : Nat → Int) : tab 0 f = [] := rfl
theorem tab_succ (n : Nat) (f : Nat → Int) : tab n f ++ [f n] = tab (n + 1) f := by simp [tab, List.range_succ]
theorem tab_self (l : List Int) : tab l.length (fun i => l.getD i 0) = l := by
  apply List.ext_getElem
  · simp [tab]
  · intro i h1 h2; simp [tab, List.getD_eq_getElem?_getD, h2]
theorem eq_tab {l : List Int} {n : Nat} {f : Nat → Int} (hl : l.length = n) (h : ∀ i, i < n → l.getD i 0 = f i) : l = tab n f := by
  rw [← tab_self l, hl]; exact tab_congr h
theorem mem_tab {n : Nat} {f : Nat → Int} {x : Int} : x ∈ tab n f ↔ ∃ i, i < n ∧ f i = x := by simp [tab]
def sm : Nat → (Nat → Int) → Int
  | 0, _ => 0
  | n + 1, f => sm n f + f n
theorem sm_congr {n : Nat} {f g : Nat → Int} (h : ∀ i, i < n → f i = g i) : sm n f = sm n g := by
  induction n with
  | zero => rfl
  | succ n ih => simp only [sm]; rw [ih (fun i hi => h i (by omega)), h n (by omega)]
theorem sm_zero {n : Nat} {f : Nat → Int} (h : ∀ i, i < n → f i = 0) : sm n f = 0 := by
  induction n with
  | zero => rfl
  | succ n ih => simp only [sm]; rw [ih (fun i hi => h i (by omega)), h n (by omega)]; rfl
theorem sm_add (n : Nat) (f g : Nat → Int) : sm n (fun i => f i + g i) = sm n f + sm n g := by
  induction n with
  | zero => rfl
  | succ n ih => simp only [sm, ih]; omega
theorem sm_mul (n : Nat) (c : Int) (f : Nat → Int) : sm n (fun i => c * f i) = c * sm n f := by
  induction n with
  | zero => simp [sm]
  | succ n ih => simp only [sm, ih, Int.mul_add]
theorem sm_mul_right (n : Nat) (c : Int) (f : Nat → Int) : sm n (fun i => f i * c) = sm n f * c := by
  induction n with
  | zero => simp [sm]
  | succ n ih => simp only [sm, ih, Int.add_mul]
theorem sm_emod {n : Nat} {f g : Nat → Int} {m : Int} (h : ∀ i, i < n → f i % m = g i % m) : sm n f % m = sm n g % m := by
  induction n with
  | zero => rfl
  | succ n ih => simp only [sm]; rw [Int.add_emod, ih (fun i hi => h i (by omega)), h n (by omega), ← Int.add_emod]
theorem sm_succ_left (n : Nat) (f : Nat → Int) : sm (n + 1) f = f 0 + sm n (fun i => f (i + 1)) := by
  induction n with
  | zero => simp [sm]
  | succ n ih => rw [sm, ih, sm]; omega
theorem sm_rev (n : Nat) (f : Nat → Int) : sm n f = sm n (fun i => f (n - 1 - i)) := by
  induction n with
  | zero => rfl
  | succ n ih =>
    rw [sm_succ_left n (fun i => f (n + 1 - 1 - i)), sm, ih]
    have : sm n (fun i => f (n - 1 - i)) = sm n (fun i => f (n + 1 - 1 - (i + 1))) := sm_congr (fun i hi => by congr 1; omega)
    rw [this]; simp; omega
theorem sm_swap (n k : Nat) (f : Nat → Nat → Int) : sm n (fun i => sm k (f i)) = sm k (fun j => sm n (fun i => f i j)) := by
  induction n with
  | zero => exact (sm_zero (fun _ _ => rfl)).symm
  | succ n ih => simp only [sm, ih, sm_add]
theorem tm (x m : Int) (h : 0 ≤ x) : x.tmod m = x % m := Int.tmod_eq_emod_of_nonneg h
theorem Int.neg_lt_tmod_of_pos' (n : Int) {m : Int} (h : 0 < m) : -m < n.tmod m ∧ n.tmod m < m := by
  have h1 := Int.emod_nonneg n (show m ≠ 0 by omega)
  have h2 := Int.emod_lt_of_pos n h
  rw [Int.tmod_eq_emod]
  split
  · omega
  · rename_i hx
    have : n % m ≠ 0 := fun e => hx (.inr (Int.dvd_of_emod_eq_zero e))
    omega
theorem go_mod (n m : Int) (h : 0 < m) : (n.tmod m + m).tmod m = n % m := by
  have h1 := Int.emod_nonneg n (show m ≠ 0 by omega)
  have h2 := Int.emod_lt_of_pos n h
  have h3 : n.tmod m = n % m ∨ n.tmod m = n % m - m := by
    rw [Int.tmod_eq_emod]
    split
    · left; omega
    · right; omega
  rw [Int.tmod_eq_emod_of_nonneg (by omega)]
  rcases h3 with e | e <;> rw [e]
  · rw [Int.add_emod_right, Int.emod_emod]
  · rw [Int.sub_add_cancel, Int.emod_emod]
theorem mul_bound {x y m : Int} (hx : 0 ≤ x) (hx2 : x < m) (hy : 0 ≤ y) (hy2 : y < m) (hm : m ≤ 3000000000) : 0 ≤ x * y ∧ x * y < 9000000000000000001 := by
  have h1 := Int.mul_nonneg hx hy
  have h2 : x * y ≤ 3000000000 * 3000000000 := Int.mul_le_mul (by omega) (by omega) hy (by omega)
  omega
theorem mul_bound4 {x y m : Int} (hx : 0 ≤ x) (hx2 : x < m) (hy : 0 ≤ y) (hy2 : y < m) (hm : m ≤ 10000) : 0 ≤ x * y ∧ x * y ≤ 100000000 := by
  have h1 := Int.mul_nonneg hx hy
  have h2 : x * y ≤ 10000 * 10000 := Int.mul_le_mul (by omega) (by omega) hy (by omega)
  omega
theorem emod_b (x m : Int) (h : 0 < m) : 0 ≤ x % m ∧ x % m < m := ⟨Int.emod_nonneg x (by omega), Int.emod_lt_of_pos x h⟩
theorem mul_emod_l (a b m : Int) : (a % m) * b % m = a * b % m := by rw [Int.mul_emod, Int.emod_emod, ← Int.mul_emod]
theorem mul_emod_r (a b m : Int) : a * (b % m) % m = a * b % m := by rw [Int.mul_emod, Int.emod_emod, ← Int.mul_emod]
def cv (a b : Nat → Int) (n : Nat) : Int := sm (n + 1) (fun i => a i * b (n - i))
def at' (l : List Int) (i : Nat) : Int := l.getD i 0
-- Plain laws: products of lists of coefficients. No program.
theorem at_bound {l : List Int} {m : Int} (h : ∀ x ∈ l, 0 ≤ x ∧ x < m) (hm : 0 < m) (i : Nat) : 0 ≤ at' l i ∧ at' l i < m := by
  unfold at'
  rcases Nat.lt_or_ge i l.length with h1 | h1
  · rw [List.getD_eq_getElem?_getD]; simp only [h1, List.getElem?_eq_getElem, Option.getD_some]; exact h _ (List.getElem_mem h1)
  · rw [List.getD_eq_getElem?_getD]; simp [h1, hm]
theorem at_out {l : List Int} {i : Nat} (h : l.length ≤ i) : at' l i = 0 := by
  simp [at', List.getD_eq_getElem?_getD, h]
theorem at_tab {n i : Nat} {f : Nat → Int} (h : i < n) : at' (tab n f) i = f i := tab_getD h
def pr (a b : Nat → Int) (m : Int) (i n : Nat) : Int := sm i (fun j => if j ≤ n then a j * b (n - j) else 0) % m
def row (a b : Nat → Int) (m : Int) (i k n : Nat) : Int := if i ≤ n ∧ n < i + k then pr a b m (i + 1) n else pr a b m i n
theorem pr_zero (a b : Nat → Int) (m : Int) (n : Nat) : pr a b m 0 n = 0 := by simp [pr, sm]
theorem row_zero (a b : Nat → Int) (m : Int) (i n : Nat) : row a b m i 0 n = pr a b m i n := by
  unfold row; rw [if_neg (by omega)]
theorem pr_succ (a b : Nat → Int) (m : Int) (i k : Nat) : (pr a b m i (i + k) + a i * b k) % m = pr a b m (i + 1) (i + k) := by
  unfold pr
  rw [Int.emod_add_emod, sm, if_pos (Nat.le_add_right i k), Nat.add_sub_cancel_left]
theorem row_at (a b : Nat → Int) (m : Int) (i k : Nat) : row a b m i k (i + k) = pr a b m i (i + k) := by
  unfold row; rw [if_neg (by omega)]
theorem row_set (a b : Nat → Int) (m : Int) (i k n : Nat) : (if n = i + k then pr a b m (i + 1) (i + k) else row a b m i k n) = row a b m i (k + 1) n := by
  unfold row
  by_cases e : n = i + k
  · subst e; rw [if_pos rfl, if_pos (by omega)]
  · rw [if_neg e]
    by_cases h : i ≤ n ∧ n < i + k
    · rw [if_pos h, if_pos (by omega)]
    · rw [if_neg h, if_neg (by omega)]
theorem pr_same {a b : Nat → Int} {m : Int} {i n : Nat} (h : i ≤ n → a i * b (n - i) = 0) : pr a b m (i + 1) n = pr a b m i n := by
  unfold pr
  rw [sm]
  by_cases g : i ≤ n
  · rw [if_pos g, h g, Int.add_zero]
  · rw [if_neg g, Int.add_zero]
theorem row_end {a b : Nat → Int} {m : Int} {i k n : Nat} (h : i + k ≤ n → a i * b (n - i) = 0) : row a b m i k n = pr a b m (i + 1) n := by
  unfold row
  by_cases g : i ≤ n ∧ n < i + k
  · rw [if_pos g]
  · rw [if_neg g, pr_same (fun h1 => h (by omega))]
theorem pr_end {a b : Nat → Int} {m : Int} {i n : Nat} (h : ∀ j, i ≤ j → j ≤ n → a j = 0) : pr a b m i n = cv a b n % m := by
  unfold pr cv
  rcases Nat.lt_or_ge n i with h1 | h1
  · obtain ⟨k, rfl⟩ := Nat.exists_eq_add_of_lt h1
    congr 1
    clear h
    induction k with
    | zero => exact sm_congr (fun j hj => if_pos (by omega))
    | succ k ih =>
      rw [show n + (k + 1) + 1 = (n + k + 1) + 1 by omega, sm, if_neg (by omega), Int.add_zero]
      exact ih (by omega)
  · obtain ⟨k, hk⟩ : ∃ k, n + 1 = i + k := ⟨n + 1 - i, by omega⟩
    rw [hk]
    congr 1
    have : ∀ k, i + k ≤ n + 1 → sm (i + k) (fun i => a i * b (n - i)) = sm i (fun j => if j ≤ n then a j * b (n - j) else 0) := by
      intro k
      induction k with
      | zero => intro _; exact sm_congr (fun j hj => (if_pos (by omega)).symm)
      | succ k ih =>
        intro hk2
        rw [show i + (k + 1) = (i + k) + 1 by omega, sm, ih (by omega), h (i + k) (by omega) (by omega), Int.zero_mul, Int.add_zero]
    exact (this k (by omega)).symm
theorem pr_bound (a b : Nat → Int) {m : Int} (hm : 0 < m) (i n : Nat) : 0 ≤ pr a b m i n ∧ pr a b m i n < m := emod_b _ m hm
def timesL (m : Int) (a b : List Int) (d : Nat) : List Int := tab (d + 1) (fun n => cv (at' a) (at' b) n % m)
theorem timesL_length (m : Int) (a b : List Int) (d : Nat) : (timesL m a b d).length = d + 1 := tab_length _ _
theorem timesL_num (m : Int) (a b : List Int) (d : Nat) (hm : 0 < m) : ∀ x ∈ timesL m a b d, 0 ≤ x ∧ x < m := by
  intro x hx
  obtain ⟨i, _, rfl⟩ := mem_tab.1 hx
  exact emod_b _ m hm
-- Plain laws: Euclid's algorithm, powers. No program.
def eu (r s x y : Int) : Int := if h : 0 < s then eu s (r % s) y (x - r / s * y) else x
  termination_by s.toNat
  decreasing_by
    have h1 := Int.emod_lt_of_pos r h
    have h2 := Int.emod_nonneg r (show s ≠ 0 by omega)
    omega
-- Plain laws: powers of series. No program.
def oneL (d : Nat) : List Int := tab (d + 1) (fun j => if j = 0 then 1 else 0)
theorem oneL_length (d : Nat) : (oneL d).length = d + 1 := tab_length _ _
theorem oneL_num {m : Int} (d : Nat) (hm : 1 < m) : ∀ x ∈ oneL d, 0 ≤ x ∧ x < m := by
  intro x hx
  obtain ⟨i, _, rfl⟩ := mem_tab.1 hx
  split <;> omega
def pwL (m : Int) (d : Nat) (out a : List Int) (k : Nat) : List Int :=
  if h : k = 0 then out else pwL m d (if k % 2 = 1 then timesL m out a d else out) (timesL m a a d) (k / 2)
  termination_by k
  decreasing_by omega
-- Plain laws: inverses of series. No program.
theorem sm_tail {n c : Nat} {f : Nat → Int} (hc : c ≤ n) (h : ∀ i, c ≤ i → i < n → f i = 0) : sm n f = sm c f := by
  obtain ⟨k, rfl⟩ : ∃ k, n = c + k := ⟨n - c, by omega⟩
  clear hc
  induction k with
  | zero => rfl
  | succ k ih => rw [show c + (k + 1) = (c + k) + 1 by omega, sm, ih (fun i h1 h2 => h i h1 (by omega)), h (c + k) (by omega) (by omega), Int.add_zero]
theorem intL_snoc (l : List Int) (x : Int) : intL l ++ [T.int .i64 x] = intL (l ++ [x]) := by simp [intL]
-- Plain laws: a list spread out. No program.
-- Plain laws: coordinates of big vectors. No program.
theorem sm_one {k p : Nat} {f : Nat → Int} (hp : p < k) (h : ∀ i, i < k → i ≠ p → f i = 0) : sm k f = f p := by
  have h1 : sm k f = sm (p + 1) f := sm_tail (by omega) (fun i h1 h2 => h i h2 (by omega))
  rw [h1, sm, sm_zero (fun i hi => h i (by omega) (by omega)), Int.zero_add]
def omF (m x : Int) (n j : Nat) : Int := if j = 0 then 1 else if j = n then (m - x) % m else 0
def omL (m x : Int) (n d : Nat) : List Int := tab (d + 1) (omF m x n)
def cR (m : Int) (d : Nat) (a : List Int) : Nat → List Int
  | 0 => a
  | c + 1 => timesL m (cR m d a c) (omL m (at' (cR m d a c) (c + 1)) (c + 1) d) d
def cL (m : Int) (a : List Int) (d : Nat) : List Int := tab d (fun c => at' (cR m d a c) (c + 1))
-- Plain laws: ghost components. No program.
-- Plain laws: the Frobenius of a big vector. No program.
-- Plain laws: the product of big vectors. No program.
-- Plain laws: power series. No program.
theorem sm_tri (n : Nat) (F : Nat → Nat → Int) : sm (n + 1) (fun i => sm (i + 1) (fun j => F i j)) = sm (n + 1) (fun j => sm (n - j + 1) (fun k => F (j + k) j)) := by
  induction n with
  | zero => simp [sm]
  | succ n ih =>
    have hL : sm (n + 1 + 1) (fun i => sm (i + 1) (fun j => F i j)) = sm (n + 1) (fun i => sm (i + 1) (fun j => F i j)) + sm (n + 1 + 1) (fun j => F (n + 1) j) := rfl
    have hR : sm (n + 1 + 1) (fun j => sm (n + 1 - j + 1) (fun k => F (j + k) j)) = sm (n + 1) (fun j => sm (n + 1 - j + 1) (fun k => F (j + k) j)) + sm (n + 1 - (n + 1) + 1) (fun k => F (n + 1 + k) (n + 1)) := rfl
    rw [hL, hR, ih]
    have h1 : sm (n + 1) (fun j => sm (n + 1 - j + 1) (fun k => F (j + k) j)) = sm (n + 1) (fun j => sm (n - j + 1) (fun k => F (j + k) j) + F (n + 1) j) := by
      refine sm_congr fun j hj => ?_
      rw [show n + 1 - j + 1 = (n - j + 1) + 1 by omega, sm]
      congr 1
      rw [show j + (n - j + 1) = n + 1 by omega]
    rw [h1, sm_add, Nat.sub_self]
    have h2 : sm (n + 1 + 1) (fun j => F (n + 1) j) = sm (n + 1) (fun j => F (n + 1) j) + F (n + 1) (n + 1) := rfl
    rw [h2]
    have h3 : sm (0 + 1) (fun k => F (n + 1 + k) (n + 1)) = F (n + 1) (n + 1) := by simp [sm]
    rw [h3]
    have h4 : sm (n + 1) (fun j => F (n + 1) j) = sm (n + 1) (F (n + 1)) := rfl
    omega
def oneF (n : Nat) : Int := if n = 0 then 1 else 0
def eqm (m : Int) (d : Nat) (f g : Nat → Int) : Prop := ∀ n, n ≤ d → f n % m = g n % m
theorem eqm.symm {m : Int} {d : Nat} {f g : Nat → Int} (h : eqm m d f g) : eqm m d g f := fun n hn => (h n hn).symm
theorem eqm.trans {m : Int} {d : Nat} {f g h : Nat → Int} (h1 : eqm m d f g) (h2 : eqm m d g h) : eqm m d f h := fun n hn => (h1 n hn).trans (h2 n hn)
theorem eqm.mono {m : Int} {d e : Nat} {f g : Nat → Int} (h : eqm m d f g) (he : e ≤ d) : eqm m e f g := fun n hn => h n (by omega)
theorem emod_mul_congr {a a' b b' m : Int} (h1 : a % m = a' % m) (h2 : b % m = b' % m) : a * b % m = a' * b' % m := by
  rw [Int.mul_emod, h1, h2, ← Int.mul_emod]
theorem emod_add_congr {a a' b b' m : Int} (h1 : a % m = a' % m) (h2 : b % m = b' % m) : (a + b) % m = (a' + b') % m := by
  rw [Int.add_emod, h1, h2, ← Int.add_emod]
theorem eqm.cv {m : Int} {d : Nat} {f f' g g' : Nat → Int} (h1 : eqm m d f f') (h2 : eqm m d g g') : eqm m d (cv f g) (cv f' g') := fun n hn =>
  sm_emod fun i hi => emod_mul_congr (h1 i (by omega)) (h2 (n - i) (by omega))
theorem eqm.add {m : Int} {d : Nat} {f f' g g' : Nat → Int} (h1 : eqm m d f f') (h2 : eqm m d g g') : eqm m d (fun n => f n + g n) (fun n => f' n + g' n) := fun n hn => emod_add_congr (h1 n hn) (h2 n hn)
theorem at_oneL (d n : Nat) (h : n ≤ d) : at' (oneL d) n = oneF n := by rw [oneL, at_tab (by omega)]; rfl
end Go.Proofs.YtapdekacpecgiaaGreat
