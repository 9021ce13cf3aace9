/-
  Plain laws: inverses of series. No program.
-/
import Derived.Test.YtccjfbfebgfgoaaPd
namespace Go.Proofs.Ytccjfbfebgfgoaa
open Go.RowKit
set_option linter.unusedSimpArgs false
set_option linter.unusedVariables false
set_option linter.unusedSectionVars false
set_option maxRecDepth 20000
-- Plain laws: inverses of series. No program.
def iC (m u : Int) (a : Nat → Int) (n : Nat) (o : List Int) : Int := if n = 0 then u else (-(sm n (fun i => a (i + 1) * at' o (n - 1 - i))) * u) % m
/-- The first coefficients of the inverse. -/
def iL (m u : Int) (a : Nat → Int) : Nat → List Int
  | 0 => []
  | n + 1 => iL m u a n ++ [iC m u a n (iL m u a n)]
theorem iL_length (m u : Int) (a : Nat → Int) (n : Nat) : (iL m u a n).length = n := by
  induction n with
  | zero => rfl
  | succ n ih => simp [iL, ih]
theorem iL_num {m u : Int} (a : Nat → Int) (n : Nat) (hm : 0 < m) (hu : 0 ≤ u ∧ u < m) : ∀ x ∈ iL m u a n, 0 ≤ x ∧ x < m := by
  induction n with
  | zero => intro x hx; simp [iL] at hx
  | succ n ih =>
    intro x hx
    simp only [iL, List.mem_append, List.mem_singleton] at hx
    rcases hx with h | h
    · exact ih x h
    · subst h
      unfold iC
      split
      · exact hu
      · exact emod_b _ m hm
theorem iL_one (m u : Int) (a : Nat → Int) : iL m u a 1 = [u] := rfl
theorem at_snoc {l : List Int} {x : Int} {i : Nat} : at' (l ++ [x]) i = if i < l.length then at' l i else if i = l.length then x else 0 := by
  unfold at'
  rw [List.getD_eq_getElem?_getD, List.getD_eq_getElem?_getD, List.getElem?_append]
  split
  · rfl
  · rename_i h
    by_cases e : i = l.length
    · subst e; simp
    · rw [if_neg e, List.getElem?_eq_none (by simp; omega)]; rfl
theorem iL_pad (m u : Int) (a : Nat → Int) (n d j : Nat) (hn : n < d + 1) : (if j = n then iC m u a n (iL m u a n) else at' (iL m u a n) j) = at' (iL m u a (n + 1)) j := by
  simp only [iL]
  rw [at_snoc, iL_length]
  by_cases e : j = n
  · subst e; rw [if_pos rfl, if_neg (by omega), if_pos rfl]
  · rw [if_neg e]
    split
    · rfl
    · exact at_out (by rw [iL_length]; omega)
/-- What a product with the padded coefficients has at the next place. -/
theorem cv_pad {m u : Int} {a : Nat → Int} {n d : Nat} (h0 : 0 < n) (hn : n ≤ d) : cv a (at' (tab (d + 1) (at' (iL m u a n)))) n = sm n (fun i => a (i + 1) * at' (iL m u a n) (n - 1 - i)) := by
  unfold cv
  rw [sm_succ_left]
  have e0 : at' (tab (d + 1) (at' (iL m u a n))) n = 0 := by rw [at_tab (by omega), at_out (by rw [iL_length]; omega)]
  rw [Nat.sub_zero, e0, Int.mul_zero, Int.zero_add]
  exact sm_congr fun i hi => by rw [at_tab (by omega), show n - (i + 1) = n - 1 - i by omega]
theorem neg_mod1 (S u m : Int) : (0 - S % m * u % m) % m = (-S * u) % m := by
  have h1 := Int.emod_add_mul_ediv S m
  have h2 := Int.emod_add_mul_ediv (S % m * u) m
  refine Int.emod_eq_emod_iff_emod_sub_eq_zero.2 (Int.emod_eq_zero_of_dvd ⟨(S / m) * u + (S % m * u) / m, ?_⟩)
  grind
theorem neg_mod2 (S u m : Int) : (m - S % m) * u % m = (-S * u) % m := by
  have h1 := Int.emod_add_mul_ediv S m
  refine Int.emod_eq_emod_iff_emod_sub_eq_zero.2 (Int.emod_eq_zero_of_dvd ⟨u + (S / m) * u, ?_⟩)
  grind
theorem iC_eq {m u : Int} {a : Nat → Int} {n : Nat} {o : List Int} (h0 : 0 < n) {s : Int} (hs : s = sm n (fun i => a (i + 1) * at' o (n - 1 - i)) % m) : (0 - s * u % m) % m = iC m u a n o := by
  unfold iC
  rw [if_neg (by omega), hs, neg_mod1]
theorem iC_eq2 {m u : Int} {a : Nat → Int} {n : Nat} {o : List Int} (h0 : 0 < n) {s : Int} (hs : s = sm n (fun i => a (i + 1) * at' o (n - 1 - i)) % m) : (m - s) * u % m = iC m u a n o := by
  unfold iC
  rw [if_neg (by omega), hs, neg_mod2]
theorem sm_tail {n c : Nat} {f : Nat → Int} (hc : c ≤ n) (h : ∀ i, c ≤ i → i < n → f i = 0) : sm n f = sm c f := by
  obtain ⟨k, rfl⟩ : ∃ k, n = c + k := ⟨n - c, by omega⟩
  clear hc
  induction k with
  | zero => rfl
  | succ k ih => rw [show c + (k + 1) = (c + k) + 1 by omega, sm, ih (fun i h1 h2 => h i h1 (by omega)), h (c + k) (by omega) (by omega), Int.add_zero]
theorem tab_iL (m u : Int) (a : Nat → Int) (n : Nat) : tab n (at' (iL m u a n)) = iL m u a n := by
  have := tab_self (iL m u a n)
  rw [iL_length] at this
  exact this
theorem intL_snoc (l : List Int) (x : Int) : intL l ++ [T.int .i64 x] = intL (l ++ [x]) := by simp [intL]
/-- The inverse of a list of coefficients. -/
def invS (m : Int) (a : List Int) (d : Nat) : List Int := iL m (invL m (at' a 0)) (at' a) (d + 1)
theorem invS_length (m : Int) (a : List Int) (d : Nat) : (invS m a d).length = d + 1 := iL_length _ _ _ _
theorem invS_num {m : Int} (hm : 0 < m) (a : List Int) (d : Nat) : ∀ x ∈ invS m a d, 0 ≤ x ∧ x < m := iL_num _ _ hm (invL_bound _ _ hm)
end Go.Proofs.Ytccjfbfebgfgoaa
