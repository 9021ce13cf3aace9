/-
  Plain laws: a list spread out. No program.
-/
import Derived.Test.YtccjfbfebgfgoaaPb
namespace Go.Proofs.Ytccjfbfebgfgoaa
open Go.RowKit
set_option linter.unusedSimpArgs false
set_option linter.unusedVariables false
set_option linter.unusedSectionVars false
set_option maxRecDepth 20000
-- Plain laws: a list spread out. No program.
def spF (a : Nat → Int) (n c j : Nat) : Int := if j % n = 0 ∧ j / n < c then a (j / n) else 0
theorem spF_set {a : Nat → Int} {n c : Nat} (hn : 0 < n) (j : Nat) : (if j = c * n then a c else spF a n c j) = spF a n (c + 1) j := by
  unfold spF
  by_cases e : j = c * n
  · subst e
    rw [if_pos rfl, if_pos ⟨Nat.mul_mod_left _ _, by rw [Nat.mul_div_cancel _ hn]; omega⟩, Nat.mul_div_cancel _ hn]
  · rw [if_neg e]
    by_cases h : j % n = 0 ∧ j / n < c
    · rw [if_pos h, if_pos ⟨h.1, by omega⟩]
    · rw [if_neg h, if_neg]
      rintro ⟨h1, h2⟩
      refine h ⟨h1, ?_⟩
      rcases Nat.lt_or_ge (j / n) c with h3 | h3
      · exact h3
      · have h4 : j / n = c := by omega
        exact absurd (by have := Nat.div_add_mod j n; rw [h1, h4, Nat.add_zero] at this; rw [← this, Nat.mul_comm]) e
theorem spF_over {a : Nat → Int} {n c d j : Nat} (hn : 0 < n) (hd : d < c * n) (hj : j ≤ d) : spF a n (c + 1) j = spF a n c j := by
  rw [← spF_set hn, if_neg (by omega)]
def spreadL (l : List Int) (n d : Nat) : List Int := tab (d + 1) (fun j => if j % n = 0 then at' l (j / n) else 0)
theorem spreadL_length (l : List Int) (n d : Nat) : (spreadL l n d).length = d + 1 := tab_length _ _
theorem spread_of {l : List Int} {n c d : Nat} (hn : 0 < n) (h : l.length ≤ c ∨ d < c * n) : tab (d + 1) (spF (at' l) n c) = spreadL l n d := by
  refine tab_congr fun j hj => ?_
  unfold spF
  by_cases h1 : j % n = 0
  · rw [if_pos h1]
    rcases Nat.lt_or_ge (j / n) c with h2 | h2
    · rw [if_pos ⟨h1, h2⟩]
    · rw [if_neg (fun h3 => by omega)]
      rcases h with h | h
      · rw [at_out (by omega)]
      · have : c * n ≤ j := by
          have := Nat.mul_le_of_le_div n c j h2
          exact this
        omega
  · rw [if_neg h1, if_neg (fun h => h1 h.1)]
end Go.Proofs.Ytccjfbfebgfgoaa
