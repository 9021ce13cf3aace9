/-
  Plain laws: powers of series. No program.
-/
import Derived.Test.YtccjfbfebgfgoaaPb
import Derived.Test.YtccjfbfebgfgoaaPc
namespace Go.Proofs.Ytccjfbfebgfgoaa
open Go.RowKit
set_option linter.unusedSimpArgs false
set_option linter.unusedVariables false
set_option linter.unusedSectionVars false
set_option maxRecDepth 20000
-- Plain laws: powers of series. No program.
def oneL (d : Nat) : List Int := tab (d + 1) (fun j => if j = 0 then 1 else 0)
theorem oneL_length (d : Nat) : (oneL d).length = d + 1 := tab_length _ _
theorem oneL_num {m : Int} (d : Nat) (hm : 1 < m) : ∀ x ∈ oneL d, 0 ≤ x ∧ x < m := by
  intro x hx
  obtain ⟨i, _, rfl⟩ := mem_tab.1 hx
  split <;> omega
def pwL (m : Int) (d : Nat) (out a : List Int) (k : Nat) : List Int :=
  if h : k = 0 then out else pwL m d (if k % 2 = 1 then timesL m out a d else out) (timesL m a a d) (k / 2)
  termination_by k
  decreasing_by omega
theorem pwL_zero {m : Int} {d : Nat} {out a : List Int} : pwL m d out a 0 = out := by rw [pwL, dif_pos rfl]
theorem pwL_odd {m : Int} {d : Nat} {out a : List Int} {k : Nat} (h : k % 2 = 1) : pwL m d out a k = pwL m d (timesL m out a d) (timesL m a a d) (k / 2) := by
  rw [pwL, dif_neg (by omega), if_pos h]
theorem pwL_even {m : Int} {d : Nat} {out a : List Int} {k : Nat} (h0 : 0 < k) (h : k % 2 = 0) : pwL m d out a k = pwL m d out (timesL m a a d) (k / 2) := by
  rw [pwL, dif_neg (by omega), if_neg (by omega)]
def powL (m : Int) (a : List Int) (k d : Nat) : List Int := pwL m d (oneL d) a k
theorem pwL_facts {m : Int} {d : Nat} (hm : 0 < m) (k : Nat) : ∀ {out a : List Int}, out.length = d + 1 → (∀ x ∈ out, 0 ≤ x ∧ x < m) → (pwL m d out a k).length = d + 1 ∧ ∀ x ∈ pwL m d out a k, 0 ≤ x ∧ x < m := by
  induction k using Nat.strongRecOn with
  | _ k ih =>
    intro out a h1 h2
    rcases Nat.eq_zero_or_pos k with e | e
    · subst e; rw [pwL_zero]; exact ⟨h1, h2⟩
    · by_cases h : k % 2 = 1
      · rw [pwL_odd h]; exact ih _ (by omega) (timesL_length _ _ _ _) (timesL_num _ _ _ _ hm)
      · rw [pwL_even e (by omega)]; exact ih _ (by omega) h1 h2
theorem powL_length {m : Int} (hm : 1 < m) (a : List Int) (k d : Nat) : (powL m a k d).length = d + 1 := (pwL_facts (by omega) k (oneL_length d) (oneL_num d hm)).1
theorem powL_num {m : Int} (hm : 1 < m) (a : List Int) (k d : Nat) : ∀ x ∈ powL m a k d, 0 ≤ x ∧ x < m := (pwL_facts (by omega) k (oneL_length d) (oneL_num d hm)).2
end Go.Proofs.Ytccjfbfebgfgoaa
