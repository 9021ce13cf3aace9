/-
  Two big vectors; sums.
-/
import Derived.Test.YtoooefcjkmfhoaaLd
import Derived.Test.YtoooefcjkmfhoaaLcc
namespace Go.Proofs.Ytoooefcjkmfhoaa
open Go.RowKit
set_option linter.unusedSimpArgs false
set_option linter.unusedVariables false
set_option linter.unusedSectionVars false
set_option maxRecDepth 20000
-- Two big vectors; sums.
theorem isBig_facts {m : Int} {l : List Int} (h : isBig m l = true) : 2 ≤ l.length ∧ l.length ≤ 11 ∧ 2 ≤ m ∧ m ≤ 10000 ∧ (∀ x ∈ l, 0 ≤ x ∧ x < m) ∧ at' l 0 = 1 := by
  simp only [isBig, Bool.and_eq_true, beq_iff_eq] at h
  obtain ⟨h1, h2, h3, h4, h5⟩ := isSer_len h.1
  exact ⟨h1, h2, h3, h4, fun x hx => by have := h5 x hx; omega, h.2⟩
def alikeB (m1 : Int) (l1 : List Int) (m2 : Int) (l2 : List Int) : Bool := (m1 == m2) && (l1.length == l2.length)
def twoB (m1 : Int) (l1 : List Int) (m2 : Int) (l2 : List Int) : Int := if (isBig m1 l1 && isBig m2 l2) = true then (if alikeB m1 l1 m2 l2 = true then 0 else 2) else 1
theorem twoB_zero {m1 m2 : Int} {l1 l2 : List Int} (h : twoB m1 l1 m2 l2 = 0) : isBig m1 l1 = true ∧ isBig m2 l2 = true ∧ m2 = m1 ∧ l2.length = l1.length := by
  unfold twoB at h
  split at h
  · rename_i h1
    split at h
    · rename_i h2
      simp only [Bool.and_eq_true] at h1
      simp only [alikeB, Bool.and_eq_true, beq_iff_eq] at h2
      exact ⟨h1.1, h1.2, h2.1.symm, h2.2.symm⟩
    · cases h
  · cases h
end Go.Proofs.Ytoooefcjkmfhoaa
