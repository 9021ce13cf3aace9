/-
  Plain laws: sums of points are on the curve. No program.
-/
import Derived.Test.YtmnkklkolngfoaaOb
namespace Go.Proofs.Ytmnkklkolngfoaa
open Go.RowKit
set_option linter.unusedSimpArgs false
set_option linter.unusedVariables false
set_option linter.unusedSectionVars false
set_option maxRecDepth 20000
-- Plain laws: sums of points are on the curve. No program.
/-- A point in the program's form: a list, and its two numbers. -/
theorem hasB_two {p a b x y : Int} (hp : 0 < p) : hasB p a b [x, y] = true ↔ (0 ≤ x ∧ x < p) ∧ (0 ≤ y ∧ y < p) ∧ OnE p a b x y := by
  have e : (x ^ 3 + a * x + b) = x * x * x + a * x + b := by grind
  simp only [hasB, rightE, e, at', List.getD_cons_zero, List.getD_cons_succ, List.length_cons, List.length_nil, Nat.zero_add, Nat.reduceAdd, Bool.or_eq_true, Bool.and_eq_true, beq_iff_eq, isNum_iff, OnE, eqp_iff]
  constructor
  · rintro (h | ⟨⟨⟨_, h1⟩, h2⟩, h3⟩)
    · omega
    · exact ⟨h1, h2, h3⟩
  · rintro ⟨h1, h2, h3⟩
    exact .inr ⟨⟨⟨trivial, h1⟩, h2⟩, h3⟩
theorem hasB_cases {p a b : Int} {l : List Int} (h : hasB p a b l = true) : l = [] ∨ ∃ x y, l = [x, y] := by
  rcases hasB_ok h with h1 | h1
  · exact .inl (List.eq_nil_of_length_eq_zero h1)
  · match l, h1.1 with
    | [x, y], _ => exact .inr ⟨x, y, rfl⟩
/-- The third point, as two numbers. -/
theorem addE_two {p a x y u v : Int} (h : ¬(x = u ∧ (y + v) % p = 0)) : ∃ w z, addE p a [x, y] [u, v] = [w % p, z % p] ∧
    w = slopeE p a x y u v * slopeE p a x y u v - x - u ∧ z = slopeE p a x y u v * (x - w % p) - y := by
  refine ⟨_, _, ?_, rfl, rfl⟩
  unfold addE
  simp only [at', List.getD_cons_zero, List.getD_cons_succ, List.length_cons, List.length_nil]
  rw [if_neg (by omega), if_neg (by omega), if_neg h]
theorem y_two {p y : Int} (h : fieldB p = true) (hy : ¬ eqp p (y + y) 0) : ¬ eqp p (2 * y) 0 := by
  rwa [show 2 * y = y + y by omega]
/-- A sum of points of the curve is on the curve. -/
theorem hasB_add {p a b : Int} {f s : List Int} (h : fieldB p = true) (hf : hasB p a b f = true) (hs : hasB p a b s = true) : hasB p a b (addE p a f s) = true := by
  have hp := fieldB_facts h
  have hp0 : 0 < p := by omega
  rcases hasB_cases hf with rfl | ⟨x, y, rfl⟩
  · simpa [addE] using hs
  rcases hasB_cases hs with rfl | ⟨u, v, rfl⟩
  · simpa [addE] using hf
  by_cases hc : x = u ∧ (y + v) % p = 0
  · have : addE p a [x, y] [u, v] = [] := by
      unfold addE
      simp only [at', List.getD_cons_zero, List.getD_cons_succ, List.length_cons, List.length_nil]
      rw [if_neg (by omega), if_neg (by omega), if_pos hc]
    rw [this]
    rfl
  · obtain ⟨w, z, he, hw, hz⟩ := addE_two (p := p) (a := a) hc
    rw [he]
    obtain ⟨gx, gy, gP⟩ := (hasB_two hp0).1 hf
    obtain ⟨gu, gv, gX⟩ := (hasB_two hp0).1 hs
    refine (hasB_two hp0).2 ⟨emod_b w p hp0, emod_b z p hp0, ?_⟩
    by_cases hx : x = u
    · subst hx
      have hne : (y + v) % p ≠ 0 := fun e => hc ⟨rfl, e⟩
      have hyv := same_x h gP gX gy.1 gy.2 gv.1 gv.2 hne
      subst hyv
      have h2 : ¬ eqp p (2 * y) 0 := y_two h (fun e => hne (by have := eqp_iff.1 e; simpa using this))
      exact tang_on gP (slope_tang h h2) (by rw [hw]; exact eqp_mod p _) (by rw [hz]; exact eqp_mod p _)
    · have hs := slope_chord (a := a) (y := y) (v := v) h gx.1 gx.2 gu.1 gu.2 hx
      have hs' : eqp p (slopeE p a x y u v * (u - x)) (v - y) := by
        have e : ∀ t : Int, t * (u - x) - (v - y) = -1 * (t * (x - u) - (y - v)) := fun t => by grind
        unfold eqp
        rw [e]
        exact dvd1 _ hs
      exact chord_on h gX gP (sub_ne gu.1 gu.2 gx.1 gx.2 (Ne.symm hx)) hs' (by rw [hw]; exact eqp_mod p _) (by rw [hz]; exact eqp_mod p _)
end Go.Proofs.Ytmnkklkolngfoaa
