/-
  Plain laws: the multiples of a point come to nothing. No program.
-/
import Derived.Test.YtmnkklkolngfoaaOd
namespace Go.Proofs.Ytmnkklkolngfoaa
open Go.RowKit
set_option linter.unusedSimpArgs false
set_option linter.unusedVariables false
set_option linter.unusedSectionVars false
set_option maxRecDepth 20000
-- Plain laws: the multiples of a point come to nothing. No program.
theorem addE_inj {p a b : Int} {f g s : List Int} (h : fieldB p = true) (hd : disc p a b ≠ 0) (hf : hasB p a b f = true) (hg : hasB p a b g = true) (hs : hasB p a b s = true)
    (e : addE p a f s = addE p a g s) : f = g := by rw [← add_back h hd hf hs, e, add_back h hd hg hs]
/-- The multiples of a point, one after the other: 1, 2, .. times. -/
def itE (p a : Int) (pt : List Int) : Nat → List Int
  | 0 => pt
  | k + 1 => addE p a (itE p a pt k) pt
theorem itE_has {p a b : Int} {pt : List Int} (h : fieldB p = true) (hs : hasB p a b pt = true) : ∀ k, hasB p a b (itE p a pt k) = true
  | 0 => hs
  | k + 1 => hasB_add h (itE_has h hs k) hs
/-- Among M + 1 values below M two are equal. -/
theorem pigeon : ∀ (M : Nat) (f : Nat → Nat), (∀ i, i ≤ M → f i < M) → ∃ i j, i < j ∧ j ≤ M ∧ f i = f j
  | 0, f, hb => absurd (hb 0 (Nat.le_refl _)) (by omega)
  | M + 1, f, hb => by
    by_cases hc : ∃ i, i < M + 1 ∧ f i = f (M + 1)
    · obtain ⟨i, h1, h2⟩ := hc
      exact ⟨i, M + 1, h1, Nat.le_refl _, h2⟩
    · -- values other than that of the last; swap it with the greatest
      have hl := hb (M + 1) (Nat.le_refl _)
      obtain ⟨i, j, h1, h2, h3⟩ := pigeon M (fun i => if f i = M then f (M + 1) else f i) (fun i hi => by
        have h1 := hb i (by omega)
        have h2 : f i ≠ f (M + 1) := fun e => hc ⟨i, by omega, e⟩
        split <;> omega)
      refine ⟨i, j, h1, by omega, ?_⟩
      have g1 : f i ≠ f (M + 1) := fun e => hc ⟨i, by omega, e⟩
      have g2 : f j ≠ f (M + 1) := fun e => hc ⟨j, by omega, e⟩
      split at h3 <;> split at h3 <;> omega
/-- The number of a point. -/
def ptNum (p : Int) (l : List Int) : Nat := if l.length = 0 then 0 else 1 + (at' l 0).toNat * p.toNat + (at' l 1).toNat
theorem ptNum_lt {p a b : Int} {l : List Int} (h : fieldB p = true) (hl : hasB p a b l = true) : ptNum p l < 9410 := by
  have hp := fieldB_facts h
  rcases hasB_cases hl with rfl | ⟨x, y, rfl⟩
  · simp [ptNum]
  · obtain ⟨gx, gy, _⟩ := (hasB_two (by omega)).1 hl
    have e : ptNum p [x, y] = 1 + x.toNat * p.toNat + y.toNat := by simp [ptNum, at']
    rw [e]
    have h1 : x.toNat * p.toNat ≤ 96 * 97 := Nat.mul_le_mul (by omega) (by omega)
    omega
theorem ptNum_inj {p a b : Int} {l m : List Int} (h : fieldB p = true) (hl : hasB p a b l = true) (hm : hasB p a b m = true) (e : ptNum p l = ptNum p m) : l = m := by
  have hp := fieldB_facts h
  rcases hasB_cases hl with rfl | ⟨x, y, rfl⟩ <;> rcases hasB_cases hm with rfl | ⟨u, v, rfl⟩
  · rfl
  · simp [ptNum, at'] at e <;> omega
  · simp [ptNum, at'] at e <;> omega
  · obtain ⟨gx, gy, _⟩ := (hasB_two (by omega)).1 hl
    obtain ⟨gu, gv, _⟩ := (hasB_two (by omega)).1 hm
    have e1 : ptNum p [x, y] = 1 + x.toNat * p.toNat + y.toNat := by simp [ptNum, at']
    have e2 : ptNum p [u, v] = 1 + u.toNat * p.toNat + v.toNat := by simp [ptNum, at']
    rw [e1, e2] at e
    have e3 : y.toNat + p.toNat * x.toNat = v.toNat + p.toNat * u.toNat := by rw [Nat.mul_comm p.toNat, Nat.mul_comm p.toNat]; omega
    have e4 : y.toNat = v.toNat := by
      have := congrArg (· % p.toNat) e3
      simp only [Nat.add_mul_mod_self_left] at this
      rwa [Nat.mod_eq_of_lt (by omega), Nat.mod_eq_of_lt (by omega)] at this
    have e5 : x.toNat = u.toNat := by
      have : p.toNat * x.toNat = p.toNat * u.toNat := by omega
      exact Nat.eq_of_mul_eq_mul_left (by omega) this
    rw [show x = u by omega, show y = v by omega]
/-- The multiples of a point come to nothing. -/
theorem itE_zero {p a b : Int} {pt : List Int} (h : fieldB p = true) (hd : disc p a b ≠ 0) (hs : hasB p a b pt = true) : ∃ N, N ≤ 9410 ∧ itE p a pt N = [] := by
  obtain ⟨i, j, h1, h2, h3⟩ := pigeon 9410 (fun k => ptNum p (itE p a pt k)) (fun k _ => ptNum_lt h (itE_has h hs k))
  have h4 := ptNum_inj h (itE_has h hs i) (itE_has h hs j) h3
  -- go back to the first multiple
  have h5 : ∀ k, k ≤ i → itE p a pt (i - k) = itE p a pt (j - k) := by
    intro k
    induction k with
    | zero => intro _; exact h4
    | succ k ih =>
      intro hk
      have e := ih (by omega)
      rw [show i - k = (i - (k + 1)) + 1 by omega, show j - k = (j - (k + 1)) + 1 by omega] at e
      exact addE_inj h hd (itE_has h hs _) (itE_has h hs _) hs e
  have h6 := h5 i (Nat.le_refl _)
  rw [Nat.sub_self, show j - i = (j - i - 1) + 1 by omega] at h6
  -- pt = (j-i) more times pt: nothing
  refine ⟨j - i - 1, by omega, ?_⟩
  have h7 : addE p a [] pt = addE p a (itE p a pt (j - i - 1)) pt := by
    rw [show addE p a [] pt = pt by simp [addE]]
    exact h6
  exact (addE_inj h hd rfl (itE_has h hs _) hs h7).symm
end Go.Proofs.Ytmnkklkolngfoaa
