/-
  When a plane is a law; the first fault.
-/
import Derived.Test.YtahnnangdepkbaaKe
import Derived.Test.YtahnnangdepkbaaKf
namespace Go.Proofs.Ytahnnangdepkbaa
open Go.RowKit
set_option linter.unusedSimpArgs false
set_option linter.unusedVariables false
set_option linter.unusedSectionVars false
set_option maxRecDepth 20000
-- When a plane is a law; the first fault.
def lfS (m : Int) (n : Nat) (t : Nat → Nat → Int) (a b c : Nat) : Int := sm (n - c) (fun i => t i c * pc (pwP m n t i) a b)
def rtS (m : Int) (n : Nat) (t : Nat → Nat → Int) (a b c : Nat) : Int := sm (n - a) (fun j => t a j * pc (pwP m n t j) b c)
def ok1 (t : Nat → Nat → Int) (i : Nat) : Prop := t i 0 = if i = 1 then 1 else 0
def ok2 (n : Nat) (t : Nat → Nat → Int) (i j : Nat) : Prop := i < j → i + j < n → t i j = t j i
def ok3 (m : Int) (n : Nat) (t : Nat → Nat → Int) (a b c : Nat) : Prop := a + b + c < n → lfS m n t a b c % m = rtS m n t a b c % m
/-- The table is that of a law. -/
def IsLw (m : Int) (n : Nat) (t : Nat → Nat → Int) : Prop := (∀ i, i < n → ok1 t i) ∧ (∀ i j, ok2 n t i j) ∧ ∀ a b c, ok3 m n t a b c
/-- What tells the first fault. -/
structure FaultR (m : Int) (n : Nat) (t : Nat → Nat → Int) (r : T) : Prop where
  one : ∀ i, i < n → (∀ i', i' < i → ok1 t i') → ¬ ok1 t i → r = (.sl true 2 (intL [0, (i : Int)]))
  two : (∀ i, i < n → ok1 t i) → ∀ i j, (∀ i', i' < i → ∀ j', ok2 n t i' j') → (∀ j', j' < j → ok2 n t i j') → ¬ ok2 n t i j → r = (.sl true 2 (intL [1, (i : Int), (j : Int)]))
  three : (∀ i, i < n → ok1 t i) → (∀ i j, ok2 n t i j) → ∀ a b c, (∀ a', a' < a → ∀ b c, ok3 m n t a' b c) → (∀ b', b' < b → ∀ c, ok3 m n t a b' c) → (∀ c', c' < c → ok3 m n t a b c') → ¬ ok3 m n t a b c → r = (.sl true 2 (intL [2, (a : Int), (b : Int), (c : Int)]))
  none : IsLw m n t → r = .nil
theorem least_of {p : Nat → Prop} (h : ∃ i, p i) : ∃ i, p i ∧ (∀ k, k < i → ¬ p k) := by
  obtain ⟨i, h1, h2⟩ := exists_least p h
  exact ⟨i, h1, fun k hk hp => by have := h2 k hp; omega⟩
theorem least_eq {p : Nat → Prop} {i j : Nat} (h1 : p i) (h2 : ∀ k, k < i → ¬ p k) (h3 : p j) (h4 : ∀ k, k < j → ¬ p k) : i = j := by
  rcases Nat.lt_trichotomy i j with h | h | h
  · exact absurd h1 (h4 i h)
  · exact h
  · exact absurd h3 (h2 j h)
theorem fault_ex (m : Int) (n : Nat) (t : Nat → Nat → Int) : ∃ r, FaultR m n t r ∧ (¬ IsLw m n t → ∃ x l, r = (.sl true 2 (intL (x :: l)))) := by
  by_cases h1 : ∀ i, i < n → ok1 t i
  · by_cases h2 : ∀ i j, ok2 n t i j
    · by_cases h3 : ∀ a b c, ok3 m n t a b c
      · exact ⟨.nil, ⟨fun i hi _ h => absurd (h1 i hi) h, fun _ i j _ _ h => absurd (h2 i j) h, fun _ _ a b c _ _ _ h => absurd (h3 a b c) h, fun _ => rfl⟩, fun h => absurd ⟨h1, h2, h3⟩ h⟩
      · obtain ⟨a, ⟨b0, c0, ha⟩, hal⟩ := least_of (p := fun a => ∃ b c, ¬ ok3 m n t a b c) (by
          refine Classical.byContradiction fun h => h3 fun a b c => Classical.byContradiction fun h4 => h ⟨a, b, c, h4⟩)
        obtain ⟨b, ⟨c1, hb⟩, hbl⟩ := least_of (p := fun b => ∃ c, ¬ ok3 m n t a b c) ⟨b0, c0, ha⟩
        obtain ⟨c, hc, hcl⟩ := least_of (p := fun c => ¬ ok3 m n t a b c) ⟨c1, hb⟩
        refine ⟨(.sl true 2 (intL [2, (a : Int), (b : Int), (c : Int)])), ⟨fun i hi _ h => absurd (h1 i hi) h, fun _ i j _ _ h => absurd (h2 i j) h, fun _ _ a' b' c' ha' hb' hc' h => ?_, fun h => absurd (h.2.2 a b c) hc⟩, fun _ => ⟨_, _, rfl⟩⟩
        have ea : a' = a := least_eq (p := fun a => ∃ b c, ¬ ok3 m n t a b c) ⟨b', c', h⟩ (fun k hk ⟨b, c, hq⟩ => hq (ha' k hk b c)) ⟨b, c, hc⟩ hal
        subst ea
        have eb : b' = b := least_eq (p := fun b => ∃ c, ¬ ok3 m n t a' b c) ⟨c', h⟩ (fun k hk ⟨c, hq⟩ => hq (hb' k hk c)) ⟨c, hc⟩ hbl
        subst eb
        have ec : c' = c := least_eq (p := fun c => ¬ ok3 m n t a' b' c) h (fun k hk hq => hq (hc' k hk)) hc hcl
        subst ec
        rfl
    · obtain ⟨i, ⟨j0, hi⟩, hil⟩ := least_of (p := fun i => ∃ j, ¬ ok2 n t i j) (Classical.byContradiction fun h => h2 fun i j => Classical.byContradiction fun h4 => h ⟨i, j, h4⟩)
      obtain ⟨j, hj, hjl⟩ := least_of (p := fun j => ¬ ok2 n t i j) ⟨j0, hi⟩
      refine ⟨(.sl true 2 (intL [1, (i : Int), (j : Int)])), ⟨fun i hi _ h => absurd (h1 i hi) h, fun _ i' j' hi' hj' h => ?_, fun _ h => absurd h h2, fun h => absurd h.2.1 h2⟩, fun _ => ⟨_, _, rfl⟩⟩
      have ei : i' = i := least_eq (p := fun i => ∃ j, ¬ ok2 n t i j) ⟨j', h⟩ (fun k hk ⟨j, hq⟩ => hq (hi' k hk j)) ⟨j, hj⟩ hil
      subst ei
      have ej : j' = j := least_eq (p := fun j => ¬ ok2 n t i' j) h (fun k hk hq => hq (hj' k hk)) hj hjl
      subst ej
      rfl
  · obtain ⟨i, hi, hil⟩ := least_of (p := fun i => ¬ (i < n → ok1 t i)) (Classical.byContradiction fun h => h1 fun i => Classical.byContradiction fun h4 => h ⟨i, h4⟩)
    refine ⟨(.sl true 2 (intL [0, (i : Int)])), ⟨fun i' hi' hl h => ?_, fun h => absurd h h1, fun h => absurd h h1, fun h => absurd h.1 h1⟩, fun _ => ⟨_, _, rfl⟩⟩
    have ei : i' = i := least_eq (p := fun i => ¬ (i < n → ok1 t i)) (fun hq => h (hq hi')) (fun k hk hq => hq fun _ => hl k hk) hi hil
    subst ei
    rfl
end Go.Proofs.Ytahnnangdepkbaa
