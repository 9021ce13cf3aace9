/-
  When a plane is a law; the first fault.
-/
import Derived.Test.YtapdekacpecgiaaGreatKe
import Derived.Test.YtapdekacpecgiaaGreatKf
namespace Go.Proofs.YtapdekacpecgiaaGreat
open Go.RowKit
set_option linter.unusedSimpArgs false
set_option linter.unusedVariables false
set_option linter.unusedSectionVars false
set_option maxRecDepth 20000
-- When a plane is a law; the first fault.
theorem cv2_emod {a a' b : Nat → Nat → Int} {m : Int} {u v : Nat} (h : ∀ i j, i ≤ u → j ≤ v → a i j % m = a' i j % m) : cv2 a b u v % m = cv2 a' b u v % m := by
  unfold cv2
  refine sm_emod fun i hi => sm_emod fun j hj => ?_
  rw [Int.mul_emod, h i j (by omega) (by omega), ← Int.mul_emod]
theorem cv2_lin (k : Nat) (d : Nat → Int) (Q : Nat → Nat → Nat → Int) (t : Nat → Nat → Int) (u v : Nat) : cv2 (fun a b => sm k (fun i => d i * Q i a b)) t u v = sm k (fun i => d i * cv2 (Q i) t u v) := by
  unfold cv2
  have e1 : ∀ i, sm (v + 1) (fun j => sm k (fun q => d q * Q q i j) * t (u - i) (v - j)) = sm k (fun q => sm (v + 1) (fun j => d q * (Q q i j * t (u - i) (v - j)))) := by
    intro i
    rw [← sm_swap]
    refine sm_congr fun j _ => ?_
    rw [← sm_mul_right]
    exact sm_congr fun q _ => Int.mul_assoc _ _ _
  rw [sm_congr (fun i _ => e1 i), sm_swap]
  refine sm_congr fun q _ => ?_
  rw [← sm_mul]
  exact sm_congr fun i _ => sm_mul _ _ _
theorem aftL_eq {m : Int} (hm : 0 < m) {n : Nat} {t : Nat → Nat → Int} {c : List Int} : ∀ k, k ≤ c.length → ∀ u v, u + v < n → pc (aftL m n t c k) u v % m = sm k (fun i => at' c (c.length - k + i) * pc (pwP m n t i) u v) % m
  | 0, _, u, v, h => by rw [aftL, pc_tab2 h]; rfl
  | k + 1, hk, u, v, h => by
    have ih := aftL_eq (c := c) hm (n := n) (t := t) k (by omega)
    have e1 : cv2 (pc (aftL m n t c k)) t u v % m = sm k (fun i => at' c (c.length - k + i) * cv2 (pc (pwP m n t i)) t u v) % m := by
      rw [← cv2_lin]
      exact cv2_emod fun i j hi hj => ih i j (by omega)
    have e2 : sm k (fun i => at' c (c.length - k + i) * cv2 (pc (pwP m n t i)) t u v) % m = sm k (fun i => at' c (c.length - (k + 1) + (i + 1)) * pc (pwP m n t (i + 1)) u v) % m := sm_emod fun i hi => by
      rw [show c.length - (k + 1) + (i + 1) = c.length - k + i by omega, pwP, pmul, pc_tab2 h, mul_emod_r]
    rw [sm_succ_left, Int.add_emod, ← e2, ← e1, aftL, pc_tab2 h]
    rw [show pwP m n t 0 = numP m 1 n from rfl, numP, pc_tab2 h, Nat.add_zero, show c.length - (k + 1) = c.length - 1 - k by omega]
    by_cases h0 : u = 0 ∧ v = 0
    · rw [if_pos h0, if_pos h0, h0.1, h0.2, Int.emod_emod, mul_emod_r, Int.mul_one, ← Int.add_emod, Int.add_comm (at' c (c.length - 1 - k))]
      rw [Int.add_emod, Int.emod_emod, ← Int.add_emod]
    · rw [if_neg h0, if_neg h0, Int.mul_zero, Int.zero_emod, Int.zero_add]
theorem aftL_end {m : Int} (hm : 0 < m) {n : Nat} {t : Nat → Nat → Int} {c : List Int} {u v : Nat} (h : u + v < n) : pc (aftL m n t c c.length) u v = sm c.length (fun i => at' c i * pc (pwP m n t i) u v) % m := by
  have h1 := aftL_eq hm (n := n) (t := t) (c := c) c.length (Nat.le_refl _) u v h
  rw [Nat.sub_self] at h1
  simp only [Nat.zero_add] at h1
  have h2 := (aftL_pl hm n t c c.length).num u v
  rw [← h1, Int.emod_eq_of_lt h2.1 h2.2]
def lfS (m : Int) (n : Nat) (t : Nat → Nat → Int) (a b c : Nat) : Int := sm (n - c) (fun i => t i c * pc (pwP m n t i) a b)
def rtS (m : Int) (n : Nat) (t : Nat → Nat → Int) (a b c : Nat) : Int := sm (n - a) (fun j => t a j * pc (pwP m n t j) b c)
def ok1 (t : Nat → Nat → Int) (i : Nat) : Prop := t i 0 = if i = 1 then 1 else 0
def ok2 (n : Nat) (t : Nat → Nat → Int) (i j : Nat) : Prop := i < j → i + j < n → t i j = t j i
def ok3 (m : Int) (n : Nat) (t : Nat → Nat → Int) (a b c : Nat) : Prop := a + b + c < n → lfS m n t a b c % m = rtS m n t a b c % m
def IsLw (m : Int) (n : Nat) (t : Nat → Nat → Int) : Prop := (∀ i, i < n → ok1 t i) ∧ (∀ i j, ok2 n t i j) ∧ ∀ a b c, ok3 m n t a b c
structure FaultR (m : Int) (n : Nat) (t : Nat → Nat → Int) (r : T) : Prop where
  one : ∀ i, i < n → (∀ i', i' < i → ok1 t i') → ¬ ok1 t i → r = (.sl true 2 (intL [0, (i : Int)]))
  two : (∀ i, i < n → ok1 t i) → ∀ i j, (∀ i', i' < i → ∀ j', ok2 n t i' j') → (∀ j', j' < j → ok2 n t i j') → ¬ ok2 n t i j → r = (.sl true 2 (intL [1, (i : Int), (j : Int)]))
  three : (∀ i, i < n → ok1 t i) → (∀ i j, ok2 n t i j) → ∀ a b c, (∀ a', a' < a → ∀ b c, ok3 m n t a' b c) → (∀ b', b' < b → ∀ c, ok3 m n t a b' c) → (∀ c', c' < c → ok3 m n t a b c') → ¬ ok3 m n t a b c → r = (.sl true 2 (intL [2, (a : Int), (b : Int), (c : Int)]))
  none : IsLw m n t → r = .nil
end Go.Proofs.YtapdekacpecgiaaGreat
