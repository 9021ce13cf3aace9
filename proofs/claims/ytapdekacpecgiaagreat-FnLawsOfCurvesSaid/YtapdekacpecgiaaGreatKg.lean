import Derived.Test.YtapdekacpecgiaaGreatKe
import Derived.Test.YtapdekacpecgiaaGreatKf
namespace Go.Proofs.YtapdekacpecgiaaGreat
open Go.RowKit
set_option linter.unusedSimpArgs false
set_option linter.unusedVariables false
set_option linter.unusedSectionVars false
set_option maxRecDepth 20000
set_option maxHeartbeats 1000000
theorem Nu {a a' b : Nat → Nat → Int} {m : Int} {u v : Nat} (h : ∀ i j, i ≤ u → j ≤ v → a i j % m = a' i j % m) : cv2 a b u v % m = cv2 a' b u v % m := by
 unfold cv2
 refine Bd fun i hi => Bd fun j hj => ?_
 rw [Int.mul_emod, h i j (by omega) (by omega), ← Int.mul_emod]
theorem Aia (k : Nat) (d : Nat → Int) (Q : Nat → Nat → Nat → Int) (t : Nat → Nat → Int) (u v : Nat) : cv2 (fun a b => sm k (fun i => d i * Q i a b)) t u v = sm k (fun i => d i * cv2 (Q i) t u v) := by
 unfold cv2
 have e1 : ∀ i, sm (v + 1) (fun j => sm k (fun q => d q * Q q i j) * t (u - i) (v - j)) = sm k (fun q => sm (v + 1) (fun j => d q * (Q q i j * t (u - i) (v - j)))) := by
  intro i
  rw [← Pz]
  refine Ax fun j _ => ?_
  rw [← Hf]
  exact Ax fun q _ => Int.mul_assoc _ _ _
 rw [Ax (fun i _ => e1 i), Pz]
 refine Ax fun q _ => ?_
 rw [← I1]
 exact Ax fun i _ => I1 _ _ _
theorem W4 {m : Int} (hm : 0 < m) {n : Nat} {t : Nat → Nat → Int} {c : List Int} : ∀ k, k ≤ c.length → ∀ u v, u + v < n → pc (aftL m n t c k) u v % m = sm k (fun i => at' c (c.length - k + i) * pc (pwP m n t i) u v) % m
 | 0, _, u, v, h => by rw [aftL, Bn h]; rfl
 | k + 1, hk, u, v, h => by
  have ih := W4 (c := c) hm (n := n) (t := t) k (by omega)
  have e1 : cv2 (pc (aftL m n t c k)) t u v % m = sm k (fun i => at' c (c.length - k + i) * cv2 (pc (pwP m n t i)) t u v) % m := by
   rw [← Aia]
   exact Nu fun i j hi hj => ih i j (by omega)
  have e2 : sm k (fun i => at' c (c.length - k + i) * cv2 (pc (pwP m n t i)) t u v) % m = sm k (fun i => at' c (c.length - (k + 1) + (i + 1)) * pc (pwP m n t (i + 1)) u v) % m := Bd fun i hi => by
   rw [show c.length - (k + 1) + (i + 1) = c.length - k + i by omega, pwP, pmul, Bn h, O7]
  rw [Bg, Int.add_emod, ← e2, ← e1, aftL, Bn h]
  rw [show pwP m n t 0 = numP m 1 n from rfl, numP, Bn h, Nat.add_zero, show c.length - (k + 1) = c.length - 1 - k by omega]
  by_cases h0 : u = 0 ∧ v = 0
  ·rw [if_pos h0, if_pos h0, h0.1, h0.2, Int.emod_emod, O7, Int.mul_one, ← Int.add_emod, Int.add_comm (at' c (c.length - 1 - k))]
   rw [Int.add_emod, Int.emod_emod, ← Int.add_emod]
  ·rw [if_neg h0, if_neg h0, Int.mul_zero, Int.zero_emod, Int.zero_add]
theorem Jr {m : Int} (hm : 0 < m) {n : Nat} {t : Nat → Nat → Int} {c : List Int} {u v : Nat} (h : u + v < n) : pc (aftL m n t c c.length) u v = sm c.length (fun i => at' c i * pc (pwP m n t i) u v) % m := by
 have h1 := W4 hm (n := n) (t := t) (c := c) c.length (Nat.le_refl _) u v h
 rw [Nat.sub_self] at h1
 simp only [Nat.zero_add] at h1
 have h2 := (Ee hm n t c c.length).num u v
 rw [← h1, Int.emod_eq_of_lt h2.1 h2.2]
def lfS (m : Int) (n : Nat) (t : Nat → Nat → Int) (a b c : Nat) : Int := sm (n - c) (fun i => t i c * pc (pwP m n t i) a b)
def rtS (m : Int) (n : Nat) (t : Nat → Nat → Int) (a b c : Nat) : Int := sm (n - a) (fun j => t a j * pc (pwP m n t j) b c)
def ok1 (t : Nat → Nat → Int) (i : Nat) : Prop := t i 0 = if i = 1 then 1 else 0
def ok2 (n : Nat) (t : Nat → Nat → Int) (i j : Nat) : Prop := i < j → i + j < n → t i j = t j i
def ok3 (m : Int) (n : Nat) (t : Nat → Nat → Int) (a b c : Nat) : Prop := a + b + c < n → lfS m n t a b c % m = rtS m n t a b c % m
def IsLw (m : Int) (n : Nat) (t : Nat → Nat → Int) : Prop := (∀ i, i < n → ok1 t i) ∧ (∀ i j, ok2 n t i j) ∧ ∀ a b c, ok3 m n t a b c
structure FaultR (m : Int) (n : Nat) (t : Nat → Nat → Int) (r : T) : Prop where
 one : ∀ i, i < n → (∀ i', i' < i → ok1 t i') → ¬ ok1 t i → r = (.sl true 2 (intL [0, (i : Int)]))
 two : (∀ i, i < n → ok1 t i) → ∀ i j, (∀ i', i' < i → ∀ j', ok2 n t i' j') → (∀ j', j' < j → ok2 n t i j') → ¬ ok2 n t i j → r = (.sl true 2 (intL [1, (i : Int), (j : Int)]))
 three : (∀ i, i < n → ok1 t i) → (∀ i j, ok2 n t i j) → ∀ a b c, (∀ a', a' < a → ∀ b c, ok3 m n t a' b c) → (∀ b', b' < b → ∀ c, ok3 m n t a b' c) → (∀ c', c' < c → ok3 m n t a b c') → ¬ ok3 m n t a b c → r = (.sl true 2 (intL [2, (a : Int), (b : Int), (c : Int)]))
 none : IsLw m n t → r = .nil
theorem Fy {p : Nat → Prop} (h : ∃ i, p i) : ∃ i, p i ∧ (∀ k, k < i → ¬ p k) := by
 obtain ⟨i, h1, h2⟩ := Hr p h
 exact ⟨i, h1, fun k hk hp => by have := h2 k hp; omega⟩
theorem Fw {p : Nat → Prop} {i j : Nat} (h1 : p i) (h2 : ∀ k, k < i → ¬ p k) (h3 : p j) (h4 : ∀ k, k < j → ¬ p k) : i = j := by
 rcases Nat.lt_trichotomy i j with h | h | h
 ·exact absurd h1 (h4 i h)
 ·exact h
 ·exact absurd h3 (h2 j h)
theorem Tw (m : Int) (n : Nat) (t : Nat → Nat → Int) : ∃ r, FaultR m n t r ∧ (¬ IsLw m n t → ∃ x l, r = (.sl true 2 (intL (x :: l)))) := by
 by_cases h1 : ∀ i, i < n → ok1 t i
 ·by_cases h2 : ∀ i j, ok2 n t i j
  ·by_cases h3 : ∀ a b c, ok3 m n t a b c
   ·exact ⟨.nil, ⟨fun i hi _ h => absurd (h1 i hi) h, fun _ i j _ _ h => absurd (h2 i j) h, fun _ _ a b c _ _ _ h => absurd (h3 a b c) h, fun _ => rfl⟩, fun h => absurd ⟨h1, h2, h3⟩ h⟩
   ·obtain ⟨a, ⟨b0, c0, ha⟩, hal⟩ := Fy (p := fun a => ∃ b c, ¬ ok3 m n t a b c) (by
     refine Classical.byContradiction fun h => h3 fun a b c => Classical.byContradiction fun h4 => h ⟨a, b, c, h4⟩)
    obtain ⟨b, ⟨c1, hb⟩, hbl⟩ := Fy (p := fun b => ∃ c, ¬ ok3 m n t a b c) ⟨b0, c0, ha⟩
    obtain ⟨c, hc, hcl⟩ := Fy (p := fun c => ¬ ok3 m n t a b c) ⟨c1, hb⟩
    refine ⟨(.sl true 2 (intL [2, (a : Int), (b : Int), (c : Int)])), ⟨fun i hi _ h => absurd (h1 i hi) h, fun _ i j _ _ h => absurd (h2 i j) h, fun _ _ a' b' c' ha' hb' hc' h => ?_, fun h => absurd (h.2.2 a b c) hc⟩, fun _ => ⟨_, _, rfl⟩⟩
    have ea : a' = a := Fw (p := fun a => ∃ b c, ¬ ok3 m n t a b c) ⟨b', c', h⟩ (fun k hk ⟨b, c, hq⟩ => hq (ha' k hk b c)) ⟨b, c, hc⟩ hal
    subst ea
    have eb : b' = b := Fw (p := fun b => ∃ c, ¬ ok3 m n t a' b c) ⟨c', h⟩ (fun k hk ⟨c, hq⟩ => hq (hb' k hk c)) ⟨c, hc⟩ hbl
    subst eb
    have ec : c' = c := Fw (p := fun c => ¬ ok3 m n t a' b' c) h (fun k hk hq => hq (hc' k hk)) hc hcl
    subst ec
    rfl
  ·obtain ⟨i, ⟨j0, hi⟩, hil⟩ := Fy (p := fun i => ∃ j, ¬ ok2 n t i j) (Classical.byContradiction fun h => h2 fun i j => Classical.byContradiction fun h4 => h ⟨i, j, h4⟩)
   obtain ⟨j, hj, hjl⟩ := Fy (p := fun j => ¬ ok2 n t i j) ⟨j0, hi⟩
   refine ⟨(.sl true 2 (intL [1, (i : Int), (j : Int)])), ⟨fun i hi _ h => absurd (h1 i hi) h, fun _ i' j' hi' hj' h => ?_, fun _ h => absurd h h2, fun h => absurd h.2.1 h2⟩, fun _ => ⟨_, _, rfl⟩⟩
   have ei : i' = i := Fw (p := fun i => ∃ j, ¬ ok2 n t i j) ⟨j', h⟩ (fun k hk ⟨j, hq⟩ => hq (hi' k hk j)) ⟨j, hj⟩ hil
   subst ei
   have ej : j' = j := Fw (p := fun j => ¬ ok2 n t i' j) h (fun k hk hq => hq (hj' k hk)) hj hjl
   subst ej
   rfl
 ·obtain ⟨i, hi, hil⟩ := Fy (p := fun i => ¬ (i < n → ok1 t i)) (Classical.byContradiction fun h => h1 fun i => Classical.byContradiction fun h4 => h ⟨i, h4⟩)
  refine ⟨(.sl true 2 (intL [0, (i : Int)])), ⟨fun i' hi' hl h => ?_, fun h => absurd h h1, fun h => absurd h h1, fun h => absurd h.1 h1⟩, fun _ => ⟨_, _, rfl⟩⟩
  have ei : i' = i := Fw (p := fun i => ¬ (i < n → ok1 t i)) (fun hq => h (hq hi')) (fun k hk hq => hq fun _ => hl k hk) hi hil
  subst ei
  rfl
end Go.Proofs.YtapdekacpecgiaaGreat
