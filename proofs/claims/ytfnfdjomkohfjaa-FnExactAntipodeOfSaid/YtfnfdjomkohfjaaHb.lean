/-
  Heights.
-/
import Derived.Test.YtfnfdjomkohfjaaHa
namespace Go.Proofs.Ytfnfdjomkohfjaa
open Go.RowKit
set_option linter.unusedSimpArgs false
set_option linter.unusedVariables false
set_option linter.unusedSectionVars false
set_option maxRecDepth 20000
-- Heights.
theorem tmodN (x y : Nat) : (x : Int).tmod (y : Int) = ((x % y : Nat) : Int) := by first | rfl | simp
theorem tdivN (x y : Nat) : (x : Int).tdiv (y : Int) = ((x / y : Nat) : Int) := by first | rfl | simp
/-- The code and the value of the height. -/
noncomputable def hgC (m : Int) (ll : List (List Int)) : Int := if htC m ll = 0 then (if (htX m ll).2 = 0 then 4 else 0) else htC m ll
noncomputable def hgV (m : Int) (ll : List (List Int)) : Int := if htC m ll = 0 then ((htX m ll).2 : Int) else 0
theorem lw_prime {m : Int} {ll : List (List Int)} (h : htC m ll = 0) : ∃ p d : Nat, m = (p : Int) ∧ 2 ≤ p ∧ p ≤ 7 ∧ 1 ≤ d ∧ d ≤ 10 ∧ ll.length = d + 1 ∧ Pl (p : Int) (d + 1) ll ∧ pmL m ll = mzL (p : Int) (pc ll) d (varL d) p ∧ HtC p d (mzL (p : Int) (pc ll) d (varL d) p) (htX m ll).1 (htX m ll).2 ∧ lawB m ll = true ∧ prB m = true := by
  have hz := htC_zero h
  obtain ⟨d, h1, h2, h3, h4, h5, h6, h7⟩ := lw_of hz.1
  have hpr := prB_of hz.2
  have hH := htX_ok hz.1 hz.2
  have e : ((m.toNat : Nat) : Int) = m := by omega
  have e2 : pmL m ll = mzL m (pc ll) d (varL d) m := by unfold pmL; rw [show ll.length - 1 = d by omega]
  refine ⟨m.toNat, d, by omega, by omega, by omega, h1, h2, h3, by rw [e]; exact h6, by rw [e]; exact e2, ?_, hz.1, hz.2⟩
  rw [e, ← e2]
  rw [show ll.length - 1 = d by omega] at hH
  exact hH
theorem ht_pos {p d : Nat} {P : List Int} {N h : Nat} (hp : 2 ≤ p) (H : HtC p d P N h) : (N = 0 ↔ h = 0) := by
  rcases H with ⟨h1, h2, _⟩ | ⟨h0, h1, _⟩
  · omega
  · have := Nat.pow_pos (n := h) (show 0 < p by omega)
    omega
end Go.Proofs.Ytfnfdjomkohfjaa
