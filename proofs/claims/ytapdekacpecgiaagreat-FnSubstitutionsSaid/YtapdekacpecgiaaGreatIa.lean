/-
  Planes of curves; when a curve is a homomorphism. No program.
-/
import Derived.Test.YtapdekacpecgiaaGreatKg
import Derived.Test.YtapdekacpecgiaaGreatQb
import Derived.Test.YtapdekacpecgiaaGreatCu
namespace Go.Proofs.YtapdekacpecgiaaGreat
open Go.RowKit
set_option linter.unusedSimpArgs false
set_option linter.unusedVariables false
set_option linter.unusedSectionVars false
set_option maxRecDepth 20000
-- Planes of curves; when a curve is a homomorphism. No program.
def sij (n : Nat) (t p q : Nat → Nat → Int) (i j u v : Nat) : Int := sm i (fun a => sm (n - a) (fun b => t a b * (p a u * q b v))) + sm j (fun b => t i b * (p i u * q b v))
theorem sij_zero (n : Nat) (t p q : Nat → Nat → Int) (u v : Nat) : sij n t p q 0 0 u v = 0 := rfl
theorem sij_next (n : Nat) (t p q : Nat → Nat → Int) (i u v : Nat) : sij n t p q i (n - i) u v = sij n t p q (i + 1) 0 u v := by
  show _ = sm (i + 1) _ + 0
  rw [Int.add_zero]; rfl
theorem sij_step (n : Nat) (t p q : Nat → Nat → Int) (i j u v : Nat) : sij n t p q i (j + 1) u v = sij n t p q i j u v + t i j * (p i u * q j v) := by
  show sm i _ + (sm j _ + _) = _
  rw [← Int.add_assoc]; rfl
def bthT (m : Int) (n : Nat) (t p q : Nat → Nat → Int) : List (List Int) := tab2 n (fun u v => sij n t p q n 0 u v % m)
theorem bthT_pl {m : Int} (hm : 0 < m) (n : Nat) (t p q : Nat → Nat → Int) : Pl m n (bthT m n t p q) := Pl.tab2 hm fun _ _ _ => emod_b _ m hm
def pwC (m : Int) (a : List Int) (d i u : Nat) : Int := at' (pwS m a d i) u
theorem pwC_succ {m : Int} {a : List Int} {d i u : Nat} (hu : u ≤ d) : pwC m a d (i + 1) u = cv (pwC m a d i) (at' a) u % m := by
  unfold pwC
  rw [pwS, timesL, at_tab (by omega)]
theorem pwC_low {m : Int} {a : List Int} {d : Nat} (h0 : at' a 0 = 0) : ∀ i u, u < i → u ≤ d → pwC m a d i u = 0
  | 0, u, h, _ => by omega
  | i + 1, u, h, hu => by
    rw [pwC_succ hu]
    have : cv (pwC m a d i) (at' a) u = 0 := by
      unfold cv
      refine sm_zero fun k hk => ?_
      by_cases e : k < i
      · rw [pwC_low h0 i k e (by omega), Int.zero_mul]
      · rw [show u - k = 0 by omega, h0, Int.mul_zero]
    rw [this, Int.zero_emod]
-- All tuples that begin with some numbers, in order.
end Go.Proofs.YtapdekacpecgiaaGreat
