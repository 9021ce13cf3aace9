import Derived.Test.YtapdekacpecgiaaGreatKb
import Derived.Test.YtapdekacpecgiaaGreatQc
import Derived.Test.YtapdekacpecgiaaGreatIa
namespace Go.Proofs.YtapdekacpecgiaaGreat
open Go.RowKit
set_option linter.unusedSimpArgs false
set_option linter.unusedVariables false
set_option linter.unusedSectionVars false
set_option maxRecDepth 20000
set_option maxHeartbeats 1000000
theorem Ow {a a' b b' : Nat → Int} {m : Int} {n : Nat} (h1 : ∀ i, i ≤ n → a i % m = a' i % m) (h2 : ∀ i, i ≤ n → b i % m = b' i % m) : cv a b n % m = cv a' b' n % m :=
 Bd fun i hi => A8 (h1 i (by omega)) (h2 _ (by omega))
theorem Ajx {m c : Int} {a : List Int} {d u : Nat} (h : u ≤ d) : at' (scL m c a d) u % m = c * at' a u % m := by rw [scL, A4 (by omega), Int.emod_emod]
theorem F6 {m : Int} {a b : List Int} {d u : Nat} (h : u ≤ d) : at' (timesL m a b d) u % m = cv (at' a) (at' b) u % m := by rw [timesL, A4 (by omega), Int.emod_emod]
theorem Ab8 {x y m : Int} (hx : 0 ≤ x ∧ x < m) (hy : 0 ≤ y ∧ y < m) (h : x % m = y % m) : x = y := by
 rwa [Int.emod_eq_of_lt hx.1 hx.2, Int.emod_eq_of_lt hy.1 hy.2] at h
theorem Wr {m : Int} {a b : List Int} {d : Nat} (ha : a.length = d + 1 ∧ ∀ x ∈ a, 0 ≤ x ∧ x < m) (hb : b.length = d + 1 ∧ ∀ x ∈ b, 0 ≤ x ∧ x < m) (hm : 0 < m) (h : ∀ u, u ≤ d → at' a u % m = at' b u % m) : a = b := by
 apply List.ext_getElem (by rw [ha.1, hb.1])
 intro i h1 h2
 have := Ab8 (Af ha.2 hm i) (Af hb.2 hm i) (h i (by omega))
 simpa [at', List.getD_eq_getElem?_getD, h1, h2] using this
theorem Hd {m : Int} (a f : List Int) (d : Nat) : ∀ k, k ≤ d + 1 → ∀ u, u ≤ d → at' (cmpL m a f d k) u % m = sm k (fun i => at' a (d + 1 - k + i) * at' (pwS m f d i) u) % m
 | 0, _, u, hu => by rw [cmpL, A4 (by omega)]; rfl
 | k + 1, hk, u, hu => by
  rw [cmpL, A4 (by omega), Int.emod_emod, Bg, Int.add_comm]
  refine Dc ?_ ?_
  ·rw [pwS, Ep d u hu, oneF, show d + 1 - (k + 1) + 0 = d - k by omega]
   split
   ·rw [Int.emod_emod, Int.mul_one]
   ·rw [Int.mul_zero]
  ·rw [Int.emod_emod, Ow (fun j hj => Hd a f d k (by omega) j (by omega)) (fun j _ => rfl)]
   have e : cv (fun j => sm k (fun i => at' a (d + 1 - k + i) * at' (pwS m f d i) j)) (at' f) u = sm k (fun i => at' a (d + 1 - k + i) * cv (at' (pwS m f d i)) (at' f) u) := by
    rw [cv]
    rw [Ax (fun j _ => (Hf k (at' f (u - j)) (fun i => at' a (d + 1 - k + i) * at' (pwS m f d i) j)).symm), Pz]
    refine Ax fun i _ => ?_
    rw [cv, ← I1]
    exact Ax fun j _ => Int.mul_assoc _ _ _
   rw [e]
   refine Bd fun i hi => ?_
   rw [show d + 1 - (k + 1) + (i + 1) = d + 1 - k + i by omega]
   exact A8 rfl (F6 hu).symm
end Go.Proofs.YtapdekacpecgiaaGreat
