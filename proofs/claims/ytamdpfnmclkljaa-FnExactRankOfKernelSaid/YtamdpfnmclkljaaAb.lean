/-
  Rings with a filtration; values of planes.
-/
import Derived.Test.YtamdpfnmclkljaaAa
namespace Go.Proofs.Ytamdpfnmclkljaa
open Go.RowKit
set_option linter.unusedSimpArgs false
set_option linter.unusedVariables false
set_option linter.unusedSectionVars false
set_option maxRecDepth 20000
-- Rings with a filtration; values of planes.
structure Fil {R : Type} (K : Rg R) (N : Nat) where
  O : Nat → R → Prop
  zero : ∀ k, O k (K.c 0)
  add : ∀ {k x y}, O k x → O k y → O k (K.a x y)
  mul : ∀ {k l x y}, O k x → O l y → O (k + l) (K.m x y)
  cst : ∀ x, O 0 x
  low : ∀ {k l x}, l ≤ k → O k x → O l x
  top : ∀ {k x}, N < k → O k x → x = K.c 0
namespace Fil
theorem sum {R : Type} {K : Rg R} {N : Nat} (S : Fil K N) {k n : Nat} {f : Nat → R} (h : ∀ i, i < n → S.O k (f i)) : S.O k (K.s n f) := by
  induction n with
  | zero => exact S.zero k
  | succ n ih => exact S.add (ih fun i hi => h i (by omega)) (h n (by omega))
theorem pw {R : Type} {K : Rg R} {N : Nat} (S : Fil K N) {k : Nat} {x : R} (h : S.O k x) : ∀ i, S.O (i * k) (K.p x i)
  | 0 => by rw [Nat.zero_mul]; exact S.cst _
  | i + 1 => by rw [Nat.succ_mul]; exact S.mul (pw S h i) h
theorem pw1 {R : Type} {K : Rg R} {N : Nat} (S : Fil K N) {x : R} (h : S.O 1 x) (i : Nat) : S.O i (K.p x i) := by
  have := S.pw h i; rwa [Nat.mul_one] at this
theorem nil {R : Type} {K : Rg R} {N : Nat} (S : Fil K N) {x : R} (h : S.O 1 x) {i : Nat} (hi : N < i) : K.p x i = K.c 0 := S.top hi (S.pw1 h i)
end Fil
/-- The value of a plane. -/
def Rg.e2 {R : Type} (K : Rg R) (d : Nat) (P : Nat → Nat → Int) (x y : R) : R := K.ev d (fun i => K.ev d (fun j => K.c (P i j)) y) x
theorem Rg.e2_sum {R : Type} (K : Rg R) (d : Nat) (P : Nat → Nat → Int) (x y : R) : K.e2 d P x y = K.s (d + 1) (fun i => K.s (d + 1) (fun j => K.m (K.c (P i j)) (K.m (K.p x i) (K.p y j)))) := by
  refine K.s_congr fun i _ => ?_
  simp only [Rg.ev]
  rw [K.s_mulr]
  exact K.s_congr fun j _ => by ac_rfl
theorem Fil.e2_congr {R : Type} {K : Rg R} {N : Nat} (S : Fil K N) {d : Nat} {P Q : Nat → Nat → Int} {x y : R} (hx : S.O 1 x) (hy : S.O 1 y) (h : ∀ i j, i + j ≤ N → K.c (P i j) = K.c (Q i j)) : K.e2 d P x y = K.e2 d Q x y := by
  rw [K.e2_sum, K.e2_sum]
  refine K.s_congr fun i _ => K.s_congr fun j _ => ?_
  by_cases hij : i + j ≤ N
  · rw [h i j hij]
  · rw [S.top (show N < i + j by omega) (S.mul (S.pw1 hx i) (S.pw1 hy j)), K.mZ, K.mZ]
theorem Rg.e2_add {R : Type} (K : Rg R) (d n : Nat) (t : Nat → Int) (P : Nat → Nat → Nat → Int) (x y : R) : K.e2 d (fun u v => sm n (fun i => t i * P i u v)) x y = K.s n (fun i => K.m (K.c (t i)) (K.e2 d (P i) x y)) := by
  rw [show (fun i => K.m (K.c (t i)) (K.e2 d (P i) x y)) = (fun i => K.ev d (fun u => K.ev d (fun v => K.c (t i * P i u v)) y) x) from funext fun i => by
    rw [Rg.e2, ← K.ev_smul]
    refine K.ev_congr fun u _ => ?_
    rw [← K.ev_smul]
    exact K.ev_congr fun v _ => (K.cM _ _).symm]
  rw [← K.ev_s]
  refine K.ev_congr fun u _ => ?_
  rw [← K.ev_s]
  exact K.ev_congr fun v _ => K.c_sm _ _
theorem Fil.e2_mul {R : Type} {K : Rg R} {N : Nat} (S : Fil K N) {d : Nat} (hd : N ≤ d) {P Q : Nat → Nat → Int} {x y : R} (hx : S.O 1 x) (hy : S.O 1 y) : K.m (K.e2 d P x y) (K.e2 d Q x y) = K.e2 d (fun u v => sm (u + 1) (fun i => sm (v + 1) (fun j => P i j * Q (u - i) (v - j)))) x y := by
  rw [Rg.e2, Rg.e2, K.ev_mul fun i hi => S.nil hx (by omega)]
  refine K.ev_congr fun u _ => ?_
  rw [Rg.cr, K.s_congr fun i _ => K.ev_mul (fun i hi => S.nil hy (by omega)) _ _, ← K.ev_s]
  refine K.ev_congr fun v _ => ?_
  rw [K.c_sm]
  refine K.s_congr fun i _ => ?_
  rw [K.c_sm]
  exact K.s_congr fun j _ => (K.cM _ _).symm
end Go.Proofs.Ytamdpfnmclkljaa
