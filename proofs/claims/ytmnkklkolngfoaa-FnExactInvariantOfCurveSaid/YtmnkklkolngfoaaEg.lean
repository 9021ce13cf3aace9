/-
  Invariants; isomorphic curves.
-/
import Derived.Test.YtmnkklkolngfoaaEd
namespace Go.Proofs.Ytmnkklkolngfoaa
open Go.RowKit
set_option linter.unusedSimpArgs false
set_option linter.unusedVariables false
set_option linter.unusedSectionVars false
set_option maxRecDepth 20000
-- Invariants; isomorphic curves.
def invR (p a b : Int) : Int := if codeE p a b = 0 then 6912 * a ^ 3 * invL p (disc p a b) % p else 0
theorem disc_eq3 (p a b : Int) : (4 * (a ^ 3 % p) % p + 27 * b % p * b) % p = disc p a b := by
  unfold disc
  rw [mul_emod_r, Int.emod_add_emod, Int.add_emod, mul_emod_l, ← Int.add_emod]
  congr 1
  grind
theorem inv_eq1 (p a v : Int) : (1728 % p * (4 * (a ^ 3 % p) % p) % p * v) % p = 6912 * a ^ 3 * v % p := by
  rw [mul_emod_r (4) (a^3)]
  rw [Int.mul_emod (1728 % p * (4 * a ^ 3 % p) % p), Int.emod_emod, Int.mul_emod (1728 % p), Int.emod_emod, Int.emod_emod, ← Int.mul_emod 1728, ← Int.mul_emod]
  congr 1
  grind
theorem inv_eq2 (p a v : Int) : (6912 % p * (a ^ 3 % p) % p * v) % p = 6912 * a ^ 3 * v % p := by
  rw [Int.mul_emod (6912 % p * (a ^ 3 % p) % p), Int.emod_emod, ← Int.mul_emod 6912, ← Int.mul_emod]
theorem c_spec_InvariantOfCurve (p a b : Int) : AFn Try.prog 33 [.int .i64 p, .int .i64 a, .int .i64 b] (.tup [.int .i64 (invR p a b), .int .i64 (codeE p a b)]) := by
  refine AFn.of' ttOk (by decide) Try.func33 Try.ntmps33 (by rw [Try.results33]) (by rfl) (by rfl) (by simp) (by decide) (by simp only [go_sem, Nat.reduceAdd, ↓reduceIte]; rfl) mixed (fun C hP hM hC => ?_)
  by_cases hc : codeE p a b = 0
  · obtain ⟨h5, h97, ha, ha2, hb, hb2⟩ := CurveOk.of hc
    have e3 := emod_b (a ^ 3) p (by omega)
    have ec := emod_b (4 * (a ^ 3 % p)) p (by omega)
    have eb := emod_b (27 * b) p (by omega)
    have mb := small_mul h97 eb.1 eb.2 hb hb2
    have ek := emod_b 1728 p (by omega)
    have mk := small_mul h97 ek.1 ek.2 ec.1 ec.2
    have ev := invL_bound p (disc p a b) (by omega)
    have ew := emod_b (1728 % p * (4 * (a ^ 3 % p) % p)) p (by omega)
    have mv := small_mul h97 ew.1 ew.2 ev.1 ev.2
    (repeat (first | ((with_reducible refine rgn_cons rfl (fun K hK => ?_)); simp only [go_sem, seval, ↓reduceIte, decide_true, decide_false, hc, show p ≠ 0 by omega, wid (4 * (a ^ 3 % p)) (by omega) (by omega), tm (4 * (a ^ 3 % p)) p (by omega), wid (27 * b) (by omega) (by omega), tm (27 * b) p (by omega), wid (27 * b % p * b) (by omega) (by omega), wid (4 * (a ^ 3 % p) % p + 27 * b % p * b) (by omega) (by omega), tm (4 * (a ^ 3 % p) % p + 27 * b % p * b) p (by omega), disc_eq3, tm 1728 p (by omega), wid (1728 % p * (4 * (a ^ 3 % p) % p)) (by omega) (by omega), tm (1728 % p * (4 * (a ^ 3 % p) % p)) p (by omega), wid (1728 % p * (4 * (a ^ 3 % p) % p) % p * invL p (disc p a b)) (by omega) (by omega), tm (1728 % p * (4 * (a ^ 3 % p) % p) % p * invL p (disc p a b)) p (by omega), inv_eq1]; (first | refine hK _ _ _ (by simp only [go_sem, Nat.reduceEqDiff, ↓reduceIte]; rfl) ?_ | refine ⟨_, c_spec_l18Code p a b, hK _ _ _ (by simp only [go_sem, Nat.reduceEqDiff, ↓reduceIte]; rfl) ?_⟩ | refine ⟨_, c_spec_l01Pow p a 3 (by omega) (by omega) (by omega), hK _ _ _ (by simp only [go_sem, Nat.reduceEqDiff, ↓reduceIte]; rfl) ?_⟩ | refine ⟨_, c_spec_l01Inv p (disc p a b) (by omega) (by omega), hK _ _ _ (by simp only [go_sem, Nat.reduceEqDiff, ↓reduceIte]; rfl) ?_⟩); clear hK; clear K) | (with_reducible first | refine rgn_nil (by first | trivial | kernel_rfl) ?_ | refine AWP.seq ?_ | refine tX hC hP (by kernel_rfl) ?_ | refine aX hC hM hP (by kernel_rfl) ?_ | refine AWP.skip ?_ | refine AWP.label ?_ | refine AWP.exit ?_ | refine AWP.block ?_ | refine cT (by simp only [go_sem, Nat.reduceEqDiff, ↓reduceIte]; with_reducible rfl) ?_ | refine cF (by simp only [go_sem, Nat.reduceEqDiff, ↓reduceIte]; with_reducible rfl) ?_) | simp only [qS, Nat.reduceEqDiff, ↓reduceIte]))
    (refine AWP.ret ?_; first | refine retOk1 (by simp only [go_sem, seval, ↓reduceIte, decide_true, decide_false]; rfl) ?_ | refine retOk2 (by simp only [go_sem, seval, ↓reduceIte, decide_true, decide_false]; rfl) (by simp only [go_sem, seval, ↓reduceIte, decide_true, decide_false]; rfl) (by simp) ?_ | refine retOk3 (by simp only [go_sem, seval, ↓reduceIte, decide_true, decide_false]; rfl) (by simp only [go_sem, seval, ↓reduceIte, decide_true, decide_false]; rfl) (by simp only [go_sem, seval, ↓reduceIte, decide_true, decide_false]; rfl) (by simp) ?_)
    simp only [invR, hc, if_true]
  · (repeat (first | ((with_reducible refine rgn_cons rfl (fun K hK => ?_)); simp only [go_sem, seval, ↓reduceIte, decide_true, decide_false, show (codeE p a b != 0) = true by simpa using hc]; (first | refine hK _ _ _ (by simp only [go_sem, Nat.reduceEqDiff, ↓reduceIte]; rfl) ?_ | refine ⟨_, c_spec_l18Code p a b, hK _ _ _ (by simp only [go_sem, Nat.reduceEqDiff, ↓reduceIte]; rfl) ?_⟩); clear hK; clear K) | (with_reducible first | refine rgn_nil (by first | trivial | kernel_rfl) ?_ | refine AWP.seq ?_ | refine tX hC hP (by kernel_rfl) ?_ | refine aX hC hM hP (by kernel_rfl) ?_ | refine AWP.skip ?_ | refine AWP.label ?_ | refine AWP.exit ?_ | refine AWP.block ?_ | refine cT (by simp only [go_sem, Nat.reduceEqDiff, ↓reduceIte]; with_reducible rfl) ?_ | refine cF (by simp only [go_sem, Nat.reduceEqDiff, ↓reduceIte]; with_reducible rfl) ?_) | simp only [qS, Nat.reduceEqDiff, ↓reduceIte]))
    (refine AWP.ret ?_; first | refine retOk1 (by simp only [go_sem, seval, ↓reduceIte, decide_true, decide_false]; rfl) ?_ | refine retOk2 (by simp only [go_sem, seval, ↓reduceIte, decide_true, decide_false]; rfl) (by simp only [go_sem, seval, ↓reduceIte, decide_true, decide_false]; rfl) (by simp) ?_ | refine retOk3 (by simp only [go_sem, seval, ↓reduceIte, decide_true, decide_false]; rfl) (by simp only [go_sem, seval, ↓reduceIte, decide_true, decide_false]; rfl) (by simp only [go_sem, seval, ↓reduceIte, decide_true, decide_false]; rfl) (by simp) ?_)
    simp [invR, hc]
theorem c_impl_InvariantOfCurve (p a b : Int) : AFn Try.prog 34 [.int .i64 p, .int .i64 a, .int .i64 b] (.tup [.int .i64 (invR p a b), .int .i64 (codeE p a b)]) := by
  refine AFn.of' ttOk (by decide) Try.func34 Try.ntmps34 (by rw [Try.results34]) (by rfl) (by rfl) (by simp) (by decide) (by simp only [go_sem, Nat.reduceAdd, ↓reduceIte]; rfl) mixed (fun C hP hM hC => ?_)
  by_cases hc : codeE p a b = 0
  · obtain ⟨h5, h97, ha, ha2, hb, hb2⟩ := CurveOk.of hc
    have e3 := emod_b (a ^ 3) p (by omega)
    have ek := emod_b 6912 p (by omega)
    have mk := small_mul h97 ek.1 ek.2 e3.1 e3.2
    have ev := invL_bound p (disc p a b) (by omega)
    have ew := emod_b (6912 % p * (a ^ 3 % p)) p (by omega)
    have mv := small_mul h97 ew.1 ew.2 ev.1 ev.2
    (repeat (first | ((with_reducible refine rgn_cons rfl (fun K hK => ?_)); simp only [go_sem, seval, ↓reduceIte, decide_true, decide_false, hc, show p ≠ 0 by omega, tm 6912 p (by omega), wid (6912 % p * (a ^ 3 % p)) (by omega) (by omega), tm (6912 % p * (a ^ 3 % p)) p (by omega), wid (6912 % p * (a ^ 3 % p) % p * invL p (disc p a b)) (by omega) (by omega), tm (6912 % p * (a ^ 3 % p) % p * invL p (disc p a b)) p (by omega), inv_eq2]; (first | refine hK _ _ _ (by simp only [go_sem, Nat.reduceEqDiff, ↓reduceIte]; rfl) ?_ | refine ⟨_, c_impl_curveAt_nil p a b, hK _ _ _ (by simp only [go_sem, Nat.reduceEqDiff, ↓reduceIte]; rfl) ?_⟩ | refine ⟨_, c_impl_power p a 3 (by omega) (by omega) ha ha2 (by omega), hK _ _ _ (by simp only [go_sem, Nat.reduceEqDiff, ↓reduceIte]; rfl) ?_⟩ | refine ⟨_, c_impl_discriminant p a b h5 h97 ha ha2 hb hb2, hK _ _ _ (by simp only [go_sem, Nat.reduceEqDiff, ↓reduceIte]; rfl) ?_⟩ | refine ⟨_, c_impl_inverse p (disc p a b) (by omega) (by omega), hK _ _ _ (by simp only [go_sem, Nat.reduceEqDiff, ↓reduceIte]; rfl) ?_⟩); clear hK; clear K) | (with_reducible first | refine rgn_nil (by first | trivial | kernel_rfl) ?_ | refine AWP.seq ?_ | refine tX hC hP (by kernel_rfl) ?_ | refine aX hC hM hP (by kernel_rfl) ?_ | refine AWP.skip ?_ | refine AWP.label ?_ | refine AWP.exit ?_ | refine AWP.block ?_ | refine cT (by simp only [go_sem, Nat.reduceEqDiff, ↓reduceIte]; with_reducible rfl) ?_ | refine cF (by simp only [go_sem, Nat.reduceEqDiff, ↓reduceIte]; with_reducible rfl) ?_) | simp only [qS, Nat.reduceEqDiff, ↓reduceIte]))
    (refine AWP.ret ?_; first | refine retOk1 (by simp only [go_sem, seval, ↓reduceIte, decide_true, decide_false]; rfl) ?_ | refine retOk2 (by simp only [go_sem, seval, ↓reduceIte, decide_true, decide_false]; rfl) (by simp only [go_sem, seval, ↓reduceIte, decide_true, decide_false]; rfl) (by simp) ?_ | refine retOk3 (by simp only [go_sem, seval, ↓reduceIte, decide_true, decide_false]; rfl) (by simp only [go_sem, seval, ↓reduceIte, decide_true, decide_false]; rfl) (by simp only [go_sem, seval, ↓reduceIte, decide_true, decide_false]; rfl) (by simp) ?_)
    simp only [invR, hc, if_true]
  · (repeat (first | ((with_reducible refine rgn_cons rfl (fun K hK => ?_)); simp only [go_sem, seval, ↓reduceIte, decide_true, decide_false, show (codeE p a b != 0) = true by simpa using hc]; (first | refine hK _ _ _ (by simp only [go_sem, Nat.reduceEqDiff, ↓reduceIte]; rfl) ?_ | refine ⟨_, c_impl_curveAt_nil p a b, hK _ _ _ (by simp only [go_sem, Nat.reduceEqDiff, ↓reduceIte]; rfl) ?_⟩); clear hK; clear K) | (with_reducible first | refine rgn_nil (by first | trivial | kernel_rfl) ?_ | refine AWP.seq ?_ | refine tX hC hP (by kernel_rfl) ?_ | refine aX hC hM hP (by kernel_rfl) ?_ | refine AWP.skip ?_ | refine AWP.label ?_ | refine AWP.exit ?_ | refine AWP.block ?_ | refine cT (by simp only [go_sem, Nat.reduceEqDiff, ↓reduceIte]; with_reducible rfl) ?_ | refine cF (by simp only [go_sem, Nat.reduceEqDiff, ↓reduceIte]; with_reducible rfl) ?_) | simp only [qS, Nat.reduceEqDiff, ↓reduceIte]))
    (refine AWP.ret ?_; first | refine retOk1 (by simp only [go_sem, seval, ↓reduceIte, decide_true, decide_false]; rfl) ?_ | refine retOk2 (by simp only [go_sem, seval, ↓reduceIte, decide_true, decide_false]; rfl) (by simp only [go_sem, seval, ↓reduceIte, decide_true, decide_false]; rfl) (by simp) ?_ | refine retOk3 (by simp only [go_sem, seval, ↓reduceIte, decide_true, decide_false]; rfl) (by simp only [go_sem, seval, ↓reduceIte, decide_true, decide_false]; rfl) (by simp only [go_sem, seval, ↓reduceIte, decide_true, decide_false]; rfl) (by simp) ?_)
    simp [invR, hc]
end Go.Proofs.Ytmnkklkolngfoaa
