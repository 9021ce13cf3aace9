/-
  Curves: codes.
-/
import Derived.Test.YtmnkklkolngfoaaEa
namespace Go.Proofs.Ytmnkklkolngfoaa
open Go.RowKit
set_option linter.unusedSimpArgs false
set_option linter.unusedVariables false
set_option linter.unusedSectionVars false
set_option maxRecDepth 20000
-- Curves: codes.
def disc (p a b : Int) : Int := (4 * a ^ 3 + 27 * b ^ 2) % p
def rightE (p a b x : Int) : Int := (x ^ 3 + a * x + b) % p
theorem disc_eq (p a b : Int) : (4 * (a ^ 3 % p) + 27 * (b ^ 2 % p)) % p = disc p a b := by
  unfold disc
  rw [Int.add_emod, mul_emod_r, mul_emod_r, ← Int.add_emod]
theorem disc_eq2 (p a b : Int) : (4 * a * a % p * a + 27 * b % p * b) % p = disc p a b := by
  unfold disc
  rw [Int.add_emod, mul_emod_l, mul_emod_l, ← Int.add_emod]
  congr 1
  grind
theorem right_eq (p a b x : Int) : (x ^ 3 % p + a * x + b) % p = rightE p a b x := by
  unfold rightE
  rw [Int.add_assoc, Int.emod_add_emod, Int.add_assoc]
theorem right_eq2 (p a b x : Int) : (x * x % p * x + a * x + b) % p = rightE p a b x := by
  unfold rightE
  rw [Int.add_assoc, Int.add_emod, mul_emod_l, ← Int.add_emod, ← Int.add_assoc]
  congr 1
  grind
theorem isNum_iff {m a : Int} : isNum m a = true ↔ 0 ≤ a ∧ a < m := by
  simp only [isNum, Bool.and_eq_true, decide_eq_true_eq]; omega
theorem small_mul {x y : Int} {m : Int} (hm : m ≤ 97) (hx : 0 ≤ x) (hx2 : x < m) (hy : 0 ≤ y) (hy2 : y < m) : 0 ≤ x * y ∧ x * y ≤ 9409 := by
  have h1 := Int.mul_nonneg hx hy
  have h2 : x * y ≤ 97 * 97 := Int.mul_le_mul (by omega) (by omega) hy (by omega)
  omega
theorem c_impl_discriminant (p a b : Int) (h5 : 5 ≤ p) (h97 : p ≤ 97) (ha : 0 ≤ a) (ha2 : a < p) (hb : 0 ≤ b) (hb2 : b < p) : AFn Try.prog 67 [.int .i64 p, .int .i64 a, .int .i64 b] (.int .i64 (disc p a b)) := by
  refine AFn.of' ttOk (by decide) Try.func67 Try.ntmps67 (by rw [Try.results67]) (by rfl) (by rfl) (by simp) (by decide) (by simp only [go_sem, Nat.reduceAdd, ↓reduceIte]; rfl) mixed (fun C hP hM hC => ?_)
  have h1 := emod_b (a ^ 3) p (by omega)
  have h2 := emod_b (b ^ 2) p (by omega)
  have hA := c_impl_power p a 3 (by omega) (by omega) ha ha2 (by omega)
  have hB := c_impl_power p b 2 (by omega) (by omega) hb hb2 (by omega)
  (repeat (first | ((with_reducible refine rgn_cons rfl (fun K hK => ?_)); simp only [go_sem, seval, ↓reduceIte, decide_true, decide_false, wid (4 * (a ^ 3 % p)) (by omega) (by omega), wid (27 * (b ^ 2 % p)) (by omega) (by omega), wid (4 * (a ^ 3 % p) + 27 * (b ^ 2 % p)) (by omega) (by omega), show p ≠ 0 by omega, tm (4 * (a ^ 3 % p) + 27 * (b ^ 2 % p)) p (by omega), disc_eq]; (first | refine hK _ _ _ (by simp only [go_sem, Nat.reduceEqDiff, ↓reduceIte]; rfl) ?_ | refine ⟨_, hA, hK _ _ _ (by simp only [go_sem, Nat.reduceEqDiff, ↓reduceIte]; rfl) ?_⟩ | refine ⟨_, hB, hK _ _ _ (by simp only [go_sem, Nat.reduceEqDiff, ↓reduceIte]; rfl) ?_⟩); clear hK; clear K) | (with_reducible first | refine rgn_nil (by first | trivial | kernel_rfl) ?_ | refine AWP.seq ?_ | refine tX hC hP (by kernel_rfl) ?_ | refine aX hC hM hP (by kernel_rfl) ?_ | refine AWP.skip ?_ | refine AWP.label ?_ | refine AWP.exit ?_ | refine AWP.block ?_ | refine cT (by simp only [go_sem, Nat.reduceEqDiff, ↓reduceIte]; with_reducible rfl) ?_ | refine cF (by simp only [go_sem, Nat.reduceEqDiff, ↓reduceIte]; with_reducible rfl) ?_) | simp only [qS, Nat.reduceEqDiff, ↓reduceIte]))
  (refine AWP.ret ?_; first | refine retOk1 (by simp only [go_sem, seval, ↓reduceIte, decide_true, decide_false]; rfl) ?_ | refine retOk2 (by simp only [go_sem, seval, ↓reduceIte, decide_true, decide_false]; rfl) (by simp only [go_sem, seval, ↓reduceIte, decide_true, decide_false]; rfl) (by simp) ?_ | refine retOk3 (by simp only [go_sem, seval, ↓reduceIte, decide_true, decide_false]; rfl) (by simp only [go_sem, seval, ↓reduceIte, decide_true, decide_false]; rfl) (by simp only [go_sem, seval, ↓reduceIte, decide_true, decide_false]; rfl) (by simp) ?_)
  rfl
def codeE (p a b : Int) : Int := if fieldB p = true then (if (isNum p a && isNum p b) = true then (if disc p a b = 0 then 1 else 0) else 2) else 1
theorem codeE_zero {p a b : Int} (h : codeE p a b = 0) : fieldB p = true ∧ 5 ≤ p ∧ p ≤ 97 ∧ 0 ≤ a ∧ a < p ∧ 0 ≤ b ∧ b < p ∧ disc p a b ≠ 0 := by
  unfold codeE at h
  split at h
  · rename_i h1
    split at h
    · rename_i h2
      simp only [Bool.and_eq_true, isNum_iff] at h2
      split at h
      · cases h
      · rename_i h3
        have := fieldB_facts h1
        exact ⟨h1, this.1, this.2.1, h2.1.1, h2.1.2, h2.2.1, h2.2.2, h3⟩
    · cases h
  · cases h
def isE (p a b : Int) : Bool := fieldB p && isNum p a && isNum p b && (disc p a b != 0)
theorem isNum_l01 (m a : Int) : (decide (0 ≤ a) && decide (a ≤ m - 1)) = isNum m a := rfl
theorem c_spec_l18Is (p a b : Int) : AFn Try.prog 54 [.int .i64 p, .int .i64 a, .int .i64 b] (.bool (isE p a b)) := by
  refine AFn.of' ttOk (by decide) Try.func54 Try.ntmps54 (by rw [Try.results54]) (by rfl) (by rfl) (by simp) (by decide) (by simp only [go_sem, Nat.reduceAdd, ↓reduceIte]; rfl) mixed (fun C hP hM hC => ?_)
  cases hf : fieldB p with
  | false =>
    (repeat (first | ((with_reducible refine rgn_cons rfl (fun K hK => ?_)); simp only [go_sem, seval, ↓reduceIte, decide_true, decide_false, hf]; (first | refine hK _ _ _ (by simp only [go_sem, Nat.reduceEqDiff, ↓reduceIte]; rfl) ?_ | refine ⟨_, c_spec_l18Field p, hK _ _ _ (by simp only [go_sem, Nat.reduceEqDiff, ↓reduceIte]; rfl) ?_⟩); clear hK; clear K) | (with_reducible first | refine rgn_nil (by first | trivial | kernel_rfl) ?_ | refine AWP.seq ?_ | refine tX hC hP (by kernel_rfl) ?_ | refine aX hC hM hP (by kernel_rfl) ?_ | refine AWP.skip ?_ | refine AWP.label ?_ | refine AWP.exit ?_ | refine AWP.block ?_ | refine cT (by simp only [go_sem, Nat.reduceEqDiff, ↓reduceIte]; with_reducible rfl) ?_ | refine cF (by simp only [go_sem, Nat.reduceEqDiff, ↓reduceIte]; with_reducible rfl) ?_) | simp only [qS, Nat.reduceEqDiff, ↓reduceIte]))
    (refine AWP.ret ?_; first | refine retOk1 (by simp only [go_sem, seval, ↓reduceIte, decide_true, decide_false]; rfl) ?_ | refine retOk2 (by simp only [go_sem, seval, ↓reduceIte, decide_true, decide_false]; rfl) (by simp only [go_sem, seval, ↓reduceIte, decide_true, decide_false]; rfl) (by simp) ?_ | refine retOk3 (by simp only [go_sem, seval, ↓reduceIte, decide_true, decide_false]; rfl) (by simp only [go_sem, seval, ↓reduceIte, decide_true, decide_false]; rfl) (by simp only [go_sem, seval, ↓reduceIte, decide_true, decide_false]; rfl) (by simp) ?_)
    simp [isE, hf]
  | true =>
    have hp := fieldB_facts hf
    cases ha : isNum p a with
    | false =>
      (repeat (first | ((with_reducible refine rgn_cons rfl (fun K hK => ?_)); simp only [go_sem, seval, ↓reduceIte, decide_true, decide_false, hf, ha, isNum_l01, wid (p - 1) (by omega) (by omega)]; (first | refine hK _ _ _ (by simp only [go_sem, Nat.reduceEqDiff, ↓reduceIte]; rfl) ?_ | refine ⟨_, c_spec_l18Field p, hK _ _ _ (by simp only [go_sem, Nat.reduceEqDiff, ↓reduceIte]; rfl) ?_⟩ | refine ⟨_, c_spec_l01In _ _ _, hK _ _ _ (by simp only [go_sem, Nat.reduceEqDiff, ↓reduceIte]; rfl) ?_⟩); clear hK; clear K) | (with_reducible first | refine rgn_nil (by first | trivial | kernel_rfl) ?_ | refine AWP.seq ?_ | refine tX hC hP (by kernel_rfl) ?_ | refine aX hC hM hP (by kernel_rfl) ?_ | refine AWP.skip ?_ | refine AWP.label ?_ | refine AWP.exit ?_ | refine AWP.block ?_ | refine cT (by simp only [go_sem, Nat.reduceEqDiff, ↓reduceIte]; with_reducible rfl) ?_ | refine cF (by simp only [go_sem, Nat.reduceEqDiff, ↓reduceIte]; with_reducible rfl) ?_) | simp only [qS, Nat.reduceEqDiff, ↓reduceIte]))
      (refine AWP.ret ?_; first | refine retOk1 (by simp only [go_sem, seval, ↓reduceIte, decide_true, decide_false]; rfl) ?_ | refine retOk2 (by simp only [go_sem, seval, ↓reduceIte, decide_true, decide_false]; rfl) (by simp only [go_sem, seval, ↓reduceIte, decide_true, decide_false]; rfl) (by simp) ?_ | refine retOk3 (by simp only [go_sem, seval, ↓reduceIte, decide_true, decide_false]; rfl) (by simp only [go_sem, seval, ↓reduceIte, decide_true, decide_false]; rfl) (by simp only [go_sem, seval, ↓reduceIte, decide_true, decide_false]; rfl) (by simp) ?_)
      simp [isE, ha]
    | true =>
      cases hb : isNum p b with
      | false =>
        (repeat (first | ((with_reducible refine rgn_cons rfl (fun K hK => ?_)); simp only [go_sem, seval, ↓reduceIte, decide_true, decide_false, hf, ha, hb, isNum_l01, wid (p - 1) (by omega) (by omega)]; (first | refine hK _ _ _ (by simp only [go_sem, Nat.reduceEqDiff, ↓reduceIte]; rfl) ?_ | refine ⟨_, c_spec_l18Field p, hK _ _ _ (by simp only [go_sem, Nat.reduceEqDiff, ↓reduceIte]; rfl) ?_⟩ | refine ⟨_, c_spec_l01In _ _ _, hK _ _ _ (by simp only [go_sem, Nat.reduceEqDiff, ↓reduceIte]; rfl) ?_⟩); clear hK; clear K) | (with_reducible first | refine rgn_nil (by first | trivial | kernel_rfl) ?_ | refine AWP.seq ?_ | refine tX hC hP (by kernel_rfl) ?_ | refine aX hC hM hP (by kernel_rfl) ?_ | refine AWP.skip ?_ | refine AWP.label ?_ | refine AWP.exit ?_ | refine AWP.block ?_ | refine cT (by simp only [go_sem, Nat.reduceEqDiff, ↓reduceIte]; with_reducible rfl) ?_ | refine cF (by simp only [go_sem, Nat.reduceEqDiff, ↓reduceIte]; with_reducible rfl) ?_) | simp only [qS, Nat.reduceEqDiff, ↓reduceIte]))
        (refine AWP.ret ?_; first | refine retOk1 (by simp only [go_sem, seval, ↓reduceIte, decide_true, decide_false]; rfl) ?_ | refine retOk2 (by simp only [go_sem, seval, ↓reduceIte, decide_true, decide_false]; rfl) (by simp only [go_sem, seval, ↓reduceIte, decide_true, decide_false]; rfl) (by simp) ?_ | refine retOk3 (by simp only [go_sem, seval, ↓reduceIte, decide_true, decide_false]; rfl) (by simp only [go_sem, seval, ↓reduceIte, decide_true, decide_false]; rfl) (by simp only [go_sem, seval, ↓reduceIte, decide_true, decide_false]; rfl) (by simp) ?_)
        simp [isE, hb]
      | true =>
        have ha2 := isNum_iff.1 ha
        have hb2 := isNum_iff.1 hb
        have h0 := small_mul hp.2.1 ha2.1 ha2.2 ha2.1 ha2.2
        have h00 : 4 * a * a = 4 * (a * a) := by rw [Int.mul_assoc]
        have h1 := emod_b (4 * a * a) p (by omega)
        have h2 := emod_b (27 * b) p (by omega)
        have h3 := small_mul hp.2.1 h1.1 h1.2 ha2.1 ha2.2
        have h4 := small_mul hp.2.1 h2.1 h2.2 hb2.1 hb2.2
        (repeat (first | ((with_reducible refine rgn_cons rfl (fun K hK => ?_)); simp only [go_sem, seval, ↓reduceIte, decide_true, decide_false, hf, ha, hb, isNum_l01, wid (p - 1) (by omega) (by omega), wid (4 * a) (by omega) (by omega), wid (4 * a * a) (by omega) (by omega), show p ≠ 0 by omega, tm (4 * a * a) p (by omega), wid (4 * a * a % p * a) (by omega) (by omega), wid (27 * b) (by omega) (by omega), tm (27 * b) p (by omega), wid (27 * b % p * b) (by omega) (by omega), wid (4 * a * a % p * a + 27 * b % p * b) (by omega) (by omega), tm (4 * a * a % p * a + 27 * b % p * b) p (by omega), disc_eq2]; (first | refine hK _ _ _ (by simp only [go_sem, Nat.reduceEqDiff, ↓reduceIte]; rfl) ?_ | refine ⟨_, c_spec_l18Field p, hK _ _ _ (by simp only [go_sem, Nat.reduceEqDiff, ↓reduceIte]; rfl) ?_⟩ | refine ⟨_, c_spec_l01In _ _ _, hK _ _ _ (by simp only [go_sem, Nat.reduceEqDiff, ↓reduceIte]; rfl) ?_⟩); clear hK; clear K) | (with_reducible first | refine rgn_nil (by first | trivial | kernel_rfl) ?_ | refine AWP.seq ?_ | refine tX hC hP (by kernel_rfl) ?_ | refine aX hC hM hP (by kernel_rfl) ?_ | refine AWP.skip ?_ | refine AWP.label ?_ | refine AWP.exit ?_ | refine AWP.block ?_ | refine cT (by simp only [go_sem, Nat.reduceEqDiff, ↓reduceIte]; with_reducible rfl) ?_ | refine cF (by simp only [go_sem, Nat.reduceEqDiff, ↓reduceIte]; with_reducible rfl) ?_) | simp only [qS, Nat.reduceEqDiff, ↓reduceIte]))
        (refine AWP.ret ?_; first | refine retOk1 (by simp only [go_sem, seval, ↓reduceIte, decide_true, decide_false]; rfl) ?_ | refine retOk2 (by simp only [go_sem, seval, ↓reduceIte, decide_true, decide_false]; rfl) (by simp only [go_sem, seval, ↓reduceIte, decide_true, decide_false]; rfl) (by simp) ?_ | refine retOk3 (by simp only [go_sem, seval, ↓reduceIte, decide_true, decide_false]; rfl) (by simp only [go_sem, seval, ↓reduceIte, decide_true, decide_false]; rfl) (by simp only [go_sem, seval, ↓reduceIte, decide_true, decide_false]; rfl) (by simp) ?_)
        simp [isE, hf, ha, hb]
theorem c_spec_IsEllipticCurve (p a b : Int) : AFn Try.prog 19 [.int .i64 p, .int .i64 a, .int .i64 b] (.bool (isE p a b)) := by
  refine AFn.of' ttOk (by decide) Try.func19 Try.ntmps19 (by rw [Try.results19]) (by rfl) (by rfl) (by simp) (by decide) (by simp only [go_sem, Nat.reduceAdd, ↓reduceIte]; rfl) mixed (fun C hP hM hC => ?_)
  (repeat (first | ((with_reducible refine rgn_cons rfl (fun K hK => ?_)); simp only [go_sem, seval, ↓reduceIte, decide_true, decide_false]; (first | refine hK _ _ _ (by simp only [go_sem, Nat.reduceEqDiff, ↓reduceIte]; rfl) ?_ | refine ⟨_, c_spec_l18Is p a b, hK _ _ _ (by simp only [go_sem, Nat.reduceEqDiff, ↓reduceIte]; rfl) ?_⟩); clear hK; clear K) | (with_reducible first | refine rgn_nil (by first | trivial | kernel_rfl) ?_ | refine AWP.seq ?_ | refine tX hC hP (by kernel_rfl) ?_ | refine aX hC hM hP (by kernel_rfl) ?_ | refine AWP.skip ?_ | refine AWP.label ?_ | refine AWP.exit ?_ | refine AWP.block ?_ | refine cT (by simp only [go_sem, Nat.reduceEqDiff, ↓reduceIte]; with_reducible rfl) ?_ | refine cF (by simp only [go_sem, Nat.reduceEqDiff, ↓reduceIte]; with_reducible rfl) ?_) | simp only [qS, Nat.reduceEqDiff, ↓reduceIte]))
  (refine AWP.ret ?_; first | refine retOk1 (by simp only [go_sem, seval, ↓reduceIte, decide_true, decide_false]; rfl) ?_ | refine retOk2 (by simp only [go_sem, seval, ↓reduceIte, decide_true, decide_false]; rfl) (by simp only [go_sem, seval, ↓reduceIte, decide_true, decide_false]; rfl) (by simp) ?_ | refine retOk3 (by simp only [go_sem, seval, ↓reduceIte, decide_true, decide_false]; rfl) (by simp only [go_sem, seval, ↓reduceIte, decide_true, decide_false]; rfl) (by simp only [go_sem, seval, ↓reduceIte, decide_true, decide_false]; rfl) (by simp) ?_)
  rfl
theorem c_spec_l18Code (p a b : Int) : AFn Try.prog 56 [.int .i64 p, .int .i64 a, .int .i64 b] (.int .i64 (codeE p a b)) := by
  refine AFn.of' ttOk (by decide) Try.func56 Try.ntmps56 (by rw [Try.results56]) (by rfl) (by rfl) (by simp) (by decide) (by simp only [go_sem, Nat.reduceAdd, ↓reduceIte]; rfl) mixed (fun C hP hM hC => ?_)
  cases hf : fieldB p with
  | false =>
    (repeat (first | ((with_reducible refine rgn_cons rfl (fun K hK => ?_)); simp only [go_sem, seval, ↓reduceIte, decide_true, decide_false, hf]; (first | refine hK _ _ _ (by simp only [go_sem, Nat.reduceEqDiff, ↓reduceIte]; rfl) ?_ | refine ⟨_, c_spec_l18Field p, hK _ _ _ (by simp only [go_sem, Nat.reduceEqDiff, ↓reduceIte]; rfl) ?_⟩); clear hK; clear K) | (with_reducible first | refine rgn_nil (by first | trivial | kernel_rfl) ?_ | refine AWP.seq ?_ | refine tX hC hP (by kernel_rfl) ?_ | refine aX hC hM hP (by kernel_rfl) ?_ | refine AWP.skip ?_ | refine AWP.label ?_ | refine AWP.exit ?_ | refine AWP.block ?_ | refine cT (by simp only [go_sem, Nat.reduceEqDiff, ↓reduceIte]; with_reducible rfl) ?_ | refine cF (by simp only [go_sem, Nat.reduceEqDiff, ↓reduceIte]; with_reducible rfl) ?_) | simp only [qS, Nat.reduceEqDiff, ↓reduceIte]))
    (refine AWP.ret ?_; first | refine retOk1 (by simp only [go_sem, seval, ↓reduceIte, decide_true, decide_false]; rfl) ?_ | refine retOk2 (by simp only [go_sem, seval, ↓reduceIte, decide_true, decide_false]; rfl) (by simp only [go_sem, seval, ↓reduceIte, decide_true, decide_false]; rfl) (by simp) ?_ | refine retOk3 (by simp only [go_sem, seval, ↓reduceIte, decide_true, decide_false]; rfl) (by simp only [go_sem, seval, ↓reduceIte, decide_true, decide_false]; rfl) (by simp only [go_sem, seval, ↓reduceIte, decide_true, decide_false]; rfl) (by simp) ?_)
    simp [codeE, hf]
  | true =>
    have hp := fieldB_facts hf
    cases ha : isNum p a with
    | false =>
      (repeat (first | ((with_reducible refine rgn_cons rfl (fun K hK => ?_)); simp only [go_sem, seval, ↓reduceIte, decide_true, decide_false, hf, ha, isNum_l01, wid (p - 1) (by omega) (by omega)]; (first | refine hK _ _ _ (by simp only [go_sem, Nat.reduceEqDiff, ↓reduceIte]; rfl) ?_ | refine ⟨_, c_spec_l18Field p, hK _ _ _ (by simp only [go_sem, Nat.reduceEqDiff, ↓reduceIte]; rfl) ?_⟩ | refine ⟨_, c_spec_l01In _ _ _, hK _ _ _ (by simp only [go_sem, Nat.reduceEqDiff, ↓reduceIte]; rfl) ?_⟩); clear hK; clear K) | (with_reducible first | refine rgn_nil (by first | trivial | kernel_rfl) ?_ | refine AWP.seq ?_ | refine tX hC hP (by kernel_rfl) ?_ | refine aX hC hM hP (by kernel_rfl) ?_ | refine AWP.skip ?_ | refine AWP.label ?_ | refine AWP.exit ?_ | refine AWP.block ?_ | refine cT (by simp only [go_sem, Nat.reduceEqDiff, ↓reduceIte]; with_reducible rfl) ?_ | refine cF (by simp only [go_sem, Nat.reduceEqDiff, ↓reduceIte]; with_reducible rfl) ?_) | simp only [qS, Nat.reduceEqDiff, ↓reduceIte]))
      (refine AWP.ret ?_; first | refine retOk1 (by simp only [go_sem, seval, ↓reduceIte, decide_true, decide_false]; rfl) ?_ | refine retOk2 (by simp only [go_sem, seval, ↓reduceIte, decide_true, decide_false]; rfl) (by simp only [go_sem, seval, ↓reduceIte, decide_true, decide_false]; rfl) (by simp) ?_ | refine retOk3 (by simp only [go_sem, seval, ↓reduceIte, decide_true, decide_false]; rfl) (by simp only [go_sem, seval, ↓reduceIte, decide_true, decide_false]; rfl) (by simp only [go_sem, seval, ↓reduceIte, decide_true, decide_false]; rfl) (by simp) ?_)
      simp [codeE, hf, ha]
    | true =>
      cases hb : isNum p b with
      | false =>
        (repeat (first | ((with_reducible refine rgn_cons rfl (fun K hK => ?_)); simp only [go_sem, seval, ↓reduceIte, decide_true, decide_false, hf, ha, hb, isNum_l01, wid (p - 1) (by omega) (by omega)]; (first | refine hK _ _ _ (by simp only [go_sem, Nat.reduceEqDiff, ↓reduceIte]; rfl) ?_ | refine ⟨_, c_spec_l18Field p, hK _ _ _ (by simp only [go_sem, Nat.reduceEqDiff, ↓reduceIte]; rfl) ?_⟩ | refine ⟨_, c_spec_l01In _ _ _, hK _ _ _ (by simp only [go_sem, Nat.reduceEqDiff, ↓reduceIte]; rfl) ?_⟩); clear hK; clear K) | (with_reducible first | refine rgn_nil (by first | trivial | kernel_rfl) ?_ | refine AWP.seq ?_ | refine tX hC hP (by kernel_rfl) ?_ | refine aX hC hM hP (by kernel_rfl) ?_ | refine AWP.skip ?_ | refine AWP.label ?_ | refine AWP.exit ?_ | refine AWP.block ?_ | refine cT (by simp only [go_sem, Nat.reduceEqDiff, ↓reduceIte]; with_reducible rfl) ?_ | refine cF (by simp only [go_sem, Nat.reduceEqDiff, ↓reduceIte]; with_reducible rfl) ?_) | simp only [qS, Nat.reduceEqDiff, ↓reduceIte]))
        (refine AWP.ret ?_; first | refine retOk1 (by simp only [go_sem, seval, ↓reduceIte, decide_true, decide_false]; rfl) ?_ | refine retOk2 (by simp only [go_sem, seval, ↓reduceIte, decide_true, decide_false]; rfl) (by simp only [go_sem, seval, ↓reduceIte, decide_true, decide_false]; rfl) (by simp) ?_ | refine retOk3 (by simp only [go_sem, seval, ↓reduceIte, decide_true, decide_false]; rfl) (by simp only [go_sem, seval, ↓reduceIte, decide_true, decide_false]; rfl) (by simp only [go_sem, seval, ↓reduceIte, decide_true, decide_false]; rfl) (by simp) ?_)
        simp [codeE, hf, ha, hb]
      | true =>
        by_cases hd : disc p a b = 0
        · have he : isE p a b = false := by simp [isE, hd]
          (repeat (first | ((with_reducible refine rgn_cons rfl (fun K hK => ?_)); simp only [go_sem, seval, ↓reduceIte, decide_true, decide_false, hf, ha, hb, he, isNum_l01, wid (p - 1) (by omega) (by omega)]; (first | refine hK _ _ _ (by simp only [go_sem, Nat.reduceEqDiff, ↓reduceIte]; rfl) ?_ | refine ⟨_, c_spec_l18Field p, hK _ _ _ (by simp only [go_sem, Nat.reduceEqDiff, ↓reduceIte]; rfl) ?_⟩ | refine ⟨_, c_spec_l01In _ _ _, hK _ _ _ (by simp only [go_sem, Nat.reduceEqDiff, ↓reduceIte]; rfl) ?_⟩ | refine ⟨_, c_spec_l18Is p a b, hK _ _ _ (by simp only [go_sem, Nat.reduceEqDiff, ↓reduceIte]; rfl) ?_⟩); clear hK; clear K) | (with_reducible first | refine rgn_nil (by first | trivial | kernel_rfl) ?_ | refine AWP.seq ?_ | refine tX hC hP (by kernel_rfl) ?_ | refine aX hC hM hP (by kernel_rfl) ?_ | refine AWP.skip ?_ | refine AWP.label ?_ | refine AWP.exit ?_ | refine AWP.block ?_ | refine cT (by simp only [go_sem, Nat.reduceEqDiff, ↓reduceIte]; with_reducible rfl) ?_ | refine cF (by simp only [go_sem, Nat.reduceEqDiff, ↓reduceIte]; with_reducible rfl) ?_) | simp only [qS, Nat.reduceEqDiff, ↓reduceIte]))
          (refine AWP.ret ?_; first | refine retOk1 (by simp only [go_sem, seval, ↓reduceIte, decide_true, decide_false]; rfl) ?_ | refine retOk2 (by simp only [go_sem, seval, ↓reduceIte, decide_true, decide_false]; rfl) (by simp only [go_sem, seval, ↓reduceIte, decide_true, decide_false]; rfl) (by simp) ?_ | refine retOk3 (by simp only [go_sem, seval, ↓reduceIte, decide_true, decide_false]; rfl) (by simp only [go_sem, seval, ↓reduceIte, decide_true, decide_false]; rfl) (by simp only [go_sem, seval, ↓reduceIte, decide_true, decide_false]; rfl) (by simp) ?_)
          simp [codeE, hf, ha, hb, hd]
        · have he : isE p a b = true := by simp [isE, hf, ha, hb, hd]
          (repeat (first | ((with_reducible refine rgn_cons rfl (fun K hK => ?_)); simp only [go_sem, seval, ↓reduceIte, decide_true, decide_false, hf, ha, hb, he, isNum_l01, wid (p - 1) (by omega) (by omega)]; (first | refine hK _ _ _ (by simp only [go_sem, Nat.reduceEqDiff, ↓reduceIte]; rfl) ?_ | refine ⟨_, c_spec_l18Field p, hK _ _ _ (by simp only [go_sem, Nat.reduceEqDiff, ↓reduceIte]; rfl) ?_⟩ | refine ⟨_, c_spec_l01In _ _ _, hK _ _ _ (by simp only [go_sem, Nat.reduceEqDiff, ↓reduceIte]; rfl) ?_⟩ | refine ⟨_, c_spec_l18Is p a b, hK _ _ _ (by simp only [go_sem, Nat.reduceEqDiff, ↓reduceIte]; rfl) ?_⟩); clear hK; clear K) | (with_reducible first | refine rgn_nil (by first | trivial | kernel_rfl) ?_ | refine AWP.seq ?_ | refine tX hC hP (by kernel_rfl) ?_ | refine aX hC hM hP (by kernel_rfl) ?_ | refine AWP.skip ?_ | refine AWP.label ?_ | refine AWP.exit ?_ | refine AWP.block ?_ | refine cT (by simp only [go_sem, Nat.reduceEqDiff, ↓reduceIte]; with_reducible rfl) ?_ | refine cF (by simp only [go_sem, Nat.reduceEqDiff, ↓reduceIte]; with_reducible rfl) ?_) | simp only [qS, Nat.reduceEqDiff, ↓reduceIte]))
          (refine AWP.ret ?_; first | refine retOk1 (by simp only [go_sem, seval, ↓reduceIte, decide_true, decide_false]; rfl) ?_ | refine retOk2 (by simp only [go_sem, seval, ↓reduceIte, decide_true, decide_false]; rfl) (by simp only [go_sem, seval, ↓reduceIte, decide_true, decide_false]; rfl) (by simp) ?_ | refine retOk3 (by simp only [go_sem, seval, ↓reduceIte, decide_true, decide_false]; rfl) (by simp only [go_sem, seval, ↓reduceIte, decide_true, decide_false]; rfl) (by simp only [go_sem, seval, ↓reduceIte, decide_true, decide_false]; rfl) (by simp) ?_)
          simp [codeE, hf, ha, hb, hd]
end Go.Proofs.Ytmnkklkolngfoaa
