/-
  Prime numbers; fields.
-/
import Derived.Test.YtoooefcjkmfhoaaLd
import Derived.Test.YtoooefcjkmfhoaaLcc
import Derived.Test.YtoooefcjkmfhoaaTr
namespace Go.Proofs.Ytoooefcjkmfhoaa
open Go.RowKit
set_option linter.unusedSimpArgs false
set_option linter.unusedVariables false
set_option linter.unusedSectionVars false
set_option maxRecDepth 20000
-- Prime numbers; fields.
def noDiv (n : Int) : Bool := (List.range n.toNat).all fun d => decide (d < 2) || decide (n < (d : Int) * (d : Int)) || decide (n % (d : Int) ≠ 0)
def primeB (n : Int) : Bool := decide (2 ≤ n) && noDiv n
theorem primeB_false {n : Int} {d : Nat} (h2 : 2 ≤ d) (h : (d : Int) * (d : Int) ≤ n) (h0 : n % (d : Int) = 0) : primeB n = false := by
  have h1 : 2 * (d : Int) ≤ (d : Int) * (d : Int) := Int.mul_le_mul_of_nonneg_right (by omega) (by omega)
  have : noDiv n = false := by
    unfold noDiv
    rw [List.all_eq_false]
    refine ⟨d, List.mem_range.2 (by omega), ?_⟩
    simp [h0]
    omega
  simp [primeB, this]
theorem primeB_true {n : Int} (hn : 2 ≤ n) (h : ∀ d : Nat, 2 ≤ d → (d : Int) * (d : Int) ≤ n → n % (d : Int) ≠ 0) : primeB n = true := by
  have : noDiv n = true := by
    unfold noDiv
    rw [List.all_eq_true]
    intro d _
    by_cases h1 : d < 2
    · simp [h1]
    · by_cases h2 : n < (d : Int) * (d : Int)
      · simp [h2]
      · simp [h d (by omega) (by omega)]
  simp [primeB, hn, this]
theorem primeB_small {n : Int} (h : n < 2) : primeB n = false := by simp [primeB]; omega
theorem sq_bound {d : Nat} {n : Int} (h : (d : Int) * (d : Int) ≤ n) (hn : n ≤ 4000000000000) : d ≤ 2000000 := by
  rcases Nat.lt_or_ge 2000000 d with h1 | h1
  · exfalso
    have h2 : (2000001 : Int) * 2000001 ≤ (d : Int) * (d : Int) := Int.mul_le_mul (by omega) (by omega) (by omega) (by omega)
    omega
  · exact h1
set_option maxHeartbeats 1000000 in
theorem c_spec_l01Prime (n : Int) (hn : n ≤ 4000000000000) : AFn Try.prog 74 [.int .i64 n] (.bool (primeB n)) := by
  refine AFn.of' ttOk (by decide) Try.func74 Try.ntmps74 (by rw [Try.results74]) (by rfl) (by rfl) (by simp) (by decide) (by simp only [go_sem, Nat.reduceAdd, ↓reduceIte]; rfl) mixed (fun C hP hM hC => ?_)
  (repeat (first | ((with_reducible refine rgn_cons rfl (fun K hK => ?_)); simp only [go_sem, seval, ↓reduceIte, decide_true, decide_false]; (refine hK _ _ _ (by simp only [go_sem, Nat.reduceEqDiff, ↓reduceIte]; rfl) ?_); clear hK; clear K) | (with_reducible first | refine rgn_nil (by first | trivial | kernel_rfl) ?_ | refine AWP.seq ?_ | refine tX hC hP (by kernel_rfl) ?_ | refine aX hC hM hP (by kernel_rfl) ?_ | refine AWP.skip ?_ | refine AWP.label ?_ | refine AWP.exit ?_ | refine AWP.block ?_ | refine cTa ?_ | refine cFa ?_) | simp only [qS, Nat.reduceEqDiff, ↓reduceIte]))
  refine AWP.loop (fun d : Nat => [(3, ⟨0, .val (.int .i64 d)⟩), (0, ⟨0, .val (.int .i64 n)⟩)]) (fun d => 2 ≤ d ∧ d ≤ 2000001 ∧ ∀ e : Nat, 2 ≤ e → e < d → (e : Int) * (e : Int) ≤ n → n % (e : Int) ≠ 0) (fun d => 2000002 - d) 2 ⟨by omega, by omega, fun e h1 h2 => by omega⟩ (fun i => rfl) ?_ (fun d hd => ?_)
  · simp [Sub, lk]
  · have hb : (d : Int) * (d : Int) ≤ 2000001 * 2000001 := Int.mul_le_mul (by omega) (by omega) (by omega) (by omega)
    have hb0 : 0 ≤ (d : Int) * (d : Int) := Int.mul_nonneg (by omega) (by omega)
    by_cases hs : (d : Int) * (d : Int) ≤ n
    · have hdb := sq_bound hs hn
      by_cases h0 : n % (d : Int) = 0
      · (repeat (first | ((with_reducible refine rgn_cons rfl (fun K hK => ?_)); simp only [go_sem, seval, ↓reduceIte, decide_true, decide_false, wid ((d : Int) * (d : Int)) (by omega) (by omega), hs, show (d : Int) ≠ 0 by omega, tm n (d : Int) (by omega), h0]; (refine hK _ _ _ (by simp only [go_sem, Nat.reduceEqDiff, ↓reduceIte]; rfl) ?_); clear hK; clear K) | (with_reducible first | refine rgn_nil (by first | trivial | kernel_rfl) ?_ | refine AWP.seq ?_ | refine tX hC hP (by kernel_rfl) ?_ | refine aX hC hM hP (by kernel_rfl) ?_ | refine AWP.skip ?_ | refine AWP.label ?_ | refine AWP.exit ?_ | refine AWP.block ?_ | refine cTa ?_ | refine cFa ?_) | simp only [qS, Nat.reduceEqDiff, ↓reduceIte]))
        (refine AWP.ret ?_; refine retOk1 (by simp only [go_sem, seval, ↓reduceIte, decide_true, decide_false]; rfl) ?_)
        rw [primeB_false hd.1 hs h0]
      · (repeat (first | ((with_reducible refine rgn_cons rfl (fun K hK => ?_)); simp only [go_sem, seval, ↓reduceIte, decide_true, decide_false, wid ((d : Int) * (d : Int)) (by omega) (by omega), hs, show (d : Int) ≠ 0 by omega, tm n (d : Int) (by omega), show (n % (d : Int) == 0) = false by simpa using h0, wid ((d : Int) + 1) (by omega) (by omega)]; (refine hK _ _ _ (by simp only [go_sem, Nat.reduceEqDiff, ↓reduceIte]; rfl) ?_); clear hK; clear K) | (with_reducible first | refine rgn_nil (by first | trivial | kernel_rfl) ?_ | refine AWP.seq ?_ | refine tX hC hP (by kernel_rfl) ?_ | refine aX hC hM hP (by kernel_rfl) ?_ | refine AWP.skip ?_ | refine AWP.label ?_ | refine AWP.exit ?_ | refine AWP.block ?_ | refine cTa ?_ | refine cFa ?_) | simp only [qS, Nat.reduceEqDiff, ↓reduceIte]))
        refine ⟨d + 1, ⟨by omega, by omega, fun e h1 h2 h3 => ?_⟩, by omega, by simp [Sub, lk]⟩
        by_cases e1 : e = d
        · subst e1; exact h0
        · exact hd.2.2 e h1 (by omega) h3
    · (repeat (first | ((with_reducible refine rgn_cons rfl (fun K hK => ?_)); simp only [go_sem, seval, ↓reduceIte, decide_true, decide_false, wid ((d : Int) * (d : Int)) (by omega) (by omega), hs]; (refine hK _ _ _ (by simp only [go_sem, Nat.reduceEqDiff, ↓reduceIte]; rfl) ?_); clear hK; clear K) | (with_reducible first | refine rgn_nil (by first | trivial | kernel_rfl) ?_ | refine AWP.seq ?_ | refine tX hC hP (by kernel_rfl) ?_ | refine aX hC hM hP (by kernel_rfl) ?_ | refine AWP.skip ?_ | refine AWP.label ?_ | refine AWP.exit ?_ | refine AWP.block ?_ | refine cTa ?_ | refine cFa ?_) | simp only [qS, Nat.reduceEqDiff, ↓reduceIte]))
      (refine AWP.ret ?_; refine retOk1 (by simp only [go_sem, seval, ↓reduceIte, decide_true, decide_false]; rfl) ?_)
      by_cases h2 : 2 ≤ n
      · rw [primeB_true h2 (fun e h1 h3 => hd.2.2 e h1 (by
          rcases Nat.lt_or_ge e d with h4 | h4
          · exact h4
          · exfalso
            have : (d : Int) * (d : Int) ≤ (e : Int) * (e : Int) := Int.mul_le_mul (by omega) (by omega) (by omega) (by omega)
            omega) h3)]
        simp [h2]
      · rw [primeB_small (by omega)]; simp [h2]
set_option maxHeartbeats 1000000 in
theorem c_impl_isPrime (n : Int) (hn : n ≤ 4000000000000) : AFn Try.prog 73 [.int .i64 n] (.bool (primeB n)) := by
  refine AFn.of' ttOk (by decide) Try.func73 Try.ntmps73 (by rw [Try.results73]) (by rfl) (by rfl) (by simp) (by decide) (by simp only [go_sem, Nat.reduceAdd, ↓reduceIte]; rfl) mixed (fun C hP hM hC => ?_)
  (repeat (first | ((with_reducible refine rgn_cons rfl (fun K hK => ?_)); simp only [go_sem, seval, ↓reduceIte, decide_true, decide_false]; (refine hK _ _ _ (by simp only [go_sem, Nat.reduceEqDiff, ↓reduceIte]; rfl) ?_); clear hK; clear K) | (with_reducible first | refine rgn_nil (by first | trivial | kernel_rfl) ?_ | refine AWP.seq ?_ | refine tX hC hP (by kernel_rfl) ?_ | refine aX hC hM hP (by kernel_rfl) ?_ | refine AWP.skip ?_ | refine AWP.label ?_ | refine AWP.exit ?_ | refine AWP.block ?_ | refine cTa ?_ | refine cFa ?_) | simp only [qS, Nat.reduceEqDiff, ↓reduceIte]))
  refine AWP.loop (fun d : Nat => [(3, ⟨0, .val (.int .i64 d)⟩), (0, ⟨0, .val (.int .i64 n)⟩)]) (fun d => 2 ≤ d ∧ d ≤ 2000001 ∧ ∀ e : Nat, 2 ≤ e → e < d → (e : Int) * (e : Int) ≤ n → n % (e : Int) ≠ 0) (fun d => 2000002 - d) 2 ⟨by omega, by omega, fun e h1 h2 => by omega⟩ (fun i => rfl) ?_ (fun d hd => ?_)
  · simp [Sub, lk]
  · have hb : (d : Int) * (d : Int) ≤ 2000001 * 2000001 := Int.mul_le_mul (by omega) (by omega) (by omega) (by omega)
    have hb0 : 0 ≤ (d : Int) * (d : Int) := Int.mul_nonneg (by omega) (by omega)
    by_cases hs : (d : Int) * (d : Int) ≤ n
    · have hdb := sq_bound hs hn
      by_cases h0 : n % (d : Int) = 0
      · (repeat (first | ((with_reducible refine rgn_cons rfl (fun K hK => ?_)); simp only [go_sem, seval, ↓reduceIte, decide_true, decide_false, wid ((d : Int) * (d : Int)) (by omega) (by omega), hs, show (d : Int) ≠ 0 by omega, tm n (d : Int) (by omega), h0]; (refine hK _ _ _ (by simp only [go_sem, Nat.reduceEqDiff, ↓reduceIte]; rfl) ?_); clear hK; clear K) | (with_reducible first | refine rgn_nil (by first | trivial | kernel_rfl) ?_ | refine AWP.seq ?_ | refine tX hC hP (by kernel_rfl) ?_ | refine aX hC hM hP (by kernel_rfl) ?_ | refine AWP.skip ?_ | refine AWP.label ?_ | refine AWP.exit ?_ | refine AWP.block ?_ | refine cTa ?_ | refine cFa ?_) | simp only [qS, Nat.reduceEqDiff, ↓reduceIte]))
        (refine AWP.ret ?_; refine retOk1 (by simp only [go_sem, seval, ↓reduceIte, decide_true, decide_false]; rfl) ?_)
        rw [primeB_false hd.1 hs h0]
      · (repeat (first | ((with_reducible refine rgn_cons rfl (fun K hK => ?_)); simp only [go_sem, seval, ↓reduceIte, decide_true, decide_false, wid ((d : Int) * (d : Int)) (by omega) (by omega), hs, show (d : Int) ≠ 0 by omega, tm n (d : Int) (by omega), show (n % (d : Int) == 0) = false by simpa using h0, wid ((d : Int) + 1) (by omega) (by omega)]; (refine hK _ _ _ (by simp only [go_sem, Nat.reduceEqDiff, ↓reduceIte]; rfl) ?_); clear hK; clear K) | (with_reducible first | refine rgn_nil (by first | trivial | kernel_rfl) ?_ | refine AWP.seq ?_ | refine tX hC hP (by kernel_rfl) ?_ | refine aX hC hM hP (by kernel_rfl) ?_ | refine AWP.skip ?_ | refine AWP.label ?_ | refine AWP.exit ?_ | refine AWP.block ?_ | refine cTa ?_ | refine cFa ?_) | simp only [qS, Nat.reduceEqDiff, ↓reduceIte]))
        refine ⟨d + 1, ⟨by omega, by omega, fun e h1 h2 h3 => ?_⟩, by omega, by simp [Sub, lk]⟩
        by_cases e1 : e = d
        · subst e1; exact h0
        · exact hd.2.2 e h1 (by omega) h3
    · (repeat (first | ((with_reducible refine rgn_cons rfl (fun K hK => ?_)); simp only [go_sem, seval, ↓reduceIte, decide_true, decide_false, wid ((d : Int) * (d : Int)) (by omega) (by omega), hs]; (refine hK _ _ _ (by simp only [go_sem, Nat.reduceEqDiff, ↓reduceIte]; rfl) ?_); clear hK; clear K) | (with_reducible first | refine rgn_nil (by first | trivial | kernel_rfl) ?_ | refine AWP.seq ?_ | refine tX hC hP (by kernel_rfl) ?_ | refine aX hC hM hP (by kernel_rfl) ?_ | refine AWP.skip ?_ | refine AWP.label ?_ | refine AWP.exit ?_ | refine AWP.block ?_ | refine cTa ?_ | refine cFa ?_) | simp only [qS, Nat.reduceEqDiff, ↓reduceIte]))
      (refine AWP.ret ?_; refine retOk1 (by simp only [go_sem, seval, ↓reduceIte, decide_true, decide_false]; rfl) ?_)
      by_cases h2 : 2 ≤ n
      · rw [primeB_true h2 (fun e h1 h3 => hd.2.2 e h1 (by
          rcases Nat.lt_or_ge e d with h4 | h4
          · exact h4
          · exfalso
            have : (d : Int) * (d : Int) ≤ (e : Int) * (e : Int) := Int.mul_le_mul (by omega) (by omega) (by omega) (by omega)
            omega) h3)]
        simp [h2]
      · rw [primeB_small (by omega)]; simp [h2]
/-- One of the prime numbers over which curves are told. -/
def fieldB (p : Int) : Bool := decide (5 ≤ p) && decide (p ≤ 97) && primeB p
theorem fieldB_facts {p : Int} (h : fieldB p = true) : 5 ≤ p ∧ p ≤ 97 ∧ primeB p = true := by
  simp only [fieldB, Bool.and_eq_true, decide_eq_true_eq] at h
  exact ⟨h.1.1, h.1.2, h.2⟩
set_option maxHeartbeats 1000000 in
theorem c_spec_l18Field (p : Int) : AFn Try.prog 53 [.int .i64 p] (.bool (fieldB p)) := by
  refine AFn.of' ttOk (by decide) Try.func53 Try.ntmps53 (by rw [Try.results53]) (by rfl) (by rfl) (by simp) (by decide) (by simp only [go_sem, Nat.reduceAdd, ↓reduceIte]; rfl) mixed (fun C hP hM hC => ?_)
  cases h : (decide (5 ≤ p) && decide (p ≤ 97)) with
  | false =>
    (repeat (first | ((with_reducible refine rgn_cons rfl (fun K hK => ?_)); simp only [go_sem, seval, ↓reduceIte, decide_true, decide_false, h]; (first | refine hK _ _ _ (by simp only [go_sem, Nat.reduceEqDiff, ↓reduceIte]; rfl) ?_ | refine ⟨_, c_spec_l01In _ _ _, hK _ _ _ (by simp only [go_sem, Nat.reduceEqDiff, ↓reduceIte]; rfl) ?_⟩); clear hK; clear K) | (with_reducible first | refine rgn_nil (by first | trivial | kernel_rfl) ?_ | refine AWP.seq ?_ | refine tX hC hP (by kernel_rfl) ?_ | refine aX hC hM hP (by kernel_rfl) ?_ | refine AWP.skip ?_ | refine AWP.label ?_ | refine AWP.exit ?_ | refine AWP.block ?_ | refine cTa ?_ | refine cFa ?_) | simp only [qS, Nat.reduceEqDiff, ↓reduceIte]))
    (refine AWP.ret ?_; refine retOk1 (by simp only [go_sem, seval, ↓reduceIte, decide_true, decide_false]; rfl) ?_)
    simp [fieldB, h]
  | true =>
    have h2 : 5 ≤ p ∧ p ≤ 97 := by simpa using h
    (repeat (first | ((with_reducible refine rgn_cons rfl (fun K hK => ?_)); simp only [go_sem, seval, ↓reduceIte, decide_true, decide_false, h]; (first | refine hK _ _ _ (by simp only [go_sem, Nat.reduceEqDiff, ↓reduceIte]; rfl) ?_ | refine ⟨_, c_spec_l01In _ _ _, hK _ _ _ (by simp only [go_sem, Nat.reduceEqDiff, ↓reduceIte]; rfl) ?_⟩ | refine ⟨_, c_spec_l01Prime p (by omega), hK _ _ _ (by simp only [go_sem, Nat.reduceEqDiff, ↓reduceIte]; rfl) ?_⟩); clear hK; clear K) | (with_reducible first | refine rgn_nil (by first | trivial | kernel_rfl) ?_ | refine AWP.seq ?_ | refine tX hC hP (by kernel_rfl) ?_ | refine aX hC hM hP (by kernel_rfl) ?_ | refine AWP.skip ?_ | refine AWP.label ?_ | refine AWP.exit ?_ | refine AWP.block ?_ | refine cTa ?_ | refine cFa ?_) | simp only [qS, Nat.reduceEqDiff, ↓reduceIte]))
    (refine AWP.ret ?_; refine retOk1 (by simp only [go_sem, seval, ↓reduceIte, decide_true, decide_false]; rfl) ?_)
    simp [fieldB, h]
set_option maxHeartbeats 1000000 in
theorem c_impl_isField (p : Int) : AFn Try.prog 52 [.int .i64 p] (.bool (fieldB p)) := by
  refine AFn.of' ttOk (by decide) Try.func52 Try.ntmps52 (by rw [Try.results52]) (by rfl) (by rfl) (by simp) (by decide) (by simp only [go_sem, Nat.reduceAdd, ↓reduceIte]; rfl) mixed (fun C hP hM hC => ?_)
  cases h : (decide (5 ≤ p) && decide (p ≤ 97)) with
  | false =>
    (repeat (first | ((with_reducible refine rgn_cons rfl (fun K hK => ?_)); simp only [go_sem, seval, ↓reduceIte, decide_true, decide_false, h]; (first | refine hK _ _ _ (by simp only [go_sem, Nat.reduceEqDiff, ↓reduceIte]; rfl) ?_ | refine ⟨_, c_impl_in _ _ _, hK _ _ _ (by simp only [go_sem, Nat.reduceEqDiff, ↓reduceIte]; rfl) ?_⟩); clear hK; clear K) | (with_reducible first | refine rgn_nil (by first | trivial | kernel_rfl) ?_ | refine AWP.seq ?_ | refine tX hC hP (by kernel_rfl) ?_ | refine aX hC hM hP (by kernel_rfl) ?_ | refine AWP.skip ?_ | refine AWP.label ?_ | refine AWP.exit ?_ | refine AWP.block ?_ | refine cTa ?_ | refine cFa ?_) | simp only [qS, Nat.reduceEqDiff, ↓reduceIte]))
    (refine AWP.ret ?_; refine retOk1 (by simp only [go_sem, seval, ↓reduceIte, decide_true, decide_false]; rfl) ?_)
    simp [fieldB, h]
  | true =>
    have h2 : 5 ≤ p ∧ p ≤ 97 := by simpa using h
    (repeat (first | ((with_reducible refine rgn_cons rfl (fun K hK => ?_)); simp only [go_sem, seval, ↓reduceIte, decide_true, decide_false, h]; (first | refine hK _ _ _ (by simp only [go_sem, Nat.reduceEqDiff, ↓reduceIte]; rfl) ?_ | refine ⟨_, c_impl_in _ _ _, hK _ _ _ (by simp only [go_sem, Nat.reduceEqDiff, ↓reduceIte]; rfl) ?_⟩ | refine ⟨_, c_impl_isPrime p (by omega), hK _ _ _ (by simp only [go_sem, Nat.reduceEqDiff, ↓reduceIte]; rfl) ?_⟩); clear hK; clear K) | (with_reducible first | refine rgn_nil (by first | trivial | kernel_rfl) ?_ | refine AWP.seq ?_ | refine tX hC hP (by kernel_rfl) ?_ | refine aX hC hM hP (by kernel_rfl) ?_ | refine AWP.skip ?_ | refine AWP.label ?_ | refine AWP.exit ?_ | refine AWP.block ?_ | refine cTa ?_ | refine cFa ?_) | simp only [qS, Nat.reduceEqDiff, ↓reduceIte]))
    (refine AWP.ret ?_; refine retOk1 (by simp only [go_sem, seval, ↓reduceIte, decide_true, decide_false]; rfl) ?_)
    simp [fieldB, h]
-- Curves: codes.
def disc (p a b : Int) : Int := (4 * a ^ 3 + 27 * b ^ 2) % p
def rightE (p a b x : Int) : Int := (x ^ 3 + a * x + b) % p
theorem disc_eq (p a b : Int) : (4 * (a ^ 3 % p) + 27 * (b ^ 2 % p)) % p = disc p a b := by
  unfold disc
  rw [Int.add_emod, mul_emod_r, mul_emod_r, ← Int.add_emod]
theorem disc_eq2 (p a b : Int) : (4 * a * a % p * a + 27 * b % p * b) % p = disc p a b := by
  unfold disc
  rw [Int.add_emod, mul_emod_l, mul_emod_l, ← Int.add_emod]
  congr 1
  grind
theorem right_eq (p a b x : Int) : (x ^ 3 % p + a * x + b) % p = rightE p a b x := by
  unfold rightE
  rw [Int.add_assoc, Int.emod_add_emod, Int.add_assoc]
theorem right_eq2 (p a b x : Int) : (x * x % p * x + a * x + b) % p = rightE p a b x := by
  unfold rightE
  rw [Int.add_assoc, Int.add_emod, mul_emod_l, ← Int.add_emod, ← Int.add_assoc]
  congr 1
  grind
theorem isNum_iff {m a : Int} : isNum m a = true ↔ 0 ≤ a ∧ a < m := by
  simp only [isNum, Bool.and_eq_true, decide_eq_true_eq]; omega
theorem small_mul {x y : Int} {m : Int} (hm : m ≤ 97) (hx : 0 ≤ x) (hx2 : x < m) (hy : 0 ≤ y) (hy2 : y < m) : 0 ≤ x * y ∧ x * y ≤ 9409 := by
  have h1 := Int.mul_nonneg hx hy
  have h2 : x * y ≤ 97 * 97 := Int.mul_le_mul (by omega) (by omega) hy (by omega)
  omega
set_option maxHeartbeats 1000000 in
theorem c_impl_discriminant (p a b : Int) (h5 : 5 ≤ p) (h97 : p ≤ 97) (ha : 0 ≤ a) (ha2 : a < p) (hb : 0 ≤ b) (hb2 : b < p) : AFn Try.prog 48 [.int .i64 p, .int .i64 a, .int .i64 b] (.int .i64 (disc p a b)) := by
  refine AFn.of' ttOk (by decide) Try.func48 Try.ntmps48 (by rw [Try.results48]) (by rfl) (by rfl) (by simp) (by decide) (by simp only [go_sem, Nat.reduceAdd, ↓reduceIte]; rfl) mixed (fun C hP hM hC => ?_)
  have h1 := emod_b (a ^ 3) p (by omega)
  have h2 := emod_b (b ^ 2) p (by omega)
  have hA := c_impl_power p a 3 (by omega) (by omega) ha ha2 (by omega)
  have hB := c_impl_power p b 2 (by omega) (by omega) hb hb2 (by omega)
  (repeat (first | ((with_reducible refine rgn_cons rfl (fun K hK => ?_)); simp only [go_sem, seval, ↓reduceIte, decide_true, decide_false, wid (4 * (a ^ 3 % p)) (by omega) (by omega), wid (27 * (b ^ 2 % p)) (by omega) (by omega), wid (4 * (a ^ 3 % p) + 27 * (b ^ 2 % p)) (by omega) (by omega), show p ≠ 0 by omega, tm (4 * (a ^ 3 % p) + 27 * (b ^ 2 % p)) p (by omega), disc_eq]; (first | refine hK _ _ _ (by simp only [go_sem, Nat.reduceEqDiff, ↓reduceIte]; rfl) ?_ | refine ⟨_, hA, hK _ _ _ (by simp only [go_sem, Nat.reduceEqDiff, ↓reduceIte]; rfl) ?_⟩ | refine ⟨_, hB, hK _ _ _ (by simp only [go_sem, Nat.reduceEqDiff, ↓reduceIte]; rfl) ?_⟩); clear hK; clear K) | (with_reducible first | refine rgn_nil (by first | trivial | kernel_rfl) ?_ | refine AWP.seq ?_ | refine tX hC hP (by kernel_rfl) ?_ | refine aX hC hM hP (by kernel_rfl) ?_ | refine AWP.skip ?_ | refine AWP.label ?_ | refine AWP.exit ?_ | refine AWP.block ?_ | refine cTa ?_ | refine cFa ?_) | simp only [qS, Nat.reduceEqDiff, ↓reduceIte]))
  (refine AWP.ret ?_; refine retOk1 (by simp only [go_sem, seval, ↓reduceIte, decide_true, decide_false]; rfl) ?_)
  rfl
def codeE (p a b : Int) : Int := if fieldB p = true then (if (isNum p a && isNum p b) = true then (if disc p a b = 0 then 1 else 0) else 2) else 1
theorem codeE_zero {p a b : Int} (h : codeE p a b = 0) : fieldB p = true ∧ 5 ≤ p ∧ p ≤ 97 ∧ 0 ≤ a ∧ a < p ∧ 0 ≤ b ∧ b < p ∧ disc p a b ≠ 0 := by
  unfold codeE at h
  split at h
  · rename_i h1
    split at h
    · rename_i h2
      simp only [Bool.and_eq_true, isNum_iff] at h2
      split at h
      · cases h
      · rename_i h3
        have := fieldB_facts h1
        exact ⟨h1, this.1, this.2.1, h2.1.1, h2.1.2, h2.2.1, h2.2.2, h3⟩
    · cases h
  · cases h
def isE (p a b : Int) : Bool := fieldB p && isNum p a && isNum p b && (disc p a b != 0)
theorem isNum_l01 (m a : Int) : (decide (0 ≤ a) && decide (a ≤ m - 1)) = isNum m a := rfl
set_option maxHeartbeats 1000000 in
theorem c_spec_l18Is (p a b : Int) : AFn Try.prog 44 [.int .i64 p, .int .i64 a, .int .i64 b] (.bool (isE p a b)) := by
  refine AFn.of' ttOk (by decide) Try.func44 Try.ntmps44 (by rw [Try.results44]) (by rfl) (by rfl) (by simp) (by decide) (by simp only [go_sem, Nat.reduceAdd, ↓reduceIte]; rfl) mixed (fun C hP hM hC => ?_)
  cases hf : fieldB p with
  | false =>
    (repeat (first | ((with_reducible refine rgn_cons rfl (fun K hK => ?_)); simp only [go_sem, seval, ↓reduceIte, decide_true, decide_false, hf]; (first | refine hK _ _ _ (by simp only [go_sem, Nat.reduceEqDiff, ↓reduceIte]; rfl) ?_ | refine ⟨_, c_spec_l18Field p, hK _ _ _ (by simp only [go_sem, Nat.reduceEqDiff, ↓reduceIte]; rfl) ?_⟩); clear hK; clear K) | (with_reducible first | refine rgn_nil (by first | trivial | kernel_rfl) ?_ | refine AWP.seq ?_ | refine tX hC hP (by kernel_rfl) ?_ | refine aX hC hM hP (by kernel_rfl) ?_ | refine AWP.skip ?_ | refine AWP.label ?_ | refine AWP.exit ?_ | refine AWP.block ?_ | refine cTa ?_ | refine cFa ?_) | simp only [qS, Nat.reduceEqDiff, ↓reduceIte]))
    (refine AWP.ret ?_; refine retOk1 (by simp only [go_sem, seval, ↓reduceIte, decide_true, decide_false]; rfl) ?_)
    simp [isE, hf]
  | true =>
    have hp := fieldB_facts hf
    cases ha : isNum p a with
    | false =>
      (repeat (first | ((with_reducible refine rgn_cons rfl (fun K hK => ?_)); simp only [go_sem, seval, ↓reduceIte, decide_true, decide_false, hf, ha, isNum_l01, wid (p - 1) (by omega) (by omega)]; (first | refine hK _ _ _ (by simp only [go_sem, Nat.reduceEqDiff, ↓reduceIte]; rfl) ?_ | refine ⟨_, c_spec_l18Field p, hK _ _ _ (by simp only [go_sem, Nat.reduceEqDiff, ↓reduceIte]; rfl) ?_⟩ | refine ⟨_, c_spec_l01In _ _ _, hK _ _ _ (by simp only [go_sem, Nat.reduceEqDiff, ↓reduceIte]; rfl) ?_⟩); clear hK; clear K) | (with_reducible first | refine rgn_nil (by first | trivial | kernel_rfl) ?_ | refine AWP.seq ?_ | refine tX hC hP (by kernel_rfl) ?_ | refine aX hC hM hP (by kernel_rfl) ?_ | refine AWP.skip ?_ | refine AWP.label ?_ | refine AWP.exit ?_ | refine AWP.block ?_ | refine cTa ?_ | refine cFa ?_) | simp only [qS, Nat.reduceEqDiff, ↓reduceIte]))
      (refine AWP.ret ?_; refine retOk1 (by simp only [go_sem, seval, ↓reduceIte, decide_true, decide_false]; rfl) ?_)
      simp [isE, ha]
    | true =>
      cases hb : isNum p b with
      | false =>
        (repeat (first | ((with_reducible refine rgn_cons rfl (fun K hK => ?_)); simp only [go_sem, seval, ↓reduceIte, decide_true, decide_false, hf, ha, hb, isNum_l01, wid (p - 1) (by omega) (by omega)]; (first | refine hK _ _ _ (by simp only [go_sem, Nat.reduceEqDiff, ↓reduceIte]; rfl) ?_ | refine ⟨_, c_spec_l18Field p, hK _ _ _ (by simp only [go_sem, Nat.reduceEqDiff, ↓reduceIte]; rfl) ?_⟩ | refine ⟨_, c_spec_l01In _ _ _, hK _ _ _ (by simp only [go_sem, Nat.reduceEqDiff, ↓reduceIte]; rfl) ?_⟩); clear hK; clear K) | (with_reducible first | refine rgn_nil (by first | trivial | kernel_rfl) ?_ | refine AWP.seq ?_ | refine tX hC hP (by kernel_rfl) ?_ | refine aX hC hM hP (by kernel_rfl) ?_ | refine AWP.skip ?_ | refine AWP.label ?_ | refine AWP.exit ?_ | refine AWP.block ?_ | refine cTa ?_ | refine cFa ?_) | simp only [qS, Nat.reduceEqDiff, ↓reduceIte]))
        (refine AWP.ret ?_; refine retOk1 (by simp only [go_sem, seval, ↓reduceIte, decide_true, decide_false]; rfl) ?_)
        simp [isE, hb]
      | true =>
        have ha2 := isNum_iff.1 ha
        have hb2 := isNum_iff.1 hb
        have h0 := small_mul hp.2.1 ha2.1 ha2.2 ha2.1 ha2.2
        have h00 : 4 * a * a = 4 * (a * a) := by rw [Int.mul_assoc]
        have h1 := emod_b (4 * a * a) p (by omega)
        have h2 := emod_b (27 * b) p (by omega)
        have h3 := small_mul hp.2.1 h1.1 h1.2 ha2.1 ha2.2
        have h4 := small_mul hp.2.1 h2.1 h2.2 hb2.1 hb2.2
        (repeat (first | ((with_reducible refine rgn_cons rfl (fun K hK => ?_)); simp only [go_sem, seval, ↓reduceIte, decide_true, decide_false, hf, ha, hb, isNum_l01, wid (p - 1) (by omega) (by omega), wid (4 * a) (by omega) (by omega), wid (4 * a * a) (by omega) (by omega), show p ≠ 0 by omega, tm (4 * a * a) p (by omega), wid (4 * a * a % p * a) (by omega) (by omega), wid (27 * b) (by omega) (by omega), tm (27 * b) p (by omega), wid (27 * b % p * b) (by omega) (by omega), wid (4 * a * a % p * a + 27 * b % p * b) (by omega) (by omega), tm (4 * a * a % p * a + 27 * b % p * b) p (by omega), disc_eq2]; (first | refine hK _ _ _ (by simp only [go_sem, Nat.reduceEqDiff, ↓reduceIte]; rfl) ?_ | refine ⟨_, c_spec_l18Field p, hK _ _ _ (by simp only [go_sem, Nat.reduceEqDiff, ↓reduceIte]; rfl) ?_⟩ | refine ⟨_, c_spec_l01In _ _ _, hK _ _ _ (by simp only [go_sem, Nat.reduceEqDiff, ↓reduceIte]; rfl) ?_⟩); clear hK; clear K) | (with_reducible first | refine rgn_nil (by first | trivial | kernel_rfl) ?_ | refine AWP.seq ?_ | refine tX hC hP (by kernel_rfl) ?_ | refine aX hC hM hP (by kernel_rfl) ?_ | refine AWP.skip ?_ | refine AWP.label ?_ | refine AWP.exit ?_ | refine AWP.block ?_ | refine cTa ?_ | refine cFa ?_) | simp only [qS, Nat.reduceEqDiff, ↓reduceIte]))
        (refine AWP.ret ?_; refine retOk1 (by simp only [go_sem, seval, ↓reduceIte, decide_true, decide_false]; rfl) ?_)
        simp [isE, hf, ha, hb]
set_option maxHeartbeats 1000000 in
theorem c_spec_IsEllipticCurve (p a b : Int) : AFn Try.prog 14 [.int .i64 p, .int .i64 a, .int .i64 b] (.bool (isE p a b)) := by
  refine AFn.of' ttOk (by decide) Try.func14 Try.ntmps14 (by rw [Try.results14]) (by rfl) (by rfl) (by simp) (by decide) (by simp only [go_sem, Nat.reduceAdd, ↓reduceIte]; rfl) mixed (fun C hP hM hC => ?_)
  (repeat (first | ((with_reducible refine rgn_cons rfl (fun K hK => ?_)); simp only [go_sem, seval, ↓reduceIte, decide_true, decide_false]; (first | refine hK _ _ _ (by simp only [go_sem, Nat.reduceEqDiff, ↓reduceIte]; rfl) ?_ | refine ⟨_, c_spec_l18Is p a b, hK _ _ _ (by simp only [go_sem, Nat.reduceEqDiff, ↓reduceIte]; rfl) ?_⟩); clear hK; clear K) | (with_reducible first | refine rgn_nil (by first | trivial | kernel_rfl) ?_ | refine AWP.seq ?_ | refine tX hC hP (by kernel_rfl) ?_ | refine aX hC hM hP (by kernel_rfl) ?_ | refine AWP.skip ?_ | refine AWP.label ?_ | refine AWP.exit ?_ | refine AWP.block ?_ | refine cTa ?_ | refine cFa ?_) | simp only [qS, Nat.reduceEqDiff, ↓reduceIte]))
  (refine AWP.ret ?_; refine retOk1 (by simp only [go_sem, seval, ↓reduceIte, decide_true, decide_false]; rfl) ?_)
  rfl
set_option maxHeartbeats 1000000 in
theorem c_spec_l18Code (p a b : Int) : AFn Try.prog 38 [.int .i64 p, .int .i64 a, .int .i64 b] (.int .i64 (codeE p a b)) := by
  refine AFn.of' ttOk (by decide) Try.func38 Try.ntmps38 (by rw [Try.results38]) (by rfl) (by rfl) (by simp) (by decide) (by simp only [go_sem, Nat.reduceAdd, ↓reduceIte]; rfl) mixed (fun C hP hM hC => ?_)
  cases hf : fieldB p with
  | false =>
    (repeat (first | ((with_reducible refine rgn_cons rfl (fun K hK => ?_)); simp only [go_sem, seval, ↓reduceIte, decide_true, decide_false, hf]; (first | refine hK _ _ _ (by simp only [go_sem, Nat.reduceEqDiff, ↓reduceIte]; rfl) ?_ | refine ⟨_, c_spec_l18Field p, hK _ _ _ (by simp only [go_sem, Nat.reduceEqDiff, ↓reduceIte]; rfl) ?_⟩); clear hK; clear K) | (with_reducible first | refine rgn_nil (by first | trivial | kernel_rfl) ?_ | refine AWP.seq ?_ | refine tX hC hP (by kernel_rfl) ?_ | refine aX hC hM hP (by kernel_rfl) ?_ | refine AWP.skip ?_ | refine AWP.label ?_ | refine AWP.exit ?_ | refine AWP.block ?_ | refine cTa ?_ | refine cFa ?_) | simp only [qS, Nat.reduceEqDiff, ↓reduceIte]))
    (refine AWP.ret ?_; refine retOk1 (by simp only [go_sem, seval, ↓reduceIte, decide_true, decide_false]; rfl) ?_)
    simp [codeE, hf]
  | true =>
    have hp := fieldB_facts hf
    cases ha : isNum p a with
    | false =>
      (repeat (first | ((with_reducible refine rgn_cons rfl (fun K hK => ?_)); simp only [go_sem, seval, ↓reduceIte, decide_true, decide_false, hf, ha, isNum_l01, wid (p - 1) (by omega) (by omega)]; (first | refine hK _ _ _ (by simp only [go_sem, Nat.reduceEqDiff, ↓reduceIte]; rfl) ?_ | refine ⟨_, c_spec_l18Field p, hK _ _ _ (by simp only [go_sem, Nat.reduceEqDiff, ↓reduceIte]; rfl) ?_⟩ | refine ⟨_, c_spec_l01In _ _ _, hK _ _ _ (by simp only [go_sem, Nat.reduceEqDiff, ↓reduceIte]; rfl) ?_⟩); clear hK; clear K) | (with_reducible first | refine rgn_nil (by first | trivial | kernel_rfl) ?_ | refine AWP.seq ?_ | refine tX hC hP (by kernel_rfl) ?_ | refine aX hC hM hP (by kernel_rfl) ?_ | refine AWP.skip ?_ | refine AWP.label ?_ | refine AWP.exit ?_ | refine AWP.block ?_ | refine cTa ?_ | refine cFa ?_) | simp only [qS, Nat.reduceEqDiff, ↓reduceIte]))
      (refine AWP.ret ?_; refine retOk1 (by simp only [go_sem, seval, ↓reduceIte, decide_true, decide_false]; rfl) ?_)
      simp [codeE, hf, ha]
    | true =>
      cases hb : isNum p b with
      | false =>
        (repeat (first | ((with_reducible refine rgn_cons rfl (fun K hK => ?_)); simp only [go_sem, seval, ↓reduceIte, decide_true, decide_false, hf, ha, hb, isNum_l01, wid (p - 1) (by omega) (by omega)]; (first | refine hK _ _ _ (by simp only [go_sem, Nat.reduceEqDiff, ↓reduceIte]; rfl) ?_ | refine ⟨_, c_spec_l18Field p, hK _ _ _ (by simp only [go_sem, Nat.reduceEqDiff, ↓reduceIte]; rfl) ?_⟩ | refine ⟨_, c_spec_l01In _ _ _, hK _ _ _ (by simp only [go_sem, Nat.reduceEqDiff, ↓reduceIte]; rfl) ?_⟩); clear hK; clear K) | (with_reducible first | refine rgn_nil (by first | trivial | kernel_rfl) ?_ | refine AWP.seq ?_ | refine tX hC hP (by kernel_rfl) ?_ | refine aX hC hM hP (by kernel_rfl) ?_ | refine AWP.skip ?_ | refine AWP.label ?_ | refine AWP.exit ?_ | refine AWP.block ?_ | refine cTa ?_ | refine cFa ?_) | simp only [qS, Nat.reduceEqDiff, ↓reduceIte]))
        (refine AWP.ret ?_; refine retOk1 (by simp only [go_sem, seval, ↓reduceIte, decide_true, decide_false]; rfl) ?_)
        simp [codeE, hf, ha, hb]
      | true =>
        by_cases hd : disc p a b = 0
        · have he : isE p a b = false := by simp [isE, hd]
          (repeat (first | ((with_reducible refine rgn_cons rfl (fun K hK => ?_)); simp only [go_sem, seval, ↓reduceIte, decide_true, decide_false, hf, ha, hb, he, isNum_l01, wid (p - 1) (by omega) (by omega)]; (first | refine hK _ _ _ (by simp only [go_sem, Nat.reduceEqDiff, ↓reduceIte]; rfl) ?_ | refine ⟨_, c_spec_l18Field p, hK _ _ _ (by simp only [go_sem, Nat.reduceEqDiff, ↓reduceIte]; rfl) ?_⟩ | refine ⟨_, c_spec_l01In _ _ _, hK _ _ _ (by simp only [go_sem, Nat.reduceEqDiff, ↓reduceIte]; rfl) ?_⟩ | refine ⟨_, c_spec_l18Is p a b, hK _ _ _ (by simp only [go_sem, Nat.reduceEqDiff, ↓reduceIte]; rfl) ?_⟩); clear hK; clear K) | (with_reducible first | refine rgn_nil (by first | trivial | kernel_rfl) ?_ | refine AWP.seq ?_ | refine tX hC hP (by kernel_rfl) ?_ | refine aX hC hM hP (by kernel_rfl) ?_ | refine AWP.skip ?_ | refine AWP.label ?_ | refine AWP.exit ?_ | refine AWP.block ?_ | refine cTa ?_ | refine cFa ?_) | simp only [qS, Nat.reduceEqDiff, ↓reduceIte]))
          (refine AWP.ret ?_; refine retOk1 (by simp only [go_sem, seval, ↓reduceIte, decide_true, decide_false]; rfl) ?_)
          simp [codeE, hf, ha, hb, hd]
        · have he : isE p a b = true := by simp [isE, hf, ha, hb, hd]
          (repeat (first | ((with_reducible refine rgn_cons rfl (fun K hK => ?_)); simp only [go_sem, seval, ↓reduceIte, decide_true, decide_false, hf, ha, hb, he, isNum_l01, wid (p - 1) (by omega) (by omega)]; (first | refine hK _ _ _ (by simp only [go_sem, Nat.reduceEqDiff, ↓reduceIte]; rfl) ?_ | refine ⟨_, c_spec_l18Field p, hK _ _ _ (by simp only [go_sem, Nat.reduceEqDiff, ↓reduceIte]; rfl) ?_⟩ | refine ⟨_, c_spec_l01In _ _ _, hK _ _ _ (by simp only [go_sem, Nat.reduceEqDiff, ↓reduceIte]; rfl) ?_⟩ | refine ⟨_, c_spec_l18Is p a b, hK _ _ _ (by simp only [go_sem, Nat.reduceEqDiff, ↓reduceIte]; rfl) ?_⟩); clear hK; clear K) | (with_reducible first | refine rgn_nil (by first | trivial | kernel_rfl) ?_ | refine AWP.seq ?_ | refine tX hC hP (by kernel_rfl) ?_ | refine aX hC hM hP (by kernel_rfl) ?_ | refine AWP.skip ?_ | refine AWP.label ?_ | refine AWP.exit ?_ | refine AWP.block ?_ | refine cTa ?_ | refine cFa ?_) | simp only [qS, Nat.reduceEqDiff, ↓reduceIte]))
          (refine AWP.ret ?_; refine retOk1 (by simp only [go_sem, seval, ↓reduceIte, decide_true, decide_false]; rfl) ?_)
          simp [codeE, hf, ha, hb, hd]
end Go.Proofs.Ytoooefcjkmfhoaa
