/-
  Points of a curve: whether a list is one.
-/
import Derived.Test.YtoooefcjkmfhoaaEa
namespace Go.Proofs.Ytoooefcjkmfhoaa
open Go.RowKit
set_option linter.unusedSimpArgs false
set_option linter.unusedVariables false
set_option linter.unusedSectionVars false
set_option maxRecDepth 20000
-- Points of a curve: whether a list is one.
/-- Whether a list is a point. -/
def hasB (p a b : Int) (l : List Int) : Bool := (l.length == 0) || ((l.length == 2) && isNum p (at' l 0) && isNum p (at' l 1) && (at' l 1 * at' l 1 % p == rightE p a b (at' l 0)))
structure CurveOk (p a b : Int) : Prop where
  h5 : 5 ≤ p
  h97 : p ≤ 97
  ha : 0 ≤ a
  ha2 : a < p
  hb : 0 ≤ b
  hb2 : b < p
theorem CurveOk.of {p a b : Int} (h : codeE p a b = 0) : CurveOk p a b := by
  have := codeE_zero h
  exact ⟨this.2.1, this.2.2.1, this.2.2.2.1, this.2.2.2.2.1, this.2.2.2.2.2.1, this.2.2.2.2.2.2.1⟩
set_option maxHeartbeats 1000000 in
theorem c_impl_elliptic_value (p a b x : Int) (h : CurveOk p a b) (hx : 0 ≤ x) (hx2 : x < p) : AFn Try.prog 81 [.agg [.int .i64 p, .int .i64 a, .int .i64 b], .int .i64 x] (.int .i64 (rightE p a b x)) := by
  refine AFn.of' ttOk (by decide) Try.func81 Try.ntmps81 (by rw [Try.results81]) (by rfl) (by rfl) (by simp) (by decide) (by simp only [go_sem, Nat.reduceAdd, ↓reduceIte]; rfl) mixed (fun C hP hM hC => ?_)
  have h5 := h.h5
  have h97 := h.h97
  have ha := h.ha
  have ha2 := h.ha2
  have hb := h.hb
  have hb2 := h.hb2
  have h1 := emod_b (x ^ 3) p (by omega)
  have hA := c_impl_power p x 3 (by omega) (by omega) hx hx2 (by omega)
  have h2 := small_mul h97 ha ha2 hx hx2
  (repeat (first | ((with_reducible refine rgn_cons rfl (fun K hK => ?_)); simp only [go_sem, seval, ↓reduceIte, decide_true, decide_false, wid (a * x) (by omega) (by omega), wid (x ^ 3 % p + a * x) (by omega) (by omega), wid (x ^ 3 % p + a * x + b) (by omega) (by omega), show p ≠ 0 by omega, tm (x ^ 3 % p + a * x + b) p (by omega), right_eq]; (first | refine hK _ _ _ (by simp only [go_sem, Nat.reduceEqDiff, ↓reduceIte]; rfl) ?_ | refine ⟨_, hA, hK _ _ _ (by simp only [go_sem, Nat.reduceEqDiff, ↓reduceIte]; rfl) ?_⟩); clear hK; clear K) | (with_reducible first | refine rgn_nil (by first | trivial | kernel_rfl) ?_ | refine AWP.seq ?_ | refine tX hC hP (by kernel_rfl) ?_ | refine aX hC hM hP (by kernel_rfl) ?_ | refine AWP.skip ?_ | refine AWP.label ?_ | refine AWP.exit ?_ | refine AWP.block ?_ | refine cTa ?_ | refine cFa ?_) | simp only [qS, Nat.reduceEqDiff, ↓reduceIte]))
  (refine AWP.ret ?_; refine retOk1 (by simp only [go_sem, seval, ↓reduceIte, decide_true, decide_false]; rfl) ?_)
  rfl
set_option maxHeartbeats 1000000 in
theorem c_spec_l18Right (p a b x : Int) (h : CurveOk p a b) (hx : 0 ≤ x) (hx2 : x < p) : AFn Try.prog 66 [.int .i64 p, .int .i64 a, .int .i64 b, .int .i64 x] (.int .i64 (rightE p a b x)) := by
  refine AFn.of' ttOk (by decide) Try.func66 Try.ntmps66 (by rw [Try.results66]) (by rfl) (by rfl) (by simp) (by decide) (by simp only [go_sem, Nat.reduceAdd, ↓reduceIte]; rfl) mixed (fun C hP hM hC => ?_)
  have h5 := h.h5
  have h97 := h.h97
  have ha := h.ha
  have ha2 := h.ha2
  have hb := h.hb
  have hb2 := h.hb2
  have h1 := small_mul h97 hx hx2 hx hx2
  have h2 := small_mul h97 ha ha2 hx hx2
  have h3 := emod_b (x * x) p (by omega)
  have h4 := small_mul h97 h3.1 h3.2 hx hx2
  (repeat (first | ((with_reducible refine rgn_cons rfl (fun K hK => ?_)); simp only [go_sem, seval, ↓reduceIte, decide_true, decide_false, wid (x * x) (by omega) (by omega), show p ≠ 0 by omega, tm (x * x) p (by omega), wid (x * x % p * x) (by omega) (by omega), wid (a * x) (by omega) (by omega), wid (x * x % p * x + a * x) (by omega) (by omega), wid (x * x % p * x + a * x + b) (by omega) (by omega), tm (x * x % p * x + a * x + b) p (by omega), right_eq2]; (refine hK _ _ _ (by simp only [go_sem, Nat.reduceEqDiff, ↓reduceIte]; rfl) ?_); clear hK; clear K) | (with_reducible first | refine rgn_nil (by first | trivial | kernel_rfl) ?_ | refine AWP.seq ?_ | refine tX hC hP (by kernel_rfl) ?_ | refine aX hC hM hP (by kernel_rfl) ?_ | refine AWP.skip ?_ | refine AWP.label ?_ | refine AWP.exit ?_ | refine AWP.block ?_ | refine cTa ?_ | refine cFa ?_) | simp only [qS, Nat.reduceEqDiff, ↓reduceIte]))
  (refine AWP.ret ?_; refine retOk1 (by simp only [go_sem, seval, ↓reduceIte, decide_true, decide_false]; rfl) ?_)
  rfl
set_option maxHeartbeats 2000000 in
theorem c_impl_elliptic_has (p a b : Int) (l : List Int) (h : CurveOk p a b) (hl : l.length ≤ 1099511627776) : AFn Try.prog 69 [.agg [.int .i64 p, .int .i64 a, .int .i64 b], .sl false 2 (intL l)] (.bool (hasB p a b l)) := by
  refine AFn.of' ttOk (by decide) Try.func69 Try.ntmps69 (by rw [Try.results69]) (by rfl) (by rfl) (by simp) (by decide) (by simp only [go_sem, Nat.reduceAdd, ↓reduceIte]; rfl) mixed (fun C hP hM hC => ?_)
  have h5 := h.h5
  have h97 := h.h97
  by_cases h0 : l.length = 0
  · (repeat (first | ((with_reducible refine rgn_cons rfl (fun K hK => ?_)); simp only [go_sem, seval, ↓reduceIte, decide_true, decide_false, show ((l.length : Int) == 0) = true by simp [h0]]; (refine hK _ _ _ (by simp only [go_sem, Nat.reduceEqDiff, ↓reduceIte]; rfl) ?_); clear hK; clear K) | (with_reducible first | refine rgn_nil (by first | trivial | kernel_rfl) ?_ | refine AWP.seq ?_ | refine tX hC hP (by kernel_rfl) ?_ | refine aX hC hM hP (by kernel_rfl) ?_ | refine AWP.skip ?_ | refine AWP.label ?_ | refine AWP.exit ?_ | refine AWP.block ?_ | refine cTa ?_ | refine cFa ?_) | simp only [qS, Nat.reduceEqDiff, ↓reduceIte]))
    (refine AWP.ret ?_; refine retOk1 (by simp only [go_sem, seval, ↓reduceIte, decide_true, decide_false]; rfl) ?_)
    simp [hasB, h0]
  · have hn0 : ((l.length : Int) == 0) = false := by rw [beq_eq_false_iff_ne]; omega
    by_cases h2 : l.length = 2
    · have hn2 : ((l.length : Int) == 2) = true := by simp [h2]
      have l0 : 0 < l.length := by omega
      have l1 : 1 < l.length := by omega
      cases hx : isNum p (at' l 0) with
      | false =>
        (repeat (first | ((with_reducible refine rgn_cons rfl (fun K hK => ?_)); simp only [go_sem, seval, ↓reduceIte, decide_true, decide_false, hn0, hn2, hx, intL_getD l 0 l0, show l.getD 0 0 = at' l 0 from rfl, Int.toNat_zero, Int.le_refl, show (0 : Int) < (l.length : Int) by omega]; (first | refine hK _ _ _ (by simp only [go_sem, Nat.reduceEqDiff, ↓reduceIte]; rfl) ?_ | refine ⟨_, c_impl_isNumber (at' l 0) p (by omega) (by omega), hK _ _ _ (by simp only [go_sem, Nat.reduceEqDiff, ↓reduceIte]; rfl) ?_⟩); clear hK; clear K) | (with_reducible first | refine rgn_nil (by first | trivial | kernel_rfl) ?_ | refine AWP.seq ?_ | refine tX hC hP (by kernel_rfl) ?_ | refine aX hC hM hP (by kernel_rfl) ?_ | refine AWP.skip ?_ | refine AWP.label ?_ | refine AWP.exit ?_ | refine AWP.block ?_ | refine cTa ?_ | refine cFa ?_) | simp only [qS, Nat.reduceEqDiff, ↓reduceIte]))
        (refine AWP.ret ?_; refine retOk1 (by simp only [go_sem, seval, ↓reduceIte, decide_true, decide_false]; rfl) ?_)
        simp [hasB, h0, h2, hx]
      | true =>
        have hx2 := isNum_iff.1 hx
        cases hy : isNum p (at' l 1) with
        | false =>
          (repeat (first | ((with_reducible refine rgn_cons rfl (fun K hK => ?_)); simp only [go_sem, seval, ↓reduceIte, decide_true, decide_false, hn0, hn2, hx, hy, intL_getD l 0 l0, intL_getD l 1 l1, show l.getD 0 0 = at' l 0 from rfl, show l.getD 1 0 = at' l 1 from rfl, Int.toNat_zero, Int.le_refl, show (0 : Int) < (l.length : Int) by omega, show (1 : Int) < (l.length : Int) by omega]; (first | refine hK _ _ _ (by simp only [go_sem, Nat.reduceEqDiff, ↓reduceIte]; rfl) ?_ | refine ⟨_, c_impl_isNumber (at' l 0) p (by omega) (by omega), hK _ _ _ (by simp only [go_sem, Nat.reduceEqDiff, ↓reduceIte]; rfl) ?_⟩ | refine ⟨_, c_impl_isNumber (at' l 1) p (by omega) (by omega), hK _ _ _ (by simp only [go_sem, Nat.reduceEqDiff, ↓reduceIte]; rfl) ?_⟩); clear hK; clear K) | (with_reducible first | refine rgn_nil (by first | trivial | kernel_rfl) ?_ | refine AWP.seq ?_ | refine tX hC hP (by kernel_rfl) ?_ | refine aX hC hM hP (by kernel_rfl) ?_ | refine AWP.skip ?_ | refine AWP.label ?_ | refine AWP.exit ?_ | refine AWP.block ?_ | refine cTa ?_ | refine cFa ?_) | simp only [qS, Nat.reduceEqDiff, ↓reduceIte]))
          (refine AWP.ret ?_; refine retOk1 (by simp only [go_sem, seval, ↓reduceIte, decide_true, decide_false]; rfl) ?_)
          simp [hasB, h0, h2, hx, hy]
        | true =>
          have hy2 := isNum_iff.1 hy
          have hyy := small_mul h97 hy2.1 hy2.2 hy2.1 hy2.2
          (repeat (first | ((with_reducible refine rgn_cons rfl (fun K hK => ?_)); simp only [go_sem, seval, ↓reduceIte, decide_true, decide_false, hn0, hn2, hx, hy, intL_getD l 0 l0, intL_getD l 1 l1, show l.getD 0 0 = at' l 0 from rfl, show l.getD 1 0 = at' l 1 from rfl, Int.toNat_zero, Int.le_refl, show (0 : Int) < (l.length : Int) by omega, show (1 : Int) < (l.length : Int) by omega, wid (at' l 1 * at' l 1) (by omega) (by omega), show p ≠ 0 by omega, tm (at' l 1 * at' l 1) p (by omega)]; (first | refine hK _ _ _ (by simp only [go_sem, Nat.reduceEqDiff, ↓reduceIte]; rfl) ?_ | refine ⟨_, c_impl_isNumber (at' l 0) p (by omega) (by omega), hK _ _ _ (by simp only [go_sem, Nat.reduceEqDiff, ↓reduceIte]; rfl) ?_⟩ | refine ⟨_, c_impl_isNumber (at' l 1) p (by omega) (by omega), hK _ _ _ (by simp only [go_sem, Nat.reduceEqDiff, ↓reduceIte]; rfl) ?_⟩ | refine ⟨_, c_impl_elliptic_value p a b (at' l 0) h hx2.1 hx2.2, hK _ _ _ (by simp only [go_sem, Nat.reduceEqDiff, ↓reduceIte]; rfl) ?_⟩); clear hK; clear K) | (with_reducible first | refine rgn_nil (by first | trivial | kernel_rfl) ?_ | refine AWP.seq ?_ | refine tX hC hP (by kernel_rfl) ?_ | refine aX hC hM hP (by kernel_rfl) ?_ | refine AWP.skip ?_ | refine AWP.label ?_ | refine AWP.exit ?_ | refine AWP.block ?_ | refine cTa ?_ | refine cFa ?_) | simp only [qS, Nat.reduceEqDiff, ↓reduceIte]))
          (refine AWP.ret ?_; refine retOk1 (by simp only [go_sem, seval, ↓reduceIte, decide_true, decide_false]; rfl) ?_)
          simp [hasB, h0, h2, hx, hy]
    · have hn2 : ((l.length : Int) == 2) = false := by simp; omega
      (repeat (first | ((with_reducible refine rgn_cons rfl (fun K hK => ?_)); simp only [go_sem, seval, ↓reduceIte, decide_true, decide_false, hn0, hn2]; (refine hK _ _ _ (by simp only [go_sem, Nat.reduceEqDiff, ↓reduceIte]; rfl) ?_); clear hK; clear K) | (with_reducible first | refine rgn_nil (by first | trivial | kernel_rfl) ?_ | refine AWP.seq ?_ | refine tX hC hP (by kernel_rfl) ?_ | refine aX hC hM hP (by kernel_rfl) ?_ | refine AWP.skip ?_ | refine AWP.label ?_ | refine AWP.exit ?_ | refine AWP.block ?_ | refine cTa ?_ | refine cFa ?_) | simp only [qS, Nat.reduceEqDiff, ↓reduceIte]))
      (refine AWP.ret ?_; refine retOk1 (by simp only [go_sem, seval, ↓reduceIte, decide_true, decide_false]; rfl) ?_)
      simp [hasB, h0, h2]
theorem all_two {l : List Int} (h : l.length = 2) (q : Int → Bool) : l.all q = (q (at' l 0) && q (at' l 1)) := by
  match l, h with
  | [x, y], _ => simp [at']
set_option maxHeartbeats 1000000 in
theorem c_spec_l18Point (p a b : Int) (l : List Int) (h : CurveOk p a b) (hl : l.length ≤ 1099511627776) : AFn Try.prog 77 [.int .i64 p, .int .i64 a, .int .i64 b, .sl false 2 (intL l)] (.bool (hasB p a b l)) := by
  refine AFn.of' ttOk (by decide) Try.func77 Try.ntmps77 (by rw [Try.results77]) (by rfl) (by rfl) (by simp) (by decide) (by simp only [go_sem, Nat.reduceAdd, ↓reduceIte]; rfl) mixed (fun C hP hM hC => ?_)
  have h5 := h.h5
  have h97 := h.h97
  by_cases h0 : l.length = 0
  · (repeat (first | ((with_reducible refine rgn_cons rfl (fun K hK => ?_)); simp only [go_sem, seval, ↓reduceIte, decide_true, decide_false, show ((l.length : Int) == 0) = true by simp [h0]]; (refine hK _ _ _ (by simp only [go_sem, Nat.reduceEqDiff, ↓reduceIte]; rfl) ?_); clear hK; clear K) | (with_reducible first | refine rgn_nil (by first | trivial | kernel_rfl) ?_ | refine AWP.seq ?_ | refine tX hC hP (by kernel_rfl) ?_ | refine aX hC hM hP (by kernel_rfl) ?_ | refine AWP.skip ?_ | refine AWP.label ?_ | refine AWP.exit ?_ | refine AWP.block ?_ | refine cTa ?_ | refine cFa ?_) | simp only [qS, Nat.reduceEqDiff, ↓reduceIte]))
    (refine AWP.ret ?_; refine retOk1 (by simp only [go_sem, seval, ↓reduceIte, decide_true, decide_false]; rfl) ?_)
    simp [hasB, h0]
  · have hn0 : ((l.length : Int) == 0) = false := by rw [beq_eq_false_iff_ne]; omega
    by_cases h2 : l.length = 2
    · have hn2 : ((l.length : Int) == 2) = true := by simp [h2]
      have l0 : 0 < l.length := by omega
      have l1 : 1 < l.length := by omega
      have hN := c_spec_l01Numbers p l hl (by omega) (by omega)
      rw [all_two h2] at hN
      cases hx : (isNum p (at' l 0) && isNum p (at' l 1)) with
      | false =>
        rw [hx] at hN
        (repeat (first | ((with_reducible refine rgn_cons rfl (fun K hK => ?_)); simp only [go_sem, seval, ↓reduceIte, decide_true, decide_false, hn0, hn2]; (first | refine hK _ _ _ (by simp only [go_sem, Nat.reduceEqDiff, ↓reduceIte]; rfl) ?_ | refine ⟨_, hN, hK _ _ _ (by simp only [go_sem, Nat.reduceEqDiff, ↓reduceIte]; rfl) ?_⟩); clear hK; clear K) | (with_reducible first | refine rgn_nil (by first | trivial | kernel_rfl) ?_ | refine AWP.seq ?_ | refine tX hC hP (by kernel_rfl) ?_ | refine aX hC hM hP (by kernel_rfl) ?_ | refine AWP.skip ?_ | refine AWP.label ?_ | refine AWP.exit ?_ | refine AWP.block ?_ | refine cTa ?_ | refine cFa ?_) | simp only [qS, Nat.reduceEqDiff, ↓reduceIte]))
        (refine AWP.ret ?_; refine retOk1 (by simp only [go_sem, seval, ↓reduceIte, decide_true, decide_false]; rfl) ?_)
        simp only [hasB, h2, Bool.and_assoc, ← Bool.and_assoc (isNum p (at' l 0)), hx]; rfl
      | true =>
        rw [hx] at hN
        have hx1 : isNum p (at' l 0) = true ∧ isNum p (at' l 1) = true := by simpa using hx
        have hx2 := isNum_iff.1 hx1.1
        have hy2 := isNum_iff.1 hx1.2
        have hyy := small_mul h97 hy2.1 hy2.2 hy2.1 hy2.2
        (repeat (first | ((with_reducible refine rgn_cons rfl (fun K hK => ?_)); simp only [go_sem, seval, ↓reduceIte, decide_true, decide_false, hn0, hn2, intL_getD l 0 l0, intL_getD l 1 l1, show l.getD 0 0 = at' l 0 from rfl, show l.getD 1 0 = at' l 1 from rfl, Int.toNat_zero, Int.le_refl, show (0 : Int) < (l.length : Int) by omega, show (1 : Int) < (l.length : Int) by omega, wid (at' l 1 * at' l 1) (by omega) (by omega), show p ≠ 0 by omega, tm (at' l 1 * at' l 1) p (by omega)]; (first | refine hK _ _ _ (by simp only [go_sem, Nat.reduceEqDiff, ↓reduceIte]; rfl) ?_ | refine ⟨_, hN, hK _ _ _ (by simp only [go_sem, Nat.reduceEqDiff, ↓reduceIte]; rfl) ?_⟩ | refine ⟨_, c_spec_l18Right p a b (at' l 0) h hx2.1 hx2.2, hK _ _ _ (by simp only [go_sem, Nat.reduceEqDiff, ↓reduceIte]; rfl) ?_⟩); clear hK; clear K) | (with_reducible first | refine rgn_nil (by first | trivial | kernel_rfl) ?_ | refine AWP.seq ?_ | refine tX hC hP (by kernel_rfl) ?_ | refine aX hC hM hP (by kernel_rfl) ?_ | refine AWP.skip ?_ | refine AWP.label ?_ | refine AWP.exit ?_ | refine AWP.block ?_ | refine cTa ?_ | refine cFa ?_) | simp only [qS, Nat.reduceEqDiff, ↓reduceIte]))
        (refine AWP.ret ?_; refine retOk1 (by simp only [go_sem, seval, ↓reduceIte, decide_true, decide_false]; rfl) ?_)
        simp [hasB, h0, h2, hx1]
    · have hn2 : ((l.length : Int) == 2) = false := by simp; omega
      (repeat (first | ((with_reducible refine rgn_cons rfl (fun K hK => ?_)); simp only [go_sem, seval, ↓reduceIte, decide_true, decide_false, hn0, hn2]; (refine hK _ _ _ (by simp only [go_sem, Nat.reduceEqDiff, ↓reduceIte]; rfl) ?_); clear hK; clear K) | (with_reducible first | refine rgn_nil (by first | trivial | kernel_rfl) ?_ | refine AWP.seq ?_ | refine tX hC hP (by kernel_rfl) ?_ | refine aX hC hM hP (by kernel_rfl) ?_ | refine AWP.skip ?_ | refine AWP.label ?_ | refine AWP.exit ?_ | refine AWP.block ?_ | refine cTa ?_ | refine cFa ?_) | simp only [qS, Nat.reduceEqDiff, ↓reduceIte]))
      (refine AWP.ret ?_; refine retOk1 (by simp only [go_sem, seval, ↓reduceIte, decide_true, decide_false]; rfl) ?_)
      simp [hasB, h0, h2]
end Go.Proofs.Ytoooefcjkmfhoaa
