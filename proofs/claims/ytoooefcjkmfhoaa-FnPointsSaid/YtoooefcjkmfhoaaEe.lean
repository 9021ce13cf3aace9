/-
  All points of a curve.
-/
import Derived.Test.YtoooefcjkmfhoaaEd
namespace Go.Proofs.Ytoooefcjkmfhoaa
open Go.RowKit
set_option linter.unusedSimpArgs false
set_option linter.unusedVariables false
set_option linter.unusedSectionVars false
set_option maxRecDepth 20000
-- All points of a curve.
def ptsI (p a b : Int) (x : Nat) (acc : List (List Int)) : Nat → List (List Int)
  | 0 => acc
  | y + 1 => if (y : Int) * (y : Int) % p = rightE p a b (x : Int) then ptsI p a b x acc y ++ [[(x : Int), (y : Int)]] else ptsI p a b x acc y
def ptsO (p a b : Int) : Nat → List (List Int)
  | 0 => [[]]
  | x + 1 => ptsI p a b x (ptsO p a b x) p.toNat
/-- All points of a curve. -/
def ptsL (p a b : Int) : List (List Int) := ptsO p a b p.toNat
theorem ptsI_len (p a b : Int) (x : Nat) (acc : List (List Int)) (y : Nat) : (ptsI p a b x acc y).length ≤ acc.length + y := by
  induction y with
  | zero => exact Nat.le_refl _
  | succ y ih =>
    simp only [ptsI]
    split
    · rw [List.length_append]; simp only [List.length_cons, List.length_nil]; omega
    · omega
theorem ptsO_len (p a b : Int) (h : p ≤ 97) (x : Nat) : (ptsO p a b x).length ≤ 1 + 97 * x := by
  induction x with
  | zero => simp [ptsO]
  | succ x ih =>
    have := ptsI_len p a b x (ptsO p a b x) p.toNat
    simp only [ptsO]
    omega
theorem rowsO_snoc2 (a : List (List Int)) (x y : Int) : rowsO a ++ [.sl true 2 [.int .i64 x, .int .i64 y]] = rowsO (a ++ [[x, y]]) := by simp [rowsO, intL]
theorem rowsO_snocL (a : List (List Int)) (l : List Int) : rowsO a ++ [.sl true 2 (intL l)] = rowsO (a ++ [l]) := by simp [rowsO]
theorem small_sq {y : Nat} {p : Int} (hp : p ≤ 97) (hy : (y : Int) < p) : 0 ≤ (y : Int) * (y : Int) ∧ (y : Int) * (y : Int) ≤ 9409 := small_mul hp (by omega) hy (by omega) hy
set_option maxHeartbeats 1000000 in
theorem c_spec_l18Points (p a b : Int) (h : CurveOk p a b) : AFn Try.prog 39 [.int .i64 p, .int .i64 a, .int .i64 b] (.sl true 37 (rowsO (ptsL p a b))) := by
  refine AFn.of' ttOk (by decide) Try.func39 Try.ntmps39 (by rw [Try.results39]) (by rfl) (by rfl) (by simp) (by decide) (by simp only [go_sem, Nat.reduceAdd, ↓reduceIte]; rfl) mixed (fun C hP hM hC => ?_)
  have h5 := h.h5
  have h97 := h.h97
  (repeat (first | ((with_reducible refine rgn_cons rfl (fun K hK => ?_)); simp only [go_sem, seval, ↓reduceIte, decide_true, decide_false]; (refine hK _ _ _ (by simp only [go_sem, Nat.reduceEqDiff, ↓reduceIte]; rfl) ?_); clear hK; clear K) | (with_reducible first | refine rgn_nil (by first | trivial | kernel_rfl) ?_ | refine AWP.seq ?_ | refine tX hC hP (by kernel_rfl) ?_ | refine aX hC hM hP (by kernel_rfl) ?_ | refine AWP.skip ?_ | refine AWP.label ?_ | refine AWP.exit ?_ | refine AWP.block ?_ | refine cTa ?_ | refine cFa ?_) | simp only [qS, Nat.reduceEqDiff, ↓reduceIte]))
  refine AWP.loop (fun w : Nat × Nat => [(8, ⟨0, .val (.int .i64 w.1)⟩), (7, ⟨w.2, .own (.sl true 37 (rowsO (ptsO p a b w.1)))⟩), (0, ⟨0, .val (.int .i64 p)⟩), (1, ⟨0, .val (.int .i64 a)⟩), (2, ⟨0, .val (.int .i64 b)⟩)]) (fun w => w.1 ≤ p.toNat) (fun w => p.toNat - w.1) (0, 1) (Nat.zero_le _) (fun i => rfl) ?_ (fun w hw => ?_)
  · simp [Sub, lk, ptsO, rowsO, intL]
  · obtain ⟨x, v⟩ := w
    simp only at hw ⊢
    by_cases hx : (x : Int) < p
    · have hO := ptsO_len p a b h97 x
      (repeat (first | ((with_reducible refine rgn_cons rfl (fun K hK => ?_)); simp only [go_sem, seval, ↓reduceIte, decide_true, decide_false, hx]; (refine hK _ _ _ (by simp only [go_sem, Nat.reduceEqDiff, ↓reduceIte]; rfl) ?_); clear hK; clear K) | (with_reducible first | refine rgn_nil (by first | trivial | kernel_rfl) ?_ | refine AWP.seq ?_ | refine tX hC hP (by kernel_rfl) ?_ | refine aX hC hM hP (by kernel_rfl) ?_ | refine AWP.skip ?_ | refine AWP.label ?_ | refine AWP.exit ?_ | refine AWP.block ?_ | refine cTa ?_ | refine cFa ?_) | simp only [qS, Nat.reduceEqDiff, ↓reduceIte]))
      refine AWP.loop (fun w : Nat × Nat => [(9, ⟨0, .val (.int .i64 w.1)⟩), (8, ⟨0, .val (.int .i64 x)⟩), (7, ⟨w.2, .own (.sl true 37 (rowsO (ptsI p a b x (ptsO p a b x) w.1)))⟩), (0, ⟨0, .val (.int .i64 p)⟩), (1, ⟨0, .val (.int .i64 a)⟩), (2, ⟨0, .val (.int .i64 b)⟩)]) (fun w => w.1 ≤ p.toNat) (fun w => p.toNat - w.1) (0, v) (Nat.zero_le _) (fun i => rfl) ?_ (fun w hw2 => ?_)
      · simp [Sub, lk, ptsI]
      · obtain ⟨y, v⟩ := w
        simp only at hw2 ⊢
        by_cases hy : (y : Int) < p
        · have hsq := small_sq h97 hy
          have hlen := ptsI_len p a b x (ptsO p a b x) y
          have hR := c_spec_l18Right p a b x h (by omega) hx
          by_cases he : (y : Int) * (y : Int) % p = rightE p a b (x : Int)
          · (repeat (first | ((with_reducible refine rgn_cons rfl (fun K hK => ?_)); simp only [go_sem, seval, ↓reduceIte, decide_true, decide_false, hy, wid ((y : Int) * (y : Int)) (by omega) (by omega), show p ≠ 0 by omega, tm ((y : Int) * (y : Int)) p (by omega), he, rowsO_snoc2, show (ptsI p a b x (ptsO p a b x) y).length + 1 ≤ 1099511627776 by omega, show ((ptsI p a b x (ptsO p a b x) y).length + 1) * 24 ≤ 140737488355328 by omega, wid ((y : Int) + 1) (by omega) (by omega)]; (first | refine hK _ _ _ (by simp only [go_sem, Nat.reduceEqDiff, ↓reduceIte]; rfl) ?_ | refine ⟨_, hR, hK _ _ _ (by simp only [go_sem, Nat.reduceEqDiff, ↓reduceIte]; rfl) ?_⟩); clear hK; clear K) | (with_reducible first | refine rgn_nil (by first | trivial | kernel_rfl) ?_ | refine AWP.seq ?_ | refine tX hC hP (by kernel_rfl) ?_ | refine aX hC hM hP (by kernel_rfl) ?_ | refine AWP.skip ?_ | refine AWP.label ?_ | refine AWP.exit ?_ | refine AWP.block ?_ | refine cTa ?_ | refine cFa ?_) | simp only [qS, Nat.reduceEqDiff, ↓reduceIte]))
            exact ⟨(y + 1, v + 1), by simp only; omega, by simp only; omega, by simp [Sub, lk, ptsI, he]⟩
          · (repeat (first | ((with_reducible refine rgn_cons rfl (fun K hK => ?_)); simp only [go_sem, seval, ↓reduceIte, decide_true, decide_false, hy, wid ((y : Int) * (y : Int)) (by omega) (by omega), show p ≠ 0 by omega, tm ((y : Int) * (y : Int)) p (by omega), show ((y : Int) * (y : Int) % p == rightE p a b (x : Int)) = false by simpa using he, wid ((y : Int) + 1) (by omega) (by omega)]; (first | refine hK _ _ _ (by simp only [go_sem, Nat.reduceEqDiff, ↓reduceIte]; rfl) ?_ | refine ⟨_, hR, hK _ _ _ (by simp only [go_sem, Nat.reduceEqDiff, ↓reduceIte]; rfl) ?_⟩); clear hK; clear K) | (with_reducible first | refine rgn_nil (by first | trivial | kernel_rfl) ?_ | refine AWP.seq ?_ | refine tX hC hP (by kernel_rfl) ?_ | refine aX hC hM hP (by kernel_rfl) ?_ | refine AWP.skip ?_ | refine AWP.label ?_ | refine AWP.exit ?_ | refine AWP.block ?_ | refine cTa ?_ | refine cFa ?_) | simp only [qS, Nat.reduceEqDiff, ↓reduceIte]))
            exact ⟨(y + 1, v), by simp only; omega, by simp only; omega, by simp [Sub, lk, ptsI, he]⟩
        · have hye : y = p.toNat := by omega
          (repeat (first | ((with_reducible refine rgn_cons rfl (fun K hK => ?_)); simp only [go_sem, seval, ↓reduceIte, decide_true, decide_false, hy, decide_false, wid ((x : Int) + 1) (by omega) (by omega)]; (refine hK _ _ _ (by simp only [go_sem, Nat.reduceEqDiff, ↓reduceIte]; rfl) ?_); clear hK; clear K) | (with_reducible first | refine rgn_nil (by first | trivial | kernel_rfl) ?_ | refine AWP.seq ?_ | refine tX hC hP (by kernel_rfl) ?_ | refine aX hC hM hP (by kernel_rfl) ?_ | refine AWP.skip ?_ | refine AWP.label ?_ | refine AWP.exit ?_ | refine AWP.block ?_ | refine cTa ?_ | refine cFa ?_) | simp only [qS, Nat.reduceEqDiff, ↓reduceIte]))
          exact ⟨(x + 1, v), by simp only; omega, by simp only; omega, by simp [Sub, lk, ptsO, hye]⟩
    · (repeat (first | ((with_reducible refine rgn_cons rfl (fun K hK => ?_)); simp only [go_sem, seval, ↓reduceIte, decide_true, decide_false, hx, decide_false]; (refine hK _ _ _ (by simp only [go_sem, Nat.reduceEqDiff, ↓reduceIte]; rfl) ?_); clear hK; clear K) | (with_reducible first | refine rgn_nil (by first | trivial | kernel_rfl) ?_ | refine AWP.seq ?_ | refine tX hC hP (by kernel_rfl) ?_ | refine aX hC hM hP (by kernel_rfl) ?_ | refine AWP.skip ?_ | refine AWP.label ?_ | refine AWP.exit ?_ | refine AWP.block ?_ | refine cTa ?_ | refine cFa ?_) | simp only [qS, Nat.reduceEqDiff, ↓reduceIte]))
      (refine AWP.ret ?_; refine retOk1 (by simp only [go_sem, seval, ↓reduceIte, decide_true, decide_false]; rfl) ?_)
      rw [show x = p.toNat by omega]; rfl
theorem has_xy {p a b : Int} {x y : Nat} (hx : (x : Int) < p) (hy : (y : Int) < p) : hasB p a b [(x : Int), (y : Int)] = ((y : Int) * (y : Int) % p == rightE p a b (x : Int)) := by
  have e1 : at' [(x : Int), (y : Int)] 0 = x := rfl
  have e2 : at' [(x : Int), (y : Int)] 1 = y := rfl
  have h1 : isNum p (x : Int) = true := isNum_iff.2 ⟨by omega, hx⟩
  have h2 : isNum p (y : Int) = true := isNum_iff.2 ⟨by omega, hy⟩
  simp [hasB, e1, e2, h1, h2]
set_option maxHeartbeats 1000000 in
theorem c_impl_elliptic_points (p a b : Int) (h : CurveOk p a b) : AFn Try.prog 43 [.agg [.int .i64 p, .int .i64 a, .int .i64 b]] (.sl true 37 (rowsO (ptsL p a b))) := by
  refine AFn.of' ttOk (by decide) Try.func43 Try.ntmps43 (by rw [Try.results43]) (by rfl) (by rfl) (by simp) (by decide) (by simp only [go_sem, Nat.reduceAdd, ↓reduceIte]; rfl) mixed (fun C hP hM hC => ?_)
  have h5 := h.h5
  have h97 := h.h97
  (repeat (first | ((with_reducible refine rgn_cons rfl (fun K hK => ?_)); simp only [go_sem, seval, ↓reduceIte, decide_true, decide_false]; (refine hK _ _ _ (by simp only [go_sem, Nat.reduceEqDiff, ↓reduceIte]; rfl) ?_); clear hK; clear K) | (with_reducible first | refine rgn_nil (by first | trivial | kernel_rfl) ?_ | refine AWP.seq ?_ | refine tX hC hP (by kernel_rfl) ?_ | refine aX hC hM hP (by kernel_rfl) ?_ | refine AWP.skip ?_ | refine AWP.label ?_ | refine AWP.exit ?_ | refine AWP.block ?_ | refine cTa ?_ | refine cFa ?_) | simp only [qS, Nat.reduceEqDiff, ↓reduceIte]))
  refine AWP.loop (fun w : Nat × Nat => [(11, ⟨0, .val (.int .i64 w.1)⟩), (10, ⟨0, .val (.int .i64 p)⟩), (3, ⟨w.2, .own (.sl true 37 (rowsO (ptsO p a b w.1)))⟩), (1, ⟨1, .own (.box 56 (.agg [.int .i64 p, .int .i64 a, .int .i64 b]))⟩)]) (fun w => w.1 ≤ p.toNat) (fun w => p.toNat - w.1) (0, 1) (Nat.zero_le _) (fun i => rfl) ?_ (fun w hw => ?_)
  · simp [Sub, lk, ptsO, rowsO, intL]
  · obtain ⟨x, v⟩ := w
    simp only at hw ⊢
    by_cases hx : (x : Int) < p
    · have hO := ptsO_len p a b h97 x
      (repeat (first | ((with_reducible refine rgn_cons rfl (fun K hK => ?_)); simp only [go_sem, seval, ↓reduceIte, decide_true, decide_false, hx]; (refine hK _ _ _ (by simp only [go_sem, Nat.reduceEqDiff, ↓reduceIte]; rfl) ?_); clear hK; clear K) | (with_reducible first | refine rgn_nil (by first | trivial | kernel_rfl) ?_ | refine AWP.seq ?_ | refine tX hC hP (by kernel_rfl) ?_ | refine aX hC hM hP (by kernel_rfl) ?_ | refine AWP.skip ?_ | refine AWP.label ?_ | refine AWP.exit ?_ | refine AWP.block ?_ | refine cTa ?_ | refine cFa ?_) | simp only [qS, Nat.reduceEqDiff, ↓reduceIte]))
      refine AWP.loop (fun w : Nat × Nat => [(16, ⟨0, .val (.int .i64 w.1)⟩), (15, ⟨0, .val (.int .i64 p)⟩), (4, ⟨0, .val (.int .i64 x)⟩), (11, ⟨0, .val (.int .i64 x)⟩), (10, ⟨0, .val (.int .i64 p)⟩), (3, ⟨w.2, .own (.sl true 37 (rowsO (ptsI p a b x (ptsO p a b x) w.1)))⟩), (1, ⟨1, .own (.box 56 (.agg [.int .i64 p, .int .i64 a, .int .i64 b]))⟩)]) (fun w => w.1 ≤ p.toNat) (fun w => p.toNat - w.1) (0, v) (Nat.zero_le _) (fun i => rfl) ?_ (fun w hw2 => ?_)
      · simp [Sub, lk, ptsI]
      · obtain ⟨y, v⟩ := w
        simp only at hw2 ⊢
        by_cases hy : (y : Int) < p
        · have hlen := ptsI_len p a b x (ptsO p a b x) y
          have hH := c_impl_elliptic_has p a b [(x : Int), (y : Int)] h (by simp)
          rw [has_xy hx hy] at hH
          by_cases he : (y : Int) * (y : Int) % p = rightE p a b (x : Int)
          · rw [show ((y : Int) * (y : Int) % p == rightE p a b (x : Int)) = true by simpa using he] at hH
            (repeat (first | ((with_reducible refine rgn_cons rfl (fun K hK => ?_)); simp only [go_sem, seval, ↓reduceIte, decide_true, decide_false, hy, rowsO_snoc2, show (ptsI p a b x (ptsO p a b x) y).length + 1 ≤ 1099511627776 by omega, show ((ptsI p a b x (ptsO p a b x) y).length + 1) * 24 ≤ 140737488355328 by omega, wid ((y : Int) + 1) (by omega) (by omega)]; (first | refine hK _ _ _ (by simp only [go_sem, Nat.reduceEqDiff, ↓reduceIte]; rfl) ?_ | refine ⟨_, hH, hK _ _ _ (by simp only [go_sem, Nat.reduceEqDiff, ↓reduceIte]; rfl) ?_⟩); clear hK; clear K) | (with_reducible first | refine rgn_nil (by first | trivial | kernel_rfl) ?_ | refine AWP.seq ?_ | refine tX hC hP (by kernel_rfl) ?_ | refine aX hC hM hP (by kernel_rfl) ?_ | refine AWP.skip ?_ | refine AWP.label ?_ | refine AWP.exit ?_ | refine AWP.block ?_ | refine cTa ?_ | refine cFa ?_) | simp only [qS, Nat.reduceEqDiff, ↓reduceIte]))
            exact ⟨(y + 1, v + 1), by simp only; omega, by simp only; omega, by simp [Sub, lk, ptsI, he]⟩
          · rw [show ((y : Int) * (y : Int) % p == rightE p a b (x : Int)) = false by simpa using he] at hH
            (repeat (first | ((with_reducible refine rgn_cons rfl (fun K hK => ?_)); simp only [go_sem, seval, ↓reduceIte, decide_true, decide_false, hy, wid ((y : Int) + 1) (by omega) (by omega)]; (first | refine hK _ _ _ (by simp only [go_sem, Nat.reduceEqDiff, ↓reduceIte]; rfl) ?_ | refine ⟨_, hH, hK _ _ _ (by simp only [go_sem, Nat.reduceEqDiff, ↓reduceIte]; rfl) ?_⟩); clear hK; clear K) | (with_reducible first | refine rgn_nil (by first | trivial | kernel_rfl) ?_ | refine AWP.seq ?_ | refine tX hC hP (by kernel_rfl) ?_ | refine aX hC hM hP (by kernel_rfl) ?_ | refine AWP.skip ?_ | refine AWP.label ?_ | refine AWP.exit ?_ | refine AWP.block ?_ | refine cTa ?_ | refine cFa ?_) | simp only [qS, Nat.reduceEqDiff, ↓reduceIte]))
            exact ⟨(y + 1, v), by simp only; omega, by simp only; omega, by simp [Sub, lk, ptsI, he]⟩
        · have hye : y = p.toNat := by omega
          (repeat (first | ((with_reducible refine rgn_cons rfl (fun K hK => ?_)); simp only [go_sem, seval, ↓reduceIte, decide_true, decide_false, hy, decide_false, wid ((x : Int) + 1) (by omega) (by omega)]; (refine hK _ _ _ (by simp only [go_sem, Nat.reduceEqDiff, ↓reduceIte]; rfl) ?_); clear hK; clear K) | (with_reducible first | refine rgn_nil (by first | trivial | kernel_rfl) ?_ | refine AWP.seq ?_ | refine tX hC hP (by kernel_rfl) ?_ | refine aX hC hM hP (by kernel_rfl) ?_ | refine AWP.skip ?_ | refine AWP.label ?_ | refine AWP.exit ?_ | refine AWP.block ?_ | refine cTa ?_ | refine cFa ?_) | simp only [qS, Nat.reduceEqDiff, ↓reduceIte]))
          exact ⟨(x + 1, v), by simp only; omega, by simp only; omega, by simp [Sub, lk, ptsO, hye]⟩
    · (repeat (first | ((with_reducible refine rgn_cons rfl (fun K hK => ?_)); simp only [go_sem, seval, ↓reduceIte, decide_true, decide_false, hx, decide_false]; (refine hK _ _ _ (by simp only [go_sem, Nat.reduceEqDiff, ↓reduceIte]; rfl) ?_); clear hK; clear K) | (with_reducible first | refine rgn_nil (by first | trivial | kernel_rfl) ?_ | refine AWP.seq ?_ | refine tX hC hP (by kernel_rfl) ?_ | refine aX hC hM hP (by kernel_rfl) ?_ | refine AWP.skip ?_ | refine AWP.label ?_ | refine AWP.exit ?_ | refine AWP.block ?_ | refine cTa ?_ | refine cFa ?_) | simp only [qS, Nat.reduceEqDiff, ↓reduceIte]))
      (refine AWP.ret ?_; refine retOk1 (by simp only [go_sem, seval, ↓reduceIte, decide_true, decide_false]; rfl) ?_)
      rw [show x = p.toNat by omega]; rfl
def countR (p a b : Int) : Int := if codeE p a b = 0 then ((ptsL p a b).length : Int) else 0
def traceR (p a b : Int) : Int := if codeE p a b = 0 then p + 1 - ((ptsL p a b).length : Int) else 0
theorem ptsL_len {p a b : Int} (h : CurveOk p a b) : (ptsL p a b).length ≤ 10000 := by
  have h97 := h.h97
  have := ptsO_len p a b h97 p.toNat
  unfold ptsL
  omega
set_option maxHeartbeats 1000000 in
theorem c_spec_CountPoints (p a b : Int) : AFn Try.prog 12 [.int .i64 p, .int .i64 a, .int .i64 b] (.tup [.int .i64 (countR p a b), .int .i64 (codeE p a b)]) := by
  refine AFn.of' ttOk (by decide) Try.func12 Try.ntmps12 (by rw [Try.results12]) (by rfl) (by rfl) (by simp) (by decide) (by simp only [go_sem, Nat.reduceAdd, ↓reduceIte]; rfl) mixed (fun C hP hM hC => ?_)
  by_cases hc : codeE p a b = 0
  · (repeat (first | ((with_reducible refine rgn_cons rfl (fun K hK => ?_)); simp only [go_sem, seval, ↓reduceIte, decide_true, decide_false, hc]; (first | refine hK _ _ _ (by simp only [go_sem, Nat.reduceEqDiff, ↓reduceIte]; rfl) ?_ | refine ⟨_, c_spec_l18Code p a b, hK _ _ _ (by simp only [go_sem, Nat.reduceEqDiff, ↓reduceIte]; rfl) ?_⟩ | refine ⟨_, c_spec_l18Points p a b (CurveOk.of hc), hK _ _ _ (by simp only [go_sem, Nat.reduceEqDiff, ↓reduceIte]; rfl) ?_⟩); clear hK; clear K) | (with_reducible first | refine rgn_nil (by first | trivial | kernel_rfl) ?_ | refine AWP.seq ?_ | refine tX hC hP (by kernel_rfl) ?_ | refine aX hC hM hP (by kernel_rfl) ?_ | refine AWP.skip ?_ | refine AWP.label ?_ | refine AWP.exit ?_ | refine AWP.block ?_ | refine cTa ?_ | refine cFa ?_) | simp only [qS, Nat.reduceEqDiff, ↓reduceIte]))
    (refine AWP.ret ?_; refine retOk2 (by simp only [go_sem, seval, ↓reduceIte, decide_true, decide_false]; rfl) (by simp only [go_sem, seval, ↓reduceIte, decide_true, decide_false]; rfl) (by simp) ?_)
    simp [countR, hc]
  · (repeat (first | ((with_reducible refine rgn_cons rfl (fun K hK => ?_)); simp only [go_sem, seval, ↓reduceIte, decide_true, decide_false, show (codeE p a b != 0) = true by simpa using hc]; (first | refine hK _ _ _ (by simp only [go_sem, Nat.reduceEqDiff, ↓reduceIte]; rfl) ?_ | refine ⟨_, c_spec_l18Code p a b, hK _ _ _ (by simp only [go_sem, Nat.reduceEqDiff, ↓reduceIte]; rfl) ?_⟩); clear hK; clear K) | (with_reducible first | refine rgn_nil (by first | trivial | kernel_rfl) ?_ | refine AWP.seq ?_ | refine tX hC hP (by kernel_rfl) ?_ | refine aX hC hM hP (by kernel_rfl) ?_ | refine AWP.skip ?_ | refine AWP.label ?_ | refine AWP.exit ?_ | refine AWP.block ?_ | refine cTa ?_ | refine cFa ?_) | simp only [qS, Nat.reduceEqDiff, ↓reduceIte]))
    (refine AWP.ret ?_; refine retOk2 (by simp only [go_sem, seval, ↓reduceIte, decide_true, decide_false]; rfl) (by simp only [go_sem, seval, ↓reduceIte, decide_true, decide_false]; rfl) (by simp) ?_)
    simp [countR, hc]
set_option maxHeartbeats 1000000 in
theorem c_impl_CountPoints (p a b : Int) : AFn Try.prog 11 [.int .i64 p, .int .i64 a, .int .i64 b] (.tup [.int .i64 (countR p a b), .int .i64 (codeE p a b)]) := by
  refine AFn.of' ttOk (by decide) Try.func11 Try.ntmps11 (by rw [Try.results11]) (by rfl) (by rfl) (by simp) (by decide) (by simp only [go_sem, Nat.reduceAdd, ↓reduceIte]; rfl) mixed (fun C hP hM hC => ?_)
  by_cases hc : codeE p a b = 0
  · have hl := ptsL_len (CurveOk.of hc)
    (repeat (first | ((with_reducible refine rgn_cons rfl (fun K hK => ?_)); simp only [go_sem, seval, ↓reduceIte, decide_true, decide_false, hc, wid ((ptsL p a b).length : Int) (by omega) (by omega)]; (first | refine hK _ _ _ (by simp only [go_sem, Nat.reduceEqDiff, ↓reduceIte]; rfl) ?_ | refine ⟨_, c_impl_curveAt_nil p a b, hK _ _ _ (by simp only [go_sem, Nat.reduceEqDiff, ↓reduceIte]; rfl) ?_⟩ | refine ⟨_, c_impl_elliptic_points p a b (CurveOk.of hc), hK _ _ _ (by simp only [go_sem, Nat.reduceEqDiff, ↓reduceIte]; rfl) ?_⟩); clear hK; clear K) | (with_reducible first | refine rgn_nil (by first | trivial | kernel_rfl) ?_ | refine AWP.seq ?_ | refine tX hC hP (by kernel_rfl) ?_ | refine aX hC hM hP (by kernel_rfl) ?_ | refine AWP.skip ?_ | refine AWP.label ?_ | refine AWP.exit ?_ | refine AWP.block ?_ | refine cTa ?_ | refine cFa ?_) | simp only [qS, Nat.reduceEqDiff, ↓reduceIte]))
    (refine AWP.ret ?_; refine retOk2 (by simp only [go_sem, seval, ↓reduceIte, decide_true, decide_false]; rfl) (by simp only [go_sem, seval, ↓reduceIte, decide_true, decide_false]; rfl) (by simp) ?_)
    simp [countR, hc]
  · (repeat (first | ((with_reducible refine rgn_cons rfl (fun K hK => ?_)); simp only [go_sem, seval, ↓reduceIte, decide_true, decide_false, show (codeE p a b != 0) = true by simpa using hc]; (first | refine hK _ _ _ (by simp only [go_sem, Nat.reduceEqDiff, ↓reduceIte]; rfl) ?_ | refine ⟨_, c_impl_curveAt_nil p a b, hK _ _ _ (by simp only [go_sem, Nat.reduceEqDiff, ↓reduceIte]; rfl) ?_⟩); clear hK; clear K) | (with_reducible first | refine rgn_nil (by first | trivial | kernel_rfl) ?_ | refine AWP.seq ?_ | refine tX hC hP (by kernel_rfl) ?_ | refine aX hC hM hP (by kernel_rfl) ?_ | refine AWP.skip ?_ | refine AWP.label ?_ | refine AWP.exit ?_ | refine AWP.block ?_ | refine cTa ?_ | refine cFa ?_) | simp only [qS, Nat.reduceEqDiff, ↓reduceIte]))
    (refine AWP.ret ?_; refine retOk2 (by simp only [go_sem, seval, ↓reduceIte, decide_true, decide_false]; rfl) (by simp only [go_sem, seval, ↓reduceIte, decide_true, decide_false]; rfl) (by simp) ?_)
    simp [countR, hc]
set_option maxHeartbeats 1000000 in
theorem c_spec_TraceOf (p a b : Int) : AFn Try.prog 8 [.int .i64 p, .int .i64 a, .int .i64 b] (.tup [.int .i64 (traceR p a b), .int .i64 (codeE p a b)]) := by
  refine AFn.of' ttOk (by decide) Try.func8 Try.ntmps8 (by rw [Try.results8]) (by rfl) (by rfl) (by simp) (by decide) (by simp only [go_sem, Nat.reduceAdd, ↓reduceIte]; rfl) mixed (fun C hP hM hC => ?_)
  by_cases hc : codeE p a b = 0
  · have hk := CurveOk.of hc
    have hl := ptsL_len hk
    have h5 := hk.h5
    have h97 := hk.h97
    (repeat (first | ((with_reducible refine rgn_cons rfl (fun K hK => ?_)); simp only [go_sem, seval, ↓reduceIte, decide_true, decide_false, hc, wid (p + 1) (by omega) (by omega), wid ((ptsL p a b).length : Int) (by omega) (by omega), wid (p + 1 - ((ptsL p a b).length : Int)) (by omega) (by omega)]; (first | refine hK _ _ _ (by simp only [go_sem, Nat.reduceEqDiff, ↓reduceIte]; rfl) ?_ | refine ⟨_, c_spec_l18Code p a b, hK _ _ _ (by simp only [go_sem, Nat.reduceEqDiff, ↓reduceIte]; rfl) ?_⟩ | refine ⟨_, c_spec_l18Points p a b hk, hK _ _ _ (by simp only [go_sem, Nat.reduceEqDiff, ↓reduceIte]; rfl) ?_⟩); clear hK; clear K) | (with_reducible first | refine rgn_nil (by first | trivial | kernel_rfl) ?_ | refine AWP.seq ?_ | refine tX hC hP (by kernel_rfl) ?_ | refine aX hC hM hP (by kernel_rfl) ?_ | refine AWP.skip ?_ | refine AWP.label ?_ | refine AWP.exit ?_ | refine AWP.block ?_ | refine cTa ?_ | refine cFa ?_) | simp only [qS, Nat.reduceEqDiff, ↓reduceIte]))
    (refine AWP.ret ?_; refine retOk2 (by simp only [go_sem, seval, ↓reduceIte, decide_true, decide_false]; rfl) (by simp only [go_sem, seval, ↓reduceIte, decide_true, decide_false]; rfl) (by simp) ?_)
    simp [traceR, hc]
  · (repeat (first | ((with_reducible refine rgn_cons rfl (fun K hK => ?_)); simp only [go_sem, seval, ↓reduceIte, decide_true, decide_false, show (codeE p a b != 0) = true by simpa using hc]; (first | refine hK _ _ _ (by simp only [go_sem, Nat.reduceEqDiff, ↓reduceIte]; rfl) ?_ | refine ⟨_, c_spec_l18Code p a b, hK _ _ _ (by simp only [go_sem, Nat.reduceEqDiff, ↓reduceIte]; rfl) ?_⟩); clear hK; clear K) | (with_reducible first | refine rgn_nil (by first | trivial | kernel_rfl) ?_ | refine AWP.seq ?_ | refine tX hC hP (by kernel_rfl) ?_ | refine aX hC hM hP (by kernel_rfl) ?_ | refine AWP.skip ?_ | refine AWP.label ?_ | refine AWP.exit ?_ | refine AWP.block ?_ | refine cTa ?_ | refine cFa ?_) | simp only [qS, Nat.reduceEqDiff, ↓reduceIte]))
    (refine AWP.ret ?_; refine retOk2 (by simp only [go_sem, seval, ↓reduceIte, decide_true, decide_false]; rfl) (by simp only [go_sem, seval, ↓reduceIte, decide_true, decide_false]; rfl) (by simp) ?_)
    simp [traceR, hc]
set_option maxHeartbeats 1000000 in
theorem c_impl_TraceOf (p a b : Int) : AFn Try.prog 7 [.int .i64 p, .int .i64 a, .int .i64 b] (.tup [.int .i64 (traceR p a b), .int .i64 (codeE p a b)]) := by
  refine AFn.of' ttOk (by decide) Try.func7 Try.ntmps7 (by rw [Try.results7]) (by rfl) (by rfl) (by simp) (by decide) (by simp only [go_sem, Nat.reduceAdd, ↓reduceIte]; rfl) mixed (fun C hP hM hC => ?_)
  by_cases hc : codeE p a b = 0
  · have hk := CurveOk.of hc
    have hl := ptsL_len hk
    have h5 := hk.h5
    have h97 := hk.h97
    have hcr : countR p a b = ((ptsL p a b).length : Int) := by simp [countR, hc]
    (repeat (first | ((with_reducible refine rgn_cons rfl (fun K hK => ?_)); simp only [go_sem, seval, ↓reduceIte, decide_true, decide_false, hc, hcr, wid (p + 1) (by omega) (by omega), wid (p + 1 - ((ptsL p a b).length : Int)) (by omega) (by omega)]; (first | refine hK _ _ _ (by simp only [go_sem, Nat.reduceEqDiff, ↓reduceIte]; rfl) ?_ | refine ⟨_, c_impl_CountPoints p a b, hK _ _ _ (by simp only [go_sem, Nat.reduceEqDiff, ↓reduceIte]; rfl) ?_⟩); clear hK; clear K) | (with_reducible first | refine rgn_nil (by first | trivial | kernel_rfl) ?_ | refine AWP.seq ?_ | refine tX hC hP (by kernel_rfl) ?_ | refine aX hC hM hP (by kernel_rfl) ?_ | refine AWP.skip ?_ | refine AWP.label ?_ | refine AWP.exit ?_ | refine AWP.block ?_ | refine cTa ?_ | refine cFa ?_) | simp only [qS, Nat.reduceEqDiff, ↓reduceIte]))
    (refine AWP.ret ?_; refine retOk2 (by simp only [go_sem, seval, ↓reduceIte, decide_true, decide_false]; rfl) (by simp only [go_sem, seval, ↓reduceIte, decide_true, decide_false]; rfl) (by simp) ?_)
    simp [traceR, hc]
  · (repeat (first | ((with_reducible refine rgn_cons rfl (fun K hK => ?_)); simp only [go_sem, seval, ↓reduceIte, decide_true, decide_false, show (codeE p a b != 0) = true by simpa using hc]; (first | refine hK _ _ _ (by simp only [go_sem, Nat.reduceEqDiff, ↓reduceIte]; rfl) ?_ | refine ⟨_, c_impl_CountPoints p a b, hK _ _ _ (by simp only [go_sem, Nat.reduceEqDiff, ↓reduceIte]; rfl) ?_⟩); clear hK; clear K) | (with_reducible first | refine rgn_nil (by first | trivial | kernel_rfl) ?_ | refine AWP.seq ?_ | refine tX hC hP (by kernel_rfl) ?_ | refine aX hC hM hP (by kernel_rfl) ?_ | refine AWP.skip ?_ | refine AWP.label ?_ | refine AWP.exit ?_ | refine AWP.block ?_ | refine cTa ?_ | refine cFa ?_) | simp only [qS, Nat.reduceEqDiff, ↓reduceIte]))
    (refine AWP.ret ?_; refine retOk2 (by simp only [go_sem, seval, ↓reduceIte, decide_true, decide_false]; rfl) (by simp only [go_sem, seval, ↓reduceIte, decide_true, decide_false]; rfl) (by simp) ?_)
    simp [traceR, hc]
end Go.Proofs.Ytoooefcjkmfhoaa
