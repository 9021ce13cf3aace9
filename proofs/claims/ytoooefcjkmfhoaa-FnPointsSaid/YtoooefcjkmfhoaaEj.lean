/-
  Codes of points; sums and multiples of points.
-/
import Derived.Test.YtoooefcjkmfhoaaEi
namespace Go.Proofs.Ytoooefcjkmfhoaa
open Go.RowKit
set_option linter.unusedSimpArgs false
set_option linter.unusedVariables false
set_option linter.unusedSectionVars false
set_option maxRecDepth 20000
-- Codes of points; sums and multiples of points.
theorem codeP_bad {p a b : Int} {l : List (List Int)} {i : Nat} (hc : codeE p a b = 0) (h : i < l.length) (hb : hasB p a b (l.getD i []) = false) : codeP p a b l = 2 := by
  have : l.all (hasB p a b) = false := by
    rw [List.all_eq_false]
    exact ⟨l[i], by simp, by rw [← rows_at l i h, hb]; simp⟩
  simp [codeP, hc, this]
theorem codeP_good {p a b : Int} {l : List (List Int)} (hc : codeE p a b = 0) (h : ∀ j, j < l.length → hasB p a b (l.getD j []) = true) : codeP p a b l = 0 := by
  have : l.all (hasB p a b) = true := by
    rw [List.all_eq_true]
    intro x hx
    obtain ⟨j, hj, rfl⟩ := List.getElem_of_mem hx
    rw [← rows_at l j hj]
    exact h j hj
  simp [codeP, hc, this]
set_option maxHeartbeats 1000000 in
theorem c_spec_l18Both (p a b : Int) (l : List (List Int)) (hl : l.length ≤ 1099511627776) (hr : ∀ x ∈ l, x.length ≤ 1099511627776) : AFn Try.prog 56 [.int .i64 p, .int .i64 a, .int .i64 b, .sl false 37 (rowsF l)] (.int .i64 (codeP p a b l)) := by
  refine AFn.of' ttOk (by decide) Try.func56 Try.ntmps56 (by rw [Try.results56]) (by rfl) (by rfl) (by simp) (by decide) (by simp only [go_sem, Nat.reduceAdd, ↓reduceIte]; rfl) mixed (fun C hP hM hC => ?_)
  have hA := c_spec_l18Code p a b
  by_cases hc : codeE p a b = 0
  · rw [hc] at hA
    (repeat (first | ((with_reducible refine rgn_cons rfl (fun K hK => ?_)); simp only [go_sem, seval, ↓reduceIte, decide_true, decide_false]; (first | refine hK _ _ _ (by simp only [go_sem, Nat.reduceEqDiff, ↓reduceIte]; rfl) ?_ | refine ⟨_, hA, hK _ _ _ (by simp only [go_sem, Nat.reduceEqDiff, ↓reduceIte]; rfl) ?_⟩); clear hK; clear K) | (with_reducible first | refine rgn_nil (by first | trivial | kernel_rfl) ?_ | refine AWP.seq ?_ | refine tX hC hP (by kernel_rfl) ?_ | refine aX hC hM hP (by kernel_rfl) ?_ | refine AWP.skip ?_ | refine AWP.label ?_ | refine AWP.exit ?_ | refine AWP.block ?_ | refine cTa ?_ | refine cFa ?_) | simp only [qS, Nat.reduceEqDiff, ↓reduceIte]))
    refine AWP.loop (fun w : Nat × Bool => [(9, ⟨0, .val (.int .i64 (if w.2 = true then 2 else 0))⟩), (10, ⟨0, .val (.int .i64 w.1)⟩), (0, ⟨0, .val (.int .i64 p)⟩), (1, ⟨0, .val (.int .i64 a)⟩), (2, ⟨0, .val (.int .i64 b)⟩), (3, ⟨0, .val (.sl false 37 (rowsF l))⟩)]) (fun w => w.1 ≤ l.length ∧ (w.2 = false → ∀ j, j < w.1 → hasB p a b (l.getD j []) = true) ∧ (w.2 = true → codeP p a b l = 2)) (fun w => l.length - w.1) (0, false) ⟨Nat.zero_le _, fun _ j hj => by simp at hj, fun h => by cases h⟩ (fun i => rfl) ?_ (fun w hw => ?_)
    · simp [Sub, lk]
    · obtain ⟨i, bad⟩ := w
      simp only at hw ⊢
      cases bad with
      | true =>
        rw [hw.2.2 rfl]
        simp only [if_true]
        by_cases hi : (i : Int) < (l.length : Int)
        · (repeat (first | ((with_reducible refine rgn_cons rfl (fun K hK => ?_)); simp only [go_sem, seval, ↓reduceIte, decide_true, decide_false, hi]; (refine hK _ _ _ (by simp only [go_sem, Nat.reduceEqDiff, ↓reduceIte]; rfl) ?_); clear hK; clear K) | (with_reducible first | refine rgn_nil (by first | trivial | kernel_rfl) ?_ | refine AWP.seq ?_ | refine tX hC hP (by kernel_rfl) ?_ | refine aX hC hM hP (by kernel_rfl) ?_ | refine AWP.skip ?_ | refine AWP.label ?_ | refine AWP.exit ?_ | refine AWP.block ?_ | refine cTa ?_ | refine cFa ?_) | simp only [qS, Nat.reduceEqDiff, ↓reduceIte]))
          (refine AWP.ret ?_; refine retOk1 (by simp only [go_sem, seval, ↓reduceIte, decide_true, decide_false]; rfl) ?_)
          rfl
        · (repeat (first | ((with_reducible refine rgn_cons rfl (fun K hK => ?_)); simp only [go_sem, seval, ↓reduceIte, decide_true, decide_false, hi, decide_false]; (refine hK _ _ _ (by simp only [go_sem, Nat.reduceEqDiff, ↓reduceIte]; rfl) ?_); clear hK; clear K) | (with_reducible first | refine rgn_nil (by first | trivial | kernel_rfl) ?_ | refine AWP.seq ?_ | refine tX hC hP (by kernel_rfl) ?_ | refine aX hC hM hP (by kernel_rfl) ?_ | refine AWP.skip ?_ | refine AWP.label ?_ | refine AWP.exit ?_ | refine AWP.block ?_ | refine cTa ?_ | refine cFa ?_) | simp only [qS, Nat.reduceEqDiff, ↓reduceIte]))
          (refine AWP.ret ?_; refine retOk1 (by simp only [go_sem, seval, ↓reduceIte, decide_true, decide_false]; rfl) ?_)
          rfl
      | false =>
        simp only [Bool.false_eq_true, if_false]
        by_cases hi : i < l.length
        · have hH := c_spec_l18Point p a b (l.getD i []) (CurveOk.of hc) (hr _ (by rw [rows_at l i hi]; simp))
          cases hb : hasB p a b (l.getD i []) with
          | true =>
            rw [hb] at hH
            (repeat (first | ((with_reducible refine rgn_cons rfl (fun K hK => ?_)); simp only [go_sem, seval, ↓reduceIte, decide_true, decide_false, show (i : Int) < (l.length : Int) by omega, rowsF_getD l i hi, Int.toNat_natCast, Int.natCast_nonneg, wid ((i : Int) + 1) (by omega) (by omega)]; (first | refine hK _ _ _ (by simp only [go_sem, Nat.reduceEqDiff, ↓reduceIte]; rfl) ?_ | refine ⟨_, hH, hK _ _ _ (by simp only [go_sem, Nat.reduceEqDiff, ↓reduceIte]; rfl) ?_⟩); clear hK; clear K) | (with_reducible first | refine rgn_nil (by first | trivial | kernel_rfl) ?_ | refine AWP.seq ?_ | refine tX hC hP (by kernel_rfl) ?_ | refine aX hC hM hP (by kernel_rfl) ?_ | refine AWP.skip ?_ | refine AWP.label ?_ | refine AWP.exit ?_ | refine AWP.block ?_ | refine cTa ?_ | refine cFa ?_) | simp only [qS, Nat.reduceEqDiff, ↓reduceIte]))
            refine ⟨(i + 1, false), ⟨hi, fun _ j hj => ?_, fun h => by cases h⟩, by simp only; omega, by simp [Sub, lk]⟩
            by_cases e : j = i
            · rw [e]; exact hb
            · exact hw.2.1 rfl j (by simp only at hj; omega)
          | false =>
            rw [hb] at hH
            (repeat (first | ((with_reducible refine rgn_cons rfl (fun K hK => ?_)); simp only [go_sem, seval, ↓reduceIte, decide_true, decide_false, show (i : Int) < (l.length : Int) by omega, rowsF_getD l i hi, Int.toNat_natCast, Int.natCast_nonneg, wid ((i : Int) + 1) (by omega) (by omega)]; (first | refine hK _ _ _ (by simp only [go_sem, Nat.reduceEqDiff, ↓reduceIte]; rfl) ?_ | refine ⟨_, hH, hK _ _ _ (by simp only [go_sem, Nat.reduceEqDiff, ↓reduceIte]; rfl) ?_⟩); clear hK; clear K) | (with_reducible first | refine rgn_nil (by first | trivial | kernel_rfl) ?_ | refine AWP.seq ?_ | refine tX hC hP (by kernel_rfl) ?_ | refine aX hC hM hP (by kernel_rfl) ?_ | refine AWP.skip ?_ | refine AWP.label ?_ | refine AWP.exit ?_ | refine AWP.block ?_ | refine cTa ?_ | refine cFa ?_) | simp only [qS, Nat.reduceEqDiff, ↓reduceIte]))
            exact ⟨(i + 1, true), ⟨hi, fun h => (by cases h), fun _ => codeP_bad hc hi hb⟩, by simp only; omega, by simp [Sub, lk]⟩
        · (repeat (first | ((with_reducible refine rgn_cons rfl (fun K hK => ?_)); simp only [go_sem, seval, ↓reduceIte, decide_true, decide_false, show ¬ (i : Int) < (l.length : Int) by omega, decide_false]; (refine hK _ _ _ (by simp only [go_sem, Nat.reduceEqDiff, ↓reduceIte]; rfl) ?_); clear hK; clear K) | (with_reducible first | refine rgn_nil (by first | trivial | kernel_rfl) ?_ | refine AWP.seq ?_ | refine tX hC hP (by kernel_rfl) ?_ | refine aX hC hM hP (by kernel_rfl) ?_ | refine AWP.skip ?_ | refine AWP.label ?_ | refine AWP.exit ?_ | refine AWP.block ?_ | refine cTa ?_ | refine cFa ?_) | simp only [qS, Nat.reduceEqDiff, ↓reduceIte]))
          (refine AWP.ret ?_; refine retOk1 (by simp only [go_sem, seval, ↓reduceIte, decide_true, decide_false]; rfl) ?_)
          rw [codeP_good hc (fun j hj => hw.2.1 rfl j (by omega))]
  · have hb : (codeE p a b == 0) = false := by simpa using hc
    have hcp : codeP p a b l = codeE p a b := by simp [codeP, hc]
    rw [hcp]
    (repeat (first | ((with_reducible refine rgn_cons rfl (fun K hK => ?_)); simp only [go_sem, seval, ↓reduceIte, decide_true, decide_false]; (first | refine hK _ _ _ (by simp only [go_sem, Nat.reduceEqDiff, ↓reduceIte]; rfl) ?_ | refine ⟨_, hA, hK _ _ _ (by simp only [go_sem, Nat.reduceEqDiff, ↓reduceIte]; rfl) ?_⟩); clear hK; clear K) | (with_reducible first | refine rgn_nil (by first | trivial | kernel_rfl) ?_ | refine AWP.seq ?_ | refine tX hC hP (by kernel_rfl) ?_ | refine aX hC hM hP (by kernel_rfl) ?_ | refine AWP.skip ?_ | refine AWP.label ?_ | refine AWP.exit ?_ | refine AWP.block ?_ | refine cTa ?_ | refine cFa ?_) | simp only [qS, Nat.reduceEqDiff, ↓reduceIte]))
    refine AWP.loop (fun i : Nat => [(9, ⟨0, .val (.int .i64 (codeE p a b))⟩), (10, ⟨0, .val (.int .i64 0)⟩), (3, ⟨0, .val (.sl false 37 (rowsF l))⟩)]) (fun i => True) (fun i => 0) 0 trivial (fun i => rfl) ?_ (fun i hi => ?_)
    · simp [Sub, lk]
    · by_cases hi : (0 : Int) < (l.length : Int)
      · (repeat (first | ((with_reducible refine rgn_cons rfl (fun K hK => ?_)); simp only [go_sem, seval, ↓reduceIte, decide_true, decide_false, hi, hb]; (refine hK _ _ _ (by simp only [go_sem, Nat.reduceEqDiff, ↓reduceIte]; rfl) ?_); clear hK; clear K) | (with_reducible first | refine rgn_nil (by first | trivial | kernel_rfl) ?_ | refine AWP.seq ?_ | refine tX hC hP (by kernel_rfl) ?_ | refine aX hC hM hP (by kernel_rfl) ?_ | refine AWP.skip ?_ | refine AWP.label ?_ | refine AWP.exit ?_ | refine AWP.block ?_ | refine cTa ?_ | refine cFa ?_) | simp only [qS, Nat.reduceEqDiff, ↓reduceIte]))
        (refine AWP.ret ?_; refine retOk1 (by simp only [go_sem, seval, ↓reduceIte, decide_true, decide_false]; rfl) ?_)
        rfl
      · (repeat (first | ((with_reducible refine rgn_cons rfl (fun K hK => ?_)); simp only [go_sem, seval, ↓reduceIte, decide_true, decide_false, hi, decide_false]; (refine hK _ _ _ (by simp only [go_sem, Nat.reduceEqDiff, ↓reduceIte]; rfl) ?_); clear hK; clear K) | (with_reducible first | refine rgn_nil (by first | trivial | kernel_rfl) ?_ | refine AWP.seq ?_ | refine tX hC hP (by kernel_rfl) ?_ | refine aX hC hM hP (by kernel_rfl) ?_ | refine AWP.skip ?_ | refine AWP.label ?_ | refine AWP.exit ?_ | refine AWP.block ?_ | refine cTa ?_ | refine cFa ?_) | simp only [qS, Nat.reduceEqDiff, ↓reduceIte]))
        (refine AWP.ret ?_; refine retOk1 (by simp only [go_sem, seval, ↓reduceIte, decide_true, decide_false]; rfl) ?_)
        rfl
theorem codeP_ok {p a b : Int} {l : List (List Int)} (h : codeP p a b l = 0) : CurveOk p a b ∧ ∀ x ∈ l, PtOk p x := by
  have h1 := codeP_zero h
  exact ⟨CurveOk.of h1.1, fun x hx => hasB_ok (h1.2 x hx)⟩
set_option maxHeartbeats 1000000 in
theorem c_spec_AddPoints_ok (p a b : Int) (f s : List Int) (hl : f.length ≤ 1099511627776) (hs : s.length ≤ 1099511627776) (h : codeP p a b [f, s] = 0) : AFn Try.prog 27 [.int .i64 p, .int .i64 a, .int .i64 b, .sl false 2 (intL f), .sl false 2 (intL s)] (.tup [.sl true 2 (intL (addE p a f s)), .int .i64 (codeP p a b [f, s])]) := by
  refine AFn.of' ttOk (by decide) Try.func27 Try.ntmps27 (by rw [Try.results27]) (by rfl) (by rfl) (by simp) (by decide) (by simp only [go_sem, Nat.reduceAdd, ↓reduceIte]; rfl) mixed (fun C hP hM hC => ?_)
  have hk := codeP_ok h
  have hB := c_spec_l18Both p a b [f, s] (by simp) (by simp only [List.forall_mem_cons]; exact ⟨hl, hs, by simp⟩)
  have hA := c_spec_l18Add p a f s hk.1.h5 hk.1.h97 hk.1.ha hk.1.ha2 (hk.2 f (by simp)) (hk.2 s (by simp))
  rw [h] at hB ⊢
  (repeat (first | ((with_reducible refine rgn_cons rfl (fun K hK => ?_)); simp only [go_sem, seval, ↓reduceIte, decide_true, decide_false]; (first | refine hK _ _ _ (by simp only [go_sem, Nat.reduceEqDiff, ↓reduceIte]; rfl) ?_ | refine ⟨_, hB, hK _ _ _ (by simp only [go_sem, Nat.reduceEqDiff, ↓reduceIte]; rfl) ?_⟩ | refine ⟨_, hA, hK _ _ _ (by simp only [go_sem, Nat.reduceEqDiff, ↓reduceIte]; rfl) ?_⟩); clear hK; clear K) | (with_reducible first | refine rgn_nil (by first | trivial | kernel_rfl) ?_ | refine AWP.seq ?_ | refine tX hC hP (by kernel_rfl) ?_ | refine aX hC hM hP (by kernel_rfl) ?_ | refine AWP.skip ?_ | refine AWP.label ?_ | refine AWP.exit ?_ | refine AWP.block ?_ | refine cTa ?_ | refine cFa ?_) | simp only [qS, Nat.reduceEqDiff, ↓reduceIte]))
  (refine AWP.ret ?_; refine retOk2 (by simp only [go_sem, seval, ↓reduceIte, decide_true, decide_false]; rfl) (by simp only [go_sem, seval, ↓reduceIte, decide_true, decide_false]; rfl) (by simp) ?_)
  rfl
set_option maxHeartbeats 1000000 in
theorem c_spec_AddPoints_no (p a b : Int) (f s : List Int) (hl : f.length ≤ 1099511627776) (hs : s.length ≤ 1099511627776) (h : ¬ codeP p a b [f, s] = 0) : AFn Try.prog 27 [.int .i64 p, .int .i64 a, .int .i64 b, .sl false 2 (intL f), .sl false 2 (intL s)] (.tup [.nil, .int .i64 (codeP p a b [f, s])]) := by
  refine AFn.of' ttOk (by decide) Try.func27 Try.ntmps27 (by rw [Try.results27]) (by rfl) (by rfl) (by simp) (by decide) (by simp only [go_sem, Nat.reduceAdd, ↓reduceIte]; rfl) mixed (fun C hP hM hC => ?_)
  have hB := c_spec_l18Both p a b [f, s] (by simp) (by simp only [List.forall_mem_cons]; exact ⟨hl, hs, by simp⟩)
  have hb : (codeP p a b [f, s] != 0) = true := by simp [h]
  (repeat (first | ((with_reducible refine rgn_cons rfl (fun K hK => ?_)); simp only [go_sem, seval, ↓reduceIte, decide_true, decide_false, hb]; (first | refine hK _ _ _ (by simp only [go_sem, Nat.reduceEqDiff, ↓reduceIte]; rfl) ?_ | refine ⟨_, hB, hK _ _ _ (by simp only [go_sem, Nat.reduceEqDiff, ↓reduceIte]; rfl) ?_⟩); clear hK; clear K) | (with_reducible first | refine rgn_nil (by first | trivial | kernel_rfl) ?_ | refine AWP.seq ?_ | refine tX hC hP (by kernel_rfl) ?_ | refine aX hC hM hP (by kernel_rfl) ?_ | refine AWP.skip ?_ | refine AWP.label ?_ | refine AWP.exit ?_ | refine AWP.block ?_ | refine cTa ?_ | refine cFa ?_) | simp only [qS, Nat.reduceEqDiff, ↓reduceIte]))
  (refine AWP.ret ?_; refine retOk2 (by simp only [go_sem, seval, ↓reduceIte, decide_true, decide_false]; rfl) (by simp only [go_sem, seval, ↓reduceIte, decide_true, decide_false]; rfl) (by simp) ?_)
  rfl
set_option maxHeartbeats 1000000 in
theorem c_impl_AddPoints_ok (p a b : Int) (f s : List Int) (hl : f.length ≤ 1099511627776) (hs : s.length ≤ 1099511627776) (h : codeP p a b [f, s] = 0) : AFn Try.prog 26 [.int .i64 p, .int .i64 a, .int .i64 b, .sl false 2 (intL f), .sl false 2 (intL s)] (.tup [.sl true 2 (intL (addE p a f s)), .int .i64 (codeP p a b [f, s])]) := by
  refine AFn.of' ttOk (by decide) Try.func26 Try.ntmps26 (by rw [Try.results26]) (by rfl) (by rfl) (by simp) (by decide) (by simp only [go_sem, Nat.reduceAdd, ↓reduceIte]; rfl) mixed (fun C hP hM hC => ?_)
  have hk := codeP_ok h
  have hB := c_impl_curveAt_pts p a b [f, s] (by simp) (by simp only [List.forall_mem_cons]; exact ⟨hl, hs, by simp⟩)
  have hA := c_impl_elliptic_sum p a b f s hk.1.h5 hk.1.h97 hk.1.ha hk.1.ha2 (hk.2 f (by simp)) (hk.2 s (by simp))
  rw [h] at hB ⊢
  (repeat (first | ((with_reducible refine rgn_cons rfl (fun K hK => ?_)); simp only [go_sem, seval, ↓reduceIte, decide_true, decide_false]; (first | refine hK _ _ _ (by simp only [go_sem, Nat.reduceEqDiff, ↓reduceIte]; rfl) ?_ | refine ⟨_, hB, hK _ _ _ (by simp only [go_sem, Nat.reduceEqDiff, ↓reduceIte]; rfl) ?_⟩ | refine ⟨_, hA, hK _ _ _ (by simp only [go_sem, Nat.reduceEqDiff, ↓reduceIte]; rfl) ?_⟩); clear hK; clear K) | (with_reducible first | refine rgn_nil (by first | trivial | kernel_rfl) ?_ | refine AWP.seq ?_ | refine tX hC hP (by kernel_rfl) ?_ | refine aX hC hM hP (by kernel_rfl) ?_ | refine AWP.skip ?_ | refine AWP.label ?_ | refine AWP.exit ?_ | refine AWP.block ?_ | refine cTa ?_ | refine cFa ?_) | simp only [qS, Nat.reduceEqDiff, ↓reduceIte]))
  (refine AWP.ret ?_; refine retOk2 (by simp only [go_sem, seval, ↓reduceIte, decide_true, decide_false]; rfl) (by simp only [go_sem, seval, ↓reduceIte, decide_true, decide_false]; rfl) (by simp) ?_)
  rfl
set_option maxHeartbeats 1000000 in
theorem c_impl_AddPoints_no (p a b : Int) (f s : List Int) (hl : f.length ≤ 1099511627776) (hs : s.length ≤ 1099511627776) (h : ¬ codeP p a b [f, s] = 0) : AFn Try.prog 26 [.int .i64 p, .int .i64 a, .int .i64 b, .sl false 2 (intL f), .sl false 2 (intL s)] (.tup [.nil, .int .i64 (codeP p a b [f, s])]) := by
  refine AFn.of' ttOk (by decide) Try.func26 Try.ntmps26 (by rw [Try.results26]) (by rfl) (by rfl) (by simp) (by decide) (by simp only [go_sem, Nat.reduceAdd, ↓reduceIte]; rfl) mixed (fun C hP hM hC => ?_)
  have hB := c_impl_curveAt_pts p a b [f, s] (by simp) (by simp only [List.forall_mem_cons]; exact ⟨hl, hs, by simp⟩)
  have hb : (codeP p a b [f, s] != 0) = true := by simp [h]
  (repeat (first | ((with_reducible refine rgn_cons rfl (fun K hK => ?_)); simp only [go_sem, seval, ↓reduceIte, decide_true, decide_false, hb]; (first | refine hK _ _ _ (by simp only [go_sem, Nat.reduceEqDiff, ↓reduceIte]; rfl) ?_ | refine ⟨_, hB, hK _ _ _ (by simp only [go_sem, Nat.reduceEqDiff, ↓reduceIte]; rfl) ?_⟩); clear hK; clear K) | (with_reducible first | refine rgn_nil (by first | trivial | kernel_rfl) ?_ | refine AWP.seq ?_ | refine tX hC hP (by kernel_rfl) ?_ | refine aX hC hM hP (by kernel_rfl) ?_ | refine AWP.skip ?_ | refine AWP.label ?_ | refine AWP.exit ?_ | refine AWP.block ?_ | refine cTa ?_ | refine cFa ?_) | simp only [qS, Nat.reduceEqDiff, ↓reduceIte]))
  (refine AWP.ret ?_; refine retOk2 (by simp only [go_sem, seval, ↓reduceIte, decide_true, decide_false]; rfl) (by simp only [go_sem, seval, ↓reduceIte, decide_true, decide_false]; rfl) (by simp) ?_)
  rfl
/-- The sum of n copies of a point. -/
def mulE (p a : Int) (out pt : List Int) (n : Nat) : List Int := if h : n = 0 then out else mulE p a (if n % 2 = 1 then addE p a out pt else out) (addE p a pt pt) (n / 2)
  termination_by n
  decreasing_by omega
theorem mulE_zero {p a : Int} {out pt : List Int} : mulE p a out pt 0 = out := by rw [mulE, dif_pos rfl]
theorem mulE_odd {p a : Int} {out pt : List Int} {n : Nat} (h : n % 2 = 1) : mulE p a out pt n = mulE p a (addE p a out pt) (addE p a pt pt) (n / 2) := by
  rw [mulE, dif_neg (by omega), if_pos h]
theorem mulE_even {p a : Int} {out pt : List Int} {n : Nat} (h0 : 0 < n) (h : n % 2 = 0) : mulE p a out pt n = mulE p a out (addE p a pt pt) (n / 2) := by
  rw [mulE, dif_neg (by omega), if_neg (by omega)]
theorem mulE_ok {p a : Int} (hp : 0 < p) (n : Nat) : ∀ {out pt : List Int}, PtOk p out → PtOk p pt → PtOk p (mulE p a out pt n) := by
  induction n using Nat.strongRecOn with
  | _ n ih =>
    intro out pt h1 h2
    rcases Nat.eq_zero_or_pos n with e | e
    · subst e; rw [mulE_zero]; exact h1
    · by_cases h : n % 2 = 1
      · rw [mulE_odd h]; exact ih _ (by omega) (addE_ok hp h1 h2) (addE_ok hp h2 h2)
      · rw [mulE_even e (by omega)]; exact ih _ (by omega) h1 (addE_ok hp h2 h2)
set_option maxHeartbeats 1000000 in
theorem c_spec_l18Times (p a : Int) (pt : List Int) (n : Nat) (h5 : 5 ≤ p) (h97 : p ≤ 97) (ha : 0 ≤ a) (ha2 : a < p) (hk : PtOk p pt) (hn : n ≤ 1000000000) : AFn Try.prog 61 [.int .i64 p, .int .i64 a, .sl false 2 (intL pt), .int .i64 n] (.sl true 2 (intL (mulE p a [] pt n))) := by
  refine AFn.of' ttOk (by decide) Try.func61 Try.ntmps61 (by rw [Try.results61]) (by rfl) (by rfl) (by simp) (by decide) (by simp only [go_sem, Nat.reduceAdd, ↓reduceIte]; rfl) mixed (fun C hP hM hC => ?_)
  (repeat (first | ((with_reducible refine rgn_cons rfl (fun K hK => ?_)); simp only [go_sem, seval, ↓reduceIte, decide_true, decide_false]; (refine hK _ _ _ (by simp only [go_sem, Nat.reduceEqDiff, ↓reduceIte]; rfl) ?_); clear hK; clear K) | (with_reducible first | refine rgn_nil (by first | trivial | kernel_rfl) ?_ | refine AWP.seq ?_ | refine tX hC hP (by kernel_rfl) ?_ | refine aX hC hM hP (by kernel_rfl) ?_ | refine AWP.skip ?_ | refine AWP.label ?_ | refine AWP.exit ?_ | refine AWP.block ?_ | refine cTa ?_ | refine cFa ?_) | simp only [qS, Nat.reduceEqDiff, ↓reduceIte]))
  refine AWP.loop (fun w : Nat × List Int × List Int × Nat × Option Nat => match w with
    | (j, o, b, v9, none) => [(3, ⟨0, .val (.int .i64 j)⟩), (9, ⟨v9, .own (.sl true 2 (intL o))⟩), (2, ⟨0, .val (.sl false 2 (intL b))⟩), (0, ⟨0, .val (.int .i64 p)⟩), (1, ⟨0, .val (.int .i64 a)⟩)]
    | (j, o, b, v9, some v2) => [(3, ⟨0, .val (.int .i64 j)⟩), (9, ⟨v9, .own (.sl true 2 (intL o))⟩), (2, ⟨v2, .own (.sl true 2 (intL b))⟩), (0, ⟨0, .val (.int .i64 p)⟩), (1, ⟨0, .val (.int .i64 a)⟩)]) (fun w => w.1 ≤ n ∧ PtOk p w.2.1 ∧ PtOk p w.2.2.1 ∧ mulE p a w.2.1 w.2.2.1 w.1 = mulE p a [] pt n) (fun w => w.1) (n, [], pt, 1, none) ⟨Nat.le_refl _, .inl rfl, hk, rfl⟩ (fun i => by obtain ⟨j, o, b, v9, v2⟩ := i; cases v2 <;> rfl) ?_ (fun w hw => ?_)
  · simp [Sub, lk, intL]
  · obtain ⟨j, o, b, v9, v2⟩ := w
    simp only at hw
    obtain ⟨hj, ho, hb, hE⟩ := hw
    have hT1 := c_spec_l18Add p a o b h5 h97 ha ha2 ho hb
    have hT2 := c_spec_l18Add p a b b h5 h97 ha ha2 hb hb
    have hok1 := addE_ok (a := a) (show 0 < p by omega) ho hb
    have hok2 := addE_ok (a := a) (show 0 < p by omega) hb hb
    cases v2 with
    | none =>
      simp only
      by_cases hs : 0 < j
      · have hs' : (0 : Int) < (j : Int) := by omega
        by_cases ho2 : j % 2 = 1
        · (repeat (first | ((with_reducible refine rgn_cons rfl (fun K hK => ?_)); simp only [go_sem, seval, ↓reduceIte, decide_true, decide_false, hs', nat_tmod2, nat_tdiv2, ho2, Int.cast_ofNat_Int, show (2 : Int) ≠ 0 by omega, wid ((j / 2 : Nat) : Int) (by omega) (by omega)]; (first | refine hK _ _ _ (by simp only [go_sem, Nat.reduceEqDiff, ↓reduceIte]; rfl) ?_ | refine ⟨_, hT1, hK _ _ _ (by simp only [go_sem, Nat.reduceEqDiff, ↓reduceIte]; rfl) ?_⟩ | refine ⟨_, hT2, hK _ _ _ (by simp only [go_sem, Nat.reduceEqDiff, ↓reduceIte]; rfl) ?_⟩); clear hK; clear K) | (with_reducible first | refine rgn_nil (by first | trivial | kernel_rfl) ?_ | refine AWP.seq ?_ | refine tX hC hP (by kernel_rfl) ?_ | refine aX hC hM hP (by kernel_rfl) ?_ | refine AWP.skip ?_ | refine AWP.label ?_ | refine AWP.exit ?_ | refine AWP.block ?_ | refine cTa ?_ | refine cFa ?_) | simp only [qS, Nat.reduceEqDiff, ↓reduceIte]))
          exact ⟨(j / 2, addE p a o b, addE p a b b, v9 + 1, some 1), ⟨by simp only; omega, hok1, hok2, by rw [← hE]; exact (mulE_odd ho2).symm⟩, by simp only; omega, by simp [Sub, lk]⟩
        · have ho3 : j % 2 = 0 := by omega
          (repeat (first | ((with_reducible refine rgn_cons rfl (fun K hK => ?_)); simp only [go_sem, seval, ↓reduceIte, decide_true, decide_false, hs', nat_tmod2, nat_tdiv2, ho3, Int.cast_ofNat_Int, Int.natCast_zero, show (2 : Int) ≠ 0 by omega, wid ((j / 2 : Nat) : Int) (by omega) (by omega)]; (first | refine hK _ _ _ (by simp only [go_sem, Nat.reduceEqDiff, ↓reduceIte]; rfl) ?_ | refine ⟨_, hT2, hK _ _ _ (by simp only [go_sem, Nat.reduceEqDiff, ↓reduceIte]; rfl) ?_⟩); clear hK; clear K) | (with_reducible first | refine rgn_nil (by first | trivial | kernel_rfl) ?_ | refine AWP.seq ?_ | refine tX hC hP (by kernel_rfl) ?_ | refine aX hC hM hP (by kernel_rfl) ?_ | refine AWP.skip ?_ | refine AWP.label ?_ | refine AWP.exit ?_ | refine AWP.block ?_ | refine cTa ?_ | refine cFa ?_) | simp only [qS, Nat.reduceEqDiff, ↓reduceIte]))
          exact ⟨(j / 2, o, addE p a b b, v9, some 1), ⟨by simp only; omega, ho, hok2, by rw [← hE]; exact (mulE_even hs ho3).symm⟩, by simp only; omega, by simp [Sub, lk]⟩
      · have hj0 : j = 0 := by omega
        subst hj0
        (repeat (first | ((with_reducible refine rgn_cons rfl (fun K hK => ?_)); simp only [go_sem, seval, ↓reduceIte, decide_true, decide_false, show ¬ (0 : Int) < ((0 : Nat) : Int) by omega, Int.natCast_zero, decide_false]; (refine hK _ _ _ (by simp only [go_sem, Nat.reduceEqDiff, ↓reduceIte]; rfl) ?_); clear hK; clear K) | (with_reducible first | refine rgn_nil (by first | trivial | kernel_rfl) ?_ | refine AWP.seq ?_ | refine tX hC hP (by kernel_rfl) ?_ | refine aX hC hM hP (by kernel_rfl) ?_ | refine AWP.skip ?_ | refine AWP.label ?_ | refine AWP.exit ?_ | refine AWP.block ?_ | refine cTa ?_ | refine cFa ?_) | simp only [qS, Nat.reduceEqDiff, ↓reduceIte]))
        (refine AWP.ret ?_; refine retOk1 (by simp only [go_sem, seval, ↓reduceIte, decide_true, decide_false]; rfl) ?_)
        rw [← hE, mulE_zero]
    | some v2 =>
      simp only
      by_cases hs : 0 < j
      · have hs' : (0 : Int) < (j : Int) := by omega
        by_cases ho2 : j % 2 = 1
        · (repeat (first | ((with_reducible refine rgn_cons rfl (fun K hK => ?_)); simp only [go_sem, seval, ↓reduceIte, decide_true, decide_false, hs', nat_tmod2, nat_tdiv2, ho2, Int.cast_ofNat_Int, show (2 : Int) ≠ 0 by omega, wid ((j / 2 : Nat) : Int) (by omega) (by omega)]; (first | refine hK _ _ _ (by simp only [go_sem, Nat.reduceEqDiff, ↓reduceIte]; rfl) ?_ | refine ⟨_, hT1, hK _ _ _ (by simp only [go_sem, Nat.reduceEqDiff, ↓reduceIte]; rfl) ?_⟩ | refine ⟨_, hT2, hK _ _ _ (by simp only [go_sem, Nat.reduceEqDiff, ↓reduceIte]; rfl) ?_⟩); clear hK; clear K) | (with_reducible first | refine rgn_nil (by first | trivial | kernel_rfl) ?_ | refine AWP.seq ?_ | refine tX hC hP (by kernel_rfl) ?_ | refine aX hC hM hP (by kernel_rfl) ?_ | refine AWP.skip ?_ | refine AWP.label ?_ | refine AWP.exit ?_ | refine AWP.block ?_ | refine cTa ?_ | refine cFa ?_) | simp only [qS, Nat.reduceEqDiff, ↓reduceIte]))
          exact ⟨(j / 2, addE p a o b, addE p a b b, v9 + 1, some (v2 + 1)), ⟨by simp only; omega, hok1, hok2, by rw [← hE]; exact (mulE_odd ho2).symm⟩, by simp only; omega, by simp [Sub, lk]⟩
        · have ho3 : j % 2 = 0 := by omega
          (repeat (first | ((with_reducible refine rgn_cons rfl (fun K hK => ?_)); simp only [go_sem, seval, ↓reduceIte, decide_true, decide_false, hs', nat_tmod2, nat_tdiv2, ho3, Int.cast_ofNat_Int, Int.natCast_zero, show (2 : Int) ≠ 0 by omega, wid ((j / 2 : Nat) : Int) (by omega) (by omega)]; (first | refine hK _ _ _ (by simp only [go_sem, Nat.reduceEqDiff, ↓reduceIte]; rfl) ?_ | refine ⟨_, hT2, hK _ _ _ (by simp only [go_sem, Nat.reduceEqDiff, ↓reduceIte]; rfl) ?_⟩); clear hK; clear K) | (with_reducible first | refine rgn_nil (by first | trivial | kernel_rfl) ?_ | refine AWP.seq ?_ | refine tX hC hP (by kernel_rfl) ?_ | refine aX hC hM hP (by kernel_rfl) ?_ | refine AWP.skip ?_ | refine AWP.label ?_ | refine AWP.exit ?_ | refine AWP.block ?_ | refine cTa ?_ | refine cFa ?_) | simp only [qS, Nat.reduceEqDiff, ↓reduceIte]))
          exact ⟨(j / 2, o, addE p a b b, v9, some (v2 + 1)), ⟨by simp only; omega, ho, hok2, by rw [← hE]; exact (mulE_even hs ho3).symm⟩, by simp only; omega, by simp [Sub, lk]⟩
      · have hj0 : j = 0 := by omega
        subst hj0
        (repeat (first | ((with_reducible refine rgn_cons rfl (fun K hK => ?_)); simp only [go_sem, seval, ↓reduceIte, decide_true, decide_false, show ¬ (0 : Int) < ((0 : Nat) : Int) by omega, Int.natCast_zero, decide_false]; (refine hK _ _ _ (by simp only [go_sem, Nat.reduceEqDiff, ↓reduceIte]; rfl) ?_); clear hK; clear K) | (with_reducible first | refine rgn_nil (by first | trivial | kernel_rfl) ?_ | refine AWP.seq ?_ | refine tX hC hP (by kernel_rfl) ?_ | refine aX hC hM hP (by kernel_rfl) ?_ | refine AWP.skip ?_ | refine AWP.label ?_ | refine AWP.exit ?_ | refine AWP.block ?_ | refine cTa ?_ | refine cFa ?_) | simp only [qS, Nat.reduceEqDiff, ↓reduceIte]))
        (refine AWP.ret ?_; refine retOk1 (by simp only [go_sem, seval, ↓reduceIte, decide_true, decide_false]; rfl) ?_)
        rw [← hE, mulE_zero]
set_option maxHeartbeats 1000000 in
theorem c_impl_elliptic_multiple (p a b0 : Int) (pt : List Int) (n : Nat) (h5 : 5 ≤ p) (h97 : p ≤ 97) (ha : 0 ≤ a) (ha2 : a < p) (hk : PtOk p pt) (hn : n ≤ 1000000000) : AFn Try.prog 59 [.agg [.int .i64 p, .int .i64 a, .int .i64 b0], .sl false 2 (intL pt), .int .i64 n] (.sl true 2 (intL (mulE p a [] pt n))) := by
  refine AFn.of' ttOk (by decide) Try.func59 Try.ntmps59 (by rw [Try.results59]) (by rfl) (by rfl) (by simp) (by decide) (by simp only [go_sem, Nat.reduceAdd, ↓reduceIte]; rfl) mixed (fun C hP hM hC => ?_)
  (repeat (first | ((with_reducible refine rgn_cons rfl (fun K hK => ?_)); simp only [go_sem, seval, ↓reduceIte, decide_true, decide_false]; (refine hK _ _ _ (by simp only [go_sem, Nat.reduceEqDiff, ↓reduceIte]; rfl) ?_); clear hK; clear K) | (with_reducible first | refine rgn_nil (by first | trivial | kernel_rfl) ?_ | refine AWP.seq ?_ | refine tX hC hP (by kernel_rfl) ?_ | refine aX hC hM hP (by kernel_rfl) ?_ | refine AWP.skip ?_ | refine AWP.label ?_ | refine AWP.exit ?_ | refine AWP.block ?_ | refine cTa ?_ | refine cFa ?_) | simp only [qS, Nat.reduceEqDiff, ↓reduceIte]))
  refine AWP.loop (fun w : Nat × List Int × List Int × Nat × Option Nat => match w with
    | (j, o, b, v7, none) => [(2, ⟨0, .val (.int .i64 j)⟩), (7, ⟨v7, .own (.sl true 2 (intL o))⟩), (1, ⟨0, .val (.sl false 2 (intL b))⟩), (3, ⟨1, .own (.box 56 (.agg [.int .i64 p, .int .i64 a, .int .i64 b0]))⟩)]
    | (j, o, b, v7, some v1) => [(2, ⟨0, .val (.int .i64 j)⟩), (7, ⟨v7, .own (.sl true 2 (intL o))⟩), (1, ⟨v1, .own (.sl true 2 (intL b))⟩), (3, ⟨1, .own (.box 56 (.agg [.int .i64 p, .int .i64 a, .int .i64 b0]))⟩)]) (fun w => w.1 ≤ n ∧ PtOk p w.2.1 ∧ PtOk p w.2.2.1 ∧ mulE p a w.2.1 w.2.2.1 w.1 = mulE p a [] pt n) (fun w => w.1) (n, [], pt, 1, none) ⟨Nat.le_refl _, .inl rfl, hk, rfl⟩ (fun i => by obtain ⟨j, o, b, v7, v1⟩ := i; cases v1 <;> rfl) ?_ (fun w hw => ?_)
  · simp [Sub, lk, intL]
  · obtain ⟨j, o, b, v7, v1⟩ := w
    simp only at hw
    obtain ⟨hj, ho, hb, hE⟩ := hw
    have hT1 := c_impl_elliptic_sum p a b0 o b h5 h97 ha ha2 ho hb
    have hT2 := c_impl_elliptic_sum p a b0 b b h5 h97 ha ha2 hb hb
    have hok1 := addE_ok (a := a) (show 0 < p by omega) ho hb
    have hok2 := addE_ok (a := a) (show 0 < p by omega) hb hb
    cases v1 with
    | none =>
      simp only
      by_cases hs : 0 < j
      · have hs' : (0 : Int) < (j : Int) := by omega
        by_cases ho2 : j % 2 = 1
        · (repeat (first | ((with_reducible refine rgn_cons rfl (fun K hK => ?_)); simp only [go_sem, seval, ↓reduceIte, decide_true, decide_false, hs', nat_tmod2, nat_tdiv2, ho2, Int.cast_ofNat_Int, show (2 : Int) ≠ 0 by omega, wid ((j / 2 : Nat) : Int) (by omega) (by omega)]; (first | refine hK _ _ _ (by simp only [go_sem, Nat.reduceEqDiff, ↓reduceIte]; rfl) ?_ | refine ⟨_, hT1, hK _ _ _ (by simp only [go_sem, Nat.reduceEqDiff, ↓reduceIte]; rfl) ?_⟩ | refine ⟨_, hT2, hK _ _ _ (by simp only [go_sem, Nat.reduceEqDiff, ↓reduceIte]; rfl) ?_⟩); clear hK; clear K) | (with_reducible first | refine rgn_nil (by first | trivial | kernel_rfl) ?_ | refine AWP.seq ?_ | refine tX hC hP (by kernel_rfl) ?_ | refine aX hC hM hP (by kernel_rfl) ?_ | refine AWP.skip ?_ | refine AWP.label ?_ | refine AWP.exit ?_ | refine AWP.block ?_ | refine cTa ?_ | refine cFa ?_) | simp only [qS, Nat.reduceEqDiff, ↓reduceIte]))
          exact ⟨(j / 2, addE p a o b, addE p a b b, v7 + 1, some 1), ⟨by simp only; omega, hok1, hok2, by rw [← hE]; exact (mulE_odd ho2).symm⟩, by simp only; omega, by simp [Sub, lk]⟩
        · have ho3 : j % 2 = 0 := by omega
          (repeat (first | ((with_reducible refine rgn_cons rfl (fun K hK => ?_)); simp only [go_sem, seval, ↓reduceIte, decide_true, decide_false, hs', nat_tmod2, nat_tdiv2, ho3, Int.cast_ofNat_Int, Int.natCast_zero, show (2 : Int) ≠ 0 by omega, wid ((j / 2 : Nat) : Int) (by omega) (by omega)]; (first | refine hK _ _ _ (by simp only [go_sem, Nat.reduceEqDiff, ↓reduceIte]; rfl) ?_ | refine ⟨_, hT2, hK _ _ _ (by simp only [go_sem, Nat.reduceEqDiff, ↓reduceIte]; rfl) ?_⟩); clear hK; clear K) | (with_reducible first | refine rgn_nil (by first | trivial | kernel_rfl) ?_ | refine AWP.seq ?_ | refine tX hC hP (by kernel_rfl) ?_ | refine aX hC hM hP (by kernel_rfl) ?_ | refine AWP.skip ?_ | refine AWP.label ?_ | refine AWP.exit ?_ | refine AWP.block ?_ | refine cTa ?_ | refine cFa ?_) | simp only [qS, Nat.reduceEqDiff, ↓reduceIte]))
          exact ⟨(j / 2, o, addE p a b b, v7, some 1), ⟨by simp only; omega, ho, hok2, by rw [← hE]; exact (mulE_even hs ho3).symm⟩, by simp only; omega, by simp [Sub, lk]⟩
      · have hj0 : j = 0 := by omega
        subst hj0
        (repeat (first | ((with_reducible refine rgn_cons rfl (fun K hK => ?_)); simp only [go_sem, seval, ↓reduceIte, decide_true, decide_false, show ¬ (0 : Int) < ((0 : Nat) : Int) by omega, Int.natCast_zero, decide_false]; (refine hK _ _ _ (by simp only [go_sem, Nat.reduceEqDiff, ↓reduceIte]; rfl) ?_); clear hK; clear K) | (with_reducible first | refine rgn_nil (by first | trivial | kernel_rfl) ?_ | refine AWP.seq ?_ | refine tX hC hP (by kernel_rfl) ?_ | refine aX hC hM hP (by kernel_rfl) ?_ | refine AWP.skip ?_ | refine AWP.label ?_ | refine AWP.exit ?_ | refine AWP.block ?_ | refine cTa ?_ | refine cFa ?_) | simp only [qS, Nat.reduceEqDiff, ↓reduceIte]))
        (refine AWP.ret ?_; refine retOk1 (by simp only [go_sem, seval, ↓reduceIte, decide_true, decide_false]; rfl) ?_)
        rw [← hE, mulE_zero]
    | some v1 =>
      simp only
      by_cases hs : 0 < j
      · have hs' : (0 : Int) < (j : Int) := by omega
        by_cases ho2 : j % 2 = 1
        · (repeat (first | ((with_reducible refine rgn_cons rfl (fun K hK => ?_)); simp only [go_sem, seval, ↓reduceIte, decide_true, decide_false, hs', nat_tmod2, nat_tdiv2, ho2, Int.cast_ofNat_Int, show (2 : Int) ≠ 0 by omega, wid ((j / 2 : Nat) : Int) (by omega) (by omega)]; (first | refine hK _ _ _ (by simp only [go_sem, Nat.reduceEqDiff, ↓reduceIte]; rfl) ?_ | refine ⟨_, hT1, hK _ _ _ (by simp only [go_sem, Nat.reduceEqDiff, ↓reduceIte]; rfl) ?_⟩ | refine ⟨_, hT2, hK _ _ _ (by simp only [go_sem, Nat.reduceEqDiff, ↓reduceIte]; rfl) ?_⟩); clear hK; clear K) | (with_reducible first | refine rgn_nil (by first | trivial | kernel_rfl) ?_ | refine AWP.seq ?_ | refine tX hC hP (by kernel_rfl) ?_ | refine aX hC hM hP (by kernel_rfl) ?_ | refine AWP.skip ?_ | refine AWP.label ?_ | refine AWP.exit ?_ | refine AWP.block ?_ | refine cTa ?_ | refine cFa ?_) | simp only [qS, Nat.reduceEqDiff, ↓reduceIte]))
          exact ⟨(j / 2, addE p a o b, addE p a b b, v7 + 1, some (v1 + 1)), ⟨by simp only; omega, hok1, hok2, by rw [← hE]; exact (mulE_odd ho2).symm⟩, by simp only; omega, by simp [Sub, lk]⟩
        · have ho3 : j % 2 = 0 := by omega
          (repeat (first | ((with_reducible refine rgn_cons rfl (fun K hK => ?_)); simp only [go_sem, seval, ↓reduceIte, decide_true, decide_false, hs', nat_tmod2, nat_tdiv2, ho3, Int.cast_ofNat_Int, Int.natCast_zero, show (2 : Int) ≠ 0 by omega, wid ((j / 2 : Nat) : Int) (by omega) (by omega)]; (first | refine hK _ _ _ (by simp only [go_sem, Nat.reduceEqDiff, ↓reduceIte]; rfl) ?_ | refine ⟨_, hT2, hK _ _ _ (by simp only [go_sem, Nat.reduceEqDiff, ↓reduceIte]; rfl) ?_⟩); clear hK; clear K) | (with_reducible first | refine rgn_nil (by first | trivial | kernel_rfl) ?_ | refine AWP.seq ?_ | refine tX hC hP (by kernel_rfl) ?_ | refine aX hC hM hP (by kernel_rfl) ?_ | refine AWP.skip ?_ | refine AWP.label ?_ | refine AWP.exit ?_ | refine AWP.block ?_ | refine cTa ?_ | refine cFa ?_) | simp only [qS, Nat.reduceEqDiff, ↓reduceIte]))
          exact ⟨(j / 2, o, addE p a b b, v7, some (v1 + 1)), ⟨by simp only; omega, ho, hok2, by rw [← hE]; exact (mulE_even hs ho3).symm⟩, by simp only; omega, by simp [Sub, lk]⟩
      · have hj0 : j = 0 := by omega
        subst hj0
        (repeat (first | ((with_reducible refine rgn_cons rfl (fun K hK => ?_)); simp only [go_sem, seval, ↓reduceIte, decide_true, decide_false, show ¬ (0 : Int) < ((0 : Nat) : Int) by omega, Int.natCast_zero, decide_false]; (refine hK _ _ _ (by simp only [go_sem, Nat.reduceEqDiff, ↓reduceIte]; rfl) ?_); clear hK; clear K) | (with_reducible first | refine rgn_nil (by first | trivial | kernel_rfl) ?_ | refine AWP.seq ?_ | refine tX hC hP (by kernel_rfl) ?_ | refine aX hC hM hP (by kernel_rfl) ?_ | refine AWP.skip ?_ | refine AWP.label ?_ | refine AWP.exit ?_ | refine AWP.block ?_ | refine cTa ?_ | refine cFa ?_) | simp only [qS, Nat.reduceEqDiff, ↓reduceIte]))
        (refine AWP.ret ?_; refine retOk1 (by simp only [go_sem, seval, ↓reduceIte, decide_true, decide_false]; rfl) ?_)
        rw [← hE, mulE_zero]
def codeM (p a b : Int) (l : List Int) (n : Int) : Int := if codeP p a b [l] = 0 then (if (decide (0 ≤ n) && decide (n ≤ 1000000)) = true then 0 else 2) else codeP p a b [l]
theorem codeM_zero {p a b : Int} {l : List Int} {n : Int} (h : codeM p a b l n = 0) : codeP p a b [l] = 0 ∧ 0 ≤ n ∧ n ≤ 1000000 := by
  unfold codeM at h
  split at h
  · rename_i h1
    split at h
    · rename_i h2
      simp only [Bool.and_eq_true, decide_eq_true_eq] at h2
      exact ⟨h1, h2⟩
    · cases h
  · rename_i h1; exact absurd h h1
set_option maxHeartbeats 1000000 in
theorem c_spec_MultiplyPoint_ok (p a b : Int) (l : List Int) (n : Int) (hl : l.length ≤ 1099511627776) (h : codeM p a b l n = 0) : AFn Try.prog 32 [.int .i64 p, .int .i64 a, .int .i64 b, .sl false 2 (intL l), .int .i64 n] (.tup [.sl true 2 (intL (mulE p a [] l n.toNat)), .int .i64 (codeM p a b l n)]) := by
  refine AFn.of' ttOk (by decide) Try.func32 Try.ntmps32 (by rw [Try.results32]) (by rfl) (by rfl) (by simp) (by decide) (by simp only [go_sem, Nat.reduceAdd, ↓reduceIte]; rfl) mixed (fun C hP hM hC => ?_)
  have hz := codeM_zero h
  have hk := codeP_ok hz.1
  have hd : (decide (0 ≤ n) && decide (n ≤ 1000000)) = true := by simp [hz]
  have hB := c_spec_l18Both p a b [l] (by simp) (by simp only [List.forall_mem_cons]; exact ⟨hl, by simp⟩)
  have hA := c_spec_l18Times p a l n.toNat hk.1.h5 hk.1.h97 hk.1.ha hk.1.ha2 (hk.2 l (by simp)) (by omega)
  rw [show (n.toNat : Int) = n by omega] at hA
  rw [h]
  rw [hz.1] at hB
  (repeat (first | ((with_reducible refine rgn_cons rfl (fun K hK => ?_)); simp only [go_sem, seval, ↓reduceIte, decide_true, decide_false, hd]; (first | refine hK _ _ _ (by simp only [go_sem, Nat.reduceEqDiff, ↓reduceIte]; rfl) ?_ | refine ⟨_, hB, hK _ _ _ (by simp only [go_sem, Nat.reduceEqDiff, ↓reduceIte]; rfl) ?_⟩ | refine ⟨_, c_spec_l01In _ _ _, hK _ _ _ (by simp only [go_sem, Nat.reduceEqDiff, ↓reduceIte]; rfl) ?_⟩ | refine ⟨_, hA, hK _ _ _ (by simp only [go_sem, Nat.reduceEqDiff, ↓reduceIte]; rfl) ?_⟩); clear hK; clear K) | (with_reducible first | refine rgn_nil (by first | trivial | kernel_rfl) ?_ | refine AWP.seq ?_ | refine tX hC hP (by kernel_rfl) ?_ | refine aX hC hM hP (by kernel_rfl) ?_ | refine AWP.skip ?_ | refine AWP.label ?_ | refine AWP.exit ?_ | refine AWP.block ?_ | refine cTa ?_ | refine cFa ?_) | simp only [qS, Nat.reduceEqDiff, ↓reduceIte]))
  (refine AWP.ret ?_; refine retOk2 (by simp only [go_sem, seval, ↓reduceIte, decide_true, decide_false]; rfl) (by simp only [go_sem, seval, ↓reduceIte, decide_true, decide_false]; rfl) (by simp) ?_)
  rfl
set_option maxHeartbeats 1000000 in
theorem c_impl_MultiplyPoint_ok (p a b : Int) (l : List Int) (n : Int) (hl : l.length ≤ 1099511627776) (h : codeM p a b l n = 0) : AFn Try.prog 30 [.int .i64 p, .int .i64 a, .int .i64 b, .sl false 2 (intL l), .int .i64 n] (.tup [.sl true 2 (intL (mulE p a [] l n.toNat)), .int .i64 (codeM p a b l n)]) := by
  refine AFn.of' ttOk (by decide) Try.func30 Try.ntmps30 (by rw [Try.results30]) (by rfl) (by rfl) (by simp) (by decide) (by simp only [go_sem, Nat.reduceAdd, ↓reduceIte]; rfl) mixed (fun C hP hM hC => ?_)
  have hz := codeM_zero h
  have hk := codeP_ok hz.1
  have hd : (decide (0 ≤ n) && decide (n ≤ 1000000)) = true := by simp [hz]
  have hB := c_impl_curveAt_pts p a b [l] (by simp) (by simp only [List.forall_mem_cons]; exact ⟨hl, by simp⟩)
  have hA := c_impl_elliptic_multiple p a b l n.toNat hk.1.h5 hk.1.h97 hk.1.ha hk.1.ha2 (hk.2 l (by simp)) (by omega)
  rw [show (n.toNat : Int) = n by omega] at hA
  rw [h]
  rw [hz.1] at hB
  (repeat (first | ((with_reducible refine rgn_cons rfl (fun K hK => ?_)); simp only [go_sem, seval, ↓reduceIte, decide_true, decide_false, hd]; (first | refine hK _ _ _ (by simp only [go_sem, Nat.reduceEqDiff, ↓reduceIte]; rfl) ?_ | refine ⟨_, hB, hK _ _ _ (by simp only [go_sem, Nat.reduceEqDiff, ↓reduceIte]; rfl) ?_⟩ | refine ⟨_, c_impl_in _ _ _, hK _ _ _ (by simp only [go_sem, Nat.reduceEqDiff, ↓reduceIte]; rfl) ?_⟩ | refine ⟨_, hA, hK _ _ _ (by simp only [go_sem, Nat.reduceEqDiff, ↓reduceIte]; rfl) ?_⟩); clear hK; clear K) | (with_reducible first | refine rgn_nil (by first | trivial | kernel_rfl) ?_ | refine AWP.seq ?_ | refine tX hC hP (by kernel_rfl) ?_ | refine aX hC hM hP (by kernel_rfl) ?_ | refine AWP.skip ?_ | refine AWP.label ?_ | refine AWP.exit ?_ | refine AWP.block ?_ | refine cTa ?_ | refine cFa ?_) | simp only [qS, Nat.reduceEqDiff, ↓reduceIte]))
  (refine AWP.ret ?_; refine retOk2 (by simp only [go_sem, seval, ↓reduceIte, decide_true, decide_false]; rfl) (by simp only [go_sem, seval, ↓reduceIte, decide_true, decide_false]; rfl) (by simp) ?_)
  rfl
set_option maxHeartbeats 1000000 in
theorem c_spec_MultiplyPoint_no (p a b : Int) (l : List Int) (n : Int) (hl : l.length ≤ 1099511627776) (h : ¬ codeM p a b l n = 0) : AFn Try.prog 32 [.int .i64 p, .int .i64 a, .int .i64 b, .sl false 2 (intL l), .int .i64 n] (.tup [.nil, .int .i64 (codeM p a b l n)]) := by
  refine AFn.of' ttOk (by decide) Try.func32 Try.ntmps32 (by rw [Try.results32]) (by rfl) (by rfl) (by simp) (by decide) (by simp only [go_sem, Nat.reduceAdd, ↓reduceIte]; rfl) mixed (fun C hP hM hC => ?_)
  have hB := c_spec_l18Both p a b [l] (by simp) (by simp only [List.forall_mem_cons]; exact ⟨hl, by simp⟩)
  by_cases h1 : codeP p a b [l] = 0
  · have hd : (decide (0 ≤ n) && decide (n ≤ 1000000)) = false := by
      cases hx : (decide (0 ≤ n) && decide (n ≤ 1000000)) with
      | false => rfl
      | true => exact absurd (by simp [codeM, h1, hx]) h
    rw [h1] at hB
    (repeat (first | ((with_reducible refine rgn_cons rfl (fun K hK => ?_)); simp only [go_sem, seval, ↓reduceIte, decide_true, decide_false, hd]; (first | refine hK _ _ _ (by simp only [go_sem, Nat.reduceEqDiff, ↓reduceIte]; rfl) ?_ | refine ⟨_, hB, hK _ _ _ (by simp only [go_sem, Nat.reduceEqDiff, ↓reduceIte]; rfl) ?_⟩ | refine ⟨_, c_spec_l01In _ _ _, hK _ _ _ (by simp only [go_sem, Nat.reduceEqDiff, ↓reduceIte]; rfl) ?_⟩); clear hK; clear K) | (with_reducible first | refine rgn_nil (by first | trivial | kernel_rfl) ?_ | refine AWP.seq ?_ | refine tX hC hP (by kernel_rfl) ?_ | refine aX hC hM hP (by kernel_rfl) ?_ | refine AWP.skip ?_ | refine AWP.label ?_ | refine AWP.exit ?_ | refine AWP.block ?_ | refine cTa ?_ | refine cFa ?_) | simp only [qS, Nat.reduceEqDiff, ↓reduceIte]))
    (refine AWP.ret ?_; refine retOk2 (by simp only [go_sem, seval, ↓reduceIte, decide_true, decide_false]; rfl) (by simp only [go_sem, seval, ↓reduceIte, decide_true, decide_false]; rfl) (by simp) ?_)
    simp [codeM, h1, hd]
  · have hb : (codeP p a b [l] != 0) = true := by simp [h1]
    have hb2 : (codeP p a b [l] == 0) = false := by simp [h1]
    (repeat (first | ((with_reducible refine rgn_cons rfl (fun K hK => ?_)); simp only [go_sem, seval, ↓reduceIte, decide_true, decide_false, hb, hb2]; (first | refine hK _ _ _ (by simp only [go_sem, Nat.reduceEqDiff, ↓reduceIte]; rfl) ?_ | refine ⟨_, hB, hK _ _ _ (by simp only [go_sem, Nat.reduceEqDiff, ↓reduceIte]; rfl) ?_⟩); clear hK; clear K) | (with_reducible first | refine rgn_nil (by first | trivial | kernel_rfl) ?_ | refine AWP.seq ?_ | refine tX hC hP (by kernel_rfl) ?_ | refine aX hC hM hP (by kernel_rfl) ?_ | refine AWP.skip ?_ | refine AWP.label ?_ | refine AWP.exit ?_ | refine AWP.block ?_ | refine cTa ?_ | refine cFa ?_) | simp only [qS, Nat.reduceEqDiff, ↓reduceIte]))
    (refine AWP.ret ?_; refine retOk2 (by simp only [go_sem, seval, ↓reduceIte, decide_true, decide_false]; rfl) (by simp only [go_sem, seval, ↓reduceIte, decide_true, decide_false]; rfl) (by simp) ?_)
    simp [codeM, h1]
set_option maxHeartbeats 1000000 in
theorem c_impl_MultiplyPoint_no (p a b : Int) (l : List Int) (n : Int) (hl : l.length ≤ 1099511627776) (h : ¬ codeM p a b l n = 0) : AFn Try.prog 30 [.int .i64 p, .int .i64 a, .int .i64 b, .sl false 2 (intL l), .int .i64 n] (.tup [.nil, .int .i64 (codeM p a b l n)]) := by
  refine AFn.of' ttOk (by decide) Try.func30 Try.ntmps30 (by rw [Try.results30]) (by rfl) (by rfl) (by simp) (by decide) (by simp only [go_sem, Nat.reduceAdd, ↓reduceIte]; rfl) mixed (fun C hP hM hC => ?_)
  have hB := c_impl_curveAt_pts p a b [l] (by simp) (by simp only [List.forall_mem_cons]; exact ⟨hl, by simp⟩)
  by_cases h1 : codeP p a b [l] = 0
  · have hd : (decide (0 ≤ n) && decide (n ≤ 1000000)) = false := by
      cases hx : (decide (0 ≤ n) && decide (n ≤ 1000000)) with
      | false => rfl
      | true => exact absurd (by simp [codeM, h1, hx]) h
    rw [h1] at hB
    (repeat (first | ((with_reducible refine rgn_cons rfl (fun K hK => ?_)); simp only [go_sem, seval, ↓reduceIte, decide_true, decide_false, hd]; (first | refine hK _ _ _ (by simp only [go_sem, Nat.reduceEqDiff, ↓reduceIte]; rfl) ?_ | refine ⟨_, hB, hK _ _ _ (by simp only [go_sem, Nat.reduceEqDiff, ↓reduceIte]; rfl) ?_⟩ | refine ⟨_, c_impl_in _ _ _, hK _ _ _ (by simp only [go_sem, Nat.reduceEqDiff, ↓reduceIte]; rfl) ?_⟩); clear hK; clear K) | (with_reducible first | refine rgn_nil (by first | trivial | kernel_rfl) ?_ | refine AWP.seq ?_ | refine tX hC hP (by kernel_rfl) ?_ | refine aX hC hM hP (by kernel_rfl) ?_ | refine AWP.skip ?_ | refine AWP.label ?_ | refine AWP.exit ?_ | refine AWP.block ?_ | refine cTa ?_ | refine cFa ?_) | simp only [qS, Nat.reduceEqDiff, ↓reduceIte]))
    (refine AWP.ret ?_; refine retOk2 (by simp only [go_sem, seval, ↓reduceIte, decide_true, decide_false]; rfl) (by simp only [go_sem, seval, ↓reduceIte, decide_true, decide_false]; rfl) (by simp) ?_)
    simp [codeM, h1, hd]
  · have hb : (codeP p a b [l] != 0) = true := by simp [h1]
    (repeat (first | ((with_reducible refine rgn_cons rfl (fun K hK => ?_)); simp only [go_sem, seval, ↓reduceIte, decide_true, decide_false, hb]; (first | refine hK _ _ _ (by simp only [go_sem, Nat.reduceEqDiff, ↓reduceIte]; rfl) ?_ | refine ⟨_, hB, hK _ _ _ (by simp only [go_sem, Nat.reduceEqDiff, ↓reduceIte]; rfl) ?_⟩); clear hK; clear K) | (with_reducible first | refine rgn_nil (by first | trivial | kernel_rfl) ?_ | refine AWP.seq ?_ | refine tX hC hP (by kernel_rfl) ?_ | refine aX hC hM hP (by kernel_rfl) ?_ | refine AWP.skip ?_ | refine AWP.label ?_ | refine AWP.exit ?_ | refine AWP.block ?_ | refine cTa ?_ | refine cFa ?_) | simp only [qS, Nat.reduceEqDiff, ↓reduceIte]))
    (refine AWP.ret ?_; refine retOk2 (by simp only [go_sem, seval, ↓reduceIte, decide_true, decide_false]; rfl) (by simp only [go_sem, seval, ↓reduceIte, decide_true, decide_false]; rfl) (by simp) ?_)
    simp [codeM, h1]
end Go.Proofs.Ytoooefcjkmfhoaa
