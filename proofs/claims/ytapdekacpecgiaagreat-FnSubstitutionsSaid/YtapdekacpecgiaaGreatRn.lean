/-
  Copies, cut tables, equal lists, powers up to a bound.
-/
import Derived.Test.YtapdekacpecgiaaGreatKb
namespace Go.Proofs.YtapdekacpecgiaaGreat
open Go.RowKit
set_option linter.unusedSimpArgs false
set_option linter.unusedVariables false
set_option linter.unusedSectionVars false
set_option maxRecDepth 20000
-- Copies, cut tables, equal lists, powers up to a bound.
theorem intL_takeR (l : List Int) (k : Nat) : (intL l).take k = intL (l.take k) := by simp [intL]
theorem pt_row {m : Int} {n k i : Nat} {ll : List (List Int)} (hl : Pl m n ll) (hi : i + k ≤ n) : (ll.getD i []).take k = tab k (pc ll i) := by
  rcases Nat.eq_zero_or_pos k with e | e
  · subst e; rfl
  · have hr := hl.row i (by omega)
    exact eq_tab (by rw [List.length_take]; omega) (fun j hj => by
      simp only [List.getD_eq_getElem?_getD, List.getElem?_take_of_lt hj]; rfl)
set_option maxHeartbeats 1000000 in
theorem c_spec_l01Own_pt (l : List Int) (hl : l.length ≤ 1000000000) : AFn Tryz.prog 103 [.sl false 2 (intL l)] (.sl true 2 (intL l)) := by
  refine AFn.of' ttOk (by decide) Tryz.func103 Tryz.ntmps103 (by rw [Tryz.results103]) (by rfl) (by rfl) (by simp) (by decide) (by simp only [go_sem, Nat.reduceAdd, ↓reduceIte]; rfl) mixed (fun C hP hM hC => ?_)
  (repeat (first | ((with_reducible refine rgn_cons rfl (fun K hK => ?_)); simp only [go_sem, seval, ↓reduceIte, decide_true, decide_false, intL_plain, Nat.zero_add, List.length_nil, show l.length ≤ 1099511627776 by omega, show l.length * 8 ≤ 140737488355328 by omega]; (refine hK _ _ _ (by simp only [go_sem, Nat.reduceEqDiff, ↓reduceIte]; rfl) ?_); clear hK; clear K) | (with_reducible first | refine rgn_nil (by first | trivial | kernel_rfl) ?_ | refine AWP.seq ?_ | refine tX hC hP (by kernel_rfl) ?_ | refine aX hC hM hP (by kernel_rfl) ?_ | refine AWP.skip ?_ | refine AWP.label ?_ | refine AWP.exit ?_ | refine AWP.block ?_ | refine cTa ?_ | refine cFa ?_) | simp only [qS, Nat.reduceEqDiff, ↓reduceIte]))
  (refine AWP.ret ?_; refine retOk1 (by simp only [go_sem, seval, ↓reduceIte, decide_true, decide_false]; rfl) ?_)
  rfl
set_option maxHeartbeats 1000000 in
theorem c_impl_copyOf_int64_pt (l : List Int) (hl : l.length ≤ 1000000000) : AFn Tryz.prog 100 [.sl false 2 (intL l)] (.sl true 2 (intL l)) := by
  refine AFn.of' ttOk (by decide) Tryz.func100 Tryz.ntmps100 (by rw [Tryz.results100]) (by rfl) (by rfl) (by simp) (by decide) (by simp only [go_sem, Nat.reduceAdd, ↓reduceIte]; rfl) mixed (fun C hP hM hC => ?_)
  (repeat (first | ((with_reducible refine rgn_cons rfl (fun K hK => ?_)); simp only [go_sem, seval, ↓reduceIte, decide_true, decide_false, intL_plain, Nat.zero_add, List.length_nil, show l.length ≤ 1099511627776 by omega, show l.length * 8 ≤ 140737488355328 by omega]; (refine hK _ _ _ (by simp only [go_sem, Nat.reduceEqDiff, ↓reduceIte]; rfl) ?_); clear hK; clear K) | (with_reducible first | refine rgn_nil (by first | trivial | kernel_rfl) ?_ | refine AWP.seq ?_ | refine tX hC hP (by kernel_rfl) ?_ | refine aX hC hM hP (by kernel_rfl) ?_ | refine AWP.skip ?_ | refine AWP.label ?_ | refine AWP.exit ?_ | refine AWP.block ?_ | refine cTa ?_ | refine cFa ?_) | simp only [qS, Nat.reduceEqDiff, ↓reduceIte]))
  (refine AWP.ret ?_; refine retOk1 (by simp only [go_sem, seval, ↓reduceIte, decide_true, decide_false]; rfl) ?_)
  rfl
set_option maxHeartbeats 1000000 in
theorem c_spec_l03Cut (m : Int) (ll : List (List Int)) (n k : Nat) (hl : Pl m n ll) (hk : k + 1 ≤ n) (hn : n ≤ 1000) : AFn Tryz.prog 105 [.sl false 27 (rowsF ll), .int .i64 k] (.sl true 27 (rowsO (tab2 (k + 1) (pc ll)))) := by
  refine AFn.of' ttOk (by decide) Tryz.func105 Tryz.ntmps105 (by rw [Tryz.results105]) (by rfl) (by rfl) (by simp) (by decide) (by simp only [go_sem, Nat.reduceAdd, ↓reduceIte]; rfl) mixed (fun C hP hM hC => ?_)
  (repeat (first | ((with_reducible refine rgn_cons rfl (fun K hK => ?_)); simp only [go_sem, seval, ↓reduceIte, decide_true, decide_false]; (refine hK _ _ _ (by simp only [go_sem, Nat.reduceEqDiff, ↓reduceIte]; rfl) ?_); clear hK; clear K) | (with_reducible first | refine rgn_nil (by first | trivial | kernel_rfl) ?_ | refine AWP.seq ?_ | refine tX hC hP (by kernel_rfl) ?_ | refine aX hC hM hP (by kernel_rfl) ?_ | refine AWP.skip ?_ | refine AWP.label ?_ | refine AWP.exit ?_ | refine AWP.block ?_ | refine cTa ?_ | refine cFa ?_) | simp only [qS, Nat.reduceEqDiff, ↓reduceIte]))
  refine AWP.loop (fun w : Nat × Nat => [(6, ⟨0, .val (.int .i64 w.1)⟩), (5, ⟨w.2, .own (.sl true 27 (rowsO (tabR (k + 1) w.1 (pc ll))))⟩), (0, ⟨0, .val (.sl false 27 (rowsF ll))⟩), (1, ⟨0, .val (.int .i64 k)⟩)]) (fun w => w.1 ≤ k + 1) (fun w => k + 1 - w.1) (0, 1) (Nat.zero_le _) (fun i => rfl) ?_ (fun w hw => ?_)
  · simp [Sub, lk, tabR_zero, rowsO]
  · obtain ⟨i, v⟩ := w
    simp only at hw ⊢
    by_cases hi : i ≤ k
    · have u1 : IntKind.i64.wrap ((k : Int) - (i : Int)) = ((k - i : Nat) : Int) := by rw [wid _ (by omega) (by omega)]; omega
      have u2 : IntKind.i64.wrap (((k - i : Nat) : Int) + 1) = ((k + 1 - i : Nat) : Int) := by rw [wid _ (by omega) (by omega)]; omega
      have hs := tabR_succ (k + 1) i (pc ll)
      have hr := hl.row i (by omega)
      have ht := pt_row hl (show i + (k + 1 - i) ≤ n by omega)
      have hO := c_spec_l01Own_pt (tab (k + 1 - i) (pc ll i)) (by rw [tab_length]; omega)
      (repeat (first | ((with_reducible refine rgn_cons rfl (fun K hK => ?_)); simp only [go_sem, seval, ↓reduceIte, decide_true, decide_false, show (i : Int) ≤ (k : Int) by omega, decide_true, rowsF_length, hl.len, show (i : Int) < (n : Int) by omega, rowsF_getD ll i (by rw [hl.len]; omega), Int.toNat_natCast, Int.natCast_nonneg, Int.le_refl, Int.toNat_zero, List.drop_zero, u1, u2, hr, show ((k + 1 - i : Nat) : Int) ≤ ((n - i : Nat) : Int) by omega, intL_takeR, ht, tabR_length, rowsO_snocT, hs, show i + 1 ≤ 1099511627776 by omega, show (i + 1) * 24 ≤ 140737488355328 by omega, wid ((i : Int) + 1) (by omega) (by omega)]; (first | refine hK _ _ _ (by simp only [go_sem, Nat.reduceEqDiff, ↓reduceIte]; rfl) ?_ | refine ⟨_, hO, hK _ _ _ (by simp only [go_sem, Nat.reduceEqDiff, ↓reduceIte]; rfl) ?_⟩); clear hK; clear K) | (with_reducible first | refine rgn_nil (by first | trivial | kernel_rfl) ?_ | refine AWP.seq ?_ | refine tX hC hP (by kernel_rfl) ?_ | refine aX hC hM hP (by kernel_rfl) ?_ | refine AWP.skip ?_ | refine AWP.label ?_ | refine AWP.exit ?_ | refine AWP.block ?_ | refine cTa ?_ | refine cFa ?_) | simp only [qS, Nat.reduceEqDiff, ↓reduceIte]))
      exact ⟨(i + 1, v + 1), by simp only; omega, by simp only; omega, by simp [Sub, lk]⟩
    · (repeat (first | ((with_reducible refine rgn_cons rfl (fun K hK => ?_)); simp only [go_sem, seval, ↓reduceIte, decide_true, decide_false, show ¬ (i : Int) ≤ (k : Int) by omega, decide_false]; (refine hK _ _ _ (by simp only [go_sem, Nat.reduceEqDiff, ↓reduceIte]; rfl) ?_); clear hK; clear K) | (with_reducible first | refine rgn_nil (by first | trivial | kernel_rfl) ?_ | refine AWP.seq ?_ | refine tX hC hP (by kernel_rfl) ?_ | refine aX hC hM hP (by kernel_rfl) ?_ | refine AWP.skip ?_ | refine AWP.label ?_ | refine AWP.exit ?_ | refine AWP.block ?_ | refine cTa ?_ | refine cFa ?_) | simp only [qS, Nat.reduceEqDiff, ↓reduceIte]))
      (refine AWP.ret ?_; refine retOk1 (by simp only [go_sem, seval, ↓reduceIte, decide_true, decide_false]; rfl) ?_)
      rw [show i = k + 1 by omega]; rfl
end Go.Proofs.YtapdekacpecgiaaGreat
